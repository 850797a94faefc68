/-
  Lemmas of the law, part 27: the walks of the functions that it calls and the plain facts about them. No condition beyond those written.
-/
import Derived.Test.YtoifhhljfaoejaaGreatDoorPkAA
import Derived.Test.YtoifhhljfaoejaaGreatDoorPkAZ
import Derived.Test.YtoifhhljfaoejaaGreatDoorRows
import Derived.LaidMore
import Derived.Lib.LaidTab
import Derived.Stop.Joined
import Derived.SevenTiedAt
import Derived.ChangeOld
import Derived.Lay
import Derived.Test.YtoifhhljfaoejaaGreatDoorPkAK
import Derived.Test.YtoifhhljfaoejaaGreatDoorPkAH
set_option maxRecDepth 100000
set_option maxHeartbeats 8000000
set_option linter.unusedVariables false
set_option linter.unusedSimpArgs false
set_option linter.unusedSectionVars false
namespace Go.Proofs.YtoifhhljfaoejaaGreatDoor
open Go.Proofs.Tryz
section
open Go Go.RowKit Go.Shelf
instance Ss(ver blk:Int)(root:Nat→BitVec 8)(p:Option Addr)(n c:Nat)(id:Int)(key cs sg:Nat→BitVec 8)(id':Int)(key' cs':Nat→BitVec 8):Splice (mfR ver blk root p n c id key cs sg) 35 (ctR id' key' cs') (mfR ver blk root p n c id' key' cs' sg):=by
 have h:=cG (#[.int .i64 ver,.int .i64 blk]++aa 32 root ++ #[.slice p n c]) (ctR id key cs) (ctR id' key' cs') (aa 64 sg) 35 (by simp[aj]) (by simp[ctR,aj]);have e:∀(id:Int) (key cs:Nat→BitVec 8),(#[.int .i64 ver,.int .i64 blk]++aa 32 root ++ #[.slice p n c])++ctR id key cs++aa 64 sg=mfR ver blk root p n c id key cs sg:=fun id key cs=>by
  unfold mfR ctR;rw[show #[Value.slice p n c,Value.int .i64 id]= #[Value.slice p n c] ++ #[Value.int .i64 id]from rfl];simp only[Array.append_assoc]
 rw[e,e]at h;exact h
noncomputable def mB(seed other:Int):Man:=BA (kOf seed cX) (kOf other bS) (kOf seed bN) (kOf seed dh) 1 1 1 (sha (0::wd seed))
noncomputable def mM(seed other:Int):Man:=⟨(mB seed other).ver,(mB seed other).blk,(mB seed other).root,(mB seed other).wr,(mA seed seed).id,(mA seed seed).key,(mA seed seed).cs,(mB seed other).sg⟩
theorem qg(seed other:Int):(mB seed other).Ok:=tE _ _ _ _ _ (by decide) (by decide) (by decide) (by decide) (by decide) (by decide)
theorem rL(seed other:Int):(mM seed other).Ok:=⟨(qg seed other).v0,(qg seed other).v1,(qg seed other).b0,(qg seed other).b1,(qg seed other).w,(rK seed seed).i0,(rK seed seed).i1⟩
theorem zV(seed other:Int):Fits (kOf seed bN) (mB seed other).wr (cz (kOf seed dh) 1):=rJ _ _ _
theorem zW(seed other:Int)(w:World)(hG:Glob w)(hI:GlobI w):Calls prog 11 #[.agg (bA (kOf seed cX) (kOf other bS) (kOf seed bN) (kOf seed dh)),.int .i64 1,.int .i64 1,.slice none 0 0] w fun e w'=>zS (mB seed other) (wd seed) w e w' :=
 iV _ _ _ _ 1 1 (by decide) (by decide) (by decide) (by decide) none 0 0 (By []) (np _) w fun w1 _=>zR w1
theorem zX(m:Man)(hm:m.Ok)(p:Option Addr)(c:Nat)(w:World)(hv:BRow w (.slice p 80 c) m.wr) :
 Calls prog 27 #[.agg (mfR m.ver m.blk m.root p 80 c m.id m.key m.cs m.sg)] w fun e w'=>∃g cap cur,e= .returned (.tuple #[.slice (some ⟨g,0,none⟩) 300 cap,.int .i64 0])∧OwnR cur 300 cap (an m.bytes)∧Loc w w' [(g,cur,5)]:=ne m hm p c w hv
theorem tH(seed other which:Int)(hs: -9223372036854775808≤seed∧seed≤9223372036854775807)(ho: -9223372036854775808≤other∧other≤9223372036854775807)(hne:¬seed=other)(hbit:bits .and .i64 which 1=1)(hgd:(mM seed other).good (kg seed)=true)(w:World)(hG:Glob w)(hI:GlobI w) :
 Rt 7 #[.int .i64 seed,.int .i64 other,.int .i64 which] w (.bool true):=by
 have hL:=Loc.nil w;have HS:=Hd (fun w1 (h:KAt w1)=>ec seed hs w1 h);have HT:=Hd (fun w1 (h:KAt w1)=>ec other ho w1 h);have HMK:=Hd (fun w1 (hb1:Below w.heap.size w w1)=>zW seed other w1 (hG.below hb1) (hI.below hb1));have HMY:=Hd (fun w1 (hb1:Below w.heap.size w w1)=>nU seed seed w1 (hG.below hb1) (hI.below hb1));have hok:=rL seed other;have HRD:=Hd (fun A c w1 hv hc=>j7 (mB seed other) (qg seed other) A c w1 hv hc);have HRY:=Hd (fun A c w1 hv hc=>j7 (mA seed seed) (rK seed seed) A c w1 hv hc);have HPK:=Hd (fun p c w1 hv=>zX (mM seed other) (rL seed other) p c w1 hv);have HFT:=Hd (zV seed other);have HRK:=Hd (fun w1 (h:Glob w1)=>(show Rt 10 #[.agg (bA (kOf seed cX) (kOf seed bS) (kOf seed bN) (kOf seed dh))] w1 (.agg (aa 32 (kg seed)))from gC _ _ _ _ w1 h));have hck:=(fun p c w1 (hb1:Below w.heap.size w w1) hv=>mn (mM seed other) (rL seed other) (kg seed) p c w1 (hG.below hb1) (hI.below hb1) hv);rw[hgd]at hck;have HCK:=Hd hck;have HMN:=Hd (show mM seed other=⟨(mB seed other).ver,(mB seed other).blk,(mB seed other).root,(mB seed other).wr,(mA seed seed).id,(mA seed seed).key,(mA seed seed).cs,(mB seed other).sg⟩from rfl);rw[HMN.out]at HPK HCK hgd hok;clear hck HMN;generalize cz (kOf seed dh) 1=KK,wd seed=BL,mB seed other=ma,mA seed seed=my,kg seed=rk,kOf seed cX=k0,kOf seed bS=k1,kOf seed bN=k2 at *
 generalize kOf seed dh=k3,kOf other cX=t0,kOf other bS=t1,kOf other bN=t2,kOf other dh=t3 at *
 obtain⟨v1,b1',r1,wr1,i1,y1,c1,s1⟩:=ma;obtain⟨v2,b2',r2,wr2,i2,y2,c2,s2⟩:=my;dsimp only at *
 have HG:=Hd hG;have HGD:=Hd hgd;have HOK:=Hd hok;obtain⟨MB,hMB⟩:∃MB,MB=Man.bytes ⟨v1,b1',r1,wr1,i2,y2,c2,s1⟩:=⟨_,rfl⟩;rw[← hMB]at HPK;have HMB:=Hd hMB;clear hMB;clear hG hI hs ho hgd hok;go_enter func7,ntmps7;go_wp2_with (first|refine aU ?_|(refine gBp 8 ?_;clear hL;intro b8 w1 hL)|(refine gBp 9 ?_;clear hL;intro b9 w1 hL)|(refine gBp 10 ?_;clear hL;intro b10 w1 hL)|(refine gBp 14 ?_;clear hL;intro b14 w1 hL)|(refine gBp 19 ?_;clear hL;intro b19 w1 hL)|(refine gBp 21 ?_;clear hL;intro b21 w1 hL)|(refine gN 28 ?_;refine lV (ig _) hL ?_;clear hL;intro w1 hL)|(refine gN 38 ?_;refine lV (HS.out _ (hL.glob HG.out).kat) hL ?_;clear hL;intro w1 hL)|(refine gN 40 ?_;refine lV (HT.out _ (hL.glob HG.out).kat) hL ?_;clear hL;intro w1 hL)|(refine gN 53 ?_;refine lKk (HMK.out _ hL.bel) ?_;rintro e w1⟨g53,cap53,cur53,go,co,uo,gb,cb,ub,rfl,hr53,ho1,hb1,hN⟩;have hL1:=hL.join hN;clear hN hL;revert hL1;refine aH ?_;intro hL)|(refine gN 59 ?_;refine lKk (HRD.out _ _ _ (See.bytes hL) hr53.le) ?_;rintro e w1⟨g59,cap59,cur59,rfl,hr59,hN⟩;have hL1:=hL.join hN;clear hN hL;revert hL1;refine aH ?_;intro hL)|(refine gN 67 ?_;refine lKk (HMY.out _ hL.bel) ?_;rintro e w1⟨g67,cap67,cur67,go2,co2,uo2,gb2,cb2,ub2,rfl,hr67,ho2,hb2,hN⟩;have hL1:=hL.join hN;clear hN hL;revert hL1;refine aH ?_;intro hL)|(refine gN 73 ?_;refine lKk (HRY.out _ _ _ (See.bytes hL) hr67.le) ?_;rintro e w1⟨g73,cap73,cur73,rfl,hr73,hN⟩;have hL1:=hL.join hN;clear hN hL;revert hL1;refine aH ?_;intro hL)|(refine gN 81 ?_;refine lKk (HPK.out _ _ _ (See.bytes hL)) ?_;rintro e w1⟨g81,cap81,cur81,rfl,hr81,hN⟩;have hL1:=hL.join hN;clear hN hL;revert hL1;refine aH ?_;intro hL)|(go_at_call 10;go_loud (refine(HRK.out _ (hL.glob HG.out)).mono ?_);rintro e w1⟨rfl,hb1⟩;have hL1:=hL.keep hb1;clear hb1;clear hL;have hL:=hL1;clear hL1;refine p4 ?_)|(refine gN 86 ?_;refine lKk (es _) ?_;rintro e w1⟨bf,bb,cur0,rfl,hFil,hN⟩;have hL1:=hL.join hN;clear hN hL;revert hL1;refine aH ?_;intro hL)|(refine gN 91 ?_;refine lKk (fY bf rk k2 9 (by decide) _) ?_;rintro e w1⟨bo,rfl,hN⟩;have hL1:=hL.join hN;clear hN hL;revert hL1;refine aH ?_;intro hL)|(refine gN 95 ?_;refine lKk (lF (F:=foF [(b21,aa 32 rk,24),(g81,cur81,5),(b19,mfR v2 b2' r2 (some ⟨g73,0,none⟩) 80 cap73 i2 y2 c2 s2,79),(g73,cur73,5),(g67,cur67,5),(go2,uo2,29),(gb2,ub2,5),(b14,mfR v1 b1' r1 (some ⟨g59,0,none⟩) 80 cap59 i2 y2 c2 s1,79),(g59,cur59,5),(g53,cur53,5),(go,uo,29),(gb,ub,5),(b10,bA k0 t1 k2 k3,26),(b9,bA t0 t1 t2 t3,26),(b8,bA k0 k1 k2 k3,26)] bf bb bo) (bf:=bf) (bb:=bb) (bo:=bo) inferInstance (by decide) (by decide) (by decide) (by decide) hFil.fl hL) ?_;rintro e w1⟨bk,kp,a0,a1,cc,dd,d0,rfl,hFr,hL1⟩;have HFR:=Hd hFr;clear hFr;clear hL;revert hL1;refine aE ?_;intro hL)|(refine gN 99 ?_;refine lV (cg _ _) hL ?_;clear hL;intro w1 hL)|(refine gN 104 ?_;refine lU hL rfl rfl (ie 1 (some ⟨g81,0,none⟩) 300 cap81) rfl ?_;clear hL;intro w1 hL;refine p4 ?_)|(refine gN 105 ?_;refine lKk (mi (p:=some ⟨g81,0,none⟩) (c:=cap81) (F:=nw (foF [(b21,aa 32 rk,24),(g81,cur81,5),(b19,mfR v2 b2' r2 (some ⟨g73,0,none⟩) 80 cap73 i2 y2 c2 s2,79),(g73,cur73,5),(g67,cur67,5),(go2,uo2,29),(gb2,ub2,5),(b14,mfR v1 b1' r1 (some ⟨g59,0,none⟩) 80 cap59 i2 y2 c2 s1,79),(g59,cur59,5),(g53,cur53,5),(go,uo,29),(gb,ub,5),(b10,bA k0 t1 k2 k3,26),(b9,bA t0 t1 t2 t3,26),(b8,bA k0 k1 k2 k3,26)] bf bb bo) bf bo bk kp a0 a1 cc dd) (bf:=bf) (bb:=bb) (bo:=bo) (bk:=bk) (kp:=kp) (a0:=a0) (a1:=a1) (cc:=cc) (tq _ bf bb bo bk kp a0 a1 cc dd) (fun x y z u c=>inferInstance) d0 HFR.out.ok (by rw[HFR.out.n,HFR.out.m];decide) (fun x y z u c=>by rw[HFR.out.s,HFR.out.q];exact lD _ _) ⟨v1,b1',r1,wr1,i2,y2,c2,s1⟩ HOK.out (by rw[HFR.out.s];rfl) (by rw[HFR.out.s];exact HOK.out.v0) (by rw[HFR.out.s];rfl) HFR.out.bt HGD.out _ HFT.out (fun x y z u c=>by rw[← HMB.out];infer_instance) hL) ?_;rintro e w1⟨rfl,d2,Sr,S0,S1,hNx,hs2,hQ2,hL1⟩;clear hL;revert hL1;refine aE ?_;intro hL)|(refine ah ?_;clear hL;intro w1 hL));refine mX (S:=fun w'=>Loc _ w' _) 17 (hL.drew) ?_;intro hHeld;replace hL:=hL.drew;refine uG 0 ?_;refine uZ 2 ?_;refine uZ 3 ?_;refine rd1 1 ?_;intro K hK;refine eVv (cg _ _) hL ?_;clear hL;intro w1 hL;refine kO hK (hL) ?_;clear hK K hHeld;intro hHeld;refine rd1 4 ?_;intro K hK;refine eVv (HCK.out _ _ _ hL.bel (See.bytes hL)) hL ?_;clear hL;intro w1 hL;refine kO hK (hL) ?_;clear hK K hHeld;intro hHeld;refine uG 5 ?_;refine uG 6 ?_;refine uS 7 ?_;refine rd1 8 ?_;intro K hK;refine eVv (cg _ _) hL ?_;clear hL;intro w1 hL;refine kO hK (hL) ?_;clear hK K hHeld;intro hHeld;refine uS 9 ?_;refine uS 10 ?_;refine uS 11 ?_;refine uS 12 ?_;refine uS 13 ?_;refine uS 14 ?_;refine uG 15 ?_;refine uG 16 ?_;refine wD ?_;clear hHeld;go_wp2_with (first|refine aU ?_|(refine ah ?_;clear hL;intro w1 hL))
 all_goals(go_ret;exact⟨rfl,hL.bel⟩)
theorem wg(seed other which:Int)(hs: -9223372036854775808≤seed∧seed≤9223372036854775807)(ho: -9223372036854775808≤other∧other≤9223372036854775807)(hne:¬seed=other)(hbit:bits .and .i64 which 1=1)(hgd:(mM seed other).good (kg seed)=false)(w:World)(hG:Glob w)(hI:GlobI w) :
 Rt 7 #[.int .i64 seed,.int .i64 other,.int .i64 which] w (.bool true):=by
 have hL:=Loc.nil w;have HS:=Hd (fun w1 (h:KAt w1)=>ec seed hs w1 h);have HT:=Hd (fun w1 (h:KAt w1)=>ec other ho w1 h);have HMK:=Hd (fun w1 (hb1:Below w.heap.size w w1)=>zW seed other w1 (hG.below hb1) (hI.below hb1));have HMY:=Hd (fun w1 (hb1:Below w.heap.size w w1)=>nU seed seed w1 (hG.below hb1) (hI.below hb1));have hok:=rL seed other;have HRD:=Hd (fun A c w1 hv hc=>j7 (mB seed other) (qg seed other) A c w1 hv hc);have HRY:=Hd (fun A c w1 hv hc=>j7 (mA seed seed) (rK seed seed) A c w1 hv hc);have HPK:=Hd (fun p c w1 hv=>zX (mM seed other) (rL seed other) p c w1 hv);have HFT:=Hd (zV seed other);have HRK:=Hd (fun w1 (h:Glob w1)=>(show Rt 10 #[.agg (bA (kOf seed cX) (kOf seed bS) (kOf seed bN) (kOf seed dh))] w1 (.agg (aa 32 (kg seed)))from gC _ _ _ _ w1 h));have hck:=(fun p c w1 (hb1:Below w.heap.size w w1) hv=>mn (mM seed other) (rL seed other) (kg seed) p c w1 (hG.below hb1) (hI.below hb1) hv);rw[hgd]at hck;have HCK:=Hd hck;have HMN:=Hd (show mM seed other=⟨(mB seed other).ver,(mB seed other).blk,(mB seed other).root,(mB seed other).wr,(mA seed seed).id,(mA seed seed).key,(mA seed seed).cs,(mB seed other).sg⟩from rfl);rw[HMN.out]at HPK HCK hgd hok;clear hck HMN;generalize cz (kOf seed dh) 1=KK,wd seed=BL,mB seed other=ma,mA seed seed=my,kg seed=rk,kOf seed cX=k0,kOf seed bS=k1,kOf seed bN=k2 at *
 generalize kOf seed dh=k3,kOf other cX=t0,kOf other bS=t1,kOf other bN=t2,kOf other dh=t3 at *
 obtain⟨v1,b1',r1,wr1,i1,y1,c1,s1⟩:=ma;obtain⟨v2,b2',r2,wr2,i2,y2,c2,s2⟩:=my;dsimp only at *
 have HG:=Hd hG;have HGD:=Hd hgd;have HOK:=Hd hok;obtain⟨MB,hMB⟩:∃MB,MB=Man.bytes ⟨v1,b1',r1,wr1,i2,y2,c2,s1⟩:=⟨_,rfl⟩;rw[← hMB]at HPK;have HMB:=Hd hMB;clear hMB;clear hG hI hs ho hgd hok;go_enter func7,ntmps7;go_wp2_with (first|refine aU ?_|(refine gBp 8 ?_;clear hL;intro b8 w1 hL)|(refine gBp 9 ?_;clear hL;intro b9 w1 hL)|(refine gBp 10 ?_;clear hL;intro b10 w1 hL)|(refine gBp 14 ?_;clear hL;intro b14 w1 hL)|(refine gBp 19 ?_;clear hL;intro b19 w1 hL)|(refine gBp 21 ?_;clear hL;intro b21 w1 hL)|(refine gN 28 ?_;refine lV (ig _) hL ?_;clear hL;intro w1 hL)|(refine gN 38 ?_;refine lV (HS.out _ (hL.glob HG.out).kat) hL ?_;clear hL;intro w1 hL)|(refine gN 40 ?_;refine lV (HT.out _ (hL.glob HG.out).kat) hL ?_;clear hL;intro w1 hL)|(refine gN 53 ?_;refine lKk (HMK.out _ hL.bel) ?_;rintro e w1⟨g53,cap53,cur53,go,co,uo,gb,cb,ub,rfl,hr53,ho1,hb1,hN⟩;have hL1:=hL.join hN;clear hN hL;revert hL1;refine aH ?_;intro hL)|(refine gN 59 ?_;refine lKk (HRD.out _ _ _ (See.bytes hL) hr53.le) ?_;rintro e w1⟨g59,cap59,cur59,rfl,hr59,hN⟩;have hL1:=hL.join hN;clear hN hL;revert hL1;refine aH ?_;intro hL)|(refine gN 67 ?_;refine lKk (HMY.out _ hL.bel) ?_;rintro e w1⟨g67,cap67,cur67,go2,co2,uo2,gb2,cb2,ub2,rfl,hr67,ho2,hb2,hN⟩;have hL1:=hL.join hN;clear hN hL;revert hL1;refine aH ?_;intro hL)|(refine gN 73 ?_;refine lKk (HRY.out _ _ _ (See.bytes hL) hr67.le) ?_;rintro e w1⟨g73,cap73,cur73,rfl,hr73,hN⟩;have hL1:=hL.join hN;clear hN hL;revert hL1;refine aH ?_;intro hL)|(refine gN 81 ?_;refine lKk (HPK.out _ _ _ (See.bytes hL)) ?_;rintro e w1⟨g81,cap81,cur81,rfl,hr81,hN⟩;have hL1:=hL.join hN;clear hN hL;revert hL1;refine aH ?_;intro hL)|(go_at_call 10;go_loud (refine(HRK.out _ (hL.glob HG.out)).mono ?_);rintro e w1⟨rfl,hb1⟩;have hL1:=hL.keep hb1;clear hb1;clear hL;have hL:=hL1;clear hL1;refine p4 ?_)|(refine gN 86 ?_;refine lKk (es _) ?_;rintro e w1⟨bf,bb,cur0,rfl,hFil,hN⟩;have hL1:=hL.join hN;clear hN hL;revert hL1;refine aH ?_;intro hL)|(refine gN 91 ?_;refine lKk (fY bf rk k2 9 (by decide) _) ?_;rintro e w1⟨bo,rfl,hN⟩;have hL1:=hL.join hN;clear hN hL;revert hL1;refine aH ?_;intro hL)|(refine gN 95 ?_;refine lKk (lF (F:=foF [(b21,aa 32 rk,24),(g81,cur81,5),(b19,mfR v2 b2' r2 (some ⟨g73,0,none⟩) 80 cap73 i2 y2 c2 s2,79),(g73,cur73,5),(g67,cur67,5),(go2,uo2,29),(gb2,ub2,5),(b14,mfR v1 b1' r1 (some ⟨g59,0,none⟩) 80 cap59 i2 y2 c2 s1,79),(g59,cur59,5),(g53,cur53,5),(go,uo,29),(gb,ub,5),(b10,bA k0 t1 k2 k3,26),(b9,bA t0 t1 t2 t3,26),(b8,bA k0 k1 k2 k3,26)] bf bb bo) (bf:=bf) (bb:=bb) (bo:=bo) inferInstance (by decide) (by decide) (by decide) (by decide) hFil.fl hL) ?_;rintro e w1⟨bk,kp,a0,a1,cc,dd,d0,rfl,hFr,hL1⟩;have HFR:=Hd hFr;clear hFr;clear hL;revert hL1;refine aE ?_;intro hL)|(refine gN 99 ?_;refine lV (cg _ _) hL ?_;clear hL;intro w1 hL)|(refine gN 104 ?_;refine lU hL rfl rfl (ie 1 (some ⟨g81,0,none⟩) 300 cap81) rfl ?_;clear hL;intro w1 hL;refine p4 ?_)|(refine gN 105 ?_;refine lO (nr (p:=some ⟨g81,0,none⟩) (c:=cap81) (F:=nw (foF [(b21,aa 32 rk,24),(g81,cur81,5),(b19,mfR v2 b2' r2 (some ⟨g73,0,none⟩) 80 cap73 i2 y2 c2 s2,79),(g73,cur73,5),(g67,cur67,5),(go2,uo2,29),(gb2,ub2,5),(b14,mfR v1 b1' r1 (some ⟨g59,0,none⟩) 80 cap59 i2 y2 c2 s1,79),(g59,cur59,5),(g53,cur53,5),(go,uo,29),(gb,ub,5),(b10,bA k0 t1 k2 k3,26),(b9,bA t0 t1 t2 t3,26),(b8,bA k0 k1 k2 k3,26)] bf bb bo) bf bo bk kp a0 a1 cc dd) (bf:=bf) (bb:=bb) (bo:=bo) (bk:=bk) (kp:=kp) (a0:=a0) (a1:=a1) (cc:=cc) (tq _ bf bb bo bk kp a0 a1 cc dd) (fun x y z u c=>inferInstance) d0 ⟨v1,b1',r1,wr1,i2,y2,c2,s1⟩ HOK.out HGD.out (fun x y z u c=>by rw[← HMB.out];infer_instance) hL) ?_;clear hL;intro w1 hL)|(refine ah ?_;clear hL;intro w1 hL));refine mX (S:=fun w'=>Loc _ w' _) 17 (hL.drew) ?_;intro hHeld;replace hL:=hL.drew;refine uG 0 ?_;refine uZ 2 ?_;refine uZ 3 ?_;refine rd1 1 ?_;intro K hK;refine eVv (cg _ _) hL ?_;clear hL;intro w1 hL;refine kO hK (hL) ?_;clear hK K hHeld;intro hHeld;refine rd1 4 ?_;intro K hK;refine eVv (HCK.out _ _ _ hL.bel (See.bytes hL)) hL ?_;clear hL;intro w1 hL;refine kO hK (hL) ?_;clear hK K hHeld;intro hHeld;refine uG 5 ?_;refine uG 6 ?_;refine uS 7 ?_;refine rd1 8 ?_;intro K hK;refine eVv (cg _ _) hL ?_;clear hL;intro w1 hL;refine kO hK (hL) ?_;clear hK K hHeld;intro hHeld;refine uS 9 ?_;refine uS 10 ?_;refine uS 11 ?_;refine rd1 12 ?_;intro K hK;refine eVv (cg _ _) hL ?_;clear hL;intro w1 hL;refine kO hK (hL) ?_;clear hK K hHeld;intro hHeld;refine uS 13 ?_;refine uS 14 ?_;refine uG 15 ?_;refine uG 16 ?_;refine wD ?_;clear hHeld;go_wp2_with (first|refine aU ?_|(refine ah ?_;clear hL;intro w1 hL))
 all_goals(go_ret;exact⟨rfl,hL.bel⟩)
theorem wh(seed which:Int)(w:World):Rt 7 #[.int .i64 seed,.int .i64 seed,.int .i64 which] w (.bool true):=by
 have hL:=Loc.nil w;go_enter func7,ntmps7;go_wp2_with (first|refine aU ?_|(refine gN 28 ?_;refine lV (ig _) hL ?_;clear hL;intro w1 hL)|(refine ah ?_;clear hL;intro w1 hL))
 all_goals(go_ret;exact⟨rfl,hL.bel⟩)
theorem qh{w:World}(seed:Int)(hs: -9223372036854775808≤seed∧seed≤9223372036854775807)(other:Int)(ho: -9223372036854775808≤other∧other≤9223372036854775807)(which:Int)(hw: -9223372036854775808≤which∧which≤9223372036854775807)(hk:Glob w∧GlobI w):Rt 7 #[.int .i64 seed,.int .i64 other,.int .i64 which] w (.bool true):=by
 by_cases hne:seed=other
 ·subst hne
  exact wh seed which w
 ·have hb:=R3.and_one which
  rcases(by omega:which%2=0∨which%2=1)with h|h
  ·rw[h]at hb
   cases hgd:(mA seed other).good (kg seed)
   ·exact we seed other which hs ho hne hb hgd w hk.1 hk.2
   ·exact tG seed other which hs ho hne hb hgd w hk.1 hk.2
  ·rw[h]at hb
   cases hgd:(mM seed other).good (kg seed)
   ·exact wg seed other which hs ho hne hb hgd w hk.1 hk.2
   ·exact tH seed other which hs ho hne hb hgd w hk.1 hk.2
end
section
open Go.ChangeShapes Go.WideShapes Go.ChangeAt Go.RowKit
theorem own:ownKnob prog.godebug=none:=by kernel_rfl
theorem tI:laidOutB prog=true:=by kernel_rfl
theorem gN0:prog.globalNamed "portcullis/portcullisref1.k256" = some 0:=by kernel_rfl
theorem gT0:(prog.globals[0]?).map (·.type)=some 139:=by kernel_rfl
theorem gN1:prog.globalNamed "portcullis/portcullisref3.baseX" = some 1:=by kernel_rfl
theorem gT1:(prog.globals[1]?).map (·.type)=some 147:=by kernel_rfl
theorem gN2:prog.globalNamed "portcullis/portcullisref3.baseY" = some 2:=by kernel_rfl
theorem gT2:(prog.globals[2]?).map (·.type)=some 147:=by kernel_rfl
theorem gN4:prog.globalNamed "portcullis/portcullisref3.d" = some 4:=by kernel_rfl
theorem gT4:(prog.globals[4]?).map (·.type)=some 147:=by kernel_rfl
theorem gN5:prog.globalNamed "portcullis/portcullisref3.order" = some 5:=by kernel_rfl
theorem gT5:(prog.globals[5]?).map (·.type)=some 259:=by kernel_rfl
theorem gN6:prog.globalNamed "portcullis/portcullisref1.k512" = some 6:=by kernel_rfl
theorem gT6:(prog.globals[6]?).map (·.type)=some 262:=by kernel_rfl
theorem gN7:prog.globalNamed "portcullis/portcullisref3.rootOfMinusOne" = some 7:=by kernel_rfl
theorem gT7:(prog.globals[7]?).map (·.type)=some 147:=by kernel_rfl
theorem fK{P:Program}{x:String×DataW Unit}{l:List (String×DataW Unit)}{W:World}(h:laidMet P (x::l) W):laidMet P l W:=by
 obtain⟨ps,⟨g,t,cs,fuel,p,q,h1,h2,h3,h4,h5,rfl⟩,hnd,hall⟩:=h;exact⟨q,h5,(List.nodup_append.1 hnd).2.1,fun b off hm=>hall b off (List.mem_append_right _ hm)⟩
theorem d0:(Rows.laid_portcullis_portcullisref1_k256:DataW Unit)=Lib.tabData .u32 ((List.range 64).map fun i=>U (cV i)):=by kernel_rfl
theorem d1:(Rows.laid_portcullis_portcullisref3_baseX:DataW Unit)=Lib.tabData .i64 ((List.range 16).map fun i=>((R3.dg pB.x.val i:Nat):Int)):=by kernel_rfl
theorem d2:(Rows.laid_portcullis_portcullisref3_baseY:DataW Unit)=Lib.tabData .i64 ((List.range 16).map fun i=>((R3.dg pB.y.val i:Nat):Int)):=by kernel_rfl
theorem d4:(Rows.laid_portcullis_portcullisref3_d:DataW Unit)=Lib.tabData .i64 ((List.range 16).map fun i=>((R3.dg dF.val i:Nat):Int)):=by kernel_rfl
theorem d5:(Rows.laid_portcullis_portcullisref3_order:DataW Unit)=Lib.tabData .i64 ((List.range 32).map fun i=>(((ab Qo i).toNat:Nat):Int)):=by kernel_rfl
theorem d6:(Rows.laid_portcullis_portcullisref1_k512:DataW Unit)=Lib.tabData .u64 ((List.range 80).map fun i=>Q (Shb.K512 i)):=by kernel_rfl
theorem d7:(Rows.laid_portcullis_portcullisref3_rootOfMinusOne:DataW Unit)=Lib.tabData .i64 ((List.range 16).map fun i=>((R3.dg iF.val i:Nat):Int)):=by kernel_rfl
theorem gi{W:World}{name:String}{k:IntKind}{n g:Nat}{f:Nat→Int}(h:Lib.TabIs prog W name k ((List.range n).map f))(hg:prog.globalNamed name=some g):∀i,i<n→W.cell? ⟨g,i,none⟩=some (.int k (f i)):=fun i hi=>by
 rw[h.cell hg i (by simpa using hi),List.getD_eq_getElem?_getD];simp[hi]
theorem hd0{W:World}{name:String}{f:Nat→Int}{l:List (String×DataW Unit)}(hn:prog.globalNamed name=some 0)(h:laidMet prog ((name,Lib.tabData .u32 ((List.range 64).map f))::l) W):∀i,i<64→W.cell? ⟨0,i,none⟩=some (.int .u32 (f i)) :=
 gi (Lib.tabIs_of_head hn gT0 underlying139 underlying136 (by kernel_rfl) (by kernel_rfl) h) hn
theorem hd1{W:World}{name:String}{f:Nat→Int}{l:List (String×DataW Unit)}(hn:prog.globalNamed name=some 1)(h:laidMet prog ((name,Lib.tabData .i64 ((List.range 16).map f))::l) W):∀i,i<16→W.cell? ⟨1,i,none⟩=some (.int .i64 (f i)) :=
 gi (Lib.tabIs_of_head hn gT1 underlying147 underlying3 (by kernel_rfl) (by kernel_rfl) h) hn
theorem hd2{W:World}{name:String}{f:Nat→Int}{l:List (String×DataW Unit)}(hn:prog.globalNamed name=some 2)(h:laidMet prog ((name,Lib.tabData .i64 ((List.range 16).map f))::l) W):∀i,i<16→W.cell? ⟨2,i,none⟩=some (.int .i64 (f i)) :=
 gi (Lib.tabIs_of_head hn gT2 underlying147 underlying3 (by kernel_rfl) (by kernel_rfl) h) hn
theorem hd4{W:World}{name:String}{f:Nat→Int}{l:List (String×DataW Unit)}(hn:prog.globalNamed name=some 4)(h:laidMet prog ((name,Lib.tabData .i64 ((List.range 16).map f))::l) W):∀i,i<16→W.cell? ⟨4,i,none⟩=some (.int .i64 (f i)) :=
 gi (Lib.tabIs_of_head hn gT4 underlying147 underlying3 (by kernel_rfl) (by kernel_rfl) h) hn
theorem hd5{W:World}{name:String}{f:Nat→Int}{l:List (String×DataW Unit)}(hn:prog.globalNamed name=some 5)(h:laidMet prog ((name,Lib.tabData .i64 ((List.range 32).map f))::l) W):∀i,i<32→W.cell? ⟨5,i,none⟩=some (.int .i64 (f i)) :=
 gi (Lib.tabIs_of_head hn gT5 underlying259 underlying3 (by kernel_rfl) (by kernel_rfl) h) hn
theorem hd6{W:World}{name:String}{f:Nat→Int}{l:List (String×DataW Unit)}(hn:prog.globalNamed name=some 6)(h:laidMet prog ((name,Lib.tabData .u64 ((List.range 80).map f))::l) W):∀i,i<80→W.cell? ⟨6,i,none⟩=some (.int .u64 (f i)) :=
 gi (Lib.tabIs_of_head hn gT6 underlying262 underlying227 (by kernel_rfl) (by kernel_rfl) h) hn
theorem hd7{W:World}{name:String}{f:Nat→Int}{l:List (String×DataW Unit)}(hn:prog.globalNamed name=some 7)(h:laidMet prog ((name,Lib.tabData .i64 ((List.range 16).map f))::l) W):∀i,i<16→W.cell? ⟨7,i,none⟩=some (.int .i64 (f i)) :=
 gi (Lib.tabIs_of_head hn gT7 underlying147 underlying3 (by kernel_rfl) (by kernel_rfl) h) hn
abbrev rM:List (String×DataW Unit):=[("portcullis/portcullisref1.k256", Rows.laid_portcullis_portcullisref1_k256),("portcullis/portcullisref1.k512", Rows.laid_portcullis_portcullisref1_k512),("portcullis/portcullisref3.rootOfMinusOne", Rows.laid_portcullis_portcullisref3_rootOfMinusOne),("portcullis/portcullisref3.order", Rows.laid_portcullis_portcullisref3_order),("portcullis/portcullisref3.d", Rows.laid_portcullis_portcullisref3_d),("portcullis/portcullisref3.baseX", Rows.laid_portcullis_portcullisref3_baseX),("portcullis/portcullisref3.baseY", Rows.laid_portcullis_portcullisref3_baseY)]
theorem BE(os:Os)(args:Array Value):laidMetH prog rM ((World.laidAll prog os rM).forCall (fun _ _=>0) ⟨#[],args,[]⟩).memory:=by
 rw[MakeChecks.laidMetH_plain _ _ _ (by kernel_rfl)];exact laidMet_laidAll _ (by kernel_rfl) (by kernel_rfl)
theorem wj(os:Os):(World.laidAll prog os rM).Shaped prog:=World.shaped_of_ZipB (by kernel_rfl) (by kernel_rfl)
theorem qH{W:World}(h:laidMetH prog rM W):Glob W∧GlobI W:=by
 rw[MakeChecks.laidMetH_plain _ _ _ (by kernel_rfl)]at h;unfold rM at h;rw[d0,d1,d2,d4,d5,d6,d7]at h;have h1:=fK h;have h2:=fK h1;have h3:=fK h2;have h4:=fK h3;have h5:=fK h4;have h6:=fK h5;have c:=hd6 gN6 h1;have d:=hd7 gN7 h2;exact⟨⟨zl (c 0 (by decide)),hd0 gN0 h,hd1 gN1 h5,hd2 gN2 h6,hd4 gN4 h4,hd5 gN5 h3,c⟩,⟨zl (d 0 (by decide)),d⟩⟩
theorem qi{H:Type}{enc:TypeId×Value→H}{P:Program}{w:World}{base:Nat}{spare:Nat→Bool}{held:Bool}{r:Go.Reach}{b0:Nat}{t:TypeId}{v:Value}{d:DataW H}{ps:List MemPlace}(ht:P.underlying t=some (.int .i64))(hval:Value.okWide P w r b0 t v)(hd:DataW.Trod enc P w base spare held t v d ps):∃x,v= .int .i64 x∧ -9223372036854775808≤x∧x≤9223372036854775807:=by
 obtain⟨x,h1,_,_,h2⟩:=open_int ht hval hd;exact⟨x,h1,AI h2⟩
end
end Go.Proofs.YtoifhhljfaoejaaGreatDoor
