/- Lemmas of the law; no condition beyond those written. -/
import Derived.Test.YtoifhhljfaoejaaGreatDoorPkAH
set_option maxRecDepth 100000
set_option maxHeartbeats 8000000
set_option linter.unusedVariables false
set_option linter.unusedSimpArgs false
set_option linter.unusedSectionVars false
namespace Go.Proofs.YtoifhhljfaoejaaGreatDoor
open Go.Proofs.Tryz Go Go.RowKit Go.Shelf
theorem gF:(prog.info? 75).map (fun i=>(i.zero,i.size))=some (some (.agg (row 64 fun _=> .int .u8 0)),64):=Θ
theorem kT:(prog.info? 75).map (·.size)=some 64:=Θ
def fj(v s:Nat→BitVec 32)(k:Nat):Nat→Γ:=fun i=>if i<k then kC v s i else 0
theorem rT(v s:Nat→BitVec 32)(k:Nat):upd (fj v s k) k (kC v s k)=fj v s (k+1):=by
 funext i;unfold upd fj;by_cases e:i=k
 ·subst e;simp
 ·rw[Χ e]
  by_cases hi:i<k
  ·rw[Ρ hi,Ρ Ω]
  ·rw[Χ hi,Χ Ω]
theorem rU(v s:Nat→BitVec 32):aa 64 (fj v s 64)=aa 64 (kC v s):=am fun i hi=>by unfold fj;rw[Ρ hi]
theorem GV(v s:Nat→BitVec 32)(k r:Nat)(hr:k%4=r):U (v (k/4)+s (k/4))/((2^(8*r):Nat):Int)%(256:Int)=B8 (kC v s k):=by
 unfold U B8 kC;rw[YL,Zc,YW,hr,Ye,Zs];rfl
structure BlkAt(w:ϑ)(s v:Nat→BitVec 32)(gs gv:Nat)(wr:ϑ):Prop where
 hr:wr.heap[w.heap.size+2]?=some (.cells (row 64 fun _=> .int .u8 0) 75 (0,0))
 hs:wr.heap[gs]?=some (.cells (bg 16 s) 298 (0,0))
 hv:wr.heap[gv]?=some (.cells (bg 16 v) 298 (0,0))
 ls:w.heap.size+2<gs
 lv:gs<gv
 hb:Υ w wr
theorem BlkAt.turn{w wr Z:ϑ}{s v v':Nat→BitVec 32}{gs gv:Nat}(h:BlkAt w s v gs gv wr)(hv:Z.heap[gv]?=some (.cells (bg 16 v') 298 (0,0)))(hg:wr.grownBy Z (some gv)):BlkAt w s v' gs gv Z:=by
 have lv:=h.lv;have ls:=h.ls;refine⟨?_,?_,hv,ls,lv,h.hb.grown hg h.hb.size (fun k hk=>by cases hk;omega)⟩
 ·exact(hg.block _ (Array.getElem?_eq_some_iff.1 h.hr).1 (by intro e;injection e with e;omega)).trans h.hr
 ·exact(hg.block _ (Array.getElem?_eq_some_iff.1 h.hs).1 (by intro e;injection e with e;omega)).trans h.hs
theorem ue(κ η:Φ)(n:Int)(w:ϑ) :
 Rt 288 #[.agg (aa 32 κ),.int .i64 n,.agg (aa 12 η)] w (.agg (aa 64 (dX κ (BitVec.ofInt 32 n) η))):=by
 have hcv:=yo n;obtain⟨s,hs0⟩:∃s,s=yn κ (BitVec.ofInt 32 n) η:=⟨_,rfl⟩;have HS0:=Hd hs0;have HZ:=Hd (show(prog.info? 298).map (·.size)=some (bg 16 s).size by rw[vL,a8]);have HZK:=Hd (show(prog.info? 24).map (·.size)=some (aa 32 κ).size by rw[ai];kernel_rfl);have HZN:=Hd (show(prog.info? 161).map (·.size)=some (aa 12 η).size by rw[ai];kernel_rfl);have hbg:=vN κ η (BitVec.ofInt 32 n);rw[← hs0]at hbg;have HBG:=Hd hbg;clear hbg hs0;go_enter func288,ntmps288;go_wp2_with (first
  | (with_reducible refine az rfl 75 rfl 64 _ gF ?_)
  | ((refine ϗ (.load 24 _) ?_);refine XW rfl 24 _ rfl w.heap.size rfl 24 (aa 32 κ) (0,0) _ ?h1 underlying24 rfl HZK.out ?_;rotate_left)
  | ((refine ϗ (.load 161 _) ?_);refine XW rfl 161 _ rfl (w.heap.size+1) rfl 161 (aa 12 η) (0,0) _ ?h2 underlying161 rfl HZN.out ?_;rotate_left))
 case h1=>exact(Xf _ _ _ Ϟ).trans ((Xf _ _ _ Ϡ).trans (Xe _ _))
 case h2 =>
  refine(Xf _ _ _ Ϡ).trans ?_;have:=Xe (w.alloc (.cells (aa 32 κ) 24)) (.cells (aa 12 η) 161);simpa using this
 refine(HBG.out _).mono ?_;rintro e J⟨rfl,V⟩;have HB1:=Hd (show Υ w J from fO (aD (aD (aD (XE w.heap.size w) (.cells (aa 32 κ) 24)) (.cells (aa 12 η) 161)) (.cells (row 64 fun _=> .int .u8 0) 75)) V);have HR1:=Hd (show J.heap[w.heap.size+2]?=some (.cells (row 64 fun _=> .int .u8 0) 75 (0,0))from by
  refine(V.block _ Ϡ).trans ?_;have:=Xe ((w.alloc (.cells (aa 32 κ) 24)).alloc (.cells (aa 12 η) 161)) (.cells (row 64 fun _=> .int .u8 0) 75);simpa using this)
 have hz1:w.heap.size+2<J.heap.size:=by have:=V.size;simp at this;omega
 clear V;go_wp2_with (first
  | (with_reducible refine az rfl 298 rfl 16 _ AB ?_)
  | ((refine ϗ (.load 298 _) ?_);refine XW rfl 298 _ rfl J.heap.size rfl 298 (bg 16 s) (0,0) _ (aF (Xe _ _)) underlying298 rfl HZ.out ?_)
  | ((refine ϗ (.store 298 _ _) ?_);refine Xu rfl 298 _ _ rfl rfl _ (bg 16 s) rfl rfl 298 _ (Xe _ _) HZ.out (by rw[aS,a8]) (bW _ _) ?_))
 obtain⟨gs,egs⟩:∃gs,gs=J.heap.size:=⟨_,rfl⟩;have HA:=Hd (show BlkAt w s (nw s 0) gs (gs+1) ((((J.alloc (.cells (row 16 fun _=> .int .u32 0) 298)).setRow J.heap.size (bg 16 s)).alloc (.cells (row 16 fun _=> .int .u32 0) 298)).setRow (J.heap.size+1) (bg 16 s))from by
  subst egs;refine⟨?_,?_,?_,hz1,Ω,?_⟩
  ·refine(ax Ω).trans ((Xf _ _ _ (by simp[World.setRow];omega)).trans ((ax Ω).trans ((Xf _ _ _ Ω).trans HR1.out)))
  ·refine(ax Ω).trans ((Xf _ _ _ (by simp[World.setRow])).trans (aF (Xe _ _)))
  ·refine aF (c:=row 16 fun _=> .int .u32 0) ?_
   have:=Xe ((J.alloc (.cells (row 16 fun _=> .int .u32 0) 298)).setRow J.heap.size (bg 16 s)) (.cells (row 16 fun _=> .int .u32 0) 298);simpa[World.setRow] using this
  ·exact aZ (aD (aZ (aD HB1.out _) Ω _) _) Ω _)
 generalize(((J.alloc (.cells (row 16 fun _=> .int .u32 0) 298)).setRow J.heap.size (bg 16 s)).alloc (.cells (row 16 fun _=> .int .u32 0) 298)).setRow (J.heap.size+1) (bg 16 s)=Wzq at *
 rw[← egs];clear egs hz1 HR1 HB1;go_loopw [19] (fun i wr=>∃k:Nat,k≤10∧i= .int .i64 k∧BlkAt w s (nw s k) gs (gs+1) wr) (fun i _=>10-(intOf i).toNat);case atStart=>exact⟨0,Ω,rfl,HA.out⟩
 case round =>
  clear HA;obtain⟨k,hk,rfl,hA⟩:=hrel;have HA:=Hd hA;clear hA;by_cases hw:k<10
  ·have hk0:(0:Int)≤(k:Int):=Ω
   have hk1:(k:Int)<10:=Ω;have HD:=Hd (show nw s (k+1)=DB (AA (nw s k) 4) 4 from rfl);generalize nw s k=v at *
   go_wp2;obtain⟨wo,rfl⟩:∃wo:ϑ,wo=wr:=⟨_,rfl⟩;go_loopw [21] (fun i wr=>∃j:Nat,j≤4∧i= .int .i64 j∧BlkAt w s (AA v j) gs (gs+1) wr) (fun i _=>4-(intOf i).toNat);case atStart=>exact⟨0,Ω,rfl,HA.out⟩
   case round =>
    clear HA;obtain⟨j,hj,rfl,hA⟩:=hrel;have HA:=Hd hA;clear hA;by_cases hlt4:j<4
    ·have hj0:(0:Int)≤(j:Int):=Ω
     have hj1:(j:Int)<4:=Ω;have hq:=oJ (gs+1) j (4+j) (8+j) (12+j) (AA v j) wr Ω Ω Ω Ω HA.out.hv;rw[show((4+j:Nat):Int)=4+(j:Int) by omega,show((8+j:Nat):Int)=8+(j:Int) by omega,show((12+j:Nat):Int)=12+(j:Int) by omega]at hq;have HQ:=Hd hq;clear hq;go_wp2_with fail;refine HQ.out.mono ?_;rintro e w2⟨rfl,hv2,hg2⟩;have HA2:=Hd (show BlkAt w s (AA v (j+1)) gs (gs+1) w2 from HA.out.turn hv2 hg2);clear hv2 hg2;go_wp2_with fail;go_roundw;case rel=>exact⟨j+1,Ω,by go_num,HA2.out⟩
     case measure=>exact ϝ
    ·obtain rfl:j=4:=Ω
     rw[show((4:Nat):Int)=4 from rfl];generalize AA v 4=v1 at *
     go_wp2;obtain⟨wo,rfl⟩:∃wo:ϑ,wo=wr:=⟨_,rfl⟩;go_loopw [33] (fun i wr=>∃j:Nat,j≤4∧i= .int .i64 j∧BlkAt w s (DB v1 j) gs (gs+1) wr) (fun i _=>4-(intOf i).toNat);case atStart=>exact⟨0,Ω,rfl,HA.out⟩
     case round =>
      clear HA;obtain⟨j,hj,rfl,hA⟩:=hrel;have HA:=Hd hA;clear hA;by_cases hlt4:j<4
      ·have hj0:(0:Int)≤(j:Int):=Ω
       have hj1:(j:Int)<4:=Ω;have hq:=oJ (gs+1) j (4+(j+1)%4) (8+(j+2)%4) (12+(j+3)%4) (DB v1 j) wr Ω Ω Ω Ω HA.out.hv;rw[show((4+(j+1)%4:Nat):Int)=4+((j:Int)+1)%4 by omega,show((8+(j+2)%4:Nat):Int)=8+((j:Int)+2)%4 by omega,show((12+(j+3)%4:Nat):Int)=12+((j:Int)+3)%4 by omega]at hq;have HQ:=Hd hq;clear hq;go_wp2_with fail;refine HQ.out.mono ?_;rintro e w2⟨rfl,hv2,hg2⟩;have HA2:=Hd (show BlkAt w s (DB v1 (j+1)) gs (gs+1) w2 from HA.out.turn hv2 hg2);clear hv2 hg2;go_wp2_with fail;go_roundw;case rel=>exact⟨j+1,Ω,by go_num,HA2.out⟩
       case measure=>exact ϝ
      ·obtain rfl:j=4:=Ω
       rw[show((4:Nat):Int)=4 from rfl];rw[← HD.out]at HA;go_wp2;go_roundw;case rel=>exact⟨k+1,Ω,by go_num,HA.out⟩
       case measure=>exact ϝ
  ·obtain rfl:k=10:=Ω
   rw[show((10:Nat):Int)=10 from rfl];generalize hv:nw s 10=v at *
   have HV:=Hd hv;clear hv;go_wp2_with (with_reducible refine az rfl 75 rfl 64 _ gF ?_);obtain⟨go,ego⟩:∃go,go=wr.heap.size:=⟨_,rfl⟩;have HA2:=Hd (show BlkAt w s v gs (gs+1) (wr.alloc (.cells (row 64 fun _=> .int .u8 0) 75))from
    ⟨(Xf _ _ _ (Array.getElem?_eq_some_iff.1 HA.out.hr).1).trans HA.out.hr,(Xf _ _ _ (Array.getElem?_eq_some_iff.1 HA.out.hs).1).trans HA.out.hs,(Xf _ _ _ (Array.getElem?_eq_some_iff.1 HA.out.hv).1).trans HA.out.hv,HA.out.ls,HA.out.lv,aD HA.out.hb _⟩)
   have HO:=Hd (show(wr.alloc (.cells (row 64 fun _=> .int .u8 0) 75)).heap[go]?=some (.cells (aa 64 (fj v s 0)) 75 (0,0))from by
    rw[ego];exact Xe _ _)
   have hgo:gs+1<go:=by rw[ego];exact(Array.getElem?_eq_some_iff.1 HA.out.hv).1
   generalize wr.alloc (.cells (row 64 fun _=> .int .u8 0) 75)=W2 at *
   rw[← ego];clear ego HA;go_loopw [52] (fun i wr=>∃q:Nat,q≤64∧i= .int .i64 q∧BlkAt w s v gs (gs+1) wr∧wr.heap[go]?=some (.cells (aa 64 (fj v s q)) 75 (0,0))) (fun i _=>64-(intOf i).toNat);case atStart=>exact⟨0,Ω,rfl,HA2.out,HO.out⟩
   case round =>
    clear HA2 HO;obtain⟨q,hq,rfl,hA,ho⟩:=hrel;have HA:=Hd hA;have HO:=Hd ho;clear hA ho;by_cases hlt6:q<64
    ·have hq0:(0:Int)≤(q:Int):=Ω
     have hq1:(q:Int)<64:=Ω;have cv:wr.cell? ⟨gs+1,q/4,none⟩=some (.int .u32 (U (v (q/4)))):=ar HA.out.hv Ω;have cs:wr.cell? ⟨gs,q/4,none⟩=some (.int .u32 (U (s (q/4)))):=ar HA.out.hs Ω;have co:wr.cell? ⟨go,q,none⟩=some (.int .u8 (B8 (fj v s q q))):=a9 HO.out hlt6;have fo:wr.frozen? ⟨go,q,none⟩=false:=Xi wr _ _ _ _ HO.out;have HOK:=Hd (rT v s q);have HVAL:=Hd (GV v s q);have hadd:=iI;have hadd':=gH;obtain⟨u0,u1⟩:=kX (v (q/4)+s (q/4));have HA2:=Hd (show ∀x,BlkAt w s v gs (gs+1) (wr.setCell ⟨go,q,none⟩ x).drew from fun x=>by
      have hls:=HA.out.ls;refine⟨?_,?_,?_,HA.out.ls,HA.out.lv,(HA.out.hb.setCell Ϟ _).drew⟩
      ·exact(Xh _ _ _ _ Ϟ).trans HA.out.hr
      ·exact(Xh _ _ _ _ Ϟ).trans HA.out.hs
      ·exact(Xh _ _ _ _ Ϟ).trans HA.out.hv)
     have W4:q%4=0∨q%4=1∨q%4=2∨q%4=3:=Ω;rcases W4 with hr|hr|hr|hr
     ·have hri:(q:Int)%4=0:=Ω
      have HVV:=Hd (show U (v (q/4)+s (q/4))%256=B8 (kC v s q)from by
       have:=HVAL.out 0 hr;rw[show((2^(8*0):Nat):Int)=1 from rfl]at this;omega)
      clear hr;go_wp2_with fail;have t5:(q:Int).tmod 4=0:=by rw[XF hq0];exact hri
      have t6:IntKind.i64.wrap 0=0:=Ξ;have t1:=W3 ((q:Int)/4) Ω;have t2:(0:Int)≤(q:Int)/4:=Ω;have t3:(q:Int)/4<16:=Ω;have t4:((q:Int)/4).toNat=q/4:=Ω;go_still_tail 16,Θ;clear t1 t2 t3 t4 t5 t6;change wpList _ _ _ _ _ wr.drew;go_wp2_with fail;go_roundw;case rel =>
       rw[HVV.out];refine⟨q+1,Ω,by go_num,HA2.out _,?_⟩;rw[← HOK.out];exact bv _ HO.out hlt6
      case measure=>exact ϝ
     ·have hri:(q:Int)%4=1:=Ω
      have HVV:=Hd (show U (v (q/4)+s (q/4))/256%256=B8 (kC v s q)from by
       have:=HVAL.out 1 hr;rw[show((2^(8*1):Nat):Int)=256 from rfl]at this;omega)
      clear hr;go_wp2_with fail;have t5:(q:Int).tmod 4=1:=by rw[XF hq0];exact hri
      have t6:IntKind.i64.wrap 8=8:=Ξ;have t1:=W3 ((q:Int)/4) Ω;have t2:(0:Int)≤(q:Int)/4:=Ω;have t3:(q:Int)/4<16:=Ω;have t4:((q:Int)/4).toNat=q/4:=Ω;go_still_tail 16,Θ;clear t1 t2 t3 t4 t5 t6;change wpList _ _ _ _ _ wr.drew;go_wp2_with fail;go_roundw;case rel =>
       rw[HVV.out];refine⟨q+1,Ω,by go_num,HA2.out _,?_⟩;rw[← HOK.out];exact bv _ HO.out hlt6
      case measure=>exact ϝ
     ·have hri:(q:Int)%4=2:=Ω
      have HVV:=Hd (show U (v (q/4)+s (q/4))/65536%256=B8 (kC v s q)from by
       have:=HVAL.out 2 hr;rw[show((2^(8*2):Nat):Int)=65536 from rfl]at this;omega)
      clear hr;go_wp2_with fail;have t5:(q:Int).tmod 4=2:=by rw[XF hq0];exact hri
      have t6:IntKind.i64.wrap 16=16:=Ξ;have t1:=W3 ((q:Int)/4) Ω;have t2:(0:Int)≤(q:Int)/4:=Ω;have t3:(q:Int)/4<16:=Ω;have t4:((q:Int)/4).toNat=q/4:=Ω;go_still_tail 16,Θ;clear t1 t2 t3 t4 t5 t6;change wpList _ _ _ _ _ wr.drew;go_wp2_with fail;go_roundw;case rel =>
       rw[HVV.out];refine⟨q+1,Ω,by go_num,HA2.out _,?_⟩;rw[← HOK.out];exact bv _ HO.out hlt6
      case measure=>exact ϝ
     ·have hri:(q:Int)%4=3:=Ω
      have HVV:=Hd (show U (v (q/4)+s (q/4))/16777216=B8 (kC v s q)from by
       have:=HVAL.out 3 hr;rw[show((2^(8*3):Nat):Int)=16777216 from rfl]at this;omega)
      clear hr;go_wp2_with fail;have t5:(q:Int).tmod 4=3:=by rw[XF hq0];exact hri
      have t6:IntKind.i64.wrap 24=24:=Ξ;have t1:=W3 ((q:Int)/4) Ω;have t2:(0:Int)≤(q:Int)/4:=Ω;have t3:(q:Int)/4<16:=Ω;have t4:((q:Int)/4).toNat=q/4:=Ω;go_still_tail 16,Θ;clear t1 t2 t3 t4 t5 t6;change wpList _ _ _ _ _ wr.drew;go_wp2_with fail;go_roundw;case rel =>
       rw[HVV.out];refine⟨q+1,Ω,by go_num,HA2.out _,?_⟩;rw[← HOK.out];exact bv _ HO.out hlt6
      case measure=>exact ϝ
    ·obtain rfl:q=64:=Ω
     rw[show((64:Nat):Int)=64 from rfl];have HZ64:=Hd (show(prog.info? 75).map (·.size)=some (aa 64 (fj v s 64)).size by rw[kT,ai]);go_wp2_with (first
      | ((refine ϗ (.load 75 _) ?_);refine XW rfl 75 _ rfl go rfl 75 (aa 64 (fj v s 64)) (0,0) _ HO.out underlying75 rfl HZ64.out ?_)
      | ((refine ϗ (.store 75 _ _) ?_);refine Xu rfl 75 _ _ rfl rfl (w.heap.size+1+1) (aa 64 (fj v s 64)) rfl rfl 75 _ HA.out.hr HZ64.out (by rw[aS,ai]) (bS _ _) ?_))
     refine Ϣ (Yy rfl _ _ (w.heap.size+1+1) 75 (aa 64 (fj v s 64)) (0,0) _ rfl (aF HA.out.hr) underlying75 rfl HZ64.out) rfl ?_;refine⟨?_,aZ HA.out.hb Ω _⟩;rw[rU,← HV.out,HS0.out];rfl
structure RefAt(w:ϑ)(κ η:Φ)(s:Nat→BitVec 32)(wr:ϑ):Prop where
 hk:wr.heap[w.heap.size]?=some (.cells (aa 32 κ) 24 (0,0))
 hn:wr.heap[w.heap.size+1]?=some (.cells (aa 12 η) 161 (0,0))
 hr:wr.heap[w.heap.size+2]?=some (.cells (row 64 fun _=> .int .u8 0) 75 (0,0))
 hs:wr.heap[w.heap.size+3]?=some (.cells (bg 16 s) 298 (0,0))
 hb:Υ w wr
theorem RefAt.set{w wr:ϑ}{κ η:Φ}{s:Nat→BitVec 32}(h:RefAt w κ η s wr){i:Nat}(x:BitVec 32)(hi:i<16) :
 RefAt w κ η (upd s i x) (wr.setCell ⟨w.heap.size+1+1+1,i,none⟩ (.int .u32 (U x))):=by
 refine⟨?_,?_,?_,?_,h.hb.setCell Ϟ _⟩
 ·exact(Xh _ _ _ _ Ϟ).trans h.hk
 ·exact(Xh _ _ _ _ Ϡ).trans h.hn
 ·exact(Xh _ _ _ _ Ϡ).trans h.hr
 ·exact cu _ h.hs hi
theorem RefAt.drewN{w wr:ϑ}{κ η:Φ}{s:Nat→BitVec 32}(h:RefAt w κ η s wr)(m:Nat):RefAt w κ η s (wr.drewN m):=⟨h.hk,h.hn,h.hr,h.hs,dT h.hb m⟩
theorem rV(n:Int):bits .and .i64 n 4294967295=n%4294967296:=by
 show IntKind.i64.wrap ((BitVec.ofInt 64 n&&&BitVec.ofInt 64 4294967295).toNat:Int)=_;have e:BitVec.ofInt 64 4294967295=BitVec.ofNat 64 4294967295:=rfl;rw[e,YA,X9];have e2:(BitVec.ofNat 64 4294967295).toNat=2^32-1:=rfl;rw[e2,X5,XV];omega
theorem nA(v s:Nat→BitVec 32)(k r:Nat)(hr:k%4=r):bits .and .u32 (U (v (k/4)+s (k/4))/((2^(8*r):Nat):Int)) (255:Int)=B8 (kC v s k):=by
 rw[tn];have e:(255:Int)=U 255:=rfl;rw[e,Eb];unfold U B8 kC;rw[YA,YL,hr];have e2:(255:BitVec 32).toNat=2^8-1:=rfl;rw[e2,X5]
theorem Lk:(#[.int .u32 1634760805,.int .u32 857760878,.int .u32 2036477234,.int .u32 1797285236,.int .u32 0,.int .u32 0,.int .u32 0,.int .u32 0,.int .u32 0,.int .u32 0,.int .u32 0,.int .u32 0,.int .u32 0,.int .u32 0,.int .u32 0,.int .u32 0]:Ψ)=bg 16 fun i=>if i<4 then i8 i else 0:=Θ
theorem Jl{v0 v1 v2 v3 v4 v5 v6 v7 v8:Nat→BitVec 32}(h1:v1=qr 0 4 8 12 v0)(h2:v2=qr 1 5 9 13 v1)(h3:v3=qr 2 6 10 14 v2)(h4:v4=qr 3 7 11 15 v3)(h5:v5=qr 0 5 10 15 v4)(h6:v6=qr 1 6 11 12 v5)(h7:v7=qr 2 7 8 13 v6)(h8:v8=qr 3 4 9 14 v7):dbl v0=v8:=by
 rw[h8,h7,h6,h5,h4,h3,h2,h1];rfl
theorem nB(κ η:Φ)(n:Int)(w:ϑ) :
 Rt 191 #[.agg (aa 32 κ),.int .i64 n,.agg (aa 12 η)] w (.agg (aa 64 (dX κ (BitVec.ofInt 32 n) η))):=by
 have hcv:IntKind.u32.wrap (n%4294967296)=U (BitVec.ofInt 32 n):=by rw[ZY,jB];omega
 have hcv2:n%4294967296=U (BitVec.ofInt 32 n):=by rw[jB]
 have hand:=rV n;rw[hcv2]at hand hcv;have HAND:=Hd hand;have HCV:=Hd hcv;clear hand hcv hcv2;go_enter func191,ntmps191;go_wp2_with (with_reducible refine az rfl 75 rfl 64 _ gF ?_);rw[Lk];have HA:=Hd (show RefAt w κ η (kD κ 0) ((((w.alloc (.cells (aa 32 κ) 24)).alloc (.cells (aa 12 η) 161)).alloc (.cells (row 64 fun _=> .int .u8 0) 75)).alloc (.cells (bg 16 fun i=>if i<4 then i8 i else 0) 298))from by
  refine⟨?_,?_,?_,?_,?_⟩
  ·refine(Xf _ _ _ Ϟ).trans ((Xf _ _ _ Ϟ).trans ((Xf _ _ _ Ϡ).trans (Xe _ _)))
  ·refine(Xf _ _ _ Ϡ).trans ((Xf _ _ _ Ϡ).trans ?_)
   have:=Xe (w.alloc (.cells (aa 32 κ) 24)) (.cells (aa 12 η) 161);simpa using this
  ·refine(Xf _ _ _ Ϡ).trans ?_
   have:=Xe ((w.alloc (.cells (aa 32 κ) 24)).alloc (.cells (aa 12 η) 161)) (.cells (row 64 fun _=> .int .u8 0) 75);simpa using this
  ·rw[t8 κ]
   have:=Xe (((w.alloc (.cells (aa 32 κ) 24)).alloc (.cells (aa 12 η) 161)).alloc (.cells (row 64 fun _=> .int .u8 0) 75)) (.cells (bg 16 (kD κ 0)) 298);simpa using this
  ·exact aD (aD (aD (aD (XE _ _) _) _) _) _)
 generalize(((w.alloc (.cells (aa 32 κ) 24)).alloc (.cells (aa 12 η) 161)).alloc (.cells (row 64 fun _=> .int .u8 0) 75)).alloc (.cells (bg 16 fun i=>if i<4 then i8 i else 0) 298)=Wzq at *
 have hadd:=iI;go_loopw [8] (fun i wr=>∃k:Nat,k≤8∧i= .int .i64 k∧RefAt w κ η (kD κ k) wr) (fun i _=>8-(intOf i).toNat);case atStart=>exact⟨0,Ω,rfl,HA.out⟩
 case round =>
  clear HA;obtain⟨k,hk,rfl,hA⟩:=hrel;have HA:=Hd hA;clear hA;by_cases hw:k<8
  ·have hk0:(0:Int)≤(k:Int):=Ω
   have hk1:(k:Int)<8:=Ω;have hsl:=GU w.heap.size k hw;have hw4:=rQ w.heap.size (4*k) (32-4*k) (32-4*k) (κ (4*k)) (κ (4*k+1)) (κ (4*k+2)) (κ (4*k+3)) wr Ω (a9 HA.out.hk Ω) (a9 HA.out.hk Ω) (a9 HA.out.hk Ω) (a9 HA.out.hk Ω);have HW4:=Hd hw4;clear hw4;go_wp2_with fail;refine HW4.out.mono ?_;rintro e Z⟨rfl,m,rfl⟩;clear hsl;have HAm:=Hd (HA.out.drewN m);generalize wr.drewN m=wm at *
   have f1:wm.frozen? ⟨w.heap.size+1+1+1,4+k,none⟩=false:=Xi _ _ _ _ _ HAm.out.hs;have c1:=ar (i:=4+k) HAm.out.hs Ω;have c2:wm.cell? ⟨w.heap.size+1+1+1,4+k,none⟩=some (.int .u32 (U (kD κ k (4+k)))):=c1;clear c1;go_wp2_with fail;go_roundw;case rel=>exact⟨k+1,Ω,by go_num,by rw[← t9 κ hw];exact HAm.out.set _ Ω⟩
   case measure=>exact ϝ
  ·obtain rfl:k=8:=Ω
   rw[show((8:Nat):Int)=8 from rfl];have f1:wr.frozen? ⟨w.heap.size+1+1+1,12,none⟩=false:=Xi _ _ _ _ _ HA.out.hs;have c2:wr.cell? ⟨w.heap.size+1+1+1,12,none⟩=some (.int .u32 (U (kD κ 8 12))):=ar (i:=12) HA.out.hs Ω;have hand:=HAND.out;have hcv:=HCV.out;go_wp2_with fail;clear hand hcv;have HB:=Hd (show RefAt w κ η (jK κ (BitVec.ofInt 32 n) η 0) (wr.setCell ⟨w.heap.size+1+1+1,12,none⟩ (.int .u32 (U (BitVec.ofInt 32 n))))from by
    rw[← ua];exact HA.out.set _ Ω)
   generalize wr.setCell ⟨w.heap.size+1+1+1,12,none⟩ (.int .u32 (U (BitVec.ofInt 32 n)))=wb at *
   clear f1 c2 HA;go_loopw [9] (fun i wr=>∃k:Nat,k≤3∧i= .int .i64 k∧RefAt w κ η (jK κ (BitVec.ofInt 32 n) η k) wr) (fun i _=>3-(intOf i).toNat);case atStart=>exact⟨0,Ω,rfl,HB.out⟩
   case round =>
    clear HB;obtain⟨j,hj,rfl,hA⟩:=hrel;have HA:=Hd hA;clear hA;by_cases hlt3:j<3
    ·have hj0:(0:Int)≤(j:Int):=Ω
     have hj1:(j:Int)<3:=Ω;have hsl:=yq (w.heap.size+1) j hlt3;have hw4:=rQ (w.heap.size+1) (4*j) (12-4*j) (12-4*j) (η (4*j)) (η (4*j+1)) (η (4*j+2)) (η (4*j+3)) wr Ω (a9 HA.out.hn Ω) (a9 HA.out.hn Ω) (a9 HA.out.hn Ω) (a9 HA.out.hn Ω);have HW4:=Hd hw4;clear hw4;go_wp2_with fail;refine HW4.out.mono ?_;rintro e Z⟨rfl,m,rfl⟩;clear hsl;have HAm:=Hd (HA.out.drewN m);generalize wr.drewN m=wm at *
     have f1:wm.frozen? ⟨w.heap.size+1+1+1,13+j,none⟩=false:=Xi _ _ _ _ _ HAm.out.hs;have c1:=ar (i:=13+j) HAm.out.hs Ω;have c2:wm.cell? ⟨w.heap.size+1+1+1,13+j,none⟩=some (.int .u32 (U (jK κ (BitVec.ofInt 32 n) η j (13+j)))):=c1;clear c1;go_wp2_with fail;go_roundw;case rel=>exact⟨j+1,Ω,by go_num,by rw[← uc];exact HAm.out.set _ Ω⟩
     case measure=>exact ϝ
    ·obtain rfl:j=3:=Ω
     rw[show((3:Nat):Int)=3 from rfl];have HS16:=Hd (show wr.heap[w.heap.size+1+1+1]?=some (.cells (bg 16 (yn κ (BitVec.ofInt 32 n) η)) 298 (0,0))from by
      rw[← ud];exact HA.out.hs)
     obtain⟨s,hs0⟩:∃s,s=yn κ (BitVec.ofInt 32 n) η:=⟨_,rfl⟩;rw[← hs0]at HS16;have HS0:=Hd hs0;clear hs0;have HZ16:=Hd (show(prog.info? 298).map (·.size)=some (bg 16 s).size by rw[vL,a8]);go_wp2_with (first
      | (with_reducible refine az rfl 298 rfl 16 _ AB ?_)
      | ((refine ϗ (.load 298 _) ?_);refine XW rfl 298 _ rfl (w.heap.size+1+1+1) rfl 298 (bg 16 s) (0,0) _ HS16.out underlying298 rfl HZ16.out ?_)
      | ((refine ϗ (.store 298 _ _) ?_);refine Xu rfl 298 _ _ rfl rfl _ (bg 16 s) rfl rfl 298 _ (Xe _ _) HZ16.out (by rw[aS,a8]) (bW _ _) ?_))
     obtain⟨gv,egv⟩:∃gv,gv=wr.heap.size:=⟨_,rfl⟩;have HB:=Hd (show BlkAt w s (nw s 0) (w.heap.size+1+1+1) gv ((wr.alloc (.cells (row 16 fun _=> .int .u32 0) 298)).setRow wr.heap.size (bg 16 s))from by
      subst egv;have l1:=(Array.getElem?_eq_some_iff.1 HS16.out).1;refine⟨?_,?_,?_,Ω,l1,?_⟩
      ·exact(ax Ω).trans ((Xf _ _ _ Ω).trans HA.out.hr)
      ·exact(ax Ω).trans ((Xf _ _ _ Ω).trans HS16.out)
      ·exact aF (Xe _ _)
      ·exact aZ (aD HA.out.hb _) Ω _)
     generalize(wr.alloc (.cells (row 16 fun _=> .int .u32 0) 298)).setRow wr.heap.size (bg 16 s)=wc at *
     rw[← egv];clear egv HS16 HA;go_loopw [11] (fun i wr=>∃k:Nat,k≤10∧i= .int .i64 k∧BlkAt w s (nw s k) (w.heap.size+1+1+1) gv wr) (fun i _=>10-(intOf i).toNat);case atStart=>exact⟨0,Ω,rfl,HB.out⟩
     case round =>
      clear HB;obtain⟨k,hk,rfl,hA⟩:=hrel;have HX0:=Hd hA;clear hA;by_cases hw:k<10
      ·have hk0:(0:Int)≤(k:Int):=Ω
       have hk1:(k:Int)<10:=Ω;have HD:=Hd (show nw s (k+1)=dbl (nw s k)from rfl);generalize nw s k=v0 at *
       go_wp2_with fail;refine(cC gv 0 4 8 12 v0 _ Ξ Ξ Ξ Ξ HX0.out.hv).mono ?_;rintro e J⟨rfl,hx1,hg1⟩;obtain⟨v1,hv1⟩:∃v,v=qr 0 4 8 12 v0:=⟨_,rfl⟩;rw[← hv1]at hx1;have HV1:=Hd hv1;have HX1:=Hd (HX0.out.turn hx1 hg1);clear hv1 hx1 hg1 HX0;go_wp2_with fail;refine(cC gv 1 5 9 13 v1 _ Ξ Ξ Ξ Ξ HX1.out.hv).mono ?_;rintro e w2⟨rfl,hx2,hg2⟩;obtain⟨v2,hv2⟩:∃v,v=qr 1 5 9 13 v1:=⟨_,rfl⟩;rw[← hv2]at hx2;have HV2:=Hd hv2;have HX2:=Hd (HX1.out.turn hx2 hg2);clear hv2 hx2 hg2 HX1;go_wp2_with fail;refine(cC gv 2 6 10 14 v2 _ Ξ Ξ Ξ Ξ HX2.out.hv).mono ?_;rintro e w3⟨rfl,hx3,hg3⟩;obtain⟨v3,hv3⟩:∃v,v=qr 2 6 10 14 v2:=⟨_,rfl⟩;rw[← hv3]at hx3;have HV3:=Hd hv3;have HX3:=Hd (HX2.out.turn hx3 hg3);clear hv3 hx3 hg3 HX2;go_wp2_with fail;refine(cC gv 3 7 11 15 v3 _ Ξ Ξ Ξ Ξ HX3.out.hv).mono ?_;rintro e w4⟨rfl,hx4,hg4⟩;obtain⟨v4,hv4⟩:∃v,v=qr 3 7 11 15 v3:=⟨_,rfl⟩;rw[← hv4]at hx4;have HV4:=Hd hv4;have HX4:=Hd (HX3.out.turn hx4 hg4);clear hv4 hx4 hg4 HX3;go_wp2_with fail;refine(cC gv 0 5 10 15 v4 _ Ξ Ξ Ξ Ξ HX4.out.hv).mono ?_;rintro e w5⟨rfl,hx5,hg5⟩;obtain⟨v5,hv5⟩:∃v,v=qr 0 5 10 15 v4:=⟨_,rfl⟩;rw[← hv5]at hx5;have HV5:=Hd hv5;have HX5:=Hd (HX4.out.turn hx5 hg5);clear hv5 hx5 hg5 HX4;go_wp2_with fail;refine(cC gv 1 6 11 12 v5 _ Ξ Ξ Ξ Ξ HX5.out.hv).mono ?_;rintro e w6⟨rfl,hx6,hg6⟩;obtain⟨v6,hv6⟩:∃v,v=qr 1 6 11 12 v5:=⟨_,rfl⟩;rw[← hv6]at hx6;have HV6:=Hd hv6;have HX6:=Hd (HX5.out.turn hx6 hg6);clear hv6 hx6 hg6 HX5;go_wp2_with fail;refine(cC gv 2 7 8 13 v6 _ Ξ Ξ Ξ Ξ HX6.out.hv).mono ?_;rintro e w7⟨rfl,hx7,hg7⟩;obtain⟨v7,hv7⟩:∃v,v=qr 2 7 8 13 v6:=⟨_,rfl⟩;rw[← hv7]at hx7;have HV7:=Hd hv7;have HX7:=Hd (HX6.out.turn hx7 hg7);clear hv7 hx7 hg7 HX6;go_wp2_with fail;refine(cC gv 3 4 9 14 v7 _ Ξ Ξ Ξ Ξ HX7.out.hv).mono ?_;rintro e w8⟨rfl,hx8,hg8⟩;obtain⟨v8,hv8⟩:∃v,v=qr 3 4 9 14 v7:=⟨_,rfl⟩;rw[← hv8]at hx8;have HV8:=Hd hv8;have HX8:=Hd (HX7.out.turn hx8 hg8);clear hv8 hx8 hg8 HX7;rw[← Jl HV1.out HV2.out HV3.out HV4.out HV5.out HV6.out HV7.out HV8.out,← HD.out]at HX8;go_wp2_with fail;go_roundw;case rel=>exact⟨k+1,Ω,by go_num,HX8.out⟩
       case measure=>exact ϝ
      ·obtain rfl:k=10:=Ω
       rw[show((10:Nat):Int)=10 from rfl];generalize hv:nw s 10=v at *
       have HV:=Hd hv;clear hv;go_wp2_with (with_reducible refine az rfl 75 rfl 64 _ gF ?_);obtain⟨go,ego⟩:∃go,go=wr.heap.size:=⟨_,rfl⟩;have HA2:=Hd (show BlkAt w s v (w.heap.size+1+1+1) gv (wr.alloc (.cells (row 64 fun _=> .int .u8 0) 75))from
        ⟨(Xf _ _ _ (Array.getElem?_eq_some_iff.1 HX0.out.hr).1).trans HX0.out.hr,(Xf _ _ _ (Array.getElem?_eq_some_iff.1 HX0.out.hs).1).trans HX0.out.hs,(Xf _ _ _ (Array.getElem?_eq_some_iff.1 HX0.out.hv).1).trans HX0.out.hv,HX0.out.ls,HX0.out.lv,aD HX0.out.hb _⟩)
       have HO:=Hd (show(wr.alloc (.cells (row 64 fun _=> .int .u8 0) 75)).heap[go]?=some (.cells (aa 64 (fj v s 0)) 75 (0,0))from by
        rw[ego];exact Xe _ _)
       have hgo:gv<go:=by rw[ego];exact(Array.getElem?_eq_some_iff.1 HX0.out.hv).1
       have hgl:w.heap.size+1+1+1<gv:=HX0.out.lv;generalize wr.alloc (.cells (row 64 fun _=> .int .u8 0) 75)=W2 at *
       rw[← ego];clear ego HX0;go_loopw [13] (fun i wr=>∃q:Nat,q≤64∧i= .int .i64 q∧BlkAt w s v (w.heap.size+1+1+1) gv wr∧wr.heap[go]?=some (.cells (aa 64 (fj v s q)) 75 (0,0))) (fun i _=>64-(intOf i).toNat);case atStart=>exact⟨0,Ω,rfl,HA2.out,HO.out⟩
       case round =>
        clear HA2 HO;obtain⟨q,hq,rfl,hA,ho⟩:=hrel;have HA:=Hd hA;have HO:=Hd ho;clear hA ho;by_cases hlt6:q<64
        ·have hq0:(0:Int)≤(q:Int):=Ω
         have hq1:(q:Int)<64:=Ω;have cv:wr.cell? ⟨gv,q/4,none⟩=some (.int .u32 (U (v (q/4)))):=ar HA.out.hv Ω;have cs:wr.cell? ⟨w.heap.size+1+1+1,q/4,none⟩=some (.int .u32 (U (s (q/4)))):=ar HA.out.hs Ω;have co:wr.cell? ⟨go,q,none⟩=some (.int .u8 (B8 (fj v s q q))):=a9 HO.out hlt6;have fo:wr.frozen? ⟨go,q,none⟩=false:=Xi wr _ _ _ _ HO.out;have HOK:=Hd (rT v s q);have hadd:=iI;have hadd':=gH;obtain⟨u0,u1⟩:=kX (v (q/4)+s (q/4));obtain⟨b0,b1⟩:=bP (kC v s q);have HA2:=Hd (show ∀x m,BlkAt w s v (w.heap.size+1+1+1) gv ((wr.setCell ⟨go,q,none⟩ x).drewN m)from fun x m=>by
          refine⟨?_,?_,?_,HA.out.ls,HA.out.lv,dT (HA.out.hb.setCell Ϟ _) m⟩
          ·exact(Xh _ _ _ _ Ϟ).trans HA.out.hr
          ·exact(Xh _ _ _ _ Ϟ).trans HA.out.hs
          ·exact(Xh _ _ _ _ Ϟ).trans HA.out.hv)
         have W4:q%4=0∨q%4=1∨q%4=2∨q%4=3:=Ω;rcases W4 with hr|hr|hr|hr
         ·have hri:(q:Int)%4=0:=Ω
          have hvv:bits .and .u32 (U (v (q/4)+s (q/4))) 255=B8 (kC v s q):=by
           have:=nA v s q 0 hr;rw[show((2^(8*0):Nat):Int)=1 from rfl]at this;rwa[Int.ediv_one]at this
          have HVV:=Hd hvv;clear hr hvv;go_wp2_with fail;have t1:=W3 ((q:Int)/4) Ω;have t2:(0:Int)≤(q:Int)/4:=Ω;have t3:(q:Int)/4<16:=Ω;have t4:((q:Int)/4).toNat=q/4:=Ω;go_quiet (fail);clear t1 t2 t3 t4;have hvv:=HVV.out;go_wp2_with fail;go_roundw;case rel =>
           refine⟨q+1,Ω,by go_num,HA2.out _ _,?_⟩;rw[← HOK.out];exact bv _ HO.out hlt6
          case measure=>exact ϝ
         ·have hri:(q:Int)%4=1:=Ω
          have hvv:bits .and .u32 (U (v (q/4)+s (q/4))/256) 255=B8 (kC v s q):=by
           have:=nA v s q 1 hr;rw[show((2^(8*1):Nat):Int)=256 from rfl]at this;exact this
          have HVV:=Hd hvv;clear hr hvv;go_wp2_with fail;have t1:=W3 ((q:Int)/4) Ω;have t2:(0:Int)≤(q:Int)/4:=Ω;have t3:(q:Int)/4<16:=Ω;have t4:((q:Int)/4).toNat=q/4:=Ω;go_quiet (fail);clear t1 t2 t3 t4;have hvv:=HVV.out;go_wp2_with fail;go_roundw;case rel =>
           refine⟨q+1,Ω,by go_num,HA2.out _ _,?_⟩;rw[← HOK.out];exact bv _ HO.out hlt6
          case measure=>exact ϝ
         ·have hri:(q:Int)%4=2:=Ω
          have hvv:bits .and .u32 (U (v (q/4)+s (q/4))/65536) 255=B8 (kC v s q):=by
           have:=nA v s q 2 hr;rw[show((2^(8*2):Nat):Int)=65536 from rfl]at this;exact this
          have HVV:=Hd hvv;clear hr hvv;go_wp2_with fail;have t1:=W3 ((q:Int)/4) Ω;have t2:(0:Int)≤(q:Int)/4:=Ω;have t3:(q:Int)/4<16:=Ω;have t4:((q:Int)/4).toNat=q/4:=Ω;go_quiet (fail);clear t1 t2 t3 t4;have hvv:=HVV.out;go_wp2_with fail;go_roundw;case rel =>
           refine⟨q+1,Ω,by go_num,HA2.out _ _,?_⟩;rw[← HOK.out];exact bv _ HO.out hlt6
          case measure=>exact ϝ
         ·have hri:(q:Int)%4=3:=Ω
          have hvv:bits .and .u32 (U (v (q/4)+s (q/4))/16777216) 255=B8 (kC v s q):=by
           have:=nA v s q 3 hr;rw[show((2^(8*3):Nat):Int)=16777216 from rfl]at this;exact this
          have HVV:=Hd hvv;clear hr hvv;go_wp2_with fail;have t1:=W3 ((q:Int)/4) Ω;have t2:(0:Int)≤(q:Int)/4:=Ω;have t3:(q:Int)/4<16:=Ω;have t4:((q:Int)/4).toNat=q/4:=Ω;go_quiet (fail);clear t1 t2 t3 t4;have hvv:=HVV.out;go_wp2_with fail;go_roundw;case rel =>
           refine⟨q+1,Ω,by go_num,HA2.out _ _,?_⟩;rw[← HOK.out];exact bv _ HO.out hlt6
          case measure=>exact ϝ
        ·obtain rfl:q=64:=Ω
         rw[show((64:Nat):Int)=64 from rfl];have HZ64:=Hd (show(prog.info? 75).map (·.size)=some (aa 64 (fj v s 64)).size by rw[kT,ai]);go_wp2_with (first
          | ((refine ϗ (.load 75 _) ?_);refine XW rfl 75 _ rfl go rfl 75 (aa 64 (fj v s 64)) (0,0) _ HO.out underlying75 rfl HZ64.out ?_)
          | ((refine ϗ (.store 75 _ _) ?_);refine Xu rfl 75 _ _ rfl rfl (w.heap.size+1+1) (aa 64 (fj v s 64)) rfl rfl 75 _ HA.out.hr HZ64.out (by rw[aS,ai]) (bS _ _) ?_))
         refine Ϣ (Yy rfl _ _ (w.heap.size+1+1) 75 (aa 64 (fj v s 64)) (0,0) _ rfl (aF HA.out.hr) underlying75 rfl HZ64.out) rfl ?_;refine⟨?_,aZ HA.out.hb Ω _⟩;rw[rU,← HV.out,HS0.out];rfl
def sAt(κ:Φ)(c:BitVec 32)(η:Φ)(k:Nat):Nat→Γ:=if k=0 then fun _=>0 else dX κ (c+BitVec.ofNat 32 ((k-1)/64)) η
def cAt(c:BitVec 32)(k:Nat):BitVec 32:=c+BitVec.ofNat 32 ((k+63)/64)
theorem gX(κ:Φ)(c:BitVec 32)(η:Φ)(k:Nat):sAt κ c η (k+1)=dX κ (c+BitVec.ofNat 32 (k/64)) η:=by unfold sAt;rw[Χ Ω];rfl
theorem nC(κ:Φ)(c:BitVec 32)(η:Φ){k:Nat}(h:k%64≠0):sAt κ c η (k+1)=sAt κ c η k:=by
 rw[gX];unfold sAt;rw[Χ (by intro e;subst e;exact h rfl),show(k-1)/64=k/64 by omega]
theorem yr(c:BitVec 32){k:Nat}(h:k%64=0):cAt c k=c+BitVec.ofNat 32 (k/64):=by unfold cAt;rw[show(k+63)/64=k/64 by omega]
theorem GW(c:BitVec 32){k:Nat}(h:k%64=0):cAt c (k+1)=cAt c k+1:=by
 rw[yr c h];unfold cAt;rw[show(k+1+63)/64=k/64+1 by omega,BitVec.add_assoc];congr 1;apply Yi;simp[BitVec.toNat_add,Xv]
theorem GX(c:BitVec 32){k:Nat}(h:k%64≠0):cAt c (k+1)=cAt c k:=by unfold cAt;rw[show(k+1+63)/64=(k+63)/64 by omega]
def rX(κ:Φ)(c:BitVec 32)(η:Φ)(l:Δ)(k:Nat):Nat→Γ:=fun i=>if i<k then l.getD i 0^^^GS κ c η i else 0
theorem uf(κ:Φ)(c:BitVec 32)(η:Φ)(l:Δ)(k:Nat)(h:k<l.length):upd (rX κ c η l k) k (l[k]^^^sAt κ c η (k+1) (k%64))=rX κ c η l (k+1):=by
 rw[gX];funext i;unfold upd rX;by_cases e:i=k
 ·subst e;simp[h,GS]
 ·rw[Χ e]
  by_cases hi:i<k
  ·rw[Ρ hi,Ρ Ω]
  ·rw[Χ hi,Χ Ω]
theorem DD(κ:Φ)(c:BitVec 32)(η:Φ)(l:Δ):(List.range l.length).map (rX κ c η l l.length)=dv κ c η l:=by
 apply Zr
 ·simp[dc]
 ·intro i h1 h2
  have hi:i<l.length:=by simpa using h1
  simp[rX,dv,hi]
theorem yt{w:ϑ}{g n c:Nat}{f:Φ}{t:ϋ}{fr:Nat×Nat}(h:w.heap[g]?=some (.cells (aa n f) t fr)):BRow w (.slice (ϐ g) n c) ((List.range n).map f) :=
 ⟨_,c,Ϡ,(fun hc=>by cases hc),fun _=>⟨g,0,rfl,(Array.getElem?_eq_some_iff.1 h).1,fun i hi=>by
  have hi':i<n:=by simpa using hi
  rw[XA,a9 h hi'];simp⟩⟩
structure TrnAt(w:ϑ)(κ η:Φ)(n:Nat)(o s:Φ)(wr:ϑ):Prop where
 hk:wr.heap[w.heap.size]?=some (.cells (aa 32 κ) 24 (0,0))
 hn:wr.heap[w.heap.size+1]?=some (.cells (aa 12 η) 161 (0,0))
 ho:wr.heap[w.heap.size+2]?=some (.cells (aa n o) 5 (0,0))
 hs:wr.heap[w.heap.size+3]?=some (.cells (aa 64 s) 75 (0,0))
 hb:Υ w wr
theorem TrnAt.keep{w wr Z:ϑ}{κ η o s:Φ}{n:Nat}(h:TrnAt w κ η n o s wr)(hb:Υ wr Z):TrnAt w κ η n o s Z :=
 ⟨(hb.block _ (Array.getElem?_eq_some_iff.1 h.hk).1).trans h.hk,(hb.block _ (Array.getElem?_eq_some_iff.1 h.hn).1).trans h.hn,(hb.block _ (Array.getElem?_eq_some_iff.1 h.ho).1).trans h.ho,(hb.block _ (Array.getElem?_eq_some_iff.1 h.hs).1).trans h.hs,fO h.hb hb⟩
theorem TrnAt.setS{w wr:ϑ}{κ η o s:Φ}{n:Nat}(h:TrnAt w κ η n o s wr)(s':Φ):TrnAt w κ η n o s' (wr.setRow (w.heap.size+1+1+1) (aa 64 s')) :=
 ⟨(ax Ω).trans h.hk,(ax Ω).trans h.hn,(ax Ω).trans h.ho,aF h.hs,aZ h.hb Ω _⟩
theorem TrnAt.setO{w wr:ϑ}{κ η o s:Φ}{n:Nat}(h:TrnAt w κ η n o s wr){i:Nat}(x:Γ)(hi:i<n):TrnAt w κ η n (upd o i x) s (wr.setCell ⟨w.heap.size+1+1,i,none⟩ (.int .u8 (B8 x))) :=
 ⟨(Xh _ _ _ _ Ϟ).trans h.hk,(Xh _ _ _ _ Ϡ).trans h.hn,bv _ h.ho hi,(Xh _ _ _ _ Ϡ).trans h.hs,h.hb.setCell Ϟ _⟩
theorem TrnAt.drew{w wr:ϑ}{κ η o s:Φ}{n:Nat}(h:TrnAt w κ η n o s wr):TrnAt w κ η n o s wr.drew:=⟨h.hk,h.hn,h.ho,h.hs,h.hb.drew⟩
theorem oK(κ η:Φ)(n:Int)(v:ό)(l:Δ)(w:ϑ)(hv:BRow w v l)(hl:l.length≤1000000000) :
 ϓ 255 #[.agg (aa 32 κ),.int .i64 n,.agg (aa 12 η),v] w fun e Z=>(∃v',e= .returned v'∧BRow Z v' (dv κ (BitVec.ofInt 32 n) η l))∧Υ w Z:=by
 have hcv:=yo n;obtain⟨a,c,rfl,hnil,hp⟩:=hv;have HP:=Hd hp;have HL:=Hd hl;have hmk:=FS l.length hl;clear hp hl hnil;generalize BitVec.ofInt 32 n=c0 at *
 go_enter func255,ntmps255;go_wp2_with (with_reducible refine az rfl 75 rfl 64 _ gF ?_);have HA:=Hd (show TrnAt w κ η l.length (rX κ c0 η l 0) (sAt κ c0 η 0) ((((w.alloc (.cells (aa 32 κ) 24)).alloc (.cells (aa 12 η) 161)).alloc (.cells (aa l.length fun _=>0) 5)).alloc (.cells (row 64 fun _=> .int .u8 0) 75))from by
  refine⟨?_,?_,?_,?_,aD (aD (aD (aD (XE _ _) _) _) _) _⟩
  ·refine(Xf _ _ _ Ϟ).trans ((Xf _ _ _ Ϟ).trans ((Xf _ _ _ Ϡ).trans (Xe _ _)))
  ·refine(Xf _ _ _ Ϡ).trans ((Xf _ _ _ Ϡ).trans ?_)
   have:=Xe (w.alloc (.cells (aa 32 κ) 24)) (.cells (aa 12 η) 161);simpa using this
  ·refine(Xf _ _ _ Ϡ).trans ?_
   have:=Xe ((w.alloc (.cells (aa 32 κ) 24)).alloc (.cells (aa 12 η) 161)) (.cells (aa l.length fun _=>0) 5);have e:aa l.length (rX κ c0 η l 0)=aa l.length fun _=>0:=am fun i _=>by simp[rX]
   rw[e];simpa using this
  ·have:=Xe (((w.alloc (.cells (aa 32 κ) 24)).alloc (.cells (aa 12 η) 161)).alloc (.cells (aa l.length fun _=>0) 5)) (.cells (row 64 fun _=> .int .u8 0) 75)
   have e:aa 64 (sAt κ c0 η 0)=row 64 fun _=> .int .u8 0:=rfl;rw[e];simpa using this)
 generalize(((w.alloc (.cells (aa 32 κ) 24)).alloc (.cells (aa 12 η) 161)).alloc (.cells (aa l.length fun _=>0) 5)).alloc (.cells (row 64 fun _=> .int .u8 0) 75)=Wzq at *
 have hadd':=gH;clear hmk hcv;have HC0:=Hd (show c0=cAt c0 0 from by simp[cAt]);go_loopw [11,21] (fun cc i wr=>∃k:Nat,k≤l.length∧i= .int .i64 k∧cc= .int .u32 (U (cAt c0 k))∧TrnAt w κ η l.length (rX κ c0 η l k) (sAt κ c0 η k) wr) (fun _ i _=>l.length-(intOf i).toNat);case atStart=>exact⟨0,Yb _,rfl,by rw[← HC0.out],HA.out⟩
 case round =>
  clear HA;obtain⟨k,hk,rfl,rfl,hA⟩:=hrel;have HA:=Hd hA;clear hA;by_cases hw:k<l.length
  ·obtain⟨b,off,ha,hbl,hcells⟩:=HP.out Ω
   subst ha;have hk0:(0:Int)≤(k:Int):=Ω;have hk1:(k:Int)<(l.length:Int):=Ω;have hk2:(k:Int)<1000000000:=by have:=HL.out;omega
   have ci:=(HA.out.hb.cell (p:=⟨b,off+k,none⟩) hbl).trans (hcells k hw);have HCI:=Hd ci;clear hcells;by_cases hm:k%64=0
   ·have hm0:(k:Int)%64=0:=Ω
    have HOS:=Hd (uf κ c0 η l k hw);rw[hm]at HOS;have HSN:=Hd (gX κ c0 η k);have HCH:=Hd (yr c0 hm);have HCN:=Hd (GW c0 hm);have HBK:=Hd (fun w=>ue κ η (U (cAt c0 k)) w);rw[Cd,HCH.out,← HSN.out]at HBK;have HZ32:=Hd (show(prog.info? 24).map (·.size)=some (aa 32 κ).size by rw[ai];kernel_rfl);have HZ12:=Hd (show(prog.info? 161).map (·.size)=some (aa 12 η).size by rw[ai];kernel_rfl);have HZ64:=Hd (show(prog.info? 75).map (·.size)=some (aa 64 (sAt κ c0 η (k+1))).size by rw[ai,kT]);obtain⟨u0,u1⟩:=kX (cAt c0 k);clear hm;rw[← HCH.out]at HBK;generalize sAt κ c0 η (k+1)=s1 at *
    generalize l[k]=x at *
    have hci:=HCI.out;go_wp2_with (first
     | ((refine ϗ (.load 24 _) ?_);refine XW rfl 24 _ rfl w.heap.size rfl 24 (aa 32 κ) (0,0) _ HA.out.hk underlying24 rfl HZ32.out ?_)
     | ((refine ϗ (.load 161 _) ?_);refine XW rfl 161 _ rfl (w.heap.size+1) rfl 161 (aa 12 η) (0,0) _ HA.out.hn underlying161 rfl HZ12.out ?_))
    refine(HBK.out _).mono ?_;rintro e w2⟨rfl,hb2⟩;have HA2:=Hd (HA.out.keep hb2);have HB2:=Hd (fO HA.out.hb hb2);clear hb2 ci hci;have hx:=je x (s1 0);have hc1:IntKind.u32.wrap (U (cAt c0 k)+1)=U (cAt c0 (k+1)):=by rw[HCN.out];exact iI _ 1
    have hc2:(U (cAt c0 k)+1)%4294967296=U (cAt c0 (k+1)):=by rw[HCN.out];exact gH _ 1
    go_wp2_with ((refine ϗ (.store 75 _ _) ?_);refine Xu rfl 75 _ _ rfl rfl (w.heap.size+1+1+1) (aa 64 s1) rfl rfl 75 _ HA2.out.hs HZ64.out (by rw[ai,ai]) (bS _ _) ?_;have HA3:=Hd (HA2.out.setS s1);generalize w2.setRow (w.heap.size+1+1+1) (aa 64 s1)=w3 at *; have cs:w3.cell? ⟨w.heap.size+1+1+1,0,none⟩=some (.int .u8 (B8 (s1 0))):=a9 HA3.out.hs Ξ;have co:w3.cell? ⟨w.heap.size+1+1,k,none⟩=some (.int .u8 (B8 (rX κ c0 η l k k))):=a9 HA3.out.ho hw;have fo:w3.frozen? ⟨w.heap.size+1+1,k,none⟩=false:=Xi w3 _ _ _ _ HA3.out.ho);go_roundw;case rel=>exact⟨k+1,Ω,by go_num,rfl,by rw[← HOS.out,gX,← HSN.out];exact HA3.out.setO _ hw⟩
    case measure=>exact ϝ
   ·have hm0:((k:Int)%64==0)=false:=by
     rw[Zl];omega
    have hm1:((k:Int)%64=0)=False:=eq_false Ω;have HOS:=Hd (uf κ c0 η l k hw);rw[nC κ c0 η hm]at HOS;have HSN:=Hd (nC κ c0 η hm);have HCN:=Hd (GX c0 hm);clear hm;generalize l[k]=x at *
    generalize sAt κ c0 η k=s1 at *
    have cs:wr.cell? ⟨w.heap.size+1+1+1,k%64,none⟩=some (.int .u8 (B8 (s1 (k%64)))):=a9 HA.out.hs Ω;have co:wr.cell? ⟨w.heap.size+1+1,k,none⟩=some (.int .u8 (B8 (rX κ c0 η l k k))):=a9 HA.out.ho hw;have fo:wr.frozen? ⟨w.heap.size+1+1,k,none⟩=false:=Xi wr _ _ _ _ HA.out.ho;have hx:=je x (s1 (k%64));go_wp2_with fail;go_roundw;case rel=>exact⟨k+1,Ω,by go_num,by rw[HCN.out],by rw[← HOS.out,HSN.out];exact HA.out.setO _ hw⟩
    case measure=>exact ϝ
  ·obtain rfl:k=l.length:=Ω
   go_wp2_with fail;go_ret;exact⟨⟨_,rfl,by rw[← DD];exact yt HA.out.ho⟩,HA.out.hb⟩
section
open R3
def cW(n:Nat):Nat:=(16-n%16)%16
def noL(n:Nat):Δ:=ae n fun _=>0
def dY(n:Nat):Δ:=ae 8 (ah n)
def AC(beside c:Δ):Δ:=[beside,noL (cW beside.length),c,noL (cW c.length),dY beside.length,dY c.length].flatten
def f8(κ η:Φ)(c beside:Δ):Nat→Γ:=ah (tS (dX κ (BitVec.ofInt 32 0) η) (fun i=>(AC beside c).getD i 0) (AC beside c).length)
def nD(κ η:Φ)(plain beside:Δ):Δ:=dv κ (BitVec.ofInt 32 1) η plain++ae 16 (f8 κ η (dv κ (BitVec.ofInt 32 1) η plain) beside)
theorem oL(beside c:Δ):(AC beside c).length≤beside.length+c.length+48:=by
 unfold AC noL dY cW;simp only[XP,Yz,Xa,ag,ZB];omega
section
variable {ops:Array Oper} {rest:List Oper} {o:Oper} {a:Act} {D w:ϑ} {M M':Mem} {Q:ώ} {K:Act→ϑ→Prop}
theorem NK(I:Loc D w M){t e:ϋ}{x0 x1 x2 x3 x4 x5:Operand}(ho:o.op= .buildSlice t 6 #[(0,x0),(1,x1),(2,x2),(3,x3),(4,x4),(5,x5)])[he:Elt t e]{p0 p1 p2 p3 p4 p5:ϊ}{n0 n1 n2 n3 n4 n5 c0 c1 c2 c3 c4 c5:Nat}(h0:a.eval x0= .slice p0 n0 c0)(h1:a.eval x1= .slice p1 n1 c1)(h2:a.eval x2= .slice p2 n2 c2)(h3:a.eval x3= .slice p3 n3 c3)(h4:a.eval x4= .slice p4 n4 c4)(h5:a.eval x5= .slice p5 n5 c5)(h:∀b Z,Loc D Z ((b, #[.slice p0 n0 c0,.slice p1 n1 c1,.slice p2 n2 c2,.slice p3 n3 c3,.slice p4 n4 c4,.slice p5 n5 c5],e)::M)→K (a.put o.dst (.slice (ϐ b) 6 6)) Z):o.wp prog a w K Q:=by
 obtain⟨i,z,hi,hz,hs1,hb,hzs⟩:=he.info;refine Yl t e 6 #[(0,x0),(1,x1),(2,x2),(3,x3),(4,x4),(5,x5)] ho #[.slice p0 n0 c0,.slice p1 n1 c1,.slice p2 n2 c2,.slice p3 n3 c3,.slice p4 n4 c4,.slice p5 n5 c5] i z he.und hi hz (by rw[hs1];decide) (by rw[hs1];omega) ?_ (h _ _ (I.alloc _ e));rw[hs1];have e:(Array.map (fun(y:Nat×Operand)=>(y.1,a.eval y.2)) #[(0,x0),(1,x1),(2,x2),(3,x3),(4,x4),(5,x5)]).toList=[(0,Value.slice p0 n0 c0),(1,Value.slice p1 n1 c1),(2,Value.slice p2 n2 c2),(3,Value.slice p3 n3 c3),(4,Value.slice p4 n4 c4),(5,Value.slice p5 n5 c5)]:=by simp[h0,h1,h2,h3,h4,h5]
 rw[e];have e1:Array.range 6= #[0,1,2,3,4,5]:=rfl;simp[Instr.fill,Value.cells,e1]
end
theorem nE(n:Nat)(hn:n≤1000000000)(w:ϑ):ϓ 290 #[.int .i64 n] w fun e Z=>∃g,e= .returned (.slice (ϐ g) (cW n) (cW n))∧Loc w Z [(g,aa (cW n) fun _=>0,5)]:=by
 have I:=Loc.nil w;have n0:(0:Int)≤n:=Ω;have n1:(n:Int)≤1000000000:=Ω;have e1:(16-(n:Int)%16)%16=((cW n:Nat):Int):=by unfold cW;omega
 have hr:cW n≤1000000000:=by unfold cW;omega
 generalize cW n=r at *
 go_enter func290,ntmps290;go_wp2_with (first|refine aU ?_|(refine gN 7 ?_;refine mn I rfl rfl (XH (Value.int .i64) e1) (XH (Value.int .i64) e1) hr fun g7 J I=>?_;refine p4 ?_)|refine ab fun J I=>?_);go_ret;exact⟨g7,rfl,I⟩
instance UV:Ent 290:=eo func290
theorem ln(n:Nat)(hn:n≤1000000000)(w:ϑ):ϓ 291 #[.int .i64 n] w fun e Z=>∃g,e= .returned (.slice (ϐ g) 8 8)∧Loc w Z [(g,aa 8 (ah n),5)]:=by
 have I:=Loc.nil w;have n0:(0:Int)≤n:=Ω;have n1:(n:Int)≤1000000000:=Ω;have HZ:=Hd (show(aa 8 fun _=>0)=aa 8 (byX n 0)from am fun i _=>by unfold byX;rw[Χ Ω]);have H8:=Hd (show aa 8 (byX n 8)=aa 8 (ah n)from am fun i hi=>by unfold byX;rw[Ρ hi]);go_enter func291,ntmps291;go_wp2_with (first|refine aU ?_|(refine gN 5 ?_;refine mn (n:=8) I rfl rfl rfl rfl Ξ fun g5 J I=>?_;refine p4 ?_)|refine ab fun J I=>?_);rw[HZ.out]at I;go_loopw [8] (fun kk wr=>∃k:Nat,k≤8∧kk= .int .i64 k∧Loc w wr [(g5,aa 8 (byX n k),5)]) (fun kk _=>8-(intOf kk).toNat);case atStart=>exact⟨0,Ω,rfl,I⟩
 case round =>
  clear I;obtain⟨k,hk,rfl,I⟩:=hrel;by_cases hw:k<8
  ·have hk0:(0:Int)≤(k:Int):=Ω
   have hk1:(k:Int)<8:=Ω;haveI g2:Put (aa 8 (byX n k)) k (.int .u8 ((n:Int)/2^(8*k)%256)) (aa 8 (byX n (k+1))):=by
    have e:(n:Int)/2^(8*k)%256=B8 (ah n k):=by
     unfold B8 ah;rw[Xv];have:(2:Int)^(8*k)=((2^(8*k):Nat):Int):=by rw[YM];rfl
     rw[this];omega
    rw[e];exact bm hw (am fun j hj=>by
     unfold upd byX;by_cases c:j=k
     ·subst c;rw[Ρ rfl,Ρ Ω]
     ·rw[Χ c];dsimp only;by_cases d:j<k
      ·rw[Ρ d,Ρ Ω]
      ·rw[Χ d,Χ Ω])
   have e3:8*(k:Int)=((8*k:Nat):Int):=Ω;have e4:(0:Int)≤((8*k:Nat):Int):=Ω;have e5:((8*k:Nat):Int)<64:=Ω;generalize 8*k=s at *
   clear HZ H8;go_wp2_with (refine ϛ fun J I=>?_);go_roundw;case rel=>exact⟨k+1,Ω,by go_num,I⟩
   case measure=>exact ϝ
  ·obtain rfl:k=8:=Ω
   rw[H8.out]at I;go_wp2_with (refine ϛ fun J I=>?_);go_ret;exact⟨g5,rfl,I⟩
instance UW:Ent 291:=eo func291
instance UX:Ent 255:=eo func255
instance UY:RowTy 161 12:=⟨⟨_,underlying161,rfl⟩,Θ⟩
theorem DE(f:Φ):Part (aa 64 f) 75 0 24 (aa 32 f):=⟨fun j v hv=>by
 rw[Array.getElem?_toList]at hv;have hj:j<32:=by have:=(Array.getElem?_eq_some_iff.1 hv).1;simpa[aa,aS] using this
 rw[show(aa 32 f)[j]?=some (.int .u8 (B8 (f j)))from bG _ hj]at hv;rw[← hv,XA];exact bG _ Ω⟩
theorem DF{w:ϑ}{g c:Nat}{t:ϋ}{fr:Nat×Nat}{v0 v1 v2 v3 v4 v5:ό}{m0 m1 m2 m3 m4 m5:Δ}(h:w.heap[g]?=some (.cells #[v0,v1,v2,v3,v4,v5] t fr))(h0:BRow w v0 m0)(h1:BRow w v1 m1)(h2:BRow w v2 m2)(h3:BRow w v3 m3)(h4:BRow w v4 m4)(h5:BRow w v5 m5) :
 BRows w (.slice (ϐ g) 6 c) [m0,m1,m2,m3,m4,m5] :=
 mW [v0,v1,v2,v3,v4,v5] [m0,m1,m2,m3,m4,m5] h rfl (fun i hi=>by
  match i,hi with
  | 0,_=>exact h0
  | 1,_=>exact h1
  | 2,_=>exact h2
  | 3,_=>exact h3
  | 4,_=>exact h4
  | 5,_=>exact h5)
instance UZ(n:Nat):Seg (aa n fun _=>0) 0 n (ak (noL n)):=fD n _
instance WX(n:Nat):Seg (aa 8 (ah n)) 0 8 (ak (dY n)):=fD 8 _
theorem oN(κ η:Φ)(vb vs:ό)(c beside:Δ)(w:ϑ)(hb:BRow w vb c)(hs:BRow w vs beside)(h1:c.length≤100000)(h2:beside.length≤100000) :
 Rt 254 #[.agg (aa 32 κ),.agg (aa 12 η),vb,vs] w (.agg (aa 16 (f8 κ η c beside))):=by
 have I:=Loc.nil w;haveI hA1:Arg w vb (ak c):=⟨hb.vrow⟩;haveI hA2:Arg w vs (ak beside):=⟨hs.vrow⟩;obtain⟨pb,cb,rfl⟩:=hb.shape;obtain⟨ps,cs,rfl⟩:=hs.shape;have χ:=oL beside c;have HS:=Hd (fun J (v:ό) (h:BRows J v [beside,noL (cW beside.length),c,noL (cW c.length),dY beside.length,dY c.length]) =>
  (show Rt 289 #[.agg (aa 32 (dX κ (BitVec.ofInt 32 0) η)),v] J (.agg (aa 16 (f8 κ η c beside)))from
   yl (dX κ (BitVec.ofInt 32 0) η) v _ J h Ϡ (by show(AC beside c).length≤_;omega)))
 have HBL:=Hd (fun J=>ue κ η 0 J);have HR1:=Hd (fun J=>nE beside.length Ω J);have HR2:=Hd (fun J=>nE c.length Ω J);have HE1:=Hd (fun J=>ln beside.length Ω J);have HE2:=Hd (fun J=>ln c.length Ω J);have hpt:=DE;have harr:=kL;generalize f8 κ η c beside=Tzq at *
 clear χ hb hs h1 h2;go_enter func254,ntmps254;go_wp2_with (first|refine aU ?_|refine gBp 4 fun b4 J I=>?_|refine gBp 5 fun b5 J I=>?_|refine gBp 8 fun b8 J I=>?_|refine gBp 9 fun b9 J I=>?_|(go_at_call 288;go_loud (refine(HBL.out _).mono ?_);rintro e J⟨rfl,V⟩;replace I:=I.keep V;refine p4 ?_)|refine ab fun J I=>?_);refine mX (S:=fun Z=>Loc _ Z _) 20 (Loc.rem b8 (I.drew)) ?_;intro H;replace I:=I.drew;refine uG 0 ?_;refine uG 3 ?_;refine uG 4 ?_;refine uG 7 ?_;refine uG 8 ?_;refine uG 11 ?_;refine uG 14 ?_;refine uG 1 ?_;refine uG 5 ?_;refine uG 9 ?_;refine uG 12 ?_;refine uG 15 ?_;refine uZ 2 ?_;refine rd1 6 fun K T=>?_;refine eK (HR1.out _) ?_;rintro e J⟨g19,rfl,hN⟩;refine⟨_,rfl,?_⟩;refine Ϧ (I.join hN) fun I=>?_;refine kO T (Loc.rem b8 (I.pop)) fun H=>?_;refine rd1 10 fun K T=>?_;refine eK (HR2.out _) ?_;rintro e J⟨g23,rfl,hN⟩;refine⟨_,rfl,?_⟩;refine Ϧ (I.join hN) fun I=>?_;refine kO T (Loc.rem b8 (I.pop.pop)) fun H=>?_;refine rd1 13 fun K T=>?_;refine eK (HE1.out _) ?_;rintro e J⟨g26,rfl,hN⟩;refine⟨_,rfl,?_⟩;refine Ϧ (I.join hN) fun I=>?_;refine kO T (Loc.rem b8 (I.pop.pop.pop)) fun H=>?_;refine rd1 16 fun K T=>?_;refine eK (HE2.out _) ?_;rintro e J⟨g29,rfl,hN⟩;refine⟨_,rfl,?_⟩;refine Ϧ (I.join hN) fun I=>?_;refine kO T (Loc.rem b8 (I.pop.pop.pop.pop)) fun H=>?_;refine rd1 17 fun K T=>?_
 first|refine NK I rfl rfl rfl rfl rfl rfl rfl fun b30 J Y=>?_
 clear I;have I:=Y;clear Y;refine kO T (Loc.rem b8 (I.pop.pop.pop.pop.pop)) fun H=>?_;refine rd1 18 fun K T=>?_;refine eVv (HS.out _ _ (DF (I.get (.head _)) (See.bytes I) (See.bytes I) (See.bytes I) (See.bytes I) (See.bytes I) (See.bytes I))) I fun J I=>?_;refine kO T (Loc.rem b8 (I.pop.pop.pop.pop.pop)) fun H=>?_;refine rd1 19 fun K T=>?_;refine cY fun J I=>?_;refine kO T (Loc.rem b8 (I.pop.pop.pop.pop.pop)) fun H=>?_;refine wD ?_;clear H;go_wp2_with (refine ϛ fun J I=>?_);exact Λ
instance U0:Ent 254:=eo func254
theorem oO(κ η:Φ)(pb:ϊ)(cb n:Nat)(vs:ό)(l beside:Δ)(w:ϑ)(hn:l.length=n+16)(hb:BRow w (.slice pb l.length cb) l)(hcap:l.length≤cb)(hs:BRow w vs beside)(h1:l.length≤100000)(h2:beside.length≤100000)(heq:ae 16 (f8 κ η (l.take n) beside)=l.drop n) :
 ϓ 214 #[.agg (aa 32 κ),.agg (aa 12 η),.slice pb l.length cb,vs] w fun e Z=>∃v',e= .returned (.tuple #[v',.int .i64 0])∧BRow Z v' (dv κ (BitVec.ofInt 32 1) η (l.take n))∧Υ w Z:=by
 have I:=Loc.nil w;have htk:(l.take n).length=n:=by rw[Xr];omega
 have hd:(l.drop n).length=16:=by rw[Xz];omega
 have B1:=hb.cutHi (k:=n) Ω hcap;have B2:=hb.cutLo (i:=n) Ω hcap;rw[show l.length-n=16 from by omega]at B2;obtain⟨ps,cs,rfl⟩:=hs.shape;have HT:=Hd (fun J (V:Υ w J)=>oN κ η (.slice pb n cb) (.slice ps beside.length cs) (l.take n) beside J (B1.below V) (hs.below V) Ω h2);have HS:=Hd (fun J (V:Υ w J) (u:ό) (hu:BRow J u (ae 16 (f8 κ η (l.take n) beside)))=>(show Rt 239 #[u,.slice (eR pb cb n) 16 (cb-n)] J (.bool true)from
  by have:=oI u (.slice (eR pb cb n) 16 (cb-n)) _ _ J hu (B2.below V) (by rw[ag];omega);rwa[Xw heq]at this))
 have HU:=Hd (fun J (V:Υ w J)=>oK κ η 1 (.slice pb n cb) (l.take n) J (B1.below V) Ω);have s1:=fun J=>ko (A:=pb) (n:=l.length) (c:=cb) (k:=n) Ω J;have s2:=fun J=>km (A:=pb) (n:=l.length) (c:=cb) (i:=n) Ω J;rw[show l.length-n=16 from by omega]at s2;have e1:(l.length:Int)-16=(n:Int):=Ω;generalize eR pb cb n=pc at *
 have n0:(0:Int)≤n:=Ω;have n2:(n:Int)≤100000:=Ω;clear hb hs B1 B2 heq hn hcap h1 h2 htk hd;generalize f8 κ η (l.take n) beside=Tzq,l.length=L at *
 go_enter func214,ntmps214;go_wp2_with (first|refine aU ?_|refine gBp 4 fun b4 J I=>?_|refine gBp 5 fun b5 J I=>?_|refine ab fun J I=>?_);refine eQ (R:=?R) (fun hR=>?h1) ?h2;case h1 =>
  refine mX (S:=fun Z=>Loc _ Z _) 9 (I.drew) ?_;intro H;replace I:=I.drew;refine uZ 0 ?_;refine uZ 1 ?_;refine uG 2 ?_;refine uG 3 ?_;refine uG 5 ?_;refine uG 4 ?_;refine rd2 6 7 ?_ ?_
  ·intro K T
   refine eVv (HT.out _ I.bel) I ?_;clear I;intro J I;refine kO T (I) ?_;clear T K H;intro H;refine rd1 7 fun K T=>?_;refine eA I rfl ?_;clear I;intro b11 J I;refine kO T (I.pop) ?_;clear T K H;intro H;refine rd1 8 fun K T=>?_;refine cY ?_;clear I;intro J I;refine kO T (I.pop) ?_;clear T K H;intro H;refine wD ?_;clear H;have hLp:=I;clear I;revert hLp;revert J;revert b11;exact pm hR
  ·intro K T
   refine eA I rfl ?_;clear I;intro b11 J I;refine kO T (I.pop) ?_;clear T K H;intro H;refine rd1 6 fun K T=>?_;refine eVv (HT.out _ I.bel) I ?_;clear I;intro J I;refine kO T (I.pop) ?_;clear T K H;intro H;refine rd1 8 fun K T=>?_;refine cY ?_;clear I;intro J I;refine kO T (I.pop) ?_;clear T K H;intro H;refine wD ?_;clear H;have hLp:=I;clear I;revert hLp;revert J;revert b11;exact pm hR
 intro b11 J Y;clear I;have I:=Y;clear Y;go_wp2_with (refine ϛ fun J I=>?_);refine Ϭ 6 I fun H I=>?_;refine uG 0 ?_;refine uG 1 ?_;refine uG 2 ?_;refine uG 3 ?_;refine rd1 4 fun K T=>?_;refine eVv (HS.out _ I.bel (.slice (ϐ b11) 16 16) (See.bytes I)) I fun J I=>?_;refine kO T (I) ?_;clear T K H;intro H;refine uG 5 ?_;refine wD ?_;clear H;go_wp2_with (refine ϛ fun J I=>?_);refine Ϭ 8 I fun H I=>?_;refine uZ 0 ?_;refine uZ 1 ?_;refine uG 2 ?_;refine uG 3 ?_;refine uG 4 ?_;refine rd1 5 fun K T=>?_;refine eK (HU.out _ I.bel) ?_;rintro e J⟨⟨v35,rfl,W35⟩,hb35⟩;refine⟨_,rfl,?_⟩;have Y:=I.keep hb35;refine Ϫ Y fun I=>?_;refine kO T (I) ?_;clear T K H;intro H;refine uG 6 ?_;refine uG 7 ?_;refine wD ?_;clear H;go_wp2_with (refine ϛ fun J I=>?_);go_ret2;exact⟨v35,rfl,W35,I.bel⟩
theorem oP(κ η:Φ)(pb:ϊ)(cb n:Nat)(vs:ό)(l beside:Δ)(w:ϑ)(hn:l.length=n+16)(hb:BRow w (.slice pb l.length cb) l)(hcap:l.length≤cb)(hs:BRow w vs beside)(h1:l.length≤100000)(h2:beside.length≤100000)(heq:ae 16 (f8 κ η (l.take n) beside)≠l.drop n) :
 Rt 214 #[.agg (aa 32 κ),.agg (aa 12 η),.slice pb l.length cb,vs] w (.tuple #[.slice none 0 0,.int .i64 10]):=by
 have I:=Loc.nil w;have htk:(l.take n).length=n:=by rw[Xr];omega
 have hd:(l.drop n).length=16:=by rw[Xz];omega
 have B1:=hb.cutHi (k:=n) Ω hcap;have B2:=hb.cutLo (i:=n) Ω hcap;rw[show l.length-n=16 from by omega]at B2;obtain⟨ps,cs,rfl⟩:=hs.shape;have HT:=Hd (fun J (V:Υ w J)=>oN κ η (.slice pb n cb) (.slice ps beside.length cs) (l.take n) beside J (B1.below V) (hs.below V) Ω h2);have HS:=Hd (fun J (V:Υ w J) (u:ό) (hu:BRow J u (ae 16 (f8 κ η (l.take n) beside)))=>(show Rt 239 #[u,.slice (eR pb cb n) 16 (cb-n)] J (.bool false)from
  by have:=oI u (.slice (eR pb cb n) 16 (cb-n)) _ _ J hu (B2.below V) (by rw[ag];omega);rwa[XB heq]at this))
 have HU:=Hd (fun J (V:Υ w J)=>oK κ η 1 (.slice pb n cb) (l.take n) J (B1.below V) Ω);have s1:=fun J=>ko (A:=pb) (n:=l.length) (c:=cb) (k:=n) Ω J;have s2:=fun J=>km (A:=pb) (n:=l.length) (c:=cb) (i:=n) Ω J;rw[show l.length-n=16 from by omega]at s2;have e1:(l.length:Int)-16=(n:Int):=Ω;generalize eR pb cb n=pc at *
 have n0:(0:Int)≤n:=Ω;have n2:(n:Int)≤100000:=Ω;clear hb hs B1 B2 heq hn hcap h1 h2 htk hd;generalize f8 κ η (l.take n) beside=Tzq,l.length=L at *
 go_enter func214,ntmps214;go_wp2_with (first|refine aU ?_|refine gBp 4 fun b4 J I=>?_|refine gBp 5 fun b5 J I=>?_|refine ab fun J I=>?_);refine eQ (R:=?R_2) (fun hR=>?h1_2) ?h2_2;case h1_2 =>
  refine mX (S:=fun Z=>Loc _ Z _) 9 (I.drew) ?_;intro H;replace I:=I.drew;refine uZ 0 ?_;refine uZ 1 ?_;refine uG 2 ?_;refine uG 3 ?_;refine uG 5 ?_;refine uG 4 ?_;refine rd2 6 7 ?_ ?_
  ·intro K T
   refine eVv (HT.out _ I.bel) I ?_;clear I;intro J I;refine kO T (I) ?_;clear T K H;intro H;refine rd1 7 fun K T=>?_;refine eA I rfl ?_;clear I;intro b11 J I;refine kO T (I.pop) ?_;clear T K H;intro H;refine rd1 8 fun K T=>?_;refine cY ?_;clear I;intro J I;refine kO T (I.pop) ?_;clear T K H;intro H;refine wD ?_;clear H;have hLp:=I;clear I;revert hLp;revert J;revert b11;exact pm hR
  ·intro K T
   refine eA I rfl ?_;clear I;intro b11 J I;refine kO T (I.pop) ?_;clear T K H;intro H;refine rd1 6 fun K T=>?_;refine eVv (HT.out _ I.bel) I ?_;clear I;intro J I;refine kO T (I.pop) ?_;clear T K H;intro H;refine rd1 8 fun K T=>?_;refine cY ?_;clear I;intro J I;refine kO T (I.pop) ?_;clear T K H;intro H;refine wD ?_;clear H;have hLp:=I;clear I;revert hLp;revert J;revert b11;exact pm hR
 intro b11 J Y;clear I;have I:=Y;clear Y;go_wp2_with (refine ϛ fun J I=>?_);refine Ϭ 6 I fun H I=>?_;refine uG 0 ?_;refine uG 1 ?_;refine uG 2 ?_;refine uG 3 ?_;refine rd1 4 fun K T=>?_;refine eVv (HS.out _ I.bel (.slice (ϐ b11) 16 16) (See.bytes I)) I fun J I=>?_;refine kO T (I) ?_;clear T K H;intro H;refine uG 5 ?_;refine wD ?_;clear H;go_wp2_with (refine ϛ fun J I=>?_);skip;go_wp2_with (refine ϛ fun J I=>?_)
 all_goals(go_ret2;exact⟨rfl,I.bel⟩)
instance U1:Ent 214:=eo func214
end
theorem vO{w Z:ϑ}{b o:Nat}(h:Z.heap[b]?=w.heap[b]?):Z.cell? ⟨b,o,none⟩=w.cell? ⟨b,o,none⟩:=by
 unfold World.cell?;simp only[h]
theorem rY{w Z:ϑ}{b o:Nat}(h:Z.heap[b]?=w.heap[b]?):Z.frozen? ⟨b,o,none⟩=w.frozen? ⟨b,o,none⟩:=by
 unfold World.frozen?;simp only[h]
def RoomAt(lo hi:Nat)(a:ϊ)(n W:Nat)(o:Φ)(wr:ϑ):Prop :=
 0<n→∃g S,a=some ⟨g,0,none⟩∧lo≤g∧g<hi∧n≤W∧wr.heap[g]?=some (.cells (row W S) 5 (0,0))∧∀i,i<n→S i= .int .u8 (B8 (o i))
theorem OwnB.room{w:ϑ}{base:Nat}{v:ό}{l:Δ}(h:OwnB w base v l):∃a W,v= .slice a l.length W∧((a=none→W=0)∧W≤maxLen)∧RoomAt base w.heap.size a l.length W (fun i=>l.getD i 0) w:=by
 have hw:=World.ownsRow.lt h;rcases h.2 with⟨rfl,h1⟩|⟨g,W,E,rfl,hb,hg,hn,hm,hs,ht⟩
 ·exact⟨none,0,by rw[h1],⟨fun _=>rfl,Yb _⟩,fun hc=>by omega⟩
 ·refine⟨_,W,rfl,⟨(fun hc=>by cases hc),hm⟩,fun h0=>⟨g,fun i=>E[i]?.getD undef,rfl,hb,(hw g rfl).2,hn,?_,fun i hi=>?_⟩⟩
  ·rw[hg]
   congr 2;apply Array.ext';apply Zr
   ·simp[row,hs]
   ·intro i h1 h2
    have:i<E.size:=by simpa using h1
    simp[row,this]
  ·have h2:(E.toList.take (l.length*1))[i]?=(ak l)[i]?:=by rw[ht]
   rw[List.getElem?_take_of_lt Ω]at h2;rw[Array.getElem?_toList]at h2;show E[i]?.getD undef=_;rw[h2];simp[ak,hi]
theorem RoomAt.keep{lo hi:Nat}{a:ϊ}{n W:Nat}{o:Φ}{wr Z:ϑ}(h:RoomAt lo hi a n W o wr)(hk:∀g,g<hi→Z.heap[g]?=wr.heap[g]?):RoomAt lo hi a n W o Z:=fun h0=>by
 obtain⟨g,S,h1,h2,h3,h4,h5,h6⟩:=h h0;exact⟨g,S,h1,h2,h3,h4,(hk g h3).trans h5,h6⟩
theorem RoomAt.brow{lo hi:Nat}{a:ϊ}{n W:Nat}{o:Φ}{wr:ϑ}(h:RoomAt lo hi a n W o wr)(hn:a=none→W=0):BRow wr (.slice a n W) ((List.range n).map o):=by
 refine⟨a,W,Ϡ,hn,fun h0=>?_⟩;have h0:0<n:=by simpa using h0
 obtain⟨g,S,rfl,h2,h3,h4,h5,h6⟩:=h h0;refine⟨g,0,rfl,(Array.getElem?_eq_some_iff.1 h5).1,fun i hi=>?_⟩;have hi:i<n:=by simpa using hi
 rw[XA,aR h5 Ω,h6 i hi];simp
def pe(κ:Φ)(c:BitVec 32)(η:Φ)(l:Δ)(k:Nat):Nat→Γ:=fun i=>if i<k then l.getD i 0^^^GS κ c η i else l.getD i 0
theorem ug(κ:Φ)(c:BitVec 32)(η:Φ)(l:Δ)(k:Nat)(h:k<l.length):upd (pe κ c η l k) k (l[k]^^^sAt κ c η (k+1) (k%64))=pe κ c η l (k+1):=by
 rw[gX];funext i;unfold upd pe;by_cases e:i=k
 ·subst e;simp[h,GS]
 ·rw[Χ e]
  by_cases hi:i<k
  ·rw[Ρ hi,Ρ Ω]
  ·rw[Χ hi,Χ Ω]
theorem DG(κ:Φ)(c:BitVec 32)(η:Φ)(l:Δ)(k:Nat)(h:k<l.length):pe κ c η l k k=l[k]:=by simp[pe,h]
theorem DH(κ:Φ)(c:BitVec 32)(η:Φ)(l:Δ):(List.range l.length).map (pe κ c η l l.length)=dv κ c η l:=by
 apply Zr
 ·simp[dc]
 ·intro i h1 h2
  have hi:i<l.length:=by simpa using h1
  simp[pe,dv,hi]
structure RtnAt(w:ϑ)(κ η:Φ)(a:ϊ)(n W gs:Nat)(o s:Φ)(wr:ϑ):Prop where
 hk:wr.heap[w.heap.size]?=some (.cells (aa 32 κ) 24 (0,0))
 hn:wr.heap[w.heap.size+1]?=some (.cells (aa 12 η) 161 (0,0))
 ho:RoomAt (w.heap.size+2) gs a n W o wr
 hs:wr.heap[gs]?=some (.cells (aa 64 s) 75 (0,0))
 lg:w.heap.size+2≤gs
 hb:Υ w wr
theorem RtnAt.keep{w wr Z:ϑ}{κ η o s:Φ}{a:ϊ}{n W gs:Nat}(h:RtnAt w κ η a n W gs o s wr)(hb:Υ wr Z):RtnAt w κ η a n W gs o s Z:=by
 have hw:=(Array.getElem?_eq_some_iff.1 h.hs).1;exact⟨(hb.block _ (Array.getElem?_eq_some_iff.1 h.hk).1).trans h.hk,(hb.block _ (Array.getElem?_eq_some_iff.1 h.hn).1).trans h.hn,h.ho.keep fun g hg=>hb.block g Ω,(hb.block _ hw).trans h.hs,h.lg,fO h.hb hb⟩
theorem RtnAt.setS{w wr:ϑ}{κ η o s:Φ}{a:ϊ}{n W gs:Nat}(h:RtnAt w κ η a n W gs o s wr)(s':Φ):RtnAt w κ η a n W gs o s' (wr.setRow gs (aa 64 s')):=by
 have hlg:=h.lg;exact⟨(ax Ω).trans h.hk,(ax Ω).trans h.hn,h.ho.keep fun g hg=>ax Ω,aF h.hs,h.lg,aZ h.hb Ω _⟩
theorem RtnAt.setO{w wr:ϑ}{κ η o s:Φ}{g n W gs:Nat}(h:RtnAt w κ η (ϐ g) n W gs o s wr){i:Nat}(x:Γ)(hi:i<n)(m:Nat):RtnAt w κ η (ϐ g) n W gs (upd o i x) s ((wr.setCell ⟨g,i,none⟩ (.int .u8 (B8 x))).drewN m):=by
 obtain⟨g',S,e,h2,h3,h4,h5,h6⟩:=h.ho Ω;cases e
 refine⟨(Xh _ _ _ _ Ϟ).trans h.hk,(Xh _ _ _ _ Ϟ).trans h.hn,fun _=>⟨g,_,rfl,h2,h3,h4,bH _ h5 Ω,fun j hj=>?_⟩,(Xh _ _ _ _ Ϟ).trans h.hs,h.lg,dT (h.hb.setCell Ϟ _) m⟩;unfold upd;by_cases e:j=i
 ·rw[Ρ e,Ρ e]
 ·rw[Χ e,Χ e];exact h6 j hj
theorem vP(κ η:Φ)(n:Int)(v:ό)(l:Δ)(w:ϑ)(hv:BRow w v l)(hl:l.length≤1000000000) :
 ϓ 136 #[.agg (aa 32 κ),.int .i64 n,.agg (aa 12 η),v] w fun e Z=>(∃a W hi,e= .returned (.slice a l.length W)∧((a=none→W=0)∧W≤maxLen)∧RoomAt (w.heap.size+2) hi a l.length W (pe κ (BitVec.ofInt 32 n) η l l.length) Z)∧Υ w Z:=by
 have hand:=rV n;have hcv2:n%4294967296=U (BitVec.ofInt 32 n):=by rw[jB]
 rw[hcv2]at hand;have HV:=Hd hv;obtain⟨a,c,rfl,hnil,hp⟩:=hv;have HL:=Hd hl;clear hp hl hnil hcv2;generalize BitVec.ofInt 32 n=c0 at *
 go_enter func136,ntmps136;go_wp2_with (first
  | (at_builtin;refine bD rfl (.const (.slice none 0 0)) (.tmp 13) rfl _ _ [] l rfl (World.ownsRow_nil _ _ _ _) (HV.out.below (aD (aD (XE _ _) _) _)) (by have:=HL.out;simp;omega) (Xn _) ?_;intro v1 J hown1 hg1;rw[List.nil_append]at hown1;have HO1:=Hd hown1;have HG1:=Hd hg1;clear hown1 hg1;obtain⟨a1,Y1,rfl,hn1,hr1⟩:=HO1.out.room;have HN1:=Hd hn1;have HR1:=Hd hr1;clear hn1 hr1)
  | (with_reducible refine az rfl 75 rfl 64 _ gF ?_))
 obtain⟨gs,egs⟩:∃gs,gs=J.heap.size:=⟨_,rfl⟩;have V:Υ w J:=(aD (aD (XE w.heap.size w) (.cells (aa 32 κ) 24)) (.cells (aa 12 η) 161)).grown HG1.out Ϟ (fun k hk=>by cases hk);have HA:=Hd (show RtnAt w κ η a1 l.length Y1 gs (pe κ c0 η l 0) (sAt κ c0 η 0) (J.alloc (.cells (row 64 fun _=> .int .u8 0) 75))from by
  have hg1:=HG1.out;have hz:=hg1.size;have e0:pe κ c0 η l 0=fun i=>l.getD i 0:=by funext i;simp[pe]
  simp only[World.size_alloc]at hz;subst egs;refine⟨?_,?_,?_,Xe _ _,Ω,aD V _⟩
  ·refine(Xf _ _ _ Ω).trans ((hg1.block _ Ϟ nofun).trans ((Xf _ _ _ Ϡ).trans (Xe _ _)))
  ·refine(Xf _ _ _ Ω).trans ((hg1.block _ Ϡ nofun).trans ?_)
   have:=Xe (w.alloc (.cells (aa 32 κ) 24)) (.cells (aa 12 η) 161);simpa using this
  ·rw[e0]
   have hr:=HR1.out;simp only[World.size_alloc]at hr;exact hr.keep fun g hg=>Xf _ _ _ hg)
 generalize J.alloc (.cells (row 64 fun _=> .int .u8 0) 75)=Wzq at *
 rw[← egs];clear egs V hand HG1 HO1 HR1;obtain⟨uc0,uc1⟩:=kX c0;go_loopw [12] (fun i wr=>∃k:Nat,k≤l.length∧i= .int .i64 k∧RtnAt w κ η a1 l.length Y1 gs (pe κ c0 η l k) (sAt κ c0 η k) wr) (fun i _=>l.length-(intOf i).toNat);case atStart=>exact⟨0,Yb _,rfl,HA.out⟩
 case round =>
  clear HA;obtain⟨k,hk,rfl,hA⟩:=hrel;have HA:=Hd hA;clear hA;by_cases hw:k<l.length
  ·obtain⟨g,S,ha,hg1,hg2,hcap,hgh,hS⟩:=HA.out.ho Ω
   subst ha;have hk0:(0:Int)≤(k:Int):=Ω;have hk1:(k:Int)<(l.length:Int):=Ω;have hk2:(k:Int)<1000000000:=by have:=HL.out;omega
   have hS1:=hS k hw;rw[DG κ c0 η l k hw]at hS1;have ci:wr.cell? ⟨g,k,none⟩=some (.int .u8 (B8 l[k])):=by rw[aR hgh Ω,hS1]
   have fi:wr.frozen? ⟨g,k,none⟩=false:=Xi wr _ _ _ _ hgh;have HGH:=Hd hgh;clear hgh hS hS1;by_cases hm:k%64=0
   ·have hm0:(k:Int)%64=0:=Ω
    have HOS:=Hd (ug κ c0 η l k hw);rw[hm]at HOS;have HSN:=Hd (gX κ c0 η k);have HBK:=Hd (fun w=>nB κ η (U c0+(k:Int)/64) w);rw[show U c0+(k:Int)/64=U c0+((k/64:Nat):Int) by omega,DC,Cd,← HSN.out,show U c0+((k/64:Nat):Int)=U c0+(k:Int)/64 by omega]at HBK;have HZ32:=Hd (show(prog.info? 24).map (·.size)=some (aa 32 κ).size by rw[ai];kernel_rfl);have HZ12:=Hd (show(prog.info? 161).map (·.size)=some (aa 12 η).size by rw[ai];kernel_rfl);have HZ64:=Hd (show(prog.info? 75).map (·.size)=some (aa 64 (sAt κ c0 η (k+1))).size by rw[ai,kT]);clear hm;generalize sAt κ c0 η (k+1)=s1 at *
    generalize l[k]=x at *
    have HCI:=Hd ci;have HFI:=Hd fi;clear ci fi;go_wp2_with (first
     | ((refine ϗ (.load 24 _) ?_);refine XW rfl 24 _ rfl w.heap.size rfl 24 (aa 32 κ) (0,0) _ HA.out.hk underlying24 rfl HZ32.out ?_)
     | ((refine ϗ (.load 161 _) ?_);refine XW rfl 161 _ rfl (w.heap.size+1) rfl 161 (aa 12 η) (0,0) _ HA.out.hn underlying161 rfl HZ12.out ?_))
    refine(HBK.out _).mono ?_;rintro e w2⟨rfl,hb2⟩;have HA2:=Hd (HA.out.keep hb2);have ci2:=(hb2.cell (p:=⟨g,k,none⟩) (Array.getElem?_eq_some_iff.1 HGH.out).1).trans HCI.out;have fi2:=(hb2.frozen (p:=⟨g,k,none⟩) (Array.getElem?_eq_some_iff.1 HGH.out).1).trans HFI.out;have HCI2:=Hd ci2;have HFI2:=Hd fi2;clear hb2 ci2 fi2;have hx:=je x (s1 0);go_wp2_with ((refine ϗ (.store 75 _ _) ?_);refine Xu rfl 75 _ _ rfl rfl gs (aa 64 s1) rfl rfl 75 _ HA2.out.hs HZ64.out (by rw[ai,ai]) (bS _ _) ?_;have HA3:=Hd (HA2.out.setS s1);have cs:(w2.setRow gs (aa 64 s1)).cell? ⟨gs,0,none⟩=some (.int .u8 (B8 (s1 0))):=a9 HA3.out.hs Ξ;have co:(w2.setRow gs (aa 64 s1)).cell? ⟨g,k,none⟩=some (.int .u8 (B8 x)):=((vO (ax Ω)).trans HCI2.out);have fo:(w2.setRow gs (aa 64 s1)).frozen? ⟨g,k,none⟩=false:=((rY (ax Ω)).trans HFI2.out);generalize w2.setRow gs (aa 64 s1)=w3 at *);have t3:((k:Int)).tmod 64=0:=by rw[XF hk0];exact hm0
    go_still_tail 12,Θ;clear t3;change wpList _ _ _ _ _ w3.drew;go_wp2_with fail;go_roundw;case rel=>exact⟨k+1,Ω,by go_num,by rw[← HOS.out,gX,← HSN.out];exact HA3.out.setO _ hw 1⟩
    case measure=>exact ϝ
   ·have hm0:((k:Int)%64==0)=false:=by
     rw[Zl];omega
    have hm1:((k:Int)%64=0)=False:=eq_false Ω;have HOS:=Hd (ug κ c0 η l k hw);rw[nC κ c0 η hm]at HOS;have HSN:=Hd (nC κ c0 η hm);clear hm;generalize l[k]=x at *
    generalize sAt κ c0 η k=s1 at *
    have cs:wr.cell? ⟨gs,k%64,none⟩=some (.int .u8 (B8 (s1 (k%64)))):=a9 HA.out.hs Ω;have hx:=je x (s1 (k%64));go_wp2_with fail;have t3:((k:Int)).tmod 64=(k:Int)%64:=by rw[XF hk0]
    have t4:(0:Int)≤(k:Int)%64:=Ω;have t5:(k:Int)%64<64:=Ω;have t6:((k:Int)%64).toNat=k%64:=Ω;go_still_tail 12,Θ;clear t3 t4 t5 t6;change wpList _ _ _ _ _ wr.drew;go_wp2_with fail;go_roundw;case rel=>exact⟨k+1,Ω,by go_num,by rw[← HOS.out,HSN.out];exact HA.out.setO _ hw 1⟩
    case measure=>exact ϝ
  ·obtain rfl:k=l.length:=Ω
   go_wp2_with fail;go_ret;exact⟨⟨_,_,_,rfl,HN1.out,HA.out.ho⟩,HA.out.hb⟩
section
open R3
theorem GY(n:Nat):noL (n+1)=noL n++[0]:=by
 unfold noL ae;rw[List.range_succ,XQ];rfl
theorem fJ(n:Nat):(noL n).length=n:=ag _ _
theorem rZ{D w:ϑ}{M:Mem}{g W:Nat}{E:Ψ}{l:Δ}(hr:OwnR E l.length W (ak l))(hl:l.length≤1000000)(I:Loc D w ((g,E,5)::M)) :
 ϓ 192 #[.slice (ϐ g) l.length W] w fun e Z=>∃g' cap' cur',e= .returned (.slice (ϐ g') (l++noL (cW l.length)).length cap')∧OwnR cur' (l++noL (cW l.length)).length cap' (ak (l++noL (cW l.length)))∧Loc D Z ((g',cur',5)::M):=by
 go_enter func192,ntmps192;go_wp2_with (refine ϛ fun J I=>?_);go_loopw [0] (fun v wr=>∃(z g W:Nat) (E:Ψ),z≤cW l.length∧v= .slice (ϐ g) (l++noL z).length W∧OwnR E (l++noL z).length W (ak (l++noL z))∧Loc D wr ((g,E,5)::M)) (fun v _=>1000016-Shb.lenOf v);case atStart=>exact⟨0,g,W,E,Ω,by simp[noL,ae],by simpa[noL,ae] using hr,I⟩
 case round =>
  clear I hr;obtain⟨z,g,W,E,hz,rfl,hr,I⟩:=hrel;have χ:(l++noL z).length=l.length+z:=by rw[Xa,fJ]
  have hz2:cW l.length=(16-l.length%16)%16:=rfl;by_cases hzl:z<cW l.length
  ·have hm:¬((l++noL z).length:Int)%16=0:=by rw[χ];omega
   have HN:=Hd (show l++noL (z+1)=l++noL z++[0]from by rw[GY,Xc]);have hk:(l++noL z).length≤1000016:=Ω;have HM:=Hd (show(l++noL z).length<1000016 from Ω);clear χ hz2;generalize l++noL z=m at *
   haveI sb:Seg #[Value.int IntKind.u8 0] 0 1 (ak [0]):=il 0;go_wp2_with (first|refine aU ?_|(refine gN 8 ?_;refine aL fun b8 J I=>?_)|(refine gN 9 ?_;refine aA ?_;intro g9 Y9 Z9 J W9 I)|refine ab fun J I=>?_);go_roundw;case rel=>exact⟨z+1,g9,Y9,Z9,Ω,by rw[HN.out,Xa];rfl,by rw[HN.out,Xa];exact W9,I.pop⟩
   case measure=>have:=HM.out;simp only[Shb.lenOf];omega
  ·obtain rfl:z=cW l.length:=Ω
   have hm:((l++noL (cW l.length)).length:Int)%16=0:=by rw[χ];omega
   clear χ hz2 hzl;obtain⟨m,hme⟩:∃m,m=l++noL (cW l.length):=⟨_,rfl⟩;rw[← hme]at hr hm ⊢;have HME:=Hd hme;clear hme;go_wp2_with (refine ϛ fun J I=>?_);go_ret;have:=HME.out;subst this;exact⟨g,W,E,rfl,hr,I⟩
instance U2:Ent 192:=eo func192
theorem AD(n i:Nat):ae (i+1) (ah n)=ae i (ah n)++[ah n i]:=by
 unfold ae;rw[List.range_succ,XQ];rfl
theorem lp(n:Nat)(hn:n≤1000000000)(w:ϑ):ϓ 193 #[.int .i64 n] w fun e Z=>∃g W E,e= .returned (.slice (ϐ g) 8 W)∧OwnR E 8 W (ak (dY n))∧Loc w Z [(g,E,5)]:=by
 have I:=Loc.nil w;have n0:(0:Int)≤n:=Ω;have n1:(n:Int)≤1000000000:=Ω;go_enter func193,ntmps193;go_wp2_with (refine ϛ fun J I=>?_);go_loopw [3,4] (fun v kk wr=>∃k:Nat,k≤8∧kk= .int .i64 k∧((k=0∧v= .slice none 0 0∧Loc w wr [])∨(0<k∧∃g W E,v= .slice (ϐ g) (ae k (ah n)).length W∧OwnR E (ae k (ah n)).length W (ak (ae k (ah n)))∧Loc w wr [(g,E,5)]))) (fun _ kk _=>8-(intOf kk).toNat);case atStart=>exact⟨0,Ω,rfl,.inl ⟨rfl,rfl,I⟩⟩
 case round =>
  clear I;obtain⟨k,hk,rfl,hrel⟩:=hrel;by_cases hw:k<8
  ·have hk0:(0:Int)≤(k:Int):=Ω
   have hk1:(k:Int)<8:=Ω;have HST:=Hd (AD n k);have ha:=and_255 ((n:Int)/2^(8*k));have e:(n:Int)/2^(8*k)%256=B8 (ah n k):=by
    unfold B8 ah;rw[Xv];have:(2:Int)^(8*k)=((2^(8*k):Nat):Int):=by rw[YM];rfl
    rw[this];omega
   rw[e]at ha;obtain⟨b0,b1⟩:=bP (ah n k);have w8:IntKind.u8.wrap (B8 (ah n k))=B8 (ah n k):=by rw[X7];omega
   haveI sb:Seg #[Value.int IntKind.u8 (B8 (ah n k))] 0 1 (ak [ah n k]):=il _;have e3:8*(k:Int)=((8*k:Nat):Int):=Ω;have e4:(0:Int)≤((8*k:Nat):Int):=Ω;have e5:((8*k:Nat):Int)<64:=Ω;clear e;rcases hrel with⟨rfl,rfl,I⟩|⟨hpos,g,W,E,rfl,hr,I⟩
   ·simp only[XO,Int.pow_zero,Int.ediv_one]at ha
    generalize ah n 0=x at *
    generalize B8 x=y at *
    go_wp2_with (first|refine aU ?_|(refine gN 17 ?_;refine aL fun b17 J I=>?_)|(refine gN 18 ?_;refine aNb ?_;intro g18 Y18 Z18 J W18 I)|refine ab fun J I=>?_);go_roundw;case rel=>exact⟨1,Ω,rfl,.inr ⟨Ω,g18,Y18,Z18,by rw[HST.out];rfl,by rw[HST.out];exact W18,Loc.rem b17 I⟩⟩
    case measure=>simp[intOf]
   ·have hlk:(ae k (ah n)).length≤8:=by rw[ag];omega
    generalize ah n k=x at *
    generalize B8 x=y,8*k=s,ae k (ah n)=m at *
    go_wp2_with (first|refine aU ?_|(refine gN 17 ?_;refine aL fun b17 J I=>?_)|(refine gN 18 ?_;refine aA ?_;intro g18 Y18 Z18 J W18 I)|refine ab fun J I=>?_);go_roundw;case rel=>exact⟨k+1,Ω,by go_num,.inr ⟨Ω,g18,Y18,Z18,by rw[HST.out,Xa];rfl,by rw[HST.out,Xa];exact W18,I.pop⟩⟩
    case measure=>exact ϝ
  ·obtain rfl:k=8:=Ω
   rcases hrel with⟨hc,_⟩|⟨hpos,g,W,E,rfl,hr,I⟩
   ·omega
   ·rw[show((8:Nat):Int)=8 from rfl]
    obtain⟨m,hme⟩:∃m,m=ae 8 (ah n):=⟨_,rfl⟩;rw[← hme]at hr ⊢;have HME:=Hd hme;clear hme;go_wp2_with (refine ϛ fun J I=>?_);go_ret;have:=HME.out;subst this;have h8:(ae 8 (ah n)).length=8:=ag _ _;rw[h8]at hr;exact⟨g,W,E,XH (fun k=>Ending.returned (.slice (ϐ g) k W)) h8,hr,I⟩
instance U3:Ent 193:=eo func193
theorem kE(κ η:Φ)(n:Int)(v:ό)(l:Δ)(w:ϑ)(hv:BRow w v l)(h0:0<l.length)(hl:l.length≤1000000000) :
 ϓ 136 #[.agg (aa 32 κ),.int .i64 n,.agg (aa 12 η),v] w fun e Z=>∃g W E,e= .returned (.slice (ϐ g) (dv κ (BitVec.ofInt 32 n) η l).length W)∧OwnR E (dv κ (BitVec.ofInt 32 n) η l).length W (ak (dv κ (BitVec.ofInt 32 n) η l))∧Loc w Z [(g,E,5)] :=
 (vP κ η n v l w hv hl).mono fun e Z h=>by
  obtain⟨⟨a,W,hi,rfl,h1,h2⟩,hb⟩:=h;obtain⟨g,S,rfl,l1,l2,l3,l4,l5⟩:=h2 h0;have χ:=dc κ (BitVec.ofInt 32 n) η l;refine⟨g,W,row W S,by rw[χ],⟨ap _,bY _,aS _ _,by rw[χ];exact l3,h1.2,?_⟩,⟨hb,fun b r t hm=>?_,List.pairwise_singleton _ _⟩⟩
  ·rw[χ,← DH]
   apply Zr
   ·simp[row,ak,l3]
   ·intro i i1 i2
    have hi:i<l.length:=by simpa[ak] using i2
    simp only[row,List.getElem_take,List.getElem_map,List.getElem_range,ak];exact l5 i hi
  ·have hm:=List.mem_singleton.1 hm
   cases hm
   exact⟨Ω,l4⟩
instance U4:Ent 136:=eo func136
theorem DI(n m:Nat):cW (n+cW n+m)=cW m:=by unfold cW;omega
theorem my(κ η:Φ)(vb vs:ό)(c beside:Δ)(w:ϑ)(hb:BRow w vb c)(hs:BRow w vs beside)(c0:0<c.length)(s0:0<beside.length)(h1:c.length≤100000)(h2:beside.length≤100000) :
 Rt 137 #[.agg (aa 32 κ),.agg (aa 12 η),vb,vs] w (.agg (aa 16 (f8 κ η c beside))):=by
 have I:=Loc.nil w;haveI hA1:Arg w vb (ak c):=⟨hb.vrow⟩;haveI hA2:Arg w vs (ak beside):=⟨hs.vrow⟩;obtain⟨pb,cb,rfl⟩:=hb.shape;obtain⟨ps,cs,rfl⟩:=hs.shape;have χ:=oL beside c;obtain⟨m1,hm1⟩:∃m1,m1=beside++noL (cW beside.length):=⟨_,rfl⟩;obtain⟨m2,hm2⟩:∃m2,m2=m1++c++noL (cW (m1++c).length):=⟨_,rfl⟩;have hmt:AC beside c=m2++dY beside.length++dY c.length:=by
  rw[hm2,hm1,Xa,Xa,fJ,DI];unfold AC;simp only[XP,Yz,Yf,Xc]
 have hl1:m1.length≤100016:=by rw[hm1,Xa,fJ];unfold cW;omega
 have hl2:m2.length≤200100:=by rw[hm2,Xa,Xa,fJ];unfold cW;omega
 have hl3:0<(m2++dY beside.length++dY c.length).length:=by simp[dY,ag]
 have HP:=Hd (fun J (u:ό) (hu:BRow J u (m2++dY beside.length++dY c.length))=>(show Rt 194 #[.agg (aa 32 (dX κ (BitVec.ofInt 32 0) η)),u] J (.agg (aa 16 (f8 κ η c beside)))from by
  have:=yg (dX κ (BitVec.ofInt 32 0) η) u _ J hu hl3 (by rw[← hmt];omega);rw[← hmt]at this;exact this))
 have HBL:=Hd (fun J=>nB κ η 0 J);have HF1:=Hd (fun(J:ϑ) (M:Mem) (g W:Nat) (E:Ψ) (hr:OwnR E beside.length W (ak beside)) (I:Loc w J ((g,E,5)::M))=>(rZ hr Ω I));have HF2:=Hd (fun(J:ϑ) (M:Mem) (g W:Nat) (E:Ψ) (hr:OwnR E (m1++c).length W (ak (m1++c))) (I:Loc w J ((g,E,5)::M))=>(rZ hr (by rw[Xa];omega) I));rw[← hm1]at HF1;rw[← hm2]at HF2;simp only[show(m1++c).length=m1.length+c.length from Xa]at HF2;have HE1:=Hd (fun J=>lp beside.length Ω J);have HE2:=Hd (fun J=>lp c.length Ω J);haveI sg:Seg (aa 64 (dX κ (BitVec.ofInt 32 0) η)) 0 32 (ak (ae 32 (dX κ (BitVec.ofInt 32 0) η))):=by
  have:=segB (n:=64) (dX κ (BitVec.ofInt 32 0) η) 0 32 Ω;simpa using this
 haveI sp:Spl (aa 32 fun _=>0) 0 (ak (ae 32 (dX κ (BitVec.ofInt 32 0) η))) (aa 32 (dX κ (BitVec.ofInt 32 0) η)):=k6 _ _ _ Ω fun i hi=>by rw[Ρ ⟨Ω,Ω⟩];rfl
 generalize f8 κ η c beside=Tzq,dX κ (BitVec.ofInt 32 0) η=B at *
 have h32:(ak (ae 32 B)).length=32:=by rw[ap,ag]
 clear χ hb hs hmt hl3 hm1 hm2;generalize dY beside.length=x1,dY c.length=x2 at *
 go_enter func137,ntmps137;go_wp2_with (first|refine aU ?_|refine gBp 4 fun b4 J I=>?_|refine gBp 5 fun b5 J I=>?_|refine gBp 8 fun b8 J I=>?_|refine gBp 9 fun b9 J I=>?_|refine gBp 10 fun b10 J I=>?_|(go_at_call 191;go_loud (refine(HBL.out _).mono ?_);rintro e J⟨rfl,V⟩;replace I:=I.keep V;refine p4 ?_)|refine ab fun J I=>?_);refine mX (S:=fun Z=>Loc _ Z _) 3 (Loc.rem b10 (I.drew)) ?_;intro H;replace I:=I.drew;refine uG 0 ?_;refine uG 1 ?_;refine rd1 2 fun K T=>?_;refine eCp fun J I=>?_;refine kO T (Loc.rem b10 (I)) fun H=>?_;refine wD ?_;clear H;go_wp2_with (first|refine aU ?_|(refine gN 19 ?_;(refine lP I rfl rfl rfl rfl s0 ϖ fun g19 Y19 Z19 J W19 Y=>?_);clear I;have I:=Y;clear Y;refine p4 ?_)|(refine gN 20 ?_;refine lKk (HF1.out _ _ _ _ _ W19 I) ?_;rintro e J⟨g20,Y20,Z20,rfl,W20,Y⟩;refine Ϥ Y fun I=>?_)|(refine gN 23 ?_;refine aA ?_;intro g23 Y23 Z23 J W23 I)|(refine gN 24 ?_;refine lKk (HF2.out _ _ _ _ _ W23 I) ?_;rintro e J⟨g24,Y24,Z24,rfl,W24,Y⟩;refine Ϥ Y fun I=>?_)|(refine gN 28 ?_;refine lKk (HE1.out _) ?_;rintro e J⟨g28,Y28,Z28,rfl,W28,hN⟩;refine Ϩ (I.join hN) fun I=>?_)|(refine gN 29 ?_;refine aA ?_;intro g29 Y29 Z29 J W29 I)|(refine gN 32 ?_;refine lKk (HE2.out _) ?_;rintro e J⟨g32,Y32,Z32,rfl,W32,hN⟩;refine Ϩ (I.join hN) fun I=>?_)|(refine gN 33 ?_;refine aA ?_;intro g33 Y33 Z33 J W33 I)|(go_at_call 194;go_loud (refine(HP.out _ (.slice (ϐ g33) (m2.length+8+8) Y33) (See.bytes I)).mono ?_);rintro e J⟨rfl,V⟩;replace I:=I.keep V;refine p4 ?_)|refine ab fun J I=>?_);exact Λ
theorem oQ(κ η:Φ)(vb vs:ό)(p beside:Δ)(w:ϑ)(hb:BRow w vb p)(hs:BRow w vs beside)(c0:0<p.length)(s0:0<beside.length)(h1:p.length≤100000)(h2:beside.length≤100000) :
 ϓ 84 #[.agg (aa 32 κ),.agg (aa 12 η),vb,vs] w fun e Z=>∃g W E,e= .returned (.slice (ϐ g) (p.length+16) W)∧OwnR E (p.length+16) W (ak (nD κ η p beside))∧Loc w Z [(g,E,5)]:=by
 have I:=Loc.nil w;obtain⟨ps,cs,rfl⟩:=hs.shape;obtain⟨pb,cb,rfl⟩:=hb.shape;obtain⟨C,hC⟩:∃C,C=dv κ (BitVec.ofInt 32 1) η p:=⟨_,rfl⟩;have hCl:C.length=p.length:=by rw[hC,dc]
 have hsl:nD κ η p beside=C++ae 16 (f8 κ η C beside):=by rw[hC];rfl
 have HU:=Hd (fun J (V:Υ w J)=>kE κ η 1 (.slice pb p.length cb) p J (hb.below V) c0 Ω);rw[← hC,hCl]at HU;have HT:=Hd (fun J (V:Υ w J) (u:ό) (hu:BRow J u C)=>my κ η u (.slice ps beside.length cs) C beside J hu (hs.below V) Ω s0 Ω h2);rw[hsl];generalize f8 κ η C beside=Tzq at *
 have h16:(ak (ae 16 Tzq)).length=16:=by rw[ap,ag]
 have hp:p.length≤100000:=h1;clear hb hs hC hsl;generalize hn:p.length=n at *
 clear hn;go_enter func84,ntmps84;go_wp2_with (first|refine aU ?_|refine gBp 4 fun b4 J I=>?_|refine gBp 5 fun b5 J I=>?_|(refine gN 14 ?_;refine lKk (HU.out _ I.bel) ?_;rintro e J⟨g14,Y14,Z14,rfl,W14,hN⟩;refine Ϩ (I.join hN) fun I=>?_)|refine gBp 10 fun b10 J I=>?_|(go_at_call 137;go_loud (refine(HT.out _ I.bel (.slice (ϐ g14) n Y14) (See.bytes I)).mono ?_);rintro e J⟨rfl,V⟩;replace I:=I.keep V;refine p4 ?_)|(refine gN 22 ?_;refine aA ?_;intro g22 Y22 Z22 J W22 I)|refine ab fun J I=>?_);go_ret;exact⟨g22,Y22,Z22,rfl,W22,Loc.rem b4 (Loc.rem b5 I.pop)⟩
instance U5:Ent 84:=eo func84
end
namespace R3
structure E4 where
 a:El
 b:El
 c:El
 d:El
def E4.v(s:E4):L4:=⟨s.a.v,s.b.v,s.c.v,s.d.v⟩
def a24:El:=⟨fun i=>if i=0 then 121665 else 0,fun i _=>by
 by_cases h:i=0
 ·rw[Ρ h];omega
 ·rw[Χ h];omega⟩
theorem NL:a24.v=121665:=by
 show zF (bF _ 16)=121665;decide +kernel
def oR(x:El)(s:E4):E4 :=
 let p:=s.a.add s.b
 let m:=s.a.sub s.b
 let e:=(p.mul p).sub (m.mul m)
 let da:=(s.c.sub s.d).mul p
 let cb:=(s.c.add s.d).mul m
 ⟨(p.mul p).mul (m.mul m),e.mul ((p.mul p).add (a24.mul e)),(da.add cb).mul (da.add cb),x.mul ((da.sub cb).mul (da.sub cb))⟩
theorem Ce(x:El)(s:E4):(oR x s).v=gg x.v s.v:=by
 unfold oR gg E4.v;simp only[El.mul_v,El.add_v,El.sub_v,NL]
def E4.swap(s:E4):E4:=⟨s.c,s.d,s.a,s.b⟩
def ic(x:El)(n:Nat):Nat→E4
 | 0=>⟨El.one,El.zero,x,El.one⟩
 | k+1=>if n/2^(254-k)%2=1 then(oR x (ic x n k).swap).swap else oR x (ic x n k)
theorem GZ(x:El)(n:Nat):∀k,(ic x n k).v=lad x.v n k
 | 0=>by
  show E4.v ⟨El.one,El.zero,x,El.one⟩=_;unfold E4.v lad;simp only[El.one_v,El.zero_v]
 | k+1=>by
  have ih:=GZ x n k;show E4.v (if n/2^(254-k)%2=1 then(oR x (ic x n k).swap).swap else oR x (ic x n k))=if n/2^(254-k)%2=1 then _ else gg x.v (lad x.v n k);by_cases h:n/2^(254-k)%2=1
  ·rw[Ρ h,Ρ h,← ih]
   have e:=Ce x (ic x n k).swap;have e1:(ic x n k).swap.v=⟨(ic x n k).v.c,(ic x n k).v.d,(ic x n k).v.a,(ic x n k).v.b⟩:=rfl;rw[e1]at e;rw[← e];rfl
  ·rw[Χ h,Χ h,← ih,Ce]
theorem DJ(w:ϑ):Rt 132 #[.int .i64 121665] w (.agg (rowEl a24)):=by
 have I:=Loc.nil w;haveI g1:Put (aq 16 fun _=>0) 0 (.int .i64 121665) (rowEl a24):=ec Ω fun i hi=>by
  rfl
 go_enter func132,ntmps132;go_wp2_with (refine aQq fun _ J I=>?_);exact Λ
instance U6:FnC 132 #[.int .i64 121665] (.agg (rowEl a24)):=⟨DJ⟩
theorem DK(w:ϑ):(Instr.build 147 #[]).run prog w= .ok (.agg (rowEl El.zero)) w:=Θ
theorem ta(fk fu:Φ)(w:ϑ):Rt 86 #[.agg (aa 32 fk),.agg (aa 32 fu)] w (.agg (aa 32 (ah (a7 fk fu)))):=by
 have I:=Loc.nil w;haveI g1:Cell (aa 32 fu) 31 (.int .u8 (B8 (fu 31))):=aO _ Ω;haveI g2:Put (aa 32 fu) 31 (.int .u8 (bits .and .u8 (B8 (fu 31)) 127)) (aa 32 (dy fu)):=bm Ω (py fu);obtain⟨n,hn⟩:∃n,n=bJ (leN fk):=⟨_,rfl⟩;obtain⟨kb,hkb⟩:∃kb,kb=ah (bJ (leN fk)):=⟨_,rfl⟩;obtain⟨x,hx⟩:∃x,x=El.of (leN (dy fu)):=⟨_,rfl⟩;have HB:=Hd (fun i=> @qI kb i);have hle:leN kb=n:=by rw[hkb,hn,bT (kK _)]
 rw[hle]at HB;have hout:a7 fk fu=((ic x n 255).a.mul (El.inv (ic x n 255).b)).v.val:=by
  rw[pK,← hn,El.mul_v,El.inv_v];have h:=GZ x n 255;rw[hx,El.of_v (fX _),← hx]at h;unfold db;rw[← h];rfl
 rw[hout];haveI fc:FnC 127 #[.agg (aa 32 fk)] (.agg (aa 32 kb)):=by rw[hkb];infer_instance
 haveI fi:FnC 140 #[.agg (aa 32 (dy fu))] (.agg (rowEl x)):=by rw[hx];infer_instance
 generalize hT:ic x n 255=Tzq;have HT0:=Hd hT;clear hT hout hle hn hkb hx;generalize dy fu=fv at *
 go_enter func86,ntmps86;go_wp2_with (first|refine gBp 2 fun b2 J I=>?_|refine gBp 3 fun b3 J I=>?_|refine gBp 4 fun b4 J I=>?_|refine gBp 5 fun b5 J I=>?_|refine gBp 6 fun b6 J I=>?_|refine gBp 7 fun b7 J I=>?_|refine gBp 8 fun b8 J I=>?_|refine gBp 9 fun b9 J I=>?_|((refine ϗ (.build _ _) ?_);refine lU I rfl rfl DK rfl fun J I=>?_)|refine aQq fun _ J I=>?_);go_loopw [10] (fun kk wr=>∃j:Nat,j≤255∧kk= .int .i64 (254-(j:Int))∧Loc w wr [(b9,rowEl (ic x n j).d,147),(b8,rowEl (ic x n j).c,147),(b7,rowEl (ic x n j).b,147),(b6,rowEl (ic x n j).a,147),(b5,rowEl x,147),(b4,aa 32 fun _=>0,24),(b3,aa 32 fv,24),(b2,aa 32 kb,24)]) (fun kk _=>(intOf kk+1).toNat);case atStart=>exact⟨0,Ω,rfl,I⟩
 case round =>
  clear I;obtain⟨j,hj,rfl,I⟩:=hrel;by_cases hw:j<255
  ·have HT:=Hd (show ic x n (j+1)=if n/2^(254-j)%2=1 then(oR x (ic x n j).swap).swap else oR x (ic x n j)from rfl)
   have hv:=HB.out (254-j) Ω;obtain⟨k,hk⟩:∃k,k=254-j:=⟨_,rfl⟩;rw[← hk]at hv HT;have ek:254-(j:Int)=(k:Int):=Ω;rw[ek];have hk1:k<255:=Ω;haveI g1:Cell (aa 32 kb) (k/8) (.int .u8 (B8 (kb (k/8)))):=aO _ Ω;obtain⟨b0,b1⟩:=bP (kb (k/8));have k0:(0:Int)≤(k:Int):=Ω;have HK:=Hd hk;have e1:(k:Int)/8=((k/8:Nat):Int):=Ω;have e2:(k:Int)%8=((k%8:Nat):Int):=Ω;have e3:(k:Int).tdiv 8=((k/8:Nat):Int):=by rw[X6 Ω];omega
   have e4:(k:Int).tmod 8=((k%8:Nat):Int):=by rw[XF Ω];omega
   have q0:(0:Int)≤((k/8:Nat):Int):=Ω;have q1:((k/8:Nat):Int)<32:=Ω;have r0:(0:Int)≤((k%8:Nat):Int):=Ω;have r1:((k%8:Nat):Int)<8:=Ω;generalize ic x n j=S at I HT;obtain⟨Sa,Sb,Sc,Sd⟩:=S;dsimp only at I;clear hk HT0;by_cases hbit:n/2^k%2=1
   ·rw[hbit]at hv
    rw[Ρ hbit]at HT;generalize k/8=q,k%8=r at *
    generalize B8 (kb q)=u at *
    clear hbit HB;go_wp2_with (first|refine gBp 12 fun b12 J I=>?_|refine gBp 13 fun b13 J I=>?_|refine gBp 14 fun b14 J I=>?_|refine gBp 15 fun b15 J I=>?_|refine gBp 16 fun b16 J I=>?_|refine aQp fun _ J I=>?_);refine au [(0,false),(1,false),(2,false),(3,false),(4,false)] [(5,_,147)] [6] Θ Θ ⟨⟨_,rfl,rfl,rfl⟩,Ϙ,trivial⟩ I ?_;refine pF ?_;refine fA ?_;refine aC fun b=>?_;refine fB fun J I=>?_;go_wp2_with fail;refine au [(0,false),(1,false),(2,false),(3,false),(4,false)] [(5,_,147)] [6] Θ Θ ⟨⟨_,rfl,rfl,rfl⟩,Ϙ,trivial⟩ I ?_;refine pF ?_;refine fA ?_;refine aC fun b=>?_;refine fB fun J I=>?_;go_wp2_with (first|refine gBp 19 fun b19 J I=>?_|refine gBp 20 fun b20 J I=>?_|refine aQp fun _ J I=>?_);refine wf [(0,false),(1,false),(2,false),(3,false),(4,false)] [] [5] I ?_;refine fA ?_;refine fB fun J I=>?_;go_wp2_with (refine aQp fun _ J I=>?_);refine wf [(0,false),(1,false),(2,false),(3,false),(4,false),(5,false),(6,false)] [] [7] I ?_;refine fA ?_;refine fB fun J I=>?_;go_wp2_with (refine aQp fun _ J I=>?_);go_roundw;case rel=>exact⟨j+1,Ω,by rw[show(k:Int)-1=254-((j+1:Nat):Int)from by have:=HK.out;omega],by rw[HT.out];exact I.pop.pop.pop.pop.pop.pop.pop.pop.pop⟩
    case measure=>simp[intOf]
   ·rw[show n/2^k%2=0 from by omega]at hv
    rw[Χ hbit]at HT;generalize k/8=q,k%8=r at *
    generalize B8 (kb q)=u at *
    clear hbit HB;go_wp2_with (first|refine gBp 12 fun b12 J I=>?_|refine gBp 13 fun b13 J I=>?_|refine gBp 14 fun b14 J I=>?_|refine gBp 15 fun b15 J I=>?_|refine gBp 16 fun b16 J I=>?_|refine aQp fun _ J I=>?_);refine au [(0,false),(1,false),(2,false),(3,false),(4,false)] [(5,_,147)] [6] Θ Θ ⟨⟨_,rfl,rfl,rfl⟩,Ϙ,trivial⟩ I ?_;refine pF ?_;refine fA ?_;refine aC fun b=>?_;refine fB fun J I=>?_;go_wp2_with fail;refine au [(0,false),(1,false),(2,false),(3,false),(4,false)] [(5,_,147)] [6] Θ Θ ⟨⟨_,rfl,rfl,rfl⟩,Ϙ,trivial⟩ I ?_;refine pF ?_;refine fA ?_;refine aC fun b=>?_;refine fB fun J I=>?_;go_wp2_with (first|refine gBp 19 fun b19 J I=>?_|refine gBp 20 fun b20 J I=>?_|refine aQp fun _ J I=>?_);refine wf [(0,false),(1,false),(2,false),(3,false),(4,false)] [] [5] I ?_;refine fA ?_;refine fB fun J I=>?_;go_wp2_with (refine aQp fun _ J I=>?_);refine wf [(0,false),(1,false),(2,false),(3,false),(4,false),(5,false),(6,false)] [] [7] I ?_;refine fA ?_;refine fB fun J I=>?_;go_wp2_with (refine aQp fun _ J I=>?_);go_roundw;case rel=>exact⟨j+1,Ω,by rw[show(k:Int)-1=254-((j+1:Nat):Int)from by have:=HK.out;omega],by rw[HT.out];exact I.pop.pop.pop.pop.pop.pop.pop.pop.pop⟩
    case measure=>simp[intOf]
  ·obtain rfl:j=255:=Ω
   rw[HT0.out]at I;clear HT0 HB;rw[show(254:Int)-((255:Nat):Int)= -1 from by omega];go_wp2_with (refine aQp fun _ J I=>?_);refine wf [(0,false),(1,false),(2,false),(3,false),(4,false)] [] [5] I ?_;refine fA ?_;refine fB fun J I=>?_;go_wp2_with (refine aQp fun _ J I=>?_);exact Λ
instance U7:Ent 86:=eo func86
instance U8(fk fu:Φ):FnC 86 #[.agg (aa 32 fk),.agg (aa 32 fu)] (.agg (aa 32 (ah (a7 fk fu)))):=⟨ta fk fu⟩
instance U9:Put (aa 32 fun _=>0) 0 (.int .u8 9) (aa 32 bO):=⟨Θ,by rw[ai];omega⟩
theorem oe(f:Φ)(w:ϑ):Rt 36 #[.agg (aa 32 f)] w (.agg (aa 32 (ah (a7 f bO)))):=by
 have I:=Loc.nil w;go_enter func36,ntmps36;go_wp2_with (first|refine gBp 1 fun b1 J I=>?_|refine gBp 2 fun b2 J I=>?_|refine gBp 3 fun b3 J I=>?_|refine aQq fun _ J I=>?_);exact Λ
instance Va:Ent 36:=eo func36
instance Vb(f:Φ):FnC 36 #[.agg (aa 32 f)] (.agg (aa 32 (ah (a7 f bO)))):=⟨oe f⟩
theorem lq(fk fu:Φ)(w:ϑ):Rt 83 #[.agg (aa 32 fk),.agg (aa 32 fu)] w (.tuple #[.agg (aa 32 (ah (a7 fk fu))),.int .i64 (if a7 fk fu=0 then 21 else 0)]):=by
 have I:=Loc.nil w;haveI eq1:=jp (a7 fk fu) 0 (B7 fk fu) Ξ;haveI fm:FnC 86 #[.agg (aa 32 fk),.agg (aa 32 fu)] (.agg (aa 32 (ah (a7 fk fu)))):=Ϙ;generalize a7 fk fu=z at *
 by_cases hz:z=0
 ·subst hz
  rw[Xw rfl]at eq1;rw[Ρ rfl];go_enter func83,ntmps83;go_wp2_with (first|refine gBp 2 fun b2 J I=>?_|refine gBp 3 fun b3 J I=>?_|refine gBp 4 fun b4 J I=>?_|refine gBp 6 fun b6 J I=>?_|((refine ϗ (.build _ _) ?_);refine lU I rfl rfl jA rfl fun J I=>?_)|((refine gN 12 ?_);refine lQ I rfl rfl rfl rfl fun J I=>?_)|refine aQq fun _ J I=>?_);exact Ϣ (ao rfl I rfl rfl) rfl ⟨rfl,I.bel⟩
 ·rw[XB hz]at eq1
  rw[Χ hz];go_enter func83,ntmps83;go_wp2_with (first|refine gBp 2 fun b2 J I=>?_|refine gBp 3 fun b3 J I=>?_|refine gBp 4 fun b4 J I=>?_|refine gBp 6 fun b6 J I=>?_|((refine ϗ (.build _ _) ?_);refine lU I rfl rfl jA rfl fun J I=>?_)|((refine gN 12 ?_);refine lQ I rfl rfl rfl rfl fun J I=>?_)|refine aQq fun _ J I=>?_);exact Ϣ (ao rfl I rfl rfl) rfl ⟨rfl,I.bel⟩
instance Vc:Ent 83:=eo func83
end R3
theorem r6(v vb:ό)(κ m:Δ)(w:ϑ)(hv:BRow w v κ)(hvb:BRow w vb m)(hk:0<κ.length∧κ.length≤64)(hm:m.length≤999999000)(hka:KAt w) :
 Rt 195 #[v,vb] w (.agg (aa 32 (ib κ m))):=by
 have I:=Loc.nil w;obtain⟨A,c,rfl⟩:=hv.shape;obtain⟨B,d,rfl⟩:=hvb.shape;haveI hA:Arg w (.slice A κ.length c) (ak κ):=⟨hv.vrow⟩;haveI hB:Arg w (.slice B m.length d) (ak m):=⟨hvb.vrow⟩;haveI:=vq κ 54 hk.2;haveI:=vq κ 92 hk.2;have hel:(ak κ).length=κ.length:=ap κ;have hq:¬(64:Int)<κ.length:=Ω;have HS:=Hd (fun J (V:Υ w J) u (h:BRow J u (ae 64 (pkF κ 54)++m))=>dB u (ae 64 (pkF κ 54)++m) J h (by simp[ag];omega) (hka.below V));have HT:=Hd (fun J (V:Υ w J) u (h:BRow J u (ae 64 (pkF κ 92)++ae 32 (sha (ae 64 (pkF κ 54)++m))))=>(show Rt 29 #[u] J (.agg (aa 32 (ib κ m)))from dB u _ J h (by simp[qZ,ag]) (hka.below V)));obtain⟨h0,h1⟩:=hk;generalize sha (ae 64 (pkF κ 54)++m)=S,ib κ m=Tzq at *
 clear hv hvb hka;generalize m.length=n at *
 go_enter func195,ntmps195;go_wp2_with (first|refine aU ?_|refine gBp 4 fun b4 J I=>?_|(refine gN 16 ?_;refine mn (n:=64) I rfl rfl rfl rfl Ξ fun g16 J I=>?_;refine p4 ?_)|(refine gN 17 ?_;refine mn (n:=64) I rfl rfl rfl rfl Ξ fun g17 J I=>?_;refine p4 ?_)|(refine gN 20 ?_;refine qq (cur':=aa 64 (iX κ 54 0)) I rfl rfl rfl rfl Ω Ω fun J I=>?_;refine p4 ?_)|(refine gN 23 ?_;refine qq (cur':=aa 64 (iX κ 92 0)) I rfl rfl rfl rfl Ω Ω fun J I=>?_;refine p4 ?_)|refine ab fun J I=>?_);go_loopw [8] (fun kk wr=>∃k:Nat,k≤64∧kk= .int .i64 k∧Loc w wr [(g17,aa 64 (iX κ 92 k),5),(g16,aa 64 (iX κ 54 k),5),(b4,aa 32 fun _=>0,24)]) (fun kk _=>64-(intOf kk).toNat);case atStart=>exact⟨0,Ω,rfl,I⟩
 case round =>
  clear I;obtain⟨k,hk,rfl,I⟩:=hrel;by_cases hw:k<64
  ·have k0:(0:Int)≤k:=Ω
   have k1:(k:Int)<64:=Ω;obtain⟨r1,hr1⟩:∃r1,r1=aa 64 (iX κ 54 (k+1)):=⟨_,rfl⟩;obtain⟨r2,hr2⟩:∃r2,r2=aa 64 (iX κ 92 (k+1)):=⟨_,rfl⟩;have q1:=vr κ 54 hw;rw[← hr1]at q1;haveI:=q1;haveI:=ra κ 54 hw;have q2:=vr κ 92 hw;rw[← hr2]at q2;haveI:=q2;haveI:=ra κ 92 hw;have HR1:=Hd hr1;have HR2:=Hd hr2;clear hr1 hr2;have hx:bits .xor .u8 (B8 (κ.getD k 0)) 54=B8 (κ.getD k 0^^^54):=je (κ.getD k 0) 54;have hy:bits .xor .u8 (B8 (κ.getD k 0)) 92=B8 (κ.getD k 0^^^92):=je (κ.getD k 0) 92;generalize κ.getD k 0=y at *
   go_wp2_with (refine ϛ fun J I=>?_);go_roundw;case rel=>exact⟨k+1,Ω,by go_num,by rw[← HR1.out,← HR2.out];exact I⟩
   case measure=>simp only[intOf];omega
  ·obtain rfl:k=64:=Ω
   rw[rb,rb]at I;generalize pkF κ 54=f54,pkF κ 92=f92 at *
   haveI:=F2 f54;haveI:=F2 f92;go_wp2_with (first|refine aU ?_|refine gBp 9 fun b9 J I=>?_|(refine gN 46 ?_;refine aA ?_;intro g46 Y46 Z46 J W46 I)|(refine gN 47 ?_;refine lV (HS.out _ I.bel (.slice (ϐ g46) (64+n) Y46) (See.bytes I)) I fun J I=>?_)|(refine gN 50 ?_;refine aA ?_;intro g50 Y50 Z50 J W50 I)|(refine gN 51 ?_;refine lV (HT.out _ I.bel (.slice (ϐ g50) (64+32) Y50) (See.bytes I)) I fun J I=>?_)|refine ab fun J I=>?_);exact Λ
section
open R3
theorem r9(v vb:ό)(salt κ:Δ)(w:ϑ)(hv:BRow w v salt)(hvb:BRow w vb κ)(hs:0<salt.length∧salt.length≤64)(hk:κ.length≤999999000)(hka:KAt w) :
 Rt 139 #[v,vb] w (.agg (aa 32 (ib salt κ))):=by
 have I:=Loc.nil w;have HM:=Hd (fun J (V:Υ w J)=>r6 v vb salt κ J (hv.below V) (hvb.below V) hs hk (hka.below V));obtain⟨pb,cb,rfl⟩:=hv.shape;obtain⟨ps,cs,rfl⟩:=hvb.shape;clear hv hvb hs hk hka;generalize ib salt κ=Tzq at *
 go_enter func139,ntmps139;go_wp2_with (first|refine aU ?_|refine gBp 4 fun b4 J I=>?_|(go_at_call 195;go_loud (refine(HM.out _ I.bel).mono ?_);rintro e J⟨rfl,V⟩;replace I:=I.keep V;refine p4 ?_)|refine ab fun J I=>?_);exact Λ
instance Vd:Ent 139:=eo func139
instance Ve:Ent 195:=eo func195
theorem pf(f:Φ)(v:ό)(info:Δ)(w:ϑ)(hv:BRow w v info)(h0:0<info.length)(hi:info.length≤1000000)(hka:KAt w) :
 ϓ 138 #[.agg (aa 32 f),v,.int .i64 32] w fun e Z=>∃g W E,e= .returned (.slice (ϐ g) 32 W)∧OwnR E 32 W (ak (ae 32 (m6 f info)))∧Loc w Z [(g,E,5)]:=by
 have I:=Loc.nil w;haveI hA1:Arg w v (ak info):=⟨hv.vrow⟩;have HM:=Hd (fun J (V:Υ w J) (u ub:ό) (hu:BRow J u (ae 32 f)) (hub:BRow J ub (info++[1]))=>r6 u ub (ae 32 f) (info++[1]) J hu hub (by rw[ag];omega) Ϟ (hka.below V));obtain⟨pb,cb,rfl⟩:=hv.shape;have HKF:=Hd (show ib (ae 32 f) (info++[1])=m6 f info from rfl);rw[HKF.out]at HM;generalize m6 f info=Tzq at *
 have h32:(ak (ae 32 Tzq)).length=32:=by rw[ap,ag]
 have hT32:(ae 32 Tzq).length=32:=ag _ _;clear hv hka HKF;haveI s1:Seg #[Value.int IntKind.u8 (IntKind.u8.wrap 1)] 0 1 (ak [1]):=by rw[show IntKind.u8.wrap 1=1 from by decide];exact il 1
 have ha:bits .and .i64 1 255=1:=Ξ;haveI sg:Seg (aa 32 f) 0 32 (ak (ae 32 f)):=fD 32 f;haveI sT:Seg (aa 32 Tzq) 0 32 (ak (ae 32 Tzq)):=fD 32 Tzq;go_enter func138,ntmps138;go_wp2_with (first|refine aU ?_|refine gBp 3 fun b3 J I=>?_|refine ab fun J I=>?_);go_loopw [7,8,9] (fun o t i wr=>(o= .slice none 0 0∧t= .slice none 0 0∧i= .int .i64 1∧Loc w wr [(b3,aa 32 f,24)])∨(∃g W E,o= .slice (ϐ g) 32 W∧i= .int .i64 2∧OwnR E 32 W (ak (ae 32 Tzq))∧Loc w wr [(g,E,5)])) (fun _ _ i _=>2-(intOf i).toNat);case atStart=>exact .inl ⟨rfl,rfl,rfl,I⟩
 case round =>
  clear I;rcases hrel with⟨rfl,rfl,rfl,I⟩|⟨g,W,E,rfl,rfl,hr,I⟩
  ·skip
   go_wp2_with (first|refine aU ?_|(refine gN 21 ?_;(refine lP I rfl rfl rfl rfl h0 ϖ fun g21 Y21 Z21 J W21 Y=>?_);clear I;have I:=Y;clear Y;refine p4 ?_)|refine ab fun J I=>?_);refine eQ (R:=?R) (fun hR=>?h1) ?h2;case h1 =>
    refine mX (S:=(fun _=>True)) 10 (trivial) ?_;intro H;replace I:=I.drew;refine uG 0 ?_;refine uG 1 ?_;refine uG 2 ?_;refine uG 3 ?_;refine uG 4 ?_;refine rd2 5 8 ?_ ?_
    ·intro K T
     refine eBS ?_;clear I;intro b27 J I;refine kO T (trivial) ?_;clear T K H;intro H;refine rd2 6 8 ?_ ?_
     ·intro K T
      refine qP I rfl rfl rfl (by clear hR;omega) ?_;clear I;intro g28 Y28 Z28 J W28 I
      (try dsimp only at I)
      refine kO T (trivial) ?_;clear T K H;intro H;refine rd2 7 8 ?_ ?_
      ·intro K T
       refine eVv (HM.out _ I.bel (.slice (ϐ b3) 32 32) (.slice (ϐ g28) (info.length+1) Y28) (See.bytes I) (See.bytes I)) I ?_;clear I;intro J I;refine kO T (trivial) ?_;clear T K H;intro H;refine rd1 8 fun K T=>?_;refine eA I rfl ?_;clear I;intro b11 J I;refine kO T (trivial) ?_;clear T K H;intro H;refine rd1 9 fun K T=>?_;refine cY ?_;clear I;intro J I;refine kO T (trivial) ?_;clear T K H;intro H;refine wD ?_;clear H;have hLp:=I;clear I;revert hLp;revert J;revert b11;revert W28;revert Z28;revert Y28;revert g28;revert b27;exact pm hR
      ·intro K T
       refine eA I rfl ?_;clear I;intro b11 J I;refine kO T (trivial) ?_;clear T K H;intro H;refine rd1 7 fun K T=>?_;refine eVv (HM.out _ I.bel (.slice (ϐ b3) 32 32) (.slice (ϐ g28) (info.length+1) Y28) (See.bytes I) (See.bytes I)) I ?_;clear I;intro J I;refine kO T (trivial) ?_;clear T K H;intro H;refine rd1 9 fun K T=>?_;refine cY ?_;clear I;intro J I;refine kO T (trivial) ?_;clear T K H;intro H;refine wD ?_;clear H;have hLp:=I;clear I;revert hLp;revert J;revert b11;revert W28;revert Z28;revert Y28;revert g28;revert b27;exact pm hR
     ·intro K T
      refine eA I rfl ?_;clear I;intro b11 J I;refine kO T (trivial) ?_;clear T K H;intro H;refine rd1 6 fun K T=>?_;refine qP I rfl rfl rfl (by clear hR;omega) ?_;clear I;intro g28 Y28 Z28 J W28 I
      (try dsimp only at I)
      refine kO T (trivial) ?_;clear T K H;intro H;refine rd1 7 fun K T=>?_;refine eVv (HM.out _ I.bel (.slice (ϐ b3) 32 32) (.slice (ϐ g28) (info.length+1) Y28) (See.bytes I) (See.bytes I)) I ?_;clear I;intro J I;refine kO T (trivial) ?_;clear T K H;intro H;refine rd1 9 fun K T=>?_;refine cY ?_;clear I;intro J I;refine kO T (trivial) ?_;clear T K H;intro H;refine wD ?_;clear H;have hLp:=I;clear I;revert hLp;revert J;revert b11;revert W28;revert Z28;revert Y28;revert g28;revert b27;exact pm hR
    ·intro K T
     refine eA I rfl ?_;clear I;intro b11 J I;refine kO T (trivial) ?_;clear T K H;intro H;refine rd1 5 fun K T=>?_;refine eBS ?_;clear I;intro b27 J I;refine kO T (trivial) ?_;clear T K H;intro H;refine rd1 6 fun K T=>?_;refine qP I rfl rfl rfl (by clear hR;omega) ?_;clear I;intro g28 Y28 Z28 J W28 I
     (try dsimp only at I)
     refine kO T (trivial) ?_;clear T K H;intro H;refine rd1 7 fun K T=>?_;refine eVv (HM.out _ I.bel (.slice (ϐ b3) 32 32) (.slice (ϐ g28) (info.length+1) Y28) (See.bytes I) (See.bytes I)) I ?_;clear I;intro J I;refine kO T (trivial) ?_;clear T K H;intro H;refine rd1 9 fun K T=>?_;refine cY ?_;clear I;intro J I;refine kO T (trivial) ?_;clear T K H;intro H;refine wD ?_;clear H;have hLp:=I;clear I;revert hLp;revert J;revert b11;revert W28;revert Z28;revert Y28;revert g28;revert b27;exact pm hR
   intro b27 g28 Y28 Z28 W28 b11 J Y;clear I;have I:=Y;clear Y;go_wp2_with (first|refine aU ?_|(refine gN 31 ?_;refine aNb ?_;intro g31 Y31 Z31 J W31 I)|(refine gN 34 ?_;refine aNb ?_;intro g34 Y34 Z34 J W34 I)|refine ab fun J I=>?_);exact⟨.inr ⟨g34,Y34,Z34,rfl,rfl,W34,I.sub ((Yd _).cons_cons _)⟩,by simp[intOf]⟩
  ·have hle:32≤W:=hr.le
   have hle2:(32:Int)≤W:=Ω;go_wp2_with (first|refine aU ?_|(refine gN 38 ?_;refine aNb ?_;intro g38 Y38 Z38 J W38 I)|refine ab fun J I=>?_);go_ret;exact⟨g38,Y38,Z38,rfl,W38,I.sub ((Yd _).cons_cons _)⟩
instance Vf:Ent 138:=eo func138
theorem lr{w:ϑ}{b:Nat}{C:Ψ}(hg:w.heap[b]?=some (.cells C 5 (0,0)))(n c:Nat) :
 ∃Z,(convert 29 29 (.slice (ϐ b) n c)).run prog w= .ok (.slice (ϐ b) n c) Z∧Z.heap[b]?=some (.cells C 5 (C.size,C.size+1))∧(∀k,k≠b→Z.heap[k]?=w.heap[k]?)∧Z.heap.size=w.heap.size∧Z.os=w.os∧Z.tape=w.tape∧Z.output=w.output:=by
 have hsh:w.shape? b=some (5,C.size):=by
  unfold World.shape?;rw[hg]
 refine⟨w.freeze ⟨b,C.size,none⟩ 1,?_,?_,?_,?_,?_,?_,?_⟩
 ·simp[convert,run_underlying underlying29,run_underlying underlying5,markStringish,hsh]
 all_goals
  unfold World.freeze;rw[Χ Ξ]
 ·rw[Array.getElem?_modify,Ρ rfl,hg]
  rfl
 ·intro k hk
  simp[Array.getElem?_modify,Ne.symm hk]
 ·simp
section
variable {ops:Array Oper} {rest:List Oper} {o:Oper} {a:Act} {D w:ϑ} {M M':Mem} {Q:ώ} {K:Act→ϑ→Prop}
theorem AE(x1 x2 x3 x4:Γ){b:Nat}(I:Loc D w ((b,(ak [x1,x2,x3,x4]).toArray,5)::M)){u:Operand}(ho:o.op= .convert 29 29 u)(hu:a.eval u= .slice (ϐ b) 4 4)(h:∀Z,BRow Z (.slice (ϐ b) 4 4) [x1,x2,x3,x4]→Loc D Z M→K (a.put o.dst (.slice (ϐ b) 4 4)) Z):o.wp prog a w K Q:=by
 obtain⟨Z,hrun,h1,h2,h3,h4,h5,h6⟩:=lr (I.get (.head _)) 4 4;have hge:=I.ge (.head _);unfold Oper.wp execOp;simp only[ho,hu,Sem.run_bind,hrun,Result.andThen_ok,Sem.run_pure];refine h Z (pE (c:=4) [x1,x2,x3,x4] h1) ⟨⟨?_,?_,?_,?_,?_⟩,fun c r t hm=>?_,I.pop.nd⟩
 ·rw[h4,I.bel.os]
 ·rw[h5,I.bel.tape]
 ·rw[h6,I.bel.output]
 ·rw[h3];exact I.bel.size
 ·intro k hk
  rw[h2 k Ω,I.bel.block k hk]
 ·have hne:c≠b:=fun e=>by
   have:=I.nd;simp only[List.map_cons,Yx]at this;exact this.1 c (List.mem_map.2 ⟨_,hm,rfl⟩) e.symm
  exact⟨I.ge (.tail _ hm),(h2 c hne).trans (I.get (.tail _ hm))⟩
theorem Cf(I:Loc D w M){t e:ϋ}{x y z' q:Operand}(ho:o.op= .buildSlice t 4 #[(0,x),(1,y),(2,z'),(3,q)])[he:Elt t e]{d1 d2 d3 d4:IntKind}{n1 n2 n3 n4:Int}(hx:a.eval x= .int d1 n1)(hy:a.eval y= .int d2 n2)(hz':a.eval z'= .int d3 n3)(hq:a.eval q= .int d4 n4)(h:∀b Z,Loc D Z ((b, #[.int d1 n1,.int d2 n2,.int d3 n3,.int d4 n4],e)::M)→K (a.put o.dst (.slice (ϐ b) 4 4)) Z):o.wp prog a w K Q:=by
 obtain⟨i,z,hi,hz,hs1,hb,hzs⟩:=he.info;refine Yl t e 4 #[(0,x),(1,y),(2,z'),(3,q)] ho #[.int d1 n1,.int d2 n2,.int d3 n3,.int d4 n4] i z he.und hi hz (by rw[hs1];decide) (by rw[hs1];decide) ?_ (h _ _ (I.alloc #[.int d1 n1,.int d2 n2,.int d3 n3,.int d4 n4] e));rw[hs1];have e:(Array.map (fun(y:Nat×Operand)=>(y.1,a.eval y.2)) #[(0,x),(1,y),(2,z'),(3,q)]).toList=[(0,.int d1 n1),(1,.int d2 n2),(2,.int d3 n3),(3,.int d4 n4)]:=by simp[hx,hy,hz',hq]
 rw[e];have e1:Array.range 4= #[0,1,2,3]:=rfl;simp[Instr.fill,Value.cells,e1]
end
def wkF(e z:Φ):Nat→Γ:=m6 (ib (ae 32 e) (ae 32 z)) [119,114,97,112]
theorem jF(e z:Φ)(w:ϑ)(hka:KAt w) :
 Rt 85 #[.agg (aa 32 e),.agg (aa 32 z)] w (.agg (aa 32 (wkF e z))):=by
 have I:=Loc.nil w;have HE:=Hd (fun J (V:Υ w J) (u ub:ό) (hu:BRow J u (ae 32 e)) (hub:BRow J ub (ae 32 z))=>r9 u ub (ae 32 e) (ae 32 z) J hu hub (by rw[ag];omega) (by rw[ag];omega) (hka.below V));have HX:=Hd (fun J (V:Υ w J) (u:ό) (hu:BRow J u [119,114,97,112])=>pf (ib (ae 32 e) (ae 32 z)) u [119,114,97,112] J hu Ξ Ξ (hka.below V));have HW:=Hd (show m6 (ib (ae 32 e) (ae 32 z)) [119,114,97,112]=wkF e z from rfl);rw[HW.out]at HX;generalize wkF e z=Tzq,ib (ae 32 e) (ae 32 z)=Yzq at *
 haveI s1:Seg (aa 32 e) 0 32 (ak (ae 32 e)):=fD 32 e;haveI s2:Seg (aa 32 z) 0 32 (ak (ae 32 z)):=fD 32 z;have h32:(ak (ae 32 Tzq)).length=32:=by rw[ap,ag]
 haveI sp:Spl (aa 32 fun _=>0) 0 (ak (ae 32 Tzq)) (aa 32 Tzq):=k6 _ _ _ Ω fun i hi=>by rw[Ρ ⟨Ω,Ω⟩];rfl
 clear hka HW;go_enter func85,ntmps85;go_wp2_with (first|refine aU ?_|refine gBp 2 fun b2 J I=>?_|refine gBp 3 fun b3 J I=>?_|refine gBp 4 fun b4 J I=>?_|refine gBp 5 fun b5 J I=>?_|refine ab fun J I=>?_);refine eQ (R:=?R_2) (fun hR=>?h1_2) ?h2_2;case h1_2 =>
  refine mX (S:=(fun _=>True)) 8 (trivial) ?_;intro H;replace I:=I.drew;refine uG 0 ?_;refine uG 1 ?_;refine uG 2 ?_;refine rd2 3 4 ?_ ?_
  ·intro K T
   refine eK (HE.out _ I.bel (.slice (ϐ b2) 32 32) (.slice (ϐ b3) 32 32) (See.bytes I) (See.bytes I)) ?_;rintro e J⟨rfl,hN⟩;refine⟨_,rfl,?_⟩;have Y:=I.keep hN
   try replace hb11:=BRow.below hb11 hN
   clear hN;clear I;revert Y;refine aN ?_;intro I;refine kO T (trivial) ?_;clear T K H;intro H;refine rd1 4 fun K T=>?_
   first|refine Cf I rfl rfl rfl rfl rfl fun b10 J Y=>?_
   clear I;have I:=Y;clear Y;refine kO T (trivial) ?_;clear T K H;intro H;refine rd1 5 fun K T=>?_;refine AE 119 114 97 112 I rfl rfl fun J hb11 Y=>?_;clear I;have I:=Y;clear Y;refine kO T (trivial) ?_;clear T K H;intro H;refine rd1 6 fun K T=>?_;refine eK (HX.out _ I.bel _ hb11) ?_;rintro e J⟨g12,Y12,Z12,rfl,W12,hN⟩;refine⟨_,rfl,?_⟩;clear hb11;have Y:=I.join hN;clear hN I;revert Y;refine aJ ?_;intro I;refine kO T (trivial) ?_;clear T K H;intro H;refine rd1 7 fun K T=>?_;refine BM I rfl rfl rfl (by clear hR;omega) (by clear hR;omega) ?_;clear I;intro J I;refine kO T (trivial) ?_;clear T K H;intro H;refine wD ?_;clear H;have hLp:=I;clear I;revert hLp;revert J;revert W12;revert Z12;revert Y12;revert g12;revert b10;exact pm hR
  ·intro K T
   first|refine Cf I rfl rfl rfl rfl rfl fun b10 J Y=>?_
   clear I;have I:=Y;clear Y;refine kO T (trivial) ?_;clear T K H;intro H;refine rd2 3 5 ?_ ?_
   ·intro K T
    refine eK (HE.out _ I.bel (.slice (ϐ b2) 32 32) (.slice (ϐ b3) 32 32) (See.bytes I) (See.bytes I)) ?_;rintro e J⟨rfl,hN⟩;refine⟨_,rfl,?_⟩;have Y:=I.keep hN
    try replace hb11:=BRow.below hb11 hN
    clear hN;clear I;revert Y;refine aN ?_;intro I;refine kO T (trivial) ?_;clear T K H;intro H;refine rd1 5 fun K T=>?_;refine AE 119 114 97 112 I rfl rfl fun J hb11 Y=>?_;clear I;have I:=Y;clear Y;refine kO T (trivial) ?_;clear T K H;intro H;refine rd1 6 fun K T=>?_;refine eK (HX.out _ I.bel _ hb11) ?_;rintro e J⟨g12,Y12,Z12,rfl,W12,hN⟩;refine⟨_,rfl,?_⟩;clear hb11;have Y:=I.join hN;clear hN I;revert Y;refine aJ ?_;intro I;refine kO T (trivial) ?_;clear T K H;intro H;refine rd1 7 fun K T=>?_;refine BM I rfl rfl rfl (by clear hR;omega) (by clear hR;omega) ?_;clear I;intro J I;refine kO T (trivial) ?_;clear T K H;intro H;refine wD ?_;clear H;have hLp:=I;clear I;revert hLp;revert J;revert W12;revert Z12;revert Y12;revert g12;revert b10;exact pm hR
   ·intro K T
    refine AE 119 114 97 112 I rfl rfl fun J hb11 Y=>?_;clear I;have I:=Y;clear Y;refine kO T (trivial) ?_;clear T K H;intro H;refine rd1 3 fun K T=>?_;refine eK (HE.out _ I.bel (.slice (ϐ b2) 32 32) (.slice (ϐ b3) 32 32) (See.bytes I) (See.bytes I)) ?_;rintro e J⟨rfl,hN⟩;refine⟨_,rfl,?_⟩;have Y:=I.keep hN
    try replace hb11:=BRow.below hb11 hN
    clear hN;clear I;revert Y;refine aN ?_;intro I;refine kO T (trivial) ?_;clear T K H;intro H;refine rd1 6 fun K T=>?_;refine eK (HX.out _ I.bel _ hb11) ?_;rintro e J⟨g12,Y12,Z12,rfl,W12,hN⟩;refine⟨_,rfl,?_⟩;clear hb11;have Y:=I.join hN;clear hN I;revert Y;refine aJ ?_;intro I;refine kO T (trivial) ?_;clear T K H;intro H;refine rd1 7 fun K T=>?_;refine BM I rfl rfl rfl (by clear hR;omega) (by clear hR;omega) ?_;clear I;intro J I;refine kO T (trivial) ?_;clear T K H;intro H;refine wD ?_;clear H;have hLp:=I;clear I;revert hLp;revert J;revert W12;revert Z12;revert Y12;revert g12;revert b10;exact pm hR
 intro b10 g12 Y12 Z12 W12 J Y;clear I;have I:=Y;clear Y;go_wp2_with (refine ϛ fun J I=>?_);exact Λ
instance Vg:Ent 85:=eo func85
theorem fp(w:ϑ):(Instr.build 161 #[]).run prog w= .ok (.agg (aa 12 fun _=>0)) w:=Θ
noncomputable def nF(to draw x:Φ):Δ:=ae 32 (ah (a7 draw bO))++nD (wkF (ah (a7 draw bO)) (ah (a7 draw to))) (fun _=>0) (ae 32 x) (ae 32 to)
theorem nG(κ η:Φ)(p beside:Δ):(nD κ η p beside).length=p.length+16:=by
 unfold nD;rw[Xa,dc,ag]
theorem nH(to draw x:Φ):(nF to draw x).length=80:=by
 unfold nF;rw[Xa,nG,ag,ag]
theorem yu(to draw x:Φ)(hz:a7 draw to≠0)(w:ϑ)(hka:KAt w) :
 ϓ 35 #[.agg (aa 32 to),.agg (aa 32 draw),.agg (aa 32 x)] w fun r Z=>∃g W E,r= .returned (.tuple #[.slice (ϐ g) 80 W,.int .i64 0])∧OwnR E 80 W (ak (nF to draw x))∧Loc w Z [(g,E,5)]:=by
 have I:=Loc.nil w;haveI f1:FnC 36 #[.agg (aa 32 draw)] (.agg (aa 32 (ah (a7 draw bO)))):=Ϙ;have h2:=fun J=>lq draw to J;rw[Χ hz]at h2;haveI f2:FnC 83 #[.agg (aa 32 draw),.agg (aa 32 to)] (.tuple #[.agg (aa 32 (ah (a7 draw to))),.int .i64 0]):=⟨h2⟩;have HW:=Hd (fun J (V:Υ w J)=>jF (ah (a7 draw bO)) (ah (a7 draw to)) J (hka.below V));have hse:=fun J (u ub:ό) (hu:BRow J u (ae 32 x)) (hub:BRow J ub (ae 32 to))=>oQ (wkF (ah (a7 draw bO)) (ah (a7 draw to))) (fun _=>0) u ub (ae 32 x) (ae 32 to) J hu hub (by rw[ag];omega) (by rw[ag];omega) (by rw[ag];omega) (by rw[ag];omega);simp only[ag,Nat.reduceAdd]at hse;have HSE:=Hd hse;have HWT:=Hd (show nF to draw x=ae 32 (ah (a7 draw bO))++nD (wkF (ah (a7 draw bO)) (ah (a7 draw to))) (fun _=>0) (ae 32 x) (ae 32 to)from rfl);rw[HWT.out];clear HWT hse h2 hz hka;generalize nD (wkF (ah (a7 draw bO)) (ah (a7 draw to))) (fun _=>0) (ae 32 x) (ae 32 to)=S at *
 generalize wkF (ah (a7 draw bO)) (ah (a7 draw to))=Wzq,ah (a7 draw to)=Zzq at *
 generalize ah (a7 draw bO)=Ezq at *
 haveI s1:Seg (aa 32 x) 0 32 (ak (ae 32 x)):=fD 32 x;haveI s2:Seg (aa 32 to) 0 32 (ak (ae 32 to)):=fD 32 to;haveI s3:Seg (aa 32 Ezq) 0 32 (ak (ae 32 Ezq)):=fD 32 Ezq;go_enter func35,ntmps35;go_wp2_with (first|refine aU ?_|refine gBp 3 fun b3 J I=>?_|refine gBp 4 fun b4 J I=>?_|refine gBp 5 fun b5 J I=>?_|refine gBp 8 fun b8 J I=>?_|refine gBp 9 fun b9 J I=>?_|refine ab fun J I=>?_|refine Ϯ fun J I=>?_);refine Ϭ 12 I fun H I=>?_;refine uG 0 ?_;refine uZ 2 ?_;refine uZ 3 ?_;refine uT 5 (hi:=rfl) (zU ϕ rfl fp rfl) ?_;refine uG 6 ?_;refine uG 7 ?_;refine rd1 1 fun K T=>?_;refine eAn ?_;intro g23 Y23 Z23 J W23 I;refine kO T (I.pop) fun H=>?_;refine rd1 4 fun K T=>?_;refine eVv (HW.out _ I.bel) I fun J I=>?_;refine kO T (I.pop) fun H=>?_;refine rd1 8 fun K T=>?_;refine eK (HSE.out _ (.slice (ϐ b5) 32 32) (.slice (ϐ b3) 32 32) (See.bytes I) (See.bytes I)) ?_;rintro e J⟨g30,Y30,Z30,rfl,W30,hN⟩;refine⟨_,rfl,?_⟩;refine Ϧ (I.join hN) fun I=>?_;refine kO T (I.pop.pop) fun H=>?_;refine rd1 9 fun K T=>?_;refine eAp ?_;intro g31 Y31 Z31 J W31 I;refine kO T (I.pop.pop) fun H=>?_;refine uG 10 ?_;refine uG 11 ?_;refine wD ?_;clear H;go_wp2_with (refine ϛ fun J I=>?_);go_ret2;exact⟨g31,Y31,Z31,rfl,W31,I.pop.sub ((Yd _).cons_cons _)⟩
instance Vh:Ent 35:=eo func35
end
namespace R3
def fe1:Nat→Γ:=fun i=>if i=0 then 254 else 255
theorem Jm:Put (aa 32 (ffs 32)) 0 (.int .u8 254) (aa 32 fe1):=bm Ω (am fun i hi=>by
 unfold upd ffs fe1;by_cases e:i=0
 ·subst e;rfl
 ·rw[Χ e]
  show Value.int .u8 (B8 (if i<32 then 255 else 0))=_;rw[Ρ hi,Χ e])
theorem Ll:Put (aa 32 fe1) 31 (.int .u8 15) (aa 32 (ah bA)):=bm Ω Θ
theorem AF(w:ϑ):Rt 231 #[] w (.agg (aa 32 (ah bA))):=by
 have I:=Loc.nil w;haveI p1:=Jm;haveI p2:=Ll;have HZ:=Hd (show(aa 32 fun _=>0)=aa 32 (ffs 0)from am fun i _=>by unfold ffs;rw[Χ Ω]);have HS:=Hd xh;generalize ah bA=out,fe1=f1,ffs=ff at *
 go_enter func231,ntmps231;go_wp2_with (first|refine gBp 0 fun b0 J I=>?_|refine gBp 1 fun b1 J I=>?_|refine aQq fun _ J I=>?_);go_loopw [2] (fun kk wr=>∃k:Nat,k≤32∧kk= .int .i64 k∧Loc w wr [(b1,aa 32 (ff k),24),(b0,aa 32 fun _=>0,24)]) (fun kk _=>32-(intOf kk).toNat);case atStart=>exact⟨0,Ω,rfl,by rw[← HZ.out];exact I⟩
 case round =>
  clear I;obtain⟨k,hk,rfl,I⟩:=hrel;by_cases hw:k<32
  ·have hk0:(0:Int)≤(k:Int):=Ω
   have hk1:(k:Int)<32:=Ω;haveI g1:Put (aa 32 (ff k)) k (.int .u8 255) (aa 32 (ff (k+1))):=HS.out k hw;go_wp2_with (refine aQq fun _ J I=>?_);go_roundw;case rel=>exact⟨k+1,Ω,by go_num,I⟩
   case measure=>exact ϝ
  ·obtain rfl:k=32:=Ω
   go_wp2_with (refine aQq fun _ J I=>?_);exact Λ
instance Vi:Ent 231:=eo func231
instance Vj:FnC 231 #[] (.agg (aa 32 (ah bA))):=⟨AF⟩
theorem DL(f:Φ)(w:ϑ):Rt 183 #[.agg (aa 32 f)] w (.agg (aa 32 (ah (El.of (leN f)).v.val))):=by
 have I:=Loc.nil w;go_enter func183,ntmps183;go_wp2_with (first|refine gBp 1 fun b1 J I=>?_|refine gBp 2 fun b2 J I=>?_|refine aQp fun _ J I=>?_);exact Λ
instance Vk:Ent 183:=eo func183
theorem yw(x y:El)(w:ϑ):Rt 232 #[.agg (rowEl x),.agg (rowEl y)] w (.bool (decide (x.v=y.v))):=by
 have I:=Loc.nil w;haveI q:=jp x.v.val y.v.val (jX _) (jX _);have hd:decide (x.v.val=y.v.val)=decide (x.v=y.v):=decide_eq_decide.2 ⟨fun h=>ZM h,fun h=>by rw[h]⟩;rw[hd]at q;haveI f1:FnC 129 #[.agg (rowEl x)] (.agg (aa 32 (ah x.v.val))):=Ϙ;haveI f2:FnC 129 #[.agg (rowEl y)] (.agg (aa 32 (ah y.v.val))):=Ϙ;clear hd;generalize decide (x.v=y.v)=b,ah x.v.val=bx,ah y.v.val=by_ at *
 go_enter func232,ntmps232;go_wp2_with (first|refine gBp 2 fun b2 J I=>?_|refine gBp 3 fun b3 J I=>?_|refine aQq fun _ J I=>?_);refine wf [(0,false),(1,false),(2,false),(3,false),(4,true),(5,true)] [] [] I ?_
 repeat(first|((with_reducible show bC _ _ _ (_::_) _ _);refine sQ rfl rfl rfl rfl ?_;refine p4 ?_)|refine rS ?_)
 refine aK ?_;refine fC fun J I=>?_;go_wp2_with (refine aQq fun _ J I=>?_);go_ret;exact⟨rfl,I.bel⟩
instance Vl:Ent 232:=eo func232
instance Vm(x y:El):FnC 232 #[.agg (rowEl x),.agg (rowEl y)] (.bool (decide (x.v=y.v))):=⟨yw x y⟩
noncomputable def El.rt(a:El):El:=if((a.pow bA).mul (a.pow bA)).v=a.v then a.pow bA else(a.pow bA).mul (El.of iF.val)
noncomputable def El.rtOk(a:El):Bool:=decide (((a.pow bA).mul (a.pow bA)).v=a.v) || decide ((((a.pow bA).mul (El.of iF.val)).mul ((a.pow bA).mul (El.of iF.val))).v=a.v)
theorem El.rt_v(a:El):fy a.v=if a.rtOk then some a.rt.v else none:=by
 have hp:(a.pow bA).v=pw a.v bA:=El.pow_v a EI;have hi:(El.of iF.val).v=iF:=by rw[El.of_v (jX _),fG]
 rw[mJ];unfold lM El.rtOk El.rt;simp only[El.mul_v,hp,hi];generalize pw a.v bA=x at *
 by_cases h1:x*x=a.v
 ·rw[Ρ h1,Xw h1,Ρ h1]
  simp[hp]
 ·rw[Χ h1,XB h1,Χ h1]
  by_cases h2:x*iF*(x*iF)=a.v
  ·rw[Ρ h2,Xw h2]
   simp[El.mul_v,hp,hi]
  ·rw[Χ h2,XB h2]
   simp
theorem G0(a:El)(w:ϑ)[hI:GlobI w]:Rt 184 #[.agg (rowEl a)] w (.tuple #[.agg (rowEl a.rt),.bool a.rtOk]):=by
 have I:=Loc.nil w;haveI f1:FnC 188 #[.agg (rowEl a),.agg (aa 32 (ah bA))] (.agg (rowEl (a.pow bA))):=⟨fun J=>by have:=BC a (ah bA) J;rwa[bT EI]at this⟩;have s1:=fun J=>yw ((a.pow bA).mul (a.pow bA)) a J;haveI f2:FnC 231 #[] (.agg (aa 32 (ah bA))):=Ϙ;haveI f3:FnC 130 #[.agg (rowEl (a.pow bA)),.agg (rowEl (a.pow bA))] (.agg (rowEl ((a.pow bA).mul (a.pow bA)))):=Ϙ;have HRT:=Hd (show a.rt=if((a.pow bA).mul (a.pow bA)).v=a.v then a.pow bA else(a.pow bA).mul (El.of iF.val)from rfl);have HOK:=Hd (show a.rtOk=(decide (((a.pow bA).mul (a.pow bA)).v=a.v) || decide ((((a.pow bA).mul (El.of iF.val)).mul ((a.pow bA).mul (El.of iF.val))).v=a.v))from rfl);rw[HRT.out,HOK.out];clear HRT HOK;generalize ah bA=bE,a.pow bA=X at *
 by_cases h:(X.mul X).v=a.v
 ·rw[Ρ h,Xw h,Bool.true_or]
  rw[Xw h]at s1;haveI f4:FnC 232 #[.agg (rowEl (X.mul X)),.agg (rowEl a)] (.bool true):=⟨s1⟩;generalize X.mul X=XX at *
  clear h;go_enter func184,ntmps184;go_wp2_with (first|refine gBp 1 fun b1 J I=>?_|refine gBp 2 fun b2 J I=>?_|refine aQq fun _ J I=>?_);refine au [(0,false),(1,false),(2,false)] [(3,_,147)] [4] Θ Θ ⟨⟨_,rfl,rfl,rfl⟩,Ϙ,trivial⟩ I ?_;refine pF ?_;refine fA ?_;refine aC fun b=>?_;refine fB fun J I=>?_;go_wp2_with (refine aQq fun _ J I=>?_);refine wf [(0,false),(1,false),(2,false),(3,false),(4,false)] [] [] I ?_;refine fA ?_;refine fC fun J I=>?_;go_wp2_with (refine aQq fun _ J I=>?_);exact Ϣ (ao rfl I rfl rfl) rfl ⟨rfl,I.bel⟩
 ·rw[Χ h,XB h,Bool.false_or]
  rw[XB h]at s1;haveI f4:FnC 232 #[.agg (rowEl (X.mul X)),.agg (rowEl a)] (.bool false):=⟨s1⟩;haveI g7:WasR w 7 (rowEl (El.of iF.val)):=Ϙ;generalize El.of iF.val=iE at *
  haveI f5:FnC 130 #[.agg (rowEl X),.agg (rowEl iE)] (.agg (rowEl (X.mul iE))):=Ϙ;generalize X.mul iE=Yzq at *
  haveI f6:FnC 130 #[.agg (rowEl Yzq),.agg (rowEl Yzq)] (.agg (rowEl (Yzq.mul Yzq))):=Ϙ;haveI f7:FnC 232 #[.agg (rowEl (Yzq.mul Yzq)),.agg (rowEl a)] (.bool (decide ((Yzq.mul Yzq).v=a.v))):=Ϙ;generalize decide ((Yzq.mul Yzq).v=a.v)=ok at *
  generalize Yzq.mul Yzq=YY,X.mul X=XX at *
  clear h;go_enter func184,ntmps184;go_wp2_with (first|refine gBp 1 fun b1 J I=>?_|refine gBp 2 fun b2 J I=>?_|refine aQq fun _ J I=>?_);refine au [(0,false),(1,false),(2,false)] [(3,_,147)] [4] Θ Θ ⟨⟨_,rfl,rfl,rfl⟩,Ϙ,trivial⟩ I ?_;refine pF ?_;refine fA ?_;refine aC fun b=>?_;refine fB fun J I=>?_;go_wp2_with (refine aQq fun _ J I=>?_);refine wf [(0,false),(1,false),(2,false),(3,false),(4,false)] [] [] I ?_;refine fA ?_;refine fC fun J I=>?_;go_wp2_with (refine aQp fun _ J I=>?_);refine wf [(0,false),(1,false),(2,false),(3,false),(4,false),(5,false)] [] [6,7] I ?_;refine fA ?_;refine fB fun J I=>?_;go_wp2_with (refine aQq fun _ J I=>?_);exact Ϣ (ao rfl I rfl rfl) rfl ⟨rfl,I.bel⟩
instance Vn:Ent 184:=eo func184
end R3
namespace R3
class FnI(f:FuncId)(args:Ψ)(v:outParam Value):Prop where
 calls:∀w,GlobI w→ϓ f args w fun e Z=>e= .returned v∧Υ w Z
instance Vo(a:El):FnI 184 #[.agg (rowEl a)] (.tuple #[.agg (rowEl a.rt),.bool a.rtOk]):=⟨fun w _=>G0 a w⟩
section
variable {ops:Array Oper} {rest:List Oper} {l:List (Oper×Bool)} {R:Act→Prop} {o:Oper} {a:Act} {D w:ϑ} {M M':Mem} {Q:ώ}
theorem sI1(hg:o.guard=none){f:FuncId}{x:Operand}{ts:Array TypeId}(ho:o.op= .call { callee:= .value (.func f),args:= #[x],argTypes:=ts }){r:Ψ}(hx:a.eval x= .agg r)[he:Ent f][hG:GlobI D]{v:ό}[hf:FnI f #[.agg r] v](h:bC prog ops (fun w=>Loc D w M) l (a.put o.dst v) R):bC prog ops (fun w=>Loc D w M) ((o,false)::l) a R :=
 nO hg (fun w=>by rw[lx ho rfl w,show #[x].map a.eval= #[.agg r]from by simp[hx]]) (fun w hS=>hf.calls w (hG.below hS.bel)) h
end
noncomputable def exm(y:F)(b:Nat):Option F→Option Ex
 | none=>none
 | some x=>if x=0∧b=1 then none else if x.val%2=b then some ⟨x,y,1,x*y⟩else some ⟨-x,y,1,-x*y⟩
theorem G1(n:Nat):bK n=if n%2^255<P then exm (fe (n%2^255)) (n/2^255%2) (fy ((fe (n%2^255)*fe (n%2^255)-1)*inv (dF*(fe (n%2^255)*fe (n%2^255))+1)))else none:=by
 unfold bK;by_cases h:n%2^255<P
 ·rw[Ρ h,Ρ h]
  simp only;generalize fy _=o;cases o <;> rfl
 ·rw[Χ h,Χ h]
def bi:Option Pe→Ψ
 | none=>CT
 | some p=>rowPe p
theorem eE(w:ϑ):(Instr.build 149 #[]).run prog w= .ok (.agg CT) w:=Θ
theorem i9(w:ϑ):(Instr.build 24 #[]).run prog w= .ok (.agg (aa 32 (ah 0))) w:=Θ
theorem ja(w:ϑ):(Instr.build 147 #[]).run prog w= .ok (.agg (rowEl El.zero)) w:=Θ
theorem G2(n:Nat):bits .and .u8 (B8 (ah n 0)) 1=((n%2:Nat):Int):=by
 have:∀x:Fin 256,bits .and .u8 (x.val:Int) 1=((x.val%2:Nat):Int):=Ϛ;have h:=this (ah n 0).toFin;have e:((ah n 0).toFin.val:Nat)=n%256:=by
  show(ah n 0).toNat=_;unfold ah;rw[Xv,XO,Yh,Yj]
 rw[e]at h;have e2:B8 (ah n 0)=((n%256:Nat):Int):=by unfold B8;exact XH Nat.cast e
 rw[e2,h];congr 1;omega
theorem Lm(x:Γ):B8 x/128=((x.toNat/128:Nat):Int)∧x.toNat/128<2:=by
 have:=x.isLt;unfold B8;omega
theorem ip(f:Φ)(w:ϑ)[hG:Glob w][hI:GlobI w]:ϓ 122 #[.agg (aa 32 f)] w fun r Z=>∃o:Option Pe,r= .returned (.tuple #[.agg (bi o),.bool o.isSome])∧o.map Pe.ex=bK (leN f)∧Υ w Z:=by
 have I:=Loc.nil w;obtain⟨hy,hodd⟩:=nV f;have he:=G1 (leN f);rw[hodd,← hy]at he;have hw:leN (dy f)<2^256:=fX _;have hgr:aa 32 (dy f)=aa 32 (ah (leN (dy f))):=am fun i hi=>by rw[iQ _ hi]
 haveI g1:Cell (aa 32 f) 31 (.int .u8 (B8 (f 31))):=aO _ Ω;haveI g2:Put (aa 32 f) 31 (.int .u8 (bits .and .u8 (B8 (f 31)) 127)) (aa 32 (ah (leN (dy f)))):=bm Ω ((py f).trans hgr);have hbit:=Lm (f 31);generalize leN (dy f)=y at *
 clear hy hodd hgr;haveI f0:FnC 140 #[.agg (aa 32 (ah y))] (.agg (rowEl (El.of y))):=⟨fun J=>by have:=Fm (ah y) J;rwa[bT hw]at this⟩;have hYv:(El.of y).v=fe y:=El.of_v hw;haveI f1:FnC 183 #[.agg (aa 32 (ah y))] (.agg (aa 32 (ah (y%P)))):=⟨fun J=>by have:=DL (ah y) J;rwa[bT hw,hYv,zk]at this⟩;have e1:=jp (y%P) y (Yw (Nat.mod_le _ _) hw) hw;by_cases hc:y<P
 ·rw[Ρ hc]at he
  rw[Xd hc]at e1 f1;rw[Xw rfl]at e1;clear hw hc;obtain⟨A,hA⟩:∃A,A=(((El.of y).mul (El.of y)).sub El.one).mul (((dE.mul ((El.of y).mul (El.of y))).add El.one).inv):=⟨_,rfl⟩;have hAV:A.v=(fe y*fe y-1)*inv (dF*(fe y*fe y)+1):=by
   rw[hA];simp only[El.mul_v,El.sub_v,El.add_v,El.inv_v,El.one_v,Fj,hYv]
  have hr:=El.rt_v A;rw[hAV]at hr;rw[hr]at he;clear hAV hr;obtain⟨V,hb2⟩:=hbit;generalize(f 31).toNat/128=bit at *
  have hYx:∀X:El,Pe.ex ⟨X,El.of y,El.one,X.mul (El.of y)⟩=⟨X.v,fe y,1,X.v*fe y⟩:=fun X=>by
   unfold Pe.ex;simp only[El.mul_v,El.one_v,hYv]
  have HX:=Hd hYx;clear hYv hYx;generalize fe y=yv,El.of y=Yzq,ah y=by_ at *
  have t1:FnC 130 #[.agg (rowEl Yzq),.agg (rowEl Yzq)] (.agg (rowEl (Yzq.mul Yzq))):=Ϙ;generalize Yzq.mul Yzq=YY at *
  have t2:FnC 142 #[.agg (rowEl YY),.agg (rowEl El.one)] (.agg (rowEl (YY.sub El.one))):=Ϙ;have t3:FnC 130 #[.agg (rowEl dE),.agg (rowEl YY)] (.agg (rowEl (dE.mul YY))):=Ϙ;have t4:FnC 141 #[.agg (rowEl (dE.mul YY)),.agg (rowEl El.one)] (.agg (rowEl ((dE.mul YY).add El.one))):=Ϙ;have t5:FnC 128 #[.agg (rowEl ((dE.mul YY).add El.one))] (.agg (rowEl ((dE.mul YY).add El.one).inv)):=Ϙ;have t6:FnC 130 #[.agg (rowEl (YY.sub El.one)),.agg (rowEl ((dE.mul YY).add El.one).inv)] (.agg (rowEl A)):=by rw[hA];infer_instance
  clear hA;haveI t7:FnI 184 #[.agg (rowEl A)] (.tuple #[.agg (rowEl A.rt),.bool A.rtOk]):=Ϙ;generalize A.rt=X at *
  generalize A.rtOk=ok at *
  cases ok
  ·have he2:bK (leN f)=none:=he
   rw[he2];clear he he2 HX V hb2;go_enter func122,ntmps122;go_wp2_with (first|refine gBp 1 fun b1 J I=>?_|refine gBp 2 fun b2 J I=>?_|refine aQq fun _ J I=>?_);refine wf [(0,false),(1,false),(2,false),(3,true)] [] [] I ?_
   repeat refine rN ?_
   refine aK ?_;refine fC fun J I=>?_;go_wp2_with (first|refine gBp 5 fun b5 J I=>?_|refine gBp 6 fun b6 J I=>?_|refine aQq fun _ J I=>?_);refine au [(0,false),(1,false),(2,false),(3,false),(4,false),(5,false),(6,false),(7,false),(8,false),(9,false),(10,false),(11,true),(12,true),(13,true)] [(14,_,147)] [15,16] Θ Θ ⟨⟨_,rfl,rfl,rfl⟩,Ϙ,trivial⟩ I ?_;refine pF ?_
   repeat(first|((with_reducible show bC _ _ _ (_::_) _ _);refine sI1 rfl rfl rfl ?_;refine p4 ?_)|refine rS ?_)
   refine aK ?_;refine aC fun b=>?_;refine fB fun J I=>?_;go_wp2_with (first|((refine ϗ (.build 149 _) ?_);refine lU I rfl rfl eE rfl fun J I=>?_)|refine aQq fun _ J I=>?_);exact Ϣ (ao rfl I rfl rfl) rfl ⟨none,rfl,rfl,I.bel⟩
  ·have he2:bK (leN f)=exm yv bit (some X.v):=he
   clear he;have hcs:(X.v=0∧bit=1)∨(X.v=0∧bit=0)∨(X.v≠0∧bit=0∧X.v.val%2=0)∨(X.v≠0∧bit=1∧X.v.val%2=1)∨(X.v≠0∧bit=0∧X.v.val%2=1)∨(X.v≠0∧bit=1∧X.v.val%2=0):=by
    by_cases h:X.v=0
    ·rcases(show bit=1∨bit=0 by omega)with e|e
     ·exact .inl ⟨h,e⟩
     ·exact .inr (.inl ⟨h,e⟩)
    ·rcases(show(bit=0∧X.v.val%2=0)∨(bit=1∧X.v.val%2=1)∨(bit=0∧X.v.val%2=1)∨(bit=1∧X.v.val%2=0) by omega)with e|e|e|e
     ·exact .inr (.inr (.inl ⟨h,e⟩))
     ·exact .inr (.inr (.inr (.inl ⟨h,e⟩)))
     ·exact .inr (.inr (.inr (.inr (.inl ⟨h,e⟩))))
     ·exact .inr (.inr (.inr (.inr (.inr ⟨h,e⟩))))
   have ez:=jp X.v.val 0 (jX _) Ξ;have hpar:=G2 X.v.val;haveI gb:Cell (aa 32 (ah X.v.val)) 0 (.int .u8 (B8 (ah X.v.val 0))):=aO _ Ω;haveI go:FnC 129 #[.agg (rowEl X)] (.agg (aa 32 (ah X.v.val))):=Ϙ;have hvz:(X.v=0)↔(X.v.val=0):=⟨fun h=>by rw[h];rfl,fun h=>ZM h⟩;have HP:=Hd (show Pe.ex ⟨X,Yzq,El.one,X.mul Yzq⟩=⟨X.v,yv,1,X.v*yv⟩from HX.out X);have HN:=Hd (show Pe.ex ⟨El.zero.sub X,Yzq,El.one,(El.zero.sub X).mul Yzq⟩=⟨-X.v,yv,1,-X.v*yv⟩from by
    rw[HX.out,El.sub_v,El.zero_v,show(0:F)-X.v= -X.v from by grind])
   haveI gs:FnC 142 #[.agg (rowEl El.zero),.agg (rowEl X)] (.agg (rowEl (El.zero.sub X))):=Ϙ;haveI gm:FnC 130 #[.agg (rowEl X),.agg (rowEl Yzq)] (.agg (rowEl (X.mul Yzq))):=Ϙ;haveI gm2:FnC 130 #[.agg (rowEl (El.zero.sub X)),.agg (rowEl Yzq)] (.agg (rowEl ((El.zero.sub X).mul Yzq))):=Ϙ;rw[he2];clear he2 HX hb2;generalize El.zero.sub X=XN at *
   generalize XN.mul Yzq=XNY,X.mul Yzq=XY,B8 (ah X.v.val 0)=D at *
   generalize ah X.v.val=wx,f 31=f31 at *
   rcases hcs with hc|hc|hc|hc|hc|hc
   ·obtain⟨hz,rfl⟩:=hc
    have hv:=hvz.1 hz;rw[Xw hv]at ez;rw[hv]at hpar;have hpar2:bits .and .u8 D 1=0:=hpar;rw[show exm yv 1 (some X.v)=none from Ρ ⟨hz,rfl⟩];have hb3:B8 f31/128=1:=V;clear hz hv hvz hpar V;go_enter func122,ntmps122;go_wp2_with (first|refine gBp 1 fun b1 J I=>?_|refine gBp 2 fun b2 J I=>?_|refine aQq fun _ J I=>?_);refine wf [(0,false),(1,false),(2,false),(3,true)] [] [] I ?_
    repeat refine rN ?_
    refine aK ?_;refine fC fun J I=>?_;go_wp2_with (first|refine gBp 5 fun b5 J I=>?_|refine gBp 6 fun b6 J I=>?_|refine aQq fun _ J I=>?_);refine au [(0,false),(1,false),(2,false),(3,false),(4,false),(5,false),(6,false),(7,false),(8,false),(9,false),(10,false),(11,true),(12,true),(13,true)] [(14,_,147)] [15,16] Θ Θ ⟨⟨_,rfl,rfl,rfl⟩,Ϙ,trivial⟩ I ?_;refine pF ?_
    repeat(first|((with_reducible show bC _ _ _ (_::_) _ _);refine sI1 rfl rfl rfl ?_;refine p4 ?_)|refine rS ?_)
    refine aK ?_;refine aC fun b=>?_;refine fB fun J I=>?_;go_wp2_with (first|refine gBp 9 fun b9 J I=>?_|(refine gN 48 ?_;refine lQ I rfl rfl rfl rfl fun J I=>?_)|refine aV ?_|((refine ϗ (.build 24 #[]) ?_);refine lU I rfl rfl i9 rfl fun J I=>?_)|((refine ϗ (.build 149 _) ?_);refine lU I rfl rfl eE rfl fun J I=>?_)|((refine ϗ (.build 147 #[]) ?_);refine lU I rfl rfl ja rfl fun J I=>?_)|refine aQq fun _ J I=>?_);exact Ϣ (ao rfl I rfl rfl) rfl ⟨none,rfl,rfl,I.bel⟩
   ·obtain⟨hz,rfl⟩:=hc
    have hv:=hvz.1 hz;rw[Xw hv]at ez;rw[hv]at hpar;have hpar2:bits .and .u8 D 1=0:=hpar;rw[show exm yv 0 (some X.v)=some ⟨X.v,yv,1,X.v*yv⟩from(Χ (fun h=>absurd h.2 Ξ)).trans (Ρ (by rw[hv]))];have hb3:B8 f31/128=0:=V;clear hz hv hvz hpar V;go_enter func122,ntmps122;go_wp2_with (first|refine gBp 1 fun b1 J I=>?_|refine gBp 2 fun b2 J I=>?_|refine aQq fun _ J I=>?_);refine wf [(0,false),(1,false),(2,false),(3,true)] [] [] I ?_
    repeat refine rN ?_
    refine aK ?_;refine fC fun J I=>?_;go_wp2_with (first|refine gBp 5 fun b5 J I=>?_|refine gBp 6 fun b6 J I=>?_|refine aQq fun _ J I=>?_);refine au [(0,false),(1,false),(2,false),(3,false),(4,false),(5,false),(6,false),(7,false),(8,false),(9,false),(10,false),(11,true),(12,true),(13,true)] [(14,_,147)] [15,16] Θ Θ ⟨⟨_,rfl,rfl,rfl⟩,Ϙ,trivial⟩ I ?_;refine pF ?_
    repeat(first|((with_reducible show bC _ _ _ (_::_) _ _);refine sI1 rfl rfl rfl ?_;refine p4 ?_)|refine rS ?_)
    refine aK ?_;refine aC fun b=>?_;refine fB fun J I=>?_;go_wp2_with (first|refine gBp 9 fun b9 J I=>?_|(refine gN 48 ?_;refine lQ I rfl rfl rfl rfl fun J I=>?_)|refine aV ?_|((refine ϗ (.build 24 #[]) ?_);refine lU I rfl rfl i9 rfl fun J I=>?_)|((refine ϗ (.build 149 _) ?_);refine lU I rfl rfl eE rfl fun J I=>?_)|((refine ϗ (.build 147 #[]) ?_);refine lU I rfl rfl ja rfl fun J I=>?_)|refine aQq fun _ J I=>?_);refine wf [(0,false),(1,false),(2,false),(3,false),(4,false),(5,false),(6,true)] [] [7,8] I ?_
    repeat(first|((with_reducible show bC _ _ _ (_::_) _ _);refine sU rfl rfl (fS _ _ _ _) rfl ?_;refine p4 ?_)|refine rS ?_)
    refine aK ?_;refine fB fun J I=>?_;go_wp2_with (refine aQq fun _ J I=>?_);exact Ϣ (ao rfl I rfl rfl) rfl ⟨some ⟨X,Yzq,El.one,XY⟩,rfl,XH some HP.out,I.bel⟩
   ·obtain⟨hz,rfl,hp⟩:=hc
    have hv:¬X.v.val=0:=fun e=>hz (hvz.2 e);rw[XB hv]at ez;rw[hp]at hpar;have hpar2:bits .and .u8 D 1=0:=hpar;rw[show exm yv 0 (some X.v)=some ⟨X.v,yv,1,X.v*yv⟩from(Χ (fun h=>hz h.1)).trans (Ρ hp)];have hb3:B8 f31/128=0:=V;clear hz hv hvz hpar V hp;go_enter func122,ntmps122;go_wp2_with (first|refine gBp 1 fun b1 J I=>?_|refine gBp 2 fun b2 J I=>?_|refine aQq fun _ J I=>?_);refine wf [(0,false),(1,false),(2,false),(3,true)] [] [] I ?_
    repeat refine rN ?_
    refine aK ?_;refine fC fun J I=>?_;go_wp2_with (first|refine gBp 5 fun b5 J I=>?_|refine gBp 6 fun b6 J I=>?_|refine aQq fun _ J I=>?_);refine au [(0,false),(1,false),(2,false),(3,false),(4,false),(5,false),(6,false),(7,false),(8,false),(9,false),(10,false),(11,true),(12,true),(13,true)] [(14,_,147)] [15,16] Θ Θ ⟨⟨_,rfl,rfl,rfl⟩,Ϙ,trivial⟩ I ?_;refine pF ?_
    repeat(first|((with_reducible show bC _ _ _ (_::_) _ _);refine sI1 rfl rfl rfl ?_;refine p4 ?_)|refine rS ?_)
    refine aK ?_;refine aC fun b=>?_;refine fB fun J I=>?_;go_wp2_with (first|refine gBp 9 fun b9 J I=>?_|(refine gN 48 ?_;refine lQ I rfl rfl rfl rfl fun J I=>?_)|refine aV ?_|((refine ϗ (.build 24 #[]) ?_);refine lU I rfl rfl i9 rfl fun J I=>?_)|((refine ϗ (.build 149 _) ?_);refine lU I rfl rfl eE rfl fun J I=>?_)|((refine ϗ (.build 147 #[]) ?_);refine lU I rfl rfl ja rfl fun J I=>?_)|refine aQq fun _ J I=>?_);refine wf [(0,false),(1,false),(2,false),(3,false),(4,false),(5,false),(6,true)] [] [7,8] I ?_
    repeat(first|((with_reducible show bC _ _ _ (_::_) _ _);refine sU rfl rfl (fS _ _ _ _) rfl ?_;refine p4 ?_)|refine rS ?_)
    refine aK ?_;refine fB fun J I=>?_;go_wp2_with (refine aQq fun _ J I=>?_);exact Ϣ (ao rfl I rfl rfl) rfl ⟨some ⟨X,Yzq,El.one,XY⟩,rfl,XH some HP.out,I.bel⟩
   ·obtain⟨hz,rfl,hp⟩:=hc
    have hv:¬X.v.val=0:=fun e=>hz (hvz.2 e);rw[XB hv]at ez;rw[hp]at hpar;have hpar2:bits .and .u8 D 1=1:=hpar;rw[show exm yv 1 (some X.v)=some ⟨X.v,yv,1,X.v*yv⟩from(Χ (fun h=>hz h.1)).trans (Ρ hp)];have hb3:B8 f31/128=1:=V;clear hz hv hvz hpar V hp;go_enter func122,ntmps122;go_wp2_with (first|refine gBp 1 fun b1 J I=>?_|refine gBp 2 fun b2 J I=>?_|refine aQq fun _ J I=>?_);refine wf [(0,false),(1,false),(2,false),(3,true)] [] [] I ?_
    repeat refine rN ?_
    refine aK ?_;refine fC fun J I=>?_;go_wp2_with (first|refine gBp 5 fun b5 J I=>?_|refine gBp 6 fun b6 J I=>?_|refine aQq fun _ J I=>?_);refine au [(0,false),(1,false),(2,false),(3,false),(4,false),(5,false),(6,false),(7,false),(8,false),(9,false),(10,false),(11,true),(12,true),(13,true)] [(14,_,147)] [15,16] Θ Θ ⟨⟨_,rfl,rfl,rfl⟩,Ϙ,trivial⟩ I ?_;refine pF ?_
    repeat(first|((with_reducible show bC _ _ _ (_::_) _ _);refine sI1 rfl rfl rfl ?_;refine p4 ?_)|refine rS ?_)
    refine aK ?_;refine aC fun b=>?_;refine fB fun J I=>?_;go_wp2_with (first|refine gBp 9 fun b9 J I=>?_|(refine gN 48 ?_;refine lQ I rfl rfl rfl rfl fun J I=>?_)|refine aV ?_|((refine ϗ (.build 24 #[]) ?_);refine lU I rfl rfl i9 rfl fun J I=>?_)|((refine ϗ (.build 149 _) ?_);refine lU I rfl rfl eE rfl fun J I=>?_)|((refine ϗ (.build 147 #[]) ?_);refine lU I rfl rfl ja rfl fun J I=>?_)|refine aQq fun _ J I=>?_);refine wf [(0,false),(1,false),(2,false),(3,false),(4,false),(5,false),(6,true)] [] [7,8] I ?_
    repeat(first|((with_reducible show bC _ _ _ (_::_) _ _);refine sU rfl rfl (fS _ _ _ _) rfl ?_;refine p4 ?_)|refine rS ?_)
    refine aK ?_;refine fB fun J I=>?_;go_wp2_with (refine aQq fun _ J I=>?_);exact Ϣ (ao rfl I rfl rfl) rfl ⟨some ⟨X,Yzq,El.one,XY⟩,rfl,XH some HP.out,I.bel⟩
   ·obtain⟨hz,rfl,hp⟩:=hc
    have hv:¬X.v.val=0:=fun e=>hz (hvz.2 e);rw[XB hv]at ez;rw[hp]at hpar;have hpar2:bits .and .u8 D 1=1:=hpar;rw[show exm yv 0 (some X.v)=some ⟨-X.v,yv,1,-X.v*yv⟩from(Χ (fun h=>hz h.1)).trans (Χ Ω)];have hb3:B8 f31/128=0:=V;clear hz hv hvz hpar V hp;go_enter func122,ntmps122;go_wp2_with (first|refine gBp 1 fun b1 J I=>?_|refine gBp 2 fun b2 J I=>?_|refine aQq fun _ J I=>?_);refine wf [(0,false),(1,false),(2,false),(3,true)] [] [] I ?_
    repeat refine rN ?_
    refine aK ?_;refine fC fun J I=>?_;go_wp2_with (first|refine gBp 5 fun b5 J I=>?_|refine gBp 6 fun b6 J I=>?_|refine aQq fun _ J I=>?_);refine au [(0,false),(1,false),(2,false),(3,false),(4,false),(5,false),(6,false),(7,false),(8,false),(9,false),(10,false),(11,true),(12,true),(13,true)] [(14,_,147)] [15,16] Θ Θ ⟨⟨_,rfl,rfl,rfl⟩,Ϙ,trivial⟩ I ?_;refine pF ?_
    repeat(first|((with_reducible show bC _ _ _ (_::_) _ _);refine sI1 rfl rfl rfl ?_;refine p4 ?_)|refine rS ?_)
    refine aK ?_;refine aC fun b=>?_;refine fB fun J I=>?_;go_wp2_with (first|refine gBp 9 fun b9 J I=>?_|(refine gN 48 ?_;refine lQ I rfl rfl rfl rfl fun J I=>?_)|refine aV ?_|((refine ϗ (.build 24 #[]) ?_);refine lU I rfl rfl i9 rfl fun J I=>?_)|((refine ϗ (.build 149 _) ?_);refine lU I rfl rfl eE rfl fun J I=>?_)|((refine ϗ (.build 147 #[]) ?_);refine lU I rfl rfl ja rfl fun J I=>?_)|refine aQq fun _ J I=>?_);refine wf [(0,false),(1,false),(2,false),(3,false),(4,false),(5,false),(6,true)] [] [7,8] I ?_
    repeat(first|((with_reducible show bC _ _ _ (_::_) _ _);refine sU rfl rfl (fS _ _ _ _) rfl ?_;refine p4 ?_)|refine rS ?_)
    refine aK ?_;refine fB fun J I=>?_;go_wp2_with (refine aQq fun _ J I=>?_);exact Ϣ (ao rfl I rfl rfl) rfl ⟨some ⟨XN,Yzq,El.one,XNY⟩,rfl,XH some HN.out,I.bel⟩
   ·obtain⟨hz,rfl,hp⟩:=hc
    have hv:¬X.v.val=0:=fun e=>hz (hvz.2 e);rw[XB hv]at ez;rw[hp]at hpar;have hpar2:bits .and .u8 D 1=0:=hpar;rw[show exm yv 1 (some X.v)=some ⟨-X.v,yv,1,-X.v*yv⟩from(Χ (fun h=>hz h.1)).trans (Χ Ω)];have hb3:B8 f31/128=1:=V;clear hz hv hvz hpar V hp;go_enter func122,ntmps122;go_wp2_with (first|refine gBp 1 fun b1 J I=>?_|refine gBp 2 fun b2 J I=>?_|refine aQq fun _ J I=>?_);refine wf [(0,false),(1,false),(2,false),(3,true)] [] [] I ?_
    repeat refine rN ?_
    refine aK ?_;refine fC fun J I=>?_;go_wp2_with (first|refine gBp 5 fun b5 J I=>?_|refine gBp 6 fun b6 J I=>?_|refine aQq fun _ J I=>?_);refine au [(0,false),(1,false),(2,false),(3,false),(4,false),(5,false),(6,false),(7,false),(8,false),(9,false),(10,false),(11,true),(12,true),(13,true)] [(14,_,147)] [15,16] Θ Θ ⟨⟨_,rfl,rfl,rfl⟩,Ϙ,trivial⟩ I ?_;refine pF ?_
    repeat(first|((with_reducible show bC _ _ _ (_::_) _ _);refine sI1 rfl rfl rfl ?_;refine p4 ?_)|refine rS ?_)
    refine aK ?_;refine aC fun b=>?_;refine fB fun J I=>?_;go_wp2_with (first|refine gBp 9 fun b9 J I=>?_|(refine gN 48 ?_;refine lQ I rfl rfl rfl rfl fun J I=>?_)|refine aV ?_|((refine ϗ (.build 24 #[]) ?_);refine lU I rfl rfl i9 rfl fun J I=>?_)|((refine ϗ (.build 149 _) ?_);refine lU I rfl rfl eE rfl fun J I=>?_)|((refine ϗ (.build 147 #[]) ?_);refine lU I rfl rfl ja rfl fun J I=>?_)|refine aQq fun _ J I=>?_);refine wf [(0,false),(1,false),(2,false),(3,false),(4,false),(5,false),(6,true)] [] [7,8] I ?_
    repeat(first|((with_reducible show bC _ _ _ (_::_) _ _);refine sU rfl rfl (fS _ _ _ _) rfl ?_;refine p4 ?_)|refine rS ?_)
    refine aK ?_;refine fB fun J I=>?_;go_wp2_with (refine aQq fun _ J I=>?_);exact Ϣ (ao rfl I rfl rfl) rfl ⟨some ⟨XN,Yzq,El.one,XNY⟩,rfl,XH some HN.out,I.bel⟩
 ·rw[Χ hc]at he
  have hp:y%P≠y:=fun e=>hc (by rw[← e];exact XJ _ tu);rw[XB hp]at e1;rw[he];clear hw hc hp he f0 hYv;generalize ah (y%P)=z,ah y=y at *
  go_enter func122,ntmps122;go_wp2_with (first|refine gBp 1 fun b1 J I=>?_|refine gBp 2 fun b2 J I=>?_|refine aQq fun _ J I=>?_);refine wf [(0,false),(1,false),(2,false),(3,true)] [] [] I ?_
  repeat refine rN ?_
  refine aK ?_;refine fC fun J I=>?_;go_wp2_with (first|((refine ϗ (.build 149 _) ?_);refine lU I rfl rfl eE rfl fun J I=>?_)|refine aQq fun _ J I=>?_);exact Ϣ (ao rfl I rfl rfl) rfl ⟨none,rfl,rfl,I.bel⟩
instance Vp:Ent 122:=eo func122
end R3
end Go.Proofs.YtoifhhljfaoejaaGreatDoor
