/-
  Lemmas of the law, part 16: the walks of the functions that it calls and the plain facts about them. No condition beyond those written.
-/
import Derived.Test.YtoifhhljfaoejaaGreatDoorPkAA
import Derived.Test.YtoifhhljfaoejaaGreatDoorPkAO
import Derived.Test.YtoifhhljfaoejaaGreatDoorPkAD
import Derived.Test.YtoifhhljfaoejaaGreatDoorPkAH
import Derived.Outline
import Derived.Test.YtoifhhljfaoejaaGreatDoorPkAK
set_option maxRecDepth 100000
set_option maxHeartbeats 8000000
set_option linter.unusedVariables false
set_option linter.unusedSimpArgs false
set_option linter.unusedSectionVars false
namespace Go.Proofs.YtoifhhljfaoejaaGreatDoor
open Go.Proofs.Tryz
section
open Go Go.RowKit Go.Shelf
section
variable {w0 w:World} {M:Mem} {bf bb cc dd:Nat} {er pr:Int} {p:Option Addr} {n c:Nat} {k N:Int}
theorem DN(hA:At M bf (flR bb er pr) 106)(hD:At M dd (dvR bf cc) 126)(R:Value→Int→Mem→Prop)(hR:∀o v M',R o v M'→¬v=8∧(dd,dvR bf cc,126)∈M')(hc:∀b w1,Loc w0 w1 ((b,mvR k p n c N,47)::M)→Calls prog 52 #[bM cc,.agg (mvR k p n c N)] w1 fun e w'=>∃po no co v M',e= .returned (.tuple #[.slice po no co,.int .i64 v])∧R (.slice po no co) v M'∧Loc w0 w' ((b,mvR k p n c N,47)::M'))(hL:Loc w0 w M):Calls prog 18 #[bM dd,.agg (mvR k p n c N)] w fun e w'=>∃po no co v M',e= .returned (.tuple #[.slice po no co,.int .i64 v])∧R (.slice po no co) v M'∧Loc w0 w' M':=by
 have HC:=Hd hc;have HRR:=Hd hR;clear hc hR;have HDEAD:=Hd (fun(b:Nat) w1 (h:Loc w0 w1 ((b,mvR k p n c N,47)::M))=>(show Calls prog 51 #[bM bf] w1 fun e w'=>e= .returned (.bool false)∧Loc w0 w' ((b,mvR k p n c N,47)::M)from by
  have hL:=h;go_enter func51,ntmps51;go_wp2_with (first|refine aU ?_|(refine ah ?_;clear hL;intro w1 hL))
  all_goals(go_ret;exact⟨rfl,hL⟩)))
 go_enter func18,ntmps18;go_wp2_with (first|refine aU ?_|(refine gBp 3 ?_;clear hL;intro b3 w1 hL)|(refine gN 17 ?_;refine lO (HDEAD.out _ _ hL) ?_;clear hL;intro w1 hL)|(refine ah ?_;clear hL;intro w1 hL));have hK1:=hL.get (At.mem (M:=(b3,mvR k p n c N,47)::M) (b:=dd));have hK2:=hL.get (At.mem (M:=(b3,mvR k p n c N,47)::M) (b:=b3));haveI hH1:Held (fun w'=>w'.heap[dd]?=some (.cells (dvR bf cc) 126 (0,0))∧w'.heap[b3]?=some (.cells (mvR k p n c N) 47 (0,0))) dd (dvR bf cc) 126:=⟨fun w h=>h.1⟩;haveI hH2:Held (fun w'=>w'.heap[dd]?=some (.cells (dvR bf cc) 126 (0,0))∧w'.heap[b3]?=some (.cells (mvR k p n c N) 47 (0,0))) b3 (mvR k p n c N) 47:=⟨fun w h=>h.2⟩;refine mX (S:=fun w'=>w'.heap[dd]?=some (.cells (dvR bf cc) 126 (0,0))∧w'.heap[b3]?=some (.cells (mvR k p n c N) 47 (0,0))) 11 ((by first|exact⟨hL.drew.get (hQ.2.tail _),hL.drew.get (.head _)⟩|exact⟨hK1,hK2⟩)) ?_;intro hHeld;replace hL:=hL.drew;refine uG 0 ?_;refine uZ 4 ?_;refine uG 1 ?_;refine uG 2 ?_;refine uZ 3 ?_;refine rd1 5 ?_;intro K hK;refine eK (HC.out _ _ hL) ?_;rintro e w1⟨po,no,co,v,M',rfl,hRv,hL1⟩;refine⟨_,rfl,?_⟩;have hQ:=HRR.out _ _ _ hRv;clear hL;revert hL1;refine aN ?_;intro hL;refine kO hK ((by first|exact⟨hL.get (hQ.2.tail _),hL.get (.head _)⟩|exact⟨hK1,hK2⟩)) ?_;clear hK K hHeld;intro hHeld;refine uG 6 ?_;refine uG 7 ?_;refine uG 8 ?_;refine uG 9 ?_;refine uG 10 ?_;refine wD ?_;clear hHeld;have hq8:=hQ.1;have HE:=Hd (show ∃M',R (.slice po no co) v M'∧Loc w0 w1 M' from⟨M',hRv,hL.pop⟩);clear hQ hRv hL;have hL:=Loc.nil w1;go_wp2_with (first|refine aU ?_|(refine ah ?_;clear hL;intro w1 hL));obtain⟨M2,hE1,hE2⟩:=HE.out
 all_goals(go_ret2;exact⟨po,no,co,v,M2,rfl,hE1,hE2⟩)
instance PS:Ent 18:=eo func18
end
section
variable {w0 w:World} {F:Array Value→Array Value→Array Value→Array Value→Array Value→Mem} {bf bb bo bk kp a0 a1 cc dd:Nat} {fr fs:Nat→BitVec 8}
theorem DO(hF:CoM F bf bb bo bk kp a0 a1 cc)(hD:∀x y z u c,At (F x y z u c) dd (dvR bf cc) 126)(d:Dv)(ok:d.Ok)(hS:∀x y z u c,SeeS w0 (F x y z u c) d.s d.q)(hL:Loc w0 w (d.at F bf bb bo kp fr fs)) :
 Calls prog 21 #[bM dd] w fun e w'=>∃q' Sr S0 S1,e= .returned (.agg (stR d.s q'))∧HoldQ Sr S0 S1 d.s q'∧Loc w0 w' (S1++(S0++(Sr++d.at F bf bb bo kp fr fs))):=by
 have hA:=hF.a;have hU:=hF.u;have hB:=hF.b;have hV:=hF.v;have hO:=hF.o;have hPP:=hF.p;have hQ:=hF.q;have hRR:=hF.r;have hG:=hF.g;have hH:=hF.h;have hKK:=hF.k;have hll:=hF.l;have hmm:=hF.m;have HC:=Hd (fun(b:Nat) w1 (h:Loc w0 w1 ((b,DJ,58)::d.at F bf bb bo kp fr fs))=>vg (F:=fun x y z u c=>(b,DJ,58)::F x y z u c) (bf:=bf) (bb:=bb) (bo:=bo) (bk:=bk) (kp:=kp) (a0:=a0) (a1:=a1) (cc:=cc) (fr:=fr) (fs:=fs) inferInstance d ok (fun x y z u c=>inferInstance) h);clear hS ok;obtain⟨er,pr,y,f,n,m,p,kn,kc,half,s,q,bt,rg⟩:=d;dsimp only[Dv.at]at *
 go_enter func21,ntmps21;go_wp2_with (first|refine aU ?_|(refine gBp 2 ?_;clear hL;intro b2 w1 hL)|(refine gN 7 ?_;refine lKk (HC.out _ _ hL) ?_;rintro e w1⟨q',Sr,S0,S1,rfl,hQ,hL1⟩;clear hL;revert hL1;refine aE ?_;intro hL)|(refine ah ?_;clear hL;intro w1 hL));exact bodyPost_ret (ai rfl hL rfl) rfl ⟨q',Sr,S0,S1,rfl,hQ,Loc.rem b2 hL⟩
instance PT:Ent 21:=eo func21
end
section
variable {w0 w:World} {F:Array Value→Array Value→Mem} {bf bb:Nat} [hF:FlM F bf bb] {er pr:Int} {y:Array Value}
theorem vm(bf:Nat)(k:Int)(w:World):(Instr.build 170 #[(0,bM bf),(1,.int .i64 k)]).run prog w= .ok (.agg (arR bf k)) w:=by kernel_rfl
theorem DP(hL:Loc w0 w (F (flR bb er pr) y)):Calls prog 46 #[bM bf,.int .i64 0] w fun e w'=>∃b,e= .returned (.tuple #[bM b,.int .i64 0])∧Loc w0 w' ((b,arR bf 64,170)::F (flR bb er pr) y):=by
 go_enter func46,ntmps46;go_wp2_with (first|refine aU ?_|(refine gBp 26 ?_;clear hL;intro b26 w1 hL)|(refine gN 10 ?_;refine lO (ic (F:=F) (bf:=bf) (bb:=bb) hL) ?_;clear hL;intro w1 hL)|(refine gN 25 ?_;refine lU hL rfl rfl (vm _ _ _) rfl ?_;clear hL;intro w1 hL;refine p4 ?_)|(refine ah ?_;clear hL;intro w1 hL))
 all_goals(go_ret2;exact⟨b26,rfl,hL⟩)
theorem DQ(hL:Loc w0 w (F (flR bb er pr) y)):Calls prog 46 #[bM bf,.int .i64 1] w fun e w'=>∃b,e= .returned (.tuple #[bM b,.int .i64 0])∧Loc w0 w' ((b,arR bf 96,170)::F (flR bb er pr) y):=by
 go_enter func46,ntmps46;go_wp2_with (first|refine aU ?_|(refine gBp 26 ?_;clear hL;intro b26 w1 hL)|(refine gN 10 ?_;refine lO (ic (F:=F) (bf:=bf) (bb:=bb) hL) ?_;clear hL;intro w1 hL)|(refine gN 25 ?_;refine lU hL rfl rfl (vm _ _ _) rfl ?_;clear hL;intro w1 hL;refine p4 ?_)|(refine ah ?_;clear hL;intro w1 hL))
 all_goals(go_ret2;exact⟨b26,rfl,hL⟩)
instance PU:Ent 46:=eo func46
end
theorem DR(kp:Nat)(fr fs:Nat→BitVec 8)(s:Sta)(q:Sq)(w:World):(Instr.build 176 #[(0,.iface 115 (bM kp)),(1,.agg (aa 32 fr)),(2,.agg (aa 32 fs)),(3,.agg (stR s q)),(4,.int .i64 (-1))]).run prog w= .ok (.agg (coR kp fr fs s q (-1) fun _=>0)) w:=by kernel_rfl
theorem vn(kp:Nat)(fr fs:Nat→BitVec 8)(s:Sta)(q:Sq)(w:World):Calls prog 47 #[.iface 115 (bM kp),.agg (aa 32 fr),.agg (aa 32 fs),.agg (stR s q)] w fun e w'=>∃b,e= .returned (bM b)∧Loc w w' [(b,coR kp fr fs s q (-1) fun _=>0,176)]:=by
 have hL:=Loc.nil w;have hB:=DR kp fr fs s q;generalize coR kp fr fs s q (-1) (fun _=>0)=cr at *
 go_enter func47,ntmps47;go_wp2_with (first|refine aU ?_|(refine gBp 5 ?_;clear hL;intro b5 w1 hL)|(refine gBp 6 ?_;clear hL;intro b6 w1 hL)|(refine gBp 7 ?_;clear hL;intro b7 w1 hL)|(refine gBp 14 ?_;clear hL;intro b14 w1 hL)|(refine gN 13 ?_;refine lU hL rfl rfl hB rfl ?_;clear hL;intro w1 hL;refine p4 ?_)|(refine ah ?_;clear hL;intro w1 hL))
 all_goals(go_ret;exact⟨b14,rfl,Loc.rem b5 (Loc.rem b6 (Loc.rem b7 hL))⟩)
instance PV:Ent 47:=eo func47
theorem DS(w:World):Rt 44 #[.slice none 0 0] w (.tuple #[.agg (stR Sta.new Sq.none),.int .i64 0]):=by
 have hL:=Loc.nil w;go_enter func44,ntmps44;go_wp2_with (first|refine aU ?_|(refine gBp 2 ?_;clear hL;intro b2 w1 hL)|(refine gN 9 ?_;refine lV (tg _) hL ?_;clear hL;intro w1 hL)|(refine ah ?_;clear hL;intro w1 hL));exact bodyPost_ret (ay rfl hL rfl rfl) rfl ⟨rfl,hL.bel⟩
instance PW:Ent 44:=eo func44
end
section
open Go Go.RowKit Go.Shelf
abbrev nw(F:Array Value→Array Value→Array Value→Mem)(bf bo bk kp a0 a1 cc dd:Nat):Array Value→Array Value→Array Value→Array Value→Array Value→Mem :=
 fun x y z u c=>(dd,dvR bf cc,126)::(cc,c,176)::(a1,arR bf 96,170)::(a0,arR bf 64,170)::(kp,kpR bo bk a0 a1,119)::(bk,u,166)::F x y z
theorem DT(bo bk:Nat)(w:World):(Instr.build 119 #[(0,bM bo),(1,bM bk)]).run prog w= .ok (.agg #[bM bo,bM bk,.pointer none,.pointer none]) w:=by kernel_rfl
theorem DU(bf cc:Nat)(w:World):(Instr.build 126 #[(0,bM bf),(1,bM cc)]).run prog w= .ok (.agg (dvR bf cc)) w:=by kernel_rfl
structure Dv.Fresh(d:Dv)(m:Int):Prop where
 ok:d.Ok
 n:d.n=1
 m:d.m=m
 s:d.s=Sta.new
 q:d.q=Sq.none
 bt:d.bt= -1
 rg:d.rg=fun _=>0
 f:∀i,16384≤i→d.f i=255
section
variable {w0 w:World} {F:Array Value→Array Value→Array Value→Mem} {bf bb bo:Nat} {er pr:Int} {y:Array Value} {fr fs:Nat→BitVec 8} {m:Int}
theorem lF(hF:OtM F bf bb bo)(hm0:0<m)(hm:m≤1048576)(he:0≤er∧er≤1099511627776)(hp:0≤pr∧pr≤1099511627776)(hy:Fl (fun _=>255) y)(hL:Loc w0 w (F (flR bb er pr) y (otR bf fr fs 0 m))) :
 Calls prog 15 #[bM bf,bM bo] w fun e w'=>∃bk kp a0 a1 cc dd d,e= .returned (.tuple #[bM dd,.int .i64 0])∧Dv.Fresh d m∧Loc w0 w' (d.at (nw F bf bo bk kp a0 a1 cc dd) bf bb bo kp fr fs):=by
 have hA:=hF.a;have hU:=hF.u;have hB:=hF.b;have hV:=hF.v;have hO:=hF.o;have hPP:=hF.p;have HBK:=Hd (fun w1 (h:Loc w0 w1 (F (flR bb er pr) y (otR bf fr fs 0 m)))=>tf (F:=F) (bf:=bf) (bb:=bb) (bo:=bo) hm0 hm he hp hy h);clear hy;have HM:=Hd (show(1:Int)≤m from hm0);have HMM:=Hd hm;clear hm0 hm;go_enter func15,ntmps15;go_wp2_with (first|refine aU ?_|(refine gBp 8 ?_;clear hL;intro b8 w1 hL)|(refine gBp 43 ?_;clear hL;intro b43 w1 hL)|(refine gN 19 ?_;refine lO (ic (F:=fun x y=>F x y (otR bf fr fs 0 m)) (bf:=bf) (bb:=bb) hL) ?_;clear hL;intro w1 hL)|(refine gN 25 ?_;refine lKk (HBK.out _ hL) ?_;rintro e w1⟨bk,er2,pr2,f2,y2,rfl,he2,hp2,hf2,hy2,hL1⟩;clear hL;revert hL1;refine aE ?_;intro hL)|(refine gN 33 ?_;refine lO (DE (bf:=bf) (bo:=bo) (bk:=bk) inferInstance hL) ?_;clear hL;intro w1 hL)|(refine gN 34 ?_;refine lV (DS _) hL ?_;clear hL;intro w1 hL)|(refine gN 42 ?_;refine lU hL rfl rfl (DT _ _ _) rfl ?_;clear hL;intro w1 hL;refine p4 ?_)|(refine ah ?_;clear hL;intro w1 hL));go_loopw [44] (fun kk wr=>(kk= .int .i64 0∧Loc w0 wr ((b43, #[bM bo,bM bk,.pointer none,.pointer none],119)::(b8,stR Sta.new Sq.none,58)::(bk,bkR bf bo none 0 0 0,166)::F (flR bb er2 pr2) y2 (otR bf fr fs 1 m))) ∨
  (kk= .int .i64 1∧∃a0,Loc w0 wr ((a0,arR bf 64,170)::(b43, #[bM bo,bM bk,bM a0,.pointer none],119)::(b8,stR Sta.new Sq.none,58)::(bk,bkR bf bo none 0 0 0,166)::F (flR bb er2 pr2) y2 (otR bf fr fs 1 m))) ∨
  (kk= .int .i64 2∧∃a0 a1,Loc w0 wr ((a1,arR bf 96,170)::(a0,arR bf 64,170)::(b43,kpR bo bk a0 a1,119)::(b8,stR Sta.new Sq.none,58)::(bk,bkR bf bo none 0 0 0,166)::F (flR bb er2 pr2) y2 (otR bf fr fs 1 m)))) (fun kk _=>2-(intOf kk).toNat)
 case atStart=>exact .inl ⟨rfl,hL⟩
 case round =>
  clear hL;rcases hrel with⟨rfl,hL⟩|⟨rfl,a0,hL⟩|⟨rfl,a0,a1,hL⟩
  ·skip
   go_wp2_with (first|refine aU ?_|(refine ah ?_;clear hL;intro w1 hL));refine mX (S:=fun w'=>True) 12 (trivial) ?_;intro hHeld;replace hL:=hL.drew;refine uG 0 ?_;refine uG 1 ?_;refine uG 2 ?_;refine uG 3 ?_;refine uG 8 ?_;refine uG 9 ?_;refine rd1 4 ?_;intro K hK;refine eK (DP (F:=fun x y=>(b43, #[bM bo,bM bk,.pointer none,.pointer none],119)::(b8,stR Sta.new Sq.none,58)::(bk,bkR bf bo none 0 0 0,166)::F x y (otR bf fr fs 1 m)) (bf:=bf) (bb:=bb) hL) ?_;rintro e w1⟨a0,rfl,hL1⟩;refine⟨_,rfl,?_⟩;clear hL;revert hL1;refine aN ?_;intro hL;refine kO hK (trivial) ?_;clear hK K hHeld;intro hHeld;refine uG 5 ?_;refine uG 6 ?_;refine uG 7 ?_;refine uG 10 ?_;refine rd1 11 ?_;intro K hK;refine eJ ?_;clear hL;intro w1 hL;refine kO hK (trivial) ?_;clear hK K hHeld;intro hHeld;refine wD ?_;clear hHeld;go_wp2_with (first|refine aU ?_|(refine ah ?_;clear hL;intro w1 hL));go_roundw;case rel=>exact .inr (.inl ⟨rfl,a0,hL⟩)
   case measure=>simp only[intOf];decide
  ·skip
   go_wp2_with (first|refine aU ?_|(refine ah ?_;clear hL;intro w1 hL));refine mX (S:=fun w'=>True) 12 (trivial) ?_;intro hHeld;replace hL:=hL.drew;refine uG 0 ?_;refine uG 1 ?_;refine uG 2 ?_;refine uG 3 ?_;refine uG 8 ?_;refine uG 9 ?_;refine rd1 4 ?_;intro K hK;refine eK (DQ (F:=fun x y=>(a0,arR bf 64,170)::(b43, #[bM bo,bM bk,bM a0,.pointer none],119)::(b8,stR Sta.new Sq.none,58)::(bk,bkR bf bo none 0 0 0,166)::F x y (otR bf fr fs 1 m)) (bf:=bf) (bb:=bb) hL) ?_;rintro e w1⟨a1,rfl,hL1⟩;refine⟨_,rfl,?_⟩;clear hL;revert hL1;refine aN ?_;intro hL;refine kO hK (trivial) ?_;clear hK K hHeld;intro hHeld;refine uG 5 ?_;refine uG 6 ?_;refine uG 7 ?_;refine uG 10 ?_;refine rd1 11 ?_;intro K hK;refine eJ ?_;clear hL;intro w1 hL;refine kO hK (trivial) ?_;clear hK K hHeld;intro hHeld;refine wD ?_;clear hHeld;go_wp2_with (first|refine aU ?_|(refine ah ?_;clear hL;intro w1 hL));go_roundw;case rel=>exact .inr (.inr ⟨rfl,a0,a1,hL⟩)
   case measure=>simp only[intOf];decide
  ·skip
   go_wp2_with (first|refine aU ?_|(refine ah ?_;clear hL;intro w1 hL));refine mX (S:=fun w'=>Loc _ w' _) 13 (hL.drew) ?_;intro hHeld;replace hL:=hL.drew;refine uG 0 ?_;refine uG 1 ?_;refine uG 3 ?_;refine uG 5 ?_;refine uZ 7 ?_;refine uG 2 ?_;refine rd1 4 ?_;intro K hK;refine eK (u6 (F:=fun x y z=>(a1,arR bf 96,170)::(a0,arR bf 64,170)::(b43,kpR bo bk a0 a1,119)::(b8,stR Sta.new Sq.none,58)::(bk,bkR bf bo none 0 0 0,166)::F x y z) (bf:=bf) (bb:=bb) hL) ?_;rintro e w1⟨rfl,hL1⟩;refine⟨_,rfl,?_⟩;clear hL;revert hL1;refine aN ?_;intro hL;refine kO hK (hL) ?_;clear hK K hHeld;intro hHeld;refine rd1 6 ?_;intro K hK;refine eK (gK (F:=fun x y z=>(a1,arR bf 96,170)::(a0,arR bf 64,170)::(b43,kpR bo bk a0 a1,119)::(b8,stR Sta.new Sq.none,58)::(bk,bkR bf bo none 0 0 0,166)::F x y z) (bf:=bf) (bb:=bb) hL) ?_;rintro e w1⟨rfl,hL1⟩;refine⟨_,rfl,?_⟩;clear hL;revert hL1;refine aN ?_;intro hL;refine kO hK (hL) ?_;clear hK K hHeld;intro hHeld;refine rd1 8 ?_;intro K hK;refine eK (vn b43 fr fs Sta.new Sq.none _) ?_;rintro e w1⟨b67,rfl,hN⟩;refine⟨_,rfl,?_⟩;have hL1:=hL.join hN;clear hN hL;revert hL1;refine aJ ?_;intro hL;refine kO hK (hL.pop) ?_;clear hK K hHeld;intro hHeld;refine uT 9 (hi:=rfl) (zU (by rfl) rfl (DU _ _) rfl) ?_;refine rd1 10 ?_;intro K hK;refine eB hL rfl rfl ?_;clear hL;intro b69 w1 hL;refine kO hK (hL.pop.pop) ?_;clear hK K hHeld;intro hHeld;refine uG 11 ?_;refine uG 12 ?_;refine wD ?_;clear hHeld;go_wp2_with (first|refine aU ?_|(refine ah ?_;clear hL;intro w1 hL))
   all_goals(go_ret2;exact⟨bk,b43,a0,a1,b67,b69,⟨er2,pr2,y2,f2,1,m,none,0,0,0,Sta.new,Sq.none,-1,fun _=>0⟩,rfl,⟨⟨he2,hp2,hy2,by dsimp only;decide,HM.out,HMM.out,.inl rfl,vc⟩,rfl,rfl,rfl,rfl,rfl,rfl,hf2⟩,Loc.rem b8 hL⟩)
instance PX:Ent 15:=eo func15
end
end
section
open Go.RowKit
def lenOf:Value→Nat | .slice _ n _=>n|_=>0
theorem dU{w:World}{g:Nat}(x:BitVec 8)(h:w.heap[g]?=some (.cells #[.int .u8 (B8 x)] 5 (0,0))):BRow w (.slice (some ⟨g,0,none⟩) 1 1) [x] :=
 ⟨_,1,rfl,(fun hc=>by cases hc),fun _=>⟨g,0,rfl,(Array.getElem?_eq_some_iff.1 h).1,fun i hi=>by
  have:i=0:=by simpa using hi
  subst this;rw[cell_of_row w g _ _ _ _ h];rfl⟩⟩
theorem xS(v:Value)(l:List (BitVec 8))(w:World)(hv:BRow w v l)(hl:l.length≤1000000000) :
 Calls prog 71 #[v,.int .i64 64,.int .i64 8] w fun e w'=>∃v',e= .returned v'∧OwnB w' w.heap.size v' (pad l)∧Below w.heap.size w w':=by
 have HV:=Hd hv;have h0:OwnB w w.heap.size (.slice none 0 0) []:=World.ownsRow_nil _ _ _ _;obtain⟨a,c,rfl,hn,hp⟩:=hv;clear hn hp;have H0:=Hd h0;clear h0;go_enter func71,ntmps71;go_wp2_with (first
  | (at_builtin;refine bv rfl (.const (.slice none 0 0)) (.tmp 11) rfl w.heap.size _ [] l rfl H0.out HV.out (by simp;omega) (Nat.le_refl _) ?_;intro v1 w1 hown1 hg1;rw[List.nil_append]at hown1)
  | (at_builtin;refine bv rfl (.tmp 12) (.tmp 13) rfl w.heap.size v1 l [128] rfl ?o1 ?o2 ?o3 ?o4 ?_;rotate_left 4;intro v2 w2 hown2 hg2))
 case o1=>exact World.ownsRow.alloc hown1 _
 case o2=>exact dU 128 (heap_alloc_new _ _)
 case o3=>simp;omega
 case o4=>have:=hg1.size;simp;omega
 have hb2:Below w.heap.size w w2:=((((Below.refl _ _).grown hg1 (Nat.le_refl _) (fun k hk=>by cases hk)).alloc hg1.size _)).grown hg2 (by have:=hg1.size;simp;omega) (fun k hk=>(hown1.lt k hk).1);have HST:=Hd (show ∃a c,v2= .slice a (l.length+1) c from by obtain⟨a,c,e,_⟩:=hown2.brow;exact⟨a,c,by simpa using e⟩);clear hg1 hg2 hown1;go_loopw [7] (fun v wr=>∃z:Nat,z≤cI l.length∧(∃a c,v= .slice a (l.length+1+z) c)∧OwnB wr w.heap.size v (l++[128]++List.replicate z 0)∧Below w.heap.size w wr) (fun v _=>1000000100-lenOf v);case atStart=>exact⟨0,Nat.zero_le _,HST.out,by simpa using hown2,hb2⟩
 case round =>
  clear hown2 hb2 HST;obtain⟨z,hz,⟨a1,c1,rfl⟩,hown,hbel⟩:=hrel;have hZ:cI l.length=(119-l.length%64)%64:=rfl;have hsz:=hbel.size;have HOWN:=Hd hown;have HLT:=Hd hown.lt;have HBEL:=Hd hbel;clear hown hbel;by_cases hzl:z<cI l.length
  ·have h56:(((l.length+1+z:Nat):Int)%64 !=56)=true:=by rw[bne_iff_ne];omega
   obtain⟨n,hn⟩:∃n,n=l.length+1+z:=⟨_,rfl⟩;rw[← hn]at h56 ⊢;rw[← hn]at HOWN HLT;have HN:=Hd hn;have hn1:n≤1000000065:=by omega
   clear hn hZ;go_wp2_with (at_builtin;refine bv rfl (.tmp 23) (.tmp 24) rfl w.heap.size (.slice a1 n c1) (l++[128]++List.replicate z 0) [0] rfl ?p1 ?p2 ?p3 ?p4 ?_;rotate_left 4;intro v3 w3 hown3 hg3);case p1=>exact World.ownsRow.alloc HOWN.out _
   case p2=>exact dU 0 (heap_alloc_new _ _)
   case p3=>have:=HN.out;simp;omega
   case p4=>simp;omega
   have hb3:=(HBEL.out.alloc hsz (.cells #[.int .u8 0] 5)).grown hg3 (by simp;omega) (fun k hk=>(HLT.out k hk).1);have e3:l++[128]++List.replicate z 0++[0]=l++[128]++List.replicate (z+1) 0:=by rw[List.replicate_succ',List.append_assoc (l++[128])]
   rw[e3]at hown3;clear e3 hg3;have HB3:=Hd hb3;have HO3:=Hd hown3;have HST:=Hd (show ∃a c,v3= .slice a (l.length+1+(z+1)) c from by obtain⟨a,c,e,_⟩:=hown3.brow;exact⟨a,c,by rw[e];congr 1;simp;omega⟩);clear hb3 hown3;go_wp2;go_roundw;case rel=>exact⟨z+1,by omega,HST.out,HO3.out,HB3.out⟩
   case measure =>
    obtain⟨a,c,e⟩:=HST.out;have:=HN.out;rw[e];simp only[lenOf];omega
  ·have hze:z=cI l.length:=by omega
   have h56:(((l.length+1+z:Nat):Int)%64 !=56)=false:=by rw[bne_eq_false_iff_eq];omega
   subst hze;obtain⟨n,hn⟩:∃n,n=l.length+1+cI l.length:=⟨_,rfl⟩;rw[← hn]at h56 ⊢;rw[← hn]at HOWN HLT;clear hn hZ hzl hz;go_wp2;have HST:=Hd (show ∃a c,(Value.slice a1 n c1)= .slice a n c from⟨a1,c1,rfl⟩);obtain⟨pre,hpre⟩:∃pre,pre=l++[128]++List.replicate (cI l.length) 0:=⟨_,rfl⟩;rw[← hpre]at HOWN;have HPRE:=Hd hpre;have hlp:pre.length≤1000000100:=by rw[hpre];simp;unfold cI;omega
   clear hpre;obtain⟨w0,rfl⟩:∃w0:World,w0=wr:=⟨_,rfl⟩;go_loopw [7,9] (fun v i wr=>∃j:Nat,j≤8∧i= .int .i64 (7-(j:Int))∧OwnB wr w.heap.size v (pre++(aD l.length).take j)∧Below w.heap.size w wr) (fun _ i _=>(intOf i+1).toNat);case atStart=>exact⟨0,by omega,rfl,by simpa using HOWN.out,HBEL.out⟩
   case round =>
    clear HOWN HLT HBEL hsz HST;obtain⟨j,hj,rfl,hown,hbel⟩:=hrel;have hsz:=hbel.size;have HOWN:=Hd hown;have HLT:=Hd hown.lt;have HBEL:=Hd hbel;clear hown hbel;by_cases hj8:j<8
    ·have HVJ:=Hd (bj l.length j)
     have hl0:(0:Int)≤(l.length:Int):=by omega
     have hl1:(l.length:Int)≤1000000000:=by omega
     have hj8':j=0∨j=1∨j=2∨j=3∨j=4∨j=5∨j=6∨j=7:=by omega
     rcases hj8' with rfl|rfl|rfl|rfl|rfl|rfl|rfl|rfl
     ·have hX:bits BinOp.and IntKind.i64 (8*(l.length:Int)/72057594037927936) 255=B8 (av l.length 0):=by
       rw[show 8*(l.length:Int)/72057594037927936=((8*l.length/72057594037927936:Nat):Int) by omega,dy _ (by omega),HVJ.out,show 2^(8*(7-0))=72057594037927936 from rfl]
      obtain⟨x0,x1⟩:=bK (av l.length 0);have HT:=Hd (bO l.length hj8);clear HVJ;rw[show(7:Int)-((0:Nat):Int)=7 from rfl];go_wp2_with (at_builtin;refine bv rfl (.tmp 43) (.tmp 46) rfl w.heap.size u7 (pre++(aD l.length).take 0) [av l.length 0] rfl ?p1_0 ?p2_0 ?p3_0 ?p4_0 ?_;rotate_left 4;intro v3 w3 hown3 hg3);case p1_0=>exact World.ownsRow.alloc HOWN.out _
      case p2_0=>exact dU _ (heap_alloc_new _ _)
      case p3_0=>simp;omega
      case p4_0=>simp;omega
      have hb3:=(HBEL.out.alloc hsz (.cells #[.int .u8 (B8 (av l.length 0))] 5)).grown hg3 (by simp;omega) (fun k hk=>(HLT.out k hk).1);rw[List.append_assoc,← HT.out]at hown3;refine⟨⟨1,by omega,rfl,hown3,hb3⟩,by simp only[intOf];omega⟩
     ·have hX:bits BinOp.and IntKind.i64 (8*(l.length:Int)/281474976710656) 255=B8 (av l.length 1):=by
       rw[show 8*(l.length:Int)/281474976710656=((8*l.length/281474976710656:Nat):Int) by omega,dy _ (by omega),HVJ.out,show 2^(8*(7-1))=281474976710656 from rfl]
      obtain⟨x0,x1⟩:=bK (av l.length 1);have HT:=Hd (bO l.length hj8);clear HVJ;rw[show(7:Int)-((1:Nat):Int)=6 from rfl];go_wp2_with (at_builtin;refine bv rfl (.tmp 43) (.tmp 46) rfl w.heap.size u7 (pre++(aD l.length).take 1) [av l.length 1] rfl ?p1_1 ?p2_1 ?p3_1 ?p4_1 ?_;rotate_left 4;intro v3 w3 hown3 hg3);case p1_1=>exact World.ownsRow.alloc HOWN.out _
      case p2_1=>exact dU _ (heap_alloc_new _ _)
      case p3_1=>simp;omega
      case p4_1=>simp;omega
      have hb3:=(HBEL.out.alloc hsz (.cells #[.int .u8 (B8 (av l.length 1))] 5)).grown hg3 (by simp;omega) (fun k hk=>(HLT.out k hk).1);rw[List.append_assoc,← HT.out]at hown3;refine⟨⟨2,by omega,rfl,hown3,hb3⟩,by simp only[intOf];omega⟩
     ·have hX:bits BinOp.and IntKind.i64 (8*(l.length:Int)/1099511627776) 255=B8 (av l.length 2):=by
       rw[show 8*(l.length:Int)/1099511627776=((8*l.length/1099511627776:Nat):Int) by omega,dy _ (by omega),HVJ.out,show 2^(8*(7-2))=1099511627776 from rfl]
      obtain⟨x0,x1⟩:=bK (av l.length 2);have HT:=Hd (bO l.length hj8);clear HVJ;rw[show(7:Int)-((2:Nat):Int)=5 from rfl];go_wp2_with (at_builtin;refine bv rfl (.tmp 43) (.tmp 46) rfl w.heap.size u7 (pre++(aD l.length).take 2) [av l.length 2] rfl ?p1_2 ?p2_2 ?p3_2 ?p4_2 ?_;rotate_left 4;intro v3 w3 hown3 hg3);case p1_2=>exact World.ownsRow.alloc HOWN.out _
      case p2_2=>exact dU _ (heap_alloc_new _ _)
      case p3_2=>simp;omega
      case p4_2=>simp;omega
      have hb3:=(HBEL.out.alloc hsz (.cells #[.int .u8 (B8 (av l.length 2))] 5)).grown hg3 (by simp;omega) (fun k hk=>(HLT.out k hk).1);rw[List.append_assoc,← HT.out]at hown3;refine⟨⟨3,by omega,rfl,hown3,hb3⟩,by simp only[intOf];omega⟩
     ·have hX:bits BinOp.and IntKind.i64 (8*(l.length:Int)/4294967296) 255=B8 (av l.length 3):=by
       rw[show 8*(l.length:Int)/4294967296=((8*l.length/4294967296:Nat):Int) by omega,dy _ (by omega),HVJ.out,show 2^(8*(7-3))=4294967296 from rfl]
      obtain⟨x0,x1⟩:=bK (av l.length 3);have HT:=Hd (bO l.length hj8);clear HVJ;rw[show(7:Int)-((3:Nat):Int)=4 from rfl];go_wp2_with (at_builtin;refine bv rfl (.tmp 43) (.tmp 46) rfl w.heap.size u7 (pre++(aD l.length).take 3) [av l.length 3] rfl ?p1_3 ?p2_3 ?p3_3 ?p4_3 ?_;rotate_left 4;intro v3 w3 hown3 hg3);case p1_3=>exact World.ownsRow.alloc HOWN.out _
      case p2_3=>exact dU _ (heap_alloc_new _ _)
      case p3_3=>simp;omega
      case p4_3=>simp;omega
      have hb3:=(HBEL.out.alloc hsz (.cells #[.int .u8 (B8 (av l.length 3))] 5)).grown hg3 (by simp;omega) (fun k hk=>(HLT.out k hk).1);rw[List.append_assoc,← HT.out]at hown3;refine⟨⟨4,by omega,rfl,hown3,hb3⟩,by simp only[intOf];omega⟩
     ·have hX:bits BinOp.and IntKind.i64 (8*(l.length:Int)/16777216) 255=B8 (av l.length 4):=by
       rw[show 8*(l.length:Int)/16777216=((8*l.length/16777216:Nat):Int) by omega,dy _ (by omega),HVJ.out,show 2^(8*(7-4))=16777216 from rfl]
      obtain⟨x0,x1⟩:=bK (av l.length 4);have HT:=Hd (bO l.length hj8);clear HVJ;rw[show(7:Int)-((4:Nat):Int)=3 from rfl];go_wp2_with (at_builtin;refine bv rfl (.tmp 43) (.tmp 46) rfl w.heap.size u7 (pre++(aD l.length).take 4) [av l.length 4] rfl ?p1_4 ?p2_4 ?p3_4 ?p4_4 ?_;rotate_left 4;intro v3 w3 hown3 hg3);case p1_4=>exact World.ownsRow.alloc HOWN.out _
      case p2_4=>exact dU _ (heap_alloc_new _ _)
      case p3_4=>simp;omega
      case p4_4=>simp;omega
      have hb3:=(HBEL.out.alloc hsz (.cells #[.int .u8 (B8 (av l.length 4))] 5)).grown hg3 (by simp;omega) (fun k hk=>(HLT.out k hk).1);rw[List.append_assoc,← HT.out]at hown3;refine⟨⟨5,by omega,rfl,hown3,hb3⟩,by simp only[intOf];omega⟩
     ·have hX:bits BinOp.and IntKind.i64 (8*(l.length:Int)/65536) 255=B8 (av l.length 5):=by
       rw[show 8*(l.length:Int)/65536=((8*l.length/65536:Nat):Int) by omega,dy _ (by omega),HVJ.out,show 2^(8*(7-5))=65536 from rfl]
      obtain⟨x0,x1⟩:=bK (av l.length 5);have HT:=Hd (bO l.length hj8);clear HVJ;rw[show(7:Int)-((5:Nat):Int)=2 from rfl];go_wp2_with (at_builtin;refine bv rfl (.tmp 43) (.tmp 46) rfl w.heap.size u7 (pre++(aD l.length).take 5) [av l.length 5] rfl ?p1_5 ?p2_5 ?p3_5 ?p4_5 ?_;rotate_left 4;intro v3 w3 hown3 hg3);case p1_5=>exact World.ownsRow.alloc HOWN.out _
      case p2_5=>exact dU _ (heap_alloc_new _ _)
      case p3_5=>simp;omega
      case p4_5=>simp;omega
      have hb3:=(HBEL.out.alloc hsz (.cells #[.int .u8 (B8 (av l.length 5))] 5)).grown hg3 (by simp;omega) (fun k hk=>(HLT.out k hk).1);rw[List.append_assoc,← HT.out]at hown3;refine⟨⟨6,by omega,rfl,hown3,hb3⟩,by simp only[intOf];omega⟩
     ·have hX:bits BinOp.and IntKind.i64 (8*(l.length:Int)/256) 255=B8 (av l.length 6):=by
       rw[show 8*(l.length:Int)/256=((8*l.length/256:Nat):Int) by omega,dy _ (by omega),HVJ.out,show 2^(8*(7-6))=256 from rfl]
      obtain⟨x0,x1⟩:=bK (av l.length 6);have HT:=Hd (bO l.length hj8);clear HVJ;rw[show(7:Int)-((6:Nat):Int)=1 from rfl];go_wp2_with (at_builtin;refine bv rfl (.tmp 43) (.tmp 46) rfl w.heap.size u7 (pre++(aD l.length).take 6) [av l.length 6] rfl ?p1_6 ?p2_6 ?p3_6 ?p4_6 ?_;rotate_left 4;intro v3 w3 hown3 hg3);case p1_6=>exact World.ownsRow.alloc HOWN.out _
      case p2_6=>exact dU _ (heap_alloc_new _ _)
      case p3_6=>simp;omega
      case p4_6=>simp;omega
      have hb3:=(HBEL.out.alloc hsz (.cells #[.int .u8 (B8 (av l.length 6))] 5)).grown hg3 (by simp;omega) (fun k hk=>(HLT.out k hk).1);rw[List.append_assoc,← HT.out]at hown3;refine⟨⟨7,by omega,rfl,hown3,hb3⟩,by simp only[intOf];omega⟩
     ·have hX:bits BinOp.and IntKind.i64 (8*(l.length:Int)) 255=B8 (av l.length 7):=by
       rw[show 8*(l.length:Int)=((8*l.length/1:Nat):Int) by omega,dy _ (by omega),HVJ.out,show 2^(8*(7-7))=1 from rfl]
      obtain⟨x0,x1⟩:=bK (av l.length 7);have HT:=Hd (bO l.length hj8);clear HVJ;rw[show(7:Int)-((7:Nat):Int)=0 from rfl];go_wp2_with (at_builtin;refine bv rfl (.tmp 43) (.tmp 46) rfl w.heap.size u7 (pre++(aD l.length).take 7) [av l.length 7] rfl ?p1_7 ?p2_7 ?p3_7 ?p4_7 ?_;rotate_left 4;intro v3 w3 hown3 hg3);case p1_7=>exact World.ownsRow.alloc HOWN.out _
      case p2_7=>exact dU _ (heap_alloc_new _ _)
      case p3_7=>simp;omega
      case p4_7=>simp;omega
      have hb3:=(HBEL.out.alloc hsz (.cells #[.int .u8 (B8 (av l.length 7))] 5)).grown hg3 (by simp;omega) (fun k hk=>(HLT.out k hk).1);rw[List.append_assoc,← HT.out]at hown3;refine⟨⟨8,by omega,rfl,hown3,hb3⟩,by simp only[intOf];omega⟩
    ·have hj9:j=8:=by omega
     subst hj9;have HT:=Hd (show(aD l.length).take 8=aD l.length from List.take_of_length_le (by simp[aD]));go_wp2;go_ret;refine⟨_,rfl,?_,HBEL.out⟩;have h:=HOWN.out;rw[HT.out,HPRE.out]at h;exact h
end
section
open Go.RowKit
def KAt(w:World):Prop:=0<w.heap.size∧∀i,i<64→w.cell? ⟨0,i,none⟩=some (.int .u32 (U (cV i)))
theorem KAt.below{w w':World}(h:KAt w)(hb:Below w.heap.size w w'):KAt w' :=
 ⟨Nat.lt_of_lt_of_le h.1 hb.size,fun i hi=>(hb.cell (p:=⟨0,i,none⟩) h.1).trans (h.2 i hi)⟩
theorem vo{B:Nat}{a w:World}(h:Below B a w)(n:Nat):Below B a (w.drewN n):=h.trans ⟨rfl,rfl,rfl,Nat.le_refl _,fun _ _=>rfl⟩
structure ShaAt(w:World)(g n:Nat)(f:Nat→BitVec 8)(h:Nat→BitVec 32)(wr:World):Prop where
 res:wr.heap[w.heap.size]?=some (.cells (aa 32 fun _=>0) 24 (0,0))
 hh:wr.heap[w.heap.size+1]?=some (.cells (a6 8 h) 137 (0,0))
 lo:w.heap.size+1<g
 hi:g<wr.heap.size
 mm:∀i,i<n→wr.cell? ⟨g,i,none⟩=some (.int .u8 (B8 (f i)))
 bel:Below w.heap.size w wr
theorem ShaAt.keep{w wr w':World}{g n:Nat}{f:Nat→BitVec 8}{h:Nat→BitVec 32}(s:ShaAt w g n f h wr)(hb:Below (g+1) wr w'):ShaAt w g n f h w' where
 res:=(hb.block _ (by have:=s.lo;omega)).trans s.res
 hh:=(hb.block _ (by have:=s.lo;omega)).trans s.hh
 lo:=s.lo
 hi:=Nat.lt_of_lt_of_le s.hi hb.size
 mm:=fun i hi=>(hb.cell (p:=⟨g,i,none⟩) (by simp)).trans (s.mm i hi)
 bel:=s.bel.trans (hb.mono (by have:=s.lo;omega))
theorem ShaAt.setH{w wr:World}{g n:Nat}{f:Nat→BitVec 8}{h:Nat→BitVec 32}(s:ShaAt w g n f h wr){i:Nat}(x:BitVec 32)(hi:i<8) :
 ShaAt w g n f (upd h i x) (wr.setCell ⟨w.heap.size+1,i,none⟩ (.int .u32 (U x))) where
 res:=(heap_setCell_other _ _ _ _ (by simp)).trans s.res
 hh:=bZ x s.hh hi
 lo:=s.lo
 hi:=by have:=s.hi;simpa[World.setCell] using this
 mm:=fun j hj=>by
  rw[World.cell?_setCell_other _ _ _ _ (fun e=>by have:=s.lo;cases e;omega)];exact s.mm j hj
 bel:=s.bel.setCell (by simp) _
structure InAt(w:World)(g n:Nat)(f:Nat→BitVec 8)(h:Nat→BitVec 32)(wb:Nat)(W:Nat→BitVec 32)(wr:World):Prop where
 at_:ShaAt w g n f h wr
 lo:g<wb
 ww:wr.heap[wb]?=some (.cells (a6 64 W) 139 (0,0))
theorem InAt.drewN{w wr:World}{g n wb:Nat}{f:Nat→BitVec 8}{h W:Nat→BitVec 32}(s:InAt w g n f h wb W wr)(k:Nat):InAt w g n f h wb W (wr.drewN k) :=
 ⟨s.at_.keep (vo (Below.refl _ _) k),s.lo,s.ww⟩
theorem InAt.set{w wr:World}{g n wb:Nat}{f:Nat→BitVec 8}{h W:Nat→BitVec 32}(s:InAt w g n f h wb W wr){i:Nat}(x:BitVec 32)(hi:i<64) :
 InAt w g n f h wb (upd W i x) (wr.setCell ⟨wb,i,none⟩ (.int .u32 (U x))).drew :=
 ⟨s.at_.keep (((Below.refl _ _).setCell (by have:=s.lo;simp;omega) _).drew),s.lo,bZ x s.ww hi⟩
theorem InAt.keep{w wr w':World}{g n wb:Nat}{f:Nat→BitVec 8}{h W:Nat→BitVec 32}(s:InAt w g n f h wb W wr)(hb:Below (wb+1) wr w'):InAt w g n f h wb W w' :=
 ⟨s.at_.keep (hb.mono (by have:=s.lo;omega)),s.lo,(hb.block _ (by omega)).trans s.ww⟩
structure VAt(w:World)(g n:Nat)(f:Nat→BitVec 8)(h:Nat→BitVec 32)(wb:Nat)(W:Nat→BitVec 32)(vb:Nat)(V:Nat→BitVec 32)(wr:World):Prop where
 in_:InAt w g n f h wb W wr
 lo:wb<vb
 vv:wr.heap[vb]?=some (.cells (a6 8 V) 137 (0,0))
theorem VAt.drewN{w wr:World}{g n wb vb:Nat}{f:Nat→BitVec 8}{h W V:Nat→BitVec 32}(s:VAt w g n f h wb W vb V wr)(k:Nat):VAt w g n f h wb W vb V (wr.drewN k) :=
 ⟨s.in_.drewN k,s.lo,s.vv⟩
theorem VAt.setRow{w wr:World}{g n wb vb:Nat}{f:Nat→BitVec 8}{h W V:Nat→BitVec 32}(s:VAt w g n f h wb W vb V wr)(V':Nat→BitVec 32):VAt w g n f h wb W vb V' (wr.setRow vb (a6 8 V')) :=
 ⟨s.in_.keep (aW (Below.refl _ _) (by have:=s.lo;omega) _),s.lo,aC s.vv⟩
theorem VAt.setH{w wr:World}{g n wb vb:Nat}{f:Nat→BitVec 8}{h W V:Nat→BitVec 32}(s:VAt w g n f h wb W vb V wr){i:Nat}(x:BitVec 32)(hi:i<8) :
 VAt w g n f (upd h i x) wb W vb V (wr.setCell ⟨w.heap.size+1,i,none⟩ (.int .u32 (U x))).drew :=
 have l1:=s.in_.at_.lo;have l2:=s.in_.lo;have l3:=s.lo;have t:=s.in_.at_.setH x hi
 ⟨⟨⟨t.res,t.hh,t.lo,t.hi,t.mm,t.bel.drew⟩,l2,(heap_setCell_other _ _ _ _ (by simp;omega)).trans s.in_.ww⟩,l3,(heap_setCell_other _ _ _ _ (by simp;omega)).trans s.vv⟩
theorem mK(h v:Nat→BitVec 32)(k:Nat):upd (bW h v k) k (h k+v k)=bW h v (k+1):=by
 funext i;unfold upd bW;by_cases e:i=k
 ·subst e;simp
 ·rw[if_neg e]
  by_cases hi:i<k
  ·rw[if_pos hi,if_pos (by omega)]
  ·rw[if_neg hi,if_neg (by omega)]
theorem xT{n:Nat}{f g:Nat→BitVec 32}(h:∀i,i<n→f i=g i):a6 n f=a6 n g:=ak fun i hi=>by rw[h i hi]
theorem ShaAt.congr{w wr:World}{g n:Nat}{f:Nat→BitVec 8}{h h':Nat→BitVec 32}(s:ShaAt w g n f h wr)(e:∀i,i<8→h i=h' i):ShaAt w g n f h' wr :=
 ⟨s.res,by rw[← xT e];exact s.hh,s.lo,s.hi,s.mm,s.bel⟩
theorem OwnB.at{w:World}{base:Nat}{v:Value}{l:List (BitVec 8)}(h:OwnB w base v l)(h0:0<l.length) :
 ∃g cap,v= .slice (some ⟨g,0,none⟩) l.length cap∧base≤g∧g<w.heap.size∧∀i,i<l.length→w.cell? ⟨g,i,none⟩=some (.int .u8 (B8 (l.getD i 0))):=by
 have hlt:=World.ownsRow.lt h;have hb:=h.brow;rcases h.2 with⟨rfl,h1⟩|⟨g,cap,cur,rfl,_,hg,_,_,_,_⟩
 ·omega
 ·refine⟨g,cap,rfl,(hlt g rfl).1,(Array.getElem?_eq_some_iff.1 hg).1,fun i hi=>?_⟩
  obtain⟨a,c,e,_,hp⟩:=hb;obtain⟨b,off,rfl,_,hc⟩:=hp h0;cases e
  have:=hc i hi;rw[Nat.zero_add]at this;rw[this,List.getD_eq_getElem?_getD,List.getElem?_eq_getElem hi,Option.getD_some]
def kT(b:Nat→BitVec 8)(k:Nat)(i:Nat):BitVec 32:=if i<k then oQ b i else 0
theorem vp(b:Nat→BitVec 8)(k:Nat):upd (kT b k) k (oQ b k)=kT b (k+1):=by
 funext i;unfold upd kT;by_cases e:i=k
 ·subst e;simp
 ·rw[if_neg e]
  by_cases hi:i<k
  ·rw[if_pos hi,if_pos (by omega)]
  ·rw[if_neg hi,if_neg (by omega)]
theorem vq(b:Nat→BitVec 8):kT b 16=br b 64:=by rw[oz];rfl
theorem Ij(x:BitVec 8):IntKind.u32.wrap (B8 x)=U (ef x):=by
 obtain⟨h0,h1⟩:=bK x;rw[IntKind.wrap_u32',← show B8 x=U (ef x)from yq x];omega
theorem nO(h:Nat→BitVec 32)(k r:Nat)(hr:k%4=r):bits .and .u32 (U (h (k/4))/((2^(24-8*r):Nat):Int)) (255:Int)=B8 (bX h k):=by
 rw[← lk h k r hr];have hlt:=(h (k/4)).isLt;have e:U (h (k/4))/((2^(24-8*r):Nat):Int)=(((h (k/4)).toNat/2^(24-8*r):Nat):Int):=by
  unfold U;norm_cast
 rw[e];have h1:(h (k/4)).toNat/2^(24-8*r)<4294967296:=Nat.lt_of_le_of_lt (Nat.div_le_self _ _) hlt;have:=u32_and_nat ((h (k/4)).toNat/2^(24-8*r)) 255 h1 (by omega);rw[nat_mask8]at this;rw[show(255:Int)=((255:Nat):Int)from rfl,this];exact Int.natCast_emod _ 256
theorem FM(x:BitVec 32):U x*(16777216:Int)%(4294967296:Int)=U (x<<<24):=mY x 24
theorem FN(x:BitVec 32):U x*(65536:Int)%(4294967296:Int)=U (x<<<16):=mY x 16
theorem FO(x:BitVec 32)(n:Int)(w:World)(h:n∈[(7:Int),18,17,19,6,11,25,2,13,22]):Calls prog 72 #[.int .u32 (U x),.int .u64 n] w fun e w'=>e= .returned (.int .u32 (U (aS x (32-n.toNat))))∧w=w':=by
 simp only[List.mem_cons,List.not_mem_nil,or_false]at h;rcases h with rfl|rfl|rfl|rfl|rfl|rfl|rfl|rfl|rfl|rfl
 ·exact LH x w
 ·exact JW x w
 ·exact JY x w
 ·exact JZ x w
 ·exact LJ x w
 ·exact J1 x w
 ·exact J3 x w
 ·exact LL x w
 ·exact J5 x w
 ·exact J7 x w
theorem fI(x:BitVec 32)(n:Int)(m:Nat)(w:World)(h:n∈[(7:Int),18,17,19,6,11,25,2,13,22])(hm:m=32-n.toNat):Calls prog 72 #[.int .u32 (U x),.int .u64 n] w fun e w'=>e= .returned (.int .u32 (U (aS x m)))∧w'=w :=
 (FO x n w h).mono fun _ _ ⟨h1,h2⟩=>⟨by rw[h1,hm],h2.symm⟩
theorem dm(v:Value)(l:List (BitVec 8))(w:World)(hv:BRow w v l)(hl:l.length≤1000000000)(hk:KAt w) :
 Rt 29 #[v] w (.agg (aa 32 (sha l))):=by
 have HV:=Hd hv;have HK:=Hd hk;have HFIN:=Hd (kL l);have HW8:=Hd (fG 8 mJ);have HPL:=Hd (fV l);have HPB:=Hd (show(pad l).length≤1000000200 by unfold pad cI aD;simp;omega);clear hv hk;have HN8:=Hd (show(prog.info? 137).map (·.size)=some (a6 8 mJ).size by rw[kl,aZ]);go_enter func29,ntmps29;go_wp2_with (first
  | (with_reducible refine aw rfl 24 rfl 32 _ sP ?_)
  | (with_reducible refine aw rfl 137 rfl 8 _ ug ?_)
  | (refine wpList_buildFlatArrTo rfl 137 136 8 _ rfl .u32 ((List.range 8).map fun i=>U (mJ i)) _ rfl underlying137 (by kernel_rfl) (by kernel_rfl) (by kernel_rfl) ?_;rw[HW8.out])
  | ((with_reducible show wpList _ _ _ (⟨_,.store 137 _ _,_,_,_,_⟩::_) _ _);go_loud (refine wpList_store_rowTo rfl 137 _ _ rfl rfl _ (a6 8 mJ) rfl rfl 137 _ (heap_alloc_new _ _) HN8.out (by rw[aQ,aZ]) (bP _ _) ?_))
  | (go_at_call 71;go_loud (refine(xS _ l _ ?b hl).mono ?_);rotate_left;rintro e w2⟨v2,rfl,hown,hb2⟩))
 case b=>exact HV.out.below (aW (((Below.refl _ _).alloc (Nat.le_refl _) _).alloc (by simp) _) (by simp) _)
 obtain⟨g,cap,rfl,hg1,hg2,hcells⟩:=hown.at (by unfold pad;simp;omega);have hat:ShaAt w g (pad l).length (fun i=>(pad l).getD i 0) (aF (fun i=>(pad l).getD i 0) 0) w2:=by
  have hsz:(((w.alloc (.cells (row 32 fun _=> .int .u8 0) 24)).alloc (.cells (row 8 fun _=> .int .u32 0) 137)).setRow (w.heap.size+1) (a6 8 mJ)).heap.size=w.heap.size+2:=by simp[World.setRow]
  have hb2:Below _ _ w2:=hb2;rw[hsz]at hg1 hb2;refine⟨?_,?_,by omega,hg2,hcells,?_⟩
  ·rw[hb2.block _ (by simp)]
   exact(au (by omega)).trans (heap_alloc2_old _ _ _)
  ·rw[hb2.block _ (by simp)]
   exact aC (heap_alloc2_new _ _ _)
  ·exact(aW (((Below.refl _ _).alloc (Nat.le_refl _) _).alloc (by simp) _) (by simp) _).trans (hb2.mono (by simp))
 obtain⟨f,hf⟩:∃f:Nat→BitVec 8,f=fun i=>(pad l).getD i 0:=⟨_,rfl⟩;rw[← hf]at hat HFIN;clear hf hcells hg1 hg2 hown hb2 HV HW8 HN8;generalize(pad l).length=n at *
 go_loopw [5] (fun i wr=>∃k s:Nat,s=64*k∧s≤n∧i= .int .i64 s∧ShaAt w g n f (aF f k) wr) (fun i _=>n-(intOf i).toNat);case atStart=>exact⟨0,0,rfl,Nat.zero_le _,rfl,hat⟩
 case round =>
  clear hat
  obtain⟨k,s,hs,hsn,rfl,hat⟩:=hrel;have HS:=Hd hs;have hs0:(0:Int)≤(s:Int):=by omega
  by_cases hlt:s<n
  ·have HS64:=Hd (show s+64≤n by have:=HPL.out;omega)
   have hs1:(s:Int)<(n:Int):=by omega
   clear hs hsn hlt;have HAT:=Hd hat
   clear hat
   go_wp2_with (with_reducible refine aw rfl 139 rfl 64 _ kQ ?_);have hlt2:g<wr.heap.size:=HAT.out.hi;have HIN:=Hd (show InAt w g n f (aF f k) wr.heap.size (kT (fun q=>f (64*k+q)) 0) (wr.alloc (.cells (row 64 fun _=> .int .u32 0) 139))from
    ⟨HAT.out.keep ((Below.refl _ _).alloc (by omega) _),hlt2,heap_alloc_new _ _⟩)
   have HWL:=Hd hlt2;clear HAT hlt2;generalize wr.heap.size=wb at *
   generalize wr.alloc (.cells (row 64 fun _=> .int .u32 0) 139)=w0 at *
   obtain⟨b,hb⟩:∃b:Nat→BitVec 8,b=fun q=>f (64*k+q):=⟨_,rfl⟩;rw[← hb]at HIN;have HB:=Hd hb;clear hb;go_loopw [7] (fun i w2=>∃j:Nat,j≤16∧i= .int .i64 j∧InAt w g n f (aF f k) wb (kT b j) w2) (fun i _=>16-(intOf i).toNat);case atStart=>exact⟨0,Nat.zero_le _,rfl,HIN.out⟩
   case round =>
    clear HIN;obtain⟨j,hj,rfl,hin⟩:=hrel;by_cases hj16:j<16
    ·have hj0:(0:Int)≤(j:Int):=by omega
     have hj1:(j:Int)<16:=by omega
     have hj2:(j:Int)<64:=by omega
     have hsb:(s:Int)≤2000000000:=by have:=HS64.out;have:=HPB.out;omega
     obtain⟨q,hq⟩:∃q,q=s+4*j:=⟨_,rfl⟩;have hqn:q+3<n:=by have:=HS64.out;omega
     have m0:=hin.at_.mm q (by omega);have m1:=hin.at_.mm (q+1) (by omega);have m2:=hin.at_.mm (q+2) (by omega);have m3:=hin.at_.mm (q+3) (by omega);have cf:wr.frozen? ⟨wb,j,none⟩=false:=frozen_of_row wr _ _ _ _ hin.ww;have cc:wr.cell? ⟨wb,j,none⟩=some (.int .u32 (U (kT b j j))):=ap hin.ww (by omega);have hq':(s:Int)+4*(j:Int)=(q:Int):=by omega
     have HIN:=Hd hin;have HWD:=Hd (show ef (f q)<<<24|||ef (f (q+1))<<<16|||ef (f (q+2))<<<8|||ef (f (q+3))=oQ b j by
      rw[HB.out];unfold oQ;simp only[show 64*k+4*j=q by have:=HS.out;omega,show 64*k+(4*j+1)=q+1 by have:=HS.out;omega,show 64*k+(4*j+2)=q+2 by have:=HS.out;omega,show 64*k+(4*j+3)=q+3 by have:=HS.out;omega])
     have HST:=Hd (vp b j);have hn1:(n:Int)≤2000000000:=by have:=HPB.out;omega
     clear hin hq;go_wp2;have e1:IntKind.i64.wrap ((q:Int)+1)=(q:Int)+1:=IntWalk.i64_in _ (by omega);have e2:IntKind.i64.wrap ((q:Int)+2)=(q:Int)+2:=IntWalk.i64_in _ (by omega);have e3:IntKind.i64.wrap ((q:Int)+3)=(q:Int)+3:=IntWalk.i64_in _ (by omega);have t1:((q:Int)+1).toNat=q+1:=by omega
     have t2:((q:Int)+2).toNat=q+2:=by omega
     have t3:((q:Int)+3).toNat=q+3:=by omega
     have p0:(0:Int)≤(q:Int):=by omega
     have p1:(0:Int)≤(q:Int)+1:=by omega
     have p2:(0:Int)≤(q:Int)+2:=by omega
     have p3:(0:Int)≤(q:Int)+3:=by omega
     have q0:(q:Int)<(n:Int):=by omega
     have q1:(q:Int)+1<(n:Int):=by omega
     have q2:(q:Int)+2<(n:Int):=by omega
     have q3:(q:Int)+3<(n:Int):=by omega
     have hconv:=Ij;have h24:=FM;have h16:=FN;have h8:=rP;have hor:=wn;go_still_tail 31,(by kernel_rfl);change wpList _ _ _ _ _ wr.drew;clear e1 e2 e3 t1 t2 t3 p0 p1 p2 p3 q0 q1 q2 q3;go_wp2;go_roundw;case rel =>
      refine⟨j+1,by omega,by go_num,?_⟩;rw[HWD.out,← HST.out];exact HIN.out.set _ (by omega)
     case measure=>simp[intOf];omega
    ·obtain rfl:j=16:=by omega
     rw[vq,← jn (br b 64) 16 (by omega)]at hin;rw[show((16:Nat):Int)=16 from rfl];have HIN:=Hd hin;clear hin;go_wp2;obtain⟨w1,rfl⟩:∃w1:World,w1=wr:=⟨_,rfl⟩;go_loopw [9] (fun i w2=>∃j:Nat,16≤j∧j≤64∧i= .int .i64 j∧InAt w g n f (aF f k) wb (cd (br b 64) j) w2) (fun i _=>64-(intOf i).toNat);case atStart=>exact⟨16,by omega,by omega,rfl,HIN.out⟩
     case round =>
      clear HIN hj hj16;obtain⟨j,hj16,hj,rfl,hin⟩:=hrel;by_cases hlt:j<64
      ·have hk0:(16:Int)≤(j:Int):=by omega
       have hk1:(j:Int)<64:=by omega
       have hc2:wr.cell? ⟨wb,j-2,none⟩=some (.int .u32 (U (cd (br b 64) j (j-2)))):=ap hin.ww (by omega);have hc7:wr.cell? ⟨wb,j-7,none⟩=some (.int .u32 (U (cd (br b 64) j (j-7)))):=ap hin.ww (by omega);have hc15:wr.cell? ⟨wb,j-15,none⟩=some (.int .u32 (U (cd (br b 64) j (j-15)))):=ap hin.ww (by omega);have hc16:wr.cell? ⟨wb,j-16,none⟩=some (.int .u32 (U (cd (br b 64) j (j-16)))):=ap hin.ww (by omega);have hc:wr.cell? ⟨wb,j,none⟩=some (.int .u32 (U (cd (br b 64) j j))):=ap hin.ww (by omega);have hf:wr.frozen? ⟨wb,j,none⟩=false:=frozen_of_row wr _ _ _ _ hin.ww;have HIN:=Hd hin;have HST:=Hd (gR (br b 64) hj16);clear hin;generalize cd (br b 64) j=W at *
       go_wp2;have e7:IntKind.i64.wrap ((j:Int)-7)=(j:Int)-7:=IntWalk.i64_in _ (by omega);have e16:IntKind.i64.wrap ((j:Int)-16)=(j:Int)-16:=IntWalk.i64_in _ (by omega);have t7:((j:Int)-7).toNat=j-7:=by omega
       have t16:((j:Int)-16).toNat=j-16:=by omega
       have p7:(7:Int)≤(j:Int):=by omega
       have q7:(j:Int)-7<64:=by omega
       have q16:(j:Int)-16<64:=by omega
       have j0:(0:Int)≤(j:Int):=by omega
       obtain⟨a0,a1⟩:=j8 (W (j-2));obtain⟨b0,b1⟩:=j8 (W (j-15));have hs0:=jl (W (j-15));have hs1:=jm (W (j-2));have hadd:=gM;go_still_tail 29,(by kernel_rfl);still_call (fI (W (j-15)) 7 25 _ (by decide) rfl)
       repeat still_step
       still_call (fI (W (j-15)) 18 14 _ (by decide) rfl)
       repeat still_step
       still_call (fI (W (j-2)) 17 15 _ (by decide) rfl)
       repeat still_step
       still_call (fI (W (j-2)) 19 13 _ (by decide) rfl)
       repeat still_step
       refine wpStill_nil ?_;change wpList _ _ _ _ _ wr.drew;clear e7 e16 t7 t16 p7 q7 q16 hs0 hs1;go_wp2;go_roundw;case rel =>
        refine⟨j+1,by omega,by omega,by go_num,?_⟩;rw[HST.out,show W (j-16)+ud (W (j-15))+W (j-7)+ue (W (j-2))=eW W j by unfold eW;ac_rfl];exact HIN.out.set (eW W j) hlt
       case measure=>simp[intOf];omega
      ·obtain rfl:j=64:=by omega
       rw[show((64:Nat):Int)=64 from rfl];have HIN:=Hd (show InAt w g n f (aF f k) wb (aT b) wr from hin);have HH8:=Hd hin.at_.hh;have HN8:=Hd (show(prog.info? 137).map (·.size)=some (a6 8 (aF f k)).size by rw[kl,aZ]);clear hin;go_wp2_with (first
        | (with_reducible refine wpList_load_row rfl 137 _ rfl (w.heap.size+1) rfl 137 (a6 8 (aF f k)) (0,0) _ HH8.out underlying137 rfl HN8.out ?_)
        | (with_reducible refine aw rfl 137 rfl 8 _ ug ?_)
        | ((with_reducible show wpList _ _ _ (⟨_,.store 137 _ _,_,_,_,_⟩::_) _ _);refine wpList_store_rowTo rfl 137 _ _ rfl rfl _ (a6 8 (aF f k)) rfl rfl 137 _ (heap_alloc_new _ _) HN8.out (by rw[aQ,aZ]) (bP _ _) ?_))
       have hlt2:wb<wr.heap.size:=(Array.getElem?_eq_some_iff.1 HIN.out.ww).1;have HVA:=Hd (show VAt w g n f (aF f k) wb (aT b) wr.heap.size (dj cV (aT b) (aF f k) 0) ((wr.alloc (.cells (row 8 fun _=> .int .u32 0) 137)).setRow wr.heap.size (a6 8 (aF f k)))from
        ⟨HIN.out.keep (aW ((Below.refl _ _).alloc (by omega) _) (by omega) _),hlt2,aC (heap_alloc_new _ _)⟩)
       clear HIN HH8 hlt2 hj hj16 hlt;generalize(wr.alloc (.cells (row 8 fun _=> .int .u32 0) 137)).setRow wr.heap.size (a6 8 (aF f k))=w2 at *
       generalize wr.heap.size=vb at *
       clear wr;go_loopw [13] (fun i w2=>∃t:Nat,t≤64∧i= .int .i64 t∧VAt w g n f (aF f k) wb (aT b) vb (dj cV (aT b) (aF f k) t) w2) (fun i _=>64-(intOf i).toNat);case atStart=>exact⟨0,Nat.zero_le _,rfl,HVA.out⟩
       case round =>
        clear HVA;obtain⟨t,ht,rfl,hva⟩:=hrel;by_cases hlt:t<64
        ·have h0:(0:Int)≤(t:Int):=by omega
         have h1:(t:Int)<64:=by omega
         have ck:wr.cell? ⟨0,t,none⟩=some (.int .u32 (U (cV t))):=(HK.out.below hva.in_.at_.bel).2 t hlt;have cw:wr.cell? ⟨wb,t,none⟩=some (.int .u32 (U (aT b t))):=ap hva.in_.ww hlt;have HN:=Hd (show dj cV (aT b) (aF f k) (t+1)=rnd cV (aT b) t (dj cV (aT b) (aF f k) t)from rfl);generalize dj cV (aT b) (aF f k) t=V at *
         have hvv:=hva.vv;have c0:=ap (i:=0) hvv (by decide);have c1:=ap (i:=1) hvv (by decide);have c2:=ap (i:=2) hvv (by decide);have c3:=ap (i:=3) hvv (by decide);have c4:=ap (i:=4) hvv (by decide);have c5:=ap (i:=5) hvv (by decide);have c6:=ap (i:=6) hvv (by decide);have c7:=ap (i:=7) hvv (by decide);have HVA:=Hd hva;clear hva hvv;have hadd:=gM;have hxor:=kV;have hand:=BF;have hnot:=Gg;have hadd':=fN;go_wp2;go_quiet ((go_at_call 72;exact Calls.quiet_of_same (fI _ _ _ _ (by decide) rfl)));have HVB:=Hd (HVA.out.drewN nq);clear c0 c1 c2 c3 c4 c5 c6 c7 ck cw HVA;generalize wr.drewN nq=wq at *
         have hvv:=HVB.out.vv;have c1:=ap (i:=1) hvv (by decide);have c2:=ap (i:=2) hvv (by decide);have c3:=ap (i:=3) hvv (by decide);have c5:=ap (i:=5) hvv (by decide);have c6:=ap (i:=6) hvv (by decide);clear hvv;go_wp2;go_quiet ((go_at_call 72;exact Calls.quiet_of_same (fI _ _ _ _ (by decide) rfl)));have HV2:=Hd (show ∀m,(wq.drewN m).heap[vb]?=some (.cells (a6 8 V) 137 (0,0))from fun _=>HVB.out.vv);have HZ8:=Hd (show(prog.info? 137).map (·.size)=some (a6 8 (rnd cV (aT b) t V)).size by rw[kl,aZ]);go_wp2_with ((with_reducible show wpList _ _ _ (⟨_,.store _ _ _,_,_,_,_⟩::_) _ _);refine wpList_store_rowTo rfl 137 _ _ rfl rfl vb (a6 8 (rnd cV (aT b) t V)) rfl rfl 137 _ (HV2.out _) HZ8.out (by rw[aZ,aZ]) (bP _ _) ?_);go_roundw;case rel =>
          refine⟨t+1,by omega,by go_num,?_⟩;rw[HN.out];exact(HVB.out.drewN _).setRow _
         case measure=>simp[intOf];omega
        ·obtain rfl:t=64:=by omega
         rw[show((64:Nat):Int)=64 from rfl];have HBL:=Hd (show ∀i,i<8→bW (aF f k) (dj cV (aT b) (aF f k) 64) 8 i=aF f (k+1) i from fun i hi=>by
          unfold bW;rw[if_pos hi,aF,← HB.out];rfl)
         generalize dj cV (aT b) (aF f k) 64=V at *
         have HVA:=Hd (show VAt w g n f (bW (aF f k) V 0) wb (aT b) vb V wr from hva);clear hva ht hlt;go_wp2;obtain⟨w3,rfl⟩:∃w3:World,w3=wr:=⟨_,rfl⟩;go_loopw [18] (fun i w2=>∃q:Nat,q≤8∧i= .int .i64 q∧VAt w g n f (bW (aF f k) V q) wb (aT b) vb V w2) (fun i _=>8-(intOf i).toNat);case atStart=>exact⟨0,Nat.zero_le _,rfl,HVA.out⟩
         case round =>
          clear HVA;obtain⟨q,hq,rfl,hva⟩:=hrel;by_cases hlt:q<8
          ·have q0:(0:Int)≤(q:Int):=by omega
           have q1:(q:Int)<8:=by omega
           have ca:wr.cell? ⟨w.heap.size+1,q,none⟩=some (.int .u32 (U (aF f k q))):=by
            rw[ap hva.in_.at_.hh hlt];unfold bW;rw[if_neg (by omega)]
           have cb:wr.cell? ⟨vb,q,none⟩=some (.int .u32 (U (V q))):=ap hva.vv hlt;have cf:wr.frozen? ⟨w.heap.size+1,q,none⟩=false:=frozen_of_row wr _ _ _ _ hva.in_.at_.hh;have HST:=Hd (mK (aF f k) V q);have HVA:=Hd hva;clear hva;have hadd:=gM;have hadd':=fN;go_wp2;go_still_tail 9,(by kernel_rfl);change wpList _ _ _ _ _ wr.drew;go_wp2;go_roundw;case rel =>
            refine⟨q+1,by omega,by go_num,?_⟩;rw[← HST.out];exact HVA.out.setH _ hlt
           case measure=>simp[intOf];omega
          ·obtain rfl:q=8:=by omega
           rw[show((8:Nat):Int)=8 from rfl];have HAT:=Hd (hva.in_.at_.congr HBL.out);have hsb:(s:Int)≤2000000000:=by have:=HS64.out;have:=HPB.out;omega
           clear hva HBL;go_wp2;go_roundw;case rel=>exact⟨k+1,s+64,by have:=HS.out;omega,HS64.out,by go_num,HAT.out⟩
           case measure=>simp[intOf];omega
  ·obtain rfl:s=n:=by omega
   have HFIN2:=Hd (show sha l=bX (aF f k) by rw[HFIN.out];congr 2;omega);have HAT:=Hd hat
   clear hat hs hlt HFIN hsn;go_wp2_with (with_reducible refine aw rfl 24 rfl 32 _ sP ?_);have hz:=HAT.out.bel.size;have hg1:=HAT.out.lo;have hg2:=HAT.out.hi;have HAT9:=Hd (HAT.out.keep (w':=wr.alloc (.cells (row 32 fun _=> .int .u8 0) 24)) ((Below.refl _ _).alloc (by omega) _));have HNEW:=Hd (show(wr.alloc (.cells (row 32 fun _=> .int .u8 0) 24)).heap[wr.heap.size]?=some (.cells (aa 32 (eg (aF f k) 0)) 24 (0,0))from heap_alloc_new _ _);obtain⟨ob,hob⟩:∃ob,ob=wr.heap.size:=⟨_,rfl⟩;rw[← hob]at HNEW hg2 ⊢;clear hob hz HAT HS;generalize wr.alloc (.cells (row 32 fun _=> .int .u8 0) 24)=w8 at *
   clear wr;generalize aF f k=hh at *
   go_loopw [20] (fun i w9=>∃q:Nat,q≤32∧i= .int .i64 q∧ShaAt w g s f hh w9∧w9.heap[ob]?=some (.cells (aa 32 (eg hh q)) 24 (0,0))) (fun i _=>32-(intOf i).toNat);case atStart=>exact⟨0,by omega,rfl,HAT9.out,HNEW.out⟩
   case round =>
    clear HAT9 HNEW;obtain⟨q,hq,rfl,hat,ho⟩:=hrel;by_cases hq32:q<32
    ·have hq0:(0:Int)≤(q:Int):=by omega
     have hq1:(q:Int)<32:=by omega
     have ch:wr.cell? ⟨w.heap.size+1,q/4,none⟩=some (.int .u32 (U (hh (q/4)))):=ap hat.hh (by omega);have co:wr.cell? ⟨ob,q,none⟩=some (.int .u8 (B8 (eg hh q q))):=a4 ho hq32;have fo:wr.frozen? ⟨ob,q,none⟩=false:=frozen_of_row wr _ _ _ _ ho;have HO:=Hd ho;have HOK:=Hd (gX hh q);have HAT:=Hd hat
     obtain⟨u0,u1⟩:=j8 (hh (q/4));obtain⟨x0,x1⟩:=bK (bX hh q);clear ho hat
     have hr4:q%4=0∨q%4=1∨q%4=2∨q%4=3:=by omega
     rcases hr4 with hr|hr|hr|hr
     ·have hX:bits BinOp.and IntKind.u32 (U (hh (q/4))/16777216) 255=B8 (bX hh q):=by
       have:=nO hh q 0 hr;rw[show((2^(24-8*0):Nat):Int)=16777216 from rfl]at this;exact this
      have hri:(q:Int)%4=0:=by omega
      clear hr;go_wp2;go_roundw;case rel =>
       refine⟨q+1,by omega,by go_num,HAT.out.keep ((Below.refl _ _).setCell (by show g+1≤ob;omega) _),?_⟩;rw[bm _ HO.out hq32,HOK.out]
      case measure=>simp[intOf];omega
     ·have hX:bits BinOp.and IntKind.u32 (U (hh (q/4))/65536) 255=B8 (bX hh q):=by
       have:=nO hh q 1 hr;rw[show((2^(24-8*1):Nat):Int)=65536 from rfl]at this;exact this
      have hri:(q:Int)%4=1:=by omega
      clear hr;go_wp2;go_roundw;case rel =>
       refine⟨q+1,by omega,by go_num,HAT.out.keep ((Below.refl _ _).setCell (by show g+1≤ob;omega) _),?_⟩;rw[bm _ HO.out hq32,HOK.out]
      case measure=>simp[intOf];omega
     ·have hX:bits BinOp.and IntKind.u32 (U (hh (q/4))/256) 255=B8 (bX hh q):=by
       have:=nO hh q 2 hr;rw[show((2^(24-8*2):Nat):Int)=256 from rfl]at this;exact this
      have hri:(q:Int)%4=2:=by omega
      clear hr;go_wp2;go_roundw;case rel =>
       refine⟨q+1,by omega,by go_num,HAT.out.keep ((Below.refl _ _).setCell (by show g+1≤ob;omega) _),?_⟩;rw[bm _ HO.out hq32,HOK.out]
      case measure=>simp[intOf];omega
     ·have hX:bits BinOp.and IntKind.u32 (U (hh (q/4))) 255=B8 (bX hh q):=by
       have:=nO hh q 3 hr;rw[show((2^(24-8*3):Nat):Int)=1 from rfl]at this;rwa[Int.ediv_one]at this
      have hri:(q:Int)%4=3:=by omega
      clear hr;go_wp2;go_roundw;case rel =>
       refine⟨q+1,by omega,by go_num,HAT.out.keep ((Below.refl _ _).setCell (by show g+1≤ob;omega) _),?_⟩;rw[bm _ HO.out hq32,HOK.out]
      case measure=>simp[intOf];omega
    ·have hro:aa 32 (eg hh q)=aa 32 (sha l):=eO fun i hi=>by
      unfold eg;rw[if_pos (by omega),HFIN2.out]
     rw[hro]at ho;have HO:=Hd ho;have HRES:=Hd hat.res;have HA:=Hd hat.bel;have HSZ:=Hd (show(prog.info? 24).map (·.size)=some (aa 32 (sha l)).size by rw[xA,aj]);clear ho hro hat HFIN2;go_wp2_with (first
      | ((with_reducible show wpList _ _ _ (⟨_,.load 24 _,_,_,_,_⟩::_) _ _);refine wpList_load_row rfl 24 _ rfl ob rfl 24 (aa 32 (sha l)) (0,0) _ HO.out underlying24 rfl HSZ.out ?_)
      | ((with_reducible show wpList _ _ _ (⟨_,.store 24 _ _,_,_,_,_⟩::_) _ _);refine wpList_store_rowTo rfl 24 _ _ rfl rfl w.heap.size (aa 32 (sha l)) rfl rfl 24 _ HRES.out HSZ.out (by rw[aj,aj]) (bU _ _) ?_))
     refine bodyPost_ret (results_cell_row rfl _ _ w.heap.size 24 (aa 32 (sha l)) (0,0) _ rfl (aC HRES.out) underlying24 rfl HSZ.out) rfl ?_;exact⟨rfl,aW HA.out (Nat.le_refl _) _⟩
end
end Go.Proofs.YtoifhhljfaoejaaGreatDoor
