/-
  Lemmas of the law, part 45: the walks of the functions that it calls and the plain facts about them. No condition beyond those written.
-/
import Derived.Test.YtoifhhljfaoejaaGreatDoorPkAA
import Derived.Test.YtoifhhljfaoejaaGreatDoorPkBR
namespace Go.Proofs.YtoifhhljfaoejaaGreatDoor
open Go Go.RowKit Go.Shelf
set_option linter.unusedVariables false
set_option linter.unusedSimpArgs false
set_option linter.unusedSectionVars false
section
variable {w0 w:World} {M:Mem} {bf bb cc dd:Nat} {er pr:Int} {p:Option Addr} {n c:Nat} {k N:Int}
set_option maxRecDepth 100000 in
theorem devDo (hA:At M bf (flR bb er pr) 106) (hD:At M dd (dvR bf cc) 126) (R:Value→Int→Mem→Prop) (hR:∀ o v M',R o v M'→¬ v=8∧(dd,dvR bf cc,126)∈M')
 (hc:∀ b w1,Loc w0 w1 ((b,mvR k p n c N,47) :: M)→Calls Tryz.prog 52 #[ptrV cc,.agg (mvR k p n c N)] w1 fun e w'=>∃ po no co v M',e= .returned (.tuple #[.slice po no co,.int .i64 v])∧R (.slice po no co) v M'∧Loc w0 w' ((b,mvR k p n c N,47) :: M'))
 (hL:Loc w0 w M):Calls Tryz.prog 18 #[ptrV dd,.agg (mvR k p n c N)] w fun e w'=>∃ po no co v M',e= .returned (.tuple #[.slice po no co,.int .i64 v])∧R (.slice po no co) v M'∧Loc w0 w' M':=by
 have HC:=Lib.hid hc
 have HRR:=Lib.hid hR
 clear hc hR
 have HDEAD:=Lib.hid (fun (b:Nat) w1 (h:Loc w0 w1 ((b,mvR k p n c N,47) :: M))=>(show Calls Tryz.prog 51 #[ptrV bf] w1 fun e w'=>e= .returned (.bool false)∧Loc w0 w' ((b,mvR k p n c N,47) :: M) from by
  have hL:=h
  go_enter Tryz.func51,Tryz.ntmps51
  go_wp2_with (first | refine aU ?_ | (refine aL3S6p ?_;clear hL;intro w1 hL))
  all_goals (go_ret;exact ⟨rfl,hL⟩)))
 go_enter Tryz.func18,Tryz.ntmps18
 go_wp2_with (first | refine aU ?_ | ((with_reducible refine gS 3 ?_);refine aBp ?_;clear hL;intro b3 w1 hL) | ((with_reducible refine gC 17 ?_);go_loud (refine lCall rfl rfl ((HDEAD.out _ _ hL).mono ?_) rfl);rintro e w1 ⟨rfl,hL1⟩;clear hL;revert hL1;refine aE ?_;intro hL) | (refine aL3S6p ?_;clear hL;intro w1 hL))
 have hK1:=hL.get (At.mem (M:=(b3,mvR k p n c N,47) :: M) (b:=dd))
 have hK2:=hL.get (At.mem (M:=(b3,mvR k p n c N,47) :: M) (b:=b3))
 haveI hH1:Held (fun w'=>w'.heap[dd]?=some (.cells (dvR bf cc) 126 (0,0))∧w'.heap[b3]?=some (.cells (mvR k p n c N) 47 (0,0))) dd (dvR bf cc) 126:=⟨fun w h=>h.1⟩
 haveI hH2:Held (fun w'=>w'.heap[dd]?=some (.cells (dvR bf cc) 126 (0,0))∧w'.heap[b3]?=some (.cells (mvR k p n c N) 47 (0,0))) b3 (mvR k p n c N) 47:=⟨fun w h=>h.2⟩
 refine wp_region_mix (S:=fun w'=>w'.heap[dd]?=some (.cells (dvR bf cc) 126 (0,0))∧w'.heap[b3]?=some (.cells (mvR k p n c N) 47 (0,0))) 11 (by kernel_rfl) (by kernel_rfl) ((by first | exact ⟨hL.drew.get (hQ.2.tail _),hL.drew.get (.head _)⟩ | exact ⟨hK1,hK2⟩)) (fun hHeld=>?_)
 replace hL:=hL.drew
 refine tg 0 hHeld ?_
 refine p7 ?_
 refine tz 4 hHeld ?_
 refine p7 ?_
 refine tg 1 hHeld ?_
 refine p7 ?_
 refine tg 2 hHeld ?_
 refine p7 ?_
 refine tz 3 hHeld ?_
 refine p7 ?_
 refine wpAnyH_ready (rs:=[5]) (by kernel_rfl) (by simp) ((AllReadyH.cons rfl (fun K hK=>?_) AllReadyH.nil))
 rw [if_pos (by rfl)]
 refine eCall rfl (by simp only [List.map_toArray,List.map_cons,List.map_nil];rfl) ((HC.out _ _ hL).mono ?_)
 rintro e w1 ⟨po,no,co,v,M',rfl,hRv,hL1⟩;refine ⟨_,rfl,?_⟩
 have hQ:=HRR.out _ _ _ hRv
 (try dsimp only at hL1);(try simp only [Nat.reduceAdd,Nat.reduceSub] at hL1)
 clear hL;have hL:=hL1;clear hL1
 refine hK.out _ _ ((by first | exact ⟨hL.get (hQ.2.tail _),hL.get (.head _)⟩ | exact ⟨hK1,hK2⟩)) (fun hHeld2=>?_)
 clear hK K hHeld;have hHeld:=hHeld2;clear hHeld2
 refine p7 ?_
 refine tg 6 hHeld ?_
 refine p7 ?_
 refine tg 7 hHeld ?_
 refine p7 ?_
 refine tg 8 hHeld ?_
 refine p7 ?_
 refine tg 9 hHeld ?_
 refine p7 ?_
 refine tg 10 hHeld ?_
 refine p7 ?_
 refine wpAnyH_done (by kernel_rfl) (NoPanic.normal ?_) _
 clear hHeld
 have hq8:=hQ.1
 have HE:=Lib.hid (show ∃ M',R (.slice po no co) v M'∧Loc w0 w1 M' from ⟨M',hRv,hL.pop⟩)
 clear hQ hRv hL
 have hL:=Loc.nil w1
 go_wp2_with (first | refine aU ?_ | (refine aL3S6p ?_;clear hL;intro w1 hL))
 obtain ⟨M2,hE1,hE2⟩:=HE.out
 all_goals (go_ret2;exact ⟨po,no,co,v,M2,rfl,hE1,hE2⟩)
instance iDev1:Ent 18:=Ent.of Tryz.func18 (by kernel_rfl) rfl
end
section
variable {w0 w:World} {F:Array Value→Array Value→Array Value→Array Value→Array Value→Mem} {bf bb bo bk kp a0 a1 cc dd:Nat} {fr fs:Nat→BitVec 8}
set_option maxRecDepth 100000 in
theorem devState (hF:CoM F bf bb bo bk kp a0 a1 cc) (hD:∀ x y z u c,At (F x y z u c) dd (dvR bf cc) 126) (d:Dv) (ok:d.Ok) (hS:∀ x y z u c,SeeS w0 (F x y z u c) d.s d.q) (hL:Loc w0 w (d.at F bf bb bo kp fr fs)) :
 Calls Tryz.prog 21 #[ptrV dd] w fun e w'=>∃ q' Sr S0 S1,e= .returned (.agg (stR d.s q'))∧HoldQ Sr S0 S1 d.s q'∧Loc w0 w' (S1 ++ (S0 ++ (Sr ++ d.at F bf bb bo kp fr fs))):=by
 have hA:=hF.a;have hU:=hF.u;have hB:=hF.b;have hV:=hF.v;have hO:=hF.o;have hPP:=hF.p;have hQ:=hF.q;have hRR:=hF.r;have hG:=hF.g;have hH:=hF.h;have hKK:=hF.k;have hll:=hF.l;have hmm:=hF.m
 have HC:=Lib.hid (fun (b:Nat) w1 (h:Loc w0 w1 ((b,zeroS,58) :: d.at F bf bb bo kp fr fs))=>coState_any (F:=fun x y z u c=>(b,zeroS,58) :: F x y z u c) (bf:=bf) (bb:=bb) (bo:=bo) (bk:=bk) (kp:=kp) (a0:=a0) (a1:=a1) (cc:=cc) (fr:=fr) (fs:=fs) inferInstance d ok (fun x y z u c=>inferInstance) h)
 clear hS ok
 obtain ⟨er,pr,y,f,n,m,p,kn,kc,half,s,q,bt,rg⟩:=d
 dsimp only [Dv.at] at *
 go_enter Tryz.func21,Tryz.ntmps21
 go_wp2_with (first | refine aU ?_ | ((with_reducible refine gS 2 ?_);refine aBp ?_;clear hL;intro b2 w1 hL) | ((with_reducible refine gC 7 ?_);go_loud (refine lCall rfl rfl ((HC.out _ _ hL).mono ?_) rfl);rintro e w1 ⟨q',Sr,S0,S1,rfl,hQ,hL1⟩;clear hL;revert hL1;refine aE ?_;intro hL) | (refine aL3S6p ?_;clear hL;intro w1 hL))
 exact bodyPost_ret (results_loc rfl hL rfl) rfl ⟨q',Sr,S0,S1,rfl,hQ,Loc.rem b2 hL⟩
instance iDev2:Ent 21:=Ent.of Tryz.func21 (by kernel_rfl) rfl
end
section
variable {w0 w:World} {F:Array Value→Array Value→Mem} {bf bb:Nat} [hF:FlM F bf bb] {er pr:Int} {y:Array Value}
theorem build_ar (bf:Nat) (k:Int) (w:World):(Instr.build 170 #[(0,ptrV bf),(1,.int .i64 k)]).run Tryz.prog w= .ok (.agg (arR bf k)) w:=by kernel_rfl
set_option maxRecDepth 100000 in
theorem verNew_0 (hL:Loc w0 w (F (flR bb er pr) y)):Calls Tryz.prog 46 #[ptrV bf,.int .i64 0] w fun e w'=>∃ b,e= .returned (.tuple #[ptrV b,.int .i64 0])∧Loc w0 w' ((b,arR bf 64,170) :: F (flR bb er pr) y):=by
 go_enter Tryz.func46,Tryz.ntmps46
 go_wp2_with (first | refine aU ?_ | ((with_reducible refine gS 26 ?_);refine aBp ?_;clear hL;intro b26 w1 hL) | ((with_reducible refine gC 10 ?_);go_loud (refine lCall rfl rfl ((size_any (F:=F) (bf:=bf) (bb:=bb) hL).mono ?_) rfl);rintro e w1 ⟨rfl,hL1⟩;clear hL;revert hL1;refine aE ?_;intro hL) | ((with_reducible show wpList _ _ _ (⟨some 25,.build _ _,_,_,_,_⟩ :: _) _ _);refine lU hL rfl rfl (build_ar _ _ _) rfl ?_;clear hL;intro w1 hL;refine p4 ?_) | (refine aL3S6p ?_;clear hL;intro w1 hL))
 all_goals (go_ret2;exact ⟨b26,rfl,hL⟩)
set_option maxRecDepth 100000 in
theorem verNew_1 (hL:Loc w0 w (F (flR bb er pr) y)):Calls Tryz.prog 46 #[ptrV bf,.int .i64 1] w fun e w'=>∃ b,e= .returned (.tuple #[ptrV b,.int .i64 0])∧Loc w0 w' ((b,arR bf 96,170) :: F (flR bb er pr) y):=by
 go_enter Tryz.func46,Tryz.ntmps46
 go_wp2_with (first | refine aU ?_ | ((with_reducible refine gS 26 ?_);refine aBp ?_;clear hL;intro b26 w1 hL) | ((with_reducible refine gC 10 ?_);go_loud (refine lCall rfl rfl ((size_any (F:=F) (bf:=bf) (bb:=bb) hL).mono ?_) rfl);rintro e w1 ⟨rfl,hL1⟩;clear hL;revert hL1;refine aE ?_;intro hL) | ((with_reducible show wpList _ _ _ (⟨some 25,.build _ _,_,_,_,_⟩ :: _) _ _);refine lU hL rfl rfl (build_ar _ _ _) rfl ?_;clear hL;intro w1 hL;refine p4 ?_) | (refine aL3S6p ?_;clear hL;intro w1 hL))
 all_goals (go_ret2;exact ⟨b26,rfl,hL⟩)
instance iDev3:Ent 46:=Ent.of Tryz.func46 (by kernel_rfl) rfl
end
theorem build_co (kp:Nat) (fr fs:Nat→BitVec 8) (s:Sta) (q:Sq) (w:World):(Instr.build 176 #[(0,.iface 115 (ptrV kp)),(1,.agg (rowB 32 fr)),(2,.agg (rowB 32 fs)),(3,.agg (stR s q)),(4,.int .i64 (-1))]).run Tryz.prog w= .ok (.agg (coR kp fr fs s q (-1) fun _=>0)) w:=by kernel_rfl
set_option maxRecDepth 100000 in
theorem coreNew_any (kp:Nat) (fr fs:Nat→BitVec 8) (s:Sta) (q:Sq) (w:World):Calls Tryz.prog 47 #[.iface 115 (ptrV kp),.agg (rowB 32 fr),.agg (rowB 32 fs),.agg (stR s q)] w fun e w'=>∃ b,e= .returned (ptrV b)∧Loc w w' [(b,coR kp fr fs s q (-1) fun _=>0,176)]:=by
 have hL:=Loc.nil w
 have hB:=build_co kp fr fs s q
 generalize coR kp fr fs s q (-1) (fun _=>0)=cr at *
 go_enter Tryz.func47,Tryz.ntmps47
 go_wp2_with (first | refine aU ?_ | ((with_reducible refine gS 5 ?_);refine aBp ?_;clear hL;intro b5 w1 hL) | ((with_reducible refine gS 6 ?_);refine aBp ?_;clear hL;intro b6 w1 hL) | ((with_reducible refine gS 7 ?_);refine aBp ?_;clear hL;intro b7 w1 hL) | ((with_reducible refine gS 14 ?_);refine aBp ?_;clear hL;intro b14 w1 hL) | ((with_reducible show wpList _ _ _ (⟨some 13,.build _ _,_,_,_,_⟩ :: _) _ _);refine lU hL rfl rfl hB rfl ?_;clear hL;intro w1 hL;refine p4 ?_) | (refine aL3S6p ?_;clear hL;intro w1 hL))
 all_goals (go_ret;exact ⟨b14,rfl,Loc.rem b5 (Loc.rem b6 (Loc.rem b7 hL))⟩)
instance iDev4:Ent 47:=Ent.of Tryz.func47 (by kernel_rfl) rfl
set_option maxRecDepth 100000 in
theorem stateNil (w:World):Calls Tryz.prog 44 #[.slice none 0 0] w fun e w'=>e= .returned (.tuple #[.agg (stR Sta.new Sq.none),.int .i64 0])∧Below w.heap.size w w':=by
 have hL:=Loc.nil w
 go_enter Tryz.func44,Tryz.ntmps44
 go_wp2_with (first | refine aU ?_ | ((with_reducible refine gS 2 ?_);refine aBp ?_;clear hL;intro b2 w1 hL) | ((with_reducible refine gC 9 ?_);go_loud (refine lCall rfl rfl ((slotsNew_any _).mono ?_) rfl);rintro e w1 ⟨rfl,hb1⟩;have hL1:=hL.keep hb1;clear hL;revert hL1;refine aE ?_;intro hL) | (refine aL3S6p ?_;clear hL;intro w1 hL))
 exact bodyPost_ret (results_loc2 rfl hL rfl rfl) rfl ⟨rfl,hL.bel⟩
instance iDev5:Ent 44:=Ent.of Tryz.func44 (by kernel_rfl) rfl
end Go.Proofs.YtoifhhljfaoejaaGreatDoor
namespace Go.Proofs.YtoifhhljfaoejaaGreatDoor
open Go Go.RowKit Go.Shelf
set_option linter.unusedVariables false
set_option linter.unusedSimpArgs false
set_option linter.unusedSectionVars false
abbrev devF (F:Array Value→Array Value→Array Value→Mem) (bf bo bk kp a0 a1 cc dd:Nat):Array Value→Array Value→Array Value→Array Value→Array Value→Mem :=
 fun x y z u c=>(dd,dvR bf cc,126) :: (cc,c,176) :: (a1,arR bf 96,170) :: (a0,arR bf 64,170) :: (kp,kpR bo bk a0 a1,119) :: (bk,u,166) :: F x y z
theorem build_kp (bo bk:Nat) (w:World):(Instr.build 119 #[(0,ptrV bo),(1,ptrV bk)]).run Tryz.prog w= .ok (.agg #[ptrV bo,ptrV bk,.pointer none,.pointer none]) w:=by kernel_rfl
theorem build_dv (bf cc:Nat) (w:World):(Instr.build 126 #[(0,ptrV bf),(1,ptrV cc)]).run Tryz.prog w= .ok (.agg (dvR bf cc)) w:=by kernel_rfl
structure Dv.Fresh (d:Dv) (m:Int):Prop where
 ok:d.Ok
 n:d.n=1
 m:d.m=m
 s:d.s=Sta.new
 q:d.q=Sq.none
 bt:d.bt= -1
 rg:d.rg=fun _=>0
 f:∀ i,16384≤i→d.f i=255
section
variable {w0 w:World} {F:Array Value→Array Value→Array Value→Mem} {bf bb bo:Nat} {er pr:Int} {y:Array Value} {fr fs:Nat→BitVec 8} {m:Int}
set_option maxRecDepth 100000 in
set_option maxHeartbeats 1000000 in
theorem devOpen (hF:OtM F bf bb bo) (hm0:0<m) (hm:m≤1048576) (he:0≤er∧er≤1099511627776) (hp:0≤pr∧pr≤1099511627776) (hy:Fl (fun _=>255) y) (hL:Loc w0 w (F (flR bb er pr) y (otR bf fr fs 0 m))) :
 Calls Tryz.prog 15 #[ptrV bf,ptrV bo] w fun e w'=>∃ bk kp a0 a1 cc dd d,e= .returned (.tuple #[ptrV dd,.int .i64 0])∧Dv.Fresh d m∧Loc w0 w' (d.at (devF F bf bo bk kp a0 a1 cc dd) bf bb bo kp fr fs):=by
 have hA:=hF.a;have hU:=hF.u;have hB:=hF.b;have hV:=hF.v;have hO:=hF.o;have hPP:=hF.p
 have HBK:=Lib.hid (fun w1 (h:Loc w0 w1 (F (flR bb er pr) y (otR bf fr fs 0 m)))=>bankOpen_any (F:=F) (bf:=bf) (bb:=bb) (bo:=bo) hm0 hm he hp hy h)
 clear hy
 have HM:=Lib.hid (show (1:Int)≤m from hm0)
 have HMM:=Lib.hid hm
 clear hm0 hm
 go_enter Tryz.func15,Tryz.ntmps15
 go_wp2_with (first | refine aU ?_ | ((with_reducible refine gS 8 ?_);refine aBp ?_;clear hL;intro b8 w1 hL) | ((with_reducible refine gS 43 ?_);refine aBp ?_;clear hL;intro b43 w1 hL) | ((with_reducible refine gC 19 ?_);go_loud (refine lCall rfl rfl ((size_any (F:=fun x y=>F x y (otR bf fr fs 0 m)) (bf:=bf) (bb:=bb) hL).mono ?_) rfl);rintro e w1 ⟨rfl,hL1⟩;clear hL;revert hL1;refine aE ?_;intro hL) | ((with_reducible refine gC 25 ?_);go_loud (refine lCall rfl rfl ((HBK.out _ hL).mono ?_) rfl);rintro e w1 ⟨bk,er2,pr2,f2,y2,rfl,he2,hp2,hf2,hy2,hL1⟩;clear hL;revert hL1;refine aE ?_;intro hL) | ((with_reducible refine gC 33 ?_);go_loud (refine lCall rfl rfl ((load_nil (bf:=bf) (bo:=bo) (bk:=bk) inferInstance hL).mono ?_) rfl);rintro e w1 ⟨rfl,hL1⟩;clear hL;revert hL1;refine aE ?_;intro hL) | ((with_reducible refine gC 34 ?_);go_loud (refine lCall rfl rfl ((stateNil _).mono ?_) rfl);rintro e w1 ⟨rfl,hb1⟩;have hL1:=hL.keep hb1;clear hL;revert hL1;refine aE ?_;intro hL) | ((with_reducible show wpList _ _ _ (⟨some 42,.build _ _,_,_,_,_⟩ :: _) _ _);refine lU hL rfl rfl (build_kp _ _ _) rfl ?_;clear hL;intro w1 hL;refine p4 ?_) | (refine aL3S6p ?_;clear hL;intro w1 hL))
 go_loopw [44] (fun kk wr=>(kk= .int .i64 0∧Loc w0 wr ((b43, #[ptrV bo,ptrV bk,.pointer none,.pointer none],119) :: (b8,stR Sta.new Sq.none,58) :: (bk,bkR bf bo none 0 0 0,166) :: F (flR bb er2 pr2) y2 (otR bf fr fs 1 m))) ∨
  (kk= .int .i64 1∧∃ a0,Loc w0 wr ((a0,arR bf 64,170) :: (b43, #[ptrV bo,ptrV bk,ptrV a0,.pointer none],119) :: (b8,stR Sta.new Sq.none,58) :: (bk,bkR bf bo none 0 0 0,166) :: F (flR bb er2 pr2) y2 (otR bf fr fs 1 m))) ∨
  (kk= .int .i64 2∧∃ a0 a1,Loc w0 wr ((a1,arR bf 96,170) :: (a0,arR bf 64,170) :: (b43,kpR bo bk a0 a1,119) :: (b8,stR Sta.new Sq.none,58) :: (bk,bkR bf bo none 0 0 0,166) :: F (flR bb er2 pr2) y2 (otR bf fr fs 1 m)))) (fun kk _=>2 - (intOf kk).toNat)
 case atStart=>exact .inl ⟨rfl,hL⟩
 case round =>
  clear hL
  rcases hrel with ⟨rfl,hL⟩ | ⟨rfl,a0,hL⟩ | ⟨rfl,a0,a1,hL⟩
  ·skip
   go_wp2_with (first | refine aU ?_ | (refine aL3S6p ?_;clear hL;intro w1 hL))
   refine wp_region_mix (S:=fun w'=>True) 12 (by kernel_rfl) (by kernel_rfl) (trivial) (fun hHeld=>?_)
   replace hL:=hL.drew
   refine tg 0 hHeld ?_
   refine p7 ?_
   refine tg 1 hHeld ?_
   refine p7 ?_
   refine tg 2 hHeld ?_
   refine p7 ?_
   refine tg 3 hHeld ?_
   refine p7 ?_
   refine tg 8 hHeld ?_
   refine p7 ?_
   refine tg 9 hHeld ?_
   refine p7 ?_
   refine wpAnyH_ready (rs:=[4]) (by kernel_rfl) (by simp) ((AllReadyH.cons rfl (fun K hK=>?_) AllReadyH.nil))
   rw [if_pos (by rfl)]
   refine eCall rfl (by simp only [List.map_toArray,List.map_cons,List.map_nil];rfl) ((verNew_0 (F:=fun x y=>(b43, #[ptrV bo,ptrV bk,.pointer none,.pointer none],119) :: (b8,stR Sta.new Sq.none,58) :: (bk,bkR bf bo none 0 0 0,166) :: F x y (otR bf fr fs 1 m)) (bf:=bf) (bb:=bb) hL).mono ?_)
   rintro e w1 ⟨a0,rfl,hL1⟩;refine ⟨_,rfl,?_⟩
   (try dsimp only at hL1);(try simp only [Nat.reduceAdd,Nat.reduceSub] at hL1)
   clear hL;have hL:=hL1;clear hL1
   refine hK.out _ _ (trivial) (fun hHeld2=>?_)
   clear hK K hHeld;have hHeld:=hHeld2;clear hHeld2
   refine p7 ?_
   refine tg 5 hHeld ?_
   refine p7 ?_
   refine tg 6 hHeld ?_
   refine p7 ?_
   refine tg 7 hHeld ?_
   refine p7 ?_
   refine tg 10 hHeld ?_
   refine p7 ?_
   refine wpAnyH_ready (rs:=[11]) (by kernel_rfl) (by simp) ((AllReadyH.cons rfl (fun K hK=>?_) AllReadyH.nil))
   rw [if_pos (by rfl)]
   refine eAny ?_;intro w1 hL1
   clear hL;have hL:=hL1;clear hL1
   refine hK.out _ _ (trivial) (fun hHeld2=>?_)
   clear hK K hHeld;have hHeld:=hHeld2;clear hHeld2
   refine p7 ?_
   refine wpAnyH_done (by kernel_rfl) (NoPanic.normal ?_) _
   clear hHeld
   go_wp2_with (first | refine aU ?_ | (refine aL3S6p ?_;clear hL;intro w1 hL))
   go_roundw
   case rel=>exact .inr (.inl ⟨rfl,a0,hL⟩)
   case measure=>simp only [intOf];decide
  ·skip
   go_wp2_with (first | refine aU ?_ | (refine aL3S6p ?_;clear hL;intro w1 hL))
   refine wp_region_mix (S:=fun w'=>True) 12 (by kernel_rfl) (by kernel_rfl) (trivial) (fun hHeld=>?_)
   replace hL:=hL.drew
   refine tg 0 hHeld ?_
   refine p7 ?_
   refine tg 1 hHeld ?_
   refine p7 ?_
   refine tg 2 hHeld ?_
   refine p7 ?_
   refine tg 3 hHeld ?_
   refine p7 ?_
   refine tg 8 hHeld ?_
   refine p7 ?_
   refine tg 9 hHeld ?_
   refine p7 ?_
   refine wpAnyH_ready (rs:=[4]) (by kernel_rfl) (by simp) ((AllReadyH.cons rfl (fun K hK=>?_) AllReadyH.nil))
   rw [if_pos (by rfl)]
   refine eCall rfl (by simp only [List.map_toArray,List.map_cons,List.map_nil];rfl) ((verNew_1 (F:=fun x y=>(a0,arR bf 64,170) :: (b43, #[ptrV bo,ptrV bk,ptrV a0,.pointer none],119) :: (b8,stR Sta.new Sq.none,58) :: (bk,bkR bf bo none 0 0 0,166) :: F x y (otR bf fr fs 1 m)) (bf:=bf) (bb:=bb) hL).mono ?_)
   rintro e w1 ⟨a1,rfl,hL1⟩;refine ⟨_,rfl,?_⟩
   (try dsimp only at hL1);(try simp only [Nat.reduceAdd,Nat.reduceSub] at hL1)
   clear hL;have hL:=hL1;clear hL1
   refine hK.out _ _ (trivial) (fun hHeld2=>?_)
   clear hK K hHeld;have hHeld:=hHeld2;clear hHeld2
   refine p7 ?_
   refine tg 5 hHeld ?_
   refine p7 ?_
   refine tg 6 hHeld ?_
   refine p7 ?_
   refine tg 7 hHeld ?_
   refine p7 ?_
   refine tg 10 hHeld ?_
   refine p7 ?_
   refine wpAnyH_ready (rs:=[11]) (by kernel_rfl) (by simp) ((AllReadyH.cons rfl (fun K hK=>?_) AllReadyH.nil))
   rw [if_pos (by rfl)]
   refine eAny ?_;intro w1 hL1
   clear hL;have hL:=hL1;clear hL1
   refine hK.out _ _ (trivial) (fun hHeld2=>?_)
   clear hK K hHeld;have hHeld:=hHeld2;clear hHeld2
   refine p7 ?_
   refine wpAnyH_done (by kernel_rfl) (NoPanic.normal ?_) _
   clear hHeld
   go_wp2_with (first | refine aU ?_ | (refine aL3S6p ?_;clear hL;intro w1 hL))
   go_roundw
   case rel=>exact .inr (.inr ⟨rfl,a0,a1,hL⟩)
   case measure=>simp only [intOf];decide
  ·skip
   go_wp2_with (first | refine aU ?_ | (refine aL3S6p ?_;clear hL;intro w1 hL))
   refine wp_region_mix (S:=fun w'=>Loc _ w' _) 13 (by kernel_rfl) (by kernel_rfl) (hL.drew) (fun hHeld=>?_)
   replace hL:=hL.drew
   refine tg 0 hHeld ?_
   refine p7 ?_
   refine tg 1 hHeld ?_
   refine p7 ?_
   refine tg 3 hHeld ?_
   refine p7 ?_
   refine tg 5 hHeld ?_
   refine p7 ?_
   refine tz 7 hHeld ?_
   refine p7 ?_
   refine tg 2 hHeld ?_
   refine p7 ?_
   refine wpAnyH_ready (rs:=[4]) (by kernel_rfl) (by simp) ((AllReadyH.cons rfl (fun K hK=>?_) AllReadyH.nil))
   rw [if_pos (by rfl)]
   refine eCall rfl (by simp only [List.map_toArray,List.map_cons,List.map_nil];rfl) ((otpRoot_any (F:=fun x y z=>(a1,arR bf 96,170) :: (a0,arR bf 64,170) :: (b43,kpR bo bk a0 a1,119) :: (b8,stR Sta.new Sq.none,58) :: (bk,bkR bf bo none 0 0 0,166) :: F x y z) (bf:=bf) (bb:=bb) hL).mono ?_)
   rintro e w1 ⟨rfl,hL1⟩;refine ⟨_,rfl,?_⟩
   (try dsimp only at hL1);(try simp only [Nat.reduceAdd,Nat.reduceSub] at hL1)
   clear hL;have hL:=hL1;clear hL1
   refine hK.out _ _ (hL) (fun hHeld2=>?_)
   clear hK K hHeld;have hHeld:=hHeld2;clear hHeld2
   refine p7 ?_
   refine wpAnyH_ready (rs:=[6]) (by kernel_rfl) (by simp) ((AllReadyH.cons rfl (fun K hK=>?_) AllReadyH.nil))
   rw [if_pos (by rfl)]
   refine eCall rfl (by simp only [List.map_toArray,List.map_cons,List.map_nil];rfl) ((otpSecret_any (F:=fun x y z=>(a1,arR bf 96,170) :: (a0,arR bf 64,170) :: (b43,kpR bo bk a0 a1,119) :: (b8,stR Sta.new Sq.none,58) :: (bk,bkR bf bo none 0 0 0,166) :: F x y z) (bf:=bf) (bb:=bb) hL).mono ?_)
   rintro e w1 ⟨rfl,hL1⟩;refine ⟨_,rfl,?_⟩
   (try dsimp only at hL1);(try simp only [Nat.reduceAdd,Nat.reduceSub] at hL1)
   clear hL;have hL:=hL1;clear hL1
   refine hK.out _ _ (hL) (fun hHeld2=>?_)
   clear hK K hHeld;have hHeld:=hHeld2;clear hHeld2
   refine p7 ?_
   refine wpAnyH_ready (rs:=[8]) (by kernel_rfl) (by simp) ((AllReadyH.cons rfl (fun K hK=>?_) AllReadyH.nil))
   rw [if_pos (by rfl)]
   refine eCall rfl (by simp only [List.map_toArray,List.map_cons,List.map_nil];rfl) ((coreNew_any b43 fr fs Sta.new Sq.none _).mono ?_)
   rintro e w1 ⟨b67,rfl,hN⟩;refine ⟨_,rfl,?_⟩
   have hL1:=hL.join hN;clear hN;(try simp only [List.cons_append,List.nil_append,List.append_assoc] at hL1)
   clear hL;have hL:=hL1;clear hL1
   refine hK.out _ _ (hL.pop) (fun hHeld2=>?_)
   clear hK K hHeld;have hHeld:=hHeld2;clear hHeld2
   refine p7 ?_
   first | refine tk 9 rfl (zU (by rfl) rfl (build_dv _ _) rfl) hHeld ?_
   refine p7 ?_
   refine wpAnyH_ready (rs:=[10]) (by kernel_rfl) (by simp) ((AllReadyH.cons rfl (fun K hK=>?_) AllReadyH.nil))
   rw [if_pos (by rfl)]
   refine eB hL rfl rfl fun b69 w1 hL1=>?_
   clear hL;have hL:=hL1;clear hL1
   refine hK.out _ _ (hL.pop.pop) (fun hHeld2=>?_)
   clear hK K hHeld;have hHeld:=hHeld2;clear hHeld2
   refine p7 ?_
   refine tg 11 hHeld ?_
   refine p7 ?_
   refine tg 12 hHeld ?_
   refine p7 ?_
   refine wpAnyH_done (by kernel_rfl) (NoPanic.normal ?_) _
   clear hHeld
   go_wp2_with (first | refine aU ?_ | (refine aL3S6p ?_;clear hL;intro w1 hL))
   all_goals (go_ret2;exact ⟨bk,b43,a0,a1,b67,b69,⟨er2,pr2,y2,f2,1,m,none,0,0,0,Sta.new,Sq.none,-1,fun _=>0⟩,rfl,⟨⟨he2,hp2,hy2,by dsimp only;decide,HM.out,HMM.out,.inl rfl,good_new⟩,rfl,rfl,rfl,rfl,rfl,rfl,hf2⟩,Loc.rem b8 hL⟩)
instance iOpn1:Ent 15:=Ent.of Tryz.func15 (by kernel_rfl) rfl
end
end Go.Proofs.YtoifhhljfaoejaaGreatDoor
