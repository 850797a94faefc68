/-
  Lemmas of the law, part 42: the walks of the functions that it calls and the plain facts about them. No condition beyond those written.
-/
import Derived.Test.YtoifhhljfaoejaaGreatDoorPkAA
import Derived.Test.YtoifhhljfaoejaaGreatDoorPkBO
namespace Go.Proofs.YtoifhhljfaoejaaGreatDoor
open Go Go.RowKit Go.Shelf
set_option linter.unusedVariables false
set_option linter.unusedSimpArgs false
set_option linter.unusedSectionVars false
class Inv (name:String) (t:TypeId) (l:List Value) (f:outParam FuncId):Prop where
 run:∀ v w,(invoke (.fn (.method name) #[]) (.iface t v :: l).toArray).run Tryz.prog w= .ok (.enter f (v :: l).toArray) w
instance iCor1:Inv "Left" 115 [] 340:=⟨fun v w=>by kernel_rfl⟩
instance iCor2 (a:Value):Inv "Keep" 115 [a] 339:=⟨fun v w=>by kernel_rfl⟩
section
variable {ops:Array Oper} {rest:List Oper} {o:Oper} {a:Act} {w0 w:World} {M M':Mem} {Q:Exit→Act→World→Prop} {K:Act→World→Prop}
theorem eInv {x:Operand} {name:String} {xs:Array Operand} {ts:Array TypeId} (ho:o.op= .call { callee:= .invoke x name,args:=xs,argTypes:=ts }) {t:TypeId} {v:Value} (hx:a.eval x= .iface t v) {l:List Value} {f:FuncId} [hi:Inv name t l f]
 (hc:Calls Tryz.prog f (v :: l).toArray w fun e w'=>∃ v,e= .returned v∧K (a.put o.dst v) w') (hxs:xs.toList.map a.eval=l):o.wp Tryz.prog a w K Q:=by
 have e: #[a.eval x] ++ xs.map a.eval=(.iface t v :: l).toArray:=by rw [← Array.toList_inj,Array.toList_append,Array.toList_map,hxs,hx];rfl
 unfold Oper.wp execOp
 simp only [ho,resolve,Sem.run_bind,Sem.run_pure,Result.andThen_ok,e,hi.run,Oper.upon_enter]
 refine hc.mono fun e w' hh=>?_
 obtain ⟨v,rfl,h⟩:=hh
 exact h
theorem lInv (hg:o.guard=none) {x:Operand} {name:String} {xs:Array Operand} {ts:Array TypeId} (ho:o.op= .call { callee:= .invoke x name,args:=xs,argTypes:=ts }) {t:TypeId} {v:Value} (hx:a.eval x= .iface t v) {l:List Value} {f:FuncId} [hi:Inv name t l f]
 (hc:Calls Tryz.prog f (v :: l).toArray w fun e w'=>∃ v,e= .returned v∧wpList Tryz.prog ops Q rest (a.put o.dst v) w') (hxs:xs.toList.map a.eval=l):wpList Tryz.prog ops Q (o :: rest) a w :=
 wpList_plain hg fun _ hK=>eInv ho hx (hc.mono fun e w' ⟨v,h1,h2⟩=>⟨v,h1,hK _ _ h2⟩) hxs
end
class HeldC (S:World→Prop) (b k:Nat) (v:outParam Value):Prop where
 cell:∀ w,S w→w.cell? ⟨b,k,none⟩=some v
instance heldC (w0:World) (M:Dv→Mem) (b k:Nat) (r:Dv→Array Value) (u:TypeId) (v:Value) [h:∀ d,At (M d) b (r d) u] [hc:∀ d,Cell (r d) k v]:HeldC (fun w=>∃ d,Loc w0 w (M d)) b k v:=⟨fun w ⟨d,hS⟩=>by rw [cell_of_row w b k _ _ _ (hS.get (h d).mem)];exact (hc d).cell⟩
instance heldD (w0:World) (M:Dv→Mem) (b:Nat) (r:Array Value) (u:TypeId) [h:∀ x,At (M x) b r u]:Held (fun w=>∃ x,Loc w0 w (M x)) b r u:=⟨fun w ⟨x,hS⟩=>hS.get (h x).mem⟩
theorem zC {ops:Array Oper} {o:Oper} {a:Act} {S:World→Prop} (hw:Region.wanted o (yielded ops a.tmps)=true) {t:TypeId} {x:Operand} (ho:o.op= .load t x) {b k:Nat} (hx:a.eval x= .pointer (some ⟨b,k,none⟩)) {v:Value} [ht:ScTy t] [hm:HeldC S b k v] :
 YieldsIf Tryz.prog ops S o v a:= .inl ⟨hw,fun w hS=>by
 unfold execOp
 have:=run_load_sc (t:=t) (w:=w) (b:=b) (k:=k) (v:=v) (hm.cell w hS)
 simp only [ho,hx,Instr.loadAt,Instr.sureAddr,Sem.run_bind,Sem.run_pure,Result.andThen_ok,this]⟩
section
variable {w0 w:World} {F:Array Value→Array Value→Array Value→Array Value→Array Value→Mem} {bf bb bo bk kp a0 a1 cc:Nat} {fr fs:Nat→BitVec 8}
set_option maxRecDepth 100000 in
theorem coState_any (hF:CoM F bf bb bo bk kp a0 a1 cc) (d:Dv) (ok:d.Ok) (hS:∀ x y z u c,SeeS w0 (F x y z u c) d.s d.q) (hL:Loc w0 w (d.at F bf bb bo kp fr fs)) :
 Calls Tryz.prog 63 #[ptrV cc] w fun e w'=>∃ q' Sr S0 S1,e= .returned (.agg (stR d.s q'))∧HoldQ Sr S0 S1 d.s q'∧Loc w0 w' (S1 ++ (S0 ++ (Sr ++ d.at F bf bb bo kp fr fs))):=by
 have hG:=hF.g
 have hg:=ok.good
 have hlen0:d.s.m0.length≤300:=by rcases hg.s0 with ⟨h,_⟩ | ⟨h,_⟩ <;> omega
 have hlen1:d.s.m1.length≤300:=by rcases hg.s1 with ⟨h,_⟩ | ⟨h,_⟩ <;> omega
 have hlen2:=hg.n
 have HC:=Lib.hid (fun w1 (h:Loc w0 w1 (d.at F bf bb bo kp fr fs))=>copy_any d.s d.q w1 ((hS _ _ _ _ _).read h) (by omega) (by omega) (by omega))
 clear hg ok hlen0 hlen1 hlen2
 obtain ⟨er,pr,y,f,n,m,p,kn,kc,half,s,q,bt,rg⟩:=d
 obtain ⟨fl,rv,m0,d0,t0,m1,d1,t1,ac⟩:=s
 dsimp only [Dv.at] at *
 go_enter Tryz.func63,Tryz.ntmps63
 go_wp2_with (first | refine aU ?_ | ((with_reducible refine gS 2 ?_);refine aBp ?_;clear hL;intro b2 w1 hL) | ((with_reducible refine gC 7 ?_);go_loud (refine lCall rfl rfl ((HC.out _ hL.pop).mono ?_) rfl);rintro e w1 ⟨⟨pr',cr',p0',c0',p1',c1'⟩,Sr,S0,S1,rfl,hQ,hN⟩;refine ⟨_,rfl,?_⟩;have hL1:=hL.join hN;clear hN;(try simp only [List.cons_append,List.nil_append,List.append_assoc] at hL1);clear hL;have hL:=hL1;clear hL1;refine p4 ?_) | (refine aL3S6p ?_;clear hL;intro w1 hL))
 exact bodyPost_ret (results_loc rfl hL rfl) rfl ⟨⟨pr',cr',p0',c0',p1',c1'⟩,Sr,S0,S1,rfl,hQ,Loc.rem b2 hL⟩
set_option maxRecDepth 100000 in
theorem revoked_any (hF:CoM F bf bb bo bk kp a0 a1 cc) (d:Dv) (ok:d.Ok) (id:Int) (hS:∀ x y z u c,SeeS w0 (F x y z u c) d.s d.q) (hL:Loc w0 w (d.at F bf bb bo kp fr fs)) :
 Calls Tryz.prog 158 #[ptrV cc,.int .i64 id] w fun e w'=>e= .returned (.bool (decide (id∈d.s.rv)))∧Loc w0 w' (d.at F bf bb bo kp fr fs):=by
 have hG:=hF.g
 have hlen2:=ok.good.n
 have HC:=Lib.hid (fun w1 (h:Loc w0 w1 (d.at F bf bb bo kp fr fs))=>contains_any d.q.pr d.q.cr d.s.rv id w1 ((hS _ _ _ _ _).read h).r (by omega))
 clear ok hlen2 hS
 obtain ⟨er,pr,y,f,n,m,p,kn,kc,half,s,q,bt,rg⟩:=d
 obtain ⟨fl,rv,m0,d0,t0,m1,d1,t1,ac⟩:=s
 obtain ⟨pr',cr',p0',c0',p1',c1'⟩:=q
 dsimp only [Dv.at] at *
 go_enter Tryz.func158,Tryz.ntmps158
 go_wp2_with (first | refine aU ?_ | ((with_reducible refine gC 11 ?_);go_loud (refine lCall rfl rfl ((HC.out _ hL).mono ?_) rfl);rintro e w1 ⟨rfl,hb1⟩;have hL1:=hL.keep hb1;clear hL;revert hL1;refine aE ?_;intro hL) | (refine aL3S6p ?_;clear hL;intro w1 hL))
 all_goals (go_ret;exact ⟨rfl,hL⟩)
set_option maxRecDepth 100000 in
theorem change_any (hF:CoM F bf bb bo bk kp a0 a1 cc) (d:Dv) (ok:d.Ok) (hlt:d.n<d.m) (s':Sta) (q':Sq) (hg:Good s') (hS:∀ x y z u c,SeeS w0 (F x y z u c) s' q') (hL:Loc w0 w (d.at F bf bb bo kp fr fs)) :
 Calls Tryz.prog 161 #[ptrV cc,.agg (stR s' q')] w fun e w'=>e= .returned (.int .i64 0)∧∃ d',d.Next d'∧d'.s=s'∧d'.q=q'∧Loc w0 w' (d'.at F bf bb bo kp fr fs):=by
 have hG:=hF.g;have hH:=hF.h
 have hA:=hF.a;have hU:=hF.u;have hB:=hF.b;have hV:=hF.v;have hO:=hF.o;have hPP:=hF.p;have hQ:=hF.q;have hRR:=hF.r;have hKK:=hF.k;have hll:=hF.l;have hmm:=hF.m
 have HL:=Lib.hid (fun (b:Nat) w1 (h:Loc w0 w1 ((b,stR s' q',58) :: d.at F bf bb bo kp fr fs))=>left_any (F:=fun x y z u c=>(b,stR s' q',58) :: F x y z u c) (bf:=bf) (bb:=bb) (bo:=bo) (bk:=bk) (kp:=kp) (a0:=a0) (a1:=a1) (cc:=cc) (fr:=fr) (fs:=fs) inferInstance d ok h)
 have HK:=Lib.hid (fun (b:Nat) w1 (h:Loc w0 w1 ((b,stR s' q',58) :: d.at F bf bb bo kp fr fs))=>keep_any (F:=fun x y z u c=>(b,stR s' q',58) :: F x y z u c) (bf:=bf) (bb:=bb) (bo:=bo) (bk:=bk) (kp:=kp) (a0:=a0) (a1:=a1) (cc:=cc) (fr:=fr) (fs:=fs) inferInstance d ok hlt s' q' hg (fun x y z u c=>inferInstance) h)
 have q1:¬ d.m - d.n<1:=by omega
 clear hS
 obtain ⟨er,pr,y,f,n,m,p,kn,kc,half,s,q,bt,rg⟩:=d
 dsimp only [Dv.at] at HL HK hL q1
 go_enter Tryz.func161,Tryz.ntmps161
 go_wp2_with (first | refine aU ?_ | ((with_reducible refine gS 3 ?_);refine aBp ?_;clear hL;intro b3 w1 hL) | ((with_reducible refine gC 10 ?_);go_loud (refine lInv rfl rfl rfl ((HL.out _ _ hL).mono ?_) rfl);rintro e w1 ⟨rfl,hL1⟩;clear hL;revert hL1;refine aE ?_;intro hL) | (refine aL3S6p ?_;clear hL;intro w1 hL))
 refine wp_region_mix (S:=fun w'=>∃ d:Dv,Loc w0 w' ((b3,stR s' q',58) :: d.at F bf bb bo kp fr fs)) 7 (by kernel_rfl) (by kernel_rfl) (⟨⟨er,pr,y,f,n,m,p,kn,kc,half,s,q,bt,rg⟩,hL.drew⟩) (fun hHeld=>?_)
 replace hL:=hL.drew
 refine tg 0 hHeld ?_
 refine p7 ?_
 refine tz 4 hHeld ?_
 refine p7 ?_
 refine tg 1 hHeld ?_
 refine p7 ?_
 refine tg 2 hHeld ?_
 refine p7 ?_
 refine tz 3 hHeld ?_
 refine p7 ?_
 refine wpAnyH_ready (rs:=[5]) (by kernel_rfl) (by simp) ((AllReadyH.cons rfl (fun K hK=>?_) AllReadyH.nil))
 rw [if_pos (by rfl)]
 refine eInv rfl rfl ((HK.out _ _ hL).mono ?_) (by first | rfl | (simp only [List.map_cons,List.map_nil];rfl))
 rintro e w1 ⟨rfl,d2,hNx,hs2,hq2,hL1⟩;refine ⟨_,rfl,?_⟩
 (try dsimp only at hL1);(try simp only [Nat.reduceAdd,Nat.reduceSub] at hL1)
 clear hL;have hL:=hL1;clear hL1
 refine hK.out _ _ (⟨d2,hL⟩) (fun hHeld2=>?_)
 clear hK K hHeld;have hHeld:=hHeld2;clear hHeld2
 refine p7 ?_
 refine tg 6 hHeld ?_
 refine p7 ?_
 refine wpAnyH_done (by kernel_rfl) (NoPanic.normal ?_) _
 clear hHeld
 obtain ⟨er2,pr2,y2,f2,n2,m2,p2,kn2,kc2,half2,s2,q2,bt2,rg2⟩:=d2
 dsimp only at hs2 hq2 hL
 subst hs2
 subst hq2
 obtain ⟨ok2,hn2,hm2,hf2,hb2,hr2⟩:=hNx
 obtain ⟨o1,o2,o3,o4,o5,o6,o7,o8⟩:=ok2
 clear HL HK
 go_wp2_with (first | refine aU ?_ | (refine aL3S6p ?_;clear hL;intro w1 hL))
 all_goals (go_ret;exact ⟨rfl,⟨er2,pr2,y2,f2,n2,m2,p2,kn2,kc2,half2,s',q',bt2,rg2⟩,⟨⟨o1,o2,o3,o4,o5,o6,o7,hg⟩,hn2,hm2,hf2,hb2,hr2⟩,rfl,rfl,Loc.rem b3 hL⟩)
end
instance iCor5:Ent 63:=Ent.of Tryz.func63 (by kernel_rfl) rfl
instance iCor6:Ent 158:=Ent.of Tryz.func158 (by kernel_rfl) rfl
instance iCor7:Ent 161:=Ent.of Tryz.func161 (by kernel_rfl) rfl
end Go.Proofs.YtoifhhljfaoejaaGreatDoor
namespace Go.Proofs.YtoifhhljfaoejaaGreatDoor
open Go Go.RowKit Go.Shelf
set_option linter.unusedVariables false
set_option linter.unusedSimpArgs false
set_option linter.unusedSectionVars false
theorem front3 (S1 S0 Sr M:Mem) (e:Nat×Array Value×TypeId):List.Perm (S1 ++ (S0 ++ (Sr ++ (e :: M)))) (e :: (S1 ++ (S0 ++ (Sr ++ M)))):=by
 have:=(List.perm_middle (a:=e) (l₁:=S1 ++ S0 ++ Sr) (l₂:=M))
 simpa [List.append_assoc] using this
theorem good_add {s:Sta} (h:Good s) {id:Int} (hid:smallZ id) (hx:∀ i (h:i<s.rv.length),s.rv[i]<id) (hn:s.rv.length<32):Good (s.add id) where
 fl:=h.fl
 n:=by show (s.rv ++ [id]).length≤32;simp;omega
 ids:=fun i hi=>by
  change i<(s.rv ++ [id]).length at hi
  show smallZ (s.rv ++ [id])[i]
  rw [List.getElem_append]
  split
  ·exact h.ids i _
  ·simp;exact hid
 up:=fun i hi=>by
  change i+1<(s.rv ++ [id]).length at hi
  show (s.rv ++ [id])[i]<(s.rv ++ [id])[i+1]
  simp at hi
  rw [List.getElem_append_left (by omega)]
  rcases Nat.lt_or_ge (i+1) s.rv.length with h1 | h1
  ·rw [List.getElem_append_left h1];exact h.up i h1
  ·rw [List.getElem_append_right h1]
   simp
   exact hx i (by omega)
 ac:=h.ac
 s0:=h.s0
 s1:=h.s1
theorem notin_of {l:List Int} {x:Int} (hx:∀ i (h:i<l.length),l[i]<x):decide (x∈l)=false:=by
 rw [decide_eq_false_iff_not]
 intro h
 obtain ⟨i,hi,e⟩:=List.getElem_of_mem h
 have:=hx i hi
 omega
section
variable {w0 w:World} {F:Array Value→Array Value→Array Value→Array Value→Array Value→Mem} {bf bb bo bk kp a0 a1 cc:Nat} {fr fs:Nat→BitVec 8}
set_option maxRecDepth 100000 in
set_option maxHeartbeats 1000000 in
theorem coRevoke_new (hF:CoM F bf bb bo bk kp a0 a1 cc) (d:Dv) (ok:d.Ok) (hlt:d.n<d.m) (hS:∀ x y z u c,SeeS w0 (F x y z u c) d.s d.q) (id:Int) (fg:Nat→BitVec 8) (hid:smallZ id) (hx:∀ i (h:i<d.s.rv.length),d.s.rv[i]<id)
 (h32:d.s.rv.length<32) (hok:stopOk fr id fg=true) {p:Option Addr} {n c:Nat} (hv:∀ x y z u e,See w0 (F x y z u e) (.slice p n c) (encB (stopB id fg))) (hL:Loc w0 w (d.at F bf bb bo kp fr fs)) :
 Calls Tryz.prog 101 #[ptrV cc,.slice p n c] w fun e w' =>
  e= .returned (.int .i64 0)∧∃ d' Sr S0 S1,d.Next d'∧d'.s=d.s.add id∧HoldQ Sr S0 S1 d'.s d'.q∧Loc w0 w' (S1 ++ (S0 ++ (Sr ++ d'.at F bf bb bo kp fr fs))):=by
 have hG:=hF.g;have hH:=hF.h
 have hA:=hF.a;have hU:=hF.u;have hB:=hF.b;have hV:=hF.v;have hO:=hF.o;have hPP:=hF.p;have hQ:=hF.q;have hRR:=hF.r;have hKK:=hF.k;have hll:=hF.l;have hmm:=hF.m
 have hmay:mayN id=true:=by unfold mayN;rw [decide_eq_true];exact hid
 have HRS:=Lib.hid (fun w1 (h:BRow w1 (.slice p n c) (stopB id fg))=>readStop_any id fg _ w1 hid.1 hid.2 h)
 have HCK:=Lib.hid (fun w1=>by have:=checkStop_any fr id fg w1 hmay;rw [hok] at this;exact this)
 have HRV:=Lib.hid (fun (b:Nat) (r:Array Value) w1 (h:Loc w0 w1 ((b,r,98) :: d.at F bf bb bo kp fr fs))=>by
  have:=revoked_any (F:=fun x y z u c=>(b,r,98) :: F x y z u c) (bf:=bf) (bb:=bb) (bo:=bo) (bk:=bk) (kp:=kp) (a0:=a0) (a1:=a1) (cc:=cc) (fr:=fr) (fs:=fs) inferInstance d ok id (fun x y z u c=>inferInstance) h
  rw [notin_of hx] at this
  exact this)
 have HNW:=Lib.hid (fun w1 (h:Loc w0 w1 (d.at F bf bb bo kp fr fs))=>revoke_new d.s d.q id w1 ((hS _ _ _ _ _).read h) ok.good hid hx)
 have hga:=good_add ok.good hid hx h32
 have HCH:=Lib.hid (fun (b7 b5:Nat) (r7 r5:Array Value) (q':Sq) (Sr S0 S1:Mem) (hQ:HoldQ Sr S0 S1 (d.s.add id) q') w1 (h:Loc w0 w1 ((b7,r7,58) :: (S1 ++ (S0 ++ (Sr ++ ((b5,r5,98) :: d.at F bf bb bo kp fr fs)))))) =>
  change_any (F:=fun x y z u c=>(b7,r7,58) :: (S1 ++ (S0 ++ (Sr ++ ((b5,r5,98) :: F x y z u c))))) (bf:=bf) (bb:=bb) (bo:=bo) (bk:=bk) (kp:=kp) (a0:=a0) (a1:=a1) (cc:=cc) (fr:=fr) (fs:=fs) inferInstance d ok hlt (d.s.add id) q' hga (fun x y z u c=>by haveI:=hQ.sees w0 ((b5,r5,98) :: F x y z u c);infer_instance) h)
 have HD:=Lib.hid (fun d' (h:d.Next d')=>h)
 clear hS hga hmay hok hx ok hid
 generalize d.s.add id=s2 at *
 obtain ⟨er,pr,y,f,nn,m,kpp,kn,kc,half,s,q,bt,rg⟩:=d
 dsimp only [Dv.at] at HRV HNW HCH hL h32
 have HNX:=Lib.hid (fun w1 h=>(HNW.out w1 h).mono fun e w' hh=>hh.1 h32)
 clear HNW
 go_enter Tryz.func101,Tryz.ntmps101
 go_wp2_with (first | refine aU ?_ | ((with_reducible refine gS 5 ?_);refine aBp ?_;clear hL;intro b5 w1 hL) | ((with_reducible refine gC 10 ?_);go_loud (refine lCall rfl rfl ((HRS.out _ (See.bytes hL)).mono ?_) rfl);rintro e w1 ⟨rfl,hb1⟩;have hL1:=hL.keep hb1;clear hL;revert hL1;refine aE ?_;intro hL) | (refine aL3S6p ?_;clear hL;intro w1 hL))
 refine wp_region_mix (S:=fun w'=>Loc _ w' _) 8 (by kernel_rfl) (by kernel_rfl) (hL.drew) (fun hHeld=>?_)
 replace hL:=hL.drew
 refine tg 0 hHeld ?_
 refine p7 ?_
 refine tz 4 hHeld ?_
 refine p7 ?_
 refine tg 1 hHeld ?_
 refine p7 ?_
 refine tg 2 hHeld ?_
 refine p7 ?_
 refine tz 3 hHeld ?_
 refine p7 ?_
 refine wpAnyH_ready (rs:=[5]) (by kernel_rfl) (by simp) ((AllReadyH.cons rfl (fun K hK=>?_) AllReadyH.nil))
 rw [if_pos (by rfl)]
 refine eCall rfl (by simp only [List.map_toArray,List.map_cons,List.map_nil];rfl) ((HCK.out _).mono ?_)
 rintro e w1 ⟨rfl,hb1⟩;refine ⟨_,rfl,?_⟩;have hL1:=hL.keep hb1;clear hb1
 clear hL;have hL:=hL1;clear hL1
 refine hK.out _ _ (hL) (fun hHeld2=>?_)
 clear hK K hHeld;have hHeld:=hHeld2;clear hHeld2
 refine p7 ?_
 refine tg 6 hHeld ?_
 refine p7 ?_
 refine tg 7 hHeld ?_
 refine p7 ?_
 refine wpAnyH_done (by kernel_rfl) (NoPanic.normal ?_) _
 clear hHeld
 go_wp2_with (first | refine aU ?_ | ((with_reducible refine gC 28 ?_);go_loud (refine lCall rfl rfl ((HRV.out _ _ _ hL).mono ?_) rfl);rintro e w1 ⟨rfl,hL1⟩;clear hL;revert hL1;refine aE ?_;intro hL) | (refine aL3S6p ?_;clear hL;intro w1 hL))
 refine share (R:=?R) (fun hR=>?h1) ?h2
 case h1 =>
  refine wp_region_mix (S:=fun w'=>Loc w0 w' ((b5,stopR id fg,98) :: F (flR bb er pr) y (otR bf fr fs nn m) (bkR bf bo kpp kn kc half) (coR kp fr fs s q bt rg))) 13 (by kernel_rfl) (by kernel_rfl) (by first | exact hL.drew | exact hL.drew.pop | exact hL.drew.right.right.right | exact hL.drew.pop.right.right.right | exact hL.drew.right.right.right.pop) (fun hHeld=>?_)
  replace hL:=hL.drew
  refine tg 0 hHeld ?_
  refine p7 ?_
  refine tg 4 hHeld ?_
  refine p7 ?_
  refine tg 1 hHeld ?_
  refine p7 ?_
  refine tz 5 hHeld ?_
  refine p7 ?_
  refine tg 2 hHeld ?_
  refine p7 ?_
  refine tz 3 hHeld ?_
  refine p7 ?_
  refine wpAnyH_ready (rs:=[6,10]) (by kernel_rfl) (by simp) ((AllReadyH.cons rfl (fun K hK=>?_) (AllReadyH.cons rfl (fun K hK=>?_) AllReadyH.nil)))
  ·rw [if_pos (by rfl)]
   refine eCall rfl (by simp only [List.map_toArray,List.map_cons,List.map_nil];rfl) ((HNX.out _ (by first | exact hL.pop | exact hL.pop.pop)).mono ?_)
   rintro e w1 ⟨q',Sr,S0,S1,rfl,hQ,hN⟩;refine ⟨_,rfl,?_⟩
   have hL1:=hL.join hN;clear hN;(try simp only [List.cons_append,List.nil_append,List.append_assoc] at hL1)
   clear hL;have hL:=hL1;clear hL1
   refine hK.out _ _ (by first | exact hL | exact hL.pop | exact hL.right.right.right | exact hL.pop.right.right.right | exact hL.right.right.right.pop) (fun hHeld2=>?_)
   clear hK K hHeld;have hHeld:=hHeld2;clear hHeld2
   refine p7 ?_
   refine tg 7 hHeld ?_
   refine p7 ?_
   refine tg 8 hHeld ?_
   refine p7 ?_
   refine tg 9 hHeld ?_
   refine p7 ?_
   refine wpAnyH_ready (rs:=[10]) (by kernel_rfl) (by simp) ((AllReadyH.cons rfl (fun K hK=>?_) AllReadyH.nil))
   rw [if_pos (by rfl)]
   refine eA hL rfl fun b7 w1 hL1=>?_
   clear hL;have hL:=hL1;clear hL1
   refine hK.out _ _ (by first | exact hL | exact hL.pop | exact hL.right.right.right | exact hL.pop.right.right.right | exact hL.right.right.right.pop) (fun hHeld2=>?_)
   clear hK K hHeld;have hHeld:=hHeld2;clear hHeld2
   refine p7 ?_
   refine wpAnyH_ready (rs:=[11]) (by kernel_rfl) (by simp) ((AllReadyH.cons rfl (fun K hK=>?_) AllReadyH.nil))
   rw [if_pos (by rfl)]
   refine eAny ?_;intro w1 hL1
   clear hL;have hL:=hL1;clear hL1
   refine hK.out _ _ (by first | exact hL | exact hL.pop | exact hL.right.right.right | exact hL.pop.right.right.right | exact hL.right.right.right.pop) (fun hHeld2=>?_)
   clear hK K hHeld;have hHeld:=hHeld2;clear hHeld2
   refine p7 ?_
   refine tg 12 hHeld ?_
   refine p7 ?_
   refine wpAnyH_done (by kernel_rfl) (NoPanic.normal ?_) _
   clear hHeld
   first | (have hLp:=hL;clear hL;revert hLp;revert w1;revert b7;revert hQ;revert S1;revert S0;revert Sr;revert q';exact hR) | (have hLp:=hL.perm (List.Perm.swap _ _ _);clear hL;revert hLp;revert w1;revert b7;revert hQ;revert S1;revert S0;revert Sr;revert q';exact hR) | (have hLp:=hL.perm (List.Perm.cons _ (List.Perm.swap _ _ _));clear hL;revert hLp;revert w1;revert b7;revert hQ;revert S1;revert S0;revert Sr;revert q';exact hR) | (have hLp:=hL.perm (front3 _ _ _ _ _);clear hL;revert hLp;revert w1;revert b7;revert hQ;revert S1;revert S0;revert Sr;revert q';exact hR)
  ·rw [if_pos (by rfl)]
   refine eA hL rfl fun b7 w1 hL1=>?_
   clear hL;have hL:=hL1;clear hL1
   refine hK.out _ _ (by first | exact hL | exact hL.pop | exact hL.right.right.right | exact hL.pop.right.right.right | exact hL.right.right.right.pop) (fun hHeld2=>?_)
   clear hK K hHeld;have hHeld:=hHeld2;clear hHeld2
   refine p7 ?_
   refine wpAnyH_ready (rs:=[6]) (by kernel_rfl) (by simp) ((AllReadyH.cons rfl (fun K hK=>?_) AllReadyH.nil))
   rw [if_pos (by rfl)]
   refine eCall rfl (by simp only [List.map_toArray,List.map_cons,List.map_nil];rfl) ((HNX.out _ (by first | exact hL.pop | exact hL.pop.pop)).mono ?_)
   rintro e w1 ⟨q',Sr,S0,S1,rfl,hQ,hN⟩;refine ⟨_,rfl,?_⟩
   have hL1:=hL.join hN;clear hN;(try simp only [List.cons_append,List.nil_append,List.append_assoc] at hL1)
   clear hL;have hL:=hL1;clear hL1
   refine hK.out _ _ (by first | exact hL | exact hL.pop | exact hL.right.right.right | exact hL.pop.right.right.right | exact hL.right.right.right.pop) (fun hHeld2=>?_)
   clear hK K hHeld;have hHeld:=hHeld2;clear hHeld2
   refine p7 ?_
   refine tg 7 hHeld ?_
   refine p7 ?_
   refine tg 8 hHeld ?_
   refine p7 ?_
   refine tg 9 hHeld ?_
   refine p7 ?_
   refine wpAnyH_ready (rs:=[11]) (by kernel_rfl) (by simp) ((AllReadyH.cons rfl (fun K hK=>?_) AllReadyH.nil))
   rw [if_pos (by rfl)]
   refine eAny ?_;intro w1 hL1
   clear hL;have hL:=hL1;clear hL1
   refine hK.out _ _ (by first | exact hL | exact hL.pop | exact hL.right.right.right | exact hL.pop.right.right.right | exact hL.right.right.right.pop) (fun hHeld2=>?_)
   clear hK K hHeld;have hHeld:=hHeld2;clear hHeld2
   refine p7 ?_
   refine tg 12 hHeld ?_
   refine p7 ?_
   refine wpAnyH_done (by kernel_rfl) (NoPanic.normal ?_) _
   clear hHeld
   first | (have hLp:=hL;clear hL;revert hLp;revert w1;revert b7;revert hQ;revert S1;revert S0;revert Sr;revert q';exact hR) | (have hLp:=hL.perm (List.Perm.swap _ _ _);clear hL;revert hLp;revert w1;revert b7;revert hQ;revert S1;revert S0;revert Sr;revert q';exact hR) | (have hLp:=hL.perm (List.Perm.cons _ (List.Perm.swap _ _ _));clear hL;revert hLp;revert w1;revert b7;revert hQ;revert S1;revert S0;revert Sr;revert q';exact hR) | (have hLp:=hL.perm (front3 _ _ _ _ _);clear hL;revert hLp;revert w1;revert b7;revert hQ;revert S1;revert S0;revert Sr;revert q';exact hR)
 intro q' Sr S0 S1 hQ b7 w1 hL1
 clear hL;have hL:=hL1;clear hL1
 go_wp2_with (first | refine aU ?_ | ((with_reducible refine gC 44 ?_);go_loud (refine lCall rfl rfl ((HCH.out b7 b5 _ _ q' Sr S0 S1 hQ _ hL).mono ?_) rfl);rintro e w1 ⟨rfl,d2,hNx,hs2,hq2,hL1⟩;clear hL;revert hL1;refine aE ?_;intro hL) | (refine aL3S6p ?_;clear hL;intro w1 hL))
 have hQ2:HoldQ Sr S0 S1 d2.s d2.q:=by rw [hs2,hq2];exact hQ
 have hL1:=Loc.rem b5 (Loc.rem b7 hL)
 all_goals (go_ret;first | exact ⟨rfl,d2,Sr,S0,S1,hNx,hs2,hQ2,hL1⟩ | exact ⟨rfl,d2,hNx,hs2,Sr,S0,S1,hQ2,hL1⟩)
set_option maxRecDepth 100000 in
set_option maxHeartbeats 1000000 in
theorem coRevoke_full (hF:CoM F bf bb bo bk kp a0 a1 cc) (d:Dv) (ok:d.Ok) (hlt:d.n<d.m) (hS:∀ x y z u c,SeeS w0 (F x y z u c) d.s d.q) (id:Int) (fg:Nat→BitVec 8) (hid:smallZ id) (hx:∀ i (h:i<d.s.rv.length),d.s.rv[i]<id)
 (h32:¬ d.s.rv.length<32) (hok:stopOk fr id fg=true) {p:Option Addr} {n c:Nat} (hv:∀ x y z u e,See w0 (F x y z u e) (.slice p n c) (encB (stopB id fg))) (hL:Loc w0 w (d.at F bf bb bo kp fr fs)) :
 Calls Tryz.prog 101 #[ptrV cc,.slice p n c] w fun e w' =>
  e= .returned (.int .i64 3)∧Loc w0 w' (d.at F bf bb bo kp fr fs):=by
 have hG:=hF.g;have hH:=hF.h
 have hA:=hF.a;have hU:=hF.u;have hB:=hF.b;have hV:=hF.v;have hO:=hF.o;have hPP:=hF.p;have hQ:=hF.q;have hRR:=hF.r;have hKK:=hF.k;have hll:=hF.l;have hmm:=hF.m
 have hmay:mayN id=true:=by unfold mayN;rw [decide_eq_true];exact hid
 have HRS:=Lib.hid (fun w1 (h:BRow w1 (.slice p n c) (stopB id fg))=>readStop_any id fg _ w1 hid.1 hid.2 h)
 have HCK:=Lib.hid (fun w1=>by have:=checkStop_any fr id fg w1 hmay;rw [hok] at this;exact this)
 have HRV:=Lib.hid (fun (b:Nat) (r:Array Value) w1 (h:Loc w0 w1 ((b,r,98) :: d.at F bf bb bo kp fr fs))=>by
  have:=revoked_any (F:=fun x y z u c=>(b,r,98) :: F x y z u c) (bf:=bf) (bb:=bb) (bo:=bo) (bk:=bk) (kp:=kp) (a0:=a0) (a1:=a1) (cc:=cc) (fr:=fr) (fs:=fs) inferInstance d ok id (fun x y z u c=>inferInstance) h
  rw [notin_of hx] at this
  exact this)
 have HNW:=Lib.hid (fun w1 (h:Loc w0 w1 (d.at F bf bb bo kp fr fs))=>revoke_new d.s d.q id w1 ((hS _ _ _ _ _).read h) ok.good hid hx)
 clear hS hmay hok hx ok hid
 obtain ⟨er,pr,y,f,nn,m,kpp,kn,kc,half,s,q,bt,rg⟩:=d
 dsimp only [Dv.at] at HRV HNW hL h32
 have HNX:=Lib.hid (fun w1 h=>(HNW.out w1 h).mono fun e w' hh=>hh.2 h32)
 clear HNW
 go_enter Tryz.func101,Tryz.ntmps101
 go_wp2_with (first | refine aU ?_ | ((with_reducible refine gS 5 ?_);refine aBp ?_;clear hL;intro b5 w1 hL) | ((with_reducible refine gC 10 ?_);go_loud (refine lCall rfl rfl ((HRS.out _ (See.bytes hL)).mono ?_) rfl);rintro e w1 ⟨rfl,hb1⟩;have hL1:=hL.keep hb1;clear hL;revert hL1;refine aE ?_;intro hL) | (refine aL3S6p ?_;clear hL;intro w1 hL))
 refine wp_region_mix (S:=fun w'=>Loc _ w' _) 8 (by kernel_rfl) (by kernel_rfl) (hL.drew) (fun hHeld=>?_)
 replace hL:=hL.drew
 refine tg 0 hHeld ?_
 refine p7 ?_
 refine tz 4 hHeld ?_
 refine p7 ?_
 refine tg 1 hHeld ?_
 refine p7 ?_
 refine tg 2 hHeld ?_
 refine p7 ?_
 refine tz 3 hHeld ?_
 refine p7 ?_
 refine wpAnyH_ready (rs:=[5]) (by kernel_rfl) (by simp) ((AllReadyH.cons rfl (fun K hK=>?_) AllReadyH.nil))
 rw [if_pos (by rfl)]
 refine eCall rfl (by simp only [List.map_toArray,List.map_cons,List.map_nil];rfl) ((HCK.out _).mono ?_)
 rintro e w1 ⟨rfl,hb1⟩;refine ⟨_,rfl,?_⟩;have hL1:=hL.keep hb1;clear hb1
 clear hL;have hL:=hL1;clear hL1
 refine hK.out _ _ (hL) (fun hHeld2=>?_)
 clear hK K hHeld;have hHeld:=hHeld2;clear hHeld2
 refine p7 ?_
 refine tg 6 hHeld ?_
 refine p7 ?_
 refine tg 7 hHeld ?_
 refine p7 ?_
 refine wpAnyH_done (by kernel_rfl) (NoPanic.normal ?_) _
 clear hHeld
 go_wp2_with (first | refine aU ?_ | ((with_reducible refine gC 28 ?_);go_loud (refine lCall rfl rfl ((HRV.out _ _ _ hL).mono ?_) rfl);rintro e w1 ⟨rfl,hL1⟩;clear hL;revert hL1;refine aE ?_;intro hL) | (refine aL3S6p ?_;clear hL;intro w1 hL))
 refine share (R:=?R) (fun hR=>?h1) ?h2
 case h1 =>
  refine wp_region_mix (S:=fun w'=>Loc _ w' _) 13 (by kernel_rfl) (by kernel_rfl) (hL.drew) (fun hHeld=>?_)
  replace hL:=hL.drew
  refine tg 0 hHeld ?_
  refine p7 ?_
  refine tg 4 hHeld ?_
  refine p7 ?_
  refine tg 1 hHeld ?_
  refine p7 ?_
  refine tz 5 hHeld ?_
  refine p7 ?_
  refine tg 2 hHeld ?_
  refine p7 ?_
  refine tz 3 hHeld ?_
  refine p7 ?_
  refine wpAnyH_ready (rs:=[6,10]) (by kernel_rfl) (by simp) ((AllReadyH.cons rfl (fun K hK=>?_) (AllReadyH.cons rfl (fun K hK=>?_) AllReadyH.nil)))
  ·rw [if_pos (by rfl)]
   refine eCall rfl (by simp only [List.map_toArray,List.map_cons,List.map_nil];rfl) ((HNX.out _ (by first | exact hL.pop | exact hL.pop.pop)).mono ?_)
   rintro e w1 ⟨rfl,hb1⟩;refine ⟨_,rfl,?_⟩;have hL1:=hL.keep hb1;clear hb1
   clear hL;have hL:=hL1;clear hL1
   refine hK.out _ _ (hL) (fun hHeld2=>?_)
   clear hK K hHeld;have hHeld:=hHeld2;clear hHeld2
   refine p7 ?_
   refine tg 7 hHeld ?_
   refine p7 ?_
   refine tg 8 hHeld ?_
   refine p7 ?_
   refine tg 9 hHeld ?_
   refine p7 ?_
   refine wpAnyH_ready (rs:=[10]) (by kernel_rfl) (by simp) ((AllReadyH.cons rfl (fun K hK=>?_) AllReadyH.nil))
   rw [if_pos (by rfl)]
   refine eA hL rfl fun b7 w1 hL1=>?_
   clear hL;have hL:=hL1;clear hL1
   refine hK.out _ _ (hL.pop) (fun hHeld2=>?_)
   clear hK K hHeld;have hHeld:=hHeld2;clear hHeld2
   refine p7 ?_
   refine wpAnyH_ready (rs:=[11]) (by kernel_rfl) (by simp) ((AllReadyH.cons rfl (fun K hK=>?_) AllReadyH.nil))
   rw [if_pos (by rfl)]
   refine eAny ?_;intro w1 hL1
   clear hL;have hL:=hL1;clear hL1
   refine hK.out _ _ (hL.pop) (fun hHeld2=>?_)
   clear hK K hHeld;have hHeld:=hHeld2;clear hHeld2
   refine p7 ?_
   refine tg 12 hHeld ?_
   refine p7 ?_
   refine wpAnyH_done (by kernel_rfl) (NoPanic.normal ?_) _
   clear hHeld
   first | (have hLp:=hL;clear hL;revert hLp;revert w1;revert b7;exact hR) | (have hLp:=hL.perm (List.Perm.swap _ _ _);clear hL;revert hLp;revert w1;revert b7;exact hR) | (have hLp:=hL.perm (List.Perm.cons _ (List.Perm.swap _ _ _));clear hL;revert hLp;revert w1;revert b7;exact hR) | (have hLp:=hL.perm (front3 _ _ _ _ _);clear hL;revert hLp;revert w1;revert b7;exact hR)
  ·rw [if_pos (by rfl)]
   refine eA hL rfl fun b7 w1 hL1=>?_
   clear hL;have hL:=hL1;clear hL1
   refine hK.out _ _ (hL.pop) (fun hHeld2=>?_)
   clear hK K hHeld;have hHeld:=hHeld2;clear hHeld2
   refine p7 ?_
   refine wpAnyH_ready (rs:=[6]) (by kernel_rfl) (by simp) ((AllReadyH.cons rfl (fun K hK=>?_) AllReadyH.nil))
   rw [if_pos (by rfl)]
   refine eCall rfl (by simp only [List.map_toArray,List.map_cons,List.map_nil];rfl) ((HNX.out _ (by first | exact hL.pop | exact hL.pop.pop)).mono ?_)
   rintro e w1 ⟨rfl,hb1⟩;refine ⟨_,rfl,?_⟩;have hL1:=hL.keep hb1;clear hb1
   clear hL;have hL:=hL1;clear hL1
   refine hK.out _ _ (hL.pop) (fun hHeld2=>?_)
   clear hK K hHeld;have hHeld:=hHeld2;clear hHeld2
   refine p7 ?_
   refine tg 7 hHeld ?_
   refine p7 ?_
   refine tg 8 hHeld ?_
   refine p7 ?_
   refine tg 9 hHeld ?_
   refine p7 ?_
   refine wpAnyH_ready (rs:=[11]) (by kernel_rfl) (by simp) ((AllReadyH.cons rfl (fun K hK=>?_) AllReadyH.nil))
   rw [if_pos (by rfl)]
   refine eAny ?_;intro w1 hL1
   clear hL;have hL:=hL1;clear hL1
   refine hK.out _ _ (hL.pop) (fun hHeld2=>?_)
   clear hK K hHeld;have hHeld:=hHeld2;clear hHeld2
   refine p7 ?_
   refine tg 12 hHeld ?_
   refine p7 ?_
   refine wpAnyH_done (by kernel_rfl) (NoPanic.normal ?_) _
   clear hHeld
   first | (have hLp:=hL;clear hL;revert hLp;revert w1;revert b7;exact hR) | (have hLp:=hL.perm (List.Perm.swap _ _ _);clear hL;revert hLp;revert w1;revert b7;exact hR) | (have hLp:=hL.perm (List.Perm.cons _ (List.Perm.swap _ _ _));clear hL;revert hLp;revert w1;revert b7;exact hR) | (have hLp:=hL.perm (front3 _ _ _ _ _);clear hL;revert hLp;revert w1;revert b7;exact hR)
 intro b7 w1 hL1
 clear hL;have hL:=hL1;clear hL1
 go_wp2_with (first | refine aU ?_ | (refine aL3S6p ?_;clear hL;intro w1 hL))
 all_goals (go_ret;exact ⟨rfl,Loc.rem b5 (Loc.rem b7 hL)⟩)
end
instance iCrv1:Ent 101:=Ent.of Tryz.func101 (by kernel_rfl) rfl
end Go.Proofs.YtoifhhljfaoejaaGreatDoor
