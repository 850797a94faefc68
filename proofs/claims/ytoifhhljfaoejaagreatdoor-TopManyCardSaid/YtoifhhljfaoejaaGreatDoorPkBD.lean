/-
  Lemmas of the law, part 30: the walks of the functions that it calls and the plain facts about them. No condition beyond those written.
-/
import Derived.Test.YtoifhhljfaoejaaGreatDoorPkAA
import Derived.Test.YtoifhhljfaoejaaGreatDoorPkBC
import Derived.Test.YtoifhhljfaoejaaGreatDoorPkAT
import Derived.Test.YtoifhhljfaoejaaGreatDoorPkAK
import Derived.Test.YtoifhhljfaoejaaGreatDoorPkAR
import Derived.Laws.Cover3
namespace Go.Proofs.YtoifhhljfaoejaaGreatDoor
open Go Go.RowKit
set_option linter.unusedVariables false
set_option linter.unusedSimpArgs false
theorem brows_of {w:World} {v:Value} {vs:List Value} {ms:List (List (BitVec 8))} (h:VRow w v vs) (hl:vs.length=ms.length) (hb:∀ (i:Nat) (h1:i<vs.length) (h2:i<ms.length),BRow w vs[i] ms[i]):BRows w v ms:=by
 obtain ⟨_,a,c,rfl,hn,hp⟩:=h
 refine ⟨a,c,by rw [hl],hn,fun h0=>?_⟩
 obtain ⟨b,off,e,hlt,hc⟩:=hp (by omega)
 exact ⟨b,off,e,hlt,fun i hi=>⟨vs[i],hc i (by omega),hb i (by omega) hi⟩⟩
theorem vrow_of {w:World} {v:Value} {ms:List (List (BitVec 8))} (h:BRows w v ms):∃ vs,VRow w v vs∧vs.length=ms.length∧∀ (i:Nat) (h1:i<vs.length) (h2:i<ms.length),BRow w vs[i] ms[i]:=by
 obtain ⟨a,c,rfl,hn,hp⟩:=h
 by_cases h0:0<ms.length
 ·obtain ⟨b,off,e,hlt,hc⟩:=hp h0
  refine ⟨List.ofFn fun i:Fin ms.length=>Classical.choose (hc i.1 i.2),⟨?_,a,c,by rw [List.length_ofFn],hn,fun h1=>⟨b,off,e,hlt,fun i hi=>?_⟩⟩,List.length_ofFn,fun i h1 h2=>?_⟩
  ·intro u hu
   obtain ⟨i,rfl⟩:=(List.mem_ofFn ..).1 hu
   obtain ⟨_,_,e2,_⟩:=(Classical.choose_spec (hc i.1 i.2)).2
   rw [e2];rfl
  ·rw [List.length_ofFn] at hi
   rw [List.getElem_ofFn]
   exact (Classical.choose_spec (hc i hi)).1
  ·rw [List.getElem_ofFn]
   exact (Classical.choose_spec (hc i h2)).2
 ·have:ms=[]:=List.eq_nil_of_length_eq_zero (by omega)
  subst this
  exact ⟨[],⟨fun u hu=>(List.not_mem_nil hu).elim,a,c,rfl,hn,fun h=>absurd h (by simp)⟩,rfl,fun i h1 _=>absurd h1 (by simp)⟩
section
variable {ops:Array Oper} {rest:List Oper} {o:Oper} {a:Act} {w0 w:World} {M M':Mem} {Q:Exit→Act→World→Prop}
theorem lAppX (hL:Loc w0 w M) (hg:o.guard=none) {s x:Operand} {t e:TypeId} (ho:o.op= .call { callee:= .builtin .append,args:= #[s,x],argTypes:= #[t,t] }) [he:Elt t e]
 {p0:Option Addr} {n:Nat} (hs:a.eval s= .slice p0 n n) {xs:List Value} [hxs:See w0 M (.slice p0 n n) xs] (hn0:0<n)
 {p:Option Addr} {k cc:Nat} (hx:a.eval x= .slice p k cc) {ys:List Value} [hy:See w0 M (.slice p k cc) ys] (h0:0<k) (hsz:n+k≤100000000000)
 (h:∀ g' cap' cur' w',OwnR cur' (n+k) cap' (xs ++ ys)→Loc w0 w' ((g',cur',e) :: M)→wpList Tryz.prog ops Q rest (a.put o.dst (.slice (some ⟨g',0,none⟩) (n+k) cap')) w'):wpList Tryz.prog ops Q (o :: rest) a w :=
 wpList_plain hg fun K hK=>by
  obtain rfl:=hy.len hL
  obtain rfl:=hxs.len hL
  obtain ⟨i,z,hi,hz,hs1,hb,hzs⟩:=he.info
  obtain ⟨hx1,a1,c1,e1,_,hp1⟩:=hxs.see w hL
  obtain ⟨hy1,a2,c2,e2,_,hp2⟩:=hy.see w hL
  cases e1
  cases e2
  obtain ⟨b1,o1,rfl,_,hc1⟩:=hp1 hn0
  obtain ⟨b2,o2,rfl,_,hc2⟩:=hp2 h0
  have cell:∀ (l:List Value) (b o:Nat),(∀ (i:Nat) (h:i<l.length),w.cell? ⟨b,o+i,none⟩=some l[i])→∀ (j:Nat) (u:Value),l[j]?=some u→w.cell? ((⟨b,o,none⟩:Addr).add j)=some u:=fun l b o hc j u hj=>by
   have hjl:j<l.length:=by
    rcases Nat.lt_or_ge j l.length with h | h
    ·exact h
    ·rw [List.getElem?_eq_none h] at hj;cases hj
   rw [Addr.add_mid,hc j hjl,← hj,List.getElem?_eq_getElem hjl]
  have hrun:=run_append_grow (P:=Tryz.prog) w t o.type e i z he.und hi hz ⟨b1,o1,none⟩ xs.length xs.length xs (by rw [hs1,Nat.mul_one]) (cell _ _ _ hc1) ⟨b2,o2,none⟩ ys.length cc ys (by rw [hs1,Nat.mul_one]) (cell _ _ _ hc2) (by omega) (by omega)
   (growslice_fits (by omega) (Nat.le_trans (Nat.mul_le_mul_left _ hb) (by omega)))
  have hge:=grownCap_ge w (xs.length+ys.length) xs.length e
  have key:∃ g' cap' cur' w',(Builtin.append_ #[t,t] o.type #[.slice (some ⟨b1,o1,none⟩) xs.length xs.length,.slice (some ⟨b2,o2,none⟩) ys.length cc]).run Tryz.prog w= .ok (.slice (some ⟨g',0,none⟩) (xs.length+ys.length) cap') w' ∧
   OwnR cur' (xs.length+ys.length) cap' (xs ++ ys)∧Below w.heap.size w w'∧w'.heap[g']?=some (.cells cur' e (0,0))∧w.heap.size≤g':=by
   refine ⟨_,_,_,_,hrun,⟨by rw [List.length_append],fun u hu=>?_,?_,hge,grownCap_le_maxLen w _ _ e (by unfold maxLen;omega),?_⟩,⟨rfl,rfl,rfl,by simp,fun k hk=>heap_alloc_old w.drew _ hk⟩,heap_alloc_new w.drew _,Nat.le_refl _⟩
   ·rcases List.mem_append.1 hu with h | h
    ·exact hx1 u h
    ·exact hy1 u h
   ·simp only [Array.size_append,List.size_toArray,size_zeroCells,hzs]
    omega
   ·have:xs.length+ys.length=(xs ++ ys).length:=by rw [List.length_append]
    rw [this]
    simp only [Array.toList_append,List.append_assoc]
    rw [← List.append_assoc]
    exact List.take_left
  obtain ⟨g',cap',cur',w',hrun2,h1,h2,h3,h4⟩:=key
  unfold Oper.wp execOp
  simp only [ho,resolve,invoke,builtin,Sem.run_bind,Sem.run_pure,Result.andThen_ok,List.map_toArray,List.map_cons,List.map_nil,hs,hx,hrun2]
  exact hK _ _ (h g' cap' cur' w' h1 (hL.fresh h2 h4 h3))
end
set_option maxRecDepth 100000 in
set_option maxHeartbeats 1000000 in
theorem csum_any (vb:Value) (pa:Option Addr) (ls ms:List (List (BitVec 8))) (w:World) (hb:BRows w vb ms) (ha:BRows w (.slice pa ls.length ls.length) ls) (ha0:0<ls.length) (hm0:0<ms.length) (hl:ls.length+ms.length≤1000000) (hm:(ls ++ ms).flatten.length≤1000000000) :
 Calls Tryz.prog 247 #[vb,.slice pa ls.length ls.length] w fun e w'=>e= .returned (.agg (rowB 32 (byteN (wideN (ls ++ ms).flatten))))∧Below w.heap.size w w':=by
 have hL:=Loc.nil w
 obtain ⟨xs,hx,hxl,hxb⟩:=vrow_of ha
 obtain ⟨ys,hy,hyl,hyb⟩:=vrow_of hb
 haveI a1:Arg w (.slice pa ls.length ls.length) xs:=⟨hx⟩
 haveI a2:Arg w vb ys:=⟨hy⟩
 have HB:=Lib.hid (fun (i:Nat) (h1:i<(xs ++ ys).length) (h2:i<(ls ++ ms).length)=>show BRow w (xs ++ ys)[i] (ls ++ ms)[i] from by
  by_cases hi:i<xs.length
  ·rw [List.getElem_append_left hi,List.getElem_append_left (by omega)]
   exact hxb i hi (by omega)
  ·rw [List.getElem_append_right (by omega),List.getElem_append_right (by omega)]
   simp only [← hxl]
   exact hyb _ _ _)
 have HLEN:=Lib.hid (show (xs ++ ys).length=(ls ++ ms).length from by rw [List.length_append,List.length_append,hxl,hyl])
 have hkl:ls.length+ms.length=(ls ++ ms).length:=List.length_append.symm
 obtain ⟨pb,cb,rfl,hbn,hbp⟩:=hb
 clear hbn hbp
 generalize ls ++ ms=fl at *
 clear hx hxb hxl hy hyb hyl ha
 generalize hal:ls.length=na at *
 generalize hml:ms.length=nm at *
 clear hal
 have HSUM:=Lib.hid (fun w1 (u:Value) (hu:BRows w1 u fl)=>Shb.sum_any u fl w1 hu (by omega) hm)
 generalize fl.flatten=fm at *
 have HKL:=Lib.hid hkl
 clear hkl hml
 go_enter Tryz.func247,Tryz.ntmps247
 go_wp2_with (first | ((with_reducible refine gS 4 ?_);refine aBp ?_;clear hL;intro b4 w1 hL) | ((with_reducible refine gC 8 ?_);go_loud (refine lAppX hL rfl rfl rfl ha0 rfl hm0 (by omega) fun g8 cap8 cur8 w1 hr8 hL1=>?_);clear hL;have hL:=hL1;clear hL1) | (go_at_call 280;go_loud (refine (HSUM.out _ _ (brows_of (See.see (ys:=xs ++ ys) _ hL) HLEN.out fun i h1 h2=>(HB.out i h1 h2).below hL.bel)).mono ?_);rintro e w1 ⟨rfl,hb1⟩;have hL1:=hL.keep hb1;clear hb1;clear hL;have hL:=hL1;clear hL1;refine p4 ?_) | (go_at_call 281;go_loud (refine ((Reduce_any (Shb.sha fm) 64 64 _ _ (by omega) (by omega) fun i hi=>R3.was_loc hL (List.Mem.head _) (row_get _ hi))).mono ?_);rintro e w1 ⟨rfl,hb1⟩;have hL1:=hL.keep hb1;clear hb1;clear hL;have hL:=hL1;clear hL1;refine p4 ?_) | (refine aL4S2C9p ?_;clear hL;intro w1 hL) | (refine aX1A1p ?_;clear hL;intro b w1 hL))
 exact bodyPost_ret (results_loc rfl hL rfl) rfl ⟨rfl,hL.bel⟩
end Go.Proofs.YtoifhhljfaoejaaGreatDoor
namespace Go.Proofs.YtoifhhljfaoejaaGreatDoor
open Go Go.RowKit
set_option linter.unusedVariables false
set_option linter.unusedSimpArgs false
theorem byteN_inj {x y:Nat} (hx:x<2 ^ 256) (hy:y<2 ^ 256) (h:∀ i,i<32→byteN x i=byteN y i):x=y:=by
 have e:leN (byteN x)=leN (byteN y):=by
  have:∀ k,k≤32→leK (byteN x) k=leK (byteN y) k:=fun k=>by
   induction k with
   | zero=>intro _;rfl
   | succ k ih=>intro hk;show leK _ k+_=leK _ k+_;rw [ih (by omega),h k (by omega)]
  exact this 32 (by omega)
 rwa [leN_byteN hx,leN_byteN hy] at e
theorem eqv_num (x y:Nat) (hx:x<2 ^ 256) (hy:y<2 ^ 256):EqV 24 (rowB 32 (byteN x)) (rowB 32 (byteN y)) (decide (x=y)) :=
 eqv_row (fun i=>B8 (byteN x i)) (fun i=>B8 (byteN y i)) Tryz.underlying24 (by kernel_rfl) Tryz.underlying5 (fun w=>by kernel_rfl)
  (fun r s x y w=>run_eqGuard_agg _ _ _ _ _ _ _ (by kernel_rfl)) (fun r s x y w=>run_eqGuard_agg _ _ _ _ _ _ _ (by kernel_rfl)) (by
   rw [Bool.eq_iff_iff,eqN_iff,decide_eq_true_iff]
   constructor
   ·intro h
    refine byteN_inj hx hy fun i hi=>BitVec.eq_of_toNat_eq ?_
    have:=h i hi
    unfold B8 at this
    exact Int.ofNat_inj.1 this
   ·intro h i _;rw [h])
theorem exbytes_lt (e:Ex):exbytes e<2 ^ 256:=by
 unfold exbytes
 have h1:=Nat.lt_trans (e.y*inv e.z).isLt P_255
 have h2:(2:Nat) ^ 256=2*2 ^ 255:=by decide +kernel
 have h3:(e.x*inv e.z).val % 2<2:=Nat.mod_lt _ (by omega)
 have h4:2 ^ 255*((e.x*inv e.z).val % 2)≤2 ^ 255*1:=Nat.mul_le_mul_left _ (by omega)
 generalize (2:Nat) ^ 255=E at *
 omega
theorem checkN_cases (key at_ s:Nat) (m:List (BitVec 8)):(exread at_=none→checkN key at_ s m=false)∧(exread key=none→checkN key at_ s m=false)∧(¬ s<Qo→checkN key at_ s m=false) ∧
 ∀ r a,exread at_=some r→exread key=some a→s<Qo→checkN key at_ s m=decide (exbytes (extimes exB s)=exbytes (exadd r (extimes a (sigK key at_ m)))):=by
 refine ⟨fun h=>?_,fun h=>?_,fun h=>?_,fun r a h1 h2 h=>?_⟩
 ·unfold checkN;rw [h]
 ·unfold checkN;rw [h];cases exread at_ <;> rfl
 ·unfold checkN
  cases exread at_ with
  | none=>rfl
  | some r =>
   cases exread key with
   | none=>rfl
   | some a=>simp only [h,decide_false,Bool.false_and]
 ·unfold checkN
  rw [h1,h2]
  simp only [h,decide_true,Bool.true_and]
theorem bytesL_leN (f:Nat→BitVec 8):bytesL (leN f)=listB 32 f:=by
 unfold bytesL numL listB
 exact List.map_congr_left fun i hi=>byteN_leN f (List.mem_range.1 hi)
theorem arr_num (a:Option Addr) (c:Nat) (w:World):(Instr.arrayAt 24 (.slice a 32 c)).run Tryz.prog w= .ok (.pointer a) w:=run_arrayAt (P:=Tryz.prog) (w:=w) 24 5 32 a 32 c Tryz.underlying24 (Nat.le_refl _)
instance iVer1:Ent 247:=Ent.of Tryz.func247 (by kernel_rfl) rfl
set_option maxRecDepth 100000 in
set_option maxHeartbeats 4000000 in
theorem verify_any (fk fs:Nat→BitVec 8) (vb:Value) (ms:List (List (BitVec 8))) (w:World) (hb:BRows w vb ms) (hm0:0<ms.length) (hl:ms.length≤1000) (hm:ms.flatten.length≤1000000) :
 Calls Tryz.prog 210 #[.agg (rowB 32 fk),.agg (rowB 64 fs),vb] w fun e w'=>e= .returned (.bool (checkN (leN fk) (leN fs) (leN fun i=>fs (32+i)) ms.flatten))∧Below w.heap.size w w':=by
 have hL:=Loc.nil w
 have harr:=arr_num
 haveI p1:Part (rowB 64 fs) 75 0 24 (rowB 32 fs):=part_row (by omega) fun i hi=>by rw [Nat.zero_add]
 haveI p2:Part (rowB 64 fs) 75 32 24 (rowB 32 fun i=>fs (32+i)):=part_row (by omega) fun i hi=>rfl
 obtain ⟨fs2,hfs2⟩:∃ fs2:Nat→BitVec 8,fs2=fun i=>fs (32+i):=⟨_,rfl⟩
 rw [← hfs2] at p2 ⊢
 clear hfs2
 obtain ⟨c1,c2,c3,c4⟩:=checkN_cases (leN fk) (leN fs) (leN fs2) ms.flatten
 haveI r1:FnC 245 #[.agg (rowB 32 fs)] (.tuple #[.agg (rowO (exread (leN fs))),.bool (exread (leN fs)).isSome]):=inferInstance
 haveI r2:FnC 245 #[.agg (rowB 32 fk)] (.tuple #[.agg (rowO (exread (leN fk))),.bool (exread (leN fk)).isSome]):=inferInstance
 haveI r3:FnC 246 #[.agg (rowB 32 fs2)] (.bool (decide (leN fs2<Qo))):=inferInstance
 have HS:=Lib.hid (fun w1 (hb1:Below w.heap.size w w1) (pa:Option Addr) (ha:BRows w1 (.slice pa 2 2) [listB 32 fs,listB 32 fk])=>csum_any vb pa [listB 32 fs,listB 32 fk] ms w1 (hb.below hb1) ha (by simp) hm0 (by simp;omega) (by simp [listB_length];simp at hm;omega))
 have hk:wideN ([listB 32 fs,listB 32 fk] ++ ms).flatten=sigK (leN fk) (leN fs) ms.flatten:=by
  unfold sigK
  rw [bytesL_leN,bytesL_leN]
  simp
 rw [hk] at HS
 haveI t1:FnC 249 #[.agg (rowE exB),.agg (rowB 32 fs2)] (.agg (rowE (extimes exB (leN fs2)))):=inferInstance
 have HT:=Lib.hid (fun (p:Ex)=>show FnC 249 #[.agg (rowE p),.agg (rowB 32 (byteN (sigK (leN fk) (leN fs) ms.flatten)))] (.agg (rowE (extimes p (sigK (leN fk) (leN fs) ms.flatten)))) from by
  have h:=times_pt p (byteN (sigK (leN fk) (leN fs) ms.flatten))
  rw [leN_byteN (sigK_lt _ _ _)] at h
  exact ⟨h⟩)
 generalize checkN (leN fk) (leN fs) (leN fs2) ms.flatten=out at *
 generalize sigK (leN fk) (leN fs) ms.flatten=kk at *
 generalize exread (leN fs)=R at *
 generalize exread (leN fk)=A at *
 generalize leN fs2=s at *
 clear hk hm hl hm0
 have HBB:=Lib.hid hb
 obtain ⟨pb,cb,rfl,hbn,hbp⟩:=hb
 clear hbn hbp HBB
 cases R with
 | none =>
  rw [c1 rfl]
  rw [rowO_none] at r1
  clear c1 c2 c3 c4
  cases A with
  | none =>
   rw [rowO_none] at r2
   go_enter Tryz.func210,Tryz.ntmps210
   go_wp2_with (first | ((with_reducible refine gS 3 ?_);refine aBp ?_;clear hL;intro b3 w1 hL) | ((with_reducible refine gS 4 ?_);refine aBp ?_;clear hL;intro b4 w1 hL) | ((with_reducible refine gS 7 ?_);refine aBp ?_;clear hL;intro b7 w1 hL) | ((with_reducible refine gS 8 ?_);refine aBp ?_;clear hL;intro b8 w1 hL) | ((with_reducible refine gS 10 ?_);refine aBp ?_;clear hL;intro b10 w1 hL) | refine aV ?_ | (refine aL4S2C9p ?_;clear hL;intro w1 hL) | (refine aX1A1p ?_;clear hL;intro b w1 hL))
   go_ret
   exact ⟨rfl,hL.bel⟩
  | some a =>
   rw [rowO_some] at r2
   go_enter Tryz.func210,Tryz.ntmps210
   go_wp2_with (first | ((with_reducible refine gS 3 ?_);refine aBp ?_;clear hL;intro b3 w1 hL) | ((with_reducible refine gS 4 ?_);refine aBp ?_;clear hL;intro b4 w1 hL) | ((with_reducible refine gS 7 ?_);refine aBp ?_;clear hL;intro b7 w1 hL) | ((with_reducible refine gS 8 ?_);refine aBp ?_;clear hL;intro b8 w1 hL) | ((with_reducible refine gS 10 ?_);refine aBp ?_;clear hL;intro b10 w1 hL) | refine aV ?_ | (refine aL4S2C9p ?_;clear hL;intro w1 hL) | (refine aX1A1p ?_;clear hL;intro b w1 hL))
   go_ret
   exact ⟨rfl,hL.bel⟩
 | some r =>
  rw [rowO_some] at r1
  cases A with
  | none =>
   rw [c2 rfl]
   rw [rowO_none] at r2
   clear c1 c2 c3 c4
   go_enter Tryz.func210,Tryz.ntmps210
   go_wp2_with (first | ((with_reducible refine gS 3 ?_);refine aBp ?_;clear hL;intro b3 w1 hL) | ((with_reducible refine gS 4 ?_);refine aBp ?_;clear hL;intro b4 w1 hL) | ((with_reducible refine gS 7 ?_);refine aBp ?_;clear hL;intro b7 w1 hL) | ((with_reducible refine gS 8 ?_);refine aBp ?_;clear hL;intro b8 w1 hL) | ((with_reducible refine gS 10 ?_);refine aBp ?_;clear hL;intro b10 w1 hL) | refine aV ?_ | (refine aL4S2C9p ?_;clear hL;intro w1 hL) | (refine aX1A1p ?_;clear hL;intro b w1 hL))
   go_ret
   exact ⟨rfl,hL.bel⟩
  | some a =>
   rw [rowO_some] at r2
   by_cases hs:s<Qo
   ·rw [c4 r a rfl rfl hs]
    rw [decide_eq_true hs] at r3
    haveI t2:=HT.out a
    haveI eq1:=eqv_num (exbytes (extimes exB s)) (exbytes (exadd r (extimes a kk))) (exbytes_lt _) (exbytes_lt _)
    generalize decide (exbytes (extimes exB s)=exbytes (exadd r (extimes a kk)))=res at *
    clear c1 c2 c3 c4 hs
    go_enter Tryz.func210,Tryz.ntmps210
    go_wp2_with (first | ((with_reducible refine gS 3 ?_);refine aBp ?_;clear hL;intro b3 w1 hL) | ((with_reducible refine gS 4 ?_);refine aBp ?_;clear hL;intro b4 w1 hL) | ((with_reducible refine gS 7 ?_);refine aBp ?_;clear hL;intro b7 w1 hL) | ((with_reducible refine gS 8 ?_);refine aBp ?_;clear hL;intro b8 w1 hL) | ((with_reducible refine gS 10 ?_);refine aBp ?_;clear hL;intro b10 w1 hL) | refine aV ?_ | (refine aL4S2C9p ?_;clear hL;intro w1 hL) | (refine aX1A1p ?_;clear hL;intro b w1 hL))
    have s0:Seg (rowB 64 fs) 0 32 (encB (listB 32 fun i=>fs (0+i))):=segB fs 0 32 (by omega)
    simp only [Nat.zero_add] at s0
    haveI s1:Seg (rowB 64 fs) 0 32 (encB (listB 32 fs)):=s0
    clear s0
    refine share (R:=?R) (fun hR=>?h1) ?h2
    case h1 =>
     refine wp_region_mix (S:=fun w'=>Loc w w' _) 7 (by kernel_rfl) (by kernel_rfl) (hL.drew) (fun hHeld=>?_)
     replace hL:=hL.drew
     refine tk 0 (v:=?_) rfl (Or.inl ⟨by rfl,?_⟩) hHeld ?_
     rotate_left
     ·(intro w hSw;go_simp;first | done | with_reducible rfl)
     refine p7 ?_
     refine tk 1 (v:=?_) rfl (Or.inl ⟨by rfl,?_⟩) hHeld ?_
     rotate_left
     ·(intro w hSw;go_simp;first | done | with_reducible rfl)
     refine p7 ?_
     refine tk 2 (v:=?_) rfl (Or.inl ⟨by rfl,?_⟩) hHeld ?_
     rotate_left
     ·(intro w hSw;go_simp;first | done | with_reducible rfl)
     refine p7 ?_
     refine wpAnyH_ready (rs:=[3,5]) (by kernel_rfl) (by simp) ((AllReadyH.cons rfl (fun K hK=>?_) (AllReadyH.cons rfl (fun K hK=>?_) AllReadyH.nil)))
     ·rw [if_pos (by rfl)]
      first | refine eBS1i hL rfl rfl fun b42 w1 hL1=>?_ | refine eBS1s hL rfl rfl fun b42 w1 hL1=>?_ | refine eBS2s hL rfl rfl rfl fun b42 w1 hL1=>?_ | refine eBS3s hL rfl rfl rfl rfl fun b42 w1 hL1=>?_
      clear hL;have hL:=hL1;clear hL1
      refine hK.out _ _ (hL.pop) (fun hHeld2=>?_)
      clear hK K hHeld
      have hHeld:=hHeld2
      clear hHeld2
      refine p7 ?_
      refine wpAnyH_ready (rs:=[4,5]) (by kernel_rfl) (by simp) ((AllReadyH.cons rfl (fun K hK=>?_) (AllReadyH.cons rfl (fun K hK=>?_) AllReadyH.nil)))
      ·rw [if_pos (by rfl)]
       refine eCall rfl (by simp only [List.map_toArray,List.map_cons,List.map_nil];rfl) ((HS.out _ hL.bel _ (brows_two (hL.at_ b42) (See.bytes hL) (See.bytes hL))).mono ?_)
       rintro e w1 ⟨rfl,hb1⟩;refine ⟨_,rfl,?_⟩;have hL1:=hL.keep hb1;clear hb1
       clear hL;have hL:=hL1;clear hL1
       refine hK.out _ _ (hL.pop) (fun hHeld2=>?_)
       clear hK K hHeld
       have hHeld:=hHeld2
       clear hHeld2
       refine p7 ?_
       refine wpAnyH_ready (rs:=[5]) (by kernel_rfl) (by simp) ((AllReadyH.cons rfl (fun K hK=>?_) AllReadyH.nil))
       rw [if_pos (by rfl)]
       refine eA hL rfl fun b12 w1 hL1=>?_
       clear hL;have hL:=hL1;clear hL1
       refine hK.out _ _ (hL.pop.pop) (fun hHeld2=>?_)
       clear hK K hHeld
       have hHeld:=hHeld2
       clear hHeld2
       refine p7 ?_
       refine wpAnyH_ready (rs:=[6]) (by kernel_rfl) (by simp) ((AllReadyH.cons rfl (fun K hK=>?_) AllReadyH.nil))
       rw [if_pos (by rfl)]
       refine eS hL rfl rfl rfl fun w1 hL1=>?_
       clear hL;have hL:=hL1;clear hL1
       refine hK.out _ _ (hL.pop.pop) (fun hHeld2=>?_)
       clear hK K hHeld
       have hHeld:=hHeld2
       clear hHeld2
       refine p7 ?_
       refine wpAnyH_done (by kernel_rfl) (NoPanic.normal ?_) _
       clear hHeld
       first | (have hLp:=hL;clear hL;revert hLp;revert w1;revert b42;revert b12;exact hR) | (have hLp:=hL.perm (List.Perm.swap _ _ _);clear hL;revert hLp;revert w1;revert b42;revert b12;exact hR) | (have hLp:=hL.perm (List.Perm.cons _ (List.Perm.swap _ _ _));clear hL;revert hLp;revert w1;revert b42;revert b12;exact hR) | (have hLp:=hL.perm ((List.Perm.swap _ _ _).trans (List.Perm.cons _ (List.Perm.swap _ _ _)));clear hL;revert hLp;revert w1;revert b42;revert b12;exact hR) | (have hLp:=hL.perm ((List.Perm.cons _ (List.Perm.swap _ _ _)).trans (List.Perm.swap _ _ _));clear hL;revert hLp;revert w1;revert b42;revert b12;exact hR) | (have hLp:=hL.perm (((List.Perm.swap _ _ _).trans (List.Perm.cons _ (List.Perm.swap _ _ _))).trans (List.Perm.swap _ _ _));clear hL;revert hLp;revert w1;revert b42;revert b12;exact hR)
      ·rw [if_pos (by rfl)]
       refine eA hL rfl fun b12 w1 hL1=>?_
       clear hL;have hL:=hL1;clear hL1
       refine hK.out _ _ (hL.pop.pop) (fun hHeld2=>?_)
       clear hK K hHeld
       have hHeld:=hHeld2
       clear hHeld2
       refine p7 ?_
       refine wpAnyH_ready (rs:=[4]) (by kernel_rfl) (by simp) ((AllReadyH.cons rfl (fun K hK=>?_) AllReadyH.nil))
       rw [if_pos (by rfl)]
       refine eCall rfl (by simp only [List.map_toArray,List.map_cons,List.map_nil];rfl) ((HS.out _ hL.bel _ (brows_two (hL.at_ b42) (See.bytes hL) (See.bytes hL))).mono ?_)
       rintro e w1 ⟨rfl,hb1⟩;refine ⟨_,rfl,?_⟩;have hL1:=hL.keep hb1;clear hb1
       clear hL;have hL:=hL1;clear hL1
       refine hK.out _ _ (hL.pop.pop) (fun hHeld2=>?_)
       clear hK K hHeld
       have hHeld:=hHeld2
       clear hHeld2
       refine p7 ?_
       refine wpAnyH_ready (rs:=[6]) (by kernel_rfl) (by simp) ((AllReadyH.cons rfl (fun K hK=>?_) AllReadyH.nil))
       rw [if_pos (by rfl)]
       refine eS hL rfl rfl rfl fun w1 hL1=>?_
       clear hL;have hL:=hL1;clear hL1
       refine hK.out _ _ (hL.pop.pop) (fun hHeld2=>?_)
       clear hK K hHeld
       have hHeld:=hHeld2
       clear hHeld2
       refine p7 ?_
       refine wpAnyH_done (by kernel_rfl) (NoPanic.normal ?_) _
       clear hHeld
       first | (have hLp:=hL;clear hL;revert hLp;revert w1;revert b42;revert b12;exact hR) | (have hLp:=hL.perm (List.Perm.swap _ _ _);clear hL;revert hLp;revert w1;revert b42;revert b12;exact hR) | (have hLp:=hL.perm (List.Perm.cons _ (List.Perm.swap _ _ _));clear hL;revert hLp;revert w1;revert b42;revert b12;exact hR) | (have hLp:=hL.perm ((List.Perm.swap _ _ _).trans (List.Perm.cons _ (List.Perm.swap _ _ _)));clear hL;revert hLp;revert w1;revert b42;revert b12;exact hR) | (have hLp:=hL.perm ((List.Perm.cons _ (List.Perm.swap _ _ _)).trans (List.Perm.swap _ _ _));clear hL;revert hLp;revert w1;revert b42;revert b12;exact hR) | (have hLp:=hL.perm (((List.Perm.swap _ _ _).trans (List.Perm.cons _ (List.Perm.swap _ _ _))).trans (List.Perm.swap _ _ _));clear hL;revert hLp;revert w1;revert b42;revert b12;exact hR)
     ·rw [if_pos (by rfl)]
      refine eA hL rfl fun b12 w1 hL1=>?_
      clear hL;have hL:=hL1;clear hL1
      refine hK.out _ _ (hL.pop) (fun hHeld2=>?_)
      clear hK K hHeld
      have hHeld:=hHeld2
      clear hHeld2
      refine p7 ?_
      refine wpAnyH_ready (rs:=[3]) (by kernel_rfl) (by simp) ((AllReadyH.cons rfl (fun K hK=>?_) AllReadyH.nil))
      rw [if_pos (by rfl)]
      first | refine eBS1i hL rfl rfl fun b42 w1 hL1=>?_ | refine eBS1s hL rfl rfl fun b42 w1 hL1=>?_ | refine eBS2s hL rfl rfl rfl fun b42 w1 hL1=>?_ | refine eBS3s hL rfl rfl rfl rfl fun b42 w1 hL1=>?_
      clear hL;have hL:=hL1;clear hL1
      refine hK.out _ _ (hL.pop.pop) (fun hHeld2=>?_)
      clear hK K hHeld
      have hHeld:=hHeld2
      clear hHeld2
      refine p7 ?_
      refine wpAnyH_ready (rs:=[4]) (by kernel_rfl) (by simp) ((AllReadyH.cons rfl (fun K hK=>?_) AllReadyH.nil))
      rw [if_pos (by rfl)]
      refine eCall rfl (by simp only [List.map_toArray,List.map_cons,List.map_nil];rfl) ((HS.out _ hL.bel _ (brows_two (hL.at_ b42) (See.bytes hL) (See.bytes hL))).mono ?_)
      rintro e w1 ⟨rfl,hb1⟩;refine ⟨_,rfl,?_⟩;have hL1:=hL.keep hb1;clear hb1
      clear hL;have hL:=hL1;clear hL1
      refine hK.out _ _ (hL.pop.pop) (fun hHeld2=>?_)
      clear hK K hHeld
      have hHeld:=hHeld2
      clear hHeld2
      refine p7 ?_
      refine wpAnyH_ready (rs:=[6]) (by kernel_rfl) (by simp) ((AllReadyH.cons rfl (fun K hK=>?_) AllReadyH.nil))
      rw [if_pos (by rfl)]
      refine eS hL rfl rfl rfl fun w1 hL1=>?_
      clear hL;have hL:=hL1;clear hL1
      refine hK.out _ _ (hL.pop.pop) (fun hHeld2=>?_)
      clear hK K hHeld
      have hHeld:=hHeld2
      clear hHeld2
      refine p7 ?_
      refine wpAnyH_done (by kernel_rfl) (NoPanic.normal ?_) _
      clear hHeld
      first | (have hLp:=hL;clear hL;revert hLp;revert w1;revert b42;revert b12;exact hR) | (have hLp:=hL.perm (List.Perm.swap _ _ _);clear hL;revert hLp;revert w1;revert b42;revert b12;exact hR) | (have hLp:=hL.perm (List.Perm.cons _ (List.Perm.swap _ _ _));clear hL;revert hLp;revert w1;revert b42;revert b12;exact hR) | (have hLp:=hL.perm ((List.Perm.swap _ _ _).trans (List.Perm.cons _ (List.Perm.swap _ _ _)));clear hL;revert hLp;revert w1;revert b42;revert b12;exact hR) | (have hLp:=hL.perm ((List.Perm.cons _ (List.Perm.swap _ _ _)).trans (List.Perm.swap _ _ _));clear hL;revert hLp;revert w1;revert b42;revert b12;exact hR) | (have hLp:=hL.perm (((List.Perm.swap _ _ _).trans (List.Perm.cons _ (List.Perm.swap _ _ _))).trans (List.Perm.swap _ _ _));clear hL;revert hLp;revert w1;revert b42;revert b12;exact hR)
    intro b12 b42 w1 hL1
    clear hL;have hL:=hL1;clear hL1
    go_wp2_with (first | (refine aL4S2C9p ?_;clear hL;intro w1 hL) | (refine aX1A1p ?_;clear hL;intro b w1 hL))
    refine wp_region_free [(0,false),(1,false),(2,false),(3,false),(4,false),(5,false),(6,false),(7,false),(8,false),(9,false),(10,true),(11,true)] [] [] (by kernel_rfl) (by kernel_rfl) trivial hL ?_
    refine pF ?_
    repeat (first | ((with_reducible show seqO _ _ _ (_ :: _) _ _);refine sQ rfl rfl rfl rfl ?_;refine p4 ?_) | refine rS ?_)
    refine seqO_nil ?_
    refine seqM_nil fun w1 hL1=>?_
    simp only [List.cons_append,List.nil_append] at hL1
    clear hL;have hL:=hL1;clear hL1
    refine p4 ?_
    refine wpList_nil (NoPanic.normal ?_)
    go_wp2_with fail
    go_ret
    exact ⟨rfl,hL.bel⟩
   ·rw [c3 hs]
    rw [decide_eq_false hs] at r3
    clear c1 c2 c3 c4 hs
    go_enter Tryz.func210,Tryz.ntmps210
    go_wp2_with (first | ((with_reducible refine gS 3 ?_);refine aBp ?_;clear hL;intro b3 w1 hL) | ((with_reducible refine gS 4 ?_);refine aBp ?_;clear hL;intro b4 w1 hL) | ((with_reducible refine gS 7 ?_);refine aBp ?_;clear hL;intro b7 w1 hL) | ((with_reducible refine gS 8 ?_);refine aBp ?_;clear hL;intro b8 w1 hL) | ((with_reducible refine gS 10 ?_);refine aBp ?_;clear hL;intro b10 w1 hL) | refine aV ?_ | (refine aL4S2C9p ?_;clear hL;intro w1 hL) | (refine aX1A1p ?_;clear hL;intro b w1 hL))
    go_ret
    exact ⟨rfl,hL.bel⟩
end Go.Proofs.YtoifhhljfaoejaaGreatDoor
