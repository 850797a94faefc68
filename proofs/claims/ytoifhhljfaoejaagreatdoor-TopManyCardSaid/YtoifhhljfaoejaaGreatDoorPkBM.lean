/-
  Lemmas of the law, part 39: the walks of the functions that it calls and the plain facts about them. No condition beyond those written.
-/
import Derived.Test.YtoifhhljfaoejaaGreatDoorPkBL
import Derived.Test.YtoifhhljfaoejaaGreatDoorPkAA
namespace Go.Proofs.YtoifhhljfaoejaaGreatDoor
open Go Go.RowKit Go.Shelf
set_option linter.unusedVariables false
set_option linter.unusedSimpArgs false
set_option linter.unusedSectionVars false
theorem vrow_ints {w:World} {v:Value} {l:List Int} (h:VRow w v (encI l)):∃ a c,v= .slice a l.length c∧∀ k,k<l.length→∃ bl ol,a=some ⟨bl,ol,none⟩∧∀ i (hi:i<l.length),Was w bl (ol+i) (.int .i64 l[i]):=by
 obtain ⟨_,a,c,e,_,hc⟩:=h
 refine ⟨a,c,by rw [e,encI_length],fun k hk=>?_⟩
 obtain ⟨bl,ol,ea,hb,hcell⟩:=hc (by rw [encI_length];omega)
 exact ⟨bl,ol,ea,fun i hi=>⟨by rw [hcell i (by rwa [encI_length])];simp [encI],hb⟩⟩
set_option maxRecDepth 100000 in
set_option maxHeartbeats 2000000 in
theorem may_any (s:Sta) (q:Sq) (w:World) (hr:ReadS w s q) (hg:Good s):Calls Tryz.prog 201 #[.agg (stR s q)] w fun e w'=>e= .returned (.bool true)∧Below w.heap.size w w':=by
 obtain ⟨fl,rv,m0,d0,t0,m1,d1,t1,ac⟩:=s
 obtain ⟨pr,cr,p0,c0,p1,c1⟩:=q
 obtain ⟨g1,g2,g3,g4,g5,g6,g7⟩:=hg
 obtain ⟨r1,-, -, -, -, -⟩:=hr
 dsimp only at *
 have hL:=Loc.nil w
 obtain ⟨al,cl,e,hW⟩:=vrow_ints r1
 injection e with e1 e2 e3
 subst e1
 have HW:=Lib.hid hW
 clear hW e2 e3
 have HIDS:=Lib.hid g3
 have HUP:=Lib.hid g4
 have q1:¬ (32:Int)<rv.length:=by omega
 have q2:¬ ac< -1:=by omega
 have q3:¬ 2≤ac:=by omega
 have HN:=Lib.hid (fun w1=>number_any fl g1 w1)
 have H6:=Lib.hid (fun w1=>slot_any p0 m0.length c0 d0 t0 g6 w1)
 have H7:=Lib.hid (fun w1=>slot_any p1 m1.length c1 d1 t1 g7 w1)
 have H5:=Lib.hid g5
 clear g1 g3 g4 g6 g7 g5
 go_enter Tryz.func201,Tryz.ntmps201
 go_wp2_with (first | ((with_reducible show wpList _ _ _ (⟨_,.load _ _,_,_,_,some _⟩ :: _) _ _);refine unguard rfl rfl rfl ?_) | ((with_reducible show wpList _ _ _ (⟨_,.call _,_,_,_,some _⟩ :: _) _ _);refine unguard rfl rfl rfl ?_) | ((with_reducible show wpList _ _ _ (⟨some 1,_,_,_,_,_⟩ :: _) _ _);(first | refine lB hL rfl rfl rfl ?_ | refine lA hL rfl rfl ?_);intro b1;clear hL;intro w1 hL;try simp only [Act.put,List.setIfInBounds_toArray,List.set_cons_zero,List.set_cons_succ]) | ((go_at_call 228;go_loud (refine (HN.out _).mono ?_);rintro e w1 ⟨rfl,rfl⟩;try simp only [Act.put,List.setIfInBounds_toArray,List.set_cons_zero,List.set_cons_succ])) | ((with_reducible show wpList _ _ _ (⟨_,.load _ _,_,_,_,_⟩ :: _) _ _);(first | refine lL hL rfl rfl rfl ?_ | refine lI hL rfl rfl rfl ?_ | refine lW hL rfl rfl rfl ?_);clear hL;intro w1 hL;try simp only [Act.put,List.setIfInBounds_toArray,List.set_cons_zero,List.set_cons_succ]) | ((with_reducible show wpList _ _ _ (⟨_,.store _ _ _,_,_,_,_⟩ :: _) _ _);(first | refine lT hL rfl rfl rfl rfl rfl ?_ | refine lTs hL rfl rfl rfl rfl rfl ?_ | refine lTb hL rfl rfl rfl rfl rfl ?_ | refine lTp hL rfl rfl rfl rfl rfl ?_ | refine lS hL rfl rfl rfl rfl rfl ?_ | refine lSp hL rfl rfl rfl rfl rfl ?_);clear hL;intro w1 hL;try simp only [Act.put,List.setIfInBounds_toArray,List.set_cons_zero,List.set_cons_succ]))
 go_loopw [28] (fun kk wr=>∃ (k:Nat),k≤rv.length∧kk= .int .i64 k∧Loc w wr [(b1,stR ⟨fl,rv,m0,d0,t0,m1,d1,t1,ac⟩ ⟨pr,cr,p0,c0,p1,c1⟩,58)]) (fun kk _=>rv.length - (intOf kk).toNat)
 case atStart=>exact ⟨0,by omega,rfl,hL⟩
 case round =>
  clear hL
  obtain ⟨k,hk,rfl,hL⟩:=hrel
  by_cases hlt:k<rv.length
  ·obtain ⟨bl,ol,rfl,hW⟩:=HW.out k hlt
   have k0:(0:Int)≤k:=by omega
   have k1:(k:Int)<rv.length:=by omega
   have gk:=hW k hlt
   have HNk:=Lib.hid (fun w1=>number_any rv[k] (HIDS.out k hlt) w1)
   rcases Nat.eq_zero_or_pos k with rfl | hp
   ·clear HIDS HUP hW HW r1
    generalize rv[0]=x at *
    rw [show ((0:Nat):Int)=0 from rfl] at *
    go_wp2_with (first | ((with_reducible show wpList _ _ _ (⟨_,.load _ _,_,_,_,some _⟩ :: _) _ _);refine unguard rfl rfl rfl ?_) | ((with_reducible show wpList _ _ _ (⟨_,.call _,_,_,_,some _⟩ :: _) _ _);refine unguard rfl rfl rfl ?_) | ((go_at_call 228;go_loud (refine (HNk.out _).mono ?_);rintro e w1 ⟨rfl,rfl⟩;try simp only [Act.put,List.setIfInBounds_toArray,List.set_cons_zero,List.set_cons_succ])) | ((with_reducible show wpList _ _ _ (⟨_,.load _ _,_,_,_,_⟩ :: _) _ _);(first | refine lL hL rfl rfl rfl ?_ | refine lI hL rfl rfl rfl ?_ | refine lW hL rfl rfl rfl ?_);clear hL;intro w1 hL;try simp only [Act.put,List.setIfInBounds_toArray,List.set_cons_zero,List.set_cons_succ]) | ((with_reducible show wpList _ _ _ (⟨_,.store _ _ _,_,_,_,_⟩ :: _) _ _);(first | refine lT hL rfl rfl rfl rfl rfl ?_ | refine lTs hL rfl rfl rfl rfl rfl ?_ | refine lTb hL rfl rfl rfl rfl rfl ?_ | refine lTp hL rfl rfl rfl rfl rfl ?_ | refine lS hL rfl rfl rfl rfl rfl ?_ | refine lSp hL rfl rfl rfl rfl rfl ?_);clear hL;intro w1 hL;try simp only [Act.put,List.setIfInBounds_toArray,List.set_cons_zero,List.set_cons_succ]))
    go_roundw
    case rel=>exact ⟨1,by omega,by go_num,hL⟩
    case measure=>simp only [intOf];omega
   ·obtain ⟨j,hj⟩:∃ j,k=j+1:=⟨k - 1,by omega⟩
    have hjl:j<rv.length:=by omega
    have gj:=hW j hjl
    have hup:¬ rv[k]≤rv[j]:=by have:=HUP.out j (by omega);subst hj;omega
    have k2:((k:Int) - 1).toNat=j:=by omega
    have k3:(0:Int)≤k - 1:=by omega
    have k4:(k:Int) - 1<rv.length:=by omega
    have k5:(0:Int)<k:=by omega
    clear HIDS HUP hW HW r1 hj
    generalize rv[k]=x at *
    generalize rv[j]=y at *
    go_wp2_with (first | ((with_reducible show wpList _ _ _ (⟨_,.load _ _,_,_,_,some _⟩ :: _) _ _);refine unguard rfl rfl rfl ?_) | ((with_reducible show wpList _ _ _ (⟨_,.call _,_,_,_,some _⟩ :: _) _ _);refine unguard rfl rfl rfl ?_) | ((go_at_call 228;go_loud (refine (HNk.out _).mono ?_);rintro e w1 ⟨rfl,rfl⟩;try simp only [Act.put,List.setIfInBounds_toArray,List.set_cons_zero,List.set_cons_succ])) | ((with_reducible show wpList _ _ _ (⟨_,.load _ _,_,_,_,_⟩ :: _) _ _);(first | refine lL hL rfl rfl rfl ?_ | refine lI hL rfl rfl rfl ?_ | refine lW hL rfl rfl rfl ?_);clear hL;intro w1 hL;try simp only [Act.put,List.setIfInBounds_toArray,List.set_cons_zero,List.set_cons_succ]) | ((with_reducible show wpList _ _ _ (⟨_,.store _ _ _,_,_,_,_⟩ :: _) _ _);(first | refine lT hL rfl rfl rfl rfl rfl ?_ | refine lTs hL rfl rfl rfl rfl rfl ?_ | refine lTb hL rfl rfl rfl rfl rfl ?_ | refine lTp hL rfl rfl rfl rfl rfl ?_ | refine lS hL rfl rfl rfl rfl rfl ?_ | refine lSp hL rfl rfl rfl rfl rfl ?_);clear hL;intro w1 hL;try simp only [Act.put,List.setIfInBounds_toArray,List.set_cons_zero,List.set_cons_succ]))
    go_roundw
    case rel=>exact ⟨k+1,by omega,by go_num,hL⟩
    case measure=>simp only [intOf];omega
  ·obtain rfl:k=rv.length:=by omega
   clear HIDS HUP HW r1
   rcases H5.out with rfl | ⟨rfl,h1,rfl⟩ | ⟨rfl,h1,rfl⟩
   ·skip
    go_wp2_with (first | ((with_reducible show wpList _ _ _ (⟨_,.load _ _,_,_,_,some _⟩ :: _) _ _);refine unguard rfl rfl rfl ?_) | ((with_reducible show wpList _ _ _ (⟨_,.call _,_,_,_,some _⟩ :: _) _ _);refine unguard rfl rfl rfl ?_) | ((with_reducible show wpList _ _ _ (⟨some 76,.call _,_,_,_,_⟩ :: _) _ _);go_loud (refine lCall rfl rfl ((H6.out _).mono ?_) rfl);rintro e w1 ⟨rfl,hb1⟩;have hL1:=hL.keep hb1;(try dsimp only at hL1);(try simp only [Nat.reduceAdd,Nat.reduceSub] at hL1);refine ⟨_,rfl,?_⟩;clear hL;have hL:=hL1;clear hL1;try simp only [Act.put,List.setIfInBounds_toArray,List.set_cons_zero,List.set_cons_succ]) | ((with_reducible show wpList _ _ _ (⟨some 81,.call _,_,_,_,_⟩ :: _) _ _);go_loud (refine lCall rfl rfl ((H7.out _).mono ?_) rfl);rintro e w1 ⟨rfl,hb1⟩;have hL1:=hL.keep hb1;(try dsimp only at hL1);(try simp only [Nat.reduceAdd,Nat.reduceSub] at hL1);refine ⟨_,rfl,?_⟩;clear hL;have hL:=hL1;clear hL1;try simp only [Act.put,List.setIfInBounds_toArray,List.set_cons_zero,List.set_cons_succ]) | ((with_reducible show wpList _ _ _ (⟨_,.load _ _,_,_,_,_⟩ :: _) _ _);(first | refine lL hL rfl rfl rfl ?_ | refine lI hL rfl rfl rfl ?_ | refine lW hL rfl rfl rfl ?_);clear hL;intro w1 hL;try simp only [Act.put,List.setIfInBounds_toArray,List.set_cons_zero,List.set_cons_succ]) | ((with_reducible show wpList _ _ _ (⟨_,.store _ _ _,_,_,_,_⟩ :: _) _ _);(first | refine lT hL rfl rfl rfl rfl rfl ?_ | refine lTs hL rfl rfl rfl rfl rfl ?_ | refine lTb hL rfl rfl rfl rfl rfl ?_ | refine lTp hL rfl rfl rfl rfl rfl ?_ | refine lS hL rfl rfl rfl rfl rfl ?_ | refine lSp hL rfl rfl rfl rfl rfl ?_);clear hL;intro w1 hL;try simp only [Act.put,List.setIfInBounds_toArray,List.set_cons_zero,List.set_cons_succ]))
    all_goals (go_ret;exact ⟨rfl,hL.bel⟩)
   ·have q9:¬ (m0.length:Int)=0:=by omega
    go_wp2_with (first | ((with_reducible show wpList _ _ _ (⟨_,.load _ _,_,_,_,some _⟩ :: _) _ _);refine unguard rfl rfl rfl ?_) | ((with_reducible show wpList _ _ _ (⟨_,.call _,_,_,_,some _⟩ :: _) _ _);refine unguard rfl rfl rfl ?_) | ((with_reducible show wpList _ _ _ (⟨some 76,.call _,_,_,_,_⟩ :: _) _ _);go_loud (refine lCall rfl rfl ((H6.out _).mono ?_) rfl);rintro e w1 ⟨rfl,hb1⟩;have hL1:=hL.keep hb1;(try dsimp only at hL1);(try simp only [Nat.reduceAdd,Nat.reduceSub] at hL1);refine ⟨_,rfl,?_⟩;clear hL;have hL:=hL1;clear hL1;try simp only [Act.put,List.setIfInBounds_toArray,List.set_cons_zero,List.set_cons_succ]) | ((with_reducible show wpList _ _ _ (⟨some 81,.call _,_,_,_,_⟩ :: _) _ _);go_loud (refine lCall rfl rfl ((H7.out _).mono ?_) rfl);rintro e w1 ⟨rfl,hb1⟩;have hL1:=hL.keep hb1;(try dsimp only at hL1);(try simp only [Nat.reduceAdd,Nat.reduceSub] at hL1);refine ⟨_,rfl,?_⟩;clear hL;have hL:=hL1;clear hL1;try simp only [Act.put,List.setIfInBounds_toArray,List.set_cons_zero,List.set_cons_succ]) | ((with_reducible show wpList _ _ _ (⟨_,.load _ _,_,_,_,_⟩ :: _) _ _);(first | refine lL hL rfl rfl rfl ?_ | refine lI hL rfl rfl rfl ?_ | refine lW hL rfl rfl rfl ?_);clear hL;intro w1 hL;try simp only [Act.put,List.setIfInBounds_toArray,List.set_cons_zero,List.set_cons_succ]) | ((with_reducible show wpList _ _ _ (⟨_,.store _ _ _,_,_,_,_⟩ :: _) _ _);(first | refine lT hL rfl rfl rfl rfl rfl ?_ | refine lTs hL rfl rfl rfl rfl rfl ?_ | refine lTb hL rfl rfl rfl rfl rfl ?_ | refine lTp hL rfl rfl rfl rfl rfl ?_ | refine lS hL rfl rfl rfl rfl rfl ?_ | refine lSp hL rfl rfl rfl rfl rfl ?_);clear hL;intro w1 hL;try simp only [Act.put,List.setIfInBounds_toArray,List.set_cons_zero,List.set_cons_succ]))
    all_goals (go_ret;exact ⟨rfl,hL.bel⟩)
   ·have q9:¬ (m1.length:Int)=0:=by omega
    go_wp2_with (first | ((with_reducible show wpList _ _ _ (⟨_,.load _ _,_,_,_,some _⟩ :: _) _ _);refine unguard rfl rfl rfl ?_) | ((with_reducible show wpList _ _ _ (⟨_,.call _,_,_,_,some _⟩ :: _) _ _);refine unguard rfl rfl rfl ?_) | ((with_reducible show wpList _ _ _ (⟨some 76,.call _,_,_,_,_⟩ :: _) _ _);go_loud (refine lCall rfl rfl ((H6.out _).mono ?_) rfl);rintro e w1 ⟨rfl,hb1⟩;have hL1:=hL.keep hb1;(try dsimp only at hL1);(try simp only [Nat.reduceAdd,Nat.reduceSub] at hL1);refine ⟨_,rfl,?_⟩;clear hL;have hL:=hL1;clear hL1;try simp only [Act.put,List.setIfInBounds_toArray,List.set_cons_zero,List.set_cons_succ]) | ((with_reducible show wpList _ _ _ (⟨some 81,.call _,_,_,_,_⟩ :: _) _ _);go_loud (refine lCall rfl rfl ((H7.out _).mono ?_) rfl);rintro e w1 ⟨rfl,hb1⟩;have hL1:=hL.keep hb1;(try dsimp only at hL1);(try simp only [Nat.reduceAdd,Nat.reduceSub] at hL1);refine ⟨_,rfl,?_⟩;clear hL;have hL:=hL1;clear hL1;try simp only [Act.put,List.setIfInBounds_toArray,List.set_cons_zero,List.set_cons_succ]) | ((with_reducible show wpList _ _ _ (⟨_,.load _ _,_,_,_,_⟩ :: _) _ _);(first | refine lL hL rfl rfl rfl ?_ | refine lI hL rfl rfl rfl ?_ | refine lW hL rfl rfl rfl ?_);clear hL;intro w1 hL;try simp only [Act.put,List.setIfInBounds_toArray,List.set_cons_zero,List.set_cons_succ]) | ((with_reducible show wpList _ _ _ (⟨_,.store _ _ _,_,_,_,_⟩ :: _) _ _);(first | refine lT hL rfl rfl rfl rfl rfl ?_ | refine lTs hL rfl rfl rfl rfl rfl ?_ | refine lTb hL rfl rfl rfl rfl rfl ?_ | refine lTp hL rfl rfl rfl rfl rfl ?_ | refine lS hL rfl rfl rfl rfl rfl ?_ | refine lSp hL rfl rfl rfl rfl rfl ?_);clear hL;intro w1 hL;try simp only [Act.put,List.setIfInBounds_toArray,List.set_cons_zero,List.set_cons_succ]))
    all_goals (go_ret;exact ⟨rfl,hL.bel⟩)
instance iMay1:Ent 201:=Ent.of Tryz.func201 (by kernel_rfl) rfl
end Go.Proofs.YtoifhhljfaoejaaGreatDoor
namespace Go.Proofs.YtoifhhljfaoejaaGreatDoor
open Go Go.RowKit Go.Shelf
set_option linter.unusedVariables false
set_option linter.unusedSimpArgs false
set_option linter.unusedSectionVars false
theorem cloneB_any (p:Option Addr) (c:Nat) (l:List (BitVec 8)) (w:World) (hv:BRow w (.slice p l.length c) l) (hz:l=[]→p=none) (h1:l.length≤1000000) :
 Calls Tryz.prog 94 #[.slice p l.length c] w fun e w'=>∃ p' c' S,e= .returned (.slice p' l.length c')∧Hold S (.slice p' l.length c') 5 (encB l)∧(l=[]→p'=none)∧Loc w w' S:=by
 rcases List.eq_nil_or_concat l with rfl | ⟨l',x,rfl⟩
 ·obtain rfl:=hz rfl
  obtain ⟨a,c',e,hn,_⟩:=hv
  injection e with e1 e2 e3
  obtain rfl:=e3.trans (hn e1.symm)
  exact (clone_nil w).mono fun e w' ⟨e1,e2⟩=>⟨none,0,[],e1,Hold.nil _,fun _=>rfl,by rw [e2];exact Loc.nil w'⟩
 ·refine (clone_any _ _ w hv (by simp) h1).mono fun e w' ⟨g,cap,cur,e1,hr,hg,hc,hb⟩=>⟨some ⟨g,0,none⟩,cap,[(g,cur,5)],e1,?_,fun h=>absurd h (by simp),(Loc.nil w).fresh hb hg hc⟩
  exact Hold.own hr
theorem eql_nilI (w:World):(binOp .eql 53 (.slice none 0 0) (.slice none 0 0)).run Tryz.prog w= .ok (.bool true) w:=by kernel_rfl
theorem eql_someI (a:Addr) (n c:Nat) (w:World):(binOp .eql 53 (.slice (some a) n c) (.slice none 0 0)).run Tryz.prog w= .ok (.bool false) w:=by kernel_rfl
set_option maxRecDepth 100000 in
theorem cloneI_any (p:Option Addr) (c:Nat) (l:List Int) (w:World) (hv:VRow w (.slice p l.length c) (encI l)) (hz:l=[]→p=none) (h1:l.length≤1000000) :
 Calls Tryz.prog 182 #[.slice p l.length c] w fun e w'=>∃ p' c' S,e= .returned (.slice p' l.length c')∧Hold S (.slice p' l.length c') 3 (encI l)∧(l=[]→p'=none)∧Loc w w' S:=by
 have hL:=Loc.nil w
 haveI hA:Arg w (.slice p l.length c) (encI l):=⟨hv⟩
 have hn:=eql_nilI
 have hs:=eql_someI
 have hR:=vrow_ints hv
 obtain ⟨al,cl,e,hW⟩:=hR
 injection e with e1 e2 e3
 subst e1
 clear e2 e3
 rcases Nat.eq_zero_or_pos l.length with h0 | h0
 ·obtain rfl:=List.eq_nil_of_length_eq_zero h0
  obtain rfl:=hz rfl
  obtain ⟨_,a,c',e,hn',_⟩:=hv
  injection e with e1 e2 e3
  obtain rfl:=e3.trans (hn' e1.symm)
  clear hA hs e1 e2 e3 hz hn' hW
  change Calls _ _ #[.slice none 0 0] _ _
  go_enter Tryz.func182,Tryz.ntmps182
  go_wp2_with (first | refine aU ?_ | (refine aL3S6p ?_;clear hL;intro w1 hL))
  all_goals (go_ret;exact ⟨none,0,[],rfl,Hold.nil _,fun _=>rfl,hL⟩)
 ·obtain ⟨bl,ol,rfl,hW⟩:=hW 0 h0
  clear hW
  haveI:=ownNil
  go_enter Tryz.func182,Tryz.ntmps182
  go_wp2_with (first | refine aU ?_ | ((with_reducible show wpList _ _ _ (⟨some 5,.buildSlice _ _ _,_,_,_,_⟩ :: _) _ _);(refine lBS0 hL rfl rfl fun b5 w1 hL1=>?_);clear hL;have hL:=hL1;clear hL1) | ((with_reducible refine gC 7 ?_);(refine lApp hL rfl rfl rfl rfl (by first | omega | (simp;omega) | simp) fun g7 cap7 cur7 w1 hr7 hL1=>?_);(try dsimp only at hL1);clear hL;have hL:=hL1;clear hL1;refine p4 ?_) | (refine aL3S6p ?_;clear hL;intro w1 hL))
  rw [Nat.zero_add,List.nil_append] at hr7
  simp only [Nat.zero_add]
  go_ret
  exact ⟨some ⟨g7,0,none⟩,cap7,[(g7,cur7,3)],rfl,Hold.own hr7,fun h=>absurd h (by intro h;rw [h] at h0;exact absurd h0 (by simp)),hL⟩
instance iSlc1:Ent 182:=Ent.of Tryz.func182 (by kernel_rfl) rfl
set_option maxRecDepth 100000 in
theorem index_any (p:Option Addr) (c:Nat) (l:List Int) (x:Int) (w:World) (hv:VRow w (.slice p l.length c) (encI l)) (h1:l.length≤1000000) :
 Calls Tryz.prog 252 #[.slice p l.length c,.int .i64 x] w fun e w'=>∃ r:Int,e= .returned (.int .i64 r)∧(0≤r↔x∈l)∧Below w.heap.size w w':=by
 have hL:=Loc.nil w
 obtain ⟨al,cl,e,hW⟩:=vrow_ints hv
 injection e with e1 e2 e3
 subst e1
 have HW:=Lib.hid hW
 clear hW e2 e3 hv
 go_enter Tryz.func252,Tryz.ntmps252
 go_wp2_with (first | refine aU ?_ | (refine aL3S6p ?_;clear hL;intro w1 hL))
 go_loopw [8] (fun kk wr=>∃ (k:Nat),k≤l.length∧kk= .int .i64 k∧Loc w wr []∧∀ i (h:i<l.length),i<k→l[i]≠x) (fun kk _=>l.length - (intOf kk).toNat)
 case atStart=>exact ⟨0,by omega,rfl,hL,fun i h hi=>absurd hi (by omega)⟩
 case round =>
  clear hL
  obtain ⟨k,hk,rfl,hL,hne⟩:=hrel
  by_cases hlt:k<l.length
  ·obtain ⟨bl,ol,rfl,hW⟩:=HW.out k hlt
   have k0:(0:Int)≤k:=by omega
   have k1:(k:Int)<l.length:=by omega
   have gk:=hW k hlt
   have HNE:=Lib.hid hne
   clear hW HW hne
   by_cases he:x=l[k]
   ·have hmem:x∈l:=by rw [he];exact List.getElem_mem hlt
    have HM:=Lib.hid hmem
    clear hmem HNE
    rw [← he] at gk
    clear he
    go_wp2_with (first | refine aU ?_ | (refine aL3S6p ?_;clear hL;intro w1 hL))
    all_goals (go_ret;exact ⟨k,rfl,⟨fun _=>HM.out,fun _=>k0⟩,hL.bel⟩)
   ·have HE:=Lib.hid he
    generalize hq:l[k]=y at *
    have HQ:=Lib.hid hq
    clear hq
    have h3:(x == y)=false:=by simpa using he
    go_wp2_with (first | refine aU ?_ | (refine aL3S6p ?_;clear hL;intro w1 hL))
    go_roundw
    case rel=>exact ⟨k+1,by omega,by go_num,hL,fun i h hi=>by
     rcases Nat.lt_or_ge i k with h4 | h4
     ·exact HNE.out i h h4
     ·obtain rfl:i=k:=by omega
      rw [HQ.out]
      exact fun h=>HE.out h.symm⟩
    case measure=>simp only [intOf];omega
  ·obtain rfl:k=l.length:=by omega
   have hnm:x ∉ l:=fun h=>by
    obtain ⟨i,hi,e⟩:=List.getElem_of_mem h
    exact hne i hi hi e
   have HM:=Lib.hid hnm
   clear hnm hne HW
   go_wp2_with (first | refine aU ?_ | (refine aL3S6p ?_;clear hL;intro w1 hL))
   all_goals (go_ret;exact ⟨-1,rfl,⟨fun h=>absurd h (by decide),fun h=>absurd h HM.out⟩,hL.bel⟩)
set_option maxRecDepth 100000 in
theorem contains_any (p:Option Addr) (c:Nat) (l:List Int) (x:Int) (w:World) (hv:VRow w (.slice p l.length c) (encI l)) (h1:l.length≤1000000) :
 Calls Tryz.prog 211 #[.slice p l.length c,.int .i64 x] w fun e w'=>e= .returned (.bool (decide (x∈l)))∧Below w.heap.size w w':=by
 have HI:=Lib.hid (index_any p c l x w hv h1)
 clear hv
 go_enter Tryz.func211,Tryz.ntmps211
 go_wp2_with (go_at_call 252;go_loud (refine HI.out.mono ?_);rintro e w1 ⟨r,rfl,hr,hb⟩)
 all_goals (go_ret;exact ⟨rfl,hb⟩)
instance iSlc3:Ent 211:=Ent.of Tryz.func211 (by kernel_rfl) rfl
end Go.Proofs.YtoifhhljfaoejaaGreatDoor
namespace Go.Proofs.YtoifhhljfaoejaaGreatDoor
open Go Go.RowKit Go.Shelf
set_option linter.unusedVariables false
set_option linter.unusedSimpArgs false
set_option linter.unusedSectionVars false
structure HoldQ (Sr S0 S1:Mem) (s:Sta) (q:Sq):Prop where
 r:Hold Sr (.slice q.pr s.rv.length q.cr) 3 (encI s.rv)
 a:Hold S0 (.slice q.p0 s.m0.length q.c0) 5 (encB s.m0)
 b:Hold S1 (.slice q.p1 s.m1.length q.c1) 5 (encB s.m1)
 zr:s.rv=[]→q.pr=none
 za:s.m0=[]→q.p0=none
 zb:s.m1=[]→q.p1=none
theorem read_of {w0 w:World} {M:Mem} {s:Sta} {q:Sq} (hL:Loc w0 w M) [h1:See w0 M (.slice q.pr s.rv.length q.cr) (encI s.rv)] [h2:See w0 M (.slice q.p0 s.m0.length q.c0) (encB s.m0)] [h3:See w0 M (.slice q.p1 s.m1.length q.c1) (encB s.m1)]
 (zr:s.rv=[]→q.pr=none) (za:s.m0=[]→q.p0=none) (zb:s.m1=[]→q.p1=none):ReadS w s q:=⟨h1.see w hL,See.bytes hL,See.bytes hL,zr,za,zb⟩
theorem cut3 (S1 S0 Sr X:Mem):List.Sublist (S1 ++ (S0 ++ Sr)) (S1 ++ (S0 ++ (Sr ++ X))):=(List.Sublist.refl _).append ((List.Sublist.refl _).append (List.sublist_append_left _ _))
set_option maxRecDepth 100000 in
set_option maxHeartbeats 1000000 in
theorem copy_any (s:Sta) (q:Sq) (w:World) (hr:ReadS w s q) (hn:s.rv.length≤1000) (hna:s.m0.length≤1000) (hnb:s.m1.length≤1000) :
 Calls Tryz.prog 121 #[.agg (stR s q)] w fun e w'=>∃ q' Sr S0 S1,e= .returned (.agg (stR s q'))∧HoldQ Sr S0 S1 s q'∧Loc w w' (S1 ++ (S0 ++ Sr)):=by
 obtain ⟨fl,rv,m0,d0,t0,m1,d1,t1,ac⟩:=s
 obtain ⟨pr,cr,p0,c0,p1,c1⟩:=q
 obtain ⟨r1,r2,r3,zr,za,zb⟩:=hr
 dsimp only at *
 have hL:=Loc.nil w
 haveI hA1:Arg w (.slice pr rv.length cr) (encI rv):=⟨r1⟩
 haveI hA2:Arg w (.slice p0 m0.length c0) (encB m0):=⟨r2.vrow⟩
 haveI hA3:Arg w (.slice p1 m1.length c1) (encB m1):=⟨r3.vrow⟩
 have H1:=Lib.hid (fun w1 (h:VRow w1 (.slice pr rv.length cr) (encI rv))=>cloneI_any pr cr rv w1 h zr (by omega))
 have H2:=Lib.hid (fun w1 (h:BRow w1 (.slice p0 m0.length c0) m0)=>cloneB_any p0 c0 m0 w1 h za (by omega))
 have H3:=Lib.hid (fun w1 (h:BRow w1 (.slice p1 m1.length c1) m1)=>cloneB_any p1 c1 m1 w1 h zb (by omega))
 clear r1 r2 r3 zr za zb
 go_enter Tryz.func121,Tryz.ntmps121
 go_wp2_with (first | refine aU ?_ | ((with_reducible refine gS 1 ?_);refine aBp ?_;clear hL;intro b1 w1 hL) | ((with_reducible refine gS 2 ?_);refine aBp ?_;clear hL;intro b2 w1 hL) | ((with_reducible refine gC 6 ?_);go_loud (refine lCall rfl rfl ((H1.out _ (See.see _ hL)).mono ?_) rfl);rintro e w1 ⟨pr',cr',Sr,rfl,hHr,hzr,hN⟩;refine ⟨_,rfl,?_⟩;have hL1:=hL.join hN;clear hN;(try simp only [List.cons_append,List.nil_append,List.append_assoc] at hL1);clear hL;have hL:=hL1;clear hL1;refine p4 ?_) | (refine aL3S6p ?_;clear hL;intro w1 hL))
 go_loopw [8] (fun kk wr=>(kk= .int .i64 0∧Loc w wr (Sr ++ [(b2,stR ⟨0,[],[],false,0,[],false,0,0⟩ Sq.none,58),(b1,stR ⟨fl,rv,m0,d0,t0,m1,d1,t1,ac⟩ ⟨pr',cr',p0,c0,p1,c1⟩,58)])) ∨
  (kk= .int .i64 1∧∃ p0' c0' S0,Hold S0 (.slice p0' m0.length c0') 5 (encB m0)∧(m0=[]→p0'=none)∧Loc w wr (S0 ++ (Sr ++ [(b2,stR ⟨0,[],[],false,0,[],false,0,0⟩ Sq.none,58),(b1,stR ⟨fl,rv,m0,d0,t0,m1,d1,t1,ac⟩ ⟨pr',cr',p0',c0',p1,c1⟩,58)]))) ∨
  (kk= .int .i64 2∧∃ p0' c0' S0 p1' c1' S1,Hold S0 (.slice p0' m0.length c0') 5 (encB m0)∧(m0=[]→p0'=none)∧Hold S1 (.slice p1' m1.length c1') 5 (encB m1)∧(m1=[]→p1'=none)∧Loc w wr (S1 ++ (S0 ++ (Sr ++ [(b2,stR ⟨0,[],[],false,0,[],false,0,0⟩ Sq.none,58),(b1,stR ⟨fl,rv,m0,d0,t0,m1,d1,t1,ac⟩ ⟨pr',cr',p0',c0',p1',c1'⟩,58)]))))) (fun kk _=>2 - (intOf kk).toNat)
 case atStart=>exact .inl ⟨rfl,hL⟩
 case round =>
  clear hL
  rcases hrel with ⟨rfl,hL⟩ | ⟨rfl,p0',c0',S0,hH0,hz0,hL⟩ | ⟨rfl,p0',c0',S0,p1',c1',S1,hH0,hz0,hH1,hz1,hL⟩
  ·skip
   go_wp2_with (first | refine aU ?_ | ((with_reducible refine gC 17 ?_);go_loud (refine lCall rfl rfl ((H2.out _ (See.bytes hL)).mono ?_) rfl);rintro e w1 ⟨p0',c0',S0,rfl,hH0,hz0,hN⟩;refine ⟨_,rfl,?_⟩;have hL1:=hL.join hN;clear hN;(try simp only [List.cons_append,List.nil_append,List.append_assoc] at hL1);clear hL;have hL:=hL1;clear hL1;refine p4 ?_) | (refine aL3S6p ?_;clear hL;intro w1 hL))
   go_roundw
   case rel=>exact .inr (.inl ⟨rfl,p0',c0',S0,hH0,hz0,hL⟩)
   case measure=>simp only [intOf];decide
  ·skip
   go_wp2_with (first | refine aU ?_ | ((with_reducible refine gC 17 ?_);go_loud (refine lCall rfl rfl ((H3.out _ (See.bytes hL)).mono ?_) rfl);rintro e w1 ⟨p1',c1',S1,rfl,hH1,hz1,hN⟩;refine ⟨_,rfl,?_⟩;have hL1:=hL.join hN;clear hN;(try simp only [List.cons_append,List.nil_append,List.append_assoc] at hL1);clear hL;have hL:=hL1;clear hL1;refine p4 ?_) | (refine aL3S6p ?_;clear hL;intro w1 hL))
   go_roundw
   case rel=>exact .inr (.inr ⟨rfl,p0',c0',S0,p1',c1',S1,hH0,hz0,hH1,hz1,hL⟩)
   case measure=>simp only [intOf];decide
  ·skip
   go_wp2_with (first | refine aU ?_ | (refine aL3S6p ?_;clear hL;intro w1 hL))
   exact bodyPost_ret (results_loc rfl hL rfl) rfl ⟨⟨pr',cr',p0',c0',p1',c1'⟩,Sr,S0,S1,rfl,⟨hHr,hH0,hH1,hzr,hz0,hz1⟩,hL.sub (cut3 _ _ _ _)⟩
instance iCpy1:Ent 121:=Ent.of Tryz.func121 (by kernel_rfl) rfl
end Go.Proofs.YtoifhhljfaoejaaGreatDoor
