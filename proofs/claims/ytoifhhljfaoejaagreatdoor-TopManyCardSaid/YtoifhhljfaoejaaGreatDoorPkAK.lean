/-
  Lemmas of the law, part 11: the walks of the functions that it calls and the plain facts about them. No condition beyond those written.
-/
import Derived.Test.YtoifhhljfaoejaaGreatDoorPkAA
import Derived.Test.YtoifhhljfaoejaaGreatDoorPkAJ
namespace Go.Proofs.YtoifhhljfaoejaaGreatDoor
open Go.RowKit
set_option linter.unusedVariables false
set_option linter.unusedSimpArgs false
noncomputable def rowO:Option Ex→Array Value
 | none=>rowE4 0 0 0 0
 | some e=>rowE e
theorem rowO_none:rowO none=rowE4 0 0 0 0:=rfl
theorem rowO_some (e:Ex):rowO (some e)=rowE e:=rfl
def lowB (f:Nat→BitVec 8):Nat→BitVec 8:=fun i=>if i=31 then f 31 &&& 127 else f i
theorem leK_low (f:Nat→BitVec 8):∀ k,k≤31→leK (lowB f) k=leK f k
 | 0,_=>rfl
 | k+1,h=>by
  show leK (lowB f) k+(lowB f k).toNat*2 ^ (8*k)=leK f k+(f k).toNat*2 ^ (8*k)
  rw [leK_low f k (by omega),show lowB f k=f k from if_neg (by omega)]
theorem and_low (x:BitVec 8):(x &&& 127).toNat=x.toNat % 128:=by
 rw [BitVec.toNat_and]
 exact Nat.and_two_pow_sub_one_eq_mod x.toNat 7
theorem leN_parts (f:Nat→BitVec 8):leN (lowB f)=leN f % 2 ^ 255∧leN f / 2 ^ 255 % 2=(f 31).toNat / 128:=by
 have h1:leN f=leK f 31+(f 31).toNat*2 ^ 248:=rfl
 have h2:leN (lowB f)=leK (lowB f) 31+(lowB f 31).toNat*2 ^ 248:=rfl
 have h3:=leK_low f 31 (Nat.le_refl _)
 have h4:=leK_lt f 31
 have h5:(lowB f 31).toNat=(f 31).toNat % 128:=and_low _
 have h6:=(f 31).isLt
 rw [h3,h5] at h2
 rw [h1,h2]
 generalize leK f 31=y at *
 generalize (f 31).toNat=x at *
 simp only [Nat.reducePow,Nat.reduceMul] at *
 omega
theorem and_127 (x:BitVec 8):bits .and .u8 (B8 x) 127=B8 (x &&& 127):=by
 have:∀ x:Fin 256,bits .and .u8 (x.val:Int) 127=(((BitVec.ofFin x:BitVec 8) &&& 127).toNat:Int):=by decide +kernel
 exact this x.toFin
theorem low_row (f:Nat→BitVec 8):row 32 (upd (fun i=>Value.int .u8 (B8 (f i))) 31 (.int .u8 (bits .and .u8 (B8 (f 31)) 127)))=rowB 32 (lowB f):=row_congr fun i hi=>by
 unfold upd lowB
 by_cases e:i=31
 ·subst e;rw [if_pos rfl,and_127];rfl
 ·rw [if_neg e]
  show Value.int .u8 (B8 (f i))=Value.int .u8 (B8 (if i=31 then f 31 &&& 127 else f i))
  rw [if_neg e]
theorem sub_zz (r:F):r - r=0:=by grind
theorem neg_zero':(0:F) - 0=0:=sub_zz 0
theorem even_zero (r:F):evenR r=0↔r=0:=by
 unfold evenR
 by_cases h:r.val % 2=1
 ·rw [if_pos h]
  constructor
  ·intro e
   have:r=0:=by grind
   exact this
  ·intro e;rw [e];exact neg_zero'
 ·rw [if_neg h]
noncomputable def readX (y:F) (odd:Bool) (r:Option F):Option Ex:=match r with
 | none=>none
 | some r=>if odd=true∧evenR r=0 then none else if odd then some ⟨0 - evenR r,y,1,(0 - evenR r)*y⟩ else some ⟨evenR r,y,1,evenR r*y⟩
theorem exread_eq (n:Nat):exread n=if n % 2 ^ 255<P then readX (fe (n % 2 ^ 255)) (decide (n / 2 ^ 255 % 2=1)) (froot ((fe (n % 2 ^ 255)*fe (n % 2 ^ 255) - 1)*inv (dF*(fe (n % 2 ^ 255)*fe (n % 2 ^ 255))+1))) else none:=by
 unfold exread
 by_cases h:n % 2 ^ 255<P
 ·rw [if_pos h,if_pos h]
  simp only
  generalize fe (n % 2 ^ 255)=y
  have hb:n / 2 ^ 255 % 2<2:=Nat.mod_lt _ (by omega)
  generalize n / 2 ^ 255 % 2=b at *
  generalize froot ((y*y - 1)*inv (dF*(y*y)+1))=o
  cases o with
  | none=>rfl
  | some r =>
   show (if r=0∧b=1 then none else if r.val % 2=b then some ⟨r,y,1,r*y⟩ else some ⟨-r,y,1,-r*y⟩:Option Ex)=(if decide (b=1)=true∧evenR r=0 then none else if decide (b=1)=true then some ⟨0 - evenR r,y,1,(0 - evenR r)*y⟩ else some ⟨evenR r,y,1,evenR r*y⟩:Option Ex)
   by_cases h1:b=1
   ·subst h1
    by_cases h0:r=0
    ·rw [if_pos ⟨h0,rfl⟩,if_pos ⟨rfl,(even_zero r).2 h0⟩]
    ·have n1:¬(r=0∧1=1):=fun h=>h0 h.1
     have n2:¬(decide (1=1)=true∧evenR r=0):=fun h=>h0 ((even_zero r).1 h.2)
     rw [if_neg n1,if_neg n2,if_pos (decide_eq_true rfl)]
     by_cases hr:r.val % 2=1
     ·rw [if_pos hr,show evenR r=0 - r from if_pos hr,show (0:F) - (0 - r)=r from by grind]
     ·rw [if_neg hr,show evenR r=r from if_neg hr,show (0:F) - r= -r from by grind]
   ·have n1:¬(r=0∧b=1):=fun h=>h1 h.2
    have n2:¬(decide (b=1)=true∧evenR r=0):=fun h=>h1 (of_decide_eq_true h.1)
    have n3:¬decide (b=1)=true:=fun h=>h1 (of_decide_eq_true h)
    rw [if_neg n1,if_neg n2,if_neg n3]
    by_cases hr:r.val % 2=1
    ·rw [if_neg (show ¬r.val % 2=b from by omega),show evenR r=0 - r from if_pos hr,show (0:F) - r= -r from by grind]
    ·rw [if_pos (show r.val % 2=b from by omega),show evenR r=r from if_neg hr]
 ·rw [if_neg h,if_neg h]
theorem wpList_unguard {P:Program} {ops:Array Oper} {Q:Exit→Act→World→Prop} {a:Act} {w:World} {rest:List Oper} {d:Option Tmp} {op:Op} {t:TypeId} {ps:String} {af:Array Edge} {g:Nat×Bool}
 (hw:Region.wanted ⟨d,op,t,ps,af,some g⟩ (yielded ops a.tmps)=true) (h:wpList P ops Q (⟨d,op,t,ps,af,none⟩ :: rest) a w):wpList P ops Q (⟨d,op,t,ps,af,some g⟩ :: rest) a w:=by
 unfold wpList at h ⊢
 rw [if_pos hw]
 rw [if_pos (show Region.wanted ⟨d,op,t,ps,af,none⟩ (yielded ops a.tmps)=true from rfl)] at h
 exact h
theorem build_zero (w:World):(Instr.build 313 #[]).run Tryz.prog w= .ok (.agg (rowE4 0 0 0 0)) w:=by kernel_rfl
theorem build_nil (w:World):(Instr.build 311 #[]).run Tryz.prog w= .ok (.agg (rowL 0)) w:=by kernel_rfl
set_option maxRecDepth 100000 in
set_option maxHeartbeats 2000000 in
theorem read_any (f:Nat→BitVec 8) (w:World):Calls Tryz.prog 245 #[.agg (rowB 32 f)] w fun r w'=>r= .returned (.tuple #[.agg (rowO (exread (leN f))),.bool (exread (leN f)).isSome])∧Below w.heap.size w w':=by
 have hL:=Loc.nil w
 obtain ⟨hy,hodd⟩:=leN_parts f
 have he:=exread_eq (leN f)
 rw [hodd] at he
 rw [← hy] at he
 haveI g1:Cell (rowB 32 f) 31 (.int .u8 (B8 (f 31))):=row_cell _ (by omega)
 haveI g2:Put (rowB 32 f) 31 (.int .u8 (bits .and .u8 (B8 (f 31)) 127)) (rowB 32 (lowB f)):=row_put (by omega) (low_row f)
 haveI f0:FnC 270 #[.agg (rowB 32 (lowB f))] (.agg (rowL (leN (lowB f)))):=inferInstance
 have hlt:leN (lowB f)<2 ^ 256:=leN_lt _
 haveI f1:FnC 271 #[.agg (rowL (leN (lowB f)))] (.agg (rowL (leN (lowB f) % P))):=⟨lessen_any _ hlt⟩
 have e1:=eqv_L (leN (lowB f) % P) (leN (lowB f)) (Nat.lt_of_le_of_lt (Nat.mod_le _ _) hlt) hlt
 have nz:=Lib.hid nil_row
 generalize exread (leN f)=out at *
 generalize lowB f=g at *
 generalize leN g=y at *
 have hq:=Lib.hid (show (B8 (f 31) / 128 == 1)=decide ((f 31).toNat / 128=1) from by
  rw [Bool.eq_iff_iff,decide_eq_true_iff,beq_iff_eq]
  unfold B8
  omega)
 generalize decide ((f 31).toNat / 128=1)=odd at *
 have h1:=Lib.hid (show #[Value.int .u64 1,Value.int .u64 0,Value.int .u64 0,Value.int .u64 0]=rowL (1:F).val from by rw [v_one];exact one_row)
 by_cases hc:y<P
 ·rw [if_pos hc] at he
  rw [Nat.mod_eq_of_lt hc] at e1 f1
  rw [decide_eq_true rfl] at e1
  obtain ⟨Y,hY⟩:∃ Y:F,Y.val=y:=⟨⟨y,hc⟩,rfl⟩
  subst hY
  rw [fe_of_val] at he
  clear hy hodd hlt hc
  have fs:∀ w,_:=square_any ((Y*Y - 1)*inv (dF*(Y*Y)+1))
  cases hr:froot ((Y*Y - 1)*inv (dF*(Y*Y)+1)) with
  | none =>
   rw [sqVal_none hr,hr] at fs
   rw [hr] at he
   haveI f3:FnC 276 #[.agg (rowL ((Y*Y - 1)*inv (dF*(Y*Y)+1)).val)] (.tuple #[.agg (rowL 0),.bool false]):=⟨fs⟩
   subst he
   show Calls _ _ _ _ fun r w'=>r= .returned (.tuple #[.agg (rowO none),.bool (none:Option Ex).isSome])∧_
   rw [rowO_none]
   clear hr fs
   go_enter Tryz.func245,Tryz.ntmps245
   go_wp2_with (first | ((with_reducible refine gS 1 ?_);refine aBp ?_;clear hL;intro b1 w1 hL) | ((with_reducible refine gS 2 ?_);refine aBp ?_;clear hL;intro b2 w1 hL) | (refine aL4S2C9q ?_;clear hL;intro w1 hL) | (refine aX1A1q ?_;clear hL;intro b w1 hL))
   refine wp_region_free [(0,false),(1,false),(2,false),(3,true)] [] [] (by kernel_rfl) (by kernel_rfl) trivial hL ?_
   refine pF ?_
   repeat refine rN ?_
   refine seqO_nil ?_
   refine seqM_nil fun w1 hL1=>?_
   simp only [List.cons_append,List.nil_append] at hL1
   clear hL;have hL:=hL1;clear hL1
   refine p4 ?_
   refine wpList_nil (NoPanic.normal ?_)
   go_wp2_with (first | ((with_reducible refine gS 5 ?_);refine aBp ?_;clear hL;intro b5 w1 hL) | ((with_reducible refine gS 6 ?_);refine aBp ?_;clear hL;intro b6 w1 hL) | ((with_reducible refine gS 7 ?_);refine aBp ?_;clear hL;intro b7 w1 hL) | (refine aL4S2C9q ?_;clear hL;intro w1 hL) | (refine aX1A1q ?_;clear hL;intro b w1 hL))
   rw [hq.out]
   rw [h1.out] at hL
   clear hq h1
   refine wp_region_free [(0,false),(1,false),(2,false),(3,false),(4,false),(5,false),(6,false),(7,false)] [(8,_,311),(9,_,311)] [10,11] (by kernel_rfl) (by kernel_rfl) ⟨⟨_,rfl,rfl,rfl⟩,inferInstance,⟨⟨_,rfl,rfl,rfl⟩,inferInstance,trivial⟩⟩ hL ?_
   refine pF ?_
   repeat refine rS ?_
   refine seqO_nil ?_
   refine seqM_cons fun b=>?_
   refine seqM_cons fun b=>?_
   refine seqM_nil fun w1 hL1=>?_
   simp only [List.cons_append,List.nil_append] at hL1
   clear hL;have hL:=hL1;clear hL1
   refine p4 ?_
   refine pG ?_
   repeat (refine rW ?_;clear hL;intro w1 hL)
   refine wpList_nil (NoPanic.normal ?_)
   go_wp2_with (first | (refine aL4S2C9q ?_;clear hL;intro w1 hL) | (refine aX1A1q ?_;clear hL;intro b w1 hL))
   refine wp_region_free [(0,false),(1,false),(2,false),(3,false),(4,false),(5,true),(6,true),(7,true)] [(8,_,311)] [9,10] (by kernel_rfl) (by kernel_rfl) ⟨⟨_,rfl,rfl,rfl⟩,inferInstance,trivial⟩ hL ?_
   refine pF ?_
   repeat refine rS ?_
   refine seqO_nil ?_
   refine seqM_cons fun b=>?_
   refine seqM_nil fun w1 hL1=>?_
   simp only [List.cons_append,List.nil_append] at hL1
   clear hL;have hL:=hL1;clear hL1
   refine p4 ?_
   refine pG ?_
   repeat (refine rW ?_;clear hL;intro w1 hL)
   refine wpList_nil (NoPanic.normal ?_)
   go_wp2_with (first | ((with_reducible show wpList _ _ _ (⟨_,.build 313 _,_,_,_,_⟩ :: _) _ _);refine lU hL rfl rfl build_zero rfl fun w1 hL1=>?_;clear hL;have hL:=hL1;clear hL1) | (refine aL4S2C9q ?_;clear hL;intro w1 hL) | (refine aX1A1q ?_;clear hL;intro b w1 hL))
   exact bodyPost_ret (results_loc2 rfl hL rfl rfl) rfl ⟨rfl,hL.bel⟩
  | some r =>
   rw [sqVal_some hr,hr] at fs
   rw [hr] at he
   haveI f3:FnC 276 #[.agg (rowL ((Y*Y - 1)*inv (dF*(Y*Y)+1)).val)] (.tuple #[.agg (rowL (evenR r).val),.bool true]):=⟨fs⟩
   unfold readX at he
   simp only at he
   clear hr fs
   generalize evenR r=x at *
   go_enter Tryz.func245,Tryz.ntmps245
   go_wp2_with (first | ((with_reducible refine gS 1 ?_);refine aBp ?_;clear hL;intro b1 w1 hL) | ((with_reducible refine gS 2 ?_);refine aBp ?_;clear hL;intro b2 w1 hL) | (refine aL4S2C9q ?_;clear hL;intro w1 hL) | (refine aX1A1q ?_;clear hL;intro b w1 hL))
   refine wp_region_free [(0,false),(1,false),(2,false),(3,true)] [] [] (by kernel_rfl) (by kernel_rfl) trivial hL ?_
   refine pF ?_
   repeat refine rN ?_
   refine seqO_nil ?_
   refine seqM_nil fun w1 hL1=>?_
   simp only [List.cons_append,List.nil_append] at hL1
   clear hL;have hL:=hL1;clear hL1
   refine p4 ?_
   refine wpList_nil (NoPanic.normal ?_)
   go_wp2_with (first | ((with_reducible refine gS 5 ?_);refine aBp ?_;clear hL;intro b5 w1 hL) | ((with_reducible refine gS 6 ?_);refine aBp ?_;clear hL;intro b6 w1 hL) | ((with_reducible refine gS 7 ?_);refine aBp ?_;clear hL;intro b7 w1 hL) | (refine aL4S2C9q ?_;clear hL;intro w1 hL) | (refine aX1A1q ?_;clear hL;intro b w1 hL))
   rw [hq.out]
   rw [h1.out] at hL
   clear hq h1
   refine wp_region_free [(0,false),(1,false),(2,false),(3,false),(4,false),(5,false),(6,false),(7,false)] [(8,_,311),(9,_,311)] [10,11] (by kernel_rfl) (by kernel_rfl) ⟨⟨_,rfl,rfl,rfl⟩,inferInstance,⟨⟨_,rfl,rfl,rfl⟩,inferInstance,trivial⟩⟩ hL ?_
   refine pF ?_
   repeat refine rS ?_
   refine seqO_nil ?_
   refine seqM_cons fun b=>?_
   refine seqM_cons fun b=>?_
   refine seqM_nil fun w1 hL1=>?_
   simp only [List.cons_append,List.nil_append] at hL1
   clear hL;have hL:=hL1;clear hL1
   refine p4 ?_
   refine pG ?_
   repeat (refine rW ?_;clear hL;intro w1 hL)
   refine wpList_nil (NoPanic.normal ?_)
   go_wp2_with (first | (refine aL4S2C9q ?_;clear hL;intro w1 hL) | (refine aX1A1q ?_;clear hL;intro b w1 hL))
   refine wp_region_free [(0,false),(1,false),(2,false),(3,false),(4,false),(5,true),(6,true),(7,true)] [(8,_,311)] [9,10] (by kernel_rfl) (by kernel_rfl) ⟨⟨_,rfl,rfl,rfl⟩,inferInstance,trivial⟩ hL ?_
   refine pF ?_
   repeat refine rS ?_
   refine seqO_nil ?_
   refine seqM_cons fun b=>?_
   refine seqM_nil fun w1 hL1=>?_
   simp only [List.cons_append,List.nil_append] at hL1
   clear hL;have hL:=hL1;clear hL1
   refine p4 ?_
   refine pG ?_
   repeat (refine rW ?_;clear hL;intro w1 hL)
   refine wpList_nil (NoPanic.normal ?_)
   cases odd
   case' false=>rw [if_neg (show ¬(false=true∧x=0) from fun h=>by cases h.1),if_neg (show ¬false=true from by decide)] at he
   case false =>
    subst he
    go_wp2_with (first | (refine aL4S2C9q ?_;clear hL;intro w1 hL) | (refine aX1A1q ?_;clear hL;intro b w1 hL))
    refine wp_region_free [(0,false),(1,false),(2,false),(3,false),(4,false),(5,false),(6,true)] [] [7,8] (by kernel_rfl) (by kernel_rfl) trivial hL ?_
    refine pF ?_
    repeat (first | ((with_reducible show seqO _ _ _ (_ :: _) _ _);refine sU rfl rfl (build_pt _ _ _ _) rfl ?_;refine p4 ?_) | refine rS ?_)
    refine seqO_nil ?_
    refine seqM_nil fun w1 hL1=>?_
    simp only [List.cons_append,List.nil_append] at hL1
    clear hL;have hL:=hL1;clear hL1
    refine p4 ?_
    refine pG ?_
    repeat (refine rW ?_;clear hL;intro w1 hL)
    refine wpList_nil (NoPanic.normal ?_)
    go_wp2_with fail
    exact bodyPost_ret (results_loc2 rfl hL rfl rfl) rfl ⟨rfl,hL.bel⟩
   case true =>
    have ez:=eqv_F x 0
    rw [v_zero] at ez
    by_cases hx:x=0
    ·rw [if_pos ⟨rfl,hx⟩] at he
     rw [decide_eq_true hx] at ez
     subst he
     go_wp2_with (first | refine aV ?_ | ((with_reducible show wpList _ _ _ (⟨_,.build 311 #[],_,_,_,_⟩ :: _) _ _);refine lU hL rfl rfl build_nil rfl fun w1 hL1=>?_;clear hL;have hL:=hL1;clear hL1) | ((with_reducible show wpList _ _ _ (⟨_,.binOp .eql 311 _ _ _,_,_,_,_⟩ :: _) _ _);refine lQ hL rfl rfl rfl rfl fun w1 hL1=>?_;clear hL;have hL:=hL1;clear hL1) | ((with_reducible show wpList _ _ _ (⟨_,.build 313 _,_,_,_,_⟩ :: _) _ _);refine lU hL rfl rfl build_zero rfl fun w1 hL1=>?_;clear hL;have hL:=hL1;clear hL1) | (refine aL4S2C9q ?_;clear hL;intro w1 hL) | (refine aX1A1q ?_;clear hL;intro b w1 hL))
     exact bodyPost_ret (results_loc2 rfl hL rfl rfl) rfl ⟨rfl,hL.bel⟩
    ·rw [if_neg (fun h=>hx h.2),if_pos rfl] at he
     rw [decide_eq_false hx] at ez
     subst he
     haveI gm:FnC 273 #[.agg (rowL 0),.agg (rowL x.val)] (.agg (rowL (0 - x).val)):=⟨fun w=>by
      have:=minus_any 0 x w
      rw [v_zero] at this
      exact this⟩
     clear hx
     go_wp2_with (first | refine aV ?_ | ((with_reducible show wpList _ _ _ (⟨_,.build 311 #[],_,_,_,_⟩ :: _) _ _);refine lU hL rfl rfl build_nil rfl fun w1 hL1=>?_;clear hL;have hL:=hL1;clear hL1) | ((with_reducible show wpList _ _ _ (⟨_,.binOp .eql 311 _ _ _,_,_,_,_⟩ :: _) _ _);refine lQ hL rfl rfl rfl rfl fun w1 hL1=>?_;clear hL;have hL:=hL1;clear hL1) | ((with_reducible show wpList _ _ _ (⟨_,.build 313 _,_,_,_,_⟩ :: _) _ _);refine lU hL rfl rfl build_zero rfl fun w1 hL1=>?_;clear hL;have hL:=hL1;clear hL1) | (refine aL4S2C9q ?_;clear hL;intro w1 hL) | (refine aX1A1q ?_;clear hL;intro b w1 hL))
     refine wp_region_free [(0,false),(1,false),(2,false),(3,false),(4,false),(5,false),(6,true)] [] [7,8] (by kernel_rfl) (by kernel_rfl) trivial hL ?_
     refine pF ?_
     repeat (first | ((with_reducible show seqO _ _ _ (_ :: _) _ _);refine sU rfl rfl (build_pt _ _ _ _) rfl ?_;refine p4 ?_) | refine rS ?_)
     refine seqO_nil ?_
     refine seqM_nil fun w1 hL1=>?_
     simp only [List.cons_append,List.nil_append] at hL1
     clear hL;have hL:=hL1;clear hL1
     refine p4 ?_
     refine pG ?_
     repeat (refine rW ?_;clear hL;intro w1 hL)
     refine wpList_nil (NoPanic.normal ?_)
     go_wp2_with fail
     exact bodyPost_ret (results_loc2 rfl hL rfl rfl) rfl ⟨rfl,hL.bel⟩
 ·rw [if_neg hc] at he
  subst he
  have hp:y % P≠y:=fun e=>hc (by rw [← e];exact Nat.mod_lt _ P_pos)
  rw [decide_eq_false hp] at e1
  generalize y % P=z at *
  rw [rowO_none]
  clear hy hodd hlt hc hp
  go_enter Tryz.func245,Tryz.ntmps245
  go_wp2_with (first | ((with_reducible refine gS 1 ?_);refine aBp ?_;clear hL;intro b1 w1 hL) | ((with_reducible refine gS 2 ?_);refine aBp ?_;clear hL;intro b2 w1 hL) | (refine aL4S2C9q ?_;clear hL;intro w1 hL) | (refine aX1A1q ?_;clear hL;intro b w1 hL))
  refine wp_region_free [(0,false),(1,false),(2,false),(3,true)] [] [] (by kernel_rfl) (by kernel_rfl) trivial hL ?_
  refine pF ?_
  repeat refine rN ?_
  refine seqO_nil ?_
  refine seqM_nil fun w1 hL1=>?_
  simp only [List.cons_append,List.nil_append] at hL1
  clear hL;have hL:=hL1;clear hL1
  refine p4 ?_
  refine wpList_nil (NoPanic.normal ?_)
  go_wp2_with (first | ((with_reducible show wpList _ _ _ (⟨_,.build 313 _,_,_,_,_⟩ :: _) _ _);refine lU hL rfl rfl build_zero rfl fun w1 hL1=>?_;clear hL;have hL:=hL1;clear hL1) | (refine aL4S2C9q ?_;clear hL;intro w1 hL) | (refine aX1A1q ?_;clear hL;intro b w1 hL))
  exact bodyPost_ret (results_loc2 rfl hL rfl rfl) rfl ⟨rfl,hL.bel⟩
instance iCurveR1:Ent 245:=Ent.of Tryz.func245 (by kernel_rfl) rfl
instance iCurveR2 (f:Nat→BitVec 8):FnC 245 #[.agg (rowB 32 f)] (.tuple #[.agg (rowO (exread (leN f))),.bool (exread (leN f)).isSome]):=⟨read_any f⟩
end Go.Proofs.YtoifhhljfaoejaaGreatDoor
namespace Go.Proofs.YtoifhhljfaoejaaGreatDoor
open Go.RowKit
set_option linter.unusedVariables false
set_option linter.unusedSimpArgs false
theorem lit_q: #[Value.int .u64 6346243789798364141,Value.int .u64 1503914060200516822,Value.int .u64 0,Value.int .u64 1152921504606846976]=rowL Qo:=by kernel_rfl
theorem Q_256:Qo<2 ^ 256:=by decide +kernel
set_option maxRecDepth 100000 in
set_option maxHeartbeats 400000 in
theorem order_any (w:World):Calls Tryz.prog 279 #[] w fun e w'=>e= .returned (.agg (rowL Qo))∧Below w.heap.size w w':=by
 have hL:=Loc.nil w
 have hP:=Lib.hid lit_q
 go_enter Tryz.func279,Tryz.ntmps279
 go_wp2_with (first | (refine aL4S2C9q ?_;clear hL;intro w1 hL) | (refine aX1A1q ?_;clear hL;intro b w1 hL))
 rw [hP.out] at hL
 exact bodyPost_ret (results_loc rfl hL rfl) rfl ⟨rfl,hL.bel⟩
instance iScalar1:Ent 279:=Ent.of Tryz.func279 (by kernel_rfl) rfl
instance iScalar2:FnC 279 #[] (.agg (rowL Qo)):=⟨order_any⟩
set_option maxRecDepth 100000 in
set_option maxHeartbeats 400000 in
theorem sless_any (f:Nat→BitVec 8) (w:World):Calls Tryz.prog 246 #[.agg (rowB 32 f)] w fun e w'=>e= .returned (.bool (decide (leN f<Qo)))∧Below w.heap.size w w':=by
 have hL:=Loc.nil w
 haveI f0:FnC 270 #[.agg (rowB 32 f)] (.agg (rowL (leN f))):=inferInstance
 haveI f1:FnC 279 #[] (.agg (rowL Qo)):=inferInstance
 haveI f2:FnC 278 #[.agg (rowL (leN f)),.agg (rowL Qo)] (.bool (decide (leN f<Qo))):=⟨less_any _ _ (leN_lt f) Q_256⟩
 generalize decide (leN f<Qo)=c at *
 generalize leN f=n at *
 generalize Qo=q at *
 go_enter Tryz.func246,Tryz.ntmps246
 go_wp2_with (first | ((with_reducible refine gS 1 ?_);refine aBp ?_;clear hL;intro b1 w1 hL) | (refine aL4S2C9q ?_;clear hL;intro w1 hL) | (refine aX1A1q ?_;clear hL;intro b w1 hL))
 go_ret
 exact ⟨rfl,hL.bel⟩
instance iScalar3:Ent 246:=Ent.of Tryz.func246 (by kernel_rfl) rfl
instance iScalar4 (f:Nat→BitVec 8):FnC 246 #[.agg (rowB 32 f)] (.bool (decide (leN f<Qo))):=⟨sless_any f⟩
end Go.Proofs.YtoifhhljfaoejaaGreatDoor
