/-
  Lemmas of the law, part 10: the walks of the functions that it calls and the plain facts about them. No condition beyond those written.
-/
import Derived.Test.YtoifhhljfaoejaaGreatDoorPkAA
import Derived.Test.YtoifhhljfaoejaaGreatDoorPkAI
namespace Go.Proofs.YtoifhhljfaoejaaGreatDoor
open Go.RowKit
set_option linter.unusedVariables false
set_option linter.unusedSimpArgs false
def rowE4 (x y z t:Nat):Array Value:=row 16 fun i=>lv (if i<4 then x else if i<8 then y else if i<12 then z else t) (i % 4)
def rowE (e:Ex):Array Value:=rowE4 e.x.val e.y.val e.z.val e.t.val
instance iCurve1 (x y z t:Nat):Row1 (rowE4 x y z t) 16:=⟨row_size _ _,by simp [rowE4,row,lv,Value.oneCell']⟩
instance iCurve2 (e:Ex):Row1 (rowE e) 16:=inferInstanceAs (Row1 (rowE4 _ _ _ _) 16)
instance iCurve3:RowTy 313 16:=⟨⟨_,Tryz.underlying313,rfl⟩,by kernel_rfl⟩
instance iCurve4:RowZ 313 (rowE4 0 0 0 0):=⟨by kernel_rfl⟩
theorem part_row {n m k:Nat} {S T:Nat→Value} {u t:TypeId} (h:k+m≤n) (e:∀ i,i<m→S (k+i)=T i):Part (row n S) u k t (row m T):=⟨fun j v hv=>by
 have hj:j<m:=by
  rcases Nat.lt_or_ge j m with h | h
  ·exact h
  ·rw [List.getElem?_eq_none (by simp [row_size];exact h)] at hv;cases hv
 rw [Array.getElem?_toList,row_get T hj] at hv
 cases hv
 rw [row_get S (by omega),e j hj]⟩
theorem part_pt0 (x y z t:Nat):Part (rowE4 x y z t) 313 0 311 (rowL x):=part_row (by omega) fun i hi=>by
 have h:i=0∨i=1∨i=2∨i=3:=by omega
 rcases h with rfl | rfl | rfl | rfl <;> rfl
instance iCurve6 (e:Ex):Part (rowE e) 313 0 311 (rowL e.x.val):=part_pt0 _ _ _ _
theorem part_pt4 (x y z t:Nat):Part (rowE4 x y z t) 313 4 311 (rowL y):=part_row (by omega) fun i hi=>by
 have h:i=0∨i=1∨i=2∨i=3:=by omega
 rcases h with rfl | rfl | rfl | rfl <;> rfl
instance iCurve8 (e:Ex):Part (rowE e) 313 4 311 (rowL e.y.val):=part_pt4 _ _ _ _
theorem part_pt8 (x y z t:Nat):Part (rowE4 x y z t) 313 8 311 (rowL z):=part_row (by omega) fun i hi=>by
 have h:i=0∨i=1∨i=2∨i=3:=by omega
 rcases h with rfl | rfl | rfl | rfl <;> rfl
instance iCurve10 (e:Ex):Part (rowE e) 313 8 311 (rowL e.z.val):=part_pt8 _ _ _ _
theorem part_pt12 (x y z t:Nat):Part (rowE4 x y z t) 313 12 311 (rowL t):=part_row (by omega) fun i hi=>by
 have h:i=0∨i=1∨i=2∨i=3:=by omega
 rcases h with rfl | rfl | rfl | rfl <;> rfl
instance iCurve12 (e:Ex):Part (rowE e) 313 12 311 (rowL e.t.val):=part_pt12 _ _ _ _
theorem build_pt (x y z t:Nat) (w:World):(Instr.build 313 #[(0,.agg (rowL x)),(1,.agg (rowL y)),(2,.agg (rowL z)),(3,.agg (rowL t))]).run Tryz.prog w= .ok (.agg (rowE4 x y z t)) w:=by kernel_rfl
theorem build_ptl (x y t:Nat) (w:World):(Instr.build 313 #[(0,.agg (rowL x)),(1,.agg (rowL y)),(2,.agg #[.int .u64 1,.int .u64 0,.int .u64 0,.int .u64 0]),(3,.agg (rowL t))]).run Tryz.prog w= .ok (.agg (rowE4 x y 1 t)) w:=by kernel_rfl
theorem build_none (w:World):(Instr.build 313 #[(1,.agg #[.int .u64 1,.int .u64 0,.int .u64 0,.int .u64 0]),(2,.agg #[.int .u64 1,.int .u64 0,.int .u64 0,.int .u64 0])]).run Tryz.prog w= .ok (.agg (rowE4 0 1 1 0)) w:=by kernel_rfl
theorem lit_d: #[Value.int .u64 8496970652267935907,Value.int .u64 31536524315187371,Value.int .u64 10144147576115030168,Value.int .u64 5909686906226998899]=rowL dF.val:=by kernel_rfl
theorem lit_x: #[Value.int .u64 14507833142362363162,Value.int .u64 7578651490590762930,Value.int .u64 13881468655802702940,Value.int .u64 2407515759118799870]=rowL pB.x.val:=by kernel_rfl
theorem lit_y: #[Value.int .u64 7378697629483820632,Value.int .u64 7378697629483820646,Value.int .u64 7378697629483820646,Value.int .u64 7378697629483820646]=rowL pB.y.val:=by kernel_rfl
set_option maxRecDepth 100000 in
set_option maxHeartbeats 400000 in
theorem factor_any (w:World):Calls Tryz.prog 275 #[] w fun e w'=>e= .returned (.agg (rowL dF.val))∧Below w.heap.size w w':=by
 have hL:=Loc.nil w
 have hP:=Lib.hid lit_d
 go_enter Tryz.func275,Tryz.ntmps275
 go_wp2_with (first | (refine aL4S2C9q ?_;clear hL;intro w1 hL) | (refine aX1A1q ?_;clear hL;intro b w1 hL))
 rw [hP.out] at hL
 exact bodyPost_ret (results_loc rfl hL rfl) rfl ⟨rfl,hL.bel⟩
instance iCurve13:Ent 275:=Ent.of Tryz.func275 (by kernel_rfl) rfl
instance iCurve14:FnC 275 #[] (.agg (rowL dF.val)):=⟨factor_any⟩
theorem rowE_O:rowE4 0 1 1 0=rowE exO:=by unfold rowE exO;rw [v_zero,v_one]
set_option maxRecDepth 100000 in
set_option maxHeartbeats 400000 in
theorem none_any (w:World):Calls Tryz.prog 282 #[] w fun e w'=>e= .returned (.agg (rowE exO))∧Below w.heap.size w w':=by
 have hL:=Loc.nil w
 rw [← rowE_O]
 go_enter Tryz.func282,Tryz.ntmps282
 go_wp2_with (first | ((with_reducible show wpList _ _ _ (⟨_,.build 313 _,_,_,_,_⟩ :: _) _ _);refine lU hL rfl rfl build_none rfl fun w1 hL1=>?_;clear hL;have hL:=hL1;clear hL1) | (refine aL4S2C9q ?_;clear hL;intro w1 hL) | (refine aX1A1q ?_;clear hL;intro b w1 hL))
 exact bodyPost_ret (results_loc rfl hL rfl) rfl ⟨rfl,hL.bel⟩
instance iCurve15:Ent 282:=Ent.of Tryz.func282 (by kernel_rfl) rfl
instance iCurve16:FnC 282 #[] (.agg (rowE exO)):=⟨none_any⟩
set_option maxRecDepth 100000 in
set_option maxHeartbeats 1000000 in
theorem ptadd_any (p q:Ex) (w:World):Calls Tryz.prog 251 #[.agg (rowE p),.agg (rowE q)] w fun e w'=>e= .returned (.agg (rowE (exadd p q)))∧Below w.heap.size w w':=by
 have hL:=Loc.nil w
 go_enter Tryz.func251,Tryz.ntmps251
 go_wp2_with (first | (refine aL4S2C9q ?_;clear hL;intro w1 hL) | (refine aX1A1q ?_;clear hL;intro b w1 hL))
 refine wp_region_free [(0,true),(1,false),(2,true),(3,false),(4,false),(5,true),(6,false),(7,true),(8,false),(9,false),(10,false)] [(11,_,311)] [12] (by kernel_rfl) (by kernel_rfl) ⟨⟨_,rfl,rfl,rfl⟩,inferInstance,trivial⟩ hL ?_
 refine pF ?_
 repeat refine rS ?_
 refine seqO_nil ?_
 refine seqM_cons fun b=>?_
 refine seqM_nil fun w1 hL1=>?_
 simp only [List.cons_append,List.nil_append] at hL1
 clear hL;have hL:=hL1;clear hL1
 refine p4 ?_
 refine pG ?_
 repeat (refine rW ?_;clear hL;intro w1 hL)
 refine wpList_nil (NoPanic.normal ?_)
 go_wp2_with (first | (refine aL4S2C9q ?_;clear hL;intro w1 hL) | (refine aX1A1q ?_;clear hL;intro b w1 hL))
 refine wp_region_free [(0,true),(1,false),(2,true),(3,false),(4,false),(5,true),(6,false),(7,true),(8,false),(9,false),(10,false)] [(11,_,311)] [12] (by kernel_rfl) (by kernel_rfl) ⟨⟨_,rfl,rfl,rfl⟩,inferInstance,trivial⟩ hL ?_
 refine pF ?_
 repeat refine rS ?_
 refine seqO_nil ?_
 refine seqM_cons fun b=>?_
 refine seqM_nil fun w1 hL1=>?_
 simp only [List.cons_append,List.nil_append] at hL1
 clear hL;have hL:=hL1;clear hL1
 refine p4 ?_
 refine pG ?_
 repeat (refine rW ?_;clear hL;intro w1 hL)
 refine wpList_nil (NoPanic.normal ?_)
 go_wp2_with (first | (refine aL4S2C9q ?_;clear hL;intro w1 hL) | (refine aX1A1q ?_;clear hL;intro b w1 hL))
 refine wp_region_free [(0,true),(1,false),(2,false),(3,false),(4,false),(5,false),(6,true),(7,false),(8,false)] [(9,_,311)] [10] (by kernel_rfl) (by kernel_rfl) ⟨⟨_,rfl,rfl,rfl⟩,inferInstance,trivial⟩ hL ?_
 refine pF ?_
 repeat refine rS ?_
 refine seqO_nil ?_
 refine seqM_cons fun b=>?_
 refine seqM_nil fun w1 hL1=>?_
 simp only [List.cons_append,List.nil_append] at hL1
 clear hL;have hL:=hL1;clear hL1
 refine p4 ?_
 refine pG ?_
 repeat (refine rW ?_;clear hL;intro w1 hL)
 refine wpList_nil (NoPanic.normal ?_)
 go_wp2_with (first | (refine aL4S2C9q ?_;clear hL;intro w1 hL) | (refine aX1A1q ?_;clear hL;intro b w1 hL))
 refine wp_region_free [(0,true),(1,false),(2,true),(3,false),(4,true),(5,false),(6,false),(7,false)] [(8,_,311)] [9] (by kernel_rfl) (by kernel_rfl) ⟨⟨_,rfl,rfl,rfl⟩,inferInstance,trivial⟩ hL ?_
 refine pF ?_
 repeat refine rS ?_
 refine seqO_nil ?_
 refine seqM_cons fun b=>?_
 refine seqM_nil fun w1 hL1=>?_
 simp only [List.cons_append,List.nil_append] at hL1
 clear hL;have hL:=hL1;clear hL1
 refine p4 ?_
 refine pG ?_
 repeat (refine rW ?_;clear hL;intro w1 hL)
 refine wpList_nil (NoPanic.normal ?_)
 go_wp2_with (first | (refine aL4S2C9q ?_;clear hL;intro w1 hL) | (refine aX1A1q ?_;clear hL;intro b w1 hL))
 refine wp_region_free [(0,false),(1,false),(2,false),(3,false),(4,false),(5,false),(6,false),(7,false),(8,false),(9,false),(10,false),(11,false)] [(12,_,311),(13,_,311),(14,_,311),(15,_,311)] [16,17,18,19] (by kernel_rfl) (by kernel_rfl) ⟨⟨_,rfl,rfl,rfl⟩,inferInstance,⟨⟨_,rfl,rfl,rfl⟩,inferInstance,⟨⟨_,rfl,rfl,rfl⟩,inferInstance,⟨⟨_,rfl,rfl,rfl⟩,inferInstance,trivial⟩⟩⟩⟩ hL ?_
 refine pF ?_
 repeat refine rS ?_
 refine seqO_nil ?_
 refine seqM_cons fun b=>?_
 refine seqM_cons fun b=>?_
 refine seqM_cons fun b=>?_
 refine seqM_cons fun b=>?_
 refine seqM_nil fun w1 hL1=>?_
 simp only [List.cons_append,List.nil_append] at hL1
 clear hL;have hL:=hL1;clear hL1
 refine p4 ?_
 refine pG ?_
 repeat (refine rW ?_;clear hL;intro w1 hL)
 refine wpList_nil (NoPanic.normal ?_)
 go_wp2_with (first | (refine aL4S2C9q ?_;clear hL;intro w1 hL) | (refine aX1A1q ?_;clear hL;intro b w1 hL))
 refine wp_region_free [(0,false),(1,false),(2,false),(3,false),(4,false),(5,false),(6,false),(7,false),(8,false),(9,false),(10,false),(11,false),(12,true)] [] [13] (by kernel_rfl) (by kernel_rfl) trivial hL ?_
 refine pF ?_
 repeat (first | ((with_reducible show seqO _ _ _ (_ :: _) _ _);refine sU rfl rfl (build_pt _ _ _ _) rfl ?_;refine p4 ?_) | refine rS ?_)
 refine seqO_nil ?_
 refine seqM_nil fun w1 hL1=>?_
 simp only [List.cons_append,List.nil_append] at hL1
 clear hL;have hL:=hL1;clear hL1
 refine p4 ?_
 refine pG ?_
 repeat (refine rW ?_;clear hL;intro w1 hL)
 refine wpList_nil (NoPanic.normal ?_)
 go_wp2_with fail
 exact bodyPost_ret (results_loc rfl hL rfl) rfl ⟨rfl,hL.bel⟩
instance iCurve17:Ent 251:=Ent.of Tryz.func251 (by kernel_rfl) rfl
instance iCurve18 (p q:Ex):FnC 251 #[.agg (rowE p),.agg (rowE q)] (.agg (rowE (exadd p q))):=⟨ptadd_any p q⟩
end Go.Proofs.YtoifhhljfaoejaaGreatDoor
namespace Go.Proofs.YtoifhhljfaoejaaGreatDoor
open Go.RowKit
set_option linter.unusedVariables false
set_option linter.unusedSimpArgs false
theorem rowE_of (p:Pt) (t:F) (h:t=p.x*p.y):rowE4 p.x.val p.y.val 1 t.val=rowE (exOf p):=by unfold rowE exOf;simp only;rw [v_one,h]
set_option maxRecDepth 100000 in
set_option maxHeartbeats 1000000 in
theorem base_any (w:World):Calls Tryz.prog 248 #[] w fun e w'=>e= .returned (.agg (rowE exB))∧Below w.heap.size w w':=by
 have hL:=Loc.nil w
 have hx:=Lib.hid lit_x
 have hy:=Lib.hid lit_y
 unfold exB
 have hE:=Lib.hid (rowE_of pB _ rfl)
 generalize exOf pB=e at *
 generalize pB.x=x at *
 generalize pB.y=y at *
 go_enter Tryz.func248,Tryz.ntmps248
 go_wp2_with (first | (refine aL4S2C9q ?_;clear hL;intro w1 hL) | (refine aX1A1q ?_;clear hL;intro b w1 hL))
 rw [hx.out,hy.out] at hL
 refine wp_region_free [(0,false),(1,false),(2,true),(3,false),(4,false),(5,false),(6,true)] [] [7] (by kernel_rfl) (by kernel_rfl) trivial hL ?_
 refine pF ?_
 repeat (first | ((with_reducible show seqO _ _ _ (_ :: _) _ _);refine sU rfl rfl (build_ptl _ _ _) rfl ?_;refine p4 ?_) | refine rS ?_)
 refine seqO_nil ?_
 refine seqM_nil fun w1 hL1=>?_
 simp only [List.cons_append,List.nil_append] at hL1
 clear hL;have hL:=hL1;clear hL1
 refine p4 ?_
 refine pG ?_
 repeat (refine rW ?_;clear hL;intro w1 hL)
 refine wpList_nil (NoPanic.normal ?_)
 go_wp2_with fail
 rw [hE.out] at hL
 exact bodyPost_ret (results_loc rfl hL rfl) rfl ⟨rfl,hL.bel⟩
instance iCurveB1:Ent 248:=Ent.of Tryz.func248 (by kernel_rfl) rfl
instance iCurveB2:FnC 248 #[] (.agg (rowE exB)):=⟨base_any⟩
set_option maxRecDepth 100000 in
set_option maxHeartbeats 1000000 in
theorem times_pt (p:Ex) (f:Nat→BitVec 8) (w:World):Calls Tryz.prog 249 #[.agg (rowE p),.agg (rowB 32 f)] w fun r w'=>r= .returned (.agg (rowE (extimes p (leN f))))∧Below w.heap.size w w':=by
 have hL:=Loc.nil w
 haveI f0:FnC 270 #[.agg (rowB 32 f)] (.agg (rowL (leN f))):=inferInstance
 generalize leN f=e at *
 obtain ⟨X,h0,hs,hf⟩:∃ X:Nat→Ex,X 0=exO∧(∀ j,X (j+1)=if e / 2 ^ (255 - j) % 2=1 then exadd (exadd (X j) (X j)) p else exadd (X j) (X j))∧X 256=extimes p e:=⟨fun k=>exmul p e k,rfl,fun j=>rfl,rfl⟩
 rw [← hf]
 haveI f9:FnC 282 #[] (.agg (rowE (X 0))):=by rw [h0];infer_instance
 have zs:=Lib.hid hs
 clear h0 hs hf
 go_enter Tryz.func249,Tryz.ntmps249
 go_wp2_with (first | ((with_reducible refine gS 2 ?_);refine aBp ?_;clear hL;intro b2 w1 hL) | ((with_reducible refine gS 3 ?_);refine aBp ?_;clear hL;intro b3 w1 hL) | ((with_reducible refine gS 4 ?_);refine aBp ?_;clear hL;intro b4 w1 hL) | ((with_reducible refine gS 5 ?_);refine aBp ?_;clear hL;intro b5 w1 hL) | ((with_reducible refine gS 6 ?_);refine aBp ?_;clear hL;intro b6 w1 hL) | (refine aL4S2C9q ?_;clear hL;intro w1 hL) | (refine aX1A1q ?_;clear hL;intro b w1 hL))
 go_loopw [7] (fun kk wr=>∃ j:Nat,j≤256∧kk= .int .i64 (255 - (j:Int))∧Loc w wr [(b6,rowE (X j),313),(b5,rowL e,311),(b4,rowE4 0 0 0 0,313),(b3,rowB 32 f,24),(b2,rowE p,313)]) (fun kk _=>(intOf kk+1).toNat)
 case atStart=>exact ⟨0,by omega,rfl,hL⟩
 case round =>
  clear hL
  obtain ⟨j,hj,rfl,hL⟩:=hrel
  by_cases hlt:j<256
  ·have k0:(0:Int)≤255 - (j:Int):=by omega
   have k1:¬ 255 - (j:Int)<0:=by omega
   have k2:(j:Int)≤255:=by omega
   have hb:=fun w=>bit_any e (255 - j) (by omega) w
   rw [show ((255 - j:Nat):Int)=255 - (j:Int) from by omega] at hb
   have HT:=Lib.hid (show X (j+1)=if e / 2 ^ (255 - j) % 2=1 then exadd (exadd (X j) (X j)) p else exadd (X j) (X j) from zs.out j)
   by_cases hbit:e / 2 ^ (255 - j) % 2=1
   ·rw [hbit] at hb
    rw [if_pos hbit] at HT
    generalize X j=x at hL HT
    haveI f1:FnC 283 #[.agg (rowL e),.int .i64 (255 - (j:Int))] (.int .u64 1):=⟨hb⟩
    clear hb hbit
    go_wp2_with (first | (refine aL4S2C9q ?_;clear hL;intro w1 hL) | (refine aX1A1q ?_;clear hL;intro b w1 hL))
    go_roundw
    case rel=>exact ⟨j+1,by omega,by rw [show 255 - (j:Int) - 1=255 - ((j+1:Nat):Int) from by omega],by rw [HT.out];exact hL⟩
    case measure=>simp [intOf];omega
   ·rw [if_neg hbit] at HT
    rw [show e / 2 ^ (255 - j) % 2=0 from by omega] at hb
    generalize X j=x at hL HT
    haveI f1:FnC 283 #[.agg (rowL e),.int .i64 (255 - (j:Int))] (.int .u64 0):=⟨hb⟩
    clear hb hbit
    go_wp2_with (first | (refine aL4S2C9q ?_;clear hL;intro w1 hL) | (refine aX1A1q ?_;clear hL;intro b w1 hL))
    go_roundw
    case rel=>exact ⟨j+1,by omega,by rw [show 255 - (j:Int) - 1=255 - ((j+1:Nat):Int) from by omega],by rw [HT.out];exact hL⟩
    case measure=>simp [intOf];omega
  ·obtain rfl:j=256:=by omega
   have k1:(255:Int) - ((256:Nat):Int)= -1:=by omega
   rw [k1]
   clear k1
   go_wp2_with (first | (refine aL4S2C9q ?_;clear hL;intro w1 hL) | (refine aX1A1q ?_;clear hL;intro b w1 hL))
   exact bodyPost_ret (results_loc rfl hL rfl) rfl ⟨rfl,hL.bel⟩
instance iCurveB3:Ent 249:=Ent.of Tryz.func249 (by kernel_rfl) rfl
instance iCurveB4 (p:Ex) (f:Nat→BitVec 8):FnC 249 #[.agg (rowE p),.agg (rowB 32 f)] (.agg (rowE (extimes p (leN f)))):=⟨times_pt p f⟩
theorem byte_top {m:Nat} (hm:m<2 ^ 255) (b:Nat) (hb:b<2):(byteN m 31).toNat+128*b=(byteN (m+2 ^ 255*b) 31).toNat:=by
 unfold byteN
 rw [BitVec.toNat_ofNat,BitVec.toNat_ofNat]
 simp only [Nat.reducePow,Nat.reduceMul] at *
 omega
theorem byte_low (m b:Nat) {i:Nat} (h:i<31):byteN m i=byteN (m+2 ^ 255*b) i:=by
 unfold byteN
 obtain ⟨d,hd⟩:∃ d,255=8*i+(8+d):=⟨247 - 8*i,by omega⟩
 rw [hd,Nat.pow_add,Nat.pow_add,Nat.mul_assoc,Nat.add_mul_div_left _ _ (Nat.two_pow_pos _),Nat.mul_assoc]
 refine BitVec.eq_of_toNat_eq ?_
 rw [BitVec.toNat_ofNat,BitVec.toNat_ofNat,Nat.add_mul_mod_self_left]
theorem byte_row {m:Nat} (b:Nat):row 32 (upd (fun i=>Value.int .u8 (B8 (byteN m i))) 31 (.int .u8 (B8 (byteN (m+2 ^ 255*b) 31))))=rowB 32 (byteN (m+2 ^ 255*b)):=row_congr fun i hi=>by
 unfold upd
 by_cases e:i=31
 ·subst e;rw [if_pos rfl]
 ·rw [if_neg e]
  show Value.int .u8 (B8 (byteN m i))=_
  rw [byte_low m b (by omega)]
theorem byte_or {m:Nat} (hm:m<2 ^ 255) (b:Nat) (hb:b<2):bits .or .u8 (B8 (byteN m 31)) ((128*b:Nat):Int)=B8 (byteN (m+2 ^ 255*b) 31):=by
 have hx:(byteN m 31).toNat<128:=by
  have:=byte_top hm 1 (by omega)
  have:=(byteN (m+2 ^ 255*1) 31).isLt
  omega
 have h:=byte_top hm b hb
 unfold B8
 rw [← h]
 generalize (byteN m 31).toNat=x at *
 have:∀ x:Fin 128,∀ b:Fin 2,bits .or .u8 (x.val:Int) ((128*b.val:Nat):Int)=((x.val+128*b.val:Nat):Int):=by decide +kernel
 exact this ⟨x,hx⟩ ⟨b,hb⟩
theorem P_255:P<2 ^ 255:=by decide +kernel
set_option maxRecDepth 100000 in
set_option maxHeartbeats 1000000 in
theorem bytes_pt (p:Ex) (w:World):Calls Tryz.prog 250 #[.agg (rowE p)] w fun r w'=>r= .returned (.agg (rowB 32 (byteN (exbytes p))))∧Below w.heap.size w w':=by
 have hL:=Loc.nil w
 have hb:=bit0 (p.x*inv p.z)
 have hm:(p.y*inv p.z).val<2 ^ 255:=Nat.lt_trans (p.y*inv p.z).isLt P_255
 have ho:=byte_or hm ((p.x*inv p.z).val % 2) (Nat.mod_lt _ (by omega))
 haveI g1:Cell (rowB 32 (byteN (p.y*inv p.z).val)) 31 (.int .u8 (B8 (byteN (p.y*inv p.z).val 31))):=row_cell _ (by omega)
 have gr:=byte_row (m:=(p.y*inv p.z).val) ((p.x*inv p.z).val % 2)
 haveI f0:FnC 284 #[.agg (rowL (p.y*inv p.z).val)] (.agg (rowB 32 (byteN (p.y*inv p.z).val))):=inferInstance
 unfold exbytes
 by_cases hc:(p.x*inv p.z).val % 2=1
 ·rw [hc] at hb ho gr ⊢
  rw [← ho,← (show IntKind.u8.wrap (IntKind.u8.wrap 1*128)=((128*1:Nat):Int) from by decide)] at gr
  haveI f3:FnC 283 #[.agg (rowL (p.x*inv p.z).val),.int .i64 0] (.int .u64 1):=⟨hb⟩
  haveI gp:Put (rowB 32 (byteN (p.y*inv p.z).val)) 31 (.int .u8 (bits .or .u8 (B8 (byteN (p.y*inv p.z).val 31)) (IntKind.u8.wrap (IntKind.u8.wrap 1*128)))) (rowB 32 (byteN ((p.y*inv p.z).val+2 ^ 255*1))):=row_put (by omega) gr
  clear hb hc ho hm gr
  generalize byteN ((p.y*inv p.z).val+2 ^ 255*1)=out at *
  generalize byteN ((p.y*inv p.z).val)=s at *
  go_enter Tryz.func250,Tryz.ntmps250
  go_wp2_with (first | (refine aL4S2C9q ?_;clear hL;intro w1 hL) | (refine aX1A1q ?_;clear hL;intro b w1 hL))
  refine wp_region_free [(0,true),(1,false),(2,true),(3,false),(4,false),(5,false),(6,false),(7,true),(8,true),(9,true),(10,true)] [] [11] (by kernel_rfl) (by kernel_rfl) trivial hL ?_
  refine pF ?_
  repeat refine rS ?_
  refine seqO_nil ?_
  refine seqM_nil fun w1 hL1=>?_
  simp only [List.cons_append,List.nil_append] at hL1
  clear hL;have hL:=hL1;clear hL1
  refine p4 ?_
  refine pG ?_
  repeat (refine rW ?_;clear hL;intro w1 hL)
  refine wpList_nil (NoPanic.normal ?_)
  go_wp2_with (first | (refine aL4S2C9q ?_;clear hL;intro w1 hL) | (refine aX1A1q ?_;clear hL;intro b w1 hL))
  exact bodyPost_ret (results_loc rfl hL rfl) rfl ⟨rfl,hL.bel⟩
 ·rw [show (p.x*inv p.z).val % 2=0 from by omega] at hb ho gr ⊢
  rw [← ho,← (show IntKind.u8.wrap (IntKind.u8.wrap 0*128)=((128*0:Nat):Int) from by decide)] at gr
  haveI f3:FnC 283 #[.agg (rowL (p.x*inv p.z).val),.int .i64 0] (.int .u64 0):=⟨hb⟩
  haveI gp:Put (rowB 32 (byteN (p.y*inv p.z).val)) 31 (.int .u8 (bits .or .u8 (B8 (byteN (p.y*inv p.z).val 31)) (IntKind.u8.wrap (IntKind.u8.wrap 0*128)))) (rowB 32 (byteN ((p.y*inv p.z).val+2 ^ 255*0))):=row_put (by omega) gr
  clear hb hc ho hm gr
  generalize byteN ((p.y*inv p.z).val+2 ^ 255*0)=out at *
  generalize byteN ((p.y*inv p.z).val)=s at *
  go_enter Tryz.func250,Tryz.ntmps250
  go_wp2_with (first | (refine aL4S2C9q ?_;clear hL;intro w1 hL) | (refine aX1A1q ?_;clear hL;intro b w1 hL))
  refine wp_region_free [(0,true),(1,false),(2,true),(3,false),(4,false),(5,false),(6,false),(7,true),(8,true),(9,true),(10,true)] [] [11] (by kernel_rfl) (by kernel_rfl) trivial hL ?_
  refine pF ?_
  repeat refine rS ?_
  refine seqO_nil ?_
  refine seqM_nil fun w1 hL1=>?_
  simp only [List.cons_append,List.nil_append] at hL1
  clear hL;have hL:=hL1;clear hL1
  refine p4 ?_
  refine pG ?_
  repeat (refine rW ?_;clear hL;intro w1 hL)
  refine wpList_nil (NoPanic.normal ?_)
  go_wp2_with (first | (refine aL4S2C9q ?_;clear hL;intro w1 hL) | (refine aX1A1q ?_;clear hL;intro b w1 hL))
  exact bodyPost_ret (results_loc rfl hL rfl) rfl ⟨rfl,hL.bel⟩
instance iCurveB5:Ent 250:=Ent.of Tryz.func250 (by kernel_rfl) rfl
instance iCurveB6 (p:Ex):FnC 250 #[.agg (rowE p)] (.agg (rowB 32 (byteN (exbytes p)))):=⟨bytes_pt p⟩
end Go.Proofs.YtoifhhljfaoejaaGreatDoor
