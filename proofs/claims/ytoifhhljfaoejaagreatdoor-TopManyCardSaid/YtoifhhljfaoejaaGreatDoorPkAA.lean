/-
  Lemmas of the law, part 1: the walks of the functions that it calls and the plain facts about them. No condition beyond those written.
-/
import Derived.OrdersHeld
import Derived.ProofKit
import Derived.Great.Ranges
import Derived.Laws.BitsAllLaws
import Derived.Laws.Bits64
import Derived.Laws.Rows
import Derived.Below
import Derived.WalkArith
import Derived.WalkKit
import Derived.WalkSpells
import Derived.WalkLawsBesides
import Derived.Deep.MidRow
import Derived.Deep.WholeRow
import Derived.Great.BuildSlice
import Derived.LoopTactic
import Derived.Lib.Hide
import Derived.ChangeKeysEq
import Derived.ScopeJumps
import Derived.WalkMore
import Derived.Deep.RegionHeld3
namespace Go.Proofs.YtoifhhljfaoejaaGreatDoor
open Go Go.RowKit Go.Shelf
theorem p4 {G' G:Prop} (k:G') (h:G'→G:=by
 intro k;try simp only [Act.put,List.setIfInBounds_toArray,List.set_cons_zero,List.set_cons_succ]
 exact k):G:=h k
theorem p7 {G' G:Prop} (k:G') (h:G'→G:=by
 intro k;try simp only [Act.put,List.getElem_toArray,List.getElem_cons_zero,List.getElem_cons_succ,List.setIfInBounds_toArray,List.set_cons_zero,List.set_cons_succ]
 exact k):G:=h k
theorem pF {G' G:Prop} (k:G') (h:G'→G:=by
 intro k;simp only [List.filterMap_cons,List.filterMap_nil,List.getElem?_toArray,List.getElem?_cons_zero,List.getElem?_cons_succ,Option.map_some]
 exact k):G:=h k
theorem pG {G' G:Prop} (k:G') (h:G'→G:=by
 intro k;try simp only [List.filterMap_cons,List.filterMap_nil,List.getElem?_toArray,List.getElem?_cons_zero,List.getElem?_cons_succ]
 exact k):G:=h k
theorem rN {G' G:Prop} (k:G') (h:G'→G:=by
 intro k;(with_reducible show seqO _ _ _ (_ :: _) _ _)
 first
  | refine sN rfl rfl rfl rfl ?_
  | refine sL rfl rfl rfl ?_
  | refine sI rfl rfl rfl ?_
  | refine sC2 rfl rfl rfl rfl ?_
  | refine sC1 rfl rfl rfl ?_
  | refine sC3 rfl rfl rfl rfl ?_
  | refine sC4 rfl rfl rfl rfl ?_
  | refine sC0 rfl rfl ?_
  | refine sC5 rfl rfl rfl ?_
  | refine sR rfl rfl rfl ?_
  | refine sG2 rfl rfl rfl rfl ?_
  | refine sG1 rfl rfl rfl ?_
  | refine sG0 rfl rfl ?_
  | (refine seqO_pure rfl (v:=?_) ?_ ?_;rotate_left;(intro w;go_simp;first | done | with_reducible rfl))
 simp only [Act.put,List.setIfInBounds_toArray,List.set_cons_zero,List.set_cons_succ]
 exact k):G:=h k
theorem rS {G' G:Prop} (k:G') (h:G'→G:=by
 intro k;(with_reducible show seqO _ _ _ (_ :: _) _ _)
 first
  | refine sL rfl rfl rfl ?_
  | refine sI rfl rfl rfl ?_
  | refine sC2 rfl rfl rfl rfl ?_
  | refine sC1 rfl rfl rfl ?_
  | refine sC3 rfl rfl rfl rfl ?_
  | refine sC4 rfl rfl rfl rfl ?_
  | refine sC0 rfl rfl ?_
  | refine sC5 rfl rfl rfl ?_
  | refine sR rfl rfl rfl ?_
  | refine sG2 rfl rfl rfl rfl ?_
  | refine sG1 rfl rfl rfl ?_
  | refine sG0 rfl rfl ?_
  | (refine seqO_pure rfl (v:=?_) ?_ ?_;rotate_left;(intro w;go_simp;first | done | with_reducible rfl))
 simp only [Act.put,List.setIfInBounds_toArray,List.set_cons_zero,List.set_cons_succ]
 exact k):G:=h k
theorem rW {G' G:Prop} (k:G') (h:G'→G:=by
 intro k;(with_reducible show wpList _ _ _ (_ :: _) _ _)
 first | refine lS hL rfl rfl rfl rfl rfl ?_ | refine lT hL rfl rfl rfl rfl rfl ?_ | refine lVa hL rfl rfl rfl ?_ | refine lVi hL rfl rfl rfl ?_ | refine lVb hL rfl rfl rfl ?_ | refine lVp hL rfl rfl rfl ?_ | refine lVs hL rfl rfl rfl ?_ | refine lVt hL rfl rfl rfl ?_
 intro w1 hx;try simp only [Act.put,List.setIfInBounds_toArray,List.set_cons_zero,List.set_cons_succ]
 revert w1 hx;exact k):G:=h k
theorem eAny {G' G:Prop} (k:G') (h:G'→G:=by
 intro k
 first | refine eT hL rfl rfl rfl ?_ | refine eTs hL rfl rfl rfl ?_ | refine eTb hL rfl rfl rfl ?_ | refine eTp hL rfl rfl rfl ?_ | refine eS hL rfl rfl rfl ?_ | refine eSp hL rfl rfl rfl ?_
 exact k):G:=h k
theorem aE {G' G:Prop} (k:G') (h:G'→G:=by
 intro k hL1;(try dsimp only at hL1);(try simp only [Nat.reduceAdd,Nat.reduceSub] at hL1);refine ⟨_,rfl,?_⟩
 try simp only [Act.put,List.setIfInBounds_toArray,List.set_cons_zero,List.set_cons_succ]
 revert hL1;exact k):G:=h k
theorem aU {G' G:Prop} (k:G') (h:G'→G:=by
 intro k;first | (with_reducible show wpList _ _ _ (⟨_,.load _ _,_,_,_,some _⟩ :: _) _ _) | (with_reducible show wpList _ _ _ (⟨_,.call _,_,_,_,some _⟩ :: _) _ _)
 refine unguard rfl rfl rfl ?_;exact k):G:=h k
theorem aV {G' G:Prop} (k:G') (h:G'→G:=by
 intro k;(with_reducible show wpList _ _ _ (⟨_,_,_,_,_,some _⟩ :: _) _ _)
 refine wpList_unguard rfl ?_;exact k):G:=h k
theorem aBp {G' G:Prop} (k:G') (h:G'→G:=by
 intro k
 first | refine lB hL rfl rfl rfl ?_ | refine lA hL rfl rfl ?_
 intro b w1 hx
 try simp only [Act.put,List.setIfInBounds_toArray,List.set_cons_zero,List.set_cons_succ]
 revert b w1 hx;exact k):G:=h k
theorem aL3S5p {G' G:Prop} (k:G') (h:G'→G:=by
 intro k
 first
  | ((with_reducible show wpList _ _ _ (⟨_,.load _ _,_,_,_,_⟩ :: _) _ _);first | refine lL hL rfl rfl rfl ?_ | refine lI hL rfl rfl rfl ?_ | refine lW hL rfl rfl rfl ?_)
  | ((with_reducible show wpList _ _ _ (⟨_,.store _ _ _,_,_,_,_⟩ :: _) _ _);first | refine lT hL rfl rfl rfl rfl rfl ?_ | refine lTs hL rfl rfl rfl rfl rfl ?_ | refine lTb hL rfl rfl rfl rfl rfl ?_ | refine lTp hL rfl rfl rfl rfl rfl ?_ | refine lS hL rfl rfl rfl rfl rfl ?_)
 intro w1 hx
 try simp only [Act.put,List.setIfInBounds_toArray,List.set_cons_zero,List.set_cons_succ]
 revert w1 hx;exact k):G:=h k
theorem aL3S6p {G' G:Prop} (k:G') (h:G'→G:=by
 intro k
 first
  | ((with_reducible show wpList _ _ _ (⟨_,.load _ _,_,_,_,_⟩ :: _) _ _);first | refine lL hL rfl rfl rfl ?_ | refine lI hL rfl rfl rfl ?_ | refine lW hL rfl rfl rfl ?_)
  | ((with_reducible show wpList _ _ _ (⟨_,.store _ _ _,_,_,_,_⟩ :: _) _ _);first | refine lT hL rfl rfl rfl rfl rfl ?_ | refine lTs hL rfl rfl rfl rfl rfl ?_ | refine lTb hL rfl rfl rfl rfl rfl ?_ | refine lTp hL rfl rfl rfl rfl rfl ?_ | refine lS hL rfl rfl rfl rfl rfl ?_ | refine lSp hL rfl rfl rfl rfl rfl ?_)
 intro w1 hx
 try simp only [Act.put,List.setIfInBounds_toArray,List.set_cons_zero,List.set_cons_succ]
 revert w1 hx;exact k):G:=h k
theorem aL4S2C9p {G' G:Prop} (k:G') (h:G'→G:=by
 intro k
 first
  | ((with_reducible show wpList _ _ _ (⟨_,.load _ _,_,_,_,_⟩ :: _) _ _);first | refine lL hL rfl rfl rfl ?_ | refine lI hL rfl rfl rfl ?_ | refine lW hL rfl rfl rfl ?_ | refine lR hL rfl rfl rfl ?_)
  | ((with_reducible show wpList _ _ _ (⟨_,.store _ _ _,_,_,_,_⟩ :: _) _ _);first | refine lS hL rfl rfl rfl rfl rfl ?_ | refine lT hL rfl rfl rfl rfl rfl ?_)
  | ((with_reducible show wpList _ _ _ (⟨_,.call _,_,_,_,_⟩ :: _) _ _);first | refine lC2 hL rfl rfl rfl rfl ?_ | refine lC1 hL rfl rfl rfl ?_ | refine lC3 hL rfl rfl rfl rfl ?_ | refine lC4 hL rfl rfl rfl rfl ?_ | refine lC0 hL rfl rfl ?_ | refine lC5 hL rfl rfl rfl ?_ | refine lG2 hL rfl rfl rfl rfl ?_ | refine lG1 hL rfl rfl rfl ?_ | refine lG0 hL rfl rfl ?_)
 intro w1 hx
 try simp only [Act.put,List.setIfInBounds_toArray,List.set_cons_zero,List.set_cons_succ]
 revert w1 hx;exact k):G:=h k
theorem aL4S2C9q {G' G:Prop} (k:G') (h:G'→G:=by
 intro k
 first
  | ((with_reducible show wpList _ _ _ (⟨_,.load _ _,_,_,_,_⟩ :: _) _ _);first | refine lL hL rfl rfl rfl ?_ | refine lI hL rfl rfl rfl ?_ | refine lW hL rfl rfl rfl ?_ | refine lR hL rfl rfl rfl ?_)
  | ((with_reducible show wpList _ _ _ (⟨_,.store _ _ _,_,_,_,_⟩ :: _) _ _);first | refine lS hL rfl rfl rfl rfl rfl ?_ | refine lT hL rfl rfl rfl rfl rfl ?_)
  | ((with_reducible show wpList _ _ _ (⟨_,.call _,_,_,_,_⟩ :: _) _ _);first | refine lC2 hL rfl rfl rfl rfl ?_ | refine lC1 hL rfl rfl rfl ?_ | refine lC3 hL rfl rfl rfl rfl ?_ | refine lC4 hL rfl rfl rfl rfl ?_ | refine lC0 hL rfl rfl ?_ | refine lC5 hL rfl rfl rfl ?_ | refine lG2 hL rfl rfl rfl rfl ?_ | refine lG1 hL rfl rfl rfl ?_ | refine lG0 hL rfl rfl ?_)
 intro w1 hx
 revert w1 hx;exact k):G:=h k
theorem aX1A1p {G' G:Prop} (k:G') (h:G'→G:=by
 intro k
 first
  | ((with_reducible show wpList _ _ _ (⟨_,.box _ _,_,_,_,_⟩ :: _) _ _);first | refine lB hL rfl rfl rfl ?_)
  | ((with_reducible show wpList _ _ _ (⟨_,.alloc _,_,_,_,_⟩ :: _) _ _);first | refine lA hL rfl rfl ?_)
 intro b w1 hx
 try simp only [Act.put,List.setIfInBounds_toArray,List.set_cons_zero,List.set_cons_succ]
 revert b w1 hx;exact k):G:=h k
theorem aX1A1q {G' G:Prop} (k:G') (h:G'→G:=by
 intro k
 first
  | ((with_reducible show wpList _ _ _ (⟨_,.box _ _,_,_,_,_⟩ :: _) _ _);first | refine lB hL rfl rfl rfl ?_)
  | ((with_reducible show wpList _ _ _ (⟨_,.alloc _,_,_,_,_⟩ :: _) _ _);first | refine lA hL rfl rfl ?_)
 intro b w1 hx
 revert b w1 hx;exact k):G:=h k
theorem gS (n:Tmp) {P:Program} {ops:Array Oper} {Q:Exit→Act→World→Prop} {a:Act} {w:World} {rest:List Oper} {op:Op} {t:TypeId} {ps:String} {af:Array Edge} {gd:_} (h:wpList P ops Q (⟨some n,op,t,ps,af,gd⟩ :: rest) a w):wpList P ops Q (⟨some n,op,t,ps,af,gd⟩ :: rest) a w:=h
theorem gC (n:Tmp) {P:Program} {ops:Array Oper} {Q:Exit→Act→World→Prop} {a:Act} {w:World} {rest:List Oper} {c:_} {t:TypeId} {ps:String} {af:Array Edge} {gd:_} (h:wpList P ops Q (⟨some n,.call c,t,ps,af,gd⟩ :: rest) a w):wpList P ops Q (⟨some n,.call c,t,ps,af,gd⟩ :: rest) a w:=h
section
variable {P:Program} {ops:Array Oper} {Q:Exit→Act→World→Prop} {md:Region.Mode} {S:World→Prop}
theorem tk (i:Nat) {oi:Oper} {v:Value} {fuel:Nat} {listed:Array Bool} {a:Act} {w:World} (hi:ops[i]?=some oi) (hy:YieldsIf P ops S oi v a) (hS:S w)
 (h:wpAnyH P md ops Q S fuel (listed.setIfInBounds i true) (a.put oi.dst v) w) (hs:Region.noSelect ops=true:=by kernel_rfl) (hf:Region.free md ops listed i=true:=by kernel_rfl)
 (hr:(Region.ready md ops listed).contains i=true:=by kernel_rfl) (hQ:∀ c a w,Q (.panic c) (a.put oi.dst v) w→Q (.panic c) a w:=by exact fun _ _ _ h=>h):wpAnyH P md ops Q S (fuel+1) listed a w :=
 wpAnyH_take hi hs hf hr hQ hy hS h
theorem tg (i:Nat) {oi:Oper} {v:Value} {fuel:Nat} {listed:Array Bool} {a:Act} {w:World} (hS:S w)
 (h:wpAnyH P md ops Q S fuel (listed.setIfInBounds i true) (a.put oi.dst v) w) (hi:ops[i]?=some oi:=by rfl) (hw:Region.wanted oi (yielded ops a.tmps)=true:=by rfl)
 (hy:∀ w,S w→(execOp a.eval oi).run P w= .ok (.value v) w:=by intro w hSw;go_simp;first | done | with_reducible rfl)
 (hs:Region.noSelect ops=true:=by kernel_rfl) (hf:Region.free md ops listed i=true:=by kernel_rfl)
 (hr:(Region.ready md ops listed).contains i=true:=by kernel_rfl) (hQ:∀ c a w,Q (.panic c) (a.put oi.dst v) w→Q (.panic c) a w:=by exact fun _ _ _ h=>h):wpAnyH P md ops Q S (fuel+1) listed a w :=
 wpAnyH_take hi hs hf hr hQ (Or.inl ⟨hw,hy⟩) hS h
theorem tz (i:Nat) {oi:Oper} {v:Value} {fuel:Nat} {listed:Array Bool} {a:Act} {w:World} (hS:S w)
 (h:wpAnyH P md ops Q S fuel (listed.setIfInBounds i true) (a.put oi.dst v) w) (hi:ops[i]?=some oi:=by rfl)
 (hy:YieldsIf P ops S oi v a:=by first | exact zL (by rfl) rfl rfl | exact zI (by rfl) rfl rfl | exact zC (by rfl) rfl rfl | exact yW rfl rfl rfl)
 (hs:Region.noSelect ops=true:=by kernel_rfl) (hf:Region.free md ops listed i=true:=by kernel_rfl)
 (hr:(Region.ready md ops listed).contains i=true:=by kernel_rfl) (hQ:∀ c a w,Q (.panic c) (a.put oi.dst v) w→Q (.panic c) a w:=by exact fun _ _ _ h=>h):wpAnyH P md ops Q S (fuel+1) listed a w :=
 wpAnyH_take hi hs hf hr hQ hy hS h
end
end Go.Proofs.YtoifhhljfaoejaaGreatDoor
namespace Go.Proofs.YtoifhhljfaoejaaGreatDoor
open Go.RowKit
def U (x:BitVec 32):Int:=(x.toNat:Int)
def B8 (x:BitVec 8):Int:=(x.toNat:Int)
def Q (x:BitVec 64):Int:=(x.toNat:Int)
theorem U_bd (x:BitVec 32):0≤U x∧U x<4294967296:=⟨Int.natCast_nonneg _,by have:=x.isLt;unfold U;omega⟩
theorem B8_bd (x:BitVec 8):0≤B8 x∧B8 x<256:=⟨Int.natCast_nonneg _,by have:=x.isLt;unfold B8;omega⟩
theorem Q_bd (x:BitVec 64):0≤Q x∧Q x<18446744073709551616:=⟨Int.natCast_nonneg _,by have:=x.isLt;unfold Q;omega⟩
theorem U_xor (a b:BitVec 32):bits .xor .u32 (U a) (U b)=U (a ^^^ b):=by
 unfold U;rw [u32_xor_nat _ _ a.isLt b.isLt,BitVec.toNat_xor]
theorem U_and (a b:BitVec 32):bits .and .u32 (U a) (U b)=U (a &&& b):=by
 unfold U;rw [u32_and_nat _ _ a.isLt b.isLt,BitVec.toNat_and]
theorem U_or (a b:BitVec 32):bits .or .u32 (U a) (U b)=U (a ||| b):=by
 unfold U;rw [u32_or_nat _ _ a.isLt b.isLt,BitVec.toNat_or]
theorem U_not (a:BitVec 32):bits .xor .u32 (if IntKind.u32.signed=true then -1 else IntKind.u32.max) (U a)=U (~~~a):=by
 have e:(if IntKind.u32.signed=true then (-1:Int) else IntKind.u32.max)=U (BitVec.allOnes 32):=by decide
 rw [e,U_xor,BitVec.allOnes_xor]
theorem U_add (a b:BitVec 32):IntKind.u32.wrap (U a+U b)=U (a+b):=by
 unfold U;rw [IntKind.wrap_u32',BitVec.toNat_add];omega
theorem U_add' (a b:BitVec 32):(U a+U b) % (4294967296:Int)=U (a+b):=by
 unfold U;rw [BitVec.toNat_add];omega
theorem Q_add (a b:BitVec 64):IntKind.u64.wrap (Q a+Q b)=Q (a+b):=by
 unfold Q;rw [IntKind.wrap_u64,BitVec.toNat_add];omega
theorem Q_ofNat (n:Nat) (h:n≤1000000000):Q (BitVec.ofNat 64 n)=(n:Int):=by
 unfold Q;rw [BitVec.toNat_ofNat];omega
theorem Q_addn (a:BitVec 64) (n:Nat) (h:n≤1000000000):IntKind.u64.wrap (Q a+(n:Int))=Q (a+BitVec.ofNat 64 n):=by
 rw [← Q_ofNat n h,Q_add]
theorem Q_addn' (a:BitVec 64) (n:Nat) (h:n≤1000000000):(Q a+(n:Int)) % (18446744073709551616:Int)=Q (a+BitVec.ofNat 64 n):=by
 rw [← Q_addn a n h,IntKind.wrap_u64]
theorem B8_xor (a b:BitVec 8):bits .xor .u8 (B8 a) (B8 b)=B8 (a ^^^ b):=by
 unfold B8;rw [u8_xor_nat _ _ a.isLt b.isLt,BitVec.toNat_xor]
theorem U_shr (a:BitVec 32) (n:Nat):U a / ((2 ^ n:Nat):Int)=U (a >>> n):=by
 unfold U;rw [BitVec.toNat_ushiftRight,Nat.shiftRight_eq_div_pow];norm_cast
theorem U_shl (a:BitVec 32) (n:Nat):U a*((2 ^ n:Nat):Int) % 4294967296=U (a <<< n):=by
 unfold U;rw [BitVec.toNat_shiftLeft,Nat.shiftLeft_eq,Int.natCast_emod,Int.natCast_mul];rfl
theorem B8_wide (y:BitVec 8):B8 y=U (y.setWidth 32):=by
 unfold B8 U;rw [BitVec.toNat_setWidth];have:=y.isLt;omega
theorem U_shr3 (x:BitVec 32):U x / (8:Int)=U (x >>> 3):=U_shr x 3
theorem U_shr10 (x:BitVec 32):U x / (1024:Int)=U (x >>> 10):=U_shr x 10
theorem U_shl8 (x:BitVec 32):U x*(256:Int) % (4294967296:Int)=U (x <<< 8):=U_shl x 8
theorem i64_and_nat (a b:Nat) (ha:a<9223372036854775808) (hb:b<9223372036854775808):bits .and .i64 (a:Int) (b:Int)=((a &&& b:Nat):Int):=by
 have hx:a &&& b<2 ^ 63:=Nat.and_lt_two_pow _ (by omega)
 show IntKind.i64.wrap ((BitVec.ofInt 64 (a:Int) &&& BitVec.ofInt 64 (b:Int)).toNat:Int)=_
 rw [BitVec.toNat_and,ofInt_u64 a (by omega),ofInt_u64 b (by omega),IntKind.wrap_i64]
 omega
theorem i64_and255 (n:Nat) (h:n<9223372036854775808):bits .and .i64 (n:Int) (255:Int)=((n % 256:Nat):Int):=by
 have:=i64_and_nat n 255 h (by omega)
 rw [nat_mask8] at this
 exact this
def row (n:Nat) (S:Nat→Value):Array Value:=((List.range n).map S).toArray
def upd {α:Type} (f:Nat→α) (i:Nat) (v:α):Nat→α:=fun j=>if j=i then v else f j
theorem row_size (n:Nat) (S:Nat→Value):(row n S).size=n:=by simp [row]
theorem row_get {n i:Nat} (S:Nat→Value) (h:i<n):(row n S)[i]?=some (S i):=by simp [row,h]
theorem row_congr {n:Nat} {S S':Nat→Value} (h:∀ i,i<n→S i=S' i):row n S=row n S':=by
 unfold row;congr 1;exact List.map_congr_left fun i hi=>h i (List.mem_range.1 hi)
theorem row_set {n i:Nat} (S:Nat→Value) (v:Value) (h:i<n):(row n S).setIfInBounds i v=row n (upd S i v):=by
 apply Array.ext'
 apply List.ext_getElem?
 intro j
 simp only [row,Array.toList_setIfInBounds,List.getElem?_set,List.length_map,List.length_range,List.getElem?_map]
 by_cases hj:j<n
 ·rw [List.getElem?_range hj]
  by_cases e:i=j
  ·subst e;simp [upd,h]
  ·rw [if_neg e];simp [upd,Ne.symm e]
 ·rw [List.getElem?_eq_none (l:=List.range n) (by simpa using hj)]
  by_cases e:i=j
  ·omega
  ·rw [if_neg e];rfl
theorem cell_row {w:World} {g n i:Nat} {S:Nat→Value} {t:TypeId} {fr:Nat×Nat} (hg:w.heap[g]?=some (.cells (row n S) t fr)) (h:i<n):w.cell? ⟨g,i,none⟩=some (S i):=by
 rw [cell_of_row w g i _ t fr hg];exact row_get S h
theorem heap_set_row {w:World} {g n i:Nat} {S:Nat→Value} {t:TypeId} (v:Value) (hg:w.heap[g]?=some (.cells (row n S) t (0,0))) (h:i<n) :
 (w.setCell ⟨g,i,none⟩ v).heap[g]?=some (.cells (row n (upd S i v)) t (0,0)):=by
 rw [heap_setCell_same w g i _ t v hg,row_set S v h]
def rowU (n:Nat) (f:Nat→BitVec 32):Array Value:=row n fun i=> .int .u32 (U (f i))
def rowB (n:Nat) (f:Nat→BitVec 8):Array Value:=row n fun i=> .int .u8 (B8 (f i))
theorem rowU_size (n:Nat) (f:Nat→BitVec 32):(rowU n f).size=n:=row_size _ _
theorem rowB_size (n:Nat) (f:Nat→BitVec 8):(rowB n f).size=n:=row_size _ _
theorem cell_rowU {w:World} {g n i:Nat} {f:Nat→BitVec 32} {t:TypeId} {fr:Nat×Nat} (hg:w.heap[g]?=some (.cells (rowU n f) t fr)) (h:i<n):w.cell? ⟨g,i,none⟩=some (.int .u32 (U (f i))):=cell_row hg h
theorem cell_rowB {w:World} {g n i:Nat} {f:Nat→BitVec 8} {t:TypeId} {fr:Nat×Nat} (hg:w.heap[g]?=some (.cells (rowB n f) t fr)) (h:i<n):w.cell? ⟨g,i,none⟩=some (.int .u8 (B8 (f i))):=cell_row hg h
theorem heap_set_rowU {w:World} {g n i:Nat} {f:Nat→BitVec 32} {t:TypeId} (x:BitVec 32) (hg:w.heap[g]?=some (.cells (rowU n f) t (0,0))) (h:i<n) :
 (w.setCell ⟨g,i,none⟩ (.int .u32 (U x))).heap[g]?=some (.cells (rowU n (upd f i x)) t (0,0)):=by
 rw [heap_set_row _ hg h]
 congr 2
 exact row_congr fun j _=>by unfold upd;split <;> rfl
theorem heap_set_rowB {w:World} {g n i:Nat} {f:Nat→BitVec 8} {t:TypeId} (x:BitVec 8) (hg:w.heap[g]?=some (.cells (rowB n f) t (0,0))) (h:i<n) :
 (w.setCell ⟨g,i,none⟩ (.int .u8 (B8 x))).heap[g]?=some (.cells (rowB n (upd f i x)) t (0,0)):=by
 rw [heap_set_row _ hg h]
 congr 2
 exact row_congr fun j _=>by unfold upd;split <;> rfl
end Go.Proofs.YtoifhhljfaoejaaGreatDoor
namespace Go.Proofs.YtoifhhljfaoejaaGreatDoor
open Go.RowKit
section
variable {P:Program}
theorem wp_scope_from {c rest:Code} {Q:Exit→Act→World→Prop} {a:Act} {w:World} (l:Nat) (J:Act→World→Prop) (μ:Act→World→Nat) (hf:findLabel c l=some (Code.skip.seq rest))
 (pass:∀ a w,J a w→rest.wp P (Exit.jump l (fun a' w'=>J a' w'∧μ a' w'<μ a w) Q) a w)
 (first:(∀ a w,J a w→rest.wp P (Exit.jump l J Q) a w)→c.wp P (Exit.jump l J Q) a w):(Code.scope c).wp P Q a w :=
 wp_scope_jumps l J μ hf (first fun a w h=>Code.wp_mono (fun e a w q=>by
  cases e with
  | goto l'=>exact ⟨q.1,q.2.1⟩
  | normal=>exact q
  | exit id=>exact q
  | ret=>exact q
  | panic ch=>exact q
  | outgrown=>exact q) (pass a w h)) fun a w h=>wp_seq_k fun K hK=>wp_skip (hK _ _ (pass a w h))
theorem run_alloc_row {t:TypeId} {n:Nat} {S:Nat→Value} (hz:(P.info? t).map (fun i=>(i.zero,i.size))=some (some (.agg (row n S)),n)) (w:World) (v:Value) :
 (Instr.alloc t true v).run P w= .ok (.pointer (some ⟨w.heap.size,0,none⟩)) (w.alloc (.cells (row n S) t)):=by
 have h:=(zero_of_info (P:=P) hz).1 w
 unfold Instr.alloc
 simp only [Sem.run_bind,h,Result.andThen_ok,newVar,newRow,newObj,Sem.run,Sem.run_pure,Value.cells]
 rfl
theorem wpList_alloc_row {ops:Array Oper} {rest:List Oper} {o:Oper} {a:Act} {w:World} {Q:Exit→Act→World→Prop} (hg:o.guard=none) (t:TypeId) (ho:o.op= .alloc t)
 (n:Nat) (S:Nat→Value) (hz:(P.info? t).map (fun i=>(i.zero,i.size))=some (some (.agg (row n S)),n))
 (h:wpList P ops Q rest (a.put o.dst (.pointer (some ⟨w.heap.size,0,none⟩))) (w.alloc (.cells (row n S) t))):wpList P ops Q (o :: rest) a w :=
 wpList_plain hg fun _ hK=>by
  unfold Oper.wp execOp
  simp only [ho,Sem.run_bind,run_alloc_row hz,Result.andThen_ok]
  exact hK _ _ h
theorem run_index_row {t e:TypeId} {n k:Nat} (S:Nat→Value) (ht:P.underlying t=some (.array n e)) (he:(P.info? e).map (·.size)=some 1)
 (hr:∀ w,(isAgg e).run P w= .ok false w) (hk:k<n) (w:World):(Instr.index t (.agg (row n S)) (.int .i64 k)).run P w= .ok (S k) w:=by
 cases hi:P.info? e with
 | none=>rw [hi] at he;cases he
 | some i =>
  have hs:i.size=1:=by simpa [hi] using he
  have h0:(0:Int)≤(k:Int)∧(k:Int)<(n:Int):=by omega
  simp only [Instr.index,asIntOf,Sem.run_bind,Sem.run_pure,Result.andThen_ok,run_underlying ht,if_pos h0,sizeOf,run_typeInfo _ hi,hs,part,hr,Bool.false_eq_true,if_false,Int.toNat_natCast,Nat.mul_one,row_get S hk]
theorem rangeAt_row {w:World} {b o n m:Nat} {S:Nat→Value} {t:TypeId} {fr:Nat×Nat} (hg:w.heap[b]?=some (.cells (row m S) t fr)) (h:o+n≤m) :
 w.rangeAt b o (row n fun i=>S (o+i)).toList:=fun j v hv=>by
 have hj:j<n:=by
  rcases Nat.lt_or_ge j n with h | h
  ·exact h
  ·rw [List.getElem?_eq_none (by simp [row_size];exact h)] at hv;cases hv
 have e:(row n fun i=>S (o+i)).toList[j]?=some (S (o+j)):=by
  rw [Array.getElem?_toList];exact row_get _ hj
 rw [e] at hv
 cases hv
 exact cell_row hg (by omega)
end
theorem rowU_oneCell (n:Nat) (f:Nat→BitVec 32):(rowU n f).all (·.oneCell')=true:=by
 simp [rowU,row,Value.oneCell']
theorem rowB_oneCell (n:Nat) (f:Nat→BitVec 8):(rowB n f).all (·.oneCell')=true:=by
 simp [rowB,row,Value.oneCell']
theorem heap_setRow_at {w:World} {g:Nat} {c c':Array Value} {t:TypeId} {fr:Nat×Nat} (hg:w.heap[g]?=some (.cells c t fr)):(w.setRow g c').heap[g]?=some (.cells c' t fr):=by
 simp only [World.setRow,Array.getElem?_modify,if_pos trivial,hg,Option.map_some]
theorem heap_setRow_far {w:World} {g k:Nat} {c':Array Value} (h:k≠g):(w.setRow g c').heap[k]?=w.heap[k]?:=by
 simp only [World.setRow,Array.getElem?_modify]
 rw [if_neg (Ne.symm h)]
theorem below_setRow {B:Nat} {a w:World} (h:Below B a w) {g:Nat} (hg:B≤g) (c:Array Value):Below B a (w.setRow g c) :=
 h.trans ⟨rfl,rfl,rfl,by simp,fun k hk=>heap_setRow_far (by omega)⟩
theorem grown_of_below {w w':World} {r:Option Nat} (h:Below w.heap.size w w'):w.grownBy w' r:=⟨h.os,h.tape,h.output,h.size,fun k hk _=>h.block k hk⟩
theorem grown_refl (w:World) (r:Option Nat):w.grownBy w r:=⟨rfl,rfl,rfl,Nat.le_refl _,fun _ _ _=>rfl⟩
theorem grown_trans {a b c:World} {r:Option Nat} (h:a.grownBy b r) (k:b.grownBy c r):a.grownBy c r :=
 ⟨k.os.trans h.os,k.tape.trans h.tape,k.output.trans h.output,Nat.le_trans h.size k.size,fun i hi hr=>(k.block i (Nat.lt_of_lt_of_le hi h.size) hr).trans (h.block i hi hr)⟩
theorem grown_drewN {a b:World} {r:Option Nat} (h:a.grownBy b r) (n:Nat):a.grownBy (b.drewN n) r:=⟨h.os,h.tape,h.output,h.size,h.block⟩
theorem grown_drew {a b:World} {r:Option Nat} (h:a.grownBy b r):a.grownBy b.drew r:=⟨h.os,h.tape,h.output,h.size,h.block⟩
theorem grown_alloc {a b:World} {r:Option Nat} (h:a.grownBy b r) (o:Obj):a.grownBy (b.alloc o) r :=
 ⟨h.os,h.tape,h.output,by have:=h.size;simp;omega,fun k hk hr=>(Below.heap_alloc b o k (Nat.lt_of_lt_of_le hk h.size)).trans (h.block k hk hr)⟩
theorem grown_setRow {a b:World} {r:Option Nat} (h:a.grownBy b r) {g:Nat} (hg:a.heap.size≤g∨r=some g) (c:Array Value):a.grownBy (b.setRow g c) r :=
 ⟨h.os,h.tape,h.output,by have:=h.size;simpa using this,fun k hk hr=>(heap_setRow_far (fun e=>by subst e;exact hg.elim (fun h=>by omega) (fun h=>hr h.symm))).trans (h.block k hk hr)⟩
theorem grown_setCell {a b:World} {r:Option Nat} (h:a.grownBy b r) {x:Addr} (hx:a.heap.size≤x.block∨r=some x.block) (v:Value):a.grownBy (b.setCell x v) r :=
 ⟨h.os,h.tape,h.output,by have:=h.size;simpa [World.setCell] using this,fun k hk hr=>(heap_setCell_other b x k v (fun e=>by subst e;exact hx.elim (fun h=>by omega) (fun h=>hr h.symm))).trans (h.block k hk hr)⟩
end Go.Proofs.YtoifhhljfaoejaaGreatDoor
namespace Go.Proofs.YtoifhhljfaoejaaGreatDoor
section
variable {P:Program} {ops:Array Oper} {Q:Exit→Act→World→Prop} {S:World→Prop}
def planGo (ops:Array Oper):List Nat→List Bool→Array Bool→Bool
 | [],_,listed=>(Region.ready .any ops listed) == []
 | i :: ord,b :: fl,listed =>
  decide (i<ops.size) && (if b then Region.free .any ops listed i && (Region.ready .any ops listed).contains i else (Region.ready .any ops listed) == [i]) && planGo ops ord fl (listed.setIfInBounds i true)
 | _ :: _,[],_=>false
def planB (ops:Array Oper) (ord:List Nat) (fl:List Bool):Bool:=Region.noSelect ops && (ord.length == ops.size) && planGo ops ord fl (Array.replicate ops.size false)
def seqH (P:Program) (ops:Array Oper) (Q:Exit→Act→World→Prop) (S:World→Prop):List Bool→List Oper→Act→World→Prop
 | true :: fl,o :: l,a,w=>∃ v,YieldsIf P ops S o v a∧seqH P ops Q S fl l (a.put o.dst v) w
 | false :: fl,o :: l,a,w=>∀ K:Act→World→Prop,Shut (∀ a w,S w→(S w→seqH P ops Q S fl l a w)→K a w)→if Region.wanted o (yielded ops a.tmps)=true then Oper.wp P o a w K Q else K (a.put o.dst undef) w
 | _,_,a,w=>Q .normal a w
theorem seqH_take {fl:List Bool} {o:Oper} {l:List Oper} {a:Act} {w:World} {v:Value} (hy:YieldsIf P ops S o v a) (h:seqH P ops Q S fl l (a.put o.dst v) w):seqH P ops Q S (true :: fl) (o :: l) a w:=⟨v,hy,h⟩
theorem seqH_go {fl:List Bool} {o:Oper} {l:List Oper} {a:Act} {w:World} (h:∀ K:Act→World→Prop,Shut (∀ a w,S w→(S w→seqH P ops Q S fl l a w)→K a w)→if Region.wanted o (yielded ops a.tmps)=true then Oper.wp P o a w K Q else K (a.put o.dst undef) w) :
 seqH P ops Q S (false :: fl) (o :: l) a w:=h
theorem seqH_nil {fl:List Bool} {a:Act} {w:World} (h:Q .normal a w):seqH P ops Q S fl [] a w:=by
 rcases fl with _ | ⟨_ | _,_⟩ <;> exact h
theorem plan_all (hs:Region.noSelect ops=true) (hQ:∀ c d v a w,Q (.panic c) (a.put d v) w→Q (.panic c) a w):∀ (ord:List Nat) (fl:List Bool) (listed:Array Bool) (a:Act) (w:World),
 planGo ops ord fl listed=true→S w→seqH P ops Q S fl (ord.filterMap (ops[·]?)) a w→wpAnyH P .any ops Q S ord.length listed a w
 | [],fl,listed,a,w,hc,_,h=>by
  have hq:Q .normal a w:=by rcases fl with _ | ⟨_ | _,_⟩ <;> exact h
  exact wpAnyH_done (by simpa [planGo] using hc) hq _
 | i :: ord,[],listed,a,w,hc,_,_=>by simp [planGo] at hc
 | i :: ord,b :: fl,listed,a,w,hc,hS,h=>by
  unfold planGo at hc
  rw [Bool.and_eq_true,Bool.and_eq_true] at hc
  obtain ⟨⟨h1,h2⟩,h3⟩:=hc
  have hlt:i<ops.size:=of_decide_eq_true h1
  have hi:ops[i]?=some ops[i]:=Array.getElem?_eq_getElem hlt
  rw [List.filterMap_cons,hi] at h
  cases b with
  | true =>
   obtain ⟨v,hy,hr⟩:=h
   simp only [if_true] at h2
   rw [Bool.and_eq_true] at h2
   exact wpAnyH_take hi hs h2.1 h2.2 (fun c a w=>hQ c _ _ a w) hy hS (plan_all hs hQ ord fl _ _ _ h3 hS hr)
  | false =>
   simp only [Bool.false_eq_true,if_false] at h2
   refine wpAnyH_ready (rs:=[i]) (by simpa using h2) (by simp) (AllReadyH.cons hi (fun K hK=>?_) AllReadyH.nil)
   exact h K (fun a w hS hW=>hK.out a w hS fun hS=>plan_all hs hQ ord fl _ _ _ h3 hS (hW hS))
theorem wp_region_plan {id:Nat} {a:Act} {w:World} (ord:List Nat) (fl:List Bool) (hm:P.follows .mixedOrders=true) (hc:planB ops ord fl=true) (hS:S w.drew)
 (h:S w.drew→seqH P ops (NoPanic Q) S fl (ord.filterMap (ops[·]?)) a w.drew):(Code.region id ops true).wp P Q a w:=by
 unfold planB at hc
 rw [Bool.and_eq_true,Bool.and_eq_true] at hc
 obtain ⟨⟨h1,h2⟩,h3⟩:=hc
 have hl:ord.length=ops.size:=by simpa using h2
 refine wp_region_noPanic (wp_region_held_drew hm hS fun hS=>?_)
 rw [← hl]
 exact plan_all h1 (fun _ _ _ _ _ h=>h) ord fl _ a _ (by rw [hl];exact h3) hS (h hS)
end
end Go.Proofs.YtoifhhljfaoejaaGreatDoor
