/-
  Whole rows of numbers held against each other; bytes as strings.
-/
import Derived.Test.YtnnllficjljjkaaBytes
import Derived.Laws.StructEq
import Derived.Laws.BytesString
import Derived.Laws.BytesArg
namespace Go.Proofs.Ytnnllficjljjkaa
open Go.RowKit

/-- Are the first n alike? -/
def eqN (n : Nat) (f g : Nat → Int) : Bool := (List.range n).all fun i => f i == g i
theorem eqN_self (n : Nat) (f : Nat → Int) : eqN n f f = true := by simp [eqN]
theorem eqN_iff {n : Nat} {f g : Nat → Int} : eqN n f g = true ↔ ∀ i, i < n → f i = g i := by simp [eqN]
/-- Two hashes. -/
def eqB (f g : Nat → BitVec 8) : Bool := eqN 32 (fun i => B8 (f i)) fun i => B8 (g i)
theorem eqB_self (f : Nat → BitVec 8) : eqB f f = true := eqN_self _ _
theorem eqB_iff {f g : Nat → BitVec 8} : eqB f g = true ↔ ∀ i, i < 32 → f i = g i :=
  eqN_iff.trans ⟨fun h i hi => B8_inj (h i hi), fun h i hi => by rw [h i hi]⟩
theorem eqB_row {f g : Nat → BitVec 8} (h : eqB f g = true) : rowB 32 f = rowB 32 g := row_congr fun i hi => by rw [eqB_iff.1 h i hi]

section
variable {P : Program}

theorem run_equalIn_row {t e : TypeId} {n d : Nat} {k : IntKind} (f g : Nat → Int) (ht : P.underlying t = some (.array n e)) (hs : (P.info? e).map (·.size) = some 1) (he : P.underlying e = some (.int k))
    (hr : ∀ w, (isAgg e).run P w = .ok false w) (w : World) :
    (Op.equalIn (d + 2) t (.agg (row n fun i => .int k (f i))) (.agg (row n fun i => .int k (g i)))).run P w = .ok (eqN n f g) w := by
  cases hi : P.info? e with
  | none => rw [hi] at hs; cases hs
  | some i =>
    have hs : i.size = 1 := by simpa [hi] using hs
    have hp : ∀ (S : Nat → Value) (j : Nat), j < n → ∀ w, (part e (row n S) j).run P w = .ok (S j) w := by
      intro S j hj w
      simp only [part, Sem.run_bind, hr, Result.andThen_ok, Bool.false_eq_true, if_false, row_get S hj, Sem.run_pure]
    rw [Op.equalIn]
    simp only [Sem.run_bind, run_underlying ht, Result.andThen_ok, sizeOf, run_typeInfo _ hi, Sem.run_pure, hs, Nat.mul_one]
    rw [Std.Legacy.Range.forIn_eq_forIn_range']
    simp only [Std.Legacy.Range.size, Nat.sub_zero, Nat.div_one, Nat.add_one_sub_one]
    have key : ∀ (l : List Nat), (∀ j ∈ l, j < n) → (forIn (m := Sem) l ((none, ()) : Option Bool × Unit) fun j r => do
        let x ← part e (row n fun i => .int k (f i)) j
        let y ← part e (row n fun i => .int k (g i)) j
        let b ← Op.equalIn (d + 1) e x y
        if (!b) = true then pure (ForInStep.done (some false, ())) else pure (ForInStep.yield (none, ()))).run P w =
          .ok (if l.all (fun j => f j == g j) then (none, ()) else (some false, ())) w := by
      intro l hl
      induction l with
      | nil => simp
      | cons j l ih =>
        have hj := hl j (by simp)
        simp only [List.forIn_cons, Sem.run_bind, hp _ j hj, Result.andThen_ok, run_equalIn_int w d e k k _ _ he]
        by_cases hfg : f j = g j
        · simp only [hfg, beq_self_eq_true, Bool.not_true, Bool.false_eq_true, if_false, Sem.run_pure, Result.andThen_ok, List.all_cons, Bool.true_and]
          exact ih fun j hj => hl j (by simp [hj])
        · have : (f j == g j) = false := by simpa using hfg
          simp only [this, Bool.not_false, if_true, Sem.run_pure, Result.andThen_ok, List.all_cons, Bool.false_and, Bool.false_eq_true, if_false]
    have e0 : List.range' 0 n = List.range n := List.range_eq_range'.symm
    rw [e0, key (List.range n) (fun j hj => List.mem_range.1 hj)]
    show Result.andThen _ _ = _
    unfold eqN
    cases (List.range n).all fun j => f j == g j <;> simp

/-- 'a == b' and 'a != b' on hashes. -/
theorem run_eql_num {t e : TypeId} (f g : Nat → BitVec 8) (ht : P.underlying t = some (.array 32 e)) (hs : (P.info? e).map (·.size) = some 1) (he : P.underlying e = some (.int .u8))
    (hr : ∀ w, (isAgg e).run P w = .ok false w) (w : World) : (binOp .eql t (.agg (rowB 32 f)) (.agg (rowB 32 g))).run P w = .ok (.bool (eqB f g)) w := by
  rw [run_eql_struct]
  have := run_equalIn_row (P := P) (d := 9998) (fun i => B8 (f i)) (fun i => B8 (g i)) ht hs he hr w
  rw [show 9998 + 2 = 10000 from rfl] at this
  show Result.andThen ((Op.equalIn 10000 t (.agg (row 32 fun i => .int .u8 (B8 (f i)))) (.agg (row 32 fun i => .int .u8 (B8 (g i))))).run P w) _ = _
  rw [this]; rfl
theorem run_neq_num {t e : TypeId} (f g : Nat → BitVec 8) (ht : P.underlying t = some (.array 32 e)) (hs : (P.info? e).map (·.size) = some 1) (he : P.underlying e = some (.int .u8))
    (hr : ∀ w, (isAgg e).run P w = .ok false w) (w : World) : (binOp .neq t (.agg (rowB 32 f)) (.agg (rowB 32 g))).run P w = .ok (.bool (!eqB f g)) w := by
  rw [run_neq_struct]
  have := run_equalIn_row (P := P) (d := 9998) (fun i => B8 (f i)) (fun i => B8 (g i)) ht hs he hr w
  rw [show 9998 + 2 = 10000 from rfl] at this
  show Result.andThen ((Op.equalIn 10000 t (.agg (row 32 fun i => .int .u8 (B8 (f i)))) (.agg (row 32 fun i => .int .u8 (B8 (g i))))).run P w) _ = _
  rw [this]; rfl

/-- A list of bytes as a string. -/
def strB (l : List (BitVec 8)) : ByteArray := ⟨(l.map fun x => UInt8.ofNat x.toNat).toArray⟩
theorem strB_toList (l : List (BitVec 8)) : (strB l).toList = l.map fun x => UInt8.ofNat x.toNat := by rw [ByteArray.toList_eq]; rfl
theorem u8_inj {x y : BitVec 8} (h : UInt8.ofNat x.toNat = UInt8.ofNat y.toNat) : x = y := by
  have := congrArg UInt8.toNat h
  have hx := x.isLt
  have hy := y.isLt
  rw [UInt8.toNat_ofNat_of_lt' (by simpa [UInt8.size] using hx), UInt8.toNat_ofNat_of_lt' (by simpa [UInt8.size] using hy)] at this
  exact BitVec.eq_of_toNat_eq this
theorem strB_inj {a b : List (BitVec 8)} (h : strB a = strB b) : a = b := by
  have := congrArg ByteArray.toList h
  rw [strB_toList, strB_toList] at this
  exact (List.map_inj_right fun _ _ => u8_inj).1 this
theorem strB_beq (a b : List (BitVec 8)) : ((strB a).toList == (strB b).toList) = decide (a = b) := by
  rw [strB_toList, strB_toList]
  by_cases h : a = b
  · subst h; simp
  · rw [decide_eq_false h]
    rw [beq_eq_false_iff_ne]
    intro hc
    exact h ((List.map_inj_right fun _ _ => u8_inj).1 hc)

theorem run_string {w : World} {v : Value} {l : List (BitVec 8)} {src e dst : TypeId} (h : BRow w v l) (hs : P.underlying src = some (.slice e)) (he : P.underlying e = some (.int .u8)) (hd : P.underlying dst = some .string) :
    (convert src dst v).run P w = .ok (.string (strB l)) w := by
  obtain ⟨a, c, rfl, hn, hp⟩ := h
  rcases Nat.eq_zero_or_pos l.length with h0 | h0
  · obtain rfl : l = [] := List.eq_nil_of_length_eq_zero h0
    rw [run_convert_bytes_string w src dst e _ _ _ hs he hd]
    cases a with
    | none => simp [Conv.bytesToString]; rfl
    | some a =>
      have := run_bytesToString (P := P) w a 0 c [] (run_loadCells_list (P := P) w a [] (fun j v hj => by simp at hj))
      exact this
  · obtain ⟨b, off, rfl, _, hc⟩ := hp h0
    have := run_convert_bytes_arg (P := P) w src e hs he b off l.length c (l.map B8) (by simp) (fun i hi => by
      rw [hc i hi, List.getD_eq_getElem?_getD, List.getElem?_map, List.getElem?_eq_getElem hi]; rfl) dst hd
    rw [this]
    congr 2
    unfold strOfNums strB
    congr 2
    rw [List.map_map]
    rfl
end

end Go.Proofs.Ytnnllficjljjkaa
