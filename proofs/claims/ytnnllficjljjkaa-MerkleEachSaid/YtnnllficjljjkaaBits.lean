/-
  Words of 8, 32 and 64 bits as the model's integers: what each operation on them is; rows of cells by an index function. No program in sight.
-/
import Derived.Laws.BitsAllLaws
import Derived.Laws.Bits64
import Derived.Laws.Rows
import Derived.Below
import Derived.WalkArith
namespace Go.Proofs.Ytnnllficjljjkaa
open Go.RowKit

/-! ### words -/
def U (x : BitVec 32) : Int := (x.toNat : Int)
def B8 (x : BitVec 8) : Int := (x.toNat : Int)
def Q (x : BitVec 64) : Int := (x.toNat : Int)

theorem U_bd (x : BitVec 32) : 0 ≤ U x ∧ U x < 4294967296 := ⟨Int.natCast_nonneg _, by have := x.isLt; unfold U; omega⟩
theorem B8_bd (x : BitVec 8) : 0 ≤ B8 x ∧ B8 x < 256 := ⟨Int.natCast_nonneg _, by have := x.isLt; unfold B8; omega⟩
theorem Q_bd (x : BitVec 64) : 0 ≤ Q x ∧ Q x < 18446744073709551616 := ⟨Int.natCast_nonneg _, by have := x.isLt; unfold Q; omega⟩
theorem U_inj {x y : BitVec 32} (h : U x = U y) : x = y := BitVec.eq_of_toNat_eq (Int.ofNat_inj.1 h)
theorem B8_inj {x y : BitVec 8} (h : B8 x = B8 y) : x = y := BitVec.eq_of_toNat_eq (Int.ofNat_inj.1 h)

theorem U_xor (a b : BitVec 32) : bits .xor .u32 (U a) (U b) = U (a ^^^ b) := by
  unfold U; rw [u32_xor_nat _ _ a.isLt b.isLt, BitVec.toNat_xor]
theorem U_and (a b : BitVec 32) : bits .and .u32 (U a) (U b) = U (a &&& b) := by
  unfold U; rw [u32_and_nat _ _ a.isLt b.isLt, BitVec.toNat_and]
theorem U_or (a b : BitVec 32) : bits .or .u32 (U a) (U b) = U (a ||| b) := by
  unfold U; rw [u32_or_nat _ _ a.isLt b.isLt, BitVec.toNat_or]
theorem U_not (a : BitVec 32) : bits .xor .u32 (if IntKind.u32.signed = true then -1 else IntKind.u32.max) (U a) = U (~~~a) := by
  have e : (if IntKind.u32.signed = true then (-1 : Int) else IntKind.u32.max) = U (BitVec.allOnes 32) := by decide
  rw [e, U_xor, BitVec.allOnes_xor]
theorem U_add (a b : BitVec 32) : IntKind.u32.wrap (U a + U b) = U (a + b) := by
  unfold U; rw [IntKind.wrap_u32', BitVec.toNat_add]; omega
theorem U_add' (a b : BitVec 32) : (U a + U b) % (4294967296 : Int) = U (a + b) := by
  unfold U; rw [BitVec.toNat_add]; omega
theorem Q_add (a b : BitVec 64) : IntKind.u64.wrap (Q a + Q b) = Q (a + b) := by
  unfold Q; rw [IntKind.wrap_u64, BitVec.toNat_add]; omega
theorem Q_ofNat (n : Nat) (h : n ≤ 1000000000) : Q (BitVec.ofNat 64 n) = (n : Int) := by
  unfold Q; rw [BitVec.toNat_ofNat]; omega
theorem Q_addn (a : BitVec 64) (n : Nat) (h : n ≤ 1000000000) : IntKind.u64.wrap (Q a + (n : Int)) = Q (a + BitVec.ofNat 64 n) := by
  rw [← Q_ofNat n h, Q_add]
theorem Q_addn' (a : BitVec 64) (n : Nat) (h : n ≤ 1000000000) : (Q a + (n : Int)) % (18446744073709551616 : Int) = Q (a + BitVec.ofNat 64 n) := by
  rw [← Q_addn a n h, IntKind.wrap_u64]
theorem B8_xor (a b : BitVec 8) : bits .xor .u8 (B8 a) (B8 b) = B8 (a ^^^ b) := by
  unfold B8; rw [u8_xor_nat _ _ a.isLt b.isLt, BitVec.toNat_xor]
theorem B8_or (a b : BitVec 8) : bits .or .u8 (B8 a) (B8 b) = B8 (a ||| b) := by
  unfold B8; rw [u8_or_nat _ _ a.isLt b.isLt, BitVec.toNat_or]
theorem U_shr (a : BitVec 32) (n : Nat) : U a / ((2 ^ n : Nat) : Int) = U (a >>> n) := by
  unfold U; rw [BitVec.toNat_ushiftRight, Nat.shiftRight_eq_div_pow]; norm_cast
theorem U_shl (a : BitVec 32) (n : Nat) : U a * ((2 ^ n : Nat) : Int) % 4294967296 = U (a <<< n) := by
  unfold U; rw [BitVec.toNat_shiftLeft, Nat.shiftLeft_eq, Int.natCast_emod, Int.natCast_mul]; rfl

theorem B8_wide (y : BitVec 8) : B8 y = U (y.setWidth 32) := by
  unfold B8 U; rw [BitVec.toNat_setWidth]; have := y.isLt; omega
theorem U_shr3 (x : BitVec 32) : U x / (8 : Int) = U (x >>> 3) := U_shr x 3
theorem U_shr10 (x : BitVec 32) : U x / (1024 : Int) = U (x >>> 10) := U_shr x 10
theorem U_shl8 (x : BitVec 32) : U x * (256 : Int) % (4294967296 : Int) = U (x <<< 8) := U_shl x 8

theorem i64_and_nat (a b : Nat) (ha : a < 9223372036854775808) (hb : b < 9223372036854775808) : bits .and .i64 (a : Int) (b : Int) = ((a &&& b : Nat) : Int) := by
  have hx : a &&& b < 2 ^ 63 := Nat.and_lt_two_pow _ (by omega)
  show IntKind.i64.wrap ((BitVec.ofInt 64 (a : Int) &&& BitVec.ofInt 64 (b : Int)).toNat : Int) = _
  rw [BitVec.toNat_and, ofInt_u64 a (by omega), ofInt_u64 b (by omega), IntKind.wrap_i64]
  omega
theorem i64_and255 (n : Nat) (h : n < 9223372036854775808) : bits .and .i64 (n : Int) (255 : Int) = ((n % 256 : Nat) : Int) := by
  have := i64_and_nat n 255 h (by omega)
  rw [nat_mask8] at this
  exact this

/-! ### rows -/
def row (n : Nat) (S : Nat → Value) : Array Value := ((List.range n).map S).toArray
def upd {α : Type} (f : Nat → α) (i : Nat) (v : α) : Nat → α := fun j => if j = i then v else f j

theorem row_size (n : Nat) (S : Nat → Value) : (row n S).size = n := by simp [row]
theorem row_get {n i : Nat} (S : Nat → Value) (h : i < n) : (row n S)[i]? = some (S i) := by simp [row, h]
theorem row_congr {n : Nat} {S S' : Nat → Value} (h : ∀ i, i < n → S i = S' i) : row n S = row n S' := by
  unfold row; congr 1; exact List.map_congr_left fun i hi => h i (List.mem_range.1 hi)
theorem row_set {n i : Nat} (S : Nat → Value) (v : Value) (h : i < n) : (row n S).setIfInBounds i v = row n (upd S i v) := by
  apply Array.ext'
  apply List.ext_getElem?
  intro j
  simp only [row, Array.toList_setIfInBounds, List.getElem?_set, List.length_map, List.length_range, List.getElem?_map]
  by_cases hj : j < n
  · rw [List.getElem?_range hj]
    by_cases e : i = j
    · subst e; simp [upd, h]
    · rw [if_neg e]; simp [upd, Ne.symm e]
  · rw [List.getElem?_eq_none (l := List.range n) (by simpa using hj)]
    by_cases e : i = j
    · omega
    · rw [if_neg e]; rfl

theorem cell_row {w : World} {g n i : Nat} {S : Nat → Value} {t : TypeId} {fr : Nat × Nat} (hg : w.heap[g]? = some (.cells (row n S) t fr)) (h : i < n) : w.cell? ⟨g, i, none⟩ = some (S i) := by
  rw [cell_of_row w g i _ t fr hg]; exact row_get S h
theorem heap_set_row {w : World} {g n i : Nat} {S : Nat → Value} {t : TypeId} (v : Value) (hg : w.heap[g]? = some (.cells (row n S) t (0, 0))) (h : i < n) :
    (w.setCell ⟨g, i, none⟩ v).heap[g]? = some (.cells (row n (upd S i v)) t (0, 0)) := by
  rw [heap_setCell_same w g i _ t v hg, row_set S v h]

/-- A row of words; of bytes. -/
def rowU (n : Nat) (f : Nat → BitVec 32) : Array Value := row n fun i => .int .u32 (U (f i))
def rowB (n : Nat) (f : Nat → BitVec 8) : Array Value := row n fun i => .int .u8 (B8 (f i))
theorem rowU_size (n : Nat) (f : Nat → BitVec 32) : (rowU n f).size = n := row_size _ _
theorem rowB_size (n : Nat) (f : Nat → BitVec 8) : (rowB n f).size = n := row_size _ _
theorem cell_rowU {w : World} {g n i : Nat} {f : Nat → BitVec 32} {t : TypeId} {fr : Nat × Nat} (hg : w.heap[g]? = some (.cells (rowU n f) t fr)) (h : i < n) : w.cell? ⟨g, i, none⟩ = some (.int .u32 (U (f i))) := cell_row hg h
theorem cell_rowB {w : World} {g n i : Nat} {f : Nat → BitVec 8} {t : TypeId} {fr : Nat × Nat} (hg : w.heap[g]? = some (.cells (rowB n f) t fr)) (h : i < n) : w.cell? ⟨g, i, none⟩ = some (.int .u8 (B8 (f i))) := cell_row hg h
theorem heap_set_rowU {w : World} {g n i : Nat} {f : Nat → BitVec 32} {t : TypeId} (x : BitVec 32) (hg : w.heap[g]? = some (.cells (rowU n f) t (0, 0))) (h : i < n) :
    (w.setCell ⟨g, i, none⟩ (.int .u32 (U x))).heap[g]? = some (.cells (rowU n (upd f i x)) t (0, 0)) := by
  rw [heap_set_row _ hg h]
  congr 2
  exact row_congr fun j _ => by unfold upd; split <;> rfl
theorem heap_set_rowB {w : World} {g n i : Nat} {f : Nat → BitVec 8} {t : TypeId} (x : BitVec 8) (hg : w.heap[g]? = some (.cells (rowB n f) t (0, 0))) (h : i < n) :
    (w.setCell ⟨g, i, none⟩ (.int .u8 (B8 x))).heap[g]? = some (.cells (rowB n (upd f i x)) t (0, 0)) := by
  rw [heap_set_row _ hg h]
  congr 2
  exact row_congr fun j _ => by unfold upd; split <;> rfl

end Go.Proofs.Ytnnllficjljjkaa
