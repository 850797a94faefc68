/-
  Helpers: rows of bytes that a call lays, sums of one and two lists, numbers held against each other.
-/
import Derived.Test.YtnnllficjljjkaaSmall
import Derived.Test.YtnnllficjljjkaaEval
import Derived.Test.YtnnllficjljjkaaPlan
import Derived.Test.YtnnllficjljjkaaMake
import Derived.Test.YtnnllficjljjkaaCut
import Derived.Lib.SlBytesConst
namespace Go.Proofs.Ytnnllficjljjkaa
open Go.RowKit
set_option linter.unusedVariables false

theorem brow_num {w : World} {g c : Nat} {f : Nat → BitVec 8} {t : TypeId} {fr : Nat × Nat} (h : w.heap[g]? = some (.cells (rowB 32 f) t fr)) : BRow w (.slice (some ⟨g, 0, none⟩) 32 c) ((List.range 32).map f) :=
  ⟨_, c, rfl, (fun hc => by cases hc), fun _ => ⟨g, 0, rfl, (Array.getElem?_eq_some_iff.1 h).1, fun i hi => by
    have hi' : i < 32 := by simpa using hi
    rw [Nat.zero_add, cell_rowB h hi']
    simp⟩⟩
theorem brow_mk {w : World} {g c : Nat} {t : TypeId} {fr : Nat × Nat} (l : List (BitVec 8)) (h : w.heap[g]? = some (.cells (l.map fun x => Value.int .u8 (B8 x)).toArray t fr)) : BRow w (.slice (some ⟨g, 0, none⟩) l.length c) l :=
  ⟨_, c, rfl, (fun hc => by cases hc), fun _ => ⟨g, 0, rfl, (Array.getElem?_eq_some_iff.1 h).1, fun i hi => by
    rw [Nat.zero_add, cell_of_row w g _ _ _ _ h]
    simp [hi]⟩⟩
theorem brows_mk {w : World} {g c : Nat} {t : TypeId} {fr : Nat × Nat} (vs : List Value) (ms : List (List (BitVec 8))) (h : w.heap[g]? = some (.cells vs.toArray t fr)) (hl : vs.length = ms.length)
    (hb : ∀ (i : Nat) (h : i < ms.length), BRow w (vs[i]'(by omega)) ms[i]) : BRows w (.slice (some ⟨g, 0, none⟩) ms.length c) ms :=
  ⟨_, c, rfl, (fun hc => by cases hc), fun _ => ⟨g, 0, rfl, (Array.getElem?_eq_some_iff.1 h).1, fun i hi => by
    refine ⟨vs[i]'(by omega), ?_, hb i hi⟩
    rw [Nat.zero_add, cell_of_row w g _ _ _ _ h]
    simp [show i < vs.length by omega]⟩⟩
theorem brows_one {w : World} {g c : Nat} {t : TypeId} {fr : Nat × Nat} {v : Value} {m : List (BitVec 8)} (h : w.heap[g]? = some (.cells #[v] t fr)) (hb : BRow w v m) : BRows w (.slice (some ⟨g, 0, none⟩) 1 c) [m] :=
  brows_mk [v] [m] h rfl fun i hi => by
    obtain rfl : i = 0 := by simpa using hi
    exact hb
theorem brows_two {w : World} {g c : Nat} {t : TypeId} {fr : Nat × Nat} {v0 v1 : Value} {m0 m1 : List (BitVec 8)} (h : w.heap[g]? = some (.cells #[v0, v1] t fr)) (h0 : BRow w v0 m0) (h1 : BRow w v1 m1) : BRows w (.slice (some ⟨g, 0, none⟩) 2 c) [m0, m1] :=
  brows_mk [v0, v1] [m0, m1] h rfl fun i hi => by
    have : i = 0 ∨ i = 1 := by simp at hi; omega
    rcases this with rfl | rfl
    · exact h0
    · exact h1
theorem brows_three {w : World} {g c : Nat} {t : TypeId} {fr : Nat × Nat} {v0 v1 v2 : Value} {m0 m1 m2 : List (BitVec 8)} (h : w.heap[g]? = some (.cells #[v0, v1, v2] t fr)) (h0 : BRow w v0 m0) (h1 : BRow w v1 m1) (h2 : BRow w v2 m2) : BRows w (.slice (some ⟨g, 0, none⟩) 3 c) [m0, m1, m2] :=
  brows_mk [v0, v1, v2] [m0, m1, m2] h rfl fun i hi => by
    have : i = 0 ∨ i = 1 ∨ i = 2 := by simp at hi; omega
    rcases this with rfl | rfl | rfl
    · exact h0
    · exact h1
    · exact h2
theorem brows_four {w : World} {g c : Nat} {t : TypeId} {fr : Nat × Nat} {v0 v1 v2 v3 : Value} {m0 m1 m2 m3 : List (BitVec 8)} (h : w.heap[g]? = some (.cells #[v0, v1, v2, v3] t fr)) (h0 : BRow w v0 m0) (h1 : BRow w v1 m1) (h2 : BRow w v2 m2) (h3 : BRow w v3 m3) : BRows w (.slice (some ⟨g, 0, none⟩) 4 c) [m0, m1, m2, m3] :=
  brows_mk [v0, v1, v2, v3] [m0, m1, m2, m3] h rfl fun i hi => by
    have : i = 0 ∨ i = 1 ∨ i = 2 ∨ i = 3 := by simp at hi; omega
    rcases this with rfl | rfl | rfl | rfl
    · exact h0
    · exact h1
    · exact h2
    · exact h3

theorem num_eval (m : List (BitVec 8)) (hs : List (BitVec 32)) (h : blocksL (fun i => (pad m).getD i 0) ((pad m).length / 64) = hs) : (List.range 32).map (sha m) = (List.range 32).map (outOf fun j => hs.getD j 0) :=
  List.map_congr_left fun i hi => sha_at m hs h (List.mem_range.1 hi)

theorem below_keep {W w' w1 : World} (h : Below W.heap.size W w') (hb : Below w'.heap.size w' w1) : Below W.heap.size W w1 := h.trans (hb.mono h.size)
theorem below_allocS {W w' : World} (h : Below W.heap.size W w') (o : Obj) : Below W.heap.size W (w'.alloc o) := h.alloc h.size o

theorem eqlNum (f g : Nat → BitVec 8) (w : World) : (binOp .eql 25 (.agg (rowB 32 f)) (.agg (rowB 32 g))).run Try.prog w = .ok (.bool (eqB f g)) w :=
  run_eql_num f g Try.underlying25 (by kernel_rfl) Try.underlying5 (fun w => by kernel_rfl) w
theorem neqNum (f g : Nat → BitVec 8) (w : World) : (binOp .neq 25 (.agg (rowB 32 f)) (.agg (rowB 32 g))).run Try.prog w = .ok (.bool (!eqB f g)) w :=
  run_neq_num f g Try.underlying25 (by kernel_rfl) Try.underlying5 (fun w => by kernel_rfl) w
theorem loadNum {w : World} {g : Nat} {f : Nat → BitVec 8} {t : TypeId} {fr : Nat × Nat} (h : w.heap[g]? = some (.cells (rowB 32 f) t fr)) : (Instr.loadAt 25 (.pointer (some ⟨g, 0, none⟩))).run Try.prog w = .ok (.agg (rowB 32 f)) w := by
  have h1 := run_loadAt_mid (P := Try.prog) w g 0 25 (rowB 32 f).toList _ (fun j v hv => by
    rw [Nat.zero_add, cell_of_row w g j _ _ _ h]; simpa using hv) Try.underlying25 rfl (by rw [size32]; simp [rowB_size])
  rw [h1, Array.toArray_toList]

theorem keep_and {B R : World → Prop} (h : ∀ w, B w → R w) {w : World} (hb : B w) : B w ∧ R w := ⟨hb, h w hb⟩
theorem range_num {W : World} {g : Nat} {f : Nat → BitVec 8} {t : TypeId} {fr : Nat × Nat} (h : W.heap[g]? = some (.cells (rowB 32 f) t fr)) : ∀ w', Below W.heap.size W w' → w'.rangeAt g 0 (rowB 32 f).toList := fun w' hb j v hv => by
  have := (hb.block _ (Array.getElem?_eq_some_iff.1 h).1).trans h
  rw [Nat.zero_add, cell_of_row w' g j _ _ _ this]
  simpa using hv
theorem rowB_back (n : Nat) (f : Nat → BitVec 8) : (rowB n f).toList.toArray = rowB n f := Array.toArray_toList
theorem sum_one (v : Value) (m : List (BitVec 8)) (w : World) (hv : BRows w v [m]) (hm : m.length ≤ 1000000000) :
    Calls Try.prog 9 #[v] w fun e w' => e = .returned (.agg (rowB 32 (sha m))) ∧ Below w.heap.size w w' := by
  have := sum_any v [m] w hv (by simp) (by simpa using hm)
  simpa using this
theorem sum_two (v : Value) (m0 m1 : List (BitVec 8)) (w : World) (hv : BRows w v [m0, m1]) (hm : m0.length + m1.length ≤ 1000000000) :
    Calls Try.prog 9 #[v] w fun e w' => e = .returned (.agg (rowB 32 (sha (m0 ++ m1)))) ∧ Below w.heap.size w w' := by
  have := sum_any v [m0, m1] w hv (by simp) (by simpa using hm)
  simpa using this

theorem big_false {l : List (List (BitVec 8))} (h : bigB l = false) : l.length ≤ 30 ∧ l.flatten.length ≤ 30000 := by
  unfold bigB at h
  rw [Bool.or_eq_false_iff, List.any_eq_false] at h
  have h0 : l.length ≤ 30 := by have := h.1; simp at this; exact this
  refine ⟨h0, ?_⟩
  have key : ∀ (l : List (List (BitVec 8))), (∀ m ∈ l, m.length ≤ 1000) → l.flatten.length ≤ 1000 * l.length := by
    intro l
    induction l with
    | nil => intro _; simp
    | cons m l ih =>
      intro hm
      have h1 := hm m (by simp)
      have h2 := ih fun x hx => hm x (by simp [hx])
      simp only [List.flatten_cons, List.length_append, List.length_cons]
      omega
  have := key l fun m hm => by have := h.2 m hm; simp at this; exact this
  omega

theorem brow_row {w : World} {g n c : Nat} {f : Nat → BitVec 8} {t : TypeId} {fr : Nat × Nat} (h : w.heap[g]? = some (.cells (rowB n f) t fr)) : BRow w (.slice (some ⟨g, 0, none⟩) n c) ((List.range n).map f) :=
  ⟨some ⟨g, 0, none⟩, c, by rw [List.length_map, List.length_range], (fun hc => by cases hc), fun _ => ⟨g, 0, rfl, (Array.getElem?_eq_some_iff.1 h).1, fun i hi => by
    have hi' : i < n := by simpa using hi
    rw [Nat.zero_add, cell_rowB h hi']
    simp⟩⟩

theorem B8_add (a b : BitVec 8) : IntKind.u8.wrap (B8 a + B8 b) = B8 (a + b) := by
  unfold B8; rw [IntKind.wrap_u8', BitVec.toNat_add]; omega
theorem B8_add' (a b : BitVec 8) : (B8 a + B8 b) % (256 : Int) = B8 (a + b) := by
  unfold B8; rw [BitVec.toNat_add]; omega
theorem B8_of (k : Nat) : (k : Int) % (256 : Int) = B8 (BitVec.ofNat 8 k) := by
  unfold B8; rw [BitVec.toNat_ofNat]; omega
theorem B8_of' (k : Nat) : IntKind.u8.wrap (k : Int) = B8 (BitVec.ofNat 8 k) := by
  rw [IntKind.wrap_u8', B8_of]

/-- The first k bytes. -/
def upTo (f : Nat → BitVec 8) (k : Nat) : Nat → BitVec 8 := fun i => if i < k then f i else 0
theorem upTo_step (f : Nat → BitVec 8) (k : Nat) : upd (upTo f k) k (f k) = upTo f (k + 1) := by
  funext i
  unfold upd upTo
  by_cases e : i = k
  · subst e; simp
  · rw [if_neg e]
    by_cases hi : i < k
    · rw [if_pos hi, if_pos (by omega)]
    · rw [if_neg hi, if_neg (by omega)]
theorem upTo_zero (f : Nat → BitVec 8) : upTo f 0 = fun _ => 0 := by funext i; simp [upTo]


theorem yieldsIf_sameNum {ops : Array Oper} {S : World → Prop} {op : Oper} {a : Act} (hw : Region.wanted op (yielded ops a.tmps) = true) (x y : Operand) (ho : op.op = .binOp .eql 25 x y 25) (f : Nat → BitVec 8)
    (hx : a.eval x = .agg (rowB 32 f)) (hy : a.eval y = .agg (rowB 32 f)) : YieldsIf Try.prog ops S op (.bool true) a :=
  .inl ⟨hw, fun w _ => by
    have hg : (eqGuard .eql 25 x y (.agg (rowB 32 f)) (.agg (rowB 32 f))).run Try.prog w = .ok () w := run_eqGuard_agg _ _ _ _ _ _ _ (by kernel_rfl)
    unfold execOp
    simp only [ho, hx, hy, Sem.run_bind, hg, eqlNum, eqB_self, Result.andThen_ok, Sem.run_pure]⟩

theorem yieldsIf_sameNumNe {ops : Array Oper} {S : World → Prop} {op : Oper} {a : Act} (hw : Region.wanted op (yielded ops a.tmps) = true) (x y : Operand) (ho : op.op = .binOp .neq 25 x y 25) (f : Nat → BitVec 8)
    (hx : a.eval x = .agg (rowB 32 f)) (hy : a.eval y = .agg (rowB 32 f)) : YieldsIf Try.prog ops S op (.bool false) a :=
  .inl ⟨hw, fun w _ => by
    have hg : (eqGuard .neq 25 x y (.agg (rowB 32 f)) (.agg (rowB 32 f))).run Try.prog w = .ok () w := run_eqGuard_agg _ _ _ _ _ _ _ (by kernel_rfl)
    unfold execOp
    simp only [ho, hx, hy, Sem.run_bind, hg, neqNum, eqB_self, Bool.not_true, Result.andThen_ok, Sem.run_pure]⟩

end Go.Proofs.Ytnnllficjljjkaa
