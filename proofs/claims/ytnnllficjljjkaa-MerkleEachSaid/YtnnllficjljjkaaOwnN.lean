/-
  A row of the call's own that hashes are appended to.
-/
import Derived.Test.YtnnllficjljjkaaNums
namespace Go.Proofs.Ytnnllficjljjkaa
open Go.RowKit
set_option linter.unusedVariables false
set_option linter.unusedSimpArgs false

def encN (l : List (Nat → BitVec 8)) : List Value := l.flatMap fun f => (rowB 32 f).toList
theorem encN_length (l : List (Nat → BitVec 8)) : (encN l).length = l.length * 32 := by
  unfold encN
  induction l with
  | nil => rfl
  | cons f l ih => simp only [List.flatMap_cons, List.length_append, ih, List.length_cons, Array.length_toList, rowB_size]; omega
theorem encN_append (l m : List (Nat → BitVec 8)) : encN (l ++ m) = encN l ++ encN m := by simp [encN]
theorem rowB_get (f : Nat → BitVec 8) {j : Nat} (hj : j < 32) : (rowB 32 f).toList[j]? = some (.int .u8 (B8 (f j))) := by
  rw [Array.getElem?_toList]
  simp [rowB, row, hj]
theorem encN_get (l : List (Nat → BitVec 8)) : ∀ (i : Nat) (h : i < l.length) (j : Nat), j < 32 → (encN l)[i * 32 + j]? = some (.int .u8 (B8 (l[i] j))) := by
  induction l with
  | nil => intro i h; simp at h
  | cons f l ih =>
    intro i h j hj
    have hs : ((rowB 32 f).toList).length = 32 := by simp [rowB_size]
    show ((rowB 32 f).toList ++ encN l)[i * 32 + j]? = _
    cases i with
    | zero => rw [List.getElem?_append_left (by omega), Nat.zero_mul, Nat.zero_add, rowB_get f hj]; rfl
    | succ i =>
      rw [List.getElem?_append_right (by omega), hs, show (i + 1) * 32 + j - 32 = i * 32 + j by omega, ih i (by simpa using h) j hj]
      rfl
theorem encN_one {l : List (Nat → BitVec 8)} {u : Value} (h : u ∈ encN l) : u.oneCell' = true := by
  obtain ⟨f, _, hu⟩ := List.mem_flatMap.1 h
  exact Array.all_eq_true'.1 (rowB_oneCell 32 f) u (Array.mem_toList_iff.1 hu)

def OwnN (w : World) (base : Nat) (v : Value) (l : List (Nat → BitVec 8)) : Prop := w.ownsRow base 25 32 v l.length (encN l)
theorem OwnN.le {w : World} {b b' : Nat} {v : Value} {l : List (Nat → BitVec 8)} (h : OwnN w b v l) (hb : b' ≤ b) : OwnN w b' v l :=
  ⟨h.1, h.2.imp id fun ⟨g, cap, cur, e, h1, r⟩ => ⟨g, cap, cur, e, Nat.le_trans hb h1, r⟩⟩
theorem OwnN.nrow {w : World} {base : Nat} {v : Value} {l : List (Nat → BitVec 8)} (h : OwnN w base v l) : NRow w v l := by
  rcases h.2 with ⟨rfl, h0⟩ | ⟨g, cap, cur, rfl, _, hg, _, _, _, htake⟩
  · exact ⟨none, 0, by rw [h0], fun _ => rfl, fun hp => by omega⟩
  · refine ⟨_, cap, rfl, (fun hc => by cases hc), fun _ => ⟨g, 0, rfl, (Array.getElem?_eq_some_iff.1 hg).1, fun i hi j hj => ?_⟩⟩
    have hc := World.ownsRow.cells h (g := g) rfl (i * 32 + j) _ (encN_get l i hi j hj)
    have hadd : (⟨g, 0, none⟩ : Addr).add (i * 32 + j) = ⟨g, 0 + i * 32 + j, none⟩ := by
      rw [Addr.add_mid]; simp
    rw [hadd] at hc
    exact hc

theorem info_num : (Try.prog.info? 25).map (fun i => (i.zero, i.size, i.bytes)) = some (some (.agg (row 32 fun _ => .int .u8 0)), 32, 32) := by kernel_rfl

theorem wp_append_N {o : Oper} {a : Act} {w : World} {K : Act → World → Prop} {Q : Exit → Act → World → Prop} (s x : Operand)
    (ho : o.op = .call { callee := .builtin .append, args := #[s, x], argTypes := #[33, 33] })
    (base : Nat) (v : Value) (xs l : List (Nat → BitVec 8)) (hs : a.eval s = v) (hown : OwnN w base v xs) (hx : NRow w (a.eval x) l)
    (hsz : xs.length + l.length ≤ 1000000000) (hbase : base ≤ w.heap.size)
    (h : ∀ v' w', OwnN w' base v' (xs ++ l) → w.grownBy w' v.ownBlock → K (a.put o.dst v') w') : o.wp Try.prog a w K Q := by
  obtain ⟨i0, hi0, hz0, hz1, hz2⟩ := info_parts info_num
  obtain ⟨ad, c, e, hn, hp⟩ := hx
  cases ad with
  | none =>
    have hl : l = [] := by
      rcases Nat.eq_zero_or_pos l.length with h0 | h0
      · exact List.eq_nil_of_length_eq_zero h0
      · obtain ⟨_, _, hc, _⟩ := hp h0; cases hc
    subst hl
    rw [hn rfl] at e
    have hrun := run_append_owned_none (P := Try.prog) (w := w) base 33 o.type 25 i0 32 Try.underlying33 hi0 v _ _ hown
    unfold Oper.wp
    simp only [execOp, ho, resolve, invoke, builtin, Sem.run_bind, Sem.run_pure, Result.andThen_ok, List.map_toArray, List.map_cons, List.map_nil, hs, e]
    have hrun2 : (Builtin.append_ #[33, 33] o.type #[v, .slice none 0 0]).run Try.prog w = .ok v w := hrun
    simp only [List.length_nil, hrun2, Result.andThen_ok]
    exact h v w (by rw [List.append_nil]; exact hown) (grown_refl _ _)
  | some ad =>
    refine wp_append_own w s x 33 ho base 25 i0 _ 32 32 Try.underlying33 hi0 hz0 hz1 hz2 (by rfl) (by decide) v xs.length (encN xs) hs hown ad l.length c (encN l) e (encN_length l) ?_ (fun u hu => encN_one hu) (by unfold maxLen; omega) (by omega) hbase ?_
    · intro k u hk
      have hkl : k < l.length * 32 := by
        rcases Nat.lt_or_ge k (l.length * 32) with h | h
        · exact h
        · rw [List.getElem?_eq_none (by rw [encN_length]; exact h)] at hk; cases hk
      obtain ⟨b, off, hc, _, hcell⟩ := hp (by omega)
      cases hc
      have hq : k / 32 < l.length := by omega
      have := hcell (k / 32) hq (k % 32) (by omega)
      have hg := encN_get l (k / 32) hq (k % 32) (by omega)
      rw [show k / 32 * 32 + k % 32 = k by omega] at hg
      rw [hg] at hk
      rw [Addr.add_mid, show off + k = off + k / 32 * 32 + k % 32 by omega, this]
      exact hk
    · intro v' w' h1 h2 _
      refine h v' w' ?_ h2
      unfold OwnN
      rw [List.length_append, encN_append]
      exact h1

theorem wp_region_tree {P : Program} {ops : Array Oper} {Q : Exit → Act → World → Prop} {S : World → Prop} {id : Nat} {a : Act} {w : World} (n : Nat) (hm : P.follows .mixedOrders = true) (hn : ops.size = n) (hS : S w.drew)
    (h : S w.drew → wpAnyH P .any ops (NoPanic Q) S n (Array.replicate n false) a w.drew) : (Code.region id ops true).wp P Q a w := by
  subst hn
  exact wp_region_noPanic (wp_region_held_drew hm hS h)
theorem wp_alloc_row {P : Program} {o : Oper} {a : Act} {w : World} {K : Act → World → Prop} {Q : Exit → Act → World → Prop} (t : TypeId) (ho : o.op = .alloc t)
    (n : Nat) (S : Nat → Value) (hz : (P.info? t).map (fun i => (i.zero, i.size)) = some (some (.agg (row n S)), n))
    (h : K (a.put o.dst (.pointer (some ⟨w.heap.size, 0, none⟩))) (w.alloc (.cells (row n S) t))) : o.wp P a w K Q := by
  unfold Oper.wp execOp
  simp only [ho, Sem.run_bind, run_alloc_row hz, Result.andThen_ok]
  exact h
/-- A slice literal of one hash. -/
theorem wp_build_num {o : Oper} {a : Act} {w : World} {K : Act → World → Prop} {Q : Exit → Act → World → Prop} (x : Operand) (ho : o.op = .buildSlice 33 1 #[(0, x)])
    (f : Nat → BitVec 8) (hx : a.eval x = .agg (rowB 32 f))
    (h : K (a.put o.dst (.slice (some ⟨w.heap.size, 0, none⟩) 1 1)) (w.alloc (.cells (rowB 32 f) 25))) : o.wp Try.prog a w K Q := by
  obtain ⟨i0, hi0, hz0, hz1, hz2⟩ := info_parts info_num
  refine wp_buildSlice 33 25 1 #[(0, x)] ho (rowB 32 f) i0 _ Try.underlying33 hi0 hz0 (by rw [hz1]; decide) (by rw [hz1]; decide) ?_ h
  rw [hz1]
  have e : (Array.map (fun (y : Nat × Operand) => (y.1, a.eval y.2)) #[(0, x)]).toList = [(0, Value.agg (rowB 32 f))] := by simp [hx]
  rw [e]
  exact fill_num f _ rfl

/-! ### The same with the new world not told -/
theorem keepCell {u u' : World} {g : Nat} {o : Obj} {b : Option Nat} (h : u.heap[g]? = some o) (hg : u.grownBy u' b) (hne : some g ≠ b) : u'.heap[g]? = some o :=
  (hg.block g (Array.getElem?_eq_some_iff.1 h).1 hne).trans h
theorem World.ownsRow.kept0 {w w' : World} {base size n : Nat} {e : TypeId} {v : Value} {xs : List Value} (h : w.ownsRow base e size v n xs) (hg : w.grownBy w' none) : w'.ownsRow base e size v n xs :=
  World.ownsRow.kept h hg (by
    cases hv : v.ownBlock with
    | none => exact .inl rfl
    | some k => exact .inr nofun)
theorem wp_alloc_to {P : Program} {o : Oper} {a : Act} {w : World} {K : Act → World → Prop} {Q : Exit → Act → World → Prop} (t : TypeId) (ho : o.op = .alloc t)
    (n : Nat) (S : Nat → Value) (hz : (P.info? t).map (fun i => (i.zero, i.size)) = some (some (.agg (row n S)), n))
    (h : ∀ g w', w'.heap[g]? = some (.cells (row n S) t (0, 0)) → g = w.heap.size → w.grownBy w' none → K (a.put o.dst (.pointer (some ⟨g, 0, none⟩))) w') : o.wp P a w K Q :=
  wp_alloc_row t ho n S hz (h _ _ (heap_alloc_new _ _) rfl (grown_alloc (grown_refl _ _) _))
theorem wp_build_to {o : Oper} {a : Act} {w : World} {K : Act → World → Prop} {Q : Exit → Act → World → Prop} (x : Operand) (ho : o.op = .buildSlice 33 1 #[(0, x)])
    (f : Nat → BitVec 8) (hx : a.eval x = .agg (rowB 32 f))
    (h : ∀ g w', w'.heap[g]? = some (.cells (rowB 32 f) 25 (0, 0)) → g = w.heap.size → w.grownBy w' none → K (a.put o.dst (.slice (some ⟨g, 0, none⟩) 1 1)) w') : o.wp Try.prog a w K Q :=
  wp_build_num x ho f hx (h _ _ (heap_alloc_new _ _) rfl (grown_alloc (grown_refl _ _) _))
theorem wp_store_to {o : Oper} {a : Act} {w : World} {K : Act → World → Prop} {Q : Exit → Act → World → Prop} (x y : Operand) (ho : o.op = .store 25 x y) (g : Nat) (f : Nat → BitVec 8)
    (hx : a.eval x = .pointer (some ⟨g, 0, none⟩)) (hy : a.eval y = .agg (rowB 32 f)) (t : TypeId) (S : Nat → Value) (hg : w.heap[g]? = some (.cells (row 32 S) t (0, 0)))
    (h : ∀ w', w'.heap[g]? = some (.cells (rowB 32 f) t (0, 0)) → w.grownBy w' (some g) → K (a.put o.dst undef) w') : o.wp Try.prog a w K Q :=
  wp_store_row 25 x y ho g (rowB 32 f) hx (by rw [hy]) t (row 32 S) hg (by rw [size32, rowB_size]) (by rw [row_size, rowB_size]) (rowB_oneCell _ _)
    (h _ (heap_setRow_at hg) (grown_setRow (grown_refl _ _) (.inr rfl) _))

end Go.Proofs.Ytnnllficjljjkaa
