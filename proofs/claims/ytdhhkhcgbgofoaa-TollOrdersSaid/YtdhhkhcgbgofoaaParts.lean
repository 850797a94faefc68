/-
  What the functions part, Parts, Of, may of the package toll and of the reference compute: the same, and that is said by plain functions.
-/
import Derived.Test.YtdhhkhcgbgofoaaRows
import Derived.Test.YtdhhkhcgbgofoaaNums
import Derived.WalkKit
import Derived.WalkSpells
import Derived.WalkLawsBesides
namespace Go.Proofs.Ytdhhkhcgbgofoaa
open Go.RowKit

theorem run_trunc {b : Nat} (w : World) (h0 : geqB b = true) (h1 : leqB b = true) :
    (convert 22 3 (.float .f64 b)).run Try.prog w = .ok (.int .i64 (pn b)) w :=
  run_convert_float_int w 22 3 .f64 .i64 b _ (by kernel_rfl) (by kernel_rfl) (to_pn h0 h1).1

theorem run_float (n : Nat) (w : World) : (convert 3 22 (.int .i64 (n : Int))).run Try.prog w = .ok (.float .f64 (F n)) w := by
  rw [run_convert_int_float w 3 22 .i64 .f64 n (by kernel_rfl) (by kernel_rfl)]
  have : floatOfInt .f64 (n : Int) = F n := by
    unfold floatOfInt FloatKind.nearest FloatKind.encode F
    have : decide ((n : Int) < 0) = false := decide_eq_false (by omega)
    rw [this]; rfl
  rw [this]

theorem geqB_of {b : Nat} {o : Ordering} (h : FloatKind.f64.format.order b 0 = some o) (ho : o = .gt ∨ o = .eq) : geqB b = true := by
  have h' : Ieee.double.order b 0 = some o := h
  unfold geqB; rw [h']; rcases ho with rfl | rfl <;> rfl
theorem leqB_of {b : Nat} {o : Ordering} (h : FloatKind.f64.format.order b 4787326403894837248 = some o) (ho : o = .lt ∨ o = .eq) : leqB b = true := by
  have h' : Ieee.double.order b M = some o := h
  unfold leqB; rw [h']; rcases ho with rfl | rfl <;> rfl
theorem geqB_not {b : Nat} {o : Option Ordering} (h : FloatKind.f64.format.order b 0 = o) (ho : o = none ∨ o = some .lt) : inB b = false := by
  have h' : Ieee.double.order b 0 = o := h
  unfold inB geqB; rw [h']; rcases ho with rfl | rfl <;> rfl
theorem leqB_not {b : Nat} {o : Option Ordering} (h : FloatKind.f64.format.order b 4787326403894837248 = o) (ho : o = none ∨ o = some .gt) : inB b = false := by
  have h' : Ieee.double.order b M = o := h
  unfold inB leqB; rw [h']; rcases ho with rfl | rfl <;> simp

theorem inB_of {b : Nat} (h0 : geqB b = true) (h1 : leqB b = true) : inB b = true := by unfold inB; rw [h0, h1]; rfl


theorem part_out {o : Option Ordering} (b : Nat) (w : World) (h : FloatKind.f64.format.order b 0 = o) (ho : o = none ∨ o = some .lt) :
    Calls Try.prog 21 #[.float .f64 b] w fun e w' => e = .returned (.tuple #[.int .i64 0, .bool false]) ∧ w = w' := by
  rcases ho with rfl | rfl
  all_goals
    go_enter Try.func21, Try.ntmps21
    go_wp2
    go_ret2
    exact ⟨rfl, rfl⟩

theorem part_above {o : Ordering} (b : Nat) (w : World) (h : FloatKind.f64.format.order b 0 = some o) (ho : o = .gt ∨ o = .eq)
    (h1 : FloatKind.f64.format.order b 4787326403894837248 = some .gt) :
    Calls Try.prog 21 #[.float .f64 b] w fun e w' => e = .returned (.tuple #[.int .i64 0, .bool false]) ∧ w = w' := by
  rcases ho with rfl | rfl
  all_goals
    go_enter Try.func21, Try.ntmps21
    go_wp2
    go_ret2
    exact ⟨rfl, rfl⟩

theorem part_in {o u : Ordering} (b : Nat) (w : World) (h : FloatKind.f64.format.order b 0 = some o) (ho : o = .gt ∨ o = .eq)
    (h1 : FloatKind.f64.format.order b 4787326403894837248 = some u) (hu : u = .lt ∨ u = .eq) :
    Calls Try.prog 21 #[.float .f64 b] w fun e w' => e = .returned (.tuple #[.int .i64 (pn b), .bool (FloatKind.f64.format.order (F (pn b)) b == some .eq)]) ∧ w = w' := by
  have hc := run_trunc w (geqB_of h ho) (leqB_of h1 hu)
  have hf := run_float (pn b) w
  rcases ho with rfl | rfl <;> rcases hu with rfl | rfl
  all_goals
    go_enter Try.func21, Try.ntmps21
    go_wp2
    go_ret2
    exact ⟨rfl, rfl⟩

theorem part_any (b : Nat) (w : World) :
    Calls Try.prog 21 #[.float .f64 b] w fun e w' => e = .returned (.tuple #[.int .i64 (pN b), .bool (pB b)]) ∧ w = w' := by
  have hz : inB b = false → pN b = 0 ∧ pB b = false := by
    intro h; unfold pN pB; rw [h]; exact ⟨rfl, rfl⟩
  rcases h : FloatKind.f64.format.order b 0 with _ | o
  · have := hz (geqB_not h (.inl rfl))
    rw [this.1, this.2]; exact part_out b w h (.inl rfl)
  · by_cases ho : o = .lt
    · subst ho
      have := hz (geqB_not h (.inr rfl))
      rw [this.1, this.2]; exact part_out b w h (.inr rfl)
    · have ho' : o = .gt ∨ o = .eq := by cases o <;> simp_all
      rcases h1 : FloatKind.f64.format.order b 4787326403894837248 with _ | u
      · exact absurd h1 (order_some (by decide) h)
      · by_cases hu : u = .gt
        · subst hu
          have := hz (leqB_not h1 (.inr rfl))
          rw [this.1, this.2]; exact part_above b w h ho' h1
        · have hu' : u = .lt ∨ u = .eq := by cases u <;> simp_all
          have hi := inB_of (geqB_of h ho') (leqB_of h1 hu')
          have e1 : pN b = pn b := by unfold pN; rw [if_pos hi]
          have e2 : pB b = (FloatKind.f64.format.order (F (pn b)) b == some .eq) := by unfold pB; rw [hi]; rfl
          rw [e1, e2]
          exact part_in b w h ho' h1 hu'

theorem refPart_out {o : Option Ordering} (b : Nat) (w : World) (h : FloatKind.f64.format.order b 0 = o) (ho : o = none ∨ o = some .lt) :
    Calls Try.prog 22 #[.float .f64 b] w fun e w' => e = .returned (.tuple #[.int .i64 0, .bool false]) ∧ w = w' := by
  rcases ho with rfl | rfl
  all_goals
    go_enter Try.func22, Try.ntmps22
    go_wp2
    go_ret2
    exact ⟨rfl, rfl⟩

theorem refPart_above {o : Ordering} (b : Nat) (w : World) (h : FloatKind.f64.format.order b 0 = some o) (ho : o = .gt ∨ o = .eq)
    (h1 : FloatKind.f64.format.order b 4787326403894837248 = some .gt) :
    Calls Try.prog 22 #[.float .f64 b] w fun e w' => e = .returned (.tuple #[.int .i64 0, .bool false]) ∧ w = w' := by
  rcases ho with rfl | rfl
  all_goals
    go_enter Try.func22, Try.ntmps22
    go_wp2
    go_ret2
    exact ⟨rfl, rfl⟩

theorem refPart_in {o u : Ordering} (b : Nat) (w : World) (h : FloatKind.f64.format.order b 0 = some o) (ho : o = .gt ∨ o = .eq)
    (h1 : FloatKind.f64.format.order b 4787326403894837248 = some u) (hu : u = .lt ∨ u = .eq) :
    Calls Try.prog 22 #[.float .f64 b] w fun e w' => e = .returned (.tuple #[.int .i64 (pn b), .bool (FloatKind.f64.format.order (F (pn b)) b == some .eq)]) ∧ w = w' := by
  have hc := run_trunc w (geqB_of h ho) (leqB_of h1 hu)
  have hf := run_float (pn b) w
  rcases ho with rfl | rfl <;> rcases hu with rfl | rfl
  all_goals
    go_enter Try.func22, Try.ntmps22
    go_wp2
    go_ret2
    exact ⟨rfl, rfl⟩

theorem refPart_any (b : Nat) (w : World) :
    Calls Try.prog 22 #[.float .f64 b] w fun e w' => e = .returned (.tuple #[.int .i64 (pN b), .bool (pB b)]) ∧ w = w' := by
  have hz : inB b = false → pN b = 0 ∧ pB b = false := by
    intro h; unfold pN pB; rw [h]; exact ⟨rfl, rfl⟩
  rcases h : FloatKind.f64.format.order b 0 with _ | o
  · have := hz (geqB_not h (.inl rfl))
    rw [this.1, this.2]; exact refPart_out b w h (.inl rfl)
  · by_cases ho : o = .lt
    · subst ho
      have := hz (geqB_not h (.inr rfl))
      rw [this.1, this.2]; exact refPart_out b w h (.inr rfl)
    · have ho' : o = .gt ∨ o = .eq := by cases o <;> simp_all
      rcases h1 : FloatKind.f64.format.order b 4787326403894837248 with _ | u
      · exact absurd h1 (order_some (by decide) h)
      · by_cases hu : u = .gt
        · subst hu
          have := hz (leqB_not h1 (.inr rfl))
          rw [this.1, this.2]; exact refPart_above b w h ho' h1
        · have hu' : u = .lt ∨ u = .eq := by cases u <;> simp_all
          have hi := inB_of (geqB_of h ho') (leqB_of h1 hu')
          have e1 : pN b = pn b := by unfold pN; rw [if_pos hi]
          have e2 : pB b = (FloatKind.f64.format.order (F (pn b)) b == some .eq) := by unfold pB; rw [hi]; rfl
          rw [e1, e2]
          exact refPart_in b w h ho' h1 hu'

/-! ### Of -/
def okB (e p : Int) : Bool := decide (0 ≤ e ∧ e ≤ 1099511627776 ∧ 0 ≤ p ∧ p ≤ 1099511627776)
def ofF (ok : Bool) (e : Int) : Nat := if ok then F e.toNat else 0
theorem ofF_yes (e : Nat) : ofF true (e : Int) = F e := by unfold ofF; rw [if_pos rfl, Int.toNat_natCast]
theorem ofF_no (e : Int) : ofF false e = 0 := by unfold ofF; rw [if_neg (by simp)]

theorem of_yes (e p : Nat) (w : World) (he : (e : Int) ≤ 1099511627776) (hp : (p : Int) ≤ 1099511627776) :
    Calls Try.prog 10 #[.int .i64 e, .int .i64 p] w fun x w' => x = .returned (.tuple #[.complex .f64 (F e) (F p), .bool true]) ∧ w = w' := by
  have hf := run_float e w
  have hg := run_float p w
  go_enter Try.func10, Try.ntmps10
  go_wp2
  go_ret2
  exact ⟨rfl, rfl⟩

theorem of_no (e p : Int) (w : World) (h : ¬ (0 ≤ e ∧ e ≤ 1099511627776 ∧ 0 ≤ p ∧ p ≤ 1099511627776)) :
    Calls Try.prog 10 #[.int .i64 e, .int .i64 p] w fun x w' => x = .returned (.tuple #[.complex .f64 0 0, .bool false]) ∧ w = w' := by
  by_cases h1 : 0 ≤ e
  · by_cases h2 : e ≤ 1099511627776
    · by_cases h3 : 0 ≤ p
      · have h4 : ¬ p ≤ 1099511627776 := fun c => h ⟨h1, h2, h3, c⟩
        clear h
        go_enter Try.func10, Try.ntmps10
        go_wp2
        go_ret2
        exact ⟨rfl, rfl⟩
      · clear h
        go_enter Try.func10, Try.ntmps10
        go_wp2
        go_ret2
        exact ⟨rfl, rfl⟩
    · clear h
      by_cases h3 : 0 ≤ p
      all_goals
        go_enter Try.func10, Try.ntmps10
        go_wp2
        all_goals
          go_ret2
          exact ⟨rfl, rfl⟩
  · clear h
    by_cases h3 : 0 ≤ p
    all_goals
      go_enter Try.func10, Try.ntmps10
      go_wp2
      all_goals
        go_ret2
        exact ⟨rfl, rfl⟩

theorem of_any (e p : Int) (w : World) :
    Calls Try.prog 10 #[.int .i64 e, .int .i64 p] w fun x w' => x = .returned (.tuple #[.complex .f64 (ofF (okB e p) e) (ofF (okB e p) p), .bool (okB e p)]) ∧ w = w' := by
  by_cases h : 0 ≤ e ∧ e ≤ 1099511627776 ∧ 0 ≤ p ∧ p ≤ 1099511627776
  · obtain ⟨h1, h2, h3, h4⟩ := h
    obtain ⟨e, rfl⟩ := Int.eq_ofNat_of_zero_le h1
    obtain ⟨p, rfl⟩ := Int.eq_ofNat_of_zero_le h3
    have ho : okB e p = true := decide_eq_true ⟨h1, h2, h3, h4⟩
    rw [ho, ofF_yes, ofF_yes]
    exact of_yes e p w h2 h4
  · have ho : okB e p = false := decide_eq_false h
    rw [ho, ofF_no, ofF_no]
    exact of_no e p w h

theorem refOf_yes (e p : Nat) (w : World) (he : (e : Int) ≤ 1099511627776) (hp : (p : Int) ≤ 1099511627776) :
    Calls Try.prog 11 #[.int .i64 e, .int .i64 p] w fun x w' => x = .returned (.tuple #[.complex .f64 (F e) (F p), .bool true]) ∧ w = w' := by
  have hf := run_float e w
  have hg := run_float p w
  go_enter Try.func11, Try.ntmps11
  go_wp2
  go_ret2
  exact ⟨rfl, rfl⟩

theorem refOf_no (e p : Int) (w : World) (h : ¬ (0 ≤ e ∧ e ≤ 1099511627776 ∧ 0 ≤ p ∧ p ≤ 1099511627776)) :
    Calls Try.prog 11 #[.int .i64 e, .int .i64 p] w fun x w' => x = .returned (.tuple #[.complex .f64 0 0, .bool false]) ∧ w = w' := by
  by_cases h1 : 0 ≤ e
  · by_cases h2 : e ≤ 1099511627776
    · by_cases h3 : 0 ≤ p
      · have h4 : ¬ p ≤ 1099511627776 := fun c => h ⟨h1, h2, h3, c⟩
        clear h
        go_enter Try.func11, Try.ntmps11
        go_wp2
        go_ret2
        exact ⟨rfl, rfl⟩
      · clear h
        go_enter Try.func11, Try.ntmps11
        go_wp2
        go_ret2
        exact ⟨rfl, rfl⟩
    · clear h
      by_cases h3 : 0 ≤ p
      all_goals
        go_enter Try.func11, Try.ntmps11
        go_wp2
        all_goals
          go_ret2
          exact ⟨rfl, rfl⟩
  · clear h
    by_cases h3 : 0 ≤ p
    all_goals
      go_enter Try.func11, Try.ntmps11
      go_wp2
      all_goals
        go_ret2
        exact ⟨rfl, rfl⟩

theorem refOf_any (e p : Int) (w : World) :
    Calls Try.prog 11 #[.int .i64 e, .int .i64 p] w fun x w' => x = .returned (.tuple #[.complex .f64 (ofF (okB e p) e) (ofF (okB e p) p), .bool (okB e p)]) ∧ w = w' := by
  by_cases h : 0 ≤ e ∧ e ≤ 1099511627776 ∧ 0 ≤ p ∧ p ≤ 1099511627776
  · obtain ⟨h1, h2, h3, h4⟩ := h
    obtain ⟨e, rfl⟩ := Int.eq_ofNat_of_zero_le h1
    obtain ⟨p, rfl⟩ := Int.eq_ofNat_of_zero_le h3
    have ho : okB e p = true := decide_eq_true ⟨h1, h2, h3, h4⟩
    rw [ho, ofF_yes, ofF_yes]
    exact refOf_yes e p w h2 h4
  · have ho : okB e p = false := decide_eq_false h
    rw [ho, ofF_no, ofF_no]
    exact refOf_no e p w h

/-! ### Parts -/
def tB (a b : Nat) : Bool := pB a && pB b
def tE (a b : Nat) : Nat := if tB a b then pN a else 0
def tP (a b : Nat) : Nat := if tB a b then pN b else 0

theorem parts_any (a b : Nat) (w : World) :
    Calls Try.prog 12 #[.complex .f64 a b] w fun x w' => x = .returned (.tuple #[.int .i64 (tE a b), .int .i64 (tP a b), .bool (tB a b)]) ∧ w = w' := by
  have hz : (pB a && pB b) = false → tE a b = 0 ∧ tP a b = 0 ∧ tB a b = false := by
    intro h; unfold tE tP tB; rw [h]; exact ⟨rfl, rfl, rfl⟩
  rcases ha : pB a with _ | _
  · have h := hz (by rw [ha]; rfl)
    rw [h.1, h.2.1, h.2.2]
    rcases hb : pB b with _ | _
    all_goals
      clear h hz
      go_enter Try.func12, Try.ntmps12
      go_wp2_with (go_at_call 21; refine (part_any _ _).mono ?_; rintro e w' ⟨rfl, rfl⟩)
      go_ret3
      exact ⟨rfl, rfl⟩
  · rcases hb : pB b with _ | _
    · have h := hz (by rw [ha, hb]; rfl)
      rw [h.1, h.2.1, h.2.2]
      clear h hz
      go_enter Try.func12, Try.ntmps12
      go_wp2_with (go_at_call 21; refine (part_any _ _).mono ?_; rintro e w' ⟨rfl, rfl⟩)
      go_ret3
      exact ⟨rfl, rfl⟩
    · have h : tE a b = pN a ∧ tP a b = pN b ∧ tB a b = true := by unfold tE tP tB; rw [ha, hb]; exact ⟨rfl, rfl, rfl⟩
      rw [h.1, h.2.1, h.2.2]
      clear h hz
      go_enter Try.func12, Try.ntmps12
      go_wp2_with (go_at_call 21; refine (part_any _ _).mono ?_; rintro e w' ⟨rfl, rfl⟩)
      go_ret3
      exact ⟨rfl, rfl⟩

theorem refParts_any (a b : Nat) (w : World) :
    Calls Try.prog 13 #[.complex .f64 a b] w fun x w' => x = .returned (.tuple #[.int .i64 (tE a b), .int .i64 (tP a b), .bool (tB a b)]) ∧ w = w' := by
  have hz : (pB a && pB b) = false → tE a b = 0 ∧ tP a b = 0 ∧ tB a b = false := by
    intro h; unfold tE tP tB; rw [h]; exact ⟨rfl, rfl, rfl⟩
  rcases ha : pB a with _ | _
  · have h := hz (by rw [ha]; rfl)
    rw [h.1, h.2.1, h.2.2]
    rcases hb : pB b with _ | _
    all_goals
      clear h hz
      go_enter Try.func13, Try.ntmps13
      go_wp2_with (go_at_call 22; refine (refPart_any _ _).mono ?_; rintro e w' ⟨rfl, rfl⟩)
      go_ret3
      exact ⟨rfl, rfl⟩
  · rcases hb : pB b with _ | _
    · have h := hz (by rw [ha, hb]; rfl)
      rw [h.1, h.2.1, h.2.2]
      clear h hz
      go_enter Try.func13, Try.ntmps13
      go_wp2_with (go_at_call 22; refine (refPart_any _ _).mono ?_; rintro e w' ⟨rfl, rfl⟩)
      go_ret3
      exact ⟨rfl, rfl⟩
    · have h : tE a b = pN a ∧ tP a b = pN b ∧ tB a b = true := by unfold tE tP tB; rw [ha, hb]; exact ⟨rfl, rfl, rfl⟩
      rw [h.1, h.2.1, h.2.2]
      clear h hz
      go_enter Try.func13, Try.ntmps13
      go_wp2_with (go_at_call 22; refine (refPart_any _ _).mono ?_; rintro e w' ⟨rfl, rfl⟩)
      go_ret3
      exact ⟨rfl, rfl⟩

end Go.Proofs.Ytdhhkhcgbgofoaa
