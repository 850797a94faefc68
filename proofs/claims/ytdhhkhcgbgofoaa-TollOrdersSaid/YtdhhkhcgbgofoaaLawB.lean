/-
  The walk of the law TollSums: it returns true and leaves memory as it was, but for new blocks.
-/
import Derived.Test.YtdhhkhcgbgofoaaLawA
import Derived.Test.YtdhhkhcgbgofoaaOpen
import Derived.StillTactics
import Derived.OwnWalk
import Derived.Laws.Pointers
import Derived.Deep.RegionHeld3
import Derived.Deep.AppendLies
namespace Go.Proofs.Ytdhhkhcgbgofoaa
open Go.RowKit
set_option linter.unusedVariables false

theorem info24 : (Try.prog.info? 24).map (fun i => (i.zero, i.size, i.bytes)) = some (some (.complex .f64 0 0), 1, 16) := by kernel_rfl

theorem SlR.shape {α : Type} {mk : α → Value} {w : World} {v : Value} {l : List α} (h : SlR mk w v l) :
    ∃ a c, v = .slice a l.length c ∧ c ≤ maxLen ∧ (0 < l.length → ∃ b off, a = some ⟨b, off, none⟩ ∧ b < w.heap.size ∧ ∀ (i : Nat) (h : i < l.length), w.cell? ⟨b, off + i, none⟩ = some (mk l[i])) := by
  rcases h with ⟨rfl, a, c, rfl, hc⟩ | ⟨b, off, c, rfl, h0, h1, h2, h3, h4⟩
  · exact ⟨a, c, rfl, hc, fun h => absurd h (by simp)⟩
  · exact ⟨_, c, rfl, h2, fun _ => ⟨b, off, rfl, h3, h4⟩⟩

/-- The complex numbers of two lists of floats. -/
def cx (c : Nat × Nat) : Value := .complex .f64 c.1 c.2

theorem crow_of_own {w : World} {base : Nat} {v : Value} {n : Nat} {l : List (Nat × Nat)} (hn : n = l.length) (h : w.ownsRow base 24 1 v n (l.map cx)) : CRow w v l := by
  subst hn
  rcases h.2 with ⟨rfl, h0⟩ | ⟨g, cap, cur, rfl, _, hg, _, _, _, htake⟩
  · left
    exact ⟨List.eq_nil_of_length_eq_zero h0, none, 0, rfl⟩
  · right
    refine ⟨g, 0, cap, rfl, fun i hi => ?_⟩
    have := h.cells (g := g) rfl i (cx (l.getD i (0, 0))) (by rw [List.getElem?_map, List.getD_eq_getElem?_getD, List.getElem?_eq_getElem hi]; rfl)
    have hadd : (⟨g, 0, none⟩ : Addr).add i = ⟨g, 0 + i, none⟩ := by unfold Addr.add; split <;> simp_all
    rw [hadd] at this
    exact this

set_option maxRecDepth 100000 in
set_option maxHeartbeats 1000000 in
theorem tollSums_loop (b0 o0 c0 b1 o1 c1 : Nat) (l0 l1 : List Nat) (w : World) (hl : l0.length ≤ 100) (hp : 0 < l0.length) (hl1 : l0.length ≤ l1.length) (hb0 : b0 < w.heap.size) (hb1 : b1 < w.heap.size)
    (h0 : ∀ (i : Nat) (h : i < l0.length), w.cell? ⟨b0, o0 + i, none⟩ = some (.float .f64 l0[i])) (h1 : ∀ (i : Nat) (h : i < l1.length), w.cell? ⟨b1, o1 + i, none⟩ = some (.float .f64 l1[i])) :
    Calls Try.prog 4 #[.slice (some ⟨b0, o0, none⟩) l0.length c0, .slice (some ⟨b1, o1, none⟩) l1.length c1] w fun x w' => x = .returned (.bool true) ∧ Below w.heap.size w w' := by
  obtain ⟨i0, hi0, hz0, hz1, hz2⟩ := info_parts info24
  have hs := sumE_le (l0.zip l1)
  have ho1 := order_self hs.1
  have ho2 := order_self hs.2
  have hlen : (l0.zip l1).length = l0.length := by rw [List.length_zip]; omega
  have HS := Lib.hid (fun v w => sum_any v (l0.zip l1) w (by omega))
  have HR := Lib.hid (fun v w => refSum_any v (l0.zip l1) w (by omega))
  have HL := Lib.hid hlen
  have H0 := Lib.hid h0
  have H1 := Lib.hid h1
  have hd1 : decide ((100 : Int) < (l0.length : Int)) = false := decide_eq_false (by omega)
  have hd2 : decide (l1.length < l0.length) = false := decide_eq_false (by omega)
  clear h0 h1 hs hlen
  go_enter Try.func4, Try.ntmps4
  go_wp2_with (first | (go_at_call 9; refine (alive_any _).mono ?_; rintro e w' ⟨rfl, rfl⟩))
  clear hd1 hd2
  go_loopw [6, 7] (fun v i wr => ∃ k : Nat, k ≤ l0.length ∧ i = .int .i64 k ∧ wr.ownsRow w.heap.size 24 1 v k (((l0.zip l1).take k).map cx) ∧ Below w.heap.size w wr) (fun _ i _ => l0.length - (intOf i).toNat)
  case atStart => exact ⟨0, Nat.zero_le _, rfl, World.ownsRow_nil _ _ _ _, Below.refl _ _⟩
  case round =>
    obtain ⟨k, hk, rfl, hown, hbel⟩ := hrel
    by_cases hlt : k < l0.length
    · have hk0 : (0 : Int) ≤ (k : Int) := Int.natCast_nonneg _
      have hk1 : (k : Int) < (l0.length : Int) := by omega
      have hk2 : (k : Int) < (l1.length : Int) := by omega
      have hc0 := (hbel.cell (p := ⟨b0, o0 + k, none⟩) hb0).trans (H0.out k hlt)
      have hc1 := (hbel.cell (p := ⟨b1, o1 + k, none⟩) hb1).trans (H1.out k (by omega))
      have hT : (l0.zip l1).take (k + 1) = (l0.zip l1).take k ++ [(l0[k], l1[k]'(by omega))] := by
        rw [List.take_succ_eq_append_getElem (by rw [HL.out]; exact hlt)]
        simp
      have HT := Lib.hid hT
      clear hT
      generalize l0[k] = x at *
      generalize l1[k]'(by omega) = y at *
      have hlt0 := hown.lt
      have av0 : u6.ownBlock ≠ some b0 := fun c => by have := (hlt0 _ c).1; omega
      have av1 : u6.ownBlock ≠ some b1 := fun c => by have := (hlt0 _ c).1; omega
      have hsz := hbel.size
      have HOWN := Lib.hid hlt0
      clear hlt0
      go_wp2_with fail
      go_region_held3 (fun w' => w'.cell? ⟨b0, o0 + k, none⟩ = some (.float .f64 x) ∧ w'.cell? ⟨b1, o1 + k, none⟩ = some (.float .f64 y))
        (first
          | go_keep
          | (go_split_ands
             refine ⟨?_, ?_⟩
             · (rw [hgrow.cell_far _ (by simp; omega) (Ne.symm av0)]; assumption)
             · (rw [hgrow.cell_far _ (by simp; omega) (Ne.symm av1)]; assumption)))
        ((refine step_append_lies _ (by rfl) _ _ _ (by rfl) w.heap.size 24 i0 _ 1 16 Try.underlying31 hi0 hz0 hz1 hz2 rfl (by omega) u6 k _ (by rfl) ((hown.alloc _).drew)
            ⟨wr.heap.size, 0, none⟩ 1 1 [.complex .f64 x y] (by rfl) (by rfl) (World.news_of_block (cs := #[.complex .f64 x y]) (t := 24) (fr := (0, 0)) (heap_alloc_new wr _)) (by simp [Value.oneCell'])
            (by omega) (by unfold maxLen; omega) (by omega) (by simp; omega) (wr.heap.size + 1) (by simp) ?_; intro gg cap w1 hown1 hgrow hat hltg))
      go_wp2
      go_roundw
      case rel =>
        refine ⟨k + 1, by omega, by go_num, ?_, ?_⟩
        · rw [HT.out, List.map_append]; exact hown1
        · exact ((hbel.alloc hsz _).drew).grown hgrow (by simp; omega) (fun j hj => (HOWN.out j hj).1)
      case measure => simp [intOf]; omega
    · have hcr : CRow wr u6 (l0.zip l1) := crow_of_own (n := k) (by have := HL.out; omega) (by
        have : (l0.zip l1).take k = l0.zip l1 := List.take_of_length_le (by have := HL.out; omega)
        rw [this] at hown; exact hown)
      have hsz := hbel.size
      clear hown
      go_wp2_with (first | (go_at_call 14; refine (HS.out _ _ hcr).mono ?_; rintro e w' ⟨rfl, rfl⟩) | (go_at_call 15; refine (HR.out _ _ hcr).mono ?_; rintro e w' ⟨rfl, rfl⟩))
      go_ret
      exact ⟨rfl, hbel⟩

set_option maxHeartbeats 400000 in
theorem tollSums_out (a0 a1 : Option Addr) (n0 c0 n1 c1 : Nat) (w : World) (h : 100 < n0 ∨ n1 < n0) :
    Calls Try.prog 4 #[.slice a0 n0 c0, .slice a1 n1 c1] w fun x w' => x = .returned (.bool true) ∧ w = w' := by
  by_cases h1 : (100 : Int) < (n0 : Int)
  · clear h
    go_enter Try.func4, Try.ntmps4
    go_wp2_with (first | (go_at_call 9; refine (alive_any _).mono ?_; rintro e w' ⟨rfl, rfl⟩))
    go_ret
    exact ⟨rfl, rfl⟩
  · have h2 : n1 < n0 := by omega
    have hd1 : decide ((100 : Int) < (n0 : Int)) = false := decide_eq_false h1
    clear h h1
    go_enter Try.func4, Try.ntmps4
    go_wp2_with (first | (go_at_call 9; refine (alive_any _).mono ?_; rintro e w' ⟨rfl, rfl⟩))
    go_ret
    exact ⟨rfl, rfl⟩

set_option maxHeartbeats 400000 in
theorem tollSums_none (a0 a1 : Option Addr) (c0 n1 c1 : Nat) (w : World) :
    Calls Try.prog 4 #[.slice a0 0 c0, .slice a1 n1 c1] w fun x w' => x = .returned (.bool true) ∧ w = w' := by
  have hcr : CRow w (.slice none 0 0) [] := .inl ⟨rfl, none, 0, rfl⟩
  have HS := Lib.hid (fun w h => sum_any (.slice none 0 0) [] w (by decide) h)
  have HR := Lib.hid (fun w h => refSum_any (.slice none 0 0) [] w (by decide) h)
  have ho1 := order_self (sumE_le []).1
  have ho2 := order_self (sumE_le []).2
  have hd2 : decide (n1 < 0) = false := by simp
  go_enter Try.func4, Try.ntmps4
  go_wp2_with (first | (go_at_call 9; refine (alive_any _).mono ?_; rintro e w' ⟨rfl, rfl⟩))
  go_loop [6, 7] (fun v i => v = .slice none 0 0 ∧ i = .int .i64 0) (fun _ _ => 0)
  case atStart => exact ⟨rfl, rfl⟩
  case round =>
    obtain ⟨rfl, rfl⟩ := hrel
    go_wp2_with (first | (go_at_call 14; refine (HS.out _ hcr).mono ?_; rintro e w' ⟨rfl, rfl⟩) | (go_at_call 15; refine (HR.out _ hcr).mono ?_; rintro e w' ⟨rfl, rfl⟩))
    go_ret
    exact ⟨rfl, rfl⟩

theorem tollSums_walk {w : World} (v0 : Value) (l0 : List Nat) (r0 : SlR (Value.float .f64) w v0 l0) (q0 : ∀ y ∈ l0, (Lit.float .f64 y).wf = true) (v1 : Value) (l1 : List Nat) (r1 : SlR (Value.float .f64) w v1 l1) (q1 : ∀ y ∈ l1, (Lit.float .f64 y).wf = true) :
    Calls Try.prog 4 #[v0, v1] w fun x w' => x = .returned (.bool true) ∧ Below w.heap.size w w' := by
  obtain ⟨a0, c0, rfl, hc0, g0⟩ := r0.shape
  obtain ⟨a1, c1, rfl, hc1, g1⟩ := r1.shape
  by_cases h : 100 < l0.length ∨ l1.length < l0.length
  · exact (tollSums_out a0 a1 _ c0 _ c1 w h).mono fun e w' ⟨h1, h2⟩ => ⟨h1, h2 ▸ Below.refl _ _⟩
  · by_cases hz : l0.length = 0
    · rw [hz]
      exact (tollSums_none a0 a1 c0 _ c1 w).mono fun e w' ⟨h1, h2⟩ => ⟨h1, h2 ▸ Below.refl _ _⟩
    · have e1 : l0.length ≤ 100 := by omega
      have e2 : 0 < l0.length := by omega
      have e3 : l0.length ≤ l1.length := by omega
      obtain ⟨b0, o0, rfl, hb0, f0⟩ := g0 e2
      obtain ⟨b1, o1, rfl, hb1, f1⟩ := g1 (Nat.lt_of_lt_of_le e2 e3)
      exact tollSums_loop b0 o0 c0 b1 o1 c1 l0 l1 w e1 e2 e3 hb0 hb1 f0 f1

end Go.Proofs.Ytdhhkhcgbgofoaa
