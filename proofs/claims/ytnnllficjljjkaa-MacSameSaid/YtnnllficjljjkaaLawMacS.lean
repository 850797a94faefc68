/-
  The walk of the law MacSame.
-/
import Derived.Test.YtnnllficjljjkaaLawMacP
import Derived.Deep.QuietTactic
import Derived.BigQuiet
import Derived.StillTailTactics
namespace Go.Proofs.Ytnnllficjljjkaa
open Go.RowKit
set_option linter.unusedVariables false
set_option linter.unusedSimpArgs false

/-- Bytes are appended, at an operation of a region. -/
theorem wp_append_B {o : Oper} {a : Act} {w : World} {K : Act → World → Prop} {Q : Exit → Act → World → Prop} (s x : Operand)
    (ho : o.op = .call { callee := .builtin .append, args := #[s, x], argTypes := #[22, 22] })
    (base : Nat) (v : Value) (xs l : List (BitVec 8)) (hs : a.eval s = v) (hown : OwnB w base v xs) (hx : BRow w (a.eval x) l)
    (hsz : xs.length + l.length ≤ 100000000000) (hbase : base ≤ w.heap.size)
    (h : ∀ v' w', OwnB w' base v' (xs ++ l) → w.grownBy w' v.ownBlock → K (a.put o.dst v') w') : o.wp Try.prog a w K Q := by
  obtain ⟨i0, hi0, hz0, hz1, hz2⟩ := info_parts info_u8
  obtain ⟨ad, c, e, hn, hp⟩ := hx
  cases ad with
  | none =>
    have hl : l = [] := by
      rcases Nat.eq_zero_or_pos l.length with h0 | h0
      · exact List.eq_nil_of_length_eq_zero h0
      · obtain ⟨_, _, hc, _⟩ := hp h0; cases hc
    subst hl
    rw [hn rfl] at e
    have hrun := run_append_owned_none (P := Try.prog) (w := w) base 22 o.type 5 i0 1 Try.underlying22 hi0 v _ _ hown
    unfold Oper.wp
    simp only [execOp, ho, resolve, invoke, builtin, Sem.run_bind, Sem.run_pure, Result.andThen_ok, List.map_toArray, List.map_cons, List.map_nil, hs, e]
    have hrun2 : (Builtin.append_ #[22, 22] o.type #[v, .slice none 0 0]).run Try.prog w = .ok v w := hrun
    simp only [List.length_nil, hrun2, Result.andThen_ok]
    exact h v w (by rw [List.append_nil]; exact hown) (grown_refl _ _)
  | some ad =>
    refine wp_append_own w s x 22 ho base 5 i0 _ 1 1 Try.underlying22 hi0 hz0 hz1 hz2 rfl (by decide) v xs.length (encB xs) hs hown ad l.length c (encB l) e (by simp [encB]) ?_ ?_ (by unfold maxLen; omega) (by omega) hbase ?_
    · intro j u hj
      have hjl : j < l.length := by
        rcases Nat.lt_or_ge j l.length with h | h
        · exact h
        · rw [List.getElem?_eq_none (by simp [encB]; exact h)] at hj; cases hj
      obtain ⟨b, off, hc, _, hcell⟩ := hp (by omega)
      cases hc
      rw [Addr.add_mid, hcell j hjl]
      simpa [encB, hjl] using hj
    · intro u hu
      obtain ⟨y, _, rfl⟩ := List.mem_map.1 hu
      rfl
    · intro v' w' h1 h2 _
      refine h v' w' ?_ h2
      unfold OwnB encB
      rw [List.length_append, List.map_append]
      exact h1

/-- What two lists of bytes differ by, so far. -/
def oddF (a b : List (BitVec 8)) : Nat → BitVec 8
  | 0 => 0
  | k + 1 => oddF a b k ||| (a.getD k 0 ^^^ b.getD k 0)
theorem or_zero_iff (x y : BitVec 8) : x ||| y = 0 ↔ x = 0 ∧ y = 0 := by
  constructor
  · intro h
    constructor
    · ext i hi
      have := congrArg (fun z => z.getLsbD i) h
      simp at this
      rw [← BitVec.getLsbD_eq_getElem hi, this.1]; simp
    · ext i hi
      have := congrArg (fun z => z.getLsbD i) h
      simp at this
      rw [← BitVec.getLsbD_eq_getElem hi, this.2]; simp
  · rintro ⟨rfl, rfl⟩; rfl
theorem oddF_zero (a b : List (BitVec 8)) : ∀ k, oddF a b k = 0 ↔ ∀ i, i < k → a.getD i 0 = b.getD i 0
  | 0 => by simp [oddF]
  | k + 1 => by
    simp only [oddF]
    have hx : ∀ p q : BitVec 8, p ^^^ q = 0 ↔ p = q := fun p q => BitVec.xor_eq_zero_iff
    rw [or_zero_iff, oddF_zero a b k, hx]
    constructor
    · rintro ⟨h1, h2⟩ i hi
      by_cases e : i = k
      · subst e; exact h2
      · exact h1 i (by omega)
    · intro h
      exact ⟨fun i hi => h i (by omega), h k (by omega)⟩
theorem oddF_eq (a b : List (BitVec 8)) (h : a.length = b.length) : (oddF a b a.length = 0) = (a = b) := by
  apply propext
  rw [oddF_zero]
  constructor
  · intro hi
    apply List.ext_getElem h
    intro i h1 h2
    have := hi i h1
    simpa [List.getD_eq_getElem?_getD, h1, h2] using this
  · rintro rfl i _; rfl
theorem below_drewN {n : Nat} {a b : World} (h : Below n a b) (m : Nat) : Below n a (b.drewN m) := ⟨h.os, h.tape, h.output, h.size, h.block⟩
theorem BRow.at {w : World} {a : Option Addr} {n c : Nat} {l : List (BitVec 8)} (h : BRow w (.slice a n c) l) (h0 : 0 < l.length) : ∃ b off, a = some ⟨b, off, none⟩ ∧ b < w.heap.size ∧ ∀ (i : Nat) (h : i < l.length), w.cell? ⟨b, off + i, none⟩ = some (.int .u8 (B8 l[i])) := by
  obtain ⟨a', c', e, _, hp⟩ := h
  simp only [Value.slice.injEq] at e
  obtain ⟨rfl, _, _⟩ := e
  exact hp h0

set_option maxRecDepth 100000 in
set_option maxHeartbeats 1000000 in
theorem macSame_ne (a a2 : Option Addr) (n n2 c c2 : Nat) (w : World) (h : n ≠ n2) :
    Calls Try.prog 11 #[.slice a n c, .slice a2 n2 c2] w fun e w' => e = .returned (.bool false) ∧ Below w.heap.size w w' := by
  have h1 : ¬ ((n : Int) = (n2 : Int)) := by omega
  go_enter Try.func11, Try.ntmps11
  go_wp2_with fail
  go_ret
  exact ⟨rfl, Below.refl _ _⟩
set_option maxRecDepth 100000 in
set_option maxHeartbeats 1000000 in
theorem macSame_eq (a a2 : Option Addr) (c c2 : Nat) (l m : List (BitVec 8)) (w : World) (hv : BRow w (.slice a l.length c) l) (hv2 : BRow w (.slice a2 l.length c2) m) (he : l.length = m.length) (hl : l.length ≤ 1000000) :
    Calls Try.prog 11 #[.slice a l.length c, .slice a2 l.length c2] w fun e w' => e = .returned (.bool (decide (l = m))) ∧ Below w.heap.size w w' := by
  have HV := Lib.hid hv
  have HV2 := Lib.hid hv2
  have HE := Lib.hid he
  obtain ⟨n, hn⟩ : ∃ n, n = l.length := ⟨_, rfl⟩
  have HN := Lib.hid hn
  rw [← hn] at hl ⊢
  clear hv hv2 he hn
  go_enter Try.func11, Try.ntmps11
  go_wp2_with fail
  go_loopw [5, 14] (fun o i wr => ∃ k : Nat, k ≤ n ∧ i = .int .i64 k ∧ o = .int .u8 (B8 (oddF l m k)) ∧ Below w.heap.size w wr) (fun _ i _ => n - (intOf i).toNat)
  case atStart => exact ⟨0, Nat.zero_le _, rfl, rfl, Below.refl _ _⟩
  case round =>
    obtain ⟨k, hk, rfl, rfl, hb⟩ := hrel
    have HB := Lib.hid hb
    by_cases hlt : k < n
    · obtain ⟨b, off, rfl, hbl, hc⟩ := HV.out.at (by have := HN.out; omega)
      obtain ⟨b2, off2, rfl, hbl2, hc2⟩ := HV2.out.at (by have := HN.out; have := HE.out; omega)
      have hk0 : (0 : Int) ≤ (k : Int) := by omega
      have hk1 : (k : Int) < (n : Int) := by omega
      have hk2 : (k : Int) < 1000000 := by omega
      have h1 : wr.cell? ⟨b, off + k, none⟩ = some (.int .u8 (B8 (l.getD k 0))) := by
        have hkl : k < l.length := by rw [← HN.out]; exact hlt
        rw [hb.cell (p := ⟨b, off + k, none⟩) hbl, hc k hkl, List.getD_eq_getElem?_getD, List.getElem?_eq_getElem hkl]; rfl
      have h2 : wr.cell? ⟨b2, off2 + k, none⟩ = some (.int .u8 (B8 (m.getD k 0))) := by
        have hkl : k < m.length := by rw [← HE.out, ← HN.out]; exact hlt
        rw [hb.cell (p := ⟨b2, off2 + k, none⟩) hbl2, hc2 k hkl, List.getD_eq_getElem?_getD, List.getElem?_eq_getElem hkl]; rfl
      have HST := Lib.hid (show oddF l m (k + 1) = oddF l m k ||| (l.getD k 0 ^^^ m.getD k 0) from rfl)
      clear hc hc2 hbl hbl2 hb
      generalize l.getD k 0 = p at *
      generalize m.getD k 0 = q at *
      generalize oddF l m k = o at *
      have hx := B8_xor p q
      have ho := B8_or o (p ^^^ q)
      generalize p ^^^ q = pq at *
      rw [← HST.out] at ho
      clear HST
      go_wp2_with fail
      go_quiet (fail)
      go_wp2_with fail
      go_roundw
      case rel => exact ⟨k + 1, by omega, by go_num, rfl, below_drewN HB.out _⟩
      case measure => simp [intOf]; omega
    · have hk1 : (n : Int) ≤ (k : Int) := by omega
      obtain rfl : k = n := by omega
      have hz : (B8 (oddF l m k) == 0) = decide (l = m) := by
        have h1 := oddF_eq l m HE.out
        rw [← HN.out] at h1
        by_cases h : l = m
        · rw [decide_eq_true h, h1.mpr h]; rfl
        · rw [decide_eq_false h]
          have : oddF l m k ≠ 0 := fun e => h (h1.mp e)
          have h2 : B8 (oddF l m k) ≠ 0 := fun e => this (B8_inj (y := 0) e)
          simpa using h2
      generalize oddF l m k = o at *
      clear hb
      go_wp2_with fail
      go_ret
      exact ⟨by rw [← hz]; rfl, HB.out⟩
theorem macSame_any (v vb : Value) (l m : List (BitVec 8)) (w : World) (hv : BRow w v l) (hvb : BRow w vb m) (hl : l.length ≤ 1000000) :
    Calls Try.prog 11 #[v, vb] w fun e w' => e = .returned (.bool (decide (l = m))) ∧ Below w.heap.size w w' := by
  obtain ⟨a, c, rfl⟩ := hv.shape
  obtain ⟨a2, c2, rfl⟩ := hvb.shape
  by_cases h : l.length = m.length
  · rw [← h] at hvb ⊢
    exact macSame_eq a a2 c c2 l m w hv hvb h hl
  · rw [decide_eq_false (by intro e; rw [e] at h; exact h rfl)]
    exact macSame_ne a a2 _ _ c c2 w h

/-- One cell of a row of the call's own is stored anew. -/
theorem OwnB.set {w : World} {base : Nat} {v : Value} {l : List (BitVec 8)} (h : OwnB w base v l) {i : Nat} (hi : i < l.length) (y : BitVec 8) :
    ∃ g cap, v = .slice (some ⟨g, 0, none⟩) l.length cap ∧ base ≤ g ∧ g < w.heap.size ∧ w.cell? ⟨g, i, none⟩ = some (.int .u8 (B8 l[i])) ∧ w.frozen? ⟨g, i, none⟩ = false ∧ BRow (w.setCell ⟨g, i, none⟩ (.int .u8 (B8 y))) v (l.set i y) := by
  have hb := h.brow
  rcases h.2 with ⟨rfl, h0⟩ | ⟨g, cap, cur, rfl, hbase, hg, hn, hcap, hcs, htake⟩
  · omega
  · obtain ⟨b, off, e, hlt, hc⟩ := hb.at (by omega)
    simp only [Option.some.injEq, Addr.mk.injEq] at e
    obtain ⟨rfl, rfl, _⟩ := e
    have hfr : w.frozen? ⟨g, i, none⟩ = false := frozen_of_row w _ _ _ _ hg
    have hci := hc i hi
    rw [Nat.zero_add] at hci
    refine ⟨g, cap, rfl, hbase, hlt, hci, hfr, some ⟨g, 0, none⟩, cap, by rw [List.length_set], nofun, fun _ => ⟨g, 0, rfl, by simpa using hlt, fun j hj => ?_⟩⟩
    have hjl : j < l.length := by simpa using hj
    rw [Nat.zero_add]
    have hh := heap_setCell_same w g i cur _ (.int .u8 (B8 y)) hg
    rw [cell_of_row _ g j _ _ _ hh]
    have hcj := hc j hjl
    rw [Nat.zero_add, cell_of_row w g j _ _ _ hg] at hcj
    by_cases e : j = i
    · subst e
      have : j < cur.size := (Array.getElem?_eq_some_iff.1 hcj).1
      simp [this]
    · rw [Array.getElem?_setIfInBounds_ne (by omega), hcj, List.getElem_set_ne (by omega)]

end Go.Proofs.Ytnnllficjljjkaa
