/-
  For the law MerkleTurned: a byte set in a row of hashes of the call's own; both checks of one; the calls that stop at once.
-/
import Derived.Test.YtnnllficjljjkaaDoorRefUp
import Derived.Test.YtnnllficjljjkaaDoorLawMkR
namespace Go.Proofs.YtnnllficjljjkaaDoor
open Go.RowKit
set_option linter.unusedVariables false
set_option linter.unusedSimpArgs false

theorem encN_set (l : List (Nat → BitVec 8)) {k j : Nat} (hk : k < l.length) (hj : j < 32) (x : BitVec 8) : encN (l.set k (upd l[k] j x)) = (encN l).set (k * 32 + j) (.int .u8 (B8 x)) := by
  apply List.ext_getElem?
  intro m
  rw [List.getElem?_set]
  by_cases hm : m < l.length * 32
  · have h1 := encN_get (l.set k (upd l[k] j x)) (m / 32) (by rw [List.length_set]; omega) (m % 32) (by omega)
    have h2 := encN_get l (m / 32) (by omega) (m % 32) (by omega)
    rw [show m / 32 * 32 + m % 32 = m by omega] at h1 h2
    rw [h1, h2, List.getElem_set]
    by_cases h : k = m / 32
    · subst h
      rw [if_pos rfl]
      by_cases h3 : j = m % 32
      · subst h3
        rw [if_pos (by omega), if_pos (by rw [encN_length]; omega)]
        unfold upd
        rw [if_pos rfl]
      · rw [if_neg (by omega)]
        unfold upd
        rw [if_neg (fun e => h3 e.symm)]
    · rw [if_neg h, if_neg (by omega)]
  · rw [List.getElem?_eq_none (by rw [encN_length, List.length_set]; omega), List.getElem?_eq_none (l := encN l) (by rw [encN_length]; omega)]
    rw [if_neg (by omega)]

theorem OwnN.set {w : World} {base : Nat} {v : Value} {l : List (Nat → BitVec 8)} (h : OwnN w base v l) {k j : Nat} (hk : k < l.length) (hj : j < 32) (x : BitVec 8) :
    ∃ g cap, v = .slice (some ⟨g, 0, none⟩) l.length cap ∧ l.length ≤ cap ∧ base ≤ g ∧ g < w.heap.size ∧ w.cell? ⟨g, k * 32 + j, none⟩ = some (.int .u8 (B8 (l[k] j))) ∧ w.frozen? ⟨g, k * 32 + j, none⟩ = false ∧
      OwnN (w.setCell ⟨g, k * 32 + j, none⟩ (.int .u8 (B8 x))) base (.slice (some ⟨g, 0, none⟩) l.length cap) (l.set k (upd l[k] j x)) ∧ w.grownBy (w.setCell ⟨g, k * 32 + j, none⟩ (.int .u8 (B8 x))) (some g) := by
  have h0 := h
  rcases h.2 with ⟨rfl, hl⟩ | ⟨g, cap, cur, rfl, hb, hg, hn, _⟩
  · rw [hl] at hk; omega
  · refine ⟨g, cap, rfl, hn, hb, (Array.getElem?_eq_some_iff.1 hg).1, ?_, World.ownsRow.frozenAt h0 _, ?_, (World.ownsRow.stored h0 _ _).2⟩
    · rw [World.ownsRow.cellAt h0 (k * 32 + j) (by omega)]
      exact encN_get l k hk j hj
    · unfold OwnN
      rw [encN_set l hk hj x, List.length_set]
      exact (World.ownsRow.stored h0 _ _).1

theorem wpList_append_N {ops : Array Oper} {rest : List Oper} {o : Oper} {a : Act} {w : World} {Q : Exit → Act → World → Prop} (hgd : o.guard = none) (s x : Operand)
    (ho : o.op = .call { callee := .builtin .append, args := #[s, x], argTypes := #[34, 34] })
    (base : Nat) (v : Value) (xs l : List (Nat → BitVec 8)) (hs : a.eval s = v) (hown : OwnN w base v xs) (hx : NRow w (a.eval x) l)
    (hsz : xs.length + l.length ≤ 1000000000) (hbase : base ≤ w.heap.size)
    (h : ∀ v' w', OwnN w' base v' (xs ++ l) → w.grownBy w' v.ownBlock → wpList Tryd.prog ops Q rest (a.put o.dst v') w') : wpList Tryd.prog ops Q (o :: rest) a w :=
  wpList_plain hgd fun _ hK => wp_append_N s x ho base v xs l hs hown hx hsz hbase fun v' w' h1 h2 => hK _ _ (h v' w' h1 h2)
theorem built_oneB (y : BitVec 8) : Tryd.prog.built 28 [(0, Value.int .u8 (B8 y))] = some (rowB 32 (oneB y)) := by kernel_rfl

theorem two_checks (r : Nat → BitVec 8) (n i : Int) (B A : Option Addr) (L cb P c : Nat) (b : List (BitVec 8)) (p : List (Nat → BitVec 8)) (w : World) (hb : BRow w (.slice B L cb) b) (hL : L = b.length) (hbl : L ≤ 99999900) (hp : NRow w (.slice A P c) p) (hP : P = p.length) (hc : P ≤ c) (hPl : P ≤ 100000000) (hka : KAt w) :
    ∃ rb : Bool, (∀ w1 : World, Below w.heap.size w w1 → Calls Tryd.prog 48 #[.agg (rowB 32 r), .int .i64 n, .int .i64 i, .slice B L cb, .slice A P c] w1 fun e w' => e = .returned (.bool rb) ∧ Below w1.heap.size w1 w') ∧
      (∀ w1 : World, Below w.heap.size w w1 → Calls Tryd.prog 49 #[.agg (rowB 32 r), .int .i64 n, .int .i64 i, .slice B L cb, .slice A P c] w1 fun e w' => e = .returned (.bool rb) ∧ Below w1.heap.size w1 w') := by
  subst hL
  refine ⟨checkS r n i b p, fun w1 hw => ?_, fun w1 hw => ?_⟩
  · exact check_any r n i B A cb P c b p w1 (hb.below hw) (by omega) (hp.below hw) hP hc
  · exact refCheck_any r n i B A cb P c b p w1 (hb.below hw) (by omega) (hp.below hw) hP hc (by omega) (hka.below hw)

set_option maxHeartbeats 1000000 in
theorem merkleTurned_big (A : Option Addr) (N c : Nat) (i what at_ : Int) (v : Value) (l : List (List (BitVec 8))) (w : World) (hv : BRows w (.slice A N c) l) (h : bigB l = true) :
    Calls Tryd.prog 20 #[.slice A N c, .int .i64 i, .int .i64 what, .int .i64 at_, v] w fun e w' => e = .returned (.bool true) ∧ Below w.heap.size w w' := by
  have HV := Lib.hid hv
  have HBG := Lib.hid (show ∀ w, BRows w (.slice A N c) l → Calls Tryd.prog 22 #[.slice A N c] w fun e w' => e = .returned (.bool true) ∧ w = w' from fun w hv => by
    have := big_any _ l w hv
    rw [h] at this
    exact this)
  clear hv h
  go_enter Tryd.func20, Tryd.ntmps20
  go_wp2_with (first
    | (go_at_call 42; refine (alive15_any _).mono ?_; rintro e w1 ⟨rfl, hb1⟩)
    | (go_at_call 22; refine (HBG.out _ (HV.out.below hb1)).mono ?_; rintro e w2 ⟨rfl, rfl⟩))
  go_ret
  exact ⟨rfl, hb1⟩

set_option maxHeartbeats 1000000 in
theorem merkleTurned_out (A : Option Addr) (N c : Nat) (i what at_ : Int) (v : Value) (l : List (List (BitVec 8))) (w : World) (hv : BRows w (.slice A N c) l) (h : bigB l = false) (hx : i < 0 ∨ (N : Int) ≤ i ∨ at_ < 0) :
    Calls Tryd.prog 20 #[.slice A N c, .int .i64 i, .int .i64 what, .int .i64 at_, v] w fun e w' => e = .returned (.bool true) ∧ Below w.heap.size w w' := by
  have HV := Lib.hid hv
  have HBG := Lib.hid (show ∀ w, BRows w (.slice A N c) l → Calls Tryd.prog 22 #[.slice A N c] w fun e w' => e = .returned (.bool false) ∧ w = w' from fun w hv => by
    have := big_any _ l w hv
    rw [h] at this
    exact this)
  clear hv h
  by_cases h1 : i < 0
  · clear hx
    go_enter Tryd.func20, Tryd.ntmps20
    go_wp2_with (first
      | (go_at_call 42; refine (alive15_any _).mono ?_; rintro e w1 ⟨rfl, hb1⟩)
      | (go_at_call 22; refine (HBG.out _ (HV.out.below hb1)).mono ?_; rintro e w2 ⟨rfl, rfl⟩))
    go_ret
    exact ⟨rfl, hb1⟩
  · by_cases h2 : (N : Int) ≤ i
    · clear hx
      go_enter Tryd.func20, Tryd.ntmps20
      go_wp2_with (first
        | (go_at_call 42; refine (alive15_any _).mono ?_; rintro e w1 ⟨rfl, hb1⟩)
        | (go_at_call 22; refine (HBG.out _ (HV.out.below hb1)).mono ?_; rintro e w2 ⟨rfl, rfl⟩))
      go_ret
      exact ⟨rfl, hb1⟩
    · have h3 : at_ < 0 := by omega
      clear hx
      go_enter Tryd.func20, Tryd.ntmps20
      go_wp2_with (first
        | (go_at_call 42; refine (alive15_any _).mono ?_; rintro e w1 ⟨rfl, hb1⟩)
        | (go_at_call 22; refine (HBG.out _ (HV.out.below hb1)).mono ?_; rintro e w2 ⟨rfl, rfl⟩))
      go_ret
      exact ⟨rfl, hb1⟩

end Go.Proofs.YtnnllficjljjkaaDoor
