/-
  The walk of the law MacSame: its own code.
-/
import Derived.Test.YtnnllficjljjkaaLawMacS
namespace Go.Proofs.Ytnnllficjljjkaa
open Go.RowKit
set_option linter.unusedVariables false
set_option linter.unusedSimpArgs false

section
variable {ops : Array Oper} {S : World → Prop} {op : Oper} {a : Act}
theorem yieldsIf_str (hw : Region.wanted op (yielded ops a.tmps) = true) (x : Operand) (ho : op.op = .convert 22 9 x) (l : List (BitVec 8))
    (hx : ∀ w, S w → BRow w (a.eval x) l) : YieldsIf Try.prog ops S op (.string (strB l)) a :=
  .inl ⟨hw, fun w hw' => by
    have hs := run_string (P := Try.prog) (hx w hw') Try.underlying22 Try.underlying5 Try.underlying9
    unfold execOp
    simp only [ho, Sem.run_bind, hs, Result.andThen_ok, Sem.run_pure]⟩
theorem yieldsIf_eqStr (hw : Region.wanted op (yielded ops a.tmps) = true) (x y : Operand) (ho : op.op = .binOp .eql 9 x y 9) (l m : List (BitVec 8))
    (hx : a.eval x = .string (strB l)) (hy : a.eval y = .string (strB m)) : YieldsIf Try.prog ops S op (.bool (decide (l = m))) a :=
  .inl ⟨hw, fun w _ => by
    have h1 : (eqGuard .eql 9 x y (.string (strB l)) (.string (strB m))).run Try.prog w = .ok () w := by go_simp
    have h2 : (binOp .eql 9 (.string (strB l)) (.string (strB m))).run Try.prog w = .ok (.bool ((strB l).toList == (strB m).toList)) w := by go_simp
    rw [strB_beq] at h2
    unfold execOp
    simp only [ho, hx, hy, Sem.run_bind, h1, h2, Result.andThen_ok, Sem.run_pure]⟩
end
/-- A slice literal of one byte, as a row of the call's own. -/
theorem wp_build_b_own {o : Oper} {a : Act} {w : World} {K : Act → World → Prop} {Q : Exit → Act → World → Prop} (x : Operand) (ho : o.op = .buildSlice 22 1 #[(0, x)])
    (b : BitVec 8) (hx : a.eval x = .int .u8 (B8 b)) (base : Nat) (hb : base ≤ w.heap.size)
    (h : ∀ g w', OwnB w' base (.slice (some ⟨g, 0, none⟩) 1 1) [b] → w.grownBy w' none → K (a.put o.dst (.slice (some ⟨g, 0, none⟩) 1 1)) w') : o.wp Try.prog a w K Q := by
  obtain ⟨i0, hi0, hz0, hz1, hz2⟩ := info_parts info_u8
  refine wp_buildSlice 22 5 1 #[(0, x)] ho #[.int .u8 (B8 b)] i0 _ Try.underlying22 hi0 hz0 (by rw [hz1]; decide) (by rw [hz1]; decide) ?_ (h _ _ ⟨rfl, .inr ⟨w.heap.size, 1, #[.int .u8 (B8 b)], rfl, hb, heap_alloc_new w _, Nat.le_refl _, by decide, rfl, rfl⟩⟩ (grown_alloc (grown_refl _ _) _))
  rw [hz1]
  have e : (Array.map (fun (y : Nat × Operand) => (y.1, a.eval y.2)) #[(0, x)]).toList = [(0, Value.int .u8 (B8 b))] := by simp [hx]
  rw [e]
  have e1 : Array.range 1 = #[0] := rfl
  simp [Instr.fill, Value.cells, e1]

set_option maxRecDepth 100000 in
set_option maxHeartbeats 2000000 in
theorem macSame_b (a a2 : Option Addr) (c c2 : Nat) (l m : List (BitVec 8)) (N : Nat) (hN : N = l.length) (n : Nat) (y : BitVec 8) (w : World) (hv : BRow w (.slice a N c) l) (hvb : BRow w (.slice a2 m.length c2) m) (hl : N ≤ 1000) (hm : m.length ≤ 1000) (hn : n ≤ 9223372036854775807) (h0 : 0 < N) :
    Calls Try.prog 4 #[.slice a N c, .slice a2 m.length c2, .int .i64 (n : Int), .int .u8 (B8 y)] w fun e w' => e = .returned (.bool true) ∧ Below w.heap.size w w' := by
  have hz1 : ((1000 : Int) < (N : Int)) = False := eq_false (by omega)
  have hz2 : ((1000 : Int) < (m.length : Int)) = False := eq_false (by omega)
  have hn0 : (0 : Int) ≤ (n : Int) := by omega
  have HLN := Lib.hid hN
  have HL := Lib.hid (show l.length ≤ 1000 by omega)
  have HLL := Lib.hid hl
  have HM := Lib.hid hm
  have HV := Lib.hid hv
  have HVB := Lib.hid hvb
  have HNE := Lib.hid (show ¬ (l = [0] ++ l) from fun h => by have := congrArg List.length h; simp at this)
  have HS := Lib.hid (show ∀ (v vb : Value) (m : List (BitVec 8)) (w : World), BRow w v l → BRow w vb m → Calls Try.prog 11 #[v, vb] w fun e w' => e = .returned (.bool (decide (l = m))) ∧ Below w.heap.size w w' from fun v vb m w h1 h2 => macSame_any v vb l m w h1 h2 (by omega))
  have hmod : n % N < l.length := by rw [← hN]; exact Nat.mod_lt n h0
  obtain ⟨x, hx⟩ : ∃ x, x = l[n % N]'hmod := ⟨_, rfl⟩
  have HI := Lib.hid hmod
  have HX := Lib.hid hx
  obtain ⟨cl, hcl⟩ : ∃ cl, cl = l.set (n % N) (x ^^^ y) := ⟨_, rfl⟩
  have HCL := Lib.hid hcl
  have HQ := Lib.hid (show decide (l = cl) = (B8 y == 0) from by
    rw [hcl]
    have h1 : (B8 y == 0) = decide (y = 0) := by
      by_cases h : y = 0
      · subst h; rfl
      · rw [decide_eq_false h]
        have : B8 y ≠ 0 := fun e => h (B8_inj (y := 0) e)
        simpa using this
    rw [h1]
    apply decide_eq_decide.2
    constructor
    · intro h
      have h2 := congrArg (fun z => z[n % N]?) h
      simp only [List.getElem?_set_self hmod, List.getElem?_eq_getElem hmod] at h2
      rw [← hx] at h2
      have h3 : x = x ^^^ y := by simpa using h2
      have h4 : x ^^^ x = x ^^^ (x ^^^ y) := by rw [← h3]
      rw [BitVec.xor_self, ← BitVec.xor_assoc, BitVec.xor_self, BitVec.zero_xor] at h4
      exact h4.symm
    · rintro rfl
      have h5 : x ^^^ (0 : BitVec 8) = x := by simp
      rw [h5, hx, List.set_getElem_self])
  have hgt : (0 : Int) < (N : Int) := by omega
  clear hx hcl hN
  have HN := Lib.hid hn
  clear hv hvb hl hm hn
  go_enter Try.func4, Try.ntmps4
  go_wp2_with (first
    | (go_at_call 8; refine (alive7_any _).mono ?_; rintro e w1 ⟨rfl, hb1⟩; have HB1 := Lib.hid hb1; have HV1 := Lib.hid (HV.out.below hb1); have HVB1 := Lib.hid (HVB.out.below hb1); clear hb1)
    | (at_builtin; refine wpList_append_B rfl (.const (.slice none 0 0)) (.tmp 29) rfl w1.heap.size _ [] l rfl (World.ownsRow_nil _ _ _ _) HV1.out (by have := HL.out; simp; omega) (Nat.le_refl _) ?_; intro v2 w2 hown2 hg2; rw [List.nil_append] at hown2; have HO2 := Lib.hid hown2; have HB2 := Lib.hid (show Below w1.heap.size w1 w2 from (Below.refl _ _).grown hg2 (Nat.le_refl _) (fun k hk => by cases hk)); obtain ⟨a4, c4, e4, _⟩ := hown2.brow; clear hown2 hg2; rw [← HLN.out] at e4; subst e4))
  obtain ⟨g, cap, e5, hbase, hgl, hci, hfr, hset⟩ := HO2.out.set HI.out (x ^^^ y)
  rw [← HX.out] at hci
  rw [← HCL.out] at hset
  rw [← HLN.out] at e5
  simp only [Value.slice.injEq] at e5
  obtain ⟨rfl, _, rfl⟩ := e5
  have ht1 : (n : Int).tmod (N : Int) = (n : Int) % (N : Int) := Int.tmod_eq_emod_of_nonneg hn0
  have ht2 : IntKind.i64.wrap ((n : Int) % (N : Int)) = (n : Int) % (N : Int) := by
    have h1 := Int.emod_nonneg (n : Int) (show (N : Int) ≠ 0 by omega)
    have h2 := Int.emod_lt_of_pos (n : Int) hgt
    have := HLL.out
    exact IntWalk.i64_in _ (by omega)
  have ht3 : ((n : Int) % (N : Int)).toNat = n % N := by rw [← Int.natCast_emod]; exact Int.toNat_natCast _
  have ht4 : (0 : Int) ≤ (n : Int) % (N : Int) := Int.emod_nonneg _ (by omega)
  have ht5 : (n : Int) % (N : Int) < (N : Int) := Int.emod_lt_of_pos _ hgt
  have ht6 : ¬ N = 0 := by omega
  have ht7 : ¬ ((N : Int) = 0) := by omega
  have hx8 := B8_xor x y
  go_still_tail 15, (by kernel_rfl)
  clear ht1 ht2 ht3 ht4 ht5 hx8
  have ht8 : ((N : Int) == 0) = false := by simpa using ht6
  have HW3 := Lib.hid (show BRow (World.drew (World.setCell w2 ⟨g, n % N, none⟩ (.int .u8 (B8 (x ^^^ y))))) (.slice (some ⟨g, 0, none⟩) N c4) cl from hset.below ⟨rfl, rfl, rfl, Nat.le_refl _, fun _ _ => rfl⟩)
  have HB3' := Lib.hid (show Below w1.heap.size w1 (World.drew (World.setCell w2 ⟨g, n % N, none⟩ (.int .u8 (B8 (x ^^^ y))))) from (Below.setCell HB2.out hbase _).drew)
  clear hset
  go_wp2
  clear hci hfr
  have HC3 := Lib.hid HW3.out
  have HB3 := Lib.hid HB3'.out
  clear HW3 HB3'
  generalize World.drew (World.setCell w2 ⟨g, n % N, none⟩ (.int .u8 (B8 (x ^^^ y)))) = w3 at *
  have HV3 := Lib.hid (HV1.out.below HB3.out)
  have HVB3 := Lib.hid (HVB1.out.below HB3.out)
  clear HO2 HB2
  refine wp_region_plan (S := fun w' => Below w3.heap.size w3 w') [0, 1, 3, 4, 5, 6, 7, 2, 8, 9, 10, 11, 13, 14, 15, 12, 16, 17, 18, 19, 20, 21, 22, 23, 24, 25, 26, 27, 28, 29, 31, 30, 32, 33, 34, 35, 36] [true, true, true, true, true, true, true, false, true, true, true, true, true, true, true, false, true, true, true, true, true, true, true, true, true, false, false, true, true, true, true, false, false, false, true, true, true] (by kernel_rfl) (by kernel_rfl) (Below.refl _ _).drew (fun hHeld => ?_)
  simp only [List.filterMap_cons, List.filterMap_nil, List.getElem?_toArray, List.getElem?_cons_zero, List.getElem?_cons_succ]
  refine seqH_take (v := ?_) (Or.inl ⟨by rfl, ?_⟩) ?_
  rotate_left
  · (intro w hSw; go_simp; first | done | with_reducible rfl)
  try simp only [Act.put, List.setIfInBounds_toArray, List.set_cons_zero, List.set_cons_succ]
  refine seqH_take (v := ?_) (Or.inl ⟨by rfl, ?_⟩) ?_
  rotate_left
  · (intro w hSw; go_simp; first | done | with_reducible rfl)
  try simp only [Act.put, List.setIfInBounds_toArray, List.set_cons_zero, List.set_cons_succ]
  refine seqH_take (v := ?_) (Or.inl ⟨by rfl, ?_⟩) ?_
  rotate_left
  · (intro w hSw; go_simp; first | done | with_reducible rfl)
  try simp only [Act.put, List.setIfInBounds_toArray, List.set_cons_zero, List.set_cons_succ]
  refine seqH_take (yieldsIf_str (by rfl) (.tmp 52) rfl l (fun w' hb => HV3.out.below hb)) ?_
  try simp only [Act.put, List.setIfInBounds_toArray, List.set_cons_zero, List.set_cons_succ]
  refine seqH_take (v := ?_) (Or.inl ⟨by rfl, ?_⟩) ?_
  rotate_left
  · (intro w hSw; go_simp; first | done | with_reducible rfl)
  try simp only [Act.put, List.setIfInBounds_toArray, List.set_cons_zero, List.set_cons_succ]
  refine seqH_take (yieldsIf_str (by rfl) (.tmp 54) rfl m (fun w' hb => HVB3.out.below hb)) ?_
  try simp only [Act.put, List.setIfInBounds_toArray, List.set_cons_zero, List.set_cons_succ]
  refine seqH_take (yieldsIf_eqStr (by rfl) (.tmp 53) (.tmp 55) rfl l m rfl rfl) ?_
  try simp only [Act.put, List.setIfInBounds_toArray, List.set_cons_zero, List.set_cons_succ]
  refine seqH_go (fun K hK => ?_)
  rw [if_pos (by rfl)]
  go_simp
  refine (HS.out _ _ m _ (HV3.out.below hHeld) (HVB3.out.below hHeld)).mono ?_; rintro e w4 ⟨rfl, hbc⟩
  try dsimp only
  refine hK.out _ _ (below_keep hHeld hbc) (fun hHeld2 => ?_)
  clear hK K hHeld
  have hHeld := hHeld2
  clear hHeld2
  try simp only [Act.put, List.setIfInBounds_toArray, List.set_cons_zero, List.set_cons_succ]
  refine seqH_take (v := ?_) (Or.inl ⟨by rfl, ?_⟩) ?_
  rotate_left
  · (intro w hSw; go_simp; first | done | with_reducible rfl)
  try simp only [Act.put, List.setIfInBounds_toArray, List.set_cons_zero, List.set_cons_succ]
  refine seqH_take (v := ?_) (Or.inl ⟨by rfl, ?_⟩) ?_
  rotate_left
  · (intro w hSw; go_simp; first | done | with_reducible rfl)
  try simp only [Act.put, List.setIfInBounds_toArray, List.set_cons_zero, List.set_cons_succ]
  refine seqH_take (v := ?_) (Or.inl ⟨by rfl, ?_⟩) ?_
  rotate_left
  · (intro w hSw; go_simp; first | done | with_reducible rfl)
  try simp only [Act.put, List.setIfInBounds_toArray, List.set_cons_zero, List.set_cons_succ]
  refine seqH_take (v := ?_) (Or.inl ⟨by rfl, ?_⟩) ?_
  rotate_left
  · (intro w hSw; go_simp; first | done | with_reducible rfl)
  try simp only [Act.put, List.setIfInBounds_toArray, List.set_cons_zero, List.set_cons_succ]
  refine seqH_take (v := ?_) (Or.inl ⟨by rfl, ?_⟩) ?_
  rotate_left
  · (intro w hSw; go_simp; first | done | with_reducible rfl)
  try simp only [Act.put, List.setIfInBounds_toArray, List.set_cons_zero, List.set_cons_succ]
  refine seqH_take (v := ?_) (Or.inl ⟨by rfl, ?_⟩) ?_
  rotate_left
  · (intro w hSw; go_simp; first | done | with_reducible rfl)
  try simp only [Act.put, List.setIfInBounds_toArray, List.set_cons_zero, List.set_cons_succ]
  refine seqH_take (v := ?_) (Or.inl ⟨by rfl, ?_⟩) ?_
  rotate_left
  · (intro w hSw; go_simp; first | done | with_reducible rfl)
  try simp only [Act.put, List.setIfInBounds_toArray, List.set_cons_zero, List.set_cons_succ]
  refine seqH_go (fun K hK => ?_)
  rw [if_pos (by rfl)]
  go_simp
  refine (HS.out _ _ cl _ (HV3.out.below hHeld) (HC3.out.below hHeld)).mono ?_; rintro e w5 ⟨rfl, hbc⟩; rw [HQ.out]
  try dsimp only
  refine hK.out _ _ (below_keep hHeld hbc) (fun hHeld2 => ?_)
  clear hK K hHeld
  have hHeld := hHeld2
  clear hHeld2
  try simp only [Act.put, List.setIfInBounds_toArray, List.set_cons_zero, List.set_cons_succ]
  refine seqH_take (v := ?_) (Or.inl ⟨by rfl, ?_⟩) ?_
  rotate_left
  · (intro w hSw; go_simp; first | done | with_reducible rfl)
  try simp only [Act.put, List.setIfInBounds_toArray, List.set_cons_zero, List.set_cons_succ]
  refine seqH_take (v := ?_) (Or.inl ⟨by rfl, ?_⟩) ?_
  rotate_left
  · (intro w hSw; go_simp; first | done | with_reducible rfl)
  try simp only [Act.put, List.setIfInBounds_toArray, List.set_cons_zero, List.set_cons_succ]
  refine seqH_take (v := ?_) (Or.inl ⟨by rfl, ?_⟩) ?_
  rotate_left
  · (intro w hSw; go_simp; first | done | with_reducible rfl)
  try simp only [Act.put, List.setIfInBounds_toArray, List.set_cons_zero, List.set_cons_succ]
  refine seqH_take (v := ?_) (Or.inl ⟨by rfl, ?_⟩) ?_
  rotate_left
  · (intro w hSw; go_simp; first | done | with_reducible rfl)
  try simp only [Act.put, List.setIfInBounds_toArray, List.set_cons_zero, List.set_cons_succ]
  refine seqH_take (v := ?_) (Or.inl ⟨by rfl, ?_⟩) ?_
  rotate_left
  · (intro w hSw; go_simp; first | done | with_reducible rfl)
  try simp only [Act.put, List.setIfInBounds_toArray, List.set_cons_zero, List.set_cons_succ]
  refine seqH_take (v := ?_) (Or.inl ⟨by rfl, ?_⟩) ?_
  rotate_left
  · (intro w hSw; go_simp; first | done | with_reducible rfl)
  try simp only [Act.put, List.setIfInBounds_toArray, List.set_cons_zero, List.set_cons_succ]
  refine seqH_take (v := ?_) (Or.inl ⟨by rfl, ?_⟩) ?_
  rotate_left
  · (intro w hSw; go_simp; first | done | with_reducible rfl)
  try simp only [Act.put, List.setIfInBounds_toArray, List.set_cons_zero, List.set_cons_succ]
  refine seqH_take (v := ?_) (Or.inl ⟨by rfl, ?_⟩) ?_
  rotate_left
  · (intro w hSw; go_simp; first | done | with_reducible rfl)
  try simp only [Act.put, List.setIfInBounds_toArray, List.set_cons_zero, List.set_cons_succ]
  refine seqH_take (v := ?_) (Or.inl ⟨by rfl, ?_⟩) ?_
  rotate_left
  · (intro w hSw; go_simp; first | done | with_reducible rfl)
  try simp only [Act.put, List.setIfInBounds_toArray, List.set_cons_zero, List.set_cons_succ]
  refine seqH_go (fun K hK => ?_)
  rw [if_pos (by rfl)]
  refine wp_append_B (.const (.slice none 0 0)) (.tmp 73) rfl w3.heap.size _ [] l rfl (World.ownsRow_nil _ _ _ _) (HV3.out.below hHeld) (by have := HL.out; simp; omega) hHeld.size ?_; intro v6 w6 hown6 hg6; rw [List.nil_append] at hown6; have hS3 : Below w3.heap.size w3 w6 := hHeld.grown hg6 hHeld.size (fun k hk => by cases hk)
  refine hK.out _ _ hS3 (fun hHeld2 => ?_)
  clear hK K hHeld hS3
  have hHeld := hHeld2
  clear hHeld2
  try simp only [Act.put, List.setIfInBounds_toArray, List.set_cons_zero, List.set_cons_succ]
  refine seqH_go (fun K hK => ?_)
  rw [if_pos (by rfl)]
  go_simp
  refine (HS.out _ _ l _ (HV3.out.below hHeld) hown6.brow).mono ?_; rintro e w7 ⟨rfl, hbc⟩; rw [decide_eq_true (rfl : l = l)]
  try dsimp only
  refine hK.out _ _ (below_keep hHeld hbc) (fun hHeld2 => ?_)
  clear hK K hHeld
  have hHeld := hHeld2
  clear hHeld2
  try simp only [Act.put, List.setIfInBounds_toArray, List.set_cons_zero, List.set_cons_succ]
  refine seqH_take (v := ?_) (Or.inl ⟨by rfl, ?_⟩) ?_
  rotate_left
  · (intro w hSw; go_simp; first | done | with_reducible rfl)
  try simp only [Act.put, List.setIfInBounds_toArray, List.set_cons_zero, List.set_cons_succ]
  refine seqH_take (v := ?_) (Or.inl ⟨by rfl, ?_⟩) ?_
  rotate_left
  · (intro w hSw; go_simp; first | done | with_reducible rfl)
  try simp only [Act.put, List.setIfInBounds_toArray, List.set_cons_zero, List.set_cons_succ]
  refine seqH_take (v := ?_) (Or.inl ⟨by rfl, ?_⟩) ?_
  rotate_left
  · (intro w hSw; go_simp; first | done | with_reducible rfl)
  try simp only [Act.put, List.setIfInBounds_toArray, List.set_cons_zero, List.set_cons_succ]
  refine seqH_take (v := ?_) (Or.inl ⟨by rfl, ?_⟩) ?_
  rotate_left
  · (intro w hSw; go_simp; first | done | with_reducible rfl)
  try simp only [Act.put, List.setIfInBounds_toArray, List.set_cons_zero, List.set_cons_succ]
  refine seqH_go (fun K hK => ?_)
  rw [if_pos (by rfl)]
  refine wp_build_b_own (.const (.int .u8 0)) rfl 0 rfl w3.heap.size hHeld.size ?_; intro g8 w8 hown8 hg8; have hS3 : Below w3.heap.size w3 w8 := hHeld.grown hg8 hHeld.size (fun k hk => by cases hk)
  refine hK.out _ _ hS3 (fun hHeld2 => ?_)
  clear hK K hHeld hS3
  have hHeld := hHeld2
  clear hHeld2
  try simp only [Act.put, List.setIfInBounds_toArray, List.set_cons_zero, List.set_cons_succ]
  refine seqH_go (fun K hK => ?_)
  rw [if_pos (by rfl)]
  refine wp_append_B (.tmp 79) (.tmp 80) rfl w3.heap.size _ [0] l rfl hown8 (HV3.out.below hHeld) (by have := HL.out; simp; omega) hHeld.size ?_; intro v9 w9 hown9 hg9; have hS3 : Below w3.heap.size w3 w9 := hHeld.grown hg9 hHeld.size (fun k hk => (World.ownsRow.lt hown8 k hk).1)
  refine hK.out _ _ hS3 (fun hHeld2 => ?_)
  clear hK K hHeld hS3
  have hHeld := hHeld2
  clear hHeld2
  try simp only [Act.put, List.setIfInBounds_toArray, List.set_cons_zero, List.set_cons_succ]
  refine seqH_go (fun K hK => ?_)
  rw [if_pos (by rfl)]
  go_simp
  refine (HS.out _ _ ([0] ++ l) _ (HV3.out.below hHeld) hown9.brow).mono ?_; rintro e w10 ⟨rfl, hbc⟩; rw [decide_eq_false HNE.out]
  try dsimp only
  refine hK.out _ _ (below_keep hHeld hbc) (fun hHeld2 => ?_)
  clear hK K hHeld
  have hHeld := hHeld2
  clear hHeld2
  try simp only [Act.put, List.setIfInBounds_toArray, List.set_cons_zero, List.set_cons_succ]
  refine seqH_take (v := ?_) (Or.inl ⟨by rfl, ?_⟩) ?_
  rotate_left
  · (intro w hSw; go_simp; first | done | with_reducible rfl)
  try simp only [Act.put, List.setIfInBounds_toArray, List.set_cons_zero, List.set_cons_succ]
  refine seqH_take (v := ?_) (Or.inl ⟨by rfl, ?_⟩) ?_
  rotate_left
  · (intro w hSw; go_simp; first | done | with_reducible rfl)
  try simp only [Act.put, List.setIfInBounds_toArray, List.set_cons_zero, List.set_cons_succ]
  refine seqH_take (v := ?_) (Or.inl ⟨by rfl, ?_⟩) ?_
  rotate_left
  · (intro w hSw; go_simp; first | done | with_reducible rfl)
  try simp only [Act.put, List.setIfInBounds_toArray, List.set_cons_zero, List.set_cons_succ]
  refine seqH_nil (NoPanic.normal ?_)
  go_wp2
  go_ret
  exact ⟨rfl, below_keep HB1.out (below_keep HB3.out hHeld)⟩


set_option maxRecDepth 100000 in
set_option maxHeartbeats 2000000 in
theorem macSame_e (a a2 : Option Addr) (c c2 : Nat) (m : List (BitVec 8)) (n : Nat) (y : BitVec 8) (w : World) (hv : BRow w (.slice a 0 c) []) (hvb : BRow w (.slice a2 m.length c2) m) (hm : m.length ≤ 1000) (hn : n ≤ 9223372036854775807) :
    Calls Try.prog 4 #[.slice a 0 c, .slice a2 m.length c2, .int .i64 (n : Int), .int .u8 (B8 y)] w fun e w' => e = .returned (.bool true) ∧ Below w.heap.size w w' := by
  have hz2 : ((1000 : Int) < (m.length : Int)) = False := eq_false (by omega)
  have hn0 : (0 : Int) ≤ (n : Int) := by omega
  have HL := Lib.hid (show ([] : List (BitVec 8)).length ≤ 1000 by decide)
  have HM := Lib.hid hm
  have HV := Lib.hid hv
  have HVB := Lib.hid hvb
  have HS := Lib.hid (show ∀ (v vb : Value) (m : List (BitVec 8)) (w : World), BRow w v [] → BRow w vb m → Calls Try.prog 11 #[v, vb] w fun e w' => e = .returned (.bool (decide ([] = m))) ∧ Below w.heap.size w w' from fun v vb m w h1 h2 => macSame_any v vb [] m w h1 h2 (by decide))
  have HN := Lib.hid hn
  clear hv hvb hm hn
  go_enter Try.func4, Try.ntmps4
  go_wp2_with (first
    | (go_at_call 8; refine (alive7_any _).mono ?_; rintro e w1 ⟨rfl, hb1⟩; have HB1 := Lib.hid hb1; have HV1 := Lib.hid (HV.out.below hb1); have HVB1 := Lib.hid (HVB.out.below hb1); clear hb1)
    | (at_builtin; refine wpList_append_B rfl (.const (.slice none 0 0)) (.tmp 29) rfl w1.heap.size _ [] [] rfl (World.ownsRow_nil _ _ _ _) HV1.out (by simp) (Nat.le_refl _) ?_; intro v2 w2 hown2 hg2;  have HO2 := Lib.hid hown2; have HB2 := Lib.hid (show Below w1.heap.size w1 w2 from (Below.refl _ _).grown hg2 (Nat.le_refl _) (fun k hk => by cases hk)); obtain ⟨a4, c4, e4, _⟩ := hown2.brow; clear hown2 hg2; subst e4))
  have HV3 := Lib.hid (HV1.out.below HB2.out)
  have HVB3 := Lib.hid (HVB1.out.below HB2.out)
  have HC3 := Lib.hid HO2.out.brow
  have HB3 := Lib.hid HB2.out
  have HNE := Lib.hid (show ¬ (([] : List (BitVec 8)) = [0] ++ []) from by decide)
  clear HO2 HB2
  refine wp_region_plan (S := fun w' => Below w2.heap.size w2 w') [0, 1, 3, 4, 5, 6, 7, 2, 8, 9, 10, 11, 13, 14, 15, 12, 16, 17, 18, 19, 20, 21, 22, 23, 24, 25, 26, 27, 28, 29, 31, 30, 32, 33, 34, 35, 36] [true, true, true, true, true, true, true, false, true, true, true, true, true, true, true, false, true, true, true, true, true, true, true, true, true, false, false, true, true, true, true, false, false, false, true, true, true] (by kernel_rfl) (by kernel_rfl) (Below.refl _ _).drew (fun hHeld => ?_)
  simp only [List.filterMap_cons, List.filterMap_nil, List.getElem?_toArray, List.getElem?_cons_zero, List.getElem?_cons_succ]
  refine seqH_take (v := ?_) (Or.inl ⟨by rfl, ?_⟩) ?_
  rotate_left
  · (intro w hSw; go_simp; first | done | with_reducible rfl)
  try simp only [Act.put, List.setIfInBounds_toArray, List.set_cons_zero, List.set_cons_succ]
  refine seqH_take (v := ?_) (Or.inl ⟨by rfl, ?_⟩) ?_
  rotate_left
  · (intro w hSw; go_simp; first | done | with_reducible rfl)
  try simp only [Act.put, List.setIfInBounds_toArray, List.set_cons_zero, List.set_cons_succ]
  refine seqH_take (v := ?_) (Or.inl ⟨by rfl, ?_⟩) ?_
  rotate_left
  · (intro w hSw; go_simp; first | done | with_reducible rfl)
  try simp only [Act.put, List.setIfInBounds_toArray, List.set_cons_zero, List.set_cons_succ]
  refine seqH_take (yieldsIf_str (by rfl) (.tmp 52) rfl [] (fun w' hb => HV3.out.below hb)) ?_
  try simp only [Act.put, List.setIfInBounds_toArray, List.set_cons_zero, List.set_cons_succ]
  refine seqH_take (v := ?_) (Or.inl ⟨by rfl, ?_⟩) ?_
  rotate_left
  · (intro w hSw; go_simp; first | done | with_reducible rfl)
  try simp only [Act.put, List.setIfInBounds_toArray, List.set_cons_zero, List.set_cons_succ]
  refine seqH_take (yieldsIf_str (by rfl) (.tmp 54) rfl m (fun w' hb => HVB3.out.below hb)) ?_
  try simp only [Act.put, List.setIfInBounds_toArray, List.set_cons_zero, List.set_cons_succ]
  refine seqH_take (yieldsIf_eqStr (by rfl) (.tmp 53) (.tmp 55) rfl [] m rfl rfl) ?_
  try simp only [Act.put, List.setIfInBounds_toArray, List.set_cons_zero, List.set_cons_succ]
  refine seqH_go (fun K hK => ?_)
  rw [if_pos (by rfl)]
  go_simp
  refine (HS.out _ _ m _ (HV3.out.below hHeld) (HVB3.out.below hHeld)).mono ?_; rintro e w4 ⟨rfl, hbc⟩
  try dsimp only
  refine hK.out _ _ (below_keep hHeld hbc) (fun hHeld2 => ?_)
  clear hK K hHeld
  have hHeld := hHeld2
  clear hHeld2
  try simp only [Act.put, List.setIfInBounds_toArray, List.set_cons_zero, List.set_cons_succ]
  refine seqH_take (v := ?_) (Or.inl ⟨by rfl, ?_⟩) ?_
  rotate_left
  · (intro w hSw; go_simp; first | done | with_reducible rfl)
  try simp only [Act.put, List.setIfInBounds_toArray, List.set_cons_zero, List.set_cons_succ]
  refine seqH_take (v := ?_) (Or.inl ⟨by rfl, ?_⟩) ?_
  rotate_left
  · (intro w hSw; go_simp; first | done | with_reducible rfl)
  try simp only [Act.put, List.setIfInBounds_toArray, List.set_cons_zero, List.set_cons_succ]
  refine seqH_take (v := ?_) (Or.inl ⟨by rfl, ?_⟩) ?_
  rotate_left
  · (intro w hSw; go_simp; first | done | with_reducible rfl)
  try simp only [Act.put, List.setIfInBounds_toArray, List.set_cons_zero, List.set_cons_succ]
  refine seqH_take (v := ?_) (Or.inl ⟨by rfl, ?_⟩) ?_
  rotate_left
  · (intro w hSw; go_simp; first | done | with_reducible rfl)
  try simp only [Act.put, List.setIfInBounds_toArray, List.set_cons_zero, List.set_cons_succ]
  refine seqH_take (v := ?_) (Or.inl ⟨by rfl, ?_⟩) ?_
  rotate_left
  · (intro w hSw; go_simp; first | done | with_reducible rfl)
  try simp only [Act.put, List.setIfInBounds_toArray, List.set_cons_zero, List.set_cons_succ]
  refine seqH_take (v := ?_) (Or.inl ⟨by rfl, ?_⟩) ?_
  rotate_left
  · (intro w hSw; go_simp; first | done | with_reducible rfl)
  try simp only [Act.put, List.setIfInBounds_toArray, List.set_cons_zero, List.set_cons_succ]
  refine seqH_take (v := ?_) (Or.inl ⟨by rfl, ?_⟩) ?_
  rotate_left
  · (intro w hSw; go_simp; first | done | with_reducible rfl)
  try simp only [Act.put, List.setIfInBounds_toArray, List.set_cons_zero, List.set_cons_succ]
  refine seqH_go (fun K hK => ?_)
  rw [if_pos (by rfl)]
  go_simp
  refine (HS.out _ _ [] _ (HV3.out.below hHeld) (HC3.out.below hHeld)).mono ?_; rintro e w5 ⟨rfl, hbc⟩; rw [decide_eq_true (rfl : ([] : List (BitVec 8)) = [])]
  try dsimp only
  refine hK.out _ _ (below_keep hHeld hbc) (fun hHeld2 => ?_)
  clear hK K hHeld
  have hHeld := hHeld2
  clear hHeld2
  try simp only [Act.put, List.setIfInBounds_toArray, List.set_cons_zero, List.set_cons_succ]
  refine seqH_take (v := ?_) (Or.inl ⟨by rfl, ?_⟩) ?_
  rotate_left
  · (intro w hSw; go_simp; first | done | with_reducible rfl)
  try simp only [Act.put, List.setIfInBounds_toArray, List.set_cons_zero, List.set_cons_succ]
  refine seqH_take (v := undef) (Or.inr ⟨by rfl, rfl⟩) ?_
  try simp only [Act.put, List.setIfInBounds_toArray, List.set_cons_zero, List.set_cons_succ]
  refine seqH_take (v := undef) (Or.inr ⟨by rfl, rfl⟩) ?_
  try simp only [Act.put, List.setIfInBounds_toArray, List.set_cons_zero, List.set_cons_succ]
  refine seqH_take (v := ?_) (Or.inl ⟨by rfl, ?_⟩) ?_
  rotate_left
  · (intro w hSw; go_simp; first | done | with_reducible rfl)
  try simp only [Act.put, List.setIfInBounds_toArray, List.set_cons_zero, List.set_cons_succ]
  refine seqH_take (v := ?_) (Or.inl ⟨by rfl, ?_⟩) ?_
  rotate_left
  · (intro w hSw; go_simp; first | done | with_reducible rfl)
  try simp only [Act.put, List.setIfInBounds_toArray, List.set_cons_zero, List.set_cons_succ]
  refine seqH_take (v := ?_) (Or.inl ⟨by rfl, ?_⟩) ?_
  rotate_left
  · (intro w hSw; go_simp; first | done | with_reducible rfl)
  try simp only [Act.put, List.setIfInBounds_toArray, List.set_cons_zero, List.set_cons_succ]
  refine seqH_take (v := ?_) (Or.inl ⟨by rfl, ?_⟩) ?_
  rotate_left
  · (intro w hSw; go_simp; first | done | with_reducible rfl)
  try simp only [Act.put, List.setIfInBounds_toArray, List.set_cons_zero, List.set_cons_succ]
  refine seqH_take (v := ?_) (Or.inl ⟨by rfl, ?_⟩) ?_
  rotate_left
  · (intro w hSw; go_simp; first | done | with_reducible rfl)
  try simp only [Act.put, List.setIfInBounds_toArray, List.set_cons_zero, List.set_cons_succ]
  refine seqH_take (v := ?_) (Or.inl ⟨by rfl, ?_⟩) ?_
  rotate_left
  · (intro w hSw; go_simp; first | done | with_reducible rfl)
  try simp only [Act.put, List.setIfInBounds_toArray, List.set_cons_zero, List.set_cons_succ]
  refine seqH_go (fun K hK => ?_)
  rw [if_pos (by rfl)]
  refine wp_append_B (.const (.slice none 0 0)) (.tmp 73) rfl w2.heap.size _ [] [] rfl (World.ownsRow_nil _ _ _ _) (HV3.out.below hHeld) (by simp) hHeld.size ?_; intro v6 w6 hown6 hg6; rw [List.nil_append] at hown6; have hS3 : Below w2.heap.size w2 w6 := hHeld.grown hg6 hHeld.size (fun k hk => by cases hk)
  refine hK.out _ _ hS3 (fun hHeld2 => ?_)
  clear hK K hHeld hS3
  have hHeld := hHeld2
  clear hHeld2
  try simp only [Act.put, List.setIfInBounds_toArray, List.set_cons_zero, List.set_cons_succ]
  refine seqH_go (fun K hK => ?_)
  rw [if_pos (by rfl)]
  go_simp
  refine (HS.out _ _ [] _ (HV3.out.below hHeld) hown6.brow).mono ?_; rintro e w7 ⟨rfl, hbc⟩; rw [decide_eq_true (rfl : ([] : List (BitVec 8)) = [])]
  try dsimp only
  refine hK.out _ _ (below_keep hHeld hbc) (fun hHeld2 => ?_)
  clear hK K hHeld
  have hHeld := hHeld2
  clear hHeld2
  try simp only [Act.put, List.setIfInBounds_toArray, List.set_cons_zero, List.set_cons_succ]
  refine seqH_take (v := ?_) (Or.inl ⟨by rfl, ?_⟩) ?_
  rotate_left
  · (intro w hSw; go_simp; first | done | with_reducible rfl)
  try simp only [Act.put, List.setIfInBounds_toArray, List.set_cons_zero, List.set_cons_succ]
  refine seqH_take (v := ?_) (Or.inl ⟨by rfl, ?_⟩) ?_
  rotate_left
  · (intro w hSw; go_simp; first | done | with_reducible rfl)
  try simp only [Act.put, List.setIfInBounds_toArray, List.set_cons_zero, List.set_cons_succ]
  refine seqH_take (v := ?_) (Or.inl ⟨by rfl, ?_⟩) ?_
  rotate_left
  · (intro w hSw; go_simp; first | done | with_reducible rfl)
  try simp only [Act.put, List.setIfInBounds_toArray, List.set_cons_zero, List.set_cons_succ]
  refine seqH_take (v := ?_) (Or.inl ⟨by rfl, ?_⟩) ?_
  rotate_left
  · (intro w hSw; go_simp; first | done | with_reducible rfl)
  try simp only [Act.put, List.setIfInBounds_toArray, List.set_cons_zero, List.set_cons_succ]
  refine seqH_go (fun K hK => ?_)
  rw [if_pos (by rfl)]
  refine wp_build_b_own (.const (.int .u8 0)) rfl 0 rfl w2.heap.size hHeld.size ?_; intro g8 w8 hown8 hg8; have hS3 : Below w2.heap.size w2 w8 := hHeld.grown hg8 hHeld.size (fun k hk => by cases hk)
  refine hK.out _ _ hS3 (fun hHeld2 => ?_)
  clear hK K hHeld hS3
  have hHeld := hHeld2
  clear hHeld2
  try simp only [Act.put, List.setIfInBounds_toArray, List.set_cons_zero, List.set_cons_succ]
  refine seqH_go (fun K hK => ?_)
  rw [if_pos (by rfl)]
  refine wp_append_B (.tmp 79) (.tmp 80) rfl w2.heap.size _ [0] [] rfl hown8 (HV3.out.below hHeld) (by simp) hHeld.size ?_; intro v9 w9 hown9 hg9; have hS3 : Below w2.heap.size w2 w9 := hHeld.grown hg9 hHeld.size (fun k hk => (World.ownsRow.lt hown8 k hk).1)
  refine hK.out _ _ hS3 (fun hHeld2 => ?_)
  clear hK K hHeld hS3
  have hHeld := hHeld2
  clear hHeld2
  try simp only [Act.put, List.setIfInBounds_toArray, List.set_cons_zero, List.set_cons_succ]
  refine seqH_go (fun K hK => ?_)
  rw [if_pos (by rfl)]
  go_simp
  refine (HS.out _ _ ([0] ++ []) _ (HV3.out.below hHeld) hown9.brow).mono ?_; rintro e w10 ⟨rfl, hbc⟩; rw [decide_eq_false HNE.out]
  try dsimp only
  refine hK.out _ _ (below_keep hHeld hbc) (fun hHeld2 => ?_)
  clear hK K hHeld
  have hHeld := hHeld2
  clear hHeld2
  try simp only [Act.put, List.setIfInBounds_toArray, List.set_cons_zero, List.set_cons_succ]
  refine seqH_take (v := ?_) (Or.inl ⟨by rfl, ?_⟩) ?_
  rotate_left
  · (intro w hSw; go_simp; first | done | with_reducible rfl)
  try simp only [Act.put, List.setIfInBounds_toArray, List.set_cons_zero, List.set_cons_succ]
  refine seqH_take (v := ?_) (Or.inl ⟨by rfl, ?_⟩) ?_
  rotate_left
  · (intro w hSw; go_simp; first | done | with_reducible rfl)
  try simp only [Act.put, List.setIfInBounds_toArray, List.set_cons_zero, List.set_cons_succ]
  refine seqH_take (v := ?_) (Or.inl ⟨by rfl, ?_⟩) ?_
  rotate_left
  · (intro w hSw; go_simp; first | done | with_reducible rfl)
  try simp only [Act.put, List.setIfInBounds_toArray, List.set_cons_zero, List.set_cons_succ]
  refine seqH_nil (NoPanic.normal ?_)
  go_wp2
  go_ret
  exact ⟨rfl, below_keep HB1.out (below_keep HB3.out hHeld)⟩

set_option maxHeartbeats 1000000 in
theorem macSame_out (a a2 : Option Addr) (k c k2 c2 : Nat) (n : Int) (y : Int) (w : World) (h : 1000 < k ∨ 1000 < k2 ∨ n < 0) :
    Calls Try.prog 4 #[.slice a k c, .slice a2 k2 c2, .int .i64 n, .int .u8 y] w fun e w' => e = .returned (.bool true) ∧ Below w.heap.size w w' := by
  by_cases h1 : 1000 < k
  · have hz1 : ((1000 : Int) < (k : Int)) = True := eq_true (by omega)
    clear h h1
    go_enter Try.func4, Try.ntmps4
    go_wp2_with (go_at_call 8; refine (alive7_any _).mono ?_; rintro e w1 ⟨rfl, hb1⟩)
    go_ret
    exact ⟨rfl, hb1⟩
  · have hz1 : ((1000 : Int) < (k : Int)) = False := eq_false (by omega)
    by_cases h2 : 1000 < k2
    · have hz2 : ((1000 : Int) < (k2 : Int)) = True := eq_true (by omega)
      clear h h1 h2
      go_enter Try.func4, Try.ntmps4
      go_wp2_with (go_at_call 8; refine (alive7_any _).mono ?_; rintro e w1 ⟨rfl, hb1⟩)
      go_ret
      exact ⟨rfl, hb1⟩
    · have hz2 : ((1000 : Int) < (k2 : Int)) = False := eq_false (by omega)
      have h3 : n < 0 := by omega
      clear h h1 h2
      go_enter Try.func4, Try.ntmps4
      go_wp2_with (go_at_call 8; refine (alive7_any _).mono ?_; rintro e w1 ⟨rfl, hb1⟩)
      go_ret
      exact ⟨rfl, hb1⟩
theorem macSame_walk {w : World} (v : Value) (l : List (BitVec 8)) (hv : BRow w v l) (_hq : l.length ≤ maxLen ∧ CapOk v) (vb : Value) (m : List (BitVec 8)) (hvb : BRow w vb m) (_hq2 : m.length ≤ maxLen ∧ CapOk vb) (n : Int) (hn : (Lit.int .i64 n).wf = true) (y : Int) (hy : (Lit.int .u8 y).wf = true) :
    Calls Try.prog 4 #[v, vb, .int .i64 n, .int .u8 y] w fun e w' => e = .returned (.bool true) ∧ Below w.heap.size w w' := by
  obtain ⟨a, c, rfl⟩ := hv.shape
  obtain ⟨a2, c2, rfl⟩ := hvb.shape
  have hb := i64_of_wf hn
  obtain ⟨y, rfl⟩ := u8_of_wf hy
  by_cases h : 1000 < l.length ∨ 1000 < m.length ∨ n < 0
  · exact macSame_out a a2 _ c _ c2 n _ w h
  · by_cases h0 : l.length = 0
    · obtain rfl : l = [] := List.eq_nil_of_length_eq_zero h0
      have := macSame_e a a2 c c2 m n.toNat y w hv hvb (by omega) (by omega)
      rw [show ((n.toNat : Nat) : Int) = n by omega] at this
      exact this
    · have := macSame_b a a2 c c2 l m _ rfl n.toNat y w hv hvb (by omega) (by omega) (by omega) (by omega)
      rw [show ((n.toNat : Nat) : Int) = n by omega] at this
      exact this

end Go.Proofs.Ytnnllficjljjkaa
