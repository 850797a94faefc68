/-
  The law MerkleTurned holds: for every input the Go function returns true, and each argument reads afterwards as before; the card ties the one listed table to the program's text. No condition beyond the row's own.
-/
import Derived.Test.YtnnllficjljjkaaDoorLawMkT
import Derived.Test.YtnnllficjljjkaaDoorShut
import Derived.Test.YtnnllficjljjkaaDoorCards
import Derived.Test.YtnnllficjljjkaaDoorTie
namespace Go.Proofs.YtnnllficjljjkaaDoor
open Go.ChangeShapes Go.WideShapes Go.ChangeAt Go.RowKit
namespace merkleTurned

set_option maxRecDepth 100000 in
theorem lifted (os : Os) (started : os.Started) (H : Type) (enc : TypeId × Value → H) :
    ReturnsInHanded {} Tryd.checked os 20 .any (fun w args => (Rows.merkleTurnedSpec.pre enc Tryd.prog Tryd.f20 [] false w args ∧ laidMetH Tryd.prog Rows.merkleTurnedRow.laid w) ∧ sizedMet enc Tryd.prog Tryd.f20 (OpenSpec.ofChange Rows.merkleTurnedSpec) false w args)
      (Rows.merkleTurnedSpec.post enc Tryd.prog Tryd.f20 false true false false) := by
  refine returnsInHanded_of_change_and (C := Tryd.checked) (X := fun w _ => laidMetH Tryd.prog Rows.merkleTurnedRow.laid w) (fun _ _ _ hh h => h.of_heap hh) own started (by kernel_rfl) Tryd.func20
    (ChangeSpec.witness_shaped (enc := enc) (C := Tryd.checked) (os := os) (X := fun w _ => laidMetH Tryd.prog Rows.merkleTurnedRow.laid w) false (World.doorLaid Tryd.prog 14 os) #[.slice none 0 0, .int .i64 0, .int .i64 0, .int .i64 0, .int .u8 0] 8 rfl (World.shaped_of_RefB (by kernel_rfl) (by kernel_rfl)) (by kernel_rfl) (by kernel_rfl) (by kernel_rfl) (door_met os _)) ?_
  intro W base args ds gs before hval0 hW _ _ hL _
  have hval : ∀ (j : Nat) t v, Tryd.f20.params[j]? = some t → args[j]? = some v → Value.okWide Tryd.prog W .any base t v := hval0
  have hW' := hW
  obtain ⟨p, q, hA0, hV, rfl, hfz, hnd⟩ := hW
  have hA : DataW.TrodAll enc Tryd.prog W 0 (fun _ => true) true Tryd.f20.params.toList args.toList ds p := hA0
  rw [Tryd.params20] at hA hval
  obtain ⟨v0, vs0, d0, ds0, p0, q0, hargs, rfl, rfl, h0, r0⟩ := trodAll_cons hA
  obtain ⟨v1, vs1, d1, ds1, p1, q1, rfl, rfl, rfl, h1, r1⟩ := trodAll_cons r0
  obtain ⟨v2, vs2, d2, ds2, p2, q2, rfl, rfl, rfl, h2, r2⟩ := trodAll_cons r1
  obtain ⟨v3, vs3, d3, ds3, p3, q3, rfl, rfl, rfl, h3, r3⟩ := trodAll_cons r2
  obtain ⟨v4, vs4, d4, ds4, p4, q4, rfl, rfl, rfl, h4, r4⟩ := trodAll_cons r3
  obtain ⟨rfl, rfl, rfl⟩ := trodAll_nil r4
  obtain rfl : args = #[v0, v1, v2, v3, v4] := by cases args; simp_all
  obtain ⟨rfl, rfl⟩ := trodVars_none hV
  have k0 := h0
  have lt0 : ∀ x ∈ p0, x.block < W.heap.size := by obtain ⟨m, hm⟩ := k0; exact DataW.trod_lt m _ _ _ hm
  have k1 := h1
  have lt1 : ∀ x ∈ p1, x.block < W.heap.size := by obtain ⟨m, hm⟩ := k1; exact DataW.trod_lt m _ _ _ hm
  have k2 := h2
  have lt2 : ∀ x ∈ p2, x.block < W.heap.size := by obtain ⟨m, hm⟩ := k2; exact DataW.trod_lt m _ _ _ hm
  have k3 := h3
  have lt3 : ∀ x ∈ p3, x.block < W.heap.size := by obtain ⟨m, hm⟩ := k3; exact DataW.trod_lt m _ _ _ hm
  have k4 := h4
  have lt4 : ∀ x ∈ p4, x.block < W.heap.size := by obtain ⟨m, hm⟩ := k4; exact DataW.trod_lt m _ _ _ hm
  obtain ⟨l0, rd0, qd0⟩ := open_listsC Tryd.underlying22 (by kernel_rfl) Tryd.underlying25 (by kernel_rfl) Tryd.underlying5 (hval 0 22 v0 rfl rfl) h0
  obtain ⟨x1, e1, w1⟩ := open_i64 Tryd.underlying3 (hval 1 3 v1 rfl rfl) h1
  subst e1
  obtain ⟨x2, e2, w2⟩ := open_i64 Tryd.underlying3 (hval 2 3 v2 rfl rfl) h2
  subst e2
  obtain ⟨x3, e3, w3⟩ := open_i64 Tryd.underlying3 (hval 3 3 v3 rfl rfl) h3
  subst e3
  obtain ⟨x4, e4⟩ := open_u8 Tryd.underlying5 (hval 4 5 v4 rfl rfl) h4
  subst e4
  have hK := kat_of_laid hL
  clear hA0 hval0
  refine (merkleTurned_walk (w := W) v0 l0 rd0 qd0 x1 w1 x2 w2 x3 w3 x4 hK).mono fun e W' ⟨he, bel⟩ => ?_
  subst he
  exact ⟨_, rfl, _, _, _, [], _, [], hW', trodAll_mk1 (shut_bool Tryd.underlying4 _), (trodAll_cons_mk (Below.trod laidOut (by kernel_rfl) (of_decide_eq_true (by kernel_rfl)) k0 bel lt0) (trodAll_cons_mk (Below.trod laidOut (by kernel_rfl) (of_decide_eq_true (by kernel_rfl)) k1 bel lt1) (trodAll_cons_mk (Below.trod laidOut (by kernel_rfl) (of_decide_eq_true (by kernel_rfl)) k2 bel lt2) (trodAll_cons_mk (Below.trod laidOut (by kernel_rfl) (of_decide_eq_true (by kernel_rfl)) k3 bel lt3) (trodAll_cons_mk (Below.trod laidOut (by kernel_rfl) (of_decide_eq_true (by kernel_rfl)) k4 bel lt4) trodAll_mk0))))), rfl, bel.frame _, fun h => by cases h⟩

set_option maxHeartbeats 8000000 in
theorem closed : joinedFacts Tryd.prog 20 Tryd.f20 Rows.merkleTurnedSpec Rows.merkleTurnedRow = true := by
  unfold joinedFacts
  simp only [Bool.and_eq_true]
  repeat' apply And.intro
  all_goals (as_aux_lemma => kernel_rfl)
theorem named : Tryd.prog.funcNamed "portcullis/portcullislaw15.MerkleTurned" = some 20 := by kernel_rfl
theorem inst : Tryd.f20.isInstance Tryd.prog Rows.merkleTurnedRow.origin Rows.merkleTurnedRow.targs := of_decide_eq_true (by kernel_rfl)
theorem wrapper : Tryd.f20.isWrapper Tryd.prog Rows.merkleTurnedRow.wrapper Rows.merkleTurnedRow.mainSum := by unfold Func.isWrapper; first | (rw [if_pos (by decide +kernel)]; kernel_rfl) | (rw [if_neg (by decide +kernel)]; exact ⟨rfl, rfl⟩)
theorem over : Rows.merkleTurnedRow.holds Tryd.pinned (OpenSpec.ofChange Rows.merkleTurnedSpec) :=
  OpenClaim.holds_of_wide 20 Tryd.f20 rfl rfl rfl rfl rfl rfl rfl ⟨rfl, rfl, rfl, rfl, rfl⟩ rfl rfl rfl rfl rfl named Tryd.func20 closed inst wrapper
    (fun os started H enc _ => lifted os started H enc)

theorem wf : Rows.merkleTurnedRow.wfByText (OpenSpec.ofChange Rows.merkleTurnedSpec) = true := by kernel_rfl
theorem main : Tryd.pinned.checked.prog.mainIs = some (true, "86205b86f6eb8460fc82305843456b96f4c92b0c0fb4a2cc734cdcdc03bacaa8".toList) := by kernel_rfl
theorem looks : false = Tryd.pinned.checked.prog.looks [] := by kernel_rfl
theorem goes : false = Rows.merkleTurnedRow.goesBy Tryd.pinned.checked.prog := by kernel_rfl
theorem proved : Rows.MerkleTurnedCardSaid :=
  Claim7.holds_tied_plain_at .later [] [.data] true (true, "86205b86f6eb8460fc82305843456b96f4c92b0c0fb4a2cc734cdcdc03bacaa8") false
    over (fun _ h => by cases h) wf (fun _ h => by cases h) merkleTurned_row_tie rfl ⟨rfl, rfl⟩ main rfl
    (fun f fn hf hfn => by
      obtain rfl : f = 20 := Option.some.inj (named.symm.trans hf) |>.symm
      obtain rfl : fn = Tryd.f20 := (Option.some.inj (Tryd.func20.symm.trans hfn)).symm
      exact ⟨looks, fun j t ht => by
        rw [Tryd.params20] at ht
        have hm : t ∈ [22, 3, 3, 3, 5] := by simpa using Array.mem_of_getElem? ht
        have hall : ([22, 3, 3, 3, 5].all fun u => !Tryd.prog.wantsStandIn u) = true := by kernel_rfl
        exact (show Tryd.prog.wantsStandIn t = false by simpa using List.all_eq_true.1 hall t hm)⟩)
    goes
end merkleTurned
end Go.Proofs.YtnnllficjljjkaaDoor
