/-
  The law DeriveExpands holds: for every input the Go function returns true, and each argument reads afterwards as before; the card ties the one listed table to the program's text. No condition beyond the row's own.
-/
import Derived.Test.YtnnllficjljjkaaDoorLawDerD
import Derived.Test.YtnnllficjljjkaaDoorShut
import Derived.Test.YtnnllficjljjkaaDoorCards
import Derived.Test.YtnnllficjljjkaaDoorTie
namespace Go.Proofs.YtnnllficjljjkaaDoor
open Go.ChangeShapes Go.WideShapes Go.ChangeAt Go.RowKit
namespace deriveExpands

set_option maxRecDepth 100000 in
theorem lifted (os : Os) (started : os.Started) (H : Type) (enc : TypeId × Value → H) :
    ReturnsInHanded {} Tryd.checked os 16 .any (fun w args => (Rows.deriveExpandsSpec.pre enc Tryd.prog Tryd.f16 [] false w args ∧ laidMetH Tryd.prog Rows.deriveExpandsRow.laid w) ∧ sizedMet enc Tryd.prog Tryd.f16 (OpenSpec.ofChange Rows.deriveExpandsSpec) false w args)
      (Rows.deriveExpandsSpec.post enc Tryd.prog Tryd.f16 false true false false) := by
  refine returnsInHanded_of_change_and (C := Tryd.checked) (X := fun w _ => laidMetH Tryd.prog Rows.deriveExpandsRow.laid w) (fun _ _ _ hh h => h.of_heap hh) own started (by kernel_rfl) Tryd.func16
    (ChangeSpec.witness_shaped (enc := enc) (C := Tryd.checked) (os := os) (X := fun w _ => laidMetH Tryd.prog Rows.deriveExpandsRow.laid w) false (World.doorLaid Tryd.prog 14 os) #[.slice none 0 0, .slice none 0 0, .slice none 0 0, .int .i64 0] 8 rfl (World.shaped_of_RefB (by kernel_rfl) (by kernel_rfl)) (by kernel_rfl) (by kernel_rfl) (by kernel_rfl) (door_met os _)) ?_
  intro W base args ds gs before hval0 hW _ _ hL _
  have hval : ∀ (j : Nat) t v, Tryd.f16.params[j]? = some t → args[j]? = some v → Value.okWide Tryd.prog W .any base t v := hval0
  have hW' := hW
  obtain ⟨p, q, hA0, hV, rfl, hfz, hnd⟩ := hW
  have hA : DataW.TrodAll enc Tryd.prog W 0 (fun _ => true) true Tryd.f16.params.toList args.toList ds p := hA0
  rw [Tryd.params16] at hA hval
  obtain ⟨v0, vs0, d0, ds0, p0, q0, hargs, rfl, rfl, h0, r0⟩ := trodAll_cons hA
  obtain ⟨v1, vs1, d1, ds1, p1, q1, rfl, rfl, rfl, h1, r1⟩ := trodAll_cons r0
  obtain ⟨v2, vs2, d2, ds2, p2, q2, rfl, rfl, rfl, h2, r2⟩ := trodAll_cons r1
  obtain ⟨v3, vs3, d3, ds3, p3, q3, rfl, rfl, rfl, h3, r3⟩ := trodAll_cons r2
  obtain ⟨rfl, rfl, rfl⟩ := trodAll_nil r3
  obtain rfl : args = #[v0, v1, v2, v3] := by cases args; simp_all
  obtain ⟨rfl, rfl⟩ := trodVars_none hV
  have k0 := h0
  have lt0 : ∀ x ∈ p0, x.block < W.heap.size := by obtain ⟨m, hm⟩ := k0; exact DataW.trod_lt m _ _ _ hm
  have k1 := h1
  have lt1 : ∀ x ∈ p1, x.block < W.heap.size := by obtain ⟨m, hm⟩ := k1; exact DataW.trod_lt m _ _ _ hm
  have k2 := h2
  have lt2 : ∀ x ∈ p2, x.block < W.heap.size := by obtain ⟨m, hm⟩ := k2; exact DataW.trod_lt m _ _ _ hm
  have k3 := h3
  have lt3 : ∀ x ∈ p3, x.block < W.heap.size := by obtain ⟨m, hm⟩ := k3; exact DataW.trod_lt m _ _ _ hm
  obtain ⟨l0, rd0, qd0⟩ := open_bytes Tryd.underlying25 (by kernel_rfl) Tryd.underlying5 (hval 0 25 v0 rfl rfl) h0
  obtain ⟨l1, rd1, qd1⟩ := open_bytes Tryd.underlying25 (by kernel_rfl) Tryd.underlying5 (hval 1 25 v1 rfl rfl) h1
  obtain ⟨l2, rd2, qd2⟩ := open_bytes Tryd.underlying25 (by kernel_rfl) Tryd.underlying5 (hval 2 25 v2 rfl rfl) h2
  obtain ⟨x3, e3, w3⟩ := open_i64 Tryd.underlying3 (hval 3 3 v3 rfl rfl) h3
  subst e3
  have hK := kat_of_laid hL
  clear hA0 hval0
  refine (deriveExpands_walk (w := W) v0 l0 rd0 qd0 v1 l1 rd1 qd1 v2 l2 rd2 qd2 x3 w3 hK).mono fun e W' ⟨he, bel⟩ => ?_
  subst he
  exact ⟨_, rfl, _, _, _, [], _, [], hW', trodAll_mk1 (shut_bool Tryd.underlying4 _), (trodAll_cons_mk (Below.trod laidOut (by kernel_rfl) (of_decide_eq_true (by kernel_rfl)) k0 bel lt0) (trodAll_cons_mk (Below.trod laidOut (by kernel_rfl) (of_decide_eq_true (by kernel_rfl)) k1 bel lt1) (trodAll_cons_mk (Below.trod laidOut (by kernel_rfl) (of_decide_eq_true (by kernel_rfl)) k2 bel lt2) (trodAll_cons_mk (Below.trod laidOut (by kernel_rfl) (of_decide_eq_true (by kernel_rfl)) k3 bel lt3) trodAll_mk0)))), rfl, bel.frame _, fun h => by cases h⟩

set_option maxHeartbeats 8000000 in
theorem closed : joinedFacts Tryd.prog 16 Tryd.f16 Rows.deriveExpandsSpec Rows.deriveExpandsRow = true := by
  unfold joinedFacts
  simp only [Bool.and_eq_true]
  repeat' apply And.intro
  all_goals (as_aux_lemma => kernel_rfl)
theorem named : Tryd.prog.funcNamed "portcullis/portcullislaw8.DeriveExpands" = some 16 := by kernel_rfl
theorem inst : Tryd.f16.isInstance Tryd.prog Rows.deriveExpandsRow.origin Rows.deriveExpandsRow.targs := of_decide_eq_true (by kernel_rfl)
theorem wrapper : Tryd.f16.isWrapper Tryd.prog Rows.deriveExpandsRow.wrapper Rows.deriveExpandsRow.mainSum := by unfold Func.isWrapper; first | (rw [if_pos (by decide +kernel)]; kernel_rfl) | (rw [if_neg (by decide +kernel)]; exact ⟨rfl, rfl⟩)
theorem over : Rows.deriveExpandsRow.holds Tryd.pinned (OpenSpec.ofChange Rows.deriveExpandsSpec) :=
  OpenClaim.holds_of_wide 16 Tryd.f16 rfl rfl rfl rfl rfl rfl rfl ⟨rfl, rfl, rfl, rfl, rfl⟩ rfl rfl rfl rfl rfl named Tryd.func16 closed inst wrapper
    (fun os started H enc _ => lifted os started H enc)

theorem wf : Rows.deriveExpandsRow.wfByText (OpenSpec.ofChange Rows.deriveExpandsSpec) = true := by kernel_rfl
theorem main : Tryd.pinned.checked.prog.mainIs = some (true, "86205b86f6eb8460fc82305843456b96f4c92b0c0fb4a2cc734cdcdc03bacaa8".toList) := by kernel_rfl
theorem looks : false = Tryd.pinned.checked.prog.looks [] := by kernel_rfl
theorem goes : false = Rows.deriveExpandsRow.goesBy Tryd.pinned.checked.prog := by kernel_rfl
theorem proved : Rows.DeriveExpandsCardSaid :=
  Claim7.holds_tied_plain_at .later [] [.data] true (true, "86205b86f6eb8460fc82305843456b96f4c92b0c0fb4a2cc734cdcdc03bacaa8") false
    over (fun _ h => by cases h) wf (fun _ h => by cases h) deriveExpands_row_tie rfl ⟨rfl, rfl⟩ main rfl
    (fun f fn hf hfn => by
      obtain rfl : f = 16 := Option.some.inj (named.symm.trans hf) |>.symm
      obtain rfl : fn = Tryd.f16 := (Option.some.inj (Tryd.func16.symm.trans hfn)).symm
      exact ⟨looks, fun j t ht => by
        rw [Tryd.params16] at ht
        have hm : t ∈ [25, 25, 25, 3] := by simpa using Array.mem_of_getElem? ht
        have hall : ([25, 25, 25, 3].all fun u => !Tryd.prog.wantsStandIn u) = true := by kernel_rfl
        exact (show Tryd.prog.wantsStandIn t = false by simpa using List.all_eq_true.1 hall t hm)⟩)
    goes
end deriveExpands
end Go.Proofs.YtnnllficjljjkaaDoor
