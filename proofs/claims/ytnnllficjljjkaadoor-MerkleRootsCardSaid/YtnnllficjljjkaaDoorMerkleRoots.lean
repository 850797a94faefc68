/-
  The law MerkleRoots holds: for every input the Go function returns true, and each argument reads afterwards as before; the card ties the one listed table to the program's text. No condition beyond the row's own.
-/
import Derived.Test.YtnnllficjljjkaaDoorLawMkR
import Derived.Test.YtnnllficjljjkaaDoorShut
import Derived.Test.YtnnllficjljjkaaDoorCards
import Derived.Test.YtnnllficjljjkaaDoorTie
namespace Go.Proofs.YtnnllficjljjkaaDoor
open Go.ChangeShapes Go.WideShapes Go.ChangeAt Go.RowKit
namespace merkleRoots

set_option maxRecDepth 100000 in
theorem lifted (os : Os) (started : os.Started) (H : Type) (enc : TypeId × Value → H) :
    ReturnsInHanded {} Tryd.checked os 18 .any (fun w args => (Rows.merkleRootsSpec.pre enc Tryd.prog Tryd.f18 [] false w args ∧ laidMetH Tryd.prog Rows.merkleRootsRow.laid w) ∧ sizedMet enc Tryd.prog Tryd.f18 (OpenSpec.ofChange Rows.merkleRootsSpec) false w args)
      (Rows.merkleRootsSpec.post enc Tryd.prog Tryd.f18 false true false false) := by
  refine returnsInHanded_of_change_and (C := Tryd.checked) (X := fun w _ => laidMetH Tryd.prog Rows.merkleRootsRow.laid w) (fun _ _ _ hh h => h.of_heap hh) own started (by kernel_rfl) Tryd.func18
    (ChangeSpec.witness_shaped (enc := enc) (C := Tryd.checked) (os := os) (X := fun w _ => laidMetH Tryd.prog Rows.merkleRootsRow.laid w) false (World.doorLaid Tryd.prog 14 os) #[.slice none 0 0] 8 rfl (World.shaped_of_RefB (by kernel_rfl) (by kernel_rfl)) (by kernel_rfl) (by kernel_rfl) (by kernel_rfl) (door_met os _)) ?_
  intro W base args ds gs before hval0 hW _ _ hL _
  have hval : ∀ (j : Nat) t v, Tryd.f18.params[j]? = some t → args[j]? = some v → Value.okWide Tryd.prog W .any base t v := hval0
  have hW' := hW
  obtain ⟨p, q, hA0, hV, rfl, hfz, hnd⟩ := hW
  have hA : DataW.TrodAll enc Tryd.prog W 0 (fun _ => true) true Tryd.f18.params.toList args.toList ds p := hA0
  rw [Tryd.params18] at hA hval
  obtain ⟨v0, vs0, d0, ds0, p0, q0, hargs, rfl, rfl, h0, r0⟩ := trodAll_cons hA
  obtain ⟨rfl, rfl, rfl⟩ := trodAll_nil r0
  obtain rfl : args = #[v0] := by cases args; simp_all
  obtain ⟨rfl, rfl⟩ := trodVars_none hV
  have k0 := h0
  have lt0 : ∀ x ∈ p0, x.block < W.heap.size := by obtain ⟨m, hm⟩ := k0; exact DataW.trod_lt m _ _ _ hm
  obtain ⟨l0, rd0, qd0⟩ := open_listsC Tryd.underlying22 (by kernel_rfl) Tryd.underlying25 (by kernel_rfl) Tryd.underlying5 (hval 0 22 v0 rfl rfl) h0
  have hK := kat_of_laid hL
  clear hA0 hval0
  refine (merkleRoots_walk (w := W) v0 l0 rd0 qd0 hK).mono fun e W' ⟨he, bel⟩ => ?_
  subst he
  exact ⟨_, rfl, _, _, _, [], _, [], hW', trodAll_mk1 (shut_bool Tryd.underlying4 _), (trodAll_cons_mk (Below.trod laidOut (by kernel_rfl) (of_decide_eq_true (by kernel_rfl)) k0 bel lt0) trodAll_mk0), rfl, bel.frame _, fun h => by cases h⟩

set_option maxHeartbeats 8000000 in
theorem closed : joinedFacts Tryd.prog 18 Tryd.f18 Rows.merkleRootsSpec Rows.merkleRootsRow = true := by
  unfold joinedFacts
  simp only [Bool.and_eq_true]
  repeat' apply And.intro
  all_goals (as_aux_lemma => kernel_rfl)
theorem named : Tryd.prog.funcNamed "portcullis/portcullislaw15.MerkleRoots" = some 18 := by kernel_rfl
theorem inst : Tryd.f18.isInstance Tryd.prog Rows.merkleRootsRow.origin Rows.merkleRootsRow.targs := of_decide_eq_true (by kernel_rfl)
theorem wrapper : Tryd.f18.isWrapper Tryd.prog Rows.merkleRootsRow.wrapper Rows.merkleRootsRow.mainSum := by unfold Func.isWrapper; first | (rw [if_pos (by decide +kernel)]; kernel_rfl) | (rw [if_neg (by decide +kernel)]; exact ⟨rfl, rfl⟩)
theorem over : Rows.merkleRootsRow.holds Tryd.pinned (OpenSpec.ofChange Rows.merkleRootsSpec) :=
  OpenClaim.holds_of_wide 18 Tryd.f18 rfl rfl rfl rfl rfl rfl rfl ⟨rfl, rfl, rfl, rfl, rfl⟩ rfl rfl rfl rfl rfl named Tryd.func18 closed inst wrapper
    (fun os started H enc _ => lifted os started H enc)

theorem wf : Rows.merkleRootsRow.wfByText (OpenSpec.ofChange Rows.merkleRootsSpec) = true := by kernel_rfl
theorem main : Tryd.pinned.checked.prog.mainIs = some (true, "86205b86f6eb8460fc82305843456b96f4c92b0c0fb4a2cc734cdcdc03bacaa8".toList) := by kernel_rfl
theorem looks : false = Tryd.pinned.checked.prog.looks [] := by kernel_rfl
theorem goes : false = Rows.merkleRootsRow.goesBy Tryd.pinned.checked.prog := by kernel_rfl
theorem proved : Rows.MerkleRootsCardSaid :=
  Claim7.holds_tied_plain_at .later [] [.data] true (true, "86205b86f6eb8460fc82305843456b96f4c92b0c0fb4a2cc734cdcdc03bacaa8") false
    over (fun _ h => by cases h) wf (fun _ h => by cases h) merkleRoots_row_tie rfl ⟨rfl, rfl⟩ main rfl
    (fun f fn hf hfn => by
      obtain rfl : f = 18 := Option.some.inj (named.symm.trans hf) |>.symm
      obtain rfl : fn = Tryd.f18 := (Option.some.inj (Tryd.func18.symm.trans hfn)).symm
      exact ⟨looks, fun j t ht => by
        rw [Tryd.params18] at ht
        have hm : t ∈ [22] := by simpa using Array.mem_of_getElem? ht
        have hall : ([22].all fun u => !Tryd.prog.wantsStandIn u) = true := by kernel_rfl
        exact (show Tryd.prog.wantsStandIn t = false by simpa using List.all_eq_true.1 hall t hm)⟩)
    goes
end merkleRoots
end Go.Proofs.YtnnllficjljjkaaDoor
