/-
  What every closing text of this seat uses: the door's own heap meets the rows' condition, and what the condition gives the walks.
-/
import Derived.Test.YtnnllficjljjkaaDoorArgs
import Derived.Test.YtnnllficjljjkaaDoorRefSha
import Derived.Test.YtnnllficjljjkaaDoorRows
import Derived.LaidMore
import Derived.Lib.LaidTab
import Derived.Stop.Joined
import Derived.SevenTiedAt
import Derived.ChangeOld
namespace Go.Proofs.YtnnllficjljjkaaDoor
open Go.ChangeShapes Go.WideShapes Go.ChangeAt Go.RowKit

theorem own : ownKnob Tryd.prog.godebug = none := by kernel_rfl
theorem laidOut : laidOutB Tryd.prog = true := by kernel_rfl
theorem gK : Tryd.prog.globalNamed "portcullis/portcullisref1.k256" = some 0 := by kernel_rfl
theorem tK : (Tryd.prog.globals[0]?).map (·.type) = some 70 := by kernel_rfl

theorem door_met (os : Os) (args : Array Value) : laidMetH Tryd.prog [("portcullis/portcullisref1.k256", Rows.laid_portcullis_portcullisref1_k256)] ((World.doorLaid Tryd.prog 14 os).forCall (fun _ _ => 0) ⟨#[], args, []⟩).memory :=
  laidMetH_of_parts3 (fuel := 8) (laidMet_of_run' 8 (by kernel_rfl) (by kernel_rfl)) (by kernel_rfl) (by kernel_rfl)

theorem kat_of_laid {W : World} (h : laidMetH Tryd.prog [("portcullis/portcullisref1.k256", Rows.laid_portcullis_portcullisref1_k256)] W) : KAt W := by
  rw [MakeChecks.laidMetH_plain _ _ _ (by kernel_rfl)] at h
  have hT := Lib.tabIs_of_head (k := .u32) (zs := (List.range 64).map fun i => U (K256 i)) gK tK Tryd.underlying70 Tryd.underlying67 (by kernel_rfl) (by kernel_rfl) (show laidMet Tryd.prog (("portcullis/portcullisref1.k256", Lib.tabData .u32 ((List.range 64).map fun i => U (K256 i))) :: []) W from h)
  have hc : ∀ i, i < 64 → W.cell? ⟨0, i, none⟩ = some (.int .u32 (U (K256 i))) := fun i hi => by
    have := hT.cell gK i (by simpa using hi)
    rw [this, List.getD_eq_getElem?_getD]
    simp [hi]
  exact ⟨cell_lt (hc 0 (by decide)), hc⟩

theorem open_i64 {H : Type} {enc : TypeId × Value → H} {P : Program} {w : World} {base : Nat} {spare : Nat → Bool} {held : Bool} {r : Reach} {b0 : Nat} {t : TypeId} {v : Value} {d : DataW H} {ps : List MemPlace} (ht : P.underlying t = some (.int .i64))
    (hval : Value.okWide P w r b0 t v) (hd : DataW.Trod enc P w base spare held t v d ps) : ∃ x, v = .int .i64 x ∧ -9223372036854775808 ≤ x ∧ x ≤ 9223372036854775807 := by
  obtain ⟨x, h1, _, _, h2⟩ := open_int ht hval hd
  exact ⟨x, h1, i64_of_wf h2⟩
theorem open_u8 {H : Type} {enc : TypeId × Value → H} {P : Program} {w : World} {base : Nat} {spare : Nat → Bool} {held : Bool} {r : Reach} {b0 : Nat} {t : TypeId} {v : Value} {d : DataW H} {ps : List MemPlace} (ht : P.underlying t = some (.int .u8))
    (hval : Value.okWide P w r b0 t v) (hd : DataW.Trod enc P w base spare held t v d ps) : ∃ x : BitVec 8, v = .int .u8 (B8 x) := by
  obtain ⟨x, h1, _, _, h2⟩ := open_int ht hval hd
  obtain ⟨y, rfl⟩ := u8_of_wf h2
  exact ⟨y, h1⟩

end Go.Proofs.YtnnllficjljjkaaDoor
