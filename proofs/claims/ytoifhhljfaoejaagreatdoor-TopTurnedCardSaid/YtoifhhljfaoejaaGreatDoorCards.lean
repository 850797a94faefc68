/-
  DERIVED. GIVEN WITH THE SEED: THE CARDS: each row of YtoifhhljfaoejaaGreatDoorRows.lean that lists a variable, with what it lists TIED to the program's text (the seventh form; the later family's looks); each row that meets fmt, with fmt's text TOLD by the authors' own Lean function (tested against real Go, not proved from fmt's source: count such statements apart). THE CARD IS WHAT COUNTS. Prove the row's statement (the work); the ties are given (YtoifhhljfaoejaaGreatDoorTie.lean); close each card by the builder's one call (the guide's Derived/Test/ToyasCard.lean, 'card_holds'). Laid BY PROGRAM, IN A SANDBOX (cutbox-door.mjs). By AI agents, Wed Nov 11 2026. No macro, syntax, notation, axiom, sorry.
-/
import Derived.Test.YtoifhhljfaoejaaGreatDoorRows
import GoSem.ClaimSeven
namespace Go.Proofs.YtoifhhljfaoejaaGreatDoor
namespace Rows

/-- THE TIED CARD OF 'portcullistop.TopTurned'. -/
def topTurnedCard : Claim7 := { stood := { row := topTurnedRow, standIns := [], harness := (true, "f14836f6a1788e0a9f04091e280f8732b972d8565be0f79a5e6f9beab9b232d9"), looks := true }, kinds := [], alts := [], laidByText := true, laidKinds := [.data, .data, .data, .data, .data, .data, .data], laidTests := true, laidLooks := .later }
def TopTurnedCardSaid : Prop := Claim7.holds Tryz.pinned (.plain (OpenSpec.ofChange topTurnedSpec)) topTurnedCard

/-- THE TIED CARD OF 'portcullistop.TopBusy'. -/
def topBusyCard : Claim7 := { stood := { row := topBusyRow, standIns := [], harness := (true, "f14836f6a1788e0a9f04091e280f8732b972d8565be0f79a5e6f9beab9b232d9"), looks := true }, kinds := [], alts := [], laidByText := true, laidKinds := [.data, .data, .data, .data, .data, .data, .data], laidTests := true, laidLooks := .later }
def TopBusyCardSaid : Prop := Claim7.holds Tryz.pinned (.plain (OpenSpec.ofChange topBusySpec)) topBusyCard

/-- THE TIED CARD OF 'portcullistop.TopMany'. -/
def topManyCard : Claim7 := { stood := { row := topManyRow, standIns := [], harness := (true, "f14836f6a1788e0a9f04091e280f8732b972d8565be0f79a5e6f9beab9b232d9"), looks := true }, kinds := [], alts := [], laidByText := true, laidKinds := [.data, .data, .data, .data, .data, .data], laidTests := true, laidLooks := .later }
def TopManyCardSaid : Prop := Claim7.holds Tryz.pinned (.plain (OpenSpec.ofChange topManySpec)) topManyCard

/-- THE TIED CARD OF 'portcullistop.TopFull'. -/
def topFullCard : Claim7 := { stood := { row := topFullRow, standIns := [], harness := (true, "f14836f6a1788e0a9f04091e280f8732b972d8565be0f79a5e6f9beab9b232d9"), looks := true }, kinds := [], alts := [], laidByText := true, laidKinds := [.data, .data, .data, .data, .data, .data, .data], laidTests := true, laidLooks := .later }
def TopFullCardSaid : Prop := Claim7.holds Tryz.pinned (.plain (OpenSpec.ofChange topFullSpec)) topFullCard

/-- THE TIED CARD OF 'portcullistop.TopForged'. -/
def topForgedCard : Claim7 := { stood := { row := topForgedRow, standIns := [], harness := (true, "f14836f6a1788e0a9f04091e280f8732b972d8565be0f79a5e6f9beab9b232d9"), looks := true }, kinds := [], alts := [], laidByText := true, laidKinds := [.data, .data, .data, .data, .data, .data, .data], laidTests := true, laidLooks := .later }
def TopForgedCardSaid : Prop := Claim7.holds Tryz.pinned (.plain (OpenSpec.ofChange topForgedSpec)) topForgedCard

/-- THE SECOND FORM's CARD OF 'portcullistop.TopTurned'. -/
def topTurnedUptoCard : Claim7 := { stood := { row := topTurnedUptoRow, standIns := [], harness := (true, "f14836f6a1788e0a9f04091e280f8732b972d8565be0f79a5e6f9beab9b232d9"), looks := true }, kinds := [], alts := [], laidByText := true, laidKinds := [.data, .data, .data, .data, .data, .data, .data], laidTests := true, laidLooks := .later }
def TopTurnedUptoCardSaid : Prop := Claim7.holds Tryz.pinned (.plain (OpenSpec.upto topTurnedSpec)) topTurnedUptoCard

/-- THE SECOND FORM's CARD OF 'portcullistop.TopBusy'. -/
def topBusyUptoCard : Claim7 := { stood := { row := topBusyUptoRow, standIns := [], harness := (true, "f14836f6a1788e0a9f04091e280f8732b972d8565be0f79a5e6f9beab9b232d9"), looks := true }, kinds := [], alts := [], laidByText := true, laidKinds := [.data, .data, .data, .data, .data, .data, .data], laidTests := true, laidLooks := .later }
def TopBusyUptoCardSaid : Prop := Claim7.holds Tryz.pinned (.plain (OpenSpec.upto topBusySpec)) topBusyUptoCard

/-- THE SECOND FORM's CARD OF 'portcullistop.TopMany'. -/
def topManyUptoCard : Claim7 := { stood := { row := topManyUptoRow, standIns := [], harness := (true, "f14836f6a1788e0a9f04091e280f8732b972d8565be0f79a5e6f9beab9b232d9"), looks := true }, kinds := [], alts := [], laidByText := true, laidKinds := [.data, .data, .data, .data, .data, .data], laidTests := true, laidLooks := .later }
def TopManyUptoCardSaid : Prop := Claim7.holds Tryz.pinned (.plain (OpenSpec.upto topManySpec)) topManyUptoCard

/-- THE SECOND FORM's CARD OF 'portcullistop.TopFull'. -/
def topFullUptoCard : Claim7 := { stood := { row := topFullUptoRow, standIns := [], harness := (true, "f14836f6a1788e0a9f04091e280f8732b972d8565be0f79a5e6f9beab9b232d9"), looks := true }, kinds := [], alts := [], laidByText := true, laidKinds := [.data, .data, .data, .data, .data, .data, .data], laidTests := true, laidLooks := .later }
def TopFullUptoCardSaid : Prop := Claim7.holds Tryz.pinned (.plain (OpenSpec.upto topFullSpec)) topFullUptoCard

/-- THE SECOND FORM's CARD OF 'portcullistop.TopForged'. -/
def topForgedUptoCard : Claim7 := { stood := { row := topForgedUptoRow, standIns := [], harness := (true, "f14836f6a1788e0a9f04091e280f8732b972d8565be0f79a5e6f9beab9b232d9"), looks := true }, kinds := [], alts := [], laidByText := true, laidKinds := [.data, .data, .data, .data, .data, .data, .data], laidTests := true, laidLooks := .later }
def TopForgedUptoCardSaid : Prop := Claim7.holds Tryz.pinned (.plain (OpenSpec.upto topForgedSpec)) topForgedUptoCard
end Rows
end Go.Proofs.YtoifhhljfaoejaaGreatDoor
