/-
  DERIVED. GIVEN WITH THE SEED: THE CARDS: each row of YtnnllficjljjkaaDoorRows.lean that lists a variable, with what it lists TIED to the program's text (the seventh form; the later family's looks); each row that meets fmt, with fmt's text TOLD by the authors' own Lean function (tested against real Go, not proved from fmt's source: count such statements apart). THE CARD IS WHAT COUNTS. Prove the row's statement (the work); the ties are given (YtnnllficjljjkaaDoorTie.lean); close each card by the builder's one call (the guide's Derived/Test/ToyasCard.lean, 'card_holds'). Laid BY PROGRAM, IN A SANDBOX (cutbox-door.mjs). By AI agents, Wed Nov 11 2026. No macro, syntax, notation, axiom, sorry.
-/
import Derived.Test.YtnnllficjljjkaaDoorRows
import GoSem.ClaimSeven
namespace Go.Proofs.YtnnllficjljjkaaDoor
namespace Rows

/-- THE TIED CARD OF 'portcullislaw5.ShaSums'. -/
def shaSumsCard : Claim7 := { stood := { row := shaSumsRow, standIns := [], harness := (true, "86205b86f6eb8460fc82305843456b96f4c92b0c0fb4a2cc734cdcdc03bacaa8"), looks := false }, kinds := [], alts := [], laidByText := true, laidKinds := [.data], laidTests := true, laidLooks := .later }
def ShaSumsCardSaid : Prop := Claim7.holds Tryd.pinned (.plain (OpenSpec.ofChange shaSumsSpec)) shaSumsCard

/-- THE TIED CARD OF 'portcullislaw5.ShaLengths'. -/
def shaLengthsCard : Claim7 := { stood := { row := shaLengthsRow, standIns := [], harness := (true, "86205b86f6eb8460fc82305843456b96f4c92b0c0fb4a2cc734cdcdc03bacaa8"), looks := false }, kinds := [], alts := [], laidByText := true, laidKinds := [.data], laidTests := true, laidLooks := .later }
def ShaLengthsCardSaid : Prop := Claim7.holds Tryd.pinned (.plain (OpenSpec.ofChange shaLengthsSpec)) shaLengthsCard

/-- THE TIED CARD OF 'portcullislaw5.ShaCuts'. -/
def shaCutsCard : Claim7 := { stood := { row := shaCutsRow, standIns := [], harness := (true, "86205b86f6eb8460fc82305843456b96f4c92b0c0fb4a2cc734cdcdc03bacaa8"), looks := false }, kinds := [], alts := [], laidByText := true, laidKinds := [.data], laidTests := true, laidLooks := .later }
def ShaCutsCardSaid : Prop := Claim7.holds Tryd.pinned (.plain (OpenSpec.ofChange shaCutsSpec)) shaCutsCard

/-- THE TIED CARD OF 'portcullislaw5.ShaTurned'. -/
def shaTurnedCard : Claim7 := { stood := { row := shaTurnedRow, standIns := [], harness := (true, "86205b86f6eb8460fc82305843456b96f4c92b0c0fb4a2cc734cdcdc03bacaa8"), looks := false }, kinds := [], alts := [], laidByText := true, laidKinds := [.data], laidTests := true, laidLooks := .later }
def ShaTurnedCardSaid : Prop := Claim7.holds Tryd.pinned (.plain (OpenSpec.ofChange shaTurnedSpec)) shaTurnedCard

/-- THE TIED CARD OF 'portcullislaw24.MeasureFolds'. -/
def measureFoldsCard : Claim7 := { stood := { row := measureFoldsRow, standIns := [], harness := (true, "86205b86f6eb8460fc82305843456b96f4c92b0c0fb4a2cc734cdcdc03bacaa8"), looks := false }, kinds := [], alts := [], laidByText := true, laidKinds := [.data], laidTests := true, laidLooks := .later }
def MeasureFoldsCardSaid : Prop := Claim7.holds Tryd.pinned (.plain (OpenSpec.ofChange measureFoldsSpec)) measureFoldsCard

/-- THE TIED CARD OF 'portcullislaw24.MeasureGoes'. -/
def measureGoesCard : Claim7 := { stood := { row := measureGoesRow, standIns := [], harness := (true, "86205b86f6eb8460fc82305843456b96f4c92b0c0fb4a2cc734cdcdc03bacaa8"), looks := false }, kinds := [], alts := [], laidByText := true, laidKinds := [.data], laidTests := true, laidLooks := .later }
def MeasureGoesCardSaid : Prop := Claim7.holds Tryd.pinned (.plain (OpenSpec.ofChange measureGoesSpec)) measureGoesCard

/-- THE TIED CARD OF 'portcullislaw24.MeasureOrders'. -/
def measureOrdersCard : Claim7 := { stood := { row := measureOrdersRow, standIns := [], harness := (true, "86205b86f6eb8460fc82305843456b96f4c92b0c0fb4a2cc734cdcdc03bacaa8"), looks := false }, kinds := [], alts := [], laidByText := true, laidKinds := [.data], laidTests := true, laidLooks := .later }
def MeasureOrdersCardSaid : Prop := Claim7.holds Tryd.pinned (.plain (OpenSpec.ofChange measureOrdersSpec)) measureOrdersCard

/-- THE TIED CARD OF 'portcullislaw7.MacSums'. -/
def macSumsCard : Claim7 := { stood := { row := macSumsRow, standIns := [], harness := (true, "86205b86f6eb8460fc82305843456b96f4c92b0c0fb4a2cc734cdcdc03bacaa8"), looks := false }, kinds := [], alts := [], laidByText := true, laidKinds := [.data], laidTests := true, laidLooks := .later }
def MacSumsCardSaid : Prop := Claim7.holds Tryd.pinned (.plain (OpenSpec.ofChange macSumsSpec)) macSumsCard

/-- THE TIED CARD OF 'portcullislaw7.MacKeys'. -/
def macKeysCard : Claim7 := { stood := { row := macKeysRow, standIns := [], harness := (true, "86205b86f6eb8460fc82305843456b96f4c92b0c0fb4a2cc734cdcdc03bacaa8"), looks := false }, kinds := [], alts := [], laidByText := true, laidKinds := [.data], laidTests := true, laidLooks := .later }
def MacKeysCardSaid : Prop := Claim7.holds Tryd.pinned (.plain (OpenSpec.ofChange macKeysSpec)) macKeysCard

/-- THE TIED CARD OF 'portcullislaw8.DeriveKeys'. -/
def deriveKeysCard : Claim7 := { stood := { row := deriveKeysRow, standIns := [], harness := (true, "86205b86f6eb8460fc82305843456b96f4c92b0c0fb4a2cc734cdcdc03bacaa8"), looks := false }, kinds := [], alts := [], laidByText := true, laidKinds := [.data], laidTests := true, laidLooks := .later }
def DeriveKeysCardSaid : Prop := Claim7.holds Tryd.pinned (.plain (OpenSpec.ofChange deriveKeysSpec)) deriveKeysCard

/-- THE TIED CARD OF 'portcullislaw8.DeriveBegins'. -/
def deriveBeginsCard : Claim7 := { stood := { row := deriveBeginsRow, standIns := [], harness := (true, "86205b86f6eb8460fc82305843456b96f4c92b0c0fb4a2cc734cdcdc03bacaa8"), looks := false }, kinds := [], alts := [], laidByText := true, laidKinds := [.data], laidTests := true, laidLooks := .later }
def DeriveBeginsCardSaid : Prop := Claim7.holds Tryd.pinned (.plain (OpenSpec.ofChange deriveBeginsSpec)) deriveBeginsCard

/-- THE TIED CARD OF 'portcullislaw8.DeriveMade'. -/
def deriveMadeCard : Claim7 := { stood := { row := deriveMadeRow, standIns := [], harness := (true, "86205b86f6eb8460fc82305843456b96f4c92b0c0fb4a2cc734cdcdc03bacaa8"), looks := false }, kinds := [], alts := [], laidByText := true, laidKinds := [.data], laidTests := true, laidLooks := .later }
def DeriveMadeCardSaid : Prop := Claim7.holds Tryd.pinned (.plain (OpenSpec.ofChange deriveMadeSpec)) deriveMadeCard

/-- THE TIED CARD OF 'portcullislaw8.DeriveMost'. -/
def deriveMostCard : Claim7 := { stood := { row := deriveMostRow, standIns := [], harness := (true, "86205b86f6eb8460fc82305843456b96f4c92b0c0fb4a2cc734cdcdc03bacaa8"), looks := false }, kinds := [], alts := [], laidByText := true, laidKinds := [.data], laidTests := true, laidLooks := .later }
def DeriveMostCardSaid : Prop := Claim7.holds Tryd.pinned (.plain (OpenSpec.ofChange deriveMostSpec)) deriveMostCard

/-- THE TIED CARD OF 'portcullislaw8.DeriveExpands'. -/
def deriveExpandsCard : Claim7 := { stood := { row := deriveExpandsRow, standIns := [], harness := (true, "86205b86f6eb8460fc82305843456b96f4c92b0c0fb4a2cc734cdcdc03bacaa8"), looks := false }, kinds := [], alts := [], laidByText := true, laidKinds := [.data], laidTests := true, laidLooks := .later }
def DeriveExpandsCardSaid : Prop := Claim7.holds Tryd.pinned (.plain (OpenSpec.ofChange deriveExpandsSpec)) deriveExpandsCard

/-- THE TIED CARD OF 'portcullislaw8.DeriveSalts'. -/
def deriveSaltsCard : Claim7 := { stood := { row := deriveSaltsRow, standIns := [], harness := (true, "86205b86f6eb8460fc82305843456b96f4c92b0c0fb4a2cc734cdcdc03bacaa8"), looks := false }, kinds := [], alts := [], laidByText := true, laidKinds := [.data], laidTests := true, laidLooks := .later }
def DeriveSaltsCardSaid : Prop := Claim7.holds Tryd.pinned (.plain (OpenSpec.ofChange deriveSaltsSpec)) deriveSaltsCard

/-- THE TIED CARD OF 'portcullislaw15.MerkleRoots'. -/
def merkleRootsCard : Claim7 := { stood := { row := merkleRootsRow, standIns := [], harness := (true, "86205b86f6eb8460fc82305843456b96f4c92b0c0fb4a2cc734cdcdc03bacaa8"), looks := false }, kinds := [], alts := [], laidByText := true, laidKinds := [.data], laidTests := true, laidLooks := .later }
def MerkleRootsCardSaid : Prop := Claim7.holds Tryd.pinned (.plain (OpenSpec.ofChange merkleRootsSpec)) merkleRootsCard

/-- THE TIED CARD OF 'portcullislaw15.MerkleChecks'. -/
def merkleChecksCard : Claim7 := { stood := { row := merkleChecksRow, standIns := [], harness := (true, "86205b86f6eb8460fc82305843456b96f4c92b0c0fb4a2cc734cdcdc03bacaa8"), looks := false }, kinds := [], alts := [], laidByText := true, laidKinds := [.data], laidTests := true, laidLooks := .later }
def MerkleChecksCardSaid : Prop := Claim7.holds Tryd.pinned (.plain (OpenSpec.ofChange merkleChecksSpec)) merkleChecksCard

/-- THE TIED CARD OF 'portcullislaw15.MerkleTurned'. -/
def merkleTurnedCard : Claim7 := { stood := { row := merkleTurnedRow, standIns := [], harness := (true, "86205b86f6eb8460fc82305843456b96f4c92b0c0fb4a2cc734cdcdc03bacaa8"), looks := false }, kinds := [], alts := [], laidByText := true, laidKinds := [.data], laidTests := true, laidLooks := .later }
def MerkleTurnedCardSaid : Prop := Claim7.holds Tryd.pinned (.plain (OpenSpec.ofChange merkleTurnedSpec)) merkleTurnedCard

/-- THE SECOND FORM's CARD OF 'portcullislaw5.ShaSums'. -/
def shaSumsUptoCard : Claim7 := { stood := { row := shaSumsUptoRow, standIns := [], harness := (true, "86205b86f6eb8460fc82305843456b96f4c92b0c0fb4a2cc734cdcdc03bacaa8"), looks := false }, kinds := [], alts := [], laidByText := true, laidKinds := [.data], laidTests := true, laidLooks := .later }
def ShaSumsUptoCardSaid : Prop := Claim7.holds Tryd.pinned (.plain (OpenSpec.upto shaSumsSpec)) shaSumsUptoCard

/-- THE SECOND FORM's CARD OF 'portcullislaw5.ShaLengths'. -/
def shaLengthsUptoCard : Claim7 := { stood := { row := shaLengthsUptoRow, standIns := [], harness := (true, "86205b86f6eb8460fc82305843456b96f4c92b0c0fb4a2cc734cdcdc03bacaa8"), looks := false }, kinds := [], alts := [], laidByText := true, laidKinds := [.data], laidTests := true, laidLooks := .later }
def ShaLengthsUptoCardSaid : Prop := Claim7.holds Tryd.pinned (.plain (OpenSpec.upto shaLengthsSpec)) shaLengthsUptoCard

/-- THE SECOND FORM's CARD OF 'portcullislaw5.ShaCuts'. -/
def shaCutsUptoCard : Claim7 := { stood := { row := shaCutsUptoRow, standIns := [], harness := (true, "86205b86f6eb8460fc82305843456b96f4c92b0c0fb4a2cc734cdcdc03bacaa8"), looks := false }, kinds := [], alts := [], laidByText := true, laidKinds := [.data], laidTests := true, laidLooks := .later }
def ShaCutsUptoCardSaid : Prop := Claim7.holds Tryd.pinned (.plain (OpenSpec.upto shaCutsSpec)) shaCutsUptoCard

/-- THE SECOND FORM's CARD OF 'portcullislaw5.ShaTurned'. -/
def shaTurnedUptoCard : Claim7 := { stood := { row := shaTurnedUptoRow, standIns := [], harness := (true, "86205b86f6eb8460fc82305843456b96f4c92b0c0fb4a2cc734cdcdc03bacaa8"), looks := false }, kinds := [], alts := [], laidByText := true, laidKinds := [.data], laidTests := true, laidLooks := .later }
def ShaTurnedUptoCardSaid : Prop := Claim7.holds Tryd.pinned (.plain (OpenSpec.upto shaTurnedSpec)) shaTurnedUptoCard

/-- THE SECOND FORM's CARD OF 'portcullislaw24.MeasureFolds'. -/
def measureFoldsUptoCard : Claim7 := { stood := { row := measureFoldsUptoRow, standIns := [], harness := (true, "86205b86f6eb8460fc82305843456b96f4c92b0c0fb4a2cc734cdcdc03bacaa8"), looks := false }, kinds := [], alts := [], laidByText := true, laidKinds := [.data], laidTests := true, laidLooks := .later }
def MeasureFoldsUptoCardSaid : Prop := Claim7.holds Tryd.pinned (.plain (OpenSpec.upto measureFoldsSpec)) measureFoldsUptoCard

/-- THE SECOND FORM's CARD OF 'portcullislaw24.MeasureGoes'. -/
def measureGoesUptoCard : Claim7 := { stood := { row := measureGoesUptoRow, standIns := [], harness := (true, "86205b86f6eb8460fc82305843456b96f4c92b0c0fb4a2cc734cdcdc03bacaa8"), looks := false }, kinds := [], alts := [], laidByText := true, laidKinds := [.data], laidTests := true, laidLooks := .later }
def MeasureGoesUptoCardSaid : Prop := Claim7.holds Tryd.pinned (.plain (OpenSpec.upto measureGoesSpec)) measureGoesUptoCard

/-- THE SECOND FORM's CARD OF 'portcullislaw24.MeasureOrders'. -/
def measureOrdersUptoCard : Claim7 := { stood := { row := measureOrdersUptoRow, standIns := [], harness := (true, "86205b86f6eb8460fc82305843456b96f4c92b0c0fb4a2cc734cdcdc03bacaa8"), looks := false }, kinds := [], alts := [], laidByText := true, laidKinds := [.data], laidTests := true, laidLooks := .later }
def MeasureOrdersUptoCardSaid : Prop := Claim7.holds Tryd.pinned (.plain (OpenSpec.upto measureOrdersSpec)) measureOrdersUptoCard

/-- THE SECOND FORM's CARD OF 'portcullislaw7.MacSums'. -/
def macSumsUptoCard : Claim7 := { stood := { row := macSumsUptoRow, standIns := [], harness := (true, "86205b86f6eb8460fc82305843456b96f4c92b0c0fb4a2cc734cdcdc03bacaa8"), looks := false }, kinds := [], alts := [], laidByText := true, laidKinds := [.data], laidTests := true, laidLooks := .later }
def MacSumsUptoCardSaid : Prop := Claim7.holds Tryd.pinned (.plain (OpenSpec.upto macSumsSpec)) macSumsUptoCard

/-- THE SECOND FORM's CARD OF 'portcullislaw7.MacKeys'. -/
def macKeysUptoCard : Claim7 := { stood := { row := macKeysUptoRow, standIns := [], harness := (true, "86205b86f6eb8460fc82305843456b96f4c92b0c0fb4a2cc734cdcdc03bacaa8"), looks := false }, kinds := [], alts := [], laidByText := true, laidKinds := [.data], laidTests := true, laidLooks := .later }
def MacKeysUptoCardSaid : Prop := Claim7.holds Tryd.pinned (.plain (OpenSpec.upto macKeysSpec)) macKeysUptoCard

/-- THE SECOND FORM's CARD OF 'portcullislaw8.DeriveKeys'. -/
def deriveKeysUptoCard : Claim7 := { stood := { row := deriveKeysUptoRow, standIns := [], harness := (true, "86205b86f6eb8460fc82305843456b96f4c92b0c0fb4a2cc734cdcdc03bacaa8"), looks := false }, kinds := [], alts := [], laidByText := true, laidKinds := [.data], laidTests := true, laidLooks := .later }
def DeriveKeysUptoCardSaid : Prop := Claim7.holds Tryd.pinned (.plain (OpenSpec.upto deriveKeysSpec)) deriveKeysUptoCard

/-- THE SECOND FORM's CARD OF 'portcullislaw8.DeriveBegins'. -/
def deriveBeginsUptoCard : Claim7 := { stood := { row := deriveBeginsUptoRow, standIns := [], harness := (true, "86205b86f6eb8460fc82305843456b96f4c92b0c0fb4a2cc734cdcdc03bacaa8"), looks := false }, kinds := [], alts := [], laidByText := true, laidKinds := [.data], laidTests := true, laidLooks := .later }
def DeriveBeginsUptoCardSaid : Prop := Claim7.holds Tryd.pinned (.plain (OpenSpec.upto deriveBeginsSpec)) deriveBeginsUptoCard

/-- THE SECOND FORM's CARD OF 'portcullislaw8.DeriveMade'. -/
def deriveMadeUptoCard : Claim7 := { stood := { row := deriveMadeUptoRow, standIns := [], harness := (true, "86205b86f6eb8460fc82305843456b96f4c92b0c0fb4a2cc734cdcdc03bacaa8"), looks := false }, kinds := [], alts := [], laidByText := true, laidKinds := [.data], laidTests := true, laidLooks := .later }
def DeriveMadeUptoCardSaid : Prop := Claim7.holds Tryd.pinned (.plain (OpenSpec.upto deriveMadeSpec)) deriveMadeUptoCard

/-- THE SECOND FORM's CARD OF 'portcullislaw8.DeriveMost'. -/
def deriveMostUptoCard : Claim7 := { stood := { row := deriveMostUptoRow, standIns := [], harness := (true, "86205b86f6eb8460fc82305843456b96f4c92b0c0fb4a2cc734cdcdc03bacaa8"), looks := false }, kinds := [], alts := [], laidByText := true, laidKinds := [.data], laidTests := true, laidLooks := .later }
def DeriveMostUptoCardSaid : Prop := Claim7.holds Tryd.pinned (.plain (OpenSpec.upto deriveMostSpec)) deriveMostUptoCard

/-- THE SECOND FORM's CARD OF 'portcullislaw8.DeriveExpands'. -/
def deriveExpandsUptoCard : Claim7 := { stood := { row := deriveExpandsUptoRow, standIns := [], harness := (true, "86205b86f6eb8460fc82305843456b96f4c92b0c0fb4a2cc734cdcdc03bacaa8"), looks := false }, kinds := [], alts := [], laidByText := true, laidKinds := [.data], laidTests := true, laidLooks := .later }
def DeriveExpandsUptoCardSaid : Prop := Claim7.holds Tryd.pinned (.plain (OpenSpec.upto deriveExpandsSpec)) deriveExpandsUptoCard

/-- THE SECOND FORM's CARD OF 'portcullislaw8.DeriveSalts'. -/
def deriveSaltsUptoCard : Claim7 := { stood := { row := deriveSaltsUptoRow, standIns := [], harness := (true, "86205b86f6eb8460fc82305843456b96f4c92b0c0fb4a2cc734cdcdc03bacaa8"), looks := false }, kinds := [], alts := [], laidByText := true, laidKinds := [.data], laidTests := true, laidLooks := .later }
def DeriveSaltsUptoCardSaid : Prop := Claim7.holds Tryd.pinned (.plain (OpenSpec.upto deriveSaltsSpec)) deriveSaltsUptoCard

/-- THE SECOND FORM's CARD OF 'portcullislaw15.MerkleRoots'. -/
def merkleRootsUptoCard : Claim7 := { stood := { row := merkleRootsUptoRow, standIns := [], harness := (true, "86205b86f6eb8460fc82305843456b96f4c92b0c0fb4a2cc734cdcdc03bacaa8"), looks := false }, kinds := [], alts := [], laidByText := true, laidKinds := [.data], laidTests := true, laidLooks := .later }
def MerkleRootsUptoCardSaid : Prop := Claim7.holds Tryd.pinned (.plain (OpenSpec.upto merkleRootsSpec)) merkleRootsUptoCard

/-- THE SECOND FORM's CARD OF 'portcullislaw15.MerkleChecks'. -/
def merkleChecksUptoCard : Claim7 := { stood := { row := merkleChecksUptoRow, standIns := [], harness := (true, "86205b86f6eb8460fc82305843456b96f4c92b0c0fb4a2cc734cdcdc03bacaa8"), looks := false }, kinds := [], alts := [], laidByText := true, laidKinds := [.data], laidTests := true, laidLooks := .later }
def MerkleChecksUptoCardSaid : Prop := Claim7.holds Tryd.pinned (.plain (OpenSpec.upto merkleChecksSpec)) merkleChecksUptoCard

/-- THE SECOND FORM's CARD OF 'portcullislaw15.MerkleTurned'. -/
def merkleTurnedUptoCard : Claim7 := { stood := { row := merkleTurnedUptoRow, standIns := [], harness := (true, "86205b86f6eb8460fc82305843456b96f4c92b0c0fb4a2cc734cdcdc03bacaa8"), looks := false }, kinds := [], alts := [], laidByText := true, laidKinds := [.data], laidTests := true, laidLooks := .later }
def MerkleTurnedUptoCardSaid : Prop := Claim7.holds Tryd.pinned (.plain (OpenSpec.upto merkleTurnedSpec)) merkleTurnedUptoCard
end Rows
end Go.Proofs.YtnnllficjljjkaaDoor
