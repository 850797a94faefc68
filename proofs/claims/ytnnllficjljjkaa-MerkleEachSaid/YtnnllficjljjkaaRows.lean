/-
  No cell of these rows narrows 'for every input' (looked for: loops, veiled, ifaces, maps, wideKeys, modest, calm, conditions, laid).
  DERIVED. THE GIVEN ROWS OF THIS SEAT. 5 by the template 'for every input the law returns true; each argument reads behind the call as it read before'; 0 by the template 'total and deterministic' (their statements: YtnnllficjljjkaaTotals.lean).
  GIVEN WITH THE SEED: the statements are not yours to turn. If you find one false, say at which input.
  Laid BY PROGRAM, IN A SANDBOX (cutbox-rows.mjs): the forced cells as the released guide's own fill.sh prints them over the translation 806a01afabbaa6ed… (all of the seat's roots in one cut). By AI agents, Wed Nov 11 2026. No macro, syntax, notation, axiom, sorry.
-/
import Derived.Test.YtnnllficjljjkaaChecked
import GoSem.Claim
import GoSem.ClaimJoined
import GoSem.ClaimMapViews
import Derived.JoinedTies
import Derived.KernelRfl
namespace Go.Proofs.Ytnnllficjljjkaa
/- THE CELL 'sum', in the pinned program and in every row, IS THE sha256 OF THE DUMP (.gsa) THAT YtnnllficjljjkaaProg.lean LOADS. Nothing in Lean hashes anything: it is a label: what it is worth is what the hold of that sum in a sandbox is worth. -/
noncomputable def Try.pinned : Pinned := { name := "ytnnllficjljjkaa", sum := "806a01afabbaa6edcbe477db52ff2681990edb555f55f479ed0dfc60574992c3", checked := Try.checked }
namespace Rows
def none {H : Type} : Left H := { results := [], args := [] }

/-- 'portcullislaw7.MacMade': WHATEVER THE INPUT: true; the input reads as it did. -/
def macMadeSpec : ChangeSpec := { name := "macMade", fn := fun _ => fun
  | [d1, d2] => { results := [.lit (.bool true)], args := [d1, d2] }
  | _ => none }
def macMadeRow : OpenClaim := { program := "ytnnllficjljjkaa", sum := "806a01afabbaa6edcbe477db52ff2681990edb555f55f479ed0dfc60574992c3", func := "portcullis/portcullislaw7.MacMade", spec := "macMade", apart := false }
def MacMadeSaid : Prop := macMadeRow.holds Try.pinned (OpenSpec.ofChange macMadeSpec)

/-- ITS FALSE NEIGHBOUR: 'it returns false'. Refute it at one input. -/
def macMadeWrong : ChangeSpec := { name := "macMade", fn := fun _ => fun
  | [d1, d2] => { results := [.lit (.bool false)], args := [d1, d2] }
  | _ => none }
def MacMadeWrongFalsely : Prop := macMadeRow.holds Try.pinned (OpenSpec.ofChange macMadeWrong)

/-- 'portcullislaw7.MacSame': WHATEVER THE INPUT: true; the input reads as it did. -/
def macSameSpec : ChangeSpec := { name := "macSame", fn := fun _ => fun
  | [d1, d2, d3, d4] => { results := [.lit (.bool true)], args := [d1, d2, d3, d4] }
  | _ => none }
def macSameRow : OpenClaim := { program := "ytnnllficjljjkaa", sum := "806a01afabbaa6edcbe477db52ff2681990edb555f55f479ed0dfc60574992c3", func := "portcullis/portcullislaw7.MacSame", spec := "macSame", apart := false }
def MacSameSaid : Prop := macSameRow.holds Try.pinned (OpenSpec.ofChange macSameSpec)

/-- ITS FALSE NEIGHBOUR: 'it returns false'. Refute it at one input. -/
def macSameWrong : ChangeSpec := { name := "macSame", fn := fun _ => fun
  | [d1, d2, d3, d4] => { results := [.lit (.bool false)], args := [d1, d2, d3, d4] }
  | _ => none }
def MacSameWrongFalsely : Prop := macSameRow.holds Try.pinned (OpenSpec.ofChange macSameWrong)

/-- 'portcullislaw15.MerkleEach': WHATEVER THE INPUT: true; the input reads as it did. -/
def merkleEachSpec : ChangeSpec := { name := "merkleEach", fn := fun _ => fun
  | [d1, d2] => { results := [.lit (.bool true)], args := [d1, d2] }
  | _ => none }
def merkleEachRow : OpenClaim := { program := "ytnnllficjljjkaa", sum := "806a01afabbaa6edcbe477db52ff2681990edb555f55f479ed0dfc60574992c3", func := "portcullis/portcullislaw15.MerkleEach", spec := "merkleEach", recurses := true, apart := false }
def MerkleEachSaid : Prop := merkleEachRow.holds Try.pinned (OpenSpec.ofChange merkleEachSpec)

/-- ITS FALSE NEIGHBOUR: 'it returns false'. Refute it at one input. -/
def merkleEachWrong : ChangeSpec := { name := "merkleEach", fn := fun _ => fun
  | [d1, d2] => { results := [.lit (.bool false)], args := [d1, d2] }
  | _ => none }
def MerkleEachWrongFalsely : Prop := merkleEachRow.holds Try.pinned (OpenSpec.ofChange merkleEachWrong)

/-- 'portcullislaw15.MerkleMade': WHATEVER THE INPUT: true; the input reads as it did. -/
def merkleMadeSpec : ChangeSpec := { name := "merkleMade", fn := fun _ => fun
  | [d] => { results := [.lit (.bool true)], args := [d] }
  | _ => none }
def merkleMadeRow : OpenClaim := { program := "ytnnllficjljjkaa", sum := "806a01afabbaa6edcbe477db52ff2681990edb555f55f479ed0dfc60574992c3", func := "portcullis/portcullislaw15.MerkleMade", spec := "merkleMade", recurses := true, apart := false }
def MerkleMadeSaid : Prop := merkleMadeRow.holds Try.pinned (OpenSpec.ofChange merkleMadeSpec)

/-- ITS FALSE NEIGHBOUR: 'it returns false'. Refute it at one input. -/
def merkleMadeWrong : ChangeSpec := { name := "merkleMade", fn := fun _ => fun
  | [d] => { results := [.lit (.bool false)], args := [d] }
  | _ => none }
def MerkleMadeWrongFalsely : Prop := merkleMadeRow.holds Try.pinned (OpenSpec.ofChange merkleMadeWrong)

/-- 'portcullislaw15.MerkleRanges': WHATEVER THE INPUT: true; the input reads as it did. -/
def merkleRangesSpec : ChangeSpec := { name := "merkleRanges", fn := fun _ => fun
  | [d1, d2, d3, d4] => { results := [.lit (.bool true)], args := [d1, d2, d3, d4] }
  | _ => none }
def merkleRangesRow : OpenClaim := { program := "ytnnllficjljjkaa", sum := "806a01afabbaa6edcbe477db52ff2681990edb555f55f479ed0dfc60574992c3", func := "portcullis/portcullislaw15.MerkleRanges", spec := "merkleRanges", recurses := true, apart := false }
def MerkleRangesSaid : Prop := merkleRangesRow.holds Try.pinned (OpenSpec.ofChange merkleRangesSpec)

/-- ITS FALSE NEIGHBOUR: 'it returns false'. Refute it at one input. -/
def merkleRangesWrong : ChangeSpec := { name := "merkleRanges", fn := fun _ => fun
  | [d1, d2, d3, d4] => { results := [.lit (.bool false)], args := [d1, d2, d3, d4] }
  | _ => none }
def MerkleRangesWrongFalsely : Prop := merkleRangesRow.holds Try.pinned (OpenSpec.ofChange merkleRangesWrong)

/- THE SECOND FORM. 'bulk': how many values and letters a reading holds, each counted each time it is reached (what is shared counts as often as it is met; a slice's spare places count too). A statement '..UptoSaid' is the law's where the arguments, and the package variables that the reading takes, are together of bulk at most 1048576: NARROWER than '..Said'. Prove '..Said' where nothing that the law and all that it calls make is longer than what came in: it says more and counts as full. Else prove '..UptoSaid'. A law counts once. -/
mutual
def uptoBulk {H : Type} : DataW H → Nat
  | .lit (.string bytes) => bytes.length + 1
  | .lit _ => 1
  | .nil => 1
  | .ptr d => uptoBulk d + 1
  | .slice elems spare => uptoBulkAll elems + uptoBulkAll spare + 1
  | .agg parts => uptoBulkAll parts + 1
  | .iface _ d => uptoBulk d + 1
  | .map entries => uptoBulkEntries entries + 1
  | .held _ => 1
def uptoBulkAll {H : Type} : List (DataW H) → Nat
  | [] => 0
  | d :: r => uptoBulk d + uptoBulkAll r
def uptoBulkEntries {H : Type} : List (Lit × DataW H) → Nat
  | [] => 0
  | x :: r => uptoBulkEntry x + uptoBulkEntries r
def uptoBulkEntry {H : Type} : Lit × DataW H → Nat
  | (.string bytes, d) => bytes.length + uptoBulk d + 1
  | (_, d) => uptoBulk d + 1
 end
def uptoSmall : (H : Type) → List (DataW H) → Bool := fun _ ds => decide (uptoBulkAll ds ≤ 1048576)
def OpenSpec.upto (s : _root_.Go.ChangeSpec) : _root_.Go.OpenSpec := { _root_.Go.OpenSpec.ofChange s with cond := some uptoSmall }

/-- 'portcullislaw7.MacMade', WHERE WHAT IT READS IS OF BULK AT MOST 1048576: true; the input reads as it did. -/
def macMadeUptoRow : OpenClaim := { program := "ytnnllficjljjkaa", sum := "806a01afabbaa6edcbe477db52ff2681990edb555f55f479ed0dfc60574992c3", func := "portcullis/portcullislaw7.MacMade", spec := "macMade", apart := false, narrowed := true }
def MacMadeUptoSaid : Prop := macMadeUptoRow.holds Try.pinned (OpenSpec.upto macMadeSpec)

/-- 'portcullislaw7.MacSame', WHERE WHAT IT READS IS OF BULK AT MOST 1048576: true; the input reads as it did. -/
def macSameUptoRow : OpenClaim := { program := "ytnnllficjljjkaa", sum := "806a01afabbaa6edcbe477db52ff2681990edb555f55f479ed0dfc60574992c3", func := "portcullis/portcullislaw7.MacSame", spec := "macSame", apart := false, narrowed := true }
def MacSameUptoSaid : Prop := macSameUptoRow.holds Try.pinned (OpenSpec.upto macSameSpec)

/-- 'portcullislaw15.MerkleEach', WHERE WHAT IT READS IS OF BULK AT MOST 1048576: true; the input reads as it did. -/
def merkleEachUptoRow : OpenClaim := { program := "ytnnllficjljjkaa", sum := "806a01afabbaa6edcbe477db52ff2681990edb555f55f479ed0dfc60574992c3", func := "portcullis/portcullislaw15.MerkleEach", spec := "merkleEach", recurses := true, apart := false, narrowed := true }
def MerkleEachUptoSaid : Prop := merkleEachUptoRow.holds Try.pinned (OpenSpec.upto merkleEachSpec)

/-- 'portcullislaw15.MerkleMade', WHERE WHAT IT READS IS OF BULK AT MOST 1048576: true; the input reads as it did. -/
def merkleMadeUptoRow : OpenClaim := { program := "ytnnllficjljjkaa", sum := "806a01afabbaa6edcbe477db52ff2681990edb555f55f479ed0dfc60574992c3", func := "portcullis/portcullislaw15.MerkleMade", spec := "merkleMade", recurses := true, apart := false, narrowed := true }
def MerkleMadeUptoSaid : Prop := merkleMadeUptoRow.holds Try.pinned (OpenSpec.upto merkleMadeSpec)

/-- 'portcullislaw15.MerkleRanges', WHERE WHAT IT READS IS OF BULK AT MOST 1048576: true; the input reads as it did. -/
def merkleRangesUptoRow : OpenClaim := { program := "ytnnllficjljjkaa", sum := "806a01afabbaa6edcbe477db52ff2681990edb555f55f479ed0dfc60574992c3", func := "portcullis/portcullislaw15.MerkleRanges", spec := "merkleRanges", recurses := true, apart := false, narrowed := true }
def MerkleRangesUptoSaid : Prop := merkleRangesUptoRow.holds Try.pinned (OpenSpec.upto merkleRangesSpec)

end Rows
end Go.Proofs.Ytnnllficjljjkaa
