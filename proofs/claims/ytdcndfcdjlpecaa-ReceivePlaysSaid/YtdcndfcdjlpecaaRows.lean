/-
  No cell of these rows narrows 'for every input' (looked for: loops, veiled, ifaces, maps, wideKeys, modest, calm, conditions, laid).
  DERIVED. THE GIVEN ROWS OF THIS SEAT. 8 by the template 'for every input the law returns true; each argument reads behind the call as it read before'; 0 by the template 'total and deterministic' (their statements: YtdcndfcdjlpecaaTotals.lean).
  GIVEN WITH THE SEED: the statements are not yours to turn. If you find one false, say at which input.
  Laid BY PROGRAM, IN A SANDBOX (cutbox-rows.mjs): the forced cells as the released guide's own fill.sh prints them over the translation 722190c6979af28e… (all of the seat's roots in one cut). By AI agents, Wed Nov 11 2026. No macro, syntax, notation, axiom, sorry.
-/
import Derived.Test.YtdcndfcdjlpecaaChecked
import GoSem.Claim
import GoSem.ClaimJoined
import GoSem.ClaimMapViews
import Derived.JoinedTies
import Derived.KernelRfl
namespace Go.Proofs.Ytdcndfcdjlpecaa
/- THE CELL 'sum', in the pinned program and in every row, IS THE sha256 OF THE DUMP (.gsa) THAT YtdcndfcdjlpecaaProg.lean LOADS. Nothing in Lean hashes anything: it is a label: what it is worth is what the hold of that sum in a sandbox is worth. -/
noncomputable def Try.pinned : Pinned := { name := "ytdcndfcdjlpecaa", sum := "722190c6979af28e3ec1976ec05282f4127c8df10831f3dc9fa1446f0129839a", checked := Try.checked }
namespace Rows
def none {H : Type} : Left H := { results := [], args := [] }

/-- 'portcullislaw9.ChachaBlocks': WHATEVER THE INPUT: true; the input reads as it did. -/
def chachaBlocksSpec : ChangeSpec := { name := "chachaBlocks", fn := fun _ => fun
  | [d1, d2, d3] => { results := [.lit (.bool true)], args := [d1, d2, d3] }
  | _ => none }
def chachaBlocksRow : OpenClaim := { program := "ytdcndfcdjlpecaa", sum := "722190c6979af28e3ec1976ec05282f4127c8df10831f3dc9fa1446f0129839a", func := "portcullis/portcullislaw9.ChachaBlocks", spec := "chachaBlocks", apart := false }
def ChachaBlocksSaid : Prop := chachaBlocksRow.holds Try.pinned (OpenSpec.ofChange chachaBlocksSpec)

/-- ITS FALSE NEIGHBOUR: 'it returns false'. Refute it at one input. -/
def chachaBlocksWrong : ChangeSpec := { name := "chachaBlocks", fn := fun _ => fun
  | [d1, d2, d3] => { results := [.lit (.bool false)], args := [d1, d2, d3] }
  | _ => none }
def ChachaBlocksWrongFalsely : Prop := chachaBlocksRow.holds Try.pinned (OpenSpec.ofChange chachaBlocksWrong)

/-- 'portcullislaw9.ChachaTurns': WHATEVER THE INPUT: true; the input reads as it did. -/
def chachaTurnsSpec : ChangeSpec := { name := "chachaTurns", fn := fun _ => fun
  | [d1, d2, d3, d4] => { results := [.lit (.bool true)], args := [d1, d2, d3, d4] }
  | _ => none }
def chachaTurnsRow : OpenClaim := { program := "ytdcndfcdjlpecaa", sum := "722190c6979af28e3ec1976ec05282f4127c8df10831f3dc9fa1446f0129839a", func := "portcullis/portcullislaw9.ChachaTurns", spec := "chachaTurns", apart := false }
def ChachaTurnsSaid : Prop := chachaTurnsRow.holds Try.pinned (OpenSpec.ofChange chachaTurnsSpec)

/-- ITS FALSE NEIGHBOUR: 'it returns false'. Refute it at one input. -/
def chachaTurnsWrong : ChangeSpec := { name := "chachaTurns", fn := fun _ => fun
  | [d1, d2, d3, d4] => { results := [.lit (.bool false)], args := [d1, d2, d3, d4] }
  | _ => none }
def ChachaTurnsWrongFalsely : Prop := chachaTurnsRow.holds Try.pinned (OpenSpec.ofChange chachaTurnsWrong)

/-- 'portcullislaw9.ChachaStream': WHATEVER THE INPUT: true; the input reads as it did. -/
def chachaStreamSpec : ChangeSpec := { name := "chachaStream", fn := fun _ => fun
  | [d1, d2, d3, d4] => { results := [.lit (.bool true)], args := [d1, d2, d3, d4] }
  | _ => none }
def chachaStreamRow : OpenClaim := { program := "ytdcndfcdjlpecaa", sum := "722190c6979af28e3ec1976ec05282f4127c8df10831f3dc9fa1446f0129839a", func := "portcullis/portcullislaw9.ChachaStream", spec := "chachaStream", apart := false }
def ChachaStreamSaid : Prop := chachaStreamRow.holds Try.pinned (OpenSpec.ofChange chachaStreamSpec)

/-- ITS FALSE NEIGHBOUR: 'it returns false'. Refute it at one input. -/
def chachaStreamWrong : ChangeSpec := { name := "chachaStream", fn := fun _ => fun
  | [d1, d2, d3, d4] => { results := [.lit (.bool false)], args := [d1, d2, d3, d4] }
  | _ => none }
def ChachaStreamWrongFalsely : Prop := chachaStreamRow.holds Try.pinned (OpenSpec.ofChange chachaStreamWrong)

/-- 'portcullislaw9.ChachaCounts': WHATEVER THE INPUT: true; the input reads as it did. -/
def chachaCountsSpec : ChangeSpec := { name := "chachaCounts", fn := fun _ => fun
  | [d1, d2, d3, d4] => { results := [.lit (.bool true)], args := [d1, d2, d3, d4] }
  | _ => none }
def chachaCountsRow : OpenClaim := { program := "ytdcndfcdjlpecaa", sum := "722190c6979af28e3ec1976ec05282f4127c8df10831f3dc9fa1446f0129839a", func := "portcullis/portcullislaw9.ChachaCounts", spec := "chachaCounts", apart := false }
def ChachaCountsSaid : Prop := chachaCountsRow.holds Try.pinned (OpenSpec.ofChange chachaCountsSpec)

/-- ITS FALSE NEIGHBOUR: 'it returns false'. Refute it at one input. -/
def chachaCountsWrong : ChangeSpec := { name := "chachaCounts", fn := fun _ => fun
  | [d1, d2, d3, d4] => { results := [.lit (.bool false)], args := [d1, d2, d3, d4] }
  | _ => none }
def ChachaCountsWrongFalsely : Prop := chachaCountsRow.holds Try.pinned (OpenSpec.ofChange chachaCountsWrong)

/-- 'portcullislaw23.ReceiveFills': WHATEVER THE INPUT: true; the input reads as it did. -/
def receiveFillsSpec : ChangeSpec := { name := "receiveFills", fn := fun _ => fun
  | [d1, d2] => { results := [.lit (.bool true)], args := [d1, d2] }
  | _ => none }
def receiveFillsRow : OpenClaim := { program := "ytdcndfcdjlpecaa", sum := "722190c6979af28e3ec1976ec05282f4127c8df10831f3dc9fa1446f0129839a", func := "portcullis/portcullislaw23.ReceiveFills", spec := "receiveFills", apart := false }
def ReceiveFillsSaid : Prop := receiveFillsRow.holds Try.pinned (OpenSpec.ofChange receiveFillsSpec)

/-- ITS FALSE NEIGHBOUR: 'it returns false'. Refute it at one input. -/
def receiveFillsWrong : ChangeSpec := { name := "receiveFills", fn := fun _ => fun
  | [d1, d2] => { results := [.lit (.bool false)], args := [d1, d2] }
  | _ => none }
def ReceiveFillsWrongFalsely : Prop := receiveFillsRow.holds Try.pinned (OpenSpec.ofChange receiveFillsWrong)

/-- 'portcullislaw23.ReceivePlays': WHATEVER THE INPUT: true; the input reads as it did. -/
def receivePlaysSpec : ChangeSpec := { name := "receivePlays", fn := fun _ => fun
  | [d1, d2, d3] => { results := [.lit (.bool true)], args := [d1, d2, d3] }
  | _ => none }
def receivePlaysRow : OpenClaim := { program := "ytdcndfcdjlpecaa", sum := "722190c6979af28e3ec1976ec05282f4127c8df10831f3dc9fa1446f0129839a", func := "portcullis/portcullislaw23.ReceivePlays", spec := "receivePlays", apart := false }
def ReceivePlaysSaid : Prop := receivePlaysRow.holds Try.pinned (OpenSpec.ofChange receivePlaysSpec)

/-- ITS FALSE NEIGHBOUR: 'it returns false'. Refute it at one input. -/
def receivePlaysWrong : ChangeSpec := { name := "receivePlays", fn := fun _ => fun
  | [d1, d2, d3] => { results := [.lit (.bool false)], args := [d1, d2, d3] }
  | _ => none }
def ReceivePlaysWrongFalsely : Prop := receivePlaysRow.holds Try.pinned (OpenSpec.ofChange receivePlaysWrong)

/-- 'portcullislaw23.ReceiveBack': WHATEVER THE INPUT: true; the input reads as it did. -/
def receiveBackSpec : ChangeSpec := { name := "receiveBack", fn := fun _ => fun
  | [d1, d2] => { results := [.lit (.bool true)], args := [d1, d2] }
  | _ => none }
def receiveBackRow : OpenClaim := { program := "ytdcndfcdjlpecaa", sum := "722190c6979af28e3ec1976ec05282f4127c8df10831f3dc9fa1446f0129839a", func := "portcullis/portcullislaw23.ReceiveBack", spec := "receiveBack", apart := false }
def ReceiveBackSaid : Prop := receiveBackRow.holds Try.pinned (OpenSpec.ofChange receiveBackSpec)

/-- ITS FALSE NEIGHBOUR: 'it returns false'. Refute it at one input. -/
def receiveBackWrong : ChangeSpec := { name := "receiveBack", fn := fun _ => fun
  | [d1, d2] => { results := [.lit (.bool false)], args := [d1, d2] }
  | _ => none }
def ReceiveBackWrongFalsely : Prop := receiveBackRow.holds Try.pinned (OpenSpec.ofChange receiveBackWrong)

/-- 'portcullistop.TopNames': WHATEVER THE INPUT: true; the input reads as it did. -/
def topNamesSpec : ChangeSpec := { name := "topNames", fn := fun _ => fun
  | [] => { results := [.lit (.bool true)], args := [] }
  | _ => none }
def topNamesRow : OpenClaim := { program := "ytdcndfcdjlpecaa", sum := "722190c6979af28e3ec1976ec05282f4127c8df10831f3dc9fa1446f0129839a", func := "portcullis/portcullistop.TopNames", spec := "topNames", apart := false }
def TopNamesSaid : Prop := topNamesRow.holds Try.pinned (OpenSpec.ofChange topNamesSpec)

/-- ITS FALSE NEIGHBOUR: 'it returns false'. Refute it at one input. -/
def topNamesWrong : ChangeSpec := { name := "topNames", fn := fun _ => fun
  | [] => { results := [.lit (.bool false)], args := [] }
  | _ => none }
def TopNamesWrongFalsely : Prop := topNamesRow.holds Try.pinned (OpenSpec.ofChange topNamesWrong)

/- THE SECOND FORM. 'bulk': how many values and letters a reading holds, each counted each time it is reached (what is shared counts as often as it is met; a slice's spare places count too). A statement '..UptoSaid' is the law's where the arguments, and the package variables that the reading takes, are together of bulk at most 1048576: NARROWER than '..Said'. Prove '..Said' where nothing that the law and all that it calls make is longer than what came in: it says more and counts as full. Else prove '..UptoSaid'. A law counts once. -/
mutual
def uptoBulk {H : Type} : DataW H → Nat
  | .lit (.string bytes) => bytes.length + 1
  | .lit _ => 1
  | .nil => 1
  | .ptr d => uptoBulk d + 1
  | .slice elems spare => uptoBulkAll elems + uptoBulkAll spare + 1
  | .agg parts => uptoBulkAll parts + 1
  | .iface _ d => uptoBulk d + 1
  | .map entries => uptoBulkEntries entries + 1
  | .held _ => 1
def uptoBulkAll {H : Type} : List (DataW H) → Nat
  | [] => 0
  | d :: r => uptoBulk d + uptoBulkAll r
def uptoBulkEntries {H : Type} : List (Lit × DataW H) → Nat
  | [] => 0
  | x :: r => uptoBulkEntry x + uptoBulkEntries r
def uptoBulkEntry {H : Type} : Lit × DataW H → Nat
  | (.string bytes, d) => bytes.length + uptoBulk d + 1
  | (_, d) => uptoBulk d + 1
 end
def uptoSmall : (H : Type) → List (DataW H) → Bool := fun _ ds => decide (uptoBulkAll ds ≤ 1048576)
def OpenSpec.upto (s : _root_.Go.ChangeSpec) : _root_.Go.OpenSpec := { _root_.Go.OpenSpec.ofChange s with cond := some uptoSmall }

/-- 'portcullislaw9.ChachaBlocks', WHERE WHAT IT READS IS OF BULK AT MOST 1048576: true; the input reads as it did. -/
def chachaBlocksUptoRow : OpenClaim := { program := "ytdcndfcdjlpecaa", sum := "722190c6979af28e3ec1976ec05282f4127c8df10831f3dc9fa1446f0129839a", func := "portcullis/portcullislaw9.ChachaBlocks", spec := "chachaBlocks", apart := false, narrowed := true }
def ChachaBlocksUptoSaid : Prop := chachaBlocksUptoRow.holds Try.pinned (OpenSpec.upto chachaBlocksSpec)

/-- 'portcullislaw9.ChachaTurns', WHERE WHAT IT READS IS OF BULK AT MOST 1048576: true; the input reads as it did. -/
def chachaTurnsUptoRow : OpenClaim := { program := "ytdcndfcdjlpecaa", sum := "722190c6979af28e3ec1976ec05282f4127c8df10831f3dc9fa1446f0129839a", func := "portcullis/portcullislaw9.ChachaTurns", spec := "chachaTurns", apart := false, narrowed := true }
def ChachaTurnsUptoSaid : Prop := chachaTurnsUptoRow.holds Try.pinned (OpenSpec.upto chachaTurnsSpec)

/-- 'portcullislaw9.ChachaStream', WHERE WHAT IT READS IS OF BULK AT MOST 1048576: true; the input reads as it did. -/
def chachaStreamUptoRow : OpenClaim := { program := "ytdcndfcdjlpecaa", sum := "722190c6979af28e3ec1976ec05282f4127c8df10831f3dc9fa1446f0129839a", func := "portcullis/portcullislaw9.ChachaStream", spec := "chachaStream", apart := false, narrowed := true }
def ChachaStreamUptoSaid : Prop := chachaStreamUptoRow.holds Try.pinned (OpenSpec.upto chachaStreamSpec)

/-- 'portcullislaw9.ChachaCounts', WHERE WHAT IT READS IS OF BULK AT MOST 1048576: true; the input reads as it did. -/
def chachaCountsUptoRow : OpenClaim := { program := "ytdcndfcdjlpecaa", sum := "722190c6979af28e3ec1976ec05282f4127c8df10831f3dc9fa1446f0129839a", func := "portcullis/portcullislaw9.ChachaCounts", spec := "chachaCounts", apart := false, narrowed := true }
def ChachaCountsUptoSaid : Prop := chachaCountsUptoRow.holds Try.pinned (OpenSpec.upto chachaCountsSpec)

/-- 'portcullislaw23.ReceiveFills', WHERE WHAT IT READS IS OF BULK AT MOST 1048576: true; the input reads as it did. -/
def receiveFillsUptoRow : OpenClaim := { program := "ytdcndfcdjlpecaa", sum := "722190c6979af28e3ec1976ec05282f4127c8df10831f3dc9fa1446f0129839a", func := "portcullis/portcullislaw23.ReceiveFills", spec := "receiveFills", apart := false, narrowed := true }
def ReceiveFillsUptoSaid : Prop := receiveFillsUptoRow.holds Try.pinned (OpenSpec.upto receiveFillsSpec)

/-- 'portcullislaw23.ReceivePlays', WHERE WHAT IT READS IS OF BULK AT MOST 1048576: true; the input reads as it did. -/
def receivePlaysUptoRow : OpenClaim := { program := "ytdcndfcdjlpecaa", sum := "722190c6979af28e3ec1976ec05282f4127c8df10831f3dc9fa1446f0129839a", func := "portcullis/portcullislaw23.ReceivePlays", spec := "receivePlays", apart := false, narrowed := true }
def ReceivePlaysUptoSaid : Prop := receivePlaysUptoRow.holds Try.pinned (OpenSpec.upto receivePlaysSpec)

/-- 'portcullislaw23.ReceiveBack', WHERE WHAT IT READS IS OF BULK AT MOST 1048576: true; the input reads as it did. -/
def receiveBackUptoRow : OpenClaim := { program := "ytdcndfcdjlpecaa", sum := "722190c6979af28e3ec1976ec05282f4127c8df10831f3dc9fa1446f0129839a", func := "portcullis/portcullislaw23.ReceiveBack", spec := "receiveBack", apart := false, narrowed := true }
def ReceiveBackUptoSaid : Prop := receiveBackUptoRow.holds Try.pinned (OpenSpec.upto receiveBackSpec)

/-- 'portcullistop.TopNames', WHERE WHAT IT READS IS OF BULK AT MOST 1048576: true; the input reads as it did. -/
def topNamesUptoRow : OpenClaim := { program := "ytdcndfcdjlpecaa", sum := "722190c6979af28e3ec1976ec05282f4127c8df10831f3dc9fa1446f0129839a", func := "portcullis/portcullistop.TopNames", spec := "topNames", apart := false, narrowed := true }
def TopNamesUptoSaid : Prop := topNamesUptoRow.holds Try.pinned (OpenSpec.upto topNamesSpec)

end Rows
end Go.Proofs.Ytdcndfcdjlpecaa
