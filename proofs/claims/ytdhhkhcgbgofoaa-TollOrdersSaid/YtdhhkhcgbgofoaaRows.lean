/-
  No cell of these rows narrows 'for every input' (looked for: loops, veiled, ifaces, maps, wideKeys, modest, calm, conditions, laid).
  DERIVED. THE GIVEN ROWS OF THIS SEAT. 6 by the template 'for every input the law returns true; each argument reads behind the call as it read before'; 0 by the template 'total and deterministic' (their statements: YtdhhkhcgbgofoaaTotals.lean).
  GIVEN WITH THE SEED: the statements are not yours to turn. If you find one false, say at which input.
  Laid BY PROGRAM, IN A SANDBOX (cutbox-rows.mjs): the forced cells as the released guide's own fill.sh prints them over the translation 5715147d8f300c17… (all of the seat's roots in one cut). By AI agents, Wed Nov 11 2026. No macro, syntax, notation, axiom, sorry.
-/
import Derived.Test.YtdhhkhcgbgofoaaChecked
import GoSem.Claim
import GoSem.ClaimJoined
import GoSem.ClaimMapViews
import Derived.JoinedTies
import Derived.KernelRfl
namespace Go.Proofs.Ytdhhkhcgbgofoaa
/- THE CELL 'sum', in the pinned program and in every row, IS THE sha256 OF THE DUMP (.gsa) THAT YtdhhkhcgbgofoaaProg.lean LOADS. Nothing in Lean hashes anything: it is a label: what it is worth is what the hold of that sum in a sandbox is worth. -/
noncomputable def Try.pinned : Pinned := { name := "ytdhhkhcgbgofoaa", sum := "5715147d8f300c17e6a2142b4555dd9849f19d35de860aebd76b0462e3c4b3f5", checked := Try.checked }
namespace Rows
def none {H : Type} : Left H := { results := [], args := [] }

/-- 'portcullislaw1.TollParts': WHATEVER THE INPUT: true; the input reads as it did. -/
def tollPartsSpec : ChangeSpec := { name := "tollParts", fn := fun _ => fun
  | [d1, d2, d3, d4] => { results := [.lit (.bool true)], args := [d1, d2, d3, d4] }
  | _ => none }
def tollPartsRow : OpenClaim := { program := "ytdhhkhcgbgofoaa", sum := "5715147d8f300c17e6a2142b4555dd9849f19d35de860aebd76b0462e3c4b3f5", func := "portcullis/portcullislaw1.TollParts", spec := "tollParts", apart := false }
def TollPartsSaid : Prop := tollPartsRow.holds Try.pinned (OpenSpec.ofChange tollPartsSpec)

/-- ITS FALSE NEIGHBOUR: 'it returns false'. Refute it at one input. -/
def tollPartsWrong : ChangeSpec := { name := "tollParts", fn := fun _ => fun
  | [d1, d2, d3, d4] => { results := [.lit (.bool false)], args := [d1, d2, d3, d4] }
  | _ => none }
def TollPartsWrongFalsely : Prop := tollPartsRow.holds Try.pinned (OpenSpec.ofChange tollPartsWrong)

/-- 'portcullislaw1.TollSums': WHATEVER THE INPUT: true; the input reads as it did. -/
def tollSumsSpec : ChangeSpec := { name := "tollSums", fn := fun _ => fun
  | [d1, d2] => { results := [.lit (.bool true)], args := [d1, d2] }
  | _ => none }
def tollSumsRow : OpenClaim := { program := "ytdhhkhcgbgofoaa", sum := "5715147d8f300c17e6a2142b4555dd9849f19d35de860aebd76b0462e3c4b3f5", func := "portcullis/portcullislaw1.TollSums", spec := "tollSums", apart := false }
def TollSumsSaid : Prop := tollSumsRow.holds Try.pinned (OpenSpec.ofChange tollSumsSpec)

/-- ITS FALSE NEIGHBOUR: 'it returns false'. Refute it at one input. -/
def tollSumsWrong : ChangeSpec := { name := "tollSums", fn := fun _ => fun
  | [d1, d2] => { results := [.lit (.bool false)], args := [d1, d2] }
  | _ => none }
def TollSumsWrongFalsely : Prop := tollSumsRow.holds Try.pinned (OpenSpec.ofChange tollSumsWrong)

/-- 'portcullislaw1.TollRooms': WHATEVER THE INPUT: true; the input reads as it did. -/
def tollRoomsSpec : ChangeSpec := { name := "tollRooms", fn := fun _ => fun
  | [d1, d2, d3] => { results := [.lit (.bool true)], args := [d1, d2, d3] }
  | _ => none }
def tollRoomsRow : OpenClaim := { program := "ytdhhkhcgbgofoaa", sum := "5715147d8f300c17e6a2142b4555dd9849f19d35de860aebd76b0462e3c4b3f5", func := "portcullis/portcullislaw1.TollRooms", spec := "tollRooms", apart := false }
def TollRoomsSaid : Prop := tollRoomsRow.holds Try.pinned (OpenSpec.ofChange tollRoomsSpec)

/-- ITS FALSE NEIGHBOUR: 'it returns false'. Refute it at one input. -/
def tollRoomsWrong : ChangeSpec := { name := "tollRooms", fn := fun _ => fun
  | [d1, d2, d3] => { results := [.lit (.bool false)], args := [d1, d2, d3] }
  | _ => none }
def TollRoomsWrongFalsely : Prop := tollRoomsRow.holds Try.pinned (OpenSpec.ofChange tollRoomsWrong)

/-- 'portcullislaw1.TollOrders': WHATEVER THE INPUT: true; the input reads as it did. -/
def tollOrdersSpec : ChangeSpec := { name := "tollOrders", fn := fun _ => fun
  | [d1, d2, d3] => { results := [.lit (.bool true)], args := [d1, d2, d3] }
  | _ => none }
def tollOrdersRow : OpenClaim := { program := "ytdhhkhcgbgofoaa", sum := "5715147d8f300c17e6a2142b4555dd9849f19d35de860aebd76b0462e3c4b3f5", func := "portcullis/portcullislaw1.TollOrders", spec := "tollOrders", apart := false }
def TollOrdersSaid : Prop := tollOrdersRow.holds Try.pinned (OpenSpec.ofChange tollOrdersSpec)

/-- ITS FALSE NEIGHBOUR: 'it returns false'. Refute it at one input. -/
def tollOrdersWrong : ChangeSpec := { name := "tollOrders", fn := fun _ => fun
  | [d1, d2, d3] => { results := [.lit (.bool false)], args := [d1, d2, d3] }
  | _ => none }
def TollOrdersWrongFalsely : Prop := tollOrdersRow.holds Try.pinned (OpenSpec.ofChange tollOrdersWrong)

/-- 'portcullislaw1.TollTimes': WHATEVER THE INPUT: true; the input reads as it did. -/
def tollTimesSpec : ChangeSpec := { name := "tollTimes", fn := fun _ => fun
  | [d1, d2, d3, d4, d5] => { results := [.lit (.bool true)], args := [d1, d2, d3, d4, d5] }
  | _ => none }
def tollTimesRow : OpenClaim := { program := "ytdhhkhcgbgofoaa", sum := "5715147d8f300c17e6a2142b4555dd9849f19d35de860aebd76b0462e3c4b3f5", func := "portcullis/portcullislaw1.TollTimes", spec := "tollTimes", apart := false }
def TollTimesSaid : Prop := tollTimesRow.holds Try.pinned (OpenSpec.ofChange tollTimesSpec)

/-- ITS FALSE NEIGHBOUR: 'it returns false'. Refute it at one input. -/
def tollTimesWrong : ChangeSpec := { name := "tollTimes", fn := fun _ => fun
  | [d1, d2, d3, d4, d5] => { results := [.lit (.bool false)], args := [d1, d2, d3, d4, d5] }
  | _ => none }
def TollTimesWrongFalsely : Prop := tollTimesRow.holds Try.pinned (OpenSpec.ofChange tollTimesWrong)

/-- 'portcullislaw1.TollAdds': WHATEVER THE INPUT: true; the input reads as it did. -/
def tollAddsSpec : ChangeSpec := { name := "tollAdds", fn := fun _ => fun
  | [d1, d2, d3] => { results := [.lit (.bool true)], args := [d1, d2, d3] }
  | _ => none }
def tollAddsRow : OpenClaim := { program := "ytdhhkhcgbgofoaa", sum := "5715147d8f300c17e6a2142b4555dd9849f19d35de860aebd76b0462e3c4b3f5", func := "portcullis/portcullislaw1.TollAdds", spec := "tollAdds", apart := false }
def TollAddsSaid : Prop := tollAddsRow.holds Try.pinned (OpenSpec.ofChange tollAddsSpec)

/-- ITS FALSE NEIGHBOUR: 'it returns false'. Refute it at one input. -/
def tollAddsWrong : ChangeSpec := { name := "tollAdds", fn := fun _ => fun
  | [d1, d2, d3] => { results := [.lit (.bool false)], args := [d1, d2, d3] }
  | _ => none }
def TollAddsWrongFalsely : Prop := tollAddsRow.holds Try.pinned (OpenSpec.ofChange tollAddsWrong)

/- THE SECOND FORM. 'bulk': how many values and letters a reading holds, each counted each time it is reached (what is shared counts as often as it is met; a slice's spare places count too). A statement '..UptoSaid' is the law's where the arguments, and the package variables that the reading takes, are together of bulk at most 1048576: NARROWER than '..Said'. Prove '..Said' where nothing that the law and all that it calls make is longer than what came in: it says more and counts as full. Else prove '..UptoSaid'. A law counts once. -/
mutual
def uptoBulk {H : Type} : DataW H → Nat
  | .lit (.string bytes) => bytes.length + 1
  | .lit _ => 1
  | .nil => 1
  | .ptr d => uptoBulk d + 1
  | .slice elems spare => uptoBulkAll elems + uptoBulkAll spare + 1
  | .agg parts => uptoBulkAll parts + 1
  | .iface _ d => uptoBulk d + 1
  | .map entries => uptoBulkEntries entries + 1
  | .held _ => 1
def uptoBulkAll {H : Type} : List (DataW H) → Nat
  | [] => 0
  | d :: r => uptoBulk d + uptoBulkAll r
def uptoBulkEntries {H : Type} : List (Lit × DataW H) → Nat
  | [] => 0
  | x :: r => uptoBulkEntry x + uptoBulkEntries r
def uptoBulkEntry {H : Type} : Lit × DataW H → Nat
  | (.string bytes, d) => bytes.length + uptoBulk d + 1
  | (_, d) => uptoBulk d + 1
 end
def uptoSmall : (H : Type) → List (DataW H) → Bool := fun _ ds => decide (uptoBulkAll ds ≤ 1048576)
def OpenSpec.upto (s : _root_.Go.ChangeSpec) : _root_.Go.OpenSpec := { _root_.Go.OpenSpec.ofChange s with cond := some uptoSmall }

/-- 'portcullislaw1.TollParts', WHERE WHAT IT READS IS OF BULK AT MOST 1048576: true; the input reads as it did. -/
def tollPartsUptoRow : OpenClaim := { program := "ytdhhkhcgbgofoaa", sum := "5715147d8f300c17e6a2142b4555dd9849f19d35de860aebd76b0462e3c4b3f5", func := "portcullis/portcullislaw1.TollParts", spec := "tollParts", apart := false, narrowed := true }
def TollPartsUptoSaid : Prop := tollPartsUptoRow.holds Try.pinned (OpenSpec.upto tollPartsSpec)

/-- 'portcullislaw1.TollSums', WHERE WHAT IT READS IS OF BULK AT MOST 1048576: true; the input reads as it did. -/
def tollSumsUptoRow : OpenClaim := { program := "ytdhhkhcgbgofoaa", sum := "5715147d8f300c17e6a2142b4555dd9849f19d35de860aebd76b0462e3c4b3f5", func := "portcullis/portcullislaw1.TollSums", spec := "tollSums", apart := false, narrowed := true }
def TollSumsUptoSaid : Prop := tollSumsUptoRow.holds Try.pinned (OpenSpec.upto tollSumsSpec)

/-- 'portcullislaw1.TollRooms', WHERE WHAT IT READS IS OF BULK AT MOST 1048576: true; the input reads as it did. -/
def tollRoomsUptoRow : OpenClaim := { program := "ytdhhkhcgbgofoaa", sum := "5715147d8f300c17e6a2142b4555dd9849f19d35de860aebd76b0462e3c4b3f5", func := "portcullis/portcullislaw1.TollRooms", spec := "tollRooms", apart := false, narrowed := true }
def TollRoomsUptoSaid : Prop := tollRoomsUptoRow.holds Try.pinned (OpenSpec.upto tollRoomsSpec)

/-- 'portcullislaw1.TollOrders', WHERE WHAT IT READS IS OF BULK AT MOST 1048576: true; the input reads as it did. -/
def tollOrdersUptoRow : OpenClaim := { program := "ytdhhkhcgbgofoaa", sum := "5715147d8f300c17e6a2142b4555dd9849f19d35de860aebd76b0462e3c4b3f5", func := "portcullis/portcullislaw1.TollOrders", spec := "tollOrders", apart := false, narrowed := true }
def TollOrdersUptoSaid : Prop := tollOrdersUptoRow.holds Try.pinned (OpenSpec.upto tollOrdersSpec)

/-- 'portcullislaw1.TollTimes', WHERE WHAT IT READS IS OF BULK AT MOST 1048576: true; the input reads as it did. -/
def tollTimesUptoRow : OpenClaim := { program := "ytdhhkhcgbgofoaa", sum := "5715147d8f300c17e6a2142b4555dd9849f19d35de860aebd76b0462e3c4b3f5", func := "portcullis/portcullislaw1.TollTimes", spec := "tollTimes", apart := false, narrowed := true }
def TollTimesUptoSaid : Prop := tollTimesUptoRow.holds Try.pinned (OpenSpec.upto tollTimesSpec)

/-- 'portcullislaw1.TollAdds', WHERE WHAT IT READS IS OF BULK AT MOST 1048576: true; the input reads as it did. -/
def tollAddsUptoRow : OpenClaim := { program := "ytdhhkhcgbgofoaa", sum := "5715147d8f300c17e6a2142b4555dd9849f19d35de860aebd76b0462e3c4b3f5", func := "portcullis/portcullislaw1.TollAdds", spec := "tollAdds", apart := false, narrowed := true }
def TollAddsUptoSaid : Prop := tollAddsUptoRow.holds Try.pinned (OpenSpec.upto tollAddsSpec)

end Rows
end Go.Proofs.Ytdhhkhcgbgofoaa
