/-
  NARROWER THAN 'FOR EVERY INPUT', by the rows' own cells (each row's printed sentence says how): ShaSums: laid · ShaLengths: laid · ShaCuts: laid · ShaTurned: laid · MeasureFolds: laid · MeasureGoes: laid · MeasureOrders: laid · MacSums: laid · MacKeys: laid · DeriveKeys: laid · DeriveBegins: laid · DeriveMade: laid · DeriveMost: laid · DeriveExpands: laid · DeriveSalts: laid · MerkleRoots: laid · MerkleChecks: laid · MerkleTurned: laid.
  DERIVED. THE GIVEN ROWS OF THIS SEAT. 18 by the template 'for every input the law returns true; each argument reads behind the call as it read before'; 0 by the template 'total and deterministic' (their statements: YtnnllficjljjkaaDoorTotals.lean).
  GIVEN WITH THE SEED: the statements are not yours to turn. If you find one false, say at which input.
  Laid BY PROGRAM, IN A SANDBOX (cutbox-rows.mjs): the forced cells as the released guide's own fill.sh prints them over the translation a2aa3e8a82837030… (all of the seat's roots in one cut). By AI agents, Wed Nov 11 2026. No macro, syntax, notation, axiom, sorry.
-/
import Derived.Test.YtnnllficjljjkaaDoorChecked
import GoSem.Claim
import GoSem.ClaimJoined
import GoSem.ClaimMapViews
import Derived.JoinedTies
import Derived.KernelRfl
namespace Go.Proofs.YtnnllficjljjkaaDoor
/- THE CELL 'sum', in the pinned program and in every row, IS THE sha256 OF THE DUMP (.gsa) THAT YtnnllficjljjkaaDoorProg.lean LOADS. Nothing in Lean hashes anything: it is a label: what it is worth is what the hold of that sum in a sandbox is worth. -/
noncomputable def Tryd.pinned : Pinned := { name := "ytnnllficjljjkaadoor", sum := "a2aa3e8a82837030c8e9a2b198cacf6b179e7284d5e24a34dae1a4d93487b427", checked := Tryd.checked }
namespace Rows
def none {H : Type} : Left H := { results := [], args := [] }

/- WHAT THE LISTED PACKAGE-LEVEL VARIABLES READ AS WHEN THE CALL BEGINS. Each datum BY PROGRAM (the guide's laid-datum.mjs) off the statement by which the dump's own 'gosem.cut.vars' lays the variable. In a bare row this is a premise. The card (YtnnllficjljjkaaDoorCards.lean) ties it to the program's text. -/
def laid_portcullis_portcullisref1_k256 {H : Type} : DataW H := .agg [.lit (.int .u32 1116352408), .lit (.int .u32 1899447441), .lit (.int .u32 3049323471), .lit (.int .u32 3921009573), .lit (.int .u32 961987163), .lit (.int .u32 1508970993), .lit (.int .u32 2453635748), .lit (.int .u32 2870763221), .lit (.int .u32 3624381080), .lit (.int .u32 310598401), .lit (.int .u32 607225278), .lit (.int .u32 1426881987), .lit (.int .u32 1925078388), .lit (.int .u32 2162078206), .lit (.int .u32 2614888103), .lit (.int .u32 3248222580), .lit (.int .u32 3835390401), .lit (.int .u32 4022224774), .lit (.int .u32 264347078), .lit (.int .u32 604807628), .lit (.int .u32 770255983), .lit (.int .u32 1249150122), .lit (.int .u32 1555081692), .lit (.int .u32 1996064986), .lit (.int .u32 2554220882), .lit (.int .u32 2821834349), .lit (.int .u32 2952996808), .lit (.int .u32 3210313671), .lit (.int .u32 3336571891), .lit (.int .u32 3584528711), .lit (.int .u32 113926993), .lit (.int .u32 338241895), .lit (.int .u32 666307205), .lit (.int .u32 773529912), .lit (.int .u32 1294757372), .lit (.int .u32 1396182291), .lit (.int .u32 1695183700), .lit (.int .u32 1986661051), .lit (.int .u32 2177026350), .lit (.int .u32 2456956037), .lit (.int .u32 2730485921), .lit (.int .u32 2820302411), .lit (.int .u32 3259730800), .lit (.int .u32 3345764771), .lit (.int .u32 3516065817), .lit (.int .u32 3600352804), .lit (.int .u32 4094571909), .lit (.int .u32 275423344), .lit (.int .u32 430227734), .lit (.int .u32 506948616), .lit (.int .u32 659060556), .lit (.int .u32 883997877), .lit (.int .u32 958139571), .lit (.int .u32 1322822218), .lit (.int .u32 1537002063), .lit (.int .u32 1747873779), .lit (.int .u32 1955562222), .lit (.int .u32 2024104815), .lit (.int .u32 2227730452), .lit (.int .u32 2361852424), .lit (.int .u32 2428436474), .lit (.int .u32 2756734187), .lit (.int .u32 3204031479), .lit (.int .u32 3329325298)]

/-- 'portcullislaw5.ShaSums': WHATEVER THE INPUT: true; the input reads as it did. -/
def shaSumsSpec : ChangeSpec := { name := "shaSums", fn := fun _ => fun
  | [d] => { results := [.lit (.bool true)], args := [d] }
  | _ => none }
def shaSumsRow : OpenClaim := { program := "ytnnllficjljjkaadoor", sum := "a2aa3e8a82837030c8e9a2b198cacf6b179e7284d5e24a34dae1a4d93487b427", func := "portcullis/portcullislaw5.ShaSums", spec := "shaSums", named := ["portcullis/portcullisref1.k256"], apart := false, laid := [("portcullis/portcullisref1.k256", laid_portcullis_portcullisref1_k256)] }
def ShaSumsSaid : Prop := shaSumsRow.holds Tryd.pinned (OpenSpec.ofChange shaSumsSpec)

/-- ITS FALSE NEIGHBOUR: 'it returns false'. Refute it at one input. -/
def shaSumsWrong : ChangeSpec := { name := "shaSums", fn := fun _ => fun
  | [d] => { results := [.lit (.bool false)], args := [d] }
  | _ => none }
def ShaSumsWrongFalsely : Prop := shaSumsRow.holds Tryd.pinned (OpenSpec.ofChange shaSumsWrong)

/-- 'portcullislaw5.ShaLengths': WHATEVER THE INPUT: true; the input reads as it did. -/
def shaLengthsSpec : ChangeSpec := { name := "shaLengths", fn := fun _ => fun
  | [d1, d2] => { results := [.lit (.bool true)], args := [d1, d2] }
  | _ => none }
def shaLengthsRow : OpenClaim := { program := "ytnnllficjljjkaadoor", sum := "a2aa3e8a82837030c8e9a2b198cacf6b179e7284d5e24a34dae1a4d93487b427", func := "portcullis/portcullislaw5.ShaLengths", spec := "shaLengths", named := ["portcullis/portcullisref1.k256"], apart := false, laid := [("portcullis/portcullisref1.k256", laid_portcullis_portcullisref1_k256)] }
def ShaLengthsSaid : Prop := shaLengthsRow.holds Tryd.pinned (OpenSpec.ofChange shaLengthsSpec)

/-- ITS FALSE NEIGHBOUR: 'it returns false'. Refute it at one input. -/
def shaLengthsWrong : ChangeSpec := { name := "shaLengths", fn := fun _ => fun
  | [d1, d2] => { results := [.lit (.bool false)], args := [d1, d2] }
  | _ => none }
def ShaLengthsWrongFalsely : Prop := shaLengthsRow.holds Tryd.pinned (OpenSpec.ofChange shaLengthsWrong)

/-- 'portcullislaw5.ShaCuts': WHATEVER THE INPUT: true; the input reads as it did. -/
def shaCutsSpec : ChangeSpec := { name := "shaCuts", fn := fun _ => fun
  | [d1, d2, d3] => { results := [.lit (.bool true)], args := [d1, d2, d3] }
  | _ => none }
def shaCutsRow : OpenClaim := { program := "ytnnllficjljjkaadoor", sum := "a2aa3e8a82837030c8e9a2b198cacf6b179e7284d5e24a34dae1a4d93487b427", func := "portcullis/portcullislaw5.ShaCuts", spec := "shaCuts", named := ["portcullis/portcullisref1.k256"], apart := false, laid := [("portcullis/portcullisref1.k256", laid_portcullis_portcullisref1_k256)] }
def ShaCutsSaid : Prop := shaCutsRow.holds Tryd.pinned (OpenSpec.ofChange shaCutsSpec)

/-- ITS FALSE NEIGHBOUR: 'it returns false'. Refute it at one input. -/
def shaCutsWrong : ChangeSpec := { name := "shaCuts", fn := fun _ => fun
  | [d1, d2, d3] => { results := [.lit (.bool false)], args := [d1, d2, d3] }
  | _ => none }
def ShaCutsWrongFalsely : Prop := shaCutsRow.holds Tryd.pinned (OpenSpec.ofChange shaCutsWrong)

/-- 'portcullislaw5.ShaTurned': WHATEVER THE INPUT: true; the input reads as it did. -/
def shaTurnedSpec : ChangeSpec := { name := "shaTurned", fn := fun _ => fun
  | [d1, d2, d3] => { results := [.lit (.bool true)], args := [d1, d2, d3] }
  | _ => none }
def shaTurnedRow : OpenClaim := { program := "ytnnllficjljjkaadoor", sum := "a2aa3e8a82837030c8e9a2b198cacf6b179e7284d5e24a34dae1a4d93487b427", func := "portcullis/portcullislaw5.ShaTurned", spec := "shaTurned", named := ["portcullis/portcullisref1.k256"], apart := false, laid := [("portcullis/portcullisref1.k256", laid_portcullis_portcullisref1_k256)] }
def ShaTurnedSaid : Prop := shaTurnedRow.holds Tryd.pinned (OpenSpec.ofChange shaTurnedSpec)

/-- ITS FALSE NEIGHBOUR: 'it returns false'. Refute it at one input. -/
def shaTurnedWrong : ChangeSpec := { name := "shaTurned", fn := fun _ => fun
  | [d1, d2, d3] => { results := [.lit (.bool false)], args := [d1, d2, d3] }
  | _ => none }
def ShaTurnedWrongFalsely : Prop := shaTurnedRow.holds Tryd.pinned (OpenSpec.ofChange shaTurnedWrong)

/-- 'portcullislaw24.MeasureFolds': WHATEVER THE INPUT: true; the input reads as it did. -/
def measureFoldsSpec : ChangeSpec := { name := "measureFolds", fn := fun _ => fun
  | [d] => { results := [.lit (.bool true)], args := [d] }
  | _ => none }
def measureFoldsRow : OpenClaim := { program := "ytnnllficjljjkaadoor", sum := "a2aa3e8a82837030c8e9a2b198cacf6b179e7284d5e24a34dae1a4d93487b427", func := "portcullis/portcullislaw24.MeasureFolds", spec := "measureFolds", named := ["portcullis/portcullisref1.k256"], apart := false, laid := [("portcullis/portcullisref1.k256", laid_portcullis_portcullisref1_k256)] }
def MeasureFoldsSaid : Prop := measureFoldsRow.holds Tryd.pinned (OpenSpec.ofChange measureFoldsSpec)

/-- ITS FALSE NEIGHBOUR: 'it returns false'. Refute it at one input. -/
def measureFoldsWrong : ChangeSpec := { name := "measureFolds", fn := fun _ => fun
  | [d] => { results := [.lit (.bool false)], args := [d] }
  | _ => none }
def MeasureFoldsWrongFalsely : Prop := measureFoldsRow.holds Tryd.pinned (OpenSpec.ofChange measureFoldsWrong)

/-- 'portcullislaw24.MeasureGoes': WHATEVER THE INPUT: true; the input reads as it did. -/
def measureGoesSpec : ChangeSpec := { name := "measureGoes", fn := fun _ => fun
  | [d1, d2] => { results := [.lit (.bool true)], args := [d1, d2] }
  | _ => none }
def measureGoesRow : OpenClaim := { program := "ytnnllficjljjkaadoor", sum := "a2aa3e8a82837030c8e9a2b198cacf6b179e7284d5e24a34dae1a4d93487b427", func := "portcullis/portcullislaw24.MeasureGoes", spec := "measureGoes", named := ["portcullis/portcullisref1.k256"], apart := false, laid := [("portcullis/portcullisref1.k256", laid_portcullis_portcullisref1_k256)] }
def MeasureGoesSaid : Prop := measureGoesRow.holds Tryd.pinned (OpenSpec.ofChange measureGoesSpec)

/-- ITS FALSE NEIGHBOUR: 'it returns false'. Refute it at one input. -/
def measureGoesWrong : ChangeSpec := { name := "measureGoes", fn := fun _ => fun
  | [d1, d2] => { results := [.lit (.bool false)], args := [d1, d2] }
  | _ => none }
def MeasureGoesWrongFalsely : Prop := measureGoesRow.holds Tryd.pinned (OpenSpec.ofChange measureGoesWrong)

/-- 'portcullislaw24.MeasureOrders': WHATEVER THE INPUT: true; the input reads as it did. -/
def measureOrdersSpec : ChangeSpec := { name := "measureOrders", fn := fun _ => fun
  | [d1, d2] => { results := [.lit (.bool true)], args := [d1, d2] }
  | _ => none }
def measureOrdersRow : OpenClaim := { program := "ytnnllficjljjkaadoor", sum := "a2aa3e8a82837030c8e9a2b198cacf6b179e7284d5e24a34dae1a4d93487b427", func := "portcullis/portcullislaw24.MeasureOrders", spec := "measureOrders", named := ["portcullis/portcullisref1.k256"], apart := false, laid := [("portcullis/portcullisref1.k256", laid_portcullis_portcullisref1_k256)] }
def MeasureOrdersSaid : Prop := measureOrdersRow.holds Tryd.pinned (OpenSpec.ofChange measureOrdersSpec)

/-- ITS FALSE NEIGHBOUR: 'it returns false'. Refute it at one input. -/
def measureOrdersWrong : ChangeSpec := { name := "measureOrders", fn := fun _ => fun
  | [d1, d2] => { results := [.lit (.bool false)], args := [d1, d2] }
  | _ => none }
def MeasureOrdersWrongFalsely : Prop := measureOrdersRow.holds Tryd.pinned (OpenSpec.ofChange measureOrdersWrong)

/-- 'portcullislaw7.MacSums': WHATEVER THE INPUT: true; the input reads as it did. -/
def macSumsSpec : ChangeSpec := { name := "macSums", fn := fun _ => fun
  | [d1, d2] => { results := [.lit (.bool true)], args := [d1, d2] }
  | _ => none }
def macSumsRow : OpenClaim := { program := "ytnnllficjljjkaadoor", sum := "a2aa3e8a82837030c8e9a2b198cacf6b179e7284d5e24a34dae1a4d93487b427", func := "portcullis/portcullislaw7.MacSums", spec := "macSums", named := ["portcullis/portcullisref1.k256"], apart := false, laid := [("portcullis/portcullisref1.k256", laid_portcullis_portcullisref1_k256)] }
def MacSumsSaid : Prop := macSumsRow.holds Tryd.pinned (OpenSpec.ofChange macSumsSpec)

/-- ITS FALSE NEIGHBOUR: 'it returns false'. Refute it at one input. -/
def macSumsWrong : ChangeSpec := { name := "macSums", fn := fun _ => fun
  | [d1, d2] => { results := [.lit (.bool false)], args := [d1, d2] }
  | _ => none }
def MacSumsWrongFalsely : Prop := macSumsRow.holds Tryd.pinned (OpenSpec.ofChange macSumsWrong)

/-- 'portcullislaw7.MacKeys': WHATEVER THE INPUT: true; the input reads as it did. -/
def macKeysSpec : ChangeSpec := { name := "macKeys", fn := fun _ => fun
  | [d1, d2, d3] => { results := [.lit (.bool true)], args := [d1, d2, d3] }
  | _ => none }
def macKeysRow : OpenClaim := { program := "ytnnllficjljjkaadoor", sum := "a2aa3e8a82837030c8e9a2b198cacf6b179e7284d5e24a34dae1a4d93487b427", func := "portcullis/portcullislaw7.MacKeys", spec := "macKeys", named := ["portcullis/portcullisref1.k256"], apart := false, laid := [("portcullis/portcullisref1.k256", laid_portcullis_portcullisref1_k256)] }
def MacKeysSaid : Prop := macKeysRow.holds Tryd.pinned (OpenSpec.ofChange macKeysSpec)

/-- ITS FALSE NEIGHBOUR: 'it returns false'. Refute it at one input. -/
def macKeysWrong : ChangeSpec := { name := "macKeys", fn := fun _ => fun
  | [d1, d2, d3] => { results := [.lit (.bool false)], args := [d1, d2, d3] }
  | _ => none }
def MacKeysWrongFalsely : Prop := macKeysRow.holds Tryd.pinned (OpenSpec.ofChange macKeysWrong)

/-- 'portcullislaw8.DeriveKeys': WHATEVER THE INPUT: true; the input reads as it did. -/
def deriveKeysSpec : ChangeSpec := { name := "deriveKeys", fn := fun _ => fun
  | [d1, d2] => { results := [.lit (.bool true)], args := [d1, d2] }
  | _ => none }
def deriveKeysRow : OpenClaim := { program := "ytnnllficjljjkaadoor", sum := "a2aa3e8a82837030c8e9a2b198cacf6b179e7284d5e24a34dae1a4d93487b427", func := "portcullis/portcullislaw8.DeriveKeys", spec := "deriveKeys", named := ["portcullis/portcullisref1.k256"], apart := false, laid := [("portcullis/portcullisref1.k256", laid_portcullis_portcullisref1_k256)] }
def DeriveKeysSaid : Prop := deriveKeysRow.holds Tryd.pinned (OpenSpec.ofChange deriveKeysSpec)

/-- ITS FALSE NEIGHBOUR: 'it returns false'. Refute it at one input. -/
def deriveKeysWrong : ChangeSpec := { name := "deriveKeys", fn := fun _ => fun
  | [d1, d2] => { results := [.lit (.bool false)], args := [d1, d2] }
  | _ => none }
def DeriveKeysWrongFalsely : Prop := deriveKeysRow.holds Tryd.pinned (OpenSpec.ofChange deriveKeysWrong)

/-- 'portcullislaw8.DeriveBegins': WHATEVER THE INPUT: true; the input reads as it did. -/
def deriveBeginsSpec : ChangeSpec := { name := "deriveBegins", fn := fun _ => fun
  | [d1, d2, d3, d4] => { results := [.lit (.bool true)], args := [d1, d2, d3, d4] }
  | _ => none }
def deriveBeginsRow : OpenClaim := { program := "ytnnllficjljjkaadoor", sum := "a2aa3e8a82837030c8e9a2b198cacf6b179e7284d5e24a34dae1a4d93487b427", func := "portcullis/portcullislaw8.DeriveBegins", spec := "deriveBegins", named := ["portcullis/portcullisref1.k256"], apart := false, laid := [("portcullis/portcullisref1.k256", laid_portcullis_portcullisref1_k256)] }
def DeriveBeginsSaid : Prop := deriveBeginsRow.holds Tryd.pinned (OpenSpec.ofChange deriveBeginsSpec)

/-- ITS FALSE NEIGHBOUR: 'it returns false'. Refute it at one input. -/
def deriveBeginsWrong : ChangeSpec := { name := "deriveBegins", fn := fun _ => fun
  | [d1, d2, d3, d4] => { results := [.lit (.bool false)], args := [d1, d2, d3, d4] }
  | _ => none }
def DeriveBeginsWrongFalsely : Prop := deriveBeginsRow.holds Tryd.pinned (OpenSpec.ofChange deriveBeginsWrong)

/-- 'portcullislaw8.DeriveMade': WHATEVER THE INPUT: true; the input reads as it did. -/
def deriveMadeSpec : ChangeSpec := { name := "deriveMade", fn := fun _ => fun
  | [d1, d2, d3] => { results := [.lit (.bool true)], args := [d1, d2, d3] }
  | _ => none }
def deriveMadeRow : OpenClaim := { program := "ytnnllficjljjkaadoor", sum := "a2aa3e8a82837030c8e9a2b198cacf6b179e7284d5e24a34dae1a4d93487b427", func := "portcullis/portcullislaw8.DeriveMade", spec := "deriveMade", named := ["portcullis/portcullisref1.k256"], apart := false, laid := [("portcullis/portcullisref1.k256", laid_portcullis_portcullisref1_k256)] }
def DeriveMadeSaid : Prop := deriveMadeRow.holds Tryd.pinned (OpenSpec.ofChange deriveMadeSpec)

/-- ITS FALSE NEIGHBOUR: 'it returns false'. Refute it at one input. -/
def deriveMadeWrong : ChangeSpec := { name := "deriveMade", fn := fun _ => fun
  | [d1, d2, d3] => { results := [.lit (.bool false)], args := [d1, d2, d3] }
  | _ => none }
def DeriveMadeWrongFalsely : Prop := deriveMadeRow.holds Tryd.pinned (OpenSpec.ofChange deriveMadeWrong)

/-- 'portcullislaw8.DeriveMost': WHATEVER THE INPUT: true; the input reads as it did. -/
def deriveMostSpec : ChangeSpec := { name := "deriveMost", fn := fun _ => fun
  | [d1, d2] => { results := [.lit (.bool true)], args := [d1, d2] }
  | _ => none }
def deriveMostRow : OpenClaim := { program := "ytnnllficjljjkaadoor", sum := "a2aa3e8a82837030c8e9a2b198cacf6b179e7284d5e24a34dae1a4d93487b427", func := "portcullis/portcullislaw8.DeriveMost", spec := "deriveMost", named := ["portcullis/portcullisref1.k256"], apart := false, laid := [("portcullis/portcullisref1.k256", laid_portcullis_portcullisref1_k256)] }
def DeriveMostSaid : Prop := deriveMostRow.holds Tryd.pinned (OpenSpec.ofChange deriveMostSpec)

/-- ITS FALSE NEIGHBOUR: 'it returns false'. Refute it at one input. -/
def deriveMostWrong : ChangeSpec := { name := "deriveMost", fn := fun _ => fun
  | [d1, d2] => { results := [.lit (.bool false)], args := [d1, d2] }
  | _ => none }
def DeriveMostWrongFalsely : Prop := deriveMostRow.holds Tryd.pinned (OpenSpec.ofChange deriveMostWrong)

/-- 'portcullislaw8.DeriveExpands': WHATEVER THE INPUT: true; the input reads as it did. -/
def deriveExpandsSpec : ChangeSpec := { name := "deriveExpands", fn := fun _ => fun
  | [d1, d2, d3, d4] => { results := [.lit (.bool true)], args := [d1, d2, d3, d4] }
  | _ => none }
def deriveExpandsRow : OpenClaim := { program := "ytnnllficjljjkaadoor", sum := "a2aa3e8a82837030c8e9a2b198cacf6b179e7284d5e24a34dae1a4d93487b427", func := "portcullis/portcullislaw8.DeriveExpands", spec := "deriveExpands", named := ["portcullis/portcullisref1.k256"], apart := false, laid := [("portcullis/portcullisref1.k256", laid_portcullis_portcullisref1_k256)] }
def DeriveExpandsSaid : Prop := deriveExpandsRow.holds Tryd.pinned (OpenSpec.ofChange deriveExpandsSpec)

/-- ITS FALSE NEIGHBOUR: 'it returns false'. Refute it at one input. -/
def deriveExpandsWrong : ChangeSpec := { name := "deriveExpands", fn := fun _ => fun
  | [d1, d2, d3, d4] => { results := [.lit (.bool false)], args := [d1, d2, d3, d4] }
  | _ => none }
def DeriveExpandsWrongFalsely : Prop := deriveExpandsRow.holds Tryd.pinned (OpenSpec.ofChange deriveExpandsWrong)

/-- 'portcullislaw8.DeriveSalts': WHATEVER THE INPUT: true; the input reads as it did. -/
def deriveSaltsSpec : ChangeSpec := { name := "deriveSalts", fn := fun _ => fun
  | [d1, d2, d3] => { results := [.lit (.bool true)], args := [d1, d2, d3] }
  | _ => none }
def deriveSaltsRow : OpenClaim := { program := "ytnnllficjljjkaadoor", sum := "a2aa3e8a82837030c8e9a2b198cacf6b179e7284d5e24a34dae1a4d93487b427", func := "portcullis/portcullislaw8.DeriveSalts", spec := "deriveSalts", named := ["portcullis/portcullisref1.k256"], apart := false, laid := [("portcullis/portcullisref1.k256", laid_portcullis_portcullisref1_k256)] }
def DeriveSaltsSaid : Prop := deriveSaltsRow.holds Tryd.pinned (OpenSpec.ofChange deriveSaltsSpec)

/-- ITS FALSE NEIGHBOUR: 'it returns false'. Refute it at one input. -/
def deriveSaltsWrong : ChangeSpec := { name := "deriveSalts", fn := fun _ => fun
  | [d1, d2, d3] => { results := [.lit (.bool false)], args := [d1, d2, d3] }
  | _ => none }
def DeriveSaltsWrongFalsely : Prop := deriveSaltsRow.holds Tryd.pinned (OpenSpec.ofChange deriveSaltsWrong)

/-- 'portcullislaw15.MerkleRoots': WHATEVER THE INPUT: true; the input reads as it did. -/
def merkleRootsSpec : ChangeSpec := { name := "merkleRoots", fn := fun _ => fun
  | [d] => { results := [.lit (.bool true)], args := [d] }
  | _ => none }
def merkleRootsRow : OpenClaim := { program := "ytnnllficjljjkaadoor", sum := "a2aa3e8a82837030c8e9a2b198cacf6b179e7284d5e24a34dae1a4d93487b427", func := "portcullis/portcullislaw15.MerkleRoots", spec := "merkleRoots", recurses := true, named := ["portcullis/portcullisref1.k256"], apart := false, laid := [("portcullis/portcullisref1.k256", laid_portcullis_portcullisref1_k256)] }
def MerkleRootsSaid : Prop := merkleRootsRow.holds Tryd.pinned (OpenSpec.ofChange merkleRootsSpec)

/-- ITS FALSE NEIGHBOUR: 'it returns false'. Refute it at one input. -/
def merkleRootsWrong : ChangeSpec := { name := "merkleRoots", fn := fun _ => fun
  | [d] => { results := [.lit (.bool false)], args := [d] }
  | _ => none }
def MerkleRootsWrongFalsely : Prop := merkleRootsRow.holds Tryd.pinned (OpenSpec.ofChange merkleRootsWrong)

/-- 'portcullislaw15.MerkleChecks': WHATEVER THE INPUT: true; the input reads as it did. -/
def merkleChecksSpec : ChangeSpec := { name := "merkleChecks", fn := fun _ => fun
  | [d1, d2, d3, d4, d5] => { results := [.lit (.bool true)], args := [d1, d2, d3, d4, d5] }
  | _ => none }
def merkleChecksRow : OpenClaim := { program := "ytnnllficjljjkaadoor", sum := "a2aa3e8a82837030c8e9a2b198cacf6b179e7284d5e24a34dae1a4d93487b427", func := "portcullis/portcullislaw15.MerkleChecks", spec := "merkleChecks", recurses := true, named := ["portcullis/portcullisref1.k256"], apart := false, laid := [("portcullis/portcullisref1.k256", laid_portcullis_portcullisref1_k256)] }
def MerkleChecksSaid : Prop := merkleChecksRow.holds Tryd.pinned (OpenSpec.ofChange merkleChecksSpec)

/-- ITS FALSE NEIGHBOUR: 'it returns false'. Refute it at one input. -/
def merkleChecksWrong : ChangeSpec := { name := "merkleChecks", fn := fun _ => fun
  | [d1, d2, d3, d4, d5] => { results := [.lit (.bool false)], args := [d1, d2, d3, d4, d5] }
  | _ => none }
def MerkleChecksWrongFalsely : Prop := merkleChecksRow.holds Tryd.pinned (OpenSpec.ofChange merkleChecksWrong)

/-- 'portcullislaw15.MerkleTurned': WHATEVER THE INPUT: true; the input reads as it did. -/
def merkleTurnedSpec : ChangeSpec := { name := "merkleTurned", fn := fun _ => fun
  | [d1, d2, d3, d4, d5] => { results := [.lit (.bool true)], args := [d1, d2, d3, d4, d5] }
  | _ => none }
def merkleTurnedRow : OpenClaim := { program := "ytnnllficjljjkaadoor", sum := "a2aa3e8a82837030c8e9a2b198cacf6b179e7284d5e24a34dae1a4d93487b427", func := "portcullis/portcullislaw15.MerkleTurned", spec := "merkleTurned", recurses := true, named := ["portcullis/portcullisref1.k256"], apart := false, laid := [("portcullis/portcullisref1.k256", laid_portcullis_portcullisref1_k256)] }
def MerkleTurnedSaid : Prop := merkleTurnedRow.holds Tryd.pinned (OpenSpec.ofChange merkleTurnedSpec)

/-- ITS FALSE NEIGHBOUR: 'it returns false'. Refute it at one input. -/
def merkleTurnedWrong : ChangeSpec := { name := "merkleTurned", fn := fun _ => fun
  | [d1, d2, d3, d4, d5] => { results := [.lit (.bool false)], args := [d1, d2, d3, d4, d5] }
  | _ => none }
def MerkleTurnedWrongFalsely : Prop := merkleTurnedRow.holds Tryd.pinned (OpenSpec.ofChange merkleTurnedWrong)

/- THE SECOND FORM. 'bulk': how many values and letters a reading holds, each counted each time it is reached (what is shared counts as often as it is met; a slice's spare places count too). A statement '..UptoSaid' is the law's where the arguments, and the package variables that the reading takes, are together of bulk at most 1048576: NARROWER than '..Said'. Prove '..Said' where nothing that the law and all that it calls make is longer than what came in: it says more and counts as full. Else prove '..UptoSaid'. A law counts once. -/
mutual
def uptoBulk {H : Type} : DataW H → Nat
  | .lit (.string bytes) => bytes.length + 1
  | .lit _ => 1
  | .nil => 1
  | .ptr d => uptoBulk d + 1
  | .slice elems spare => uptoBulkAll elems + uptoBulkAll spare + 1
  | .agg parts => uptoBulkAll parts + 1
  | .iface _ d => uptoBulk d + 1
  | .map entries => uptoBulkEntries entries + 1
  | .held _ => 1
def uptoBulkAll {H : Type} : List (DataW H) → Nat
  | [] => 0
  | d :: r => uptoBulk d + uptoBulkAll r
def uptoBulkEntries {H : Type} : List (Lit × DataW H) → Nat
  | [] => 0
  | x :: r => uptoBulkEntry x + uptoBulkEntries r
def uptoBulkEntry {H : Type} : Lit × DataW H → Nat
  | (.string bytes, d) => bytes.length + uptoBulk d + 1
  | (_, d) => uptoBulk d + 1
 end
def uptoSmall : (H : Type) → List (DataW H) → Bool := fun _ ds => decide (uptoBulkAll ds ≤ 1048576)
def OpenSpec.upto (s : _root_.Go.ChangeSpec) : _root_.Go.OpenSpec := { _root_.Go.OpenSpec.ofChange s with cond := some uptoSmall }

/-- 'portcullislaw5.ShaSums', WHERE WHAT IT READS IS OF BULK AT MOST 1048576: true; the input reads as it did. -/
def shaSumsUptoRow : OpenClaim := { program := "ytnnllficjljjkaadoor", sum := "a2aa3e8a82837030c8e9a2b198cacf6b179e7284d5e24a34dae1a4d93487b427", func := "portcullis/portcullislaw5.ShaSums", spec := "shaSums", named := ["portcullis/portcullisref1.k256"], apart := false, laid := [("portcullis/portcullisref1.k256", laid_portcullis_portcullisref1_k256)], narrowed := true }
def ShaSumsUptoSaid : Prop := shaSumsUptoRow.holds Tryd.pinned (OpenSpec.upto shaSumsSpec)

/-- 'portcullislaw5.ShaLengths', WHERE WHAT IT READS IS OF BULK AT MOST 1048576: true; the input reads as it did. -/
def shaLengthsUptoRow : OpenClaim := { program := "ytnnllficjljjkaadoor", sum := "a2aa3e8a82837030c8e9a2b198cacf6b179e7284d5e24a34dae1a4d93487b427", func := "portcullis/portcullislaw5.ShaLengths", spec := "shaLengths", named := ["portcullis/portcullisref1.k256"], apart := false, laid := [("portcullis/portcullisref1.k256", laid_portcullis_portcullisref1_k256)], narrowed := true }
def ShaLengthsUptoSaid : Prop := shaLengthsUptoRow.holds Tryd.pinned (OpenSpec.upto shaLengthsSpec)

/-- 'portcullislaw5.ShaCuts', WHERE WHAT IT READS IS OF BULK AT MOST 1048576: true; the input reads as it did. -/
def shaCutsUptoRow : OpenClaim := { program := "ytnnllficjljjkaadoor", sum := "a2aa3e8a82837030c8e9a2b198cacf6b179e7284d5e24a34dae1a4d93487b427", func := "portcullis/portcullislaw5.ShaCuts", spec := "shaCuts", named := ["portcullis/portcullisref1.k256"], apart := false, laid := [("portcullis/portcullisref1.k256", laid_portcullis_portcullisref1_k256)], narrowed := true }
def ShaCutsUptoSaid : Prop := shaCutsUptoRow.holds Tryd.pinned (OpenSpec.upto shaCutsSpec)

/-- 'portcullislaw5.ShaTurned', WHERE WHAT IT READS IS OF BULK AT MOST 1048576: true; the input reads as it did. -/
def shaTurnedUptoRow : OpenClaim := { program := "ytnnllficjljjkaadoor", sum := "a2aa3e8a82837030c8e9a2b198cacf6b179e7284d5e24a34dae1a4d93487b427", func := "portcullis/portcullislaw5.ShaTurned", spec := "shaTurned", named := ["portcullis/portcullisref1.k256"], apart := false, laid := [("portcullis/portcullisref1.k256", laid_portcullis_portcullisref1_k256)], narrowed := true }
def ShaTurnedUptoSaid : Prop := shaTurnedUptoRow.holds Tryd.pinned (OpenSpec.upto shaTurnedSpec)

/-- 'portcullislaw24.MeasureFolds', WHERE WHAT IT READS IS OF BULK AT MOST 1048576: true; the input reads as it did. -/
def measureFoldsUptoRow : OpenClaim := { program := "ytnnllficjljjkaadoor", sum := "a2aa3e8a82837030c8e9a2b198cacf6b179e7284d5e24a34dae1a4d93487b427", func := "portcullis/portcullislaw24.MeasureFolds", spec := "measureFolds", named := ["portcullis/portcullisref1.k256"], apart := false, laid := [("portcullis/portcullisref1.k256", laid_portcullis_portcullisref1_k256)], narrowed := true }
def MeasureFoldsUptoSaid : Prop := measureFoldsUptoRow.holds Tryd.pinned (OpenSpec.upto measureFoldsSpec)

/-- 'portcullislaw24.MeasureGoes', WHERE WHAT IT READS IS OF BULK AT MOST 1048576: true; the input reads as it did. -/
def measureGoesUptoRow : OpenClaim := { program := "ytnnllficjljjkaadoor", sum := "a2aa3e8a82837030c8e9a2b198cacf6b179e7284d5e24a34dae1a4d93487b427", func := "portcullis/portcullislaw24.MeasureGoes", spec := "measureGoes", named := ["portcullis/portcullisref1.k256"], apart := false, laid := [("portcullis/portcullisref1.k256", laid_portcullis_portcullisref1_k256)], narrowed := true }
def MeasureGoesUptoSaid : Prop := measureGoesUptoRow.holds Tryd.pinned (OpenSpec.upto measureGoesSpec)

/-- 'portcullislaw24.MeasureOrders', WHERE WHAT IT READS IS OF BULK AT MOST 1048576: true; the input reads as it did. -/
def measureOrdersUptoRow : OpenClaim := { program := "ytnnllficjljjkaadoor", sum := "a2aa3e8a82837030c8e9a2b198cacf6b179e7284d5e24a34dae1a4d93487b427", func := "portcullis/portcullislaw24.MeasureOrders", spec := "measureOrders", named := ["portcullis/portcullisref1.k256"], apart := false, laid := [("portcullis/portcullisref1.k256", laid_portcullis_portcullisref1_k256)], narrowed := true }
def MeasureOrdersUptoSaid : Prop := measureOrdersUptoRow.holds Tryd.pinned (OpenSpec.upto measureOrdersSpec)

/-- 'portcullislaw7.MacSums', WHERE WHAT IT READS IS OF BULK AT MOST 1048576: true; the input reads as it did. -/
def macSumsUptoRow : OpenClaim := { program := "ytnnllficjljjkaadoor", sum := "a2aa3e8a82837030c8e9a2b198cacf6b179e7284d5e24a34dae1a4d93487b427", func := "portcullis/portcullislaw7.MacSums", spec := "macSums", named := ["portcullis/portcullisref1.k256"], apart := false, laid := [("portcullis/portcullisref1.k256", laid_portcullis_portcullisref1_k256)], narrowed := true }
def MacSumsUptoSaid : Prop := macSumsUptoRow.holds Tryd.pinned (OpenSpec.upto macSumsSpec)

/-- 'portcullislaw7.MacKeys', WHERE WHAT IT READS IS OF BULK AT MOST 1048576: true; the input reads as it did. -/
def macKeysUptoRow : OpenClaim := { program := "ytnnllficjljjkaadoor", sum := "a2aa3e8a82837030c8e9a2b198cacf6b179e7284d5e24a34dae1a4d93487b427", func := "portcullis/portcullislaw7.MacKeys", spec := "macKeys", named := ["portcullis/portcullisref1.k256"], apart := false, laid := [("portcullis/portcullisref1.k256", laid_portcullis_portcullisref1_k256)], narrowed := true }
def MacKeysUptoSaid : Prop := macKeysUptoRow.holds Tryd.pinned (OpenSpec.upto macKeysSpec)

/-- 'portcullislaw8.DeriveKeys', WHERE WHAT IT READS IS OF BULK AT MOST 1048576: true; the input reads as it did. -/
def deriveKeysUptoRow : OpenClaim := { program := "ytnnllficjljjkaadoor", sum := "a2aa3e8a82837030c8e9a2b198cacf6b179e7284d5e24a34dae1a4d93487b427", func := "portcullis/portcullislaw8.DeriveKeys", spec := "deriveKeys", named := ["portcullis/portcullisref1.k256"], apart := false, laid := [("portcullis/portcullisref1.k256", laid_portcullis_portcullisref1_k256)], narrowed := true }
def DeriveKeysUptoSaid : Prop := deriveKeysUptoRow.holds Tryd.pinned (OpenSpec.upto deriveKeysSpec)

/-- 'portcullislaw8.DeriveBegins', WHERE WHAT IT READS IS OF BULK AT MOST 1048576: true; the input reads as it did. -/
def deriveBeginsUptoRow : OpenClaim := { program := "ytnnllficjljjkaadoor", sum := "a2aa3e8a82837030c8e9a2b198cacf6b179e7284d5e24a34dae1a4d93487b427", func := "portcullis/portcullislaw8.DeriveBegins", spec := "deriveBegins", named := ["portcullis/portcullisref1.k256"], apart := false, laid := [("portcullis/portcullisref1.k256", laid_portcullis_portcullisref1_k256)], narrowed := true }
def DeriveBeginsUptoSaid : Prop := deriveBeginsUptoRow.holds Tryd.pinned (OpenSpec.upto deriveBeginsSpec)

/-- 'portcullislaw8.DeriveMade', WHERE WHAT IT READS IS OF BULK AT MOST 1048576: true; the input reads as it did. -/
def deriveMadeUptoRow : OpenClaim := { program := "ytnnllficjljjkaadoor", sum := "a2aa3e8a82837030c8e9a2b198cacf6b179e7284d5e24a34dae1a4d93487b427", func := "portcullis/portcullislaw8.DeriveMade", spec := "deriveMade", named := ["portcullis/portcullisref1.k256"], apart := false, laid := [("portcullis/portcullisref1.k256", laid_portcullis_portcullisref1_k256)], narrowed := true }
def DeriveMadeUptoSaid : Prop := deriveMadeUptoRow.holds Tryd.pinned (OpenSpec.upto deriveMadeSpec)

/-- 'portcullislaw8.DeriveMost', WHERE WHAT IT READS IS OF BULK AT MOST 1048576: true; the input reads as it did. -/
def deriveMostUptoRow : OpenClaim := { program := "ytnnllficjljjkaadoor", sum := "a2aa3e8a82837030c8e9a2b198cacf6b179e7284d5e24a34dae1a4d93487b427", func := "portcullis/portcullislaw8.DeriveMost", spec := "deriveMost", named := ["portcullis/portcullisref1.k256"], apart := false, laid := [("portcullis/portcullisref1.k256", laid_portcullis_portcullisref1_k256)], narrowed := true }
def DeriveMostUptoSaid : Prop := deriveMostUptoRow.holds Tryd.pinned (OpenSpec.upto deriveMostSpec)

/-- 'portcullislaw8.DeriveExpands', WHERE WHAT IT READS IS OF BULK AT MOST 1048576: true; the input reads as it did. -/
def deriveExpandsUptoRow : OpenClaim := { program := "ytnnllficjljjkaadoor", sum := "a2aa3e8a82837030c8e9a2b198cacf6b179e7284d5e24a34dae1a4d93487b427", func := "portcullis/portcullislaw8.DeriveExpands", spec := "deriveExpands", named := ["portcullis/portcullisref1.k256"], apart := false, laid := [("portcullis/portcullisref1.k256", laid_portcullis_portcullisref1_k256)], narrowed := true }
def DeriveExpandsUptoSaid : Prop := deriveExpandsUptoRow.holds Tryd.pinned (OpenSpec.upto deriveExpandsSpec)

/-- 'portcullislaw8.DeriveSalts', WHERE WHAT IT READS IS OF BULK AT MOST 1048576: true; the input reads as it did. -/
def deriveSaltsUptoRow : OpenClaim := { program := "ytnnllficjljjkaadoor", sum := "a2aa3e8a82837030c8e9a2b198cacf6b179e7284d5e24a34dae1a4d93487b427", func := "portcullis/portcullislaw8.DeriveSalts", spec := "deriveSalts", named := ["portcullis/portcullisref1.k256"], apart := false, laid := [("portcullis/portcullisref1.k256", laid_portcullis_portcullisref1_k256)], narrowed := true }
def DeriveSaltsUptoSaid : Prop := deriveSaltsUptoRow.holds Tryd.pinned (OpenSpec.upto deriveSaltsSpec)

/-- 'portcullislaw15.MerkleRoots', WHERE WHAT IT READS IS OF BULK AT MOST 1048576: true; the input reads as it did. -/
def merkleRootsUptoRow : OpenClaim := { program := "ytnnllficjljjkaadoor", sum := "a2aa3e8a82837030c8e9a2b198cacf6b179e7284d5e24a34dae1a4d93487b427", func := "portcullis/portcullislaw15.MerkleRoots", spec := "merkleRoots", recurses := true, named := ["portcullis/portcullisref1.k256"], apart := false, laid := [("portcullis/portcullisref1.k256", laid_portcullis_portcullisref1_k256)], narrowed := true }
def MerkleRootsUptoSaid : Prop := merkleRootsUptoRow.holds Tryd.pinned (OpenSpec.upto merkleRootsSpec)

/-- 'portcullislaw15.MerkleChecks', WHERE WHAT IT READS IS OF BULK AT MOST 1048576: true; the input reads as it did. -/
def merkleChecksUptoRow : OpenClaim := { program := "ytnnllficjljjkaadoor", sum := "a2aa3e8a82837030c8e9a2b198cacf6b179e7284d5e24a34dae1a4d93487b427", func := "portcullis/portcullislaw15.MerkleChecks", spec := "merkleChecks", recurses := true, named := ["portcullis/portcullisref1.k256"], apart := false, laid := [("portcullis/portcullisref1.k256", laid_portcullis_portcullisref1_k256)], narrowed := true }
def MerkleChecksUptoSaid : Prop := merkleChecksUptoRow.holds Tryd.pinned (OpenSpec.upto merkleChecksSpec)

/-- 'portcullislaw15.MerkleTurned', WHERE WHAT IT READS IS OF BULK AT MOST 1048576: true; the input reads as it did. -/
def merkleTurnedUptoRow : OpenClaim := { program := "ytnnllficjljjkaadoor", sum := "a2aa3e8a82837030c8e9a2b198cacf6b179e7284d5e24a34dae1a4d93487b427", func := "portcullis/portcullislaw15.MerkleTurned", spec := "merkleTurned", recurses := true, named := ["portcullis/portcullisref1.k256"], apart := false, laid := [("portcullis/portcullisref1.k256", laid_portcullis_portcullisref1_k256)], narrowed := true }
def MerkleTurnedUptoSaid : Prop := merkleTurnedUptoRow.holds Tryd.pinned (OpenSpec.upto merkleTurnedSpec)

end Rows
end Go.Proofs.YtnnllficjljjkaaDoor
