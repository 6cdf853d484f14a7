/-
  No cell of these rows narrows 'for every input' (looked for: loops, veiled, ifaces, maps, wideKeys, modest, calm, conditions, laid).
  DERIVED. THE GIVEN ROWS OF THIS SEAT. 12 by the template 'for every input the law returns true; each argument reads behind the call as it read before'; 0 by the template 'total and deterministic' (their statements: YgcfagTotals.lean).
  GIVEN WITH THE SEED: the statements are not yours to turn. If you find one false, say at which input.
  Laid BY PROGRAM, IN A SANDBOX (cutbox-rows.mjs): the forced cells as the released guide's own fill.sh prints them over the translation 87a209d3ef4ca862… (all of the seat's roots in one cut). By AI agents, Wed Nov 11 2026. No macro, syntax, notation, axiom, sorry.
-/
import Derived.Test.YgcfagChecked
import GoSem.Claim
import GoSem.ClaimJoined
import GoSem.ClaimMapViews
import Derived.JoinedTies
import Derived.KernelRfl
namespace Go.Proofs.Ygcfag
/- THE CELL 'sum', in the pinned program and in every row, IS THE sha256 OF THE DUMP (.gsa) THAT YgcfagProg.lean LOADS. Nothing in Lean hashes anything: it is a label: what it is worth is what the hold of that sum in a sandbox is worth. -/
noncomputable def Fagg.pinned : Pinned := { name := "ygcfag", sum := "87a209d3ef4ca862bf2303d3402d0c947c7cbfc8b5b16f618d9eba8ce3fa3d94", checked := Fagg.checked }
namespace Rows
def none {H : Type} : Left H := { results := [], args := [] }

/-- 'law.SchemaTotal': WHATEVER THE INPUT: true; the input reads as it did. -/
def schemaTotalSpec : ChangeSpec := { name := "schemaTotal", fn := fun _ => fun
  | [d] => { results := [.lit (.bool true)], args := [d] }
  | _ => none }
def schemaTotalRow : OpenClaim := { program := "ygcfag", sum := "87a209d3ef4ca862bf2303d3402d0c947c7cbfc8b5b16f618d9eba8ce3fa3d94", func := "wordview/law.SchemaTotal", spec := "schemaTotal", apart := false }
def SchemaTotalSaid : Prop := schemaTotalRow.holds Fagg.pinned (OpenSpec.ofChange schemaTotalSpec)

/-- ITS FALSE NEIGHBOUR: 'it returns false'. Refute it at one input. -/
def schemaTotalWrong : ChangeSpec := { name := "schemaTotal", fn := fun _ => fun
  | [d] => { results := [.lit (.bool false)], args := [d] }
  | _ => none }
def SchemaTotalWrongFalsely : Prop := schemaTotalRow.holds Fagg.pinned (OpenSpec.ofChange schemaTotalWrong)

/-- 'law.SchemaLoose': WHATEVER THE INPUT: true; the input reads as it did. -/
def schemaLooseSpec : ChangeSpec := { name := "schemaLoose", fn := fun _ => fun
  | [d1, d2] => { results := [.lit (.bool true)], args := [d1, d2] }
  | _ => none }
def schemaLooseRow : OpenClaim := { program := "ygcfag", sum := "87a209d3ef4ca862bf2303d3402d0c947c7cbfc8b5b16f618d9eba8ce3fa3d94", func := "wordview/law.SchemaLoose", spec := "schemaLoose", apart := false }
def SchemaLooseSaid : Prop := schemaLooseRow.holds Fagg.pinned (OpenSpec.ofChange schemaLooseSpec)

/-- ITS FALSE NEIGHBOUR: 'it returns false'. Refute it at one input. -/
def schemaLooseWrong : ChangeSpec := { name := "schemaLoose", fn := fun _ => fun
  | [d1, d2] => { results := [.lit (.bool false)], args := [d1, d2] }
  | _ => none }
def SchemaLooseWrongFalsely : Prop := schemaLooseRow.holds Fagg.pinned (OpenSpec.ofChange schemaLooseWrong)

/-- 'law.Upgrade': WHATEVER THE INPUT: true; the input reads as it did. -/
def upgradeSpec : ChangeSpec := { name := "upgrade", fn := fun _ => fun
  | [d1, d2, d3] => { results := [.lit (.bool true)], args := [d1, d2, d3] }
  | _ => none }
def upgradeRow : OpenClaim := { program := "ygcfag", sum := "87a209d3ef4ca862bf2303d3402d0c947c7cbfc8b5b16f618d9eba8ce3fa3d94", func := "wordview/law.Upgrade", spec := "upgrade", apart := false }
def UpgradeSaid : Prop := upgradeRow.holds Fagg.pinned (OpenSpec.ofChange upgradeSpec)

/-- ITS FALSE NEIGHBOUR: 'it returns false'. Refute it at one input. -/
def upgradeWrong : ChangeSpec := { name := "upgrade", fn := fun _ => fun
  | [d1, d2, d3] => { results := [.lit (.bool false)], args := [d1, d2, d3] }
  | _ => none }
def UpgradeWrongFalsely : Prop := upgradeRow.holds Fagg.pinned (OpenSpec.ofChange upgradeWrong)

/-- 'law.FarBits': WHATEVER THE INPUT: true; the input reads as it did. -/
def farBitsSpec : ChangeSpec := { name := "farBits", fn := fun _ => fun
  | [d1, d2, d3] => { results := [.lit (.bool true)], args := [d1, d2, d3] }
  | _ => none }
def farBitsRow : OpenClaim := { program := "ygcfag", sum := "87a209d3ef4ca862bf2303d3402d0c947c7cbfc8b5b16f618d9eba8ce3fa3d94", func := "wordview/law.FarBits", spec := "farBits", apart := false }
def FarBitsSaid : Prop := farBitsRow.holds Fagg.pinned (OpenSpec.ofChange farBitsSpec)

/-- ITS FALSE NEIGHBOUR: 'it returns false'. Refute it at one input. -/
def farBitsWrong : ChangeSpec := { name := "farBits", fn := fun _ => fun
  | [d1, d2, d3] => { results := [.lit (.bool false)], args := [d1, d2, d3] }
  | _ => none }
def FarBitsWrongFalsely : Prop := farBitsRow.holds Fagg.pinned (OpenSpec.ofChange farBitsWrong)

/-- 'law.SegMeans': WHATEVER THE INPUT: true; the input reads as it did. -/
def segMeansSpec : ChangeSpec := { name := "segMeans", fn := fun _ => fun
  | [d] => { results := [.lit (.bool true)], args := [d] }
  | _ => none }
def segMeansRow : OpenClaim := { program := "ygcfag", sum := "87a209d3ef4ca862bf2303d3402d0c947c7cbfc8b5b16f618d9eba8ce3fa3d94", func := "wordview/law.SegMeans", spec := "segMeans", recurses := true, apart := false }
def SegMeansSaid : Prop := segMeansRow.holds Fagg.pinned (OpenSpec.ofChange segMeansSpec)

/-- ITS FALSE NEIGHBOUR: 'it returns false'. Refute it at one input. -/
def segMeansWrong : ChangeSpec := { name := "segMeans", fn := fun _ => fun
  | [d] => { results := [.lit (.bool false)], args := [d] }
  | _ => none }
def SegMeansWrongFalsely : Prop := segMeansRow.holds Fagg.pinned (OpenSpec.ofChange segMeansWrong)

/-- 'law.SegDecode': WHATEVER THE INPUT: true; the input reads as it did. -/
def segDecodeSpec : ChangeSpec := { name := "segDecode", fn := fun _ => fun
  | [d] => { results := [.lit (.bool true)], args := [d] }
  | _ => none }
def segDecodeRow : OpenClaim := { program := "ygcfag", sum := "87a209d3ef4ca862bf2303d3402d0c947c7cbfc8b5b16f618d9eba8ce3fa3d94", func := "wordview/law.SegDecode", spec := "segDecode", apart := false }
def SegDecodeSaid : Prop := segDecodeRow.holds Fagg.pinned (OpenSpec.ofChange segDecodeSpec)

/-- ITS FALSE NEIGHBOUR: 'it returns false'. Refute it at one input. -/
def segDecodeWrong : ChangeSpec := { name := "segDecode", fn := fun _ => fun
  | [d] => { results := [.lit (.bool false)], args := [d] }
  | _ => none }
def SegDecodeWrongFalsely : Prop := segDecodeRow.holds Fagg.pinned (OpenSpec.ofChange segDecodeWrong)

/-- 'law.SegBack': WHATEVER THE INPUT: true; the input reads as it did. -/
def segBackSpec : ChangeSpec := { name := "segBack", fn := fun _ => fun
  | [d1, d2] => { results := [.lit (.bool true)], args := [d1, d2] }
  | _ => none }
def segBackRow : OpenClaim := { program := "ygcfag", sum := "87a209d3ef4ca862bf2303d3402d0c947c7cbfc8b5b16f618d9eba8ce3fa3d94", func := "wordview/law.SegBack", spec := "segBack", recurses := true, apart := false }
def SegBackSaid : Prop := segBackRow.holds Fagg.pinned (OpenSpec.ofChange segBackSpec)

/-- ITS FALSE NEIGHBOUR: 'it returns false'. Refute it at one input. -/
def segBackWrong : ChangeSpec := { name := "segBack", fn := fun _ => fun
  | [d1, d2] => { results := [.lit (.bool false)], args := [d1, d2] }
  | _ => none }
def SegBackWrongFalsely : Prop := segBackRow.holds Fagg.pinned (OpenSpec.ofChange segBackWrong)

/-- 'law.SegOne': WHATEVER THE INPUT: true; the input reads as it did. -/
def segOneSpec : ChangeSpec := { name := "segOne", fn := fun _ => fun
  | [d] => { results := [.lit (.bool true)], args := [d] }
  | _ => none }
def segOneRow : OpenClaim := { program := "ygcfag", sum := "87a209d3ef4ca862bf2303d3402d0c947c7cbfc8b5b16f618d9eba8ce3fa3d94", func := "wordview/law.SegOne", spec := "segOne", apart := false }
def SegOneSaid : Prop := segOneRow.holds Fagg.pinned (OpenSpec.ofChange segOneSpec)

/-- ITS FALSE NEIGHBOUR: 'it returns false'. Refute it at one input. -/
def segOneWrong : ChangeSpec := { name := "segOne", fn := fun _ => fun
  | [d] => { results := [.lit (.bool false)], args := [d] }
  | _ => none }
def SegOneWrongFalsely : Prop := segOneRow.holds Fagg.pinned (OpenSpec.ofChange segOneWrong)

/-- 'law.SegReads': WHATEVER THE INPUT: true; the input reads as it did. -/
def segReadsSpec : ChangeSpec := { name := "segReads", fn := fun _ => fun
  | [d1, d2, d3, d4, d5] => { results := [.lit (.bool true)], args := [d1, d2, d3, d4, d5] }
  | _ => none }
def segReadsRow : OpenClaim := { program := "ygcfag", sum := "87a209d3ef4ca862bf2303d3402d0c947c7cbfc8b5b16f618d9eba8ce3fa3d94", func := "wordview/law.SegReads", spec := "segReads", apart := false }
def SegReadsSaid : Prop := segReadsRow.holds Fagg.pinned (OpenSpec.ofChange segReadsSpec)

/-- ITS FALSE NEIGHBOUR: 'it returns false'. Refute it at one input. -/
def segReadsWrong : ChangeSpec := { name := "segReads", fn := fun _ => fun
  | [d1, d2, d3, d4, d5] => { results := [.lit (.bool false)], args := [d1, d2, d3, d4, d5] }
  | _ => none }
def SegReadsWrongFalsely : Prop := segReadsRow.holds Fagg.pinned (OpenSpec.ofChange segReadsWrong)

/-- 'law.SegFrameBack': WHATEVER THE INPUT: true; the input reads as it did. -/
def segFrameBackSpec : ChangeSpec := { name := "segFrameBack", fn := fun _ => fun
  | [d1, d2] => { results := [.lit (.bool true)], args := [d1, d2] }
  | _ => none }
def segFrameBackRow : OpenClaim := { program := "ygcfag", sum := "87a209d3ef4ca862bf2303d3402d0c947c7cbfc8b5b16f618d9eba8ce3fa3d94", func := "wordview/law.SegFrameBack", spec := "segFrameBack", apart := false }
def SegFrameBackSaid : Prop := segFrameBackRow.holds Fagg.pinned (OpenSpec.ofChange segFrameBackSpec)

/-- ITS FALSE NEIGHBOUR: 'it returns false'. Refute it at one input. -/
def segFrameBackWrong : ChangeSpec := { name := "segFrameBack", fn := fun _ => fun
  | [d1, d2] => { results := [.lit (.bool false)], args := [d1, d2] }
  | _ => none }
def SegFrameBackWrongFalsely : Prop := segFrameBackRow.holds Fagg.pinned (OpenSpec.ofChange segFrameBackWrong)

/-- 'law.SegFrameCodes': WHATEVER THE INPUT: true; the input reads as it did. -/
def segFrameCodesSpec : ChangeSpec := { name := "segFrameCodes", fn := fun _ => fun
  | [d] => { results := [.lit (.bool true)], args := [d] }
  | _ => none }
def segFrameCodesRow : OpenClaim := { program := "ygcfag", sum := "87a209d3ef4ca862bf2303d3402d0c947c7cbfc8b5b16f618d9eba8ce3fa3d94", func := "wordview/law.SegFrameCodes", spec := "segFrameCodes", apart := false }
def SegFrameCodesSaid : Prop := segFrameCodesRow.holds Fagg.pinned (OpenSpec.ofChange segFrameCodesSpec)

/-- ITS FALSE NEIGHBOUR: 'it returns false'. Refute it at one input. -/
def segFrameCodesWrong : ChangeSpec := { name := "segFrameCodes", fn := fun _ => fun
  | [d] => { results := [.lit (.bool false)], args := [d] }
  | _ => none }
def SegFrameCodesWrongFalsely : Prop := segFrameCodesRow.holds Fagg.pinned (OpenSpec.ofChange segFrameCodesWrong)

/-- 'law.SegFrameFlip': WHATEVER THE INPUT: true; the input reads as it did. -/
def segFrameFlipSpec : ChangeSpec := { name := "segFrameFlip", fn := fun _ => fun
  | [d1, d2, d3, d4] => { results := [.lit (.bool true)], args := [d1, d2, d3, d4] }
  | _ => none }
def segFrameFlipRow : OpenClaim := { program := "ygcfag", sum := "87a209d3ef4ca862bf2303d3402d0c947c7cbfc8b5b16f618d9eba8ce3fa3d94", func := "wordview/law.SegFrameFlip", spec := "segFrameFlip", apart := false }
def SegFrameFlipSaid : Prop := segFrameFlipRow.holds Fagg.pinned (OpenSpec.ofChange segFrameFlipSpec)

/-- ITS FALSE NEIGHBOUR: 'it returns false'. Refute it at one input. -/
def segFrameFlipWrong : ChangeSpec := { name := "segFrameFlip", fn := fun _ => fun
  | [d1, d2, d3, d4] => { results := [.lit (.bool false)], args := [d1, d2, d3, d4] }
  | _ => none }
def SegFrameFlipWrongFalsely : Prop := segFrameFlipRow.holds Fagg.pinned (OpenSpec.ofChange segFrameFlipWrong)

end Rows
end Go.Proofs.Ygcfag
