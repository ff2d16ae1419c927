/-
  No cell of these rows narrows 'for every input' (looked for: loops, veiled, ifaces, maps, wideKeys, modest, calm, conditions, laid).
  DERIVED. THE GIVEN ROWS OF THIS SEAT. 6 by the template 'for every input the law returns true; each argument reads behind the call as it read before'; 0 by the template 'total and deterministic' (their statements: YtajdfbgbkgabjaaTotals.lean).
  GIVEN WITH THE SEED: the statements are not yours to turn. If you find one false, say at which input.
  Laid BY PROGRAM, IN A SANDBOX (cutbox-rows.mjs): the forced cells as the released guide's own fill.sh prints them over the translation 4de62b6d02f2ffa4… (all of the seat's roots in one cut). By AI agents, Wed Nov 11 2026. No macro, syntax, notation, axiom, sorry.
-/
import Derived.Test.YtajdfbgbkgabjaaChecked
import GoSem.Claim
import GoSem.ClaimJoined
import GoSem.ClaimMapViews
import Derived.JoinedTies
import Derived.KernelRfl
namespace Go.Proofs.Ytajdfbgbkgabjaa
/- THE CELL 'sum', in the pinned program and in every row, IS THE sha256 OF THE DUMP (.gsa) THAT YtajdfbgbkgabjaaProg.lean LOADS. Nothing in Lean hashes anything: it is a label: what it is worth is what the hold of that sum in a sandbox is worth. -/
noncomputable def Try.pinned : Pinned := { name := "ytajdfbgbkgabjaa", sum := "4de62b6d02f2ffa4732d9ca6001b120e51cf7645f7c3663e0ad8007c324b04ba", checked := Try.checked }
namespace Rows
def none {H : Type} : Left H := { results := [], args := [] }

/-- 'laws.FnExactReadModel': WHATEVER THE INPUT: true; the input reads as it did. -/
def fnExactReadModelSpec : ChangeSpec := { name := "fnExactReadModel", fn := fun _ => fun
  | [d] => { results := [.lit (.bool true)], args := [d] }
  | _ => none }
def fnExactReadModelRow : OpenClaim := { program := "ytajdfbgbkgabjaa", sum := "4de62b6d02f2ffa4732d9ca6001b120e51cf7645f7c3663e0ad8007c324b04ba", func := "loop.example/g00262/laws.FnExactReadModel", spec := "fnExactReadModel", inPlace := ["internal/bytealg.IndexByteString", "internal/bytealg.IndexString"], recurses := true, named := ["internal/bytealg.MaxLen"], apart := false }
def FnExactReadModelSaid : Prop := fnExactReadModelRow.holds Try.pinned (OpenSpec.ofChange fnExactReadModelSpec)

/-- ITS FALSE NEIGHBOUR: 'it returns false'. Refute it at one input. -/
def fnExactReadModelWrong : ChangeSpec := { name := "fnExactReadModel", fn := fun _ => fun
  | [d] => { results := [.lit (.bool false)], args := [d] }
  | _ => none }
def FnExactReadModelWrongFalsely : Prop := fnExactReadModelRow.holds Try.pinned (OpenSpec.ofChange fnExactReadModelWrong)

/-- 'laws.FnAttributed': WHATEVER THE INPUT: true; the input reads as it did. -/
def fnAttributedSpec : ChangeSpec := { name := "fnAttributed", fn := fun _ => fun
  | [d] => { results := [.lit (.bool true)], args := [d] }
  | _ => none }
def fnAttributedRow : OpenClaim := { program := "ytajdfbgbkgabjaa", sum := "4de62b6d02f2ffa4732d9ca6001b120e51cf7645f7c3663e0ad8007c324b04ba", func := "loop.example/g00262/laws.FnAttributed", spec := "fnAttributed", recurses := true, apart := false }
def FnAttributedSaid : Prop := fnAttributedRow.holds Try.pinned (OpenSpec.ofChange fnAttributedSpec)

/-- ITS FALSE NEIGHBOUR: 'it returns false'. Refute it at one input. -/
def fnAttributedWrong : ChangeSpec := { name := "fnAttributed", fn := fun _ => fun
  | [d] => { results := [.lit (.bool false)], args := [d] }
  | _ => none }
def FnAttributedWrongFalsely : Prop := fnAttributedRow.holds Try.pinned (OpenSpec.ofChange fnAttributedWrong)

/-- 'laws.FnModelTexts': WHATEVER THE INPUT: true; the input reads as it did. -/
def fnModelTextsSpec : ChangeSpec := { name := "fnModelTexts", fn := fun _ => fun
  | [d] => { results := [.lit (.bool true)], args := [d] }
  | _ => none }
def fnModelTextsRow : OpenClaim := { program := "ytajdfbgbkgabjaa", sum := "4de62b6d02f2ffa4732d9ca6001b120e51cf7645f7c3663e0ad8007c324b04ba", func := "loop.example/g00262/laws.FnModelTexts", spec := "fnModelTexts", inPlace := ["internal/abi.NoEscape", "internal/bytealg.MakeNoZero", "internal/bytealg.IndexByteString", "internal/bytealg.IndexString"], recurses := true, named := ["internal/bytealg.MaxLen"], apart := false }
def FnModelTextsSaid : Prop := fnModelTextsRow.holds Try.pinned (OpenSpec.ofChange fnModelTextsSpec)

/-- ITS FALSE NEIGHBOUR: 'it returns false'. Refute it at one input. -/
def fnModelTextsWrong : ChangeSpec := { name := "fnModelTexts", fn := fun _ => fun
  | [d] => { results := [.lit (.bool false)], args := [d] }
  | _ => none }
def FnModelTextsWrongFalsely : Prop := fnModelTextsRow.holds Try.pinned (OpenSpec.ofChange fnModelTextsWrong)

/-- 'laws.FnTurned': WHATEVER THE INPUT: true; the input reads as it did. -/
def fnTurnedSpec : ChangeSpec := { name := "fnTurned", fn := fun _ => fun
  | [d] => { results := [.lit (.bool true)], args := [d] }
  | _ => none }
def fnTurnedRow : OpenClaim := { program := "ytajdfbgbkgabjaa", sum := "4de62b6d02f2ffa4732d9ca6001b120e51cf7645f7c3663e0ad8007c324b04ba", func := "loop.example/g00262/laws.FnTurned", spec := "fnTurned", recurses := true, apart := false }
def FnTurnedSaid : Prop := fnTurnedRow.holds Try.pinned (OpenSpec.ofChange fnTurnedSpec)

/-- ITS FALSE NEIGHBOUR: 'it returns false'. Refute it at one input. -/
def fnTurnedWrong : ChangeSpec := { name := "fnTurned", fn := fun _ => fun
  | [d] => { results := [.lit (.bool false)], args := [d] }
  | _ => none }
def FnTurnedWrongFalsely : Prop := fnTurnedRow.holds Try.pinned (OpenSpec.ofChange fnTurnedWrong)

/-- 'laws.FnSample': WHATEVER THE INPUT: true; the input reads as it did. -/
def fnSampleSpec : ChangeSpec := { name := "fnSample", fn := fun _ => fun
  | [d] => { results := [.lit (.bool true)], args := [d] }
  | _ => none }
def fnSampleRow : OpenClaim := { program := "ytajdfbgbkgabjaa", sum := "4de62b6d02f2ffa4732d9ca6001b120e51cf7645f7c3663e0ad8007c324b04ba", func := "loop.example/g00262/laws.FnSample", spec := "fnSample", recurses := true, apart := false }
def FnSampleSaid : Prop := fnSampleRow.holds Try.pinned (OpenSpec.ofChange fnSampleSpec)

/-- ITS FALSE NEIGHBOUR: 'it returns false'. Refute it at one input. -/
def fnSampleWrong : ChangeSpec := { name := "fnSample", fn := fun _ => fun
  | [d] => { results := [.lit (.bool false)], args := [d] }
  | _ => none }
def FnSampleWrongFalsely : Prop := fnSampleRow.holds Try.pinned (OpenSpec.ofChange fnSampleWrong)

/-- 'laws.FnPositions': WHATEVER THE INPUT: true; the input reads as it did. -/
def fnPositionsSpec : ChangeSpec := { name := "fnPositions", fn := fun _ => fun
  | [d] => { results := [.lit (.bool true)], args := [d] }
  | _ => none }
def fnPositionsRow : OpenClaim := { program := "ytajdfbgbkgabjaa", sum := "4de62b6d02f2ffa4732d9ca6001b120e51cf7645f7c3663e0ad8007c324b04ba", func := "loop.example/g00262/laws.FnPositions", spec := "fnPositions", recurses := true, apart := false }
def FnPositionsSaid : Prop := fnPositionsRow.holds Try.pinned (OpenSpec.ofChange fnPositionsSpec)

/-- ITS FALSE NEIGHBOUR: 'it returns false'. Refute it at one input. -/
def fnPositionsWrong : ChangeSpec := { name := "fnPositions", fn := fun _ => fun
  | [d] => { results := [.lit (.bool false)], args := [d] }
  | _ => none }
def FnPositionsWrongFalsely : Prop := fnPositionsRow.holds Try.pinned (OpenSpec.ofChange fnPositionsWrong)

/- THE SECOND FORM. 'bulk': how many values and letters a reading holds, each counted each time it is reached (what is shared counts as often as it is met; a slice's spare places count too). A statement '..UptoSaid' is the law's where the arguments, and the package variables that the reading takes, are together of bulk at most 1048576: NARROWER than '..Said'. Prove '..Said' where nothing that the law and all that it calls make is longer than what came in: it says more and counts as full. Else prove '..UptoSaid'. A law counts once. -/
mutual
def uptoBulk {H : Type} : DataW H → Nat
  | .lit (.string bytes) => bytes.length + 1
  | .lit _ => 1
  | .nil => 1
  | .ptr d => uptoBulk d + 1
  | .slice elems spare => uptoBulkAll elems + uptoBulkAll spare + 1
  | .agg parts => uptoBulkAll parts + 1
  | .iface _ d => uptoBulk d + 1
  | .map entries => uptoBulkEntries entries + 1
  | .held _ => 1
def uptoBulkAll {H : Type} : List (DataW H) → Nat
  | [] => 0
  | d :: r => uptoBulk d + uptoBulkAll r
def uptoBulkEntries {H : Type} : List (Lit × DataW H) → Nat
  | [] => 0
  | x :: r => uptoBulkEntry x + uptoBulkEntries r
def uptoBulkEntry {H : Type} : Lit × DataW H → Nat
  | (.string bytes, d) => bytes.length + uptoBulk d + 1
  | (_, d) => uptoBulk d + 1
 end
def uptoSmall : (H : Type) → List (DataW H) → Bool := fun _ ds => decide (uptoBulkAll ds ≤ 1048576)
def OpenSpec.upto (s : _root_.Go.ChangeSpec) : _root_.Go.OpenSpec := { _root_.Go.OpenSpec.ofChange s with cond := some uptoSmall }

/-- 'laws.FnExactReadModel', WHERE WHAT IT READS IS OF BULK AT MOST 1048576: true; the input reads as it did. -/
def fnExactReadModelUptoRow : OpenClaim := { program := "ytajdfbgbkgabjaa", sum := "4de62b6d02f2ffa4732d9ca6001b120e51cf7645f7c3663e0ad8007c324b04ba", func := "loop.example/g00262/laws.FnExactReadModel", spec := "fnExactReadModel", inPlace := ["internal/bytealg.IndexByteString", "internal/bytealg.IndexString"], recurses := true, named := ["internal/bytealg.MaxLen"], apart := false, narrowed := true }
def FnExactReadModelUptoSaid : Prop := fnExactReadModelUptoRow.holds Try.pinned (OpenSpec.upto fnExactReadModelSpec)

/-- 'laws.FnAttributed', WHERE WHAT IT READS IS OF BULK AT MOST 1048576: true; the input reads as it did. -/
def fnAttributedUptoRow : OpenClaim := { program := "ytajdfbgbkgabjaa", sum := "4de62b6d02f2ffa4732d9ca6001b120e51cf7645f7c3663e0ad8007c324b04ba", func := "loop.example/g00262/laws.FnAttributed", spec := "fnAttributed", recurses := true, apart := false, narrowed := true }
def FnAttributedUptoSaid : Prop := fnAttributedUptoRow.holds Try.pinned (OpenSpec.upto fnAttributedSpec)

/-- 'laws.FnModelTexts', WHERE WHAT IT READS IS OF BULK AT MOST 1048576: true; the input reads as it did. -/
def fnModelTextsUptoRow : OpenClaim := { program := "ytajdfbgbkgabjaa", sum := "4de62b6d02f2ffa4732d9ca6001b120e51cf7645f7c3663e0ad8007c324b04ba", func := "loop.example/g00262/laws.FnModelTexts", spec := "fnModelTexts", inPlace := ["internal/abi.NoEscape", "internal/bytealg.MakeNoZero", "internal/bytealg.IndexByteString", "internal/bytealg.IndexString"], recurses := true, named := ["internal/bytealg.MaxLen"], apart := false, narrowed := true }
def FnModelTextsUptoSaid : Prop := fnModelTextsUptoRow.holds Try.pinned (OpenSpec.upto fnModelTextsSpec)

/-- 'laws.FnTurned', WHERE WHAT IT READS IS OF BULK AT MOST 1048576: true; the input reads as it did. -/
def fnTurnedUptoRow : OpenClaim := { program := "ytajdfbgbkgabjaa", sum := "4de62b6d02f2ffa4732d9ca6001b120e51cf7645f7c3663e0ad8007c324b04ba", func := "loop.example/g00262/laws.FnTurned", spec := "fnTurned", recurses := true, apart := false, narrowed := true }
def FnTurnedUptoSaid : Prop := fnTurnedUptoRow.holds Try.pinned (OpenSpec.upto fnTurnedSpec)

/-- 'laws.FnSample', WHERE WHAT IT READS IS OF BULK AT MOST 1048576: true; the input reads as it did. -/
def fnSampleUptoRow : OpenClaim := { program := "ytajdfbgbkgabjaa", sum := "4de62b6d02f2ffa4732d9ca6001b120e51cf7645f7c3663e0ad8007c324b04ba", func := "loop.example/g00262/laws.FnSample", spec := "fnSample", recurses := true, apart := false, narrowed := true }
def FnSampleUptoSaid : Prop := fnSampleUptoRow.holds Try.pinned (OpenSpec.upto fnSampleSpec)

/-- 'laws.FnPositions', WHERE WHAT IT READS IS OF BULK AT MOST 1048576: true; the input reads as it did. -/
def fnPositionsUptoRow : OpenClaim := { program := "ytajdfbgbkgabjaa", sum := "4de62b6d02f2ffa4732d9ca6001b120e51cf7645f7c3663e0ad8007c324b04ba", func := "loop.example/g00262/laws.FnPositions", spec := "fnPositions", recurses := true, apart := false, narrowed := true }
def FnPositionsUptoSaid : Prop := fnPositionsUptoRow.holds Try.pinned (OpenSpec.upto fnPositionsSpec)

end Rows
end Go.Proofs.Ytajdfbgbkgabjaa
