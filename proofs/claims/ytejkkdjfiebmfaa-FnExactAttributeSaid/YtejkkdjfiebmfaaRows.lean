/-
  No cell of these rows narrows 'for every input' (looked for: loops, veiled, ifaces, maps, wideKeys, modest, calm, conditions, laid).
  DERIVED. THE GIVEN ROWS OF THIS SEAT. 6 by the template 'for every input the law returns true; each argument reads behind the call as it read before'; 0 by the template 'total and deterministic' (their statements: YtejkkdjfiebmfaaTotals.lean).
  GIVEN WITH THE SEED: the statements are not yours to turn. If you find one false, say at which input.
  Laid BY PROGRAM, IN A SANDBOX (cutbox-rows.mjs): the forced cells as the released guide's own fill.sh prints them over the translation 87cfb01e92377ff9… (all of the seat's roots in one cut). By AI agents, Wed Nov 11 2026. No macro, syntax, notation, axiom, sorry.
-/
import Derived.Test.YtejkkdjfiebmfaaChecked
import GoSem.Claim
import GoSem.ClaimJoined
import GoSem.ClaimMapViews
import Derived.JoinedTies
import Derived.KernelRfl
namespace Go.Proofs.Ytejkkdjfiebmfaa
/- THE CELL 'sum', in the pinned program and in every row, IS THE sha256 OF THE DUMP (.gsa) THAT YtejkkdjfiebmfaaProg.lean LOADS. Nothing in Lean hashes anything: it is a label: what it is worth is what the hold of that sum in a sandbox is worth. -/
noncomputable def Try.pinned : Pinned := { name := "ytejkkdjfiebmfaa", sum := "87cfb01e92377ff95eab236480ec94f523bff9b809edf21f0d6a8046a20dd9ec", checked := Try.checked }
namespace Rows
def none {H : Type} : Left H := { results := [], args := [] }

/-- 'laws.FnExactFirstOf': WHATEVER THE INPUT: true; the input reads as it did. -/
def fnExactFirstOfSpec : ChangeSpec := { name := "fnExactFirstOf", fn := fun _ => fun
  | [d] => { results := [.lit (.bool true)], args := [d] }
  | _ => none }
def fnExactFirstOfRow : OpenClaim := { program := "ytejkkdjfiebmfaa", sum := "87cfb01e92377ff95eab236480ec94f523bff9b809edf21f0d6a8046a20dd9ec", func := "loop.example/g00262/laws.FnExactFirstOf", spec := "fnExactFirstOf", recurses := true, apart := false }
def FnExactFirstOfSaid : Prop := fnExactFirstOfRow.holds Try.pinned (OpenSpec.ofChange fnExactFirstOfSpec)

/-- ITS FALSE NEIGHBOUR: 'it returns false'. Refute it at one input. -/
def fnExactFirstOfWrong : ChangeSpec := { name := "fnExactFirstOf", fn := fun _ => fun
  | [d] => { results := [.lit (.bool false)], args := [d] }
  | _ => none }
def FnExactFirstOfWrongFalsely : Prop := fnExactFirstOfRow.holds Try.pinned (OpenSpec.ofChange fnExactFirstOfWrong)

/-- 'laws.FnExactLastOf': WHATEVER THE INPUT: true; the input reads as it did. -/
def fnExactLastOfSpec : ChangeSpec := { name := "fnExactLastOf", fn := fun _ => fun
  | [d] => { results := [.lit (.bool true)], args := [d] }
  | _ => none }
def fnExactLastOfRow : OpenClaim := { program := "ytejkkdjfiebmfaa", sum := "87cfb01e92377ff95eab236480ec94f523bff9b809edf21f0d6a8046a20dd9ec", func := "loop.example/g00262/laws.FnExactLastOf", spec := "fnExactLastOf", recurses := true, apart := false }
def FnExactLastOfSaid : Prop := fnExactLastOfRow.holds Try.pinned (OpenSpec.ofChange fnExactLastOfSpec)

/-- ITS FALSE NEIGHBOUR: 'it returns false'. Refute it at one input. -/
def fnExactLastOfWrong : ChangeSpec := { name := "fnExactLastOf", fn := fun _ => fun
  | [d] => { results := [.lit (.bool false)], args := [d] }
  | _ => none }
def FnExactLastOfWrongFalsely : Prop := fnExactLastOfRow.holds Try.pinned (OpenSpec.ofChange fnExactLastOfWrong)

/-- 'laws.FnExactFollowOf': WHATEVER THE INPUT: true; the input reads as it did. -/
def fnExactFollowOfSpec : ChangeSpec := { name := "fnExactFollowOf", fn := fun _ => fun
  | [d1, d2] => { results := [.lit (.bool true)], args := [d1, d2] }
  | _ => none }
def fnExactFollowOfRow : OpenClaim := { program := "ytejkkdjfiebmfaa", sum := "87cfb01e92377ff95eab236480ec94f523bff9b809edf21f0d6a8046a20dd9ec", func := "loop.example/g00262/laws.FnExactFollowOf", spec := "fnExactFollowOf", recurses := true, apart := false }
def FnExactFollowOfSaid : Prop := fnExactFollowOfRow.holds Try.pinned (OpenSpec.ofChange fnExactFollowOfSpec)

/-- ITS FALSE NEIGHBOUR: 'it returns false'. Refute it at one input. -/
def fnExactFollowOfWrong : ChangeSpec := { name := "fnExactFollowOf", fn := fun _ => fun
  | [d1, d2] => { results := [.lit (.bool false)], args := [d1, d2] }
  | _ => none }
def FnExactFollowOfWrongFalsely : Prop := fnExactFollowOfRow.holds Try.pinned (OpenSpec.ofChange fnExactFollowOfWrong)

/-- 'laws.FnExactClear': WHATEVER THE INPUT: true; the input reads as it did. -/
def fnExactClearSpec : ChangeSpec := { name := "fnExactClear", fn := fun _ => fun
  | [d] => { results := [.lit (.bool true)], args := [d] }
  | _ => none }
def fnExactClearRow : OpenClaim := { program := "ytejkkdjfiebmfaa", sum := "87cfb01e92377ff95eab236480ec94f523bff9b809edf21f0d6a8046a20dd9ec", func := "loop.example/g00262/laws.FnExactClear", spec := "fnExactClear", recurses := true, apart := false }
def FnExactClearSaid : Prop := fnExactClearRow.holds Try.pinned (OpenSpec.ofChange fnExactClearSpec)

/-- ITS FALSE NEIGHBOUR: 'it returns false'. Refute it at one input. -/
def fnExactClearWrong : ChangeSpec := { name := "fnExactClear", fn := fun _ => fun
  | [d] => { results := [.lit (.bool false)], args := [d] }
  | _ => none }
def FnExactClearWrongFalsely : Prop := fnExactClearRow.holds Try.pinned (OpenSpec.ofChange fnExactClearWrong)

/-- 'laws.FnExactAttribute': WHATEVER THE INPUT: true; the input reads as it did. -/
def fnExactAttributeSpec : ChangeSpec := { name := "fnExactAttribute", fn := fun _ => fun
  | [d1, d2] => { results := [.lit (.bool true)], args := [d1, d2] }
  | _ => none }
def fnExactAttributeRow : OpenClaim := { program := "ytejkkdjfiebmfaa", sum := "87cfb01e92377ff95eab236480ec94f523bff9b809edf21f0d6a8046a20dd9ec", func := "loop.example/g00262/laws.FnExactAttribute", spec := "fnExactAttribute", recurses := true, apart := false }
def FnExactAttributeSaid : Prop := fnExactAttributeRow.holds Try.pinned (OpenSpec.ofChange fnExactAttributeSpec)

/-- ITS FALSE NEIGHBOUR: 'it returns false'. Refute it at one input. -/
def fnExactAttributeWrong : ChangeSpec := { name := "fnExactAttribute", fn := fun _ => fun
  | [d1, d2] => { results := [.lit (.bool false)], args := [d1, d2] }
  | _ => none }
def FnExactAttributeWrongFalsely : Prop := fnExactAttributeRow.holds Try.pinned (OpenSpec.ofChange fnExactAttributeWrong)

/-- 'laws.FnExactAccepts': WHATEVER THE INPUT: true; the input reads as it did. -/
def fnExactAcceptsSpec : ChangeSpec := { name := "fnExactAccepts", fn := fun _ => fun
  | [d1, d2] => { results := [.lit (.bool true)], args := [d1, d2] }
  | _ => none }
def fnExactAcceptsRow : OpenClaim := { program := "ytejkkdjfiebmfaa", sum := "87cfb01e92377ff95eab236480ec94f523bff9b809edf21f0d6a8046a20dd9ec", func := "loop.example/g00262/laws.FnExactAccepts", spec := "fnExactAccepts", recurses := true, apart := false }
def FnExactAcceptsSaid : Prop := fnExactAcceptsRow.holds Try.pinned (OpenSpec.ofChange fnExactAcceptsSpec)

/-- ITS FALSE NEIGHBOUR: 'it returns false'. Refute it at one input. -/
def fnExactAcceptsWrong : ChangeSpec := { name := "fnExactAccepts", fn := fun _ => fun
  | [d1, d2] => { results := [.lit (.bool false)], args := [d1, d2] }
  | _ => none }
def FnExactAcceptsWrongFalsely : Prop := fnExactAcceptsRow.holds Try.pinned (OpenSpec.ofChange fnExactAcceptsWrong)

/- THE SECOND FORM. 'bulk': how many values and letters a reading holds, each counted each time it is reached (what is shared counts as often as it is met; a slice's spare places count too). A statement '..UptoSaid' is the law's where the arguments, and the package variables that the reading takes, are together of bulk at most 1048576: NARROWER than '..Said'. Prove '..Said' where nothing that the law and all that it calls make is longer than what came in: it says more and counts as full. Else prove '..UptoSaid'. A law counts once. -/
mutual
def uptoBulk {H : Type} : DataW H → Nat
  | .lit (.string bytes) => bytes.length + 1
  | .lit _ => 1
  | .nil => 1
  | .ptr d => uptoBulk d + 1
  | .slice elems spare => uptoBulkAll elems + uptoBulkAll spare + 1
  | .agg parts => uptoBulkAll parts + 1
  | .iface _ d => uptoBulk d + 1
  | .map entries => uptoBulkEntries entries + 1
  | .held _ => 1
def uptoBulkAll {H : Type} : List (DataW H) → Nat
  | [] => 0
  | d :: r => uptoBulk d + uptoBulkAll r
def uptoBulkEntries {H : Type} : List (Lit × DataW H) → Nat
  | [] => 0
  | x :: r => uptoBulkEntry x + uptoBulkEntries r
def uptoBulkEntry {H : Type} : Lit × DataW H → Nat
  | (.string bytes, d) => bytes.length + uptoBulk d + 1
  | (_, d) => uptoBulk d + 1
 end
def uptoSmall : (H : Type) → List (DataW H) → Bool := fun _ ds => decide (uptoBulkAll ds ≤ 1048576)
def OpenSpec.upto (s : _root_.Go.ChangeSpec) : _root_.Go.OpenSpec := { _root_.Go.OpenSpec.ofChange s with cond := some uptoSmall }

/-- 'laws.FnExactFirstOf', WHERE WHAT IT READS IS OF BULK AT MOST 1048576: true; the input reads as it did. -/
def fnExactFirstOfUptoRow : OpenClaim := { program := "ytejkkdjfiebmfaa", sum := "87cfb01e92377ff95eab236480ec94f523bff9b809edf21f0d6a8046a20dd9ec", func := "loop.example/g00262/laws.FnExactFirstOf", spec := "fnExactFirstOf", recurses := true, apart := false, narrowed := true }
def FnExactFirstOfUptoSaid : Prop := fnExactFirstOfUptoRow.holds Try.pinned (OpenSpec.upto fnExactFirstOfSpec)

/-- 'laws.FnExactLastOf', WHERE WHAT IT READS IS OF BULK AT MOST 1048576: true; the input reads as it did. -/
def fnExactLastOfUptoRow : OpenClaim := { program := "ytejkkdjfiebmfaa", sum := "87cfb01e92377ff95eab236480ec94f523bff9b809edf21f0d6a8046a20dd9ec", func := "loop.example/g00262/laws.FnExactLastOf", spec := "fnExactLastOf", recurses := true, apart := false, narrowed := true }
def FnExactLastOfUptoSaid : Prop := fnExactLastOfUptoRow.holds Try.pinned (OpenSpec.upto fnExactLastOfSpec)

/-- 'laws.FnExactFollowOf', WHERE WHAT IT READS IS OF BULK AT MOST 1048576: true; the input reads as it did. -/
def fnExactFollowOfUptoRow : OpenClaim := { program := "ytejkkdjfiebmfaa", sum := "87cfb01e92377ff95eab236480ec94f523bff9b809edf21f0d6a8046a20dd9ec", func := "loop.example/g00262/laws.FnExactFollowOf", spec := "fnExactFollowOf", recurses := true, apart := false, narrowed := true }
def FnExactFollowOfUptoSaid : Prop := fnExactFollowOfUptoRow.holds Try.pinned (OpenSpec.upto fnExactFollowOfSpec)

/-- 'laws.FnExactClear', WHERE WHAT IT READS IS OF BULK AT MOST 1048576: true; the input reads as it did. -/
def fnExactClearUptoRow : OpenClaim := { program := "ytejkkdjfiebmfaa", sum := "87cfb01e92377ff95eab236480ec94f523bff9b809edf21f0d6a8046a20dd9ec", func := "loop.example/g00262/laws.FnExactClear", spec := "fnExactClear", recurses := true, apart := false, narrowed := true }
def FnExactClearUptoSaid : Prop := fnExactClearUptoRow.holds Try.pinned (OpenSpec.upto fnExactClearSpec)

/-- 'laws.FnExactAttribute', WHERE WHAT IT READS IS OF BULK AT MOST 1048576: true; the input reads as it did. -/
def fnExactAttributeUptoRow : OpenClaim := { program := "ytejkkdjfiebmfaa", sum := "87cfb01e92377ff95eab236480ec94f523bff9b809edf21f0d6a8046a20dd9ec", func := "loop.example/g00262/laws.FnExactAttribute", spec := "fnExactAttribute", recurses := true, apart := false, narrowed := true }
def FnExactAttributeUptoSaid : Prop := fnExactAttributeUptoRow.holds Try.pinned (OpenSpec.upto fnExactAttributeSpec)

/-- 'laws.FnExactAccepts', WHERE WHAT IT READS IS OF BULK AT MOST 1048576: true; the input reads as it did. -/
def fnExactAcceptsUptoRow : OpenClaim := { program := "ytejkkdjfiebmfaa", sum := "87cfb01e92377ff95eab236480ec94f523bff9b809edf21f0d6a8046a20dd9ec", func := "loop.example/g00262/laws.FnExactAccepts", spec := "fnExactAccepts", recurses := true, apart := false, narrowed := true }
def FnExactAcceptsUptoSaid : Prop := fnExactAcceptsUptoRow.holds Try.pinned (OpenSpec.upto fnExactAcceptsSpec)

end Rows
end Go.Proofs.Ytejkkdjfiebmfaa
