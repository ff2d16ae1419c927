/-
  DERIVED. GIVEN WITH THE SEED: THE CARDS: each row of YtdicaljeegaieaaDoorRows.lean that lists a variable, with what it lists TIED to the program's text (the seventh form; the later family's looks); each row that meets fmt, with fmt's text TOLD by the authors' own Lean function (tested against real Go, not proved from fmt's source: count such statements apart). THE CARD IS WHAT COUNTS. Prove the row's statement (the work); the ties are given (YtdicaljeegaieaaDoorTie.lean); close each card by the builder's one call (the guide's Derived/Test/ToyasCard.lean, 'card_holds'). Laid BY PROGRAM, IN A SANDBOX (cutbox-door.mjs). By AI agents, Wed Nov 11 2026. No macro, syntax, notation, axiom, sorry.
-/
import Derived.Test.YtdicaljeegaieaaDoorRows
import GoSem.ClaimSeven
namespace Go.Proofs.YtdicaljeegaieaaDoor
namespace Rows

/-- THE TIED CARD OF 'laws.FnExactPathOk'. -/
def fnExactPathOkCard : Claim7 := { stood := { row := fnExactPathOkRow, standIns := [], harness := (true, "fbcbe338adc224b947f19c7bb3ea804a655c537aadda9deca537fb0e0e900d33"), looks := false }, kinds := [], alts := [], laidByText := true, laidKinds := [.data, .pinned], laidTests := true, laidLooks := .later }
def FnExactPathOkCardSaid : Prop := Claim7.holds Tryd.pinned (.plain (OpenSpec.ofChange fnExactPathOkSpec)) fnExactPathOkCard

/-- THE TIED CARD OF 'laws.FnExactKeysOk'. -/
def fnExactKeysOkCard : Claim7 := { stood := { row := fnExactKeysOkRow, standIns := [], harness := (true, "fbcbe338adc224b947f19c7bb3ea804a655c537aadda9deca537fb0e0e900d33"), looks := false }, kinds := [], alts := [], laidByText := true, laidKinds := [.data, .pinned], laidTests := true, laidLooks := .later }
def FnExactKeysOkCardSaid : Prop := Claim7.holds Tryd.pinned (.plain (OpenSpec.ofChange fnExactKeysOkSpec)) fnExactKeysOkCard

/-- THE TIED CARD OF 'laws.FnBound'. -/
def fnBoundCard : Claim7 := { stood := { row := fnBoundRow, standIns := [], harness := (true, "fbcbe338adc224b947f19c7bb3ea804a655c537aadda9deca537fb0e0e900d33"), looks := false }, kinds := [], alts := [], laidByText := true, laidKinds := [.data, .pinned], laidTests := true, laidLooks := .later }
def FnBoundCardSaid : Prop := Claim7.holds Tryd.pinned (.plain (OpenSpec.ofChange fnBoundSpec)) fnBoundCard

/-- THE TIED CARD OF 'laws.FnKids'. -/
def fnKidsCard : Claim7 := { stood := { row := fnKidsRow, standIns := [], harness := (true, "fbcbe338adc224b947f19c7bb3ea804a655c537aadda9deca537fb0e0e900d33"), looks := false }, kinds := [], alts := [], laidByText := true, laidKinds := [.data, .pinned], laidTests := true, laidLooks := .later }
def FnKidsCardSaid : Prop := Claim7.holds Tryd.pinned (.plain (OpenSpec.ofChange fnKidsSpec)) fnKidsCard

/-- THE TIED CARD OF 'laws.FnNames'. -/
def fnNamesCard : Claim7 := { stood := { row := fnNamesRow, standIns := [], harness := (true, "fbcbe338adc224b947f19c7bb3ea804a655c537aadda9deca537fb0e0e900d33"), looks := false }, kinds := [], alts := [], laidByText := true, laidKinds := [.data, .pinned], laidTests := true, laidLooks := .later }
def FnNamesCardSaid : Prop := Claim7.holds Tryd.pinned (.plain (OpenSpec.ofChange fnNamesSpec)) fnNamesCard

/-- THE TIED CARD OF 'laws.FnExactSelect'. -/
def fnExactSelectCard : Claim7 := { stood := { row := fnExactSelectRow, standIns := [], harness := (true, "fbcbe338adc224b947f19c7bb3ea804a655c537aadda9deca537fb0e0e900d33"), looks := false }, kinds := [], alts := [], laidByText := true, laidKinds := [.data, .pinned], laidTests := true, laidLooks := .later }
def FnExactSelectCardSaid : Prop := Claim7.holds Tryd.pinned (.plain (OpenSpec.ofChange fnExactSelectSpec)) fnExactSelectCard

/-- THE SECOND FORM's CARD OF 'laws.FnExactPathOk'. -/
def fnExactPathOkUptoCard : Claim7 := { stood := { row := fnExactPathOkUptoRow, standIns := [], harness := (true, "fbcbe338adc224b947f19c7bb3ea804a655c537aadda9deca537fb0e0e900d33"), looks := false }, kinds := [], alts := [], laidByText := true, laidKinds := [.data, .pinned], laidTests := true, laidLooks := .later }
def FnExactPathOkUptoCardSaid : Prop := Claim7.holds Tryd.pinned (.plain (OpenSpec.upto fnExactPathOkSpec)) fnExactPathOkUptoCard

/-- THE SECOND FORM's CARD OF 'laws.FnExactKeysOk'. -/
def fnExactKeysOkUptoCard : Claim7 := { stood := { row := fnExactKeysOkUptoRow, standIns := [], harness := (true, "fbcbe338adc224b947f19c7bb3ea804a655c537aadda9deca537fb0e0e900d33"), looks := false }, kinds := [], alts := [], laidByText := true, laidKinds := [.data, .pinned], laidTests := true, laidLooks := .later }
def FnExactKeysOkUptoCardSaid : Prop := Claim7.holds Tryd.pinned (.plain (OpenSpec.upto fnExactKeysOkSpec)) fnExactKeysOkUptoCard

/-- THE SECOND FORM's CARD OF 'laws.FnBound'. -/
def fnBoundUptoCard : Claim7 := { stood := { row := fnBoundUptoRow, standIns := [], harness := (true, "fbcbe338adc224b947f19c7bb3ea804a655c537aadda9deca537fb0e0e900d33"), looks := false }, kinds := [], alts := [], laidByText := true, laidKinds := [.data, .pinned], laidTests := true, laidLooks := .later }
def FnBoundUptoCardSaid : Prop := Claim7.holds Tryd.pinned (.plain (OpenSpec.upto fnBoundSpec)) fnBoundUptoCard

/-- THE SECOND FORM's CARD OF 'laws.FnKids'. -/
def fnKidsUptoCard : Claim7 := { stood := { row := fnKidsUptoRow, standIns := [], harness := (true, "fbcbe338adc224b947f19c7bb3ea804a655c537aadda9deca537fb0e0e900d33"), looks := false }, kinds := [], alts := [], laidByText := true, laidKinds := [.data, .pinned], laidTests := true, laidLooks := .later }
def FnKidsUptoCardSaid : Prop := Claim7.holds Tryd.pinned (.plain (OpenSpec.upto fnKidsSpec)) fnKidsUptoCard

/-- THE SECOND FORM's CARD OF 'laws.FnNames'. -/
def fnNamesUptoCard : Claim7 := { stood := { row := fnNamesUptoRow, standIns := [], harness := (true, "fbcbe338adc224b947f19c7bb3ea804a655c537aadda9deca537fb0e0e900d33"), looks := false }, kinds := [], alts := [], laidByText := true, laidKinds := [.data, .pinned], laidTests := true, laidLooks := .later }
def FnNamesUptoCardSaid : Prop := Claim7.holds Tryd.pinned (.plain (OpenSpec.upto fnNamesSpec)) fnNamesUptoCard

/-- THE SECOND FORM's CARD OF 'laws.FnExactSelect'. -/
def fnExactSelectUptoCard : Claim7 := { stood := { row := fnExactSelectUptoRow, standIns := [], harness := (true, "fbcbe338adc224b947f19c7bb3ea804a655c537aadda9deca537fb0e0e900d33"), looks := false }, kinds := [], alts := [], laidByText := true, laidKinds := [.data, .pinned], laidTests := true, laidLooks := .later }
def FnExactSelectUptoCardSaid : Prop := Claim7.holds Tryd.pinned (.plain (OpenSpec.upto fnExactSelectSpec)) fnExactSelectUptoCard
end Rows
end Go.Proofs.YtdicaljeegaieaaDoor
