/-
  DERIVED. GIVEN WITH THE SEED: THE CARDS: each row of YtpmjpbaeecnpiaaDoorRows.lean that lists a variable, with what it lists TIED to the program's text (the seventh form; the later family's looks); each row that meets fmt, with fmt's text TOLD by the authors' own Lean function (tested against real Go, not proved from fmt's source: count such statements apart). THE CARD IS WHAT COUNTS. Prove the row's statement (the work); the ties are given (YtpmjpbaeecnpiaaDoorTie.lean); close each card by the builder's one call (the guide's Derived/Test/ToyasCard.lean, 'card_holds'). Laid BY PROGRAM, IN A SANDBOX (cutbox-door.mjs). By AI agents, Wed Nov 11 2026. No macro, syntax, notation, axiom, sorry.
-/
import Derived.Test.YtpmjpbaeecnpiaaDoorRows
import GoSem.ClaimSeven
namespace Go.Proofs.YtpmjpbaeecnpiaaDoor
namespace Rows

/-- THE TIED CARD OF 'laws.FnExactSelect'. -/
def fnExactSelectCard : Claim7 := { stood := { row := fnExactSelectRow, standIns := [], harness := (true, "07cdd167afd829bd8d1ed976b7fe7c2a745a3c274b24990d5436964044c27545"), looks := false }, kinds := [], alts := [], laidByText := true, laidKinds := [.data, .pinned], laidTests := true, laidLooks := .later }
def FnExactSelectCardSaid : Prop := Claim7.holds Tryd.pinned (.plain (OpenSpec.ofChange fnExactSelectSpec)) fnExactSelectCard

/-- THE TIED CARD OF 'laws.FnSelected'. -/
def fnSelectedCard : Claim7 := { stood := { row := fnSelectedRow, standIns := [], harness := (true, "07cdd167afd829bd8d1ed976b7fe7c2a745a3c274b24990d5436964044c27545"), looks := false }, kinds := [], alts := [], laidByText := true, laidKinds := [.data, .pinned], laidTests := true, laidLooks := .later }
def FnSelectedCardSaid : Prop := Claim7.holds Tryd.pinned (.plain (OpenSpec.ofChange fnSelectedSpec)) fnSelectedCard

/-- THE TIED CARD OF 'laws.FnDeepPath'. -/
def fnDeepPathCard : Claim7 := { stood := { row := fnDeepPathRow, standIns := [], harness := (true, "07cdd167afd829bd8d1ed976b7fe7c2a745a3c274b24990d5436964044c27545"), looks := false }, kinds := [], alts := [], laidByText := true, laidKinds := [.data, .pinned], laidTests := true, laidLooks := .later }
def FnDeepPathCardSaid : Prop := Claim7.holds Tryd.pinned (.plain (OpenSpec.ofChange fnDeepPathSpec)) fnDeepPathCard

/-- THE TIED CARD OF 'laws.FnBound'. -/
def fnBoundCard : Claim7 := { stood := { row := fnBoundRow, standIns := [], harness := (true, "07cdd167afd829bd8d1ed976b7fe7c2a745a3c274b24990d5436964044c27545"), looks := false }, kinds := [], alts := [], laidByText := true, laidKinds := [.data, .pinned], laidTests := true, laidLooks := .later }
def FnBoundCardSaid : Prop := Claim7.holds Tryd.pinned (.plain (OpenSpec.ofChange fnBoundSpec)) fnBoundCard

/-- THE TIED CARD OF 'laws.FnKids'. -/
def fnKidsCard : Claim7 := { stood := { row := fnKidsRow, standIns := [], harness := (true, "07cdd167afd829bd8d1ed976b7fe7c2a745a3c274b24990d5436964044c27545"), looks := false }, kinds := [], alts := [], laidByText := true, laidKinds := [.data, .pinned], laidTests := true, laidLooks := .later }
def FnKidsCardSaid : Prop := Claim7.holds Tryd.pinned (.plain (OpenSpec.ofChange fnKidsSpec)) fnKidsCard

/-- THE TIED CARD OF 'laws.FnNames'. -/
def fnNamesCard : Claim7 := { stood := { row := fnNamesRow, standIns := [], harness := (true, "07cdd167afd829bd8d1ed976b7fe7c2a745a3c274b24990d5436964044c27545"), looks := false }, kinds := [], alts := [], laidByText := true, laidKinds := [.data, .pinned], laidTests := true, laidLooks := .later }
def FnNamesCardSaid : Prop := Claim7.holds Tryd.pinned (.plain (OpenSpec.ofChange fnNamesSpec)) fnNamesCard

/-- THE SECOND FORM's CARD OF 'laws.FnExactSelect'. -/
def fnExactSelectUptoCard : Claim7 := { stood := { row := fnExactSelectUptoRow, standIns := [], harness := (true, "07cdd167afd829bd8d1ed976b7fe7c2a745a3c274b24990d5436964044c27545"), looks := false }, kinds := [], alts := [], laidByText := true, laidKinds := [.data, .pinned], laidTests := true, laidLooks := .later }
def FnExactSelectUptoCardSaid : Prop := Claim7.holds Tryd.pinned (.plain (OpenSpec.upto fnExactSelectSpec)) fnExactSelectUptoCard

/-- THE SECOND FORM's CARD OF 'laws.FnSelected'. -/
def fnSelectedUptoCard : Claim7 := { stood := { row := fnSelectedUptoRow, standIns := [], harness := (true, "07cdd167afd829bd8d1ed976b7fe7c2a745a3c274b24990d5436964044c27545"), looks := false }, kinds := [], alts := [], laidByText := true, laidKinds := [.data, .pinned], laidTests := true, laidLooks := .later }
def FnSelectedUptoCardSaid : Prop := Claim7.holds Tryd.pinned (.plain (OpenSpec.upto fnSelectedSpec)) fnSelectedUptoCard

/-- THE SECOND FORM's CARD OF 'laws.FnDeepPath'. -/
def fnDeepPathUptoCard : Claim7 := { stood := { row := fnDeepPathUptoRow, standIns := [], harness := (true, "07cdd167afd829bd8d1ed976b7fe7c2a745a3c274b24990d5436964044c27545"), looks := false }, kinds := [], alts := [], laidByText := true, laidKinds := [.data, .pinned], laidTests := true, laidLooks := .later }
def FnDeepPathUptoCardSaid : Prop := Claim7.holds Tryd.pinned (.plain (OpenSpec.upto fnDeepPathSpec)) fnDeepPathUptoCard

/-- THE SECOND FORM's CARD OF 'laws.FnBound'. -/
def fnBoundUptoCard : Claim7 := { stood := { row := fnBoundUptoRow, standIns := [], harness := (true, "07cdd167afd829bd8d1ed976b7fe7c2a745a3c274b24990d5436964044c27545"), looks := false }, kinds := [], alts := [], laidByText := true, laidKinds := [.data, .pinned], laidTests := true, laidLooks := .later }
def FnBoundUptoCardSaid : Prop := Claim7.holds Tryd.pinned (.plain (OpenSpec.upto fnBoundSpec)) fnBoundUptoCard

/-- THE SECOND FORM's CARD OF 'laws.FnKids'. -/
def fnKidsUptoCard : Claim7 := { stood := { row := fnKidsUptoRow, standIns := [], harness := (true, "07cdd167afd829bd8d1ed976b7fe7c2a745a3c274b24990d5436964044c27545"), looks := false }, kinds := [], alts := [], laidByText := true, laidKinds := [.data, .pinned], laidTests := true, laidLooks := .later }
def FnKidsUptoCardSaid : Prop := Claim7.holds Tryd.pinned (.plain (OpenSpec.upto fnKidsSpec)) fnKidsUptoCard

/-- THE SECOND FORM's CARD OF 'laws.FnNames'. -/
def fnNamesUptoCard : Claim7 := { stood := { row := fnNamesUptoRow, standIns := [], harness := (true, "07cdd167afd829bd8d1ed976b7fe7c2a745a3c274b24990d5436964044c27545"), looks := false }, kinds := [], alts := [], laidByText := true, laidKinds := [.data, .pinned], laidTests := true, laidLooks := .later }
def FnNamesUptoCardSaid : Prop := Claim7.holds Tryd.pinned (.plain (OpenSpec.upto fnNamesSpec)) fnNamesUptoCard
end Rows
end Go.Proofs.YtpmjpbaeecnpiaaDoor
