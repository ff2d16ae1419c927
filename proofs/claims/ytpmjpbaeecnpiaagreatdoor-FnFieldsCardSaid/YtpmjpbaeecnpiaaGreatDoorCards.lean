/-
  DERIVED. GIVEN WITH THE SEED: THE CARDS: each row of YtpmjpbaeecnpiaaGreatDoorRows.lean that lists a variable, with what it lists TIED to the program's text (the seventh form; the later family's looks); each row that meets fmt, with fmt's text TOLD by the authors' own Lean function (tested against real Go, not proved from fmt's source: count such statements apart). THE CARD IS WHAT COUNTS. Prove the row's statement (the work); the ties are given (YtpmjpbaeecnpiaaGreatDoorTie.lean); close each card by the builder's one call (the guide's Derived/Test/ToyasCard.lean, 'card_holds'). Laid BY PROGRAM, IN A SANDBOX (cutbox-door.mjs). By AI agents, Wed Nov 11 2026. No macro, syntax, notation, axiom, sorry.
-/
import Derived.Test.YtpmjpbaeecnpiaaGreatDoorRows
import GoSem.ClaimSeven
namespace Go.Proofs.YtpmjpbaeecnpiaaGreatDoor
namespace Rows

/-- THE TIED CARD OF 'laws.FnExactFieldOf'. -/
def fnExactFieldOfCard : Claim7 := { stood := { row := fnExactFieldOfRow, standIns := [], harness := (true, "a6499ae7f3d30944adc0c501c80b713e34ea4de801ceb2739d5bd167c1e26b25"), looks := true }, kinds := [], alts := [], laidByText := true, laidKinds := [.data, .pinned], laidTests := true, laidLooks := .later }
def FnExactFieldOfCardSaid : Prop := Claim7.holds Tryz.pinned (.plain (OpenSpec.ofChange fnExactFieldOfSpec)) fnExactFieldOfCard

/-- THE TIED CARD OF 'laws.FnExactTableOf'. -/
def fnExactTableOfCard : Claim7 := { stood := { row := fnExactTableOfRow, standIns := [], harness := (true, "a6499ae7f3d30944adc0c501c80b713e34ea4de801ceb2739d5bd167c1e26b25"), looks := true }, kinds := [], alts := [], laidByText := true, laidKinds := [.data, .pinned], laidTests := true, laidLooks := .later }
def FnExactTableOfCardSaid : Prop := Claim7.holds Tryz.pinned (.plain (OpenSpec.ofChange fnExactTableOfSpec)) fnExactTableOfCard

/-- THE TIED CARD OF 'laws.FnExactBreaches'. -/
def fnExactBreachesCard : Claim7 := { stood := { row := fnExactBreachesRow, standIns := [], harness := (true, "a6499ae7f3d30944adc0c501c80b713e34ea4de801ceb2739d5bd167c1e26b25"), looks := true }, kinds := [], alts := [], laidByText := true, laidKinds := [.data, .pinned], laidTests := true, laidLooks := .later }
def FnExactBreachesCardSaid : Prop := Claim7.holds Tryz.pinned (.plain (OpenSpec.ofChange fnExactBreachesSpec)) fnExactBreachesCard

/-- THE TIED CARD OF 'laws.FnFields'. -/
def fnFieldsCard : Claim7 := { stood := { row := fnFieldsRow, standIns := [], harness := (true, "a6499ae7f3d30944adc0c501c80b713e34ea4de801ceb2739d5bd167c1e26b25"), looks := true }, kinds := [], alts := [], laidByText := true, laidKinds := [.data, .pinned], laidTests := true, laidLooks := .later }
def FnFieldsCardSaid : Prop := Claim7.holds Tryz.pinned (.plain (OpenSpec.ofChange fnFieldsSpec)) fnFieldsCard

/-- THE TIED CARD OF 'laws.FnTables'. -/
def fnTablesCard : Claim7 := { stood := { row := fnTablesRow, standIns := [], harness := (true, "a6499ae7f3d30944adc0c501c80b713e34ea4de801ceb2739d5bd167c1e26b25"), looks := true }, kinds := [], alts := [], laidByText := true, laidKinds := [.data, .pinned], laidTests := true, laidLooks := .later }
def FnTablesCardSaid : Prop := Claim7.holds Tryz.pinned (.plain (OpenSpec.ofChange fnTablesSpec)) fnTablesCard

/-- THE TIED CARD OF 'laws.FnBreached'. -/
def fnBreachedCard : Claim7 := { stood := { row := fnBreachedRow, standIns := [], harness := (true, "a6499ae7f3d30944adc0c501c80b713e34ea4de801ceb2739d5bd167c1e26b25"), looks := true }, kinds := [], alts := [], laidByText := true, laidKinds := [.data, .pinned], laidTests := true, laidLooks := .later }
def FnBreachedCardSaid : Prop := Claim7.holds Tryz.pinned (.plain (OpenSpec.ofChange fnBreachedSpec)) fnBreachedCard

/-- THE SECOND FORM's CARD OF 'laws.FnExactFieldOf'. -/
def fnExactFieldOfUptoCard : Claim7 := { stood := { row := fnExactFieldOfUptoRow, standIns := [], harness := (true, "a6499ae7f3d30944adc0c501c80b713e34ea4de801ceb2739d5bd167c1e26b25"), looks := true }, kinds := [], alts := [], laidByText := true, laidKinds := [.data, .pinned], laidTests := true, laidLooks := .later }
def FnExactFieldOfUptoCardSaid : Prop := Claim7.holds Tryz.pinned (.plain (OpenSpec.upto fnExactFieldOfSpec)) fnExactFieldOfUptoCard

/-- THE SECOND FORM's CARD OF 'laws.FnExactTableOf'. -/
def fnExactTableOfUptoCard : Claim7 := { stood := { row := fnExactTableOfUptoRow, standIns := [], harness := (true, "a6499ae7f3d30944adc0c501c80b713e34ea4de801ceb2739d5bd167c1e26b25"), looks := true }, kinds := [], alts := [], laidByText := true, laidKinds := [.data, .pinned], laidTests := true, laidLooks := .later }
def FnExactTableOfUptoCardSaid : Prop := Claim7.holds Tryz.pinned (.plain (OpenSpec.upto fnExactTableOfSpec)) fnExactTableOfUptoCard

/-- THE SECOND FORM's CARD OF 'laws.FnExactBreaches'. -/
def fnExactBreachesUptoCard : Claim7 := { stood := { row := fnExactBreachesUptoRow, standIns := [], harness := (true, "a6499ae7f3d30944adc0c501c80b713e34ea4de801ceb2739d5bd167c1e26b25"), looks := true }, kinds := [], alts := [], laidByText := true, laidKinds := [.data, .pinned], laidTests := true, laidLooks := .later }
def FnExactBreachesUptoCardSaid : Prop := Claim7.holds Tryz.pinned (.plain (OpenSpec.upto fnExactBreachesSpec)) fnExactBreachesUptoCard

/-- THE SECOND FORM's CARD OF 'laws.FnFields'. -/
def fnFieldsUptoCard : Claim7 := { stood := { row := fnFieldsUptoRow, standIns := [], harness := (true, "a6499ae7f3d30944adc0c501c80b713e34ea4de801ceb2739d5bd167c1e26b25"), looks := true }, kinds := [], alts := [], laidByText := true, laidKinds := [.data, .pinned], laidTests := true, laidLooks := .later }
def FnFieldsUptoCardSaid : Prop := Claim7.holds Tryz.pinned (.plain (OpenSpec.upto fnFieldsSpec)) fnFieldsUptoCard

/-- THE SECOND FORM's CARD OF 'laws.FnTables'. -/
def fnTablesUptoCard : Claim7 := { stood := { row := fnTablesUptoRow, standIns := [], harness := (true, "a6499ae7f3d30944adc0c501c80b713e34ea4de801ceb2739d5bd167c1e26b25"), looks := true }, kinds := [], alts := [], laidByText := true, laidKinds := [.data, .pinned], laidTests := true, laidLooks := .later }
def FnTablesUptoCardSaid : Prop := Claim7.holds Tryz.pinned (.plain (OpenSpec.upto fnTablesSpec)) fnTablesUptoCard

/-- THE SECOND FORM's CARD OF 'laws.FnBreached'. -/
def fnBreachedUptoCard : Claim7 := { stood := { row := fnBreachedUptoRow, standIns := [], harness := (true, "a6499ae7f3d30944adc0c501c80b713e34ea4de801ceb2739d5bd167c1e26b25"), looks := true }, kinds := [], alts := [], laidByText := true, laidKinds := [.data, .pinned], laidTests := true, laidLooks := .later }
def FnBreachedUptoCardSaid : Prop := Claim7.holds Tryz.pinned (.plain (OpenSpec.upto fnBreachedSpec)) fnBreachedUptoCard
end Rows
end Go.Proofs.YtpmjpbaeecnpiaaGreatDoor
