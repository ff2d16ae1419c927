/-
  DERIVED. GIVEN WITH THE SEED: THE CARDS: each row of YtilmhfkbpnejeaaDoorRows.lean that lists a variable, with what it lists TIED to the program's text (the seventh form; the later family's looks); each row that meets fmt, with fmt's text TOLD by the authors' own Lean function (tested against real Go, not proved from fmt's source: count such statements apart). THE CARD IS WHAT COUNTS. Prove the row's statement (the work); the ties are given (YtilmhfkbpnejeaaDoorTie.lean); close each card by the builder's one call (the guide's Derived/Test/ToyasCard.lean, 'card_holds'). Laid BY PROGRAM, IN A SANDBOX (cutbox-door.mjs). By AI agents, Wed Nov 11 2026. No macro, syntax, notation, axiom, sorry.
-/
import Derived.Test.YtilmhfkbpnejeaaDoorRows
import GoSem.ClaimSeven
namespace Go.Proofs.YtilmhfkbpnejeaaDoor
namespace Rows

/-- THE TIED CARD OF 'laws.FnExactCompareDec'. -/
def fnExactCompareDecCard : Claim7 := { stood := { row := fnExactCompareDecRow, standIns := [], harness := (true, "4a61d948b812248cc51bcf06df5496e41b10d70eed4e46b572ca6dc1aae8b1fc"), looks := false }, kinds := [], alts := [], laidByText := true, laidKinds := [.data, .pinned], laidTests := true, laidLooks := .later }
def FnExactCompareDecCardSaid : Prop := Claim7.holds Tryd.pinned (.plain (OpenSpec.ofChange fnExactCompareDecSpec)) fnExactCompareDecCard

/-- THE TIED CARD OF 'laws.FnTimes'. -/
def fnTimesCard : Claim7 := { stood := { row := fnTimesRow, standIns := [], harness := (true, "4a61d948b812248cc51bcf06df5496e41b10d70eed4e46b572ca6dc1aae8b1fc"), looks := false }, kinds := [], alts := [], laidByText := true, laidKinds := [.data, .pinned], laidTests := true, laidLooks := .later }
def FnTimesCardSaid : Prop := Claim7.holds Tryd.pinned (.plain (OpenSpec.ofChange fnTimesSpec)) fnTimesCard

/-- THE TIED CARD OF 'laws.FnCompared'. -/
def fnComparedCard : Claim7 := { stood := { row := fnComparedRow, standIns := [], harness := (true, "4a61d948b812248cc51bcf06df5496e41b10d70eed4e46b572ca6dc1aae8b1fc"), looks := false }, kinds := [], alts := [], laidByText := true, laidKinds := [.data, .pinned], laidTests := true, laidLooks := .later }
def FnComparedCardSaid : Prop := Claim7.holds Tryd.pinned (.plain (OpenSpec.ofChange fnComparedSpec)) fnComparedCard

/-- THE TIED CARD OF 'laws.FnAdded'. -/
def fnAddedCard : Claim7 := { stood := { row := fnAddedRow, standIns := [], harness := (true, "4a61d948b812248cc51bcf06df5496e41b10d70eed4e46b572ca6dc1aae8b1fc"), looks := false }, kinds := [], alts := [], laidByText := true, laidKinds := [.data, .pinned], laidTests := true, laidLooks := .later }
def FnAddedCardSaid : Prop := Claim7.holds Tryd.pinned (.plain (OpenSpec.ofChange fnAddedSpec)) fnAddedCard

/-- THE TIED CARD OF 'laws.FnDecs'. -/
def fnDecsCard : Claim7 := { stood := { row := fnDecsRow, standIns := [], harness := (true, "4a61d948b812248cc51bcf06df5496e41b10d70eed4e46b572ca6dc1aae8b1fc"), looks := false }, kinds := [], alts := [], laidByText := true, laidKinds := [.data, .pinned], laidTests := true, laidLooks := .later }
def FnDecsCardSaid : Prop := Claim7.holds Tryd.pinned (.plain (OpenSpec.ofChange fnDecsSpec)) fnDecsCard

/-- THE TIED CARD OF 'laws.FnExactMatches'. -/
def fnExactMatchesCard : Claim7 := { stood := { row := fnExactMatchesRow, standIns := [], harness := (true, "4a61d948b812248cc51bcf06df5496e41b10d70eed4e46b572ca6dc1aae8b1fc"), looks := false }, kinds := [], alts := [], laidByText := true, laidKinds := [.data, .pinned], laidTests := true, laidLooks := .later }
def FnExactMatchesCardSaid : Prop := Claim7.holds Tryd.pinned (.plain (OpenSpec.ofChange fnExactMatchesSpec)) fnExactMatchesCard

/-- THE TIED CARD OF 'laws.FnLiteral'. -/
def fnLiteralCard : Claim7 := { stood := { row := fnLiteralRow, standIns := [], harness := (true, "4a61d948b812248cc51bcf06df5496e41b10d70eed4e46b572ca6dc1aae8b1fc"), looks := false }, kinds := [], alts := [], laidByText := true, laidKinds := [.data, .pinned], laidTests := true, laidLooks := .later }
def FnLiteralCardSaid : Prop := Claim7.holds Tryd.pinned (.plain (OpenSpec.ofChange fnLiteralSpec)) fnLiteralCard

/-- THE TIED CARD OF 'laws.FnShortest'. -/
def fnShortestCard : Claim7 := { stood := { row := fnShortestRow, standIns := [], harness := (true, "4a61d948b812248cc51bcf06df5496e41b10d70eed4e46b572ca6dc1aae8b1fc"), looks := false }, kinds := [], alts := [], laidByText := true, laidKinds := [.data, .pinned], laidTests := true, laidLooks := .later }
def FnShortestCardSaid : Prop := Claim7.holds Tryd.pinned (.plain (OpenSpec.ofChange fnShortestSpec)) fnShortestCard

/-- THE SECOND FORM's CARD OF 'laws.FnExactCompareDec'. -/
def fnExactCompareDecUptoCard : Claim7 := { stood := { row := fnExactCompareDecUptoRow, standIns := [], harness := (true, "4a61d948b812248cc51bcf06df5496e41b10d70eed4e46b572ca6dc1aae8b1fc"), looks := false }, kinds := [], alts := [], laidByText := true, laidKinds := [.data, .pinned], laidTests := true, laidLooks := .later }
def FnExactCompareDecUptoCardSaid : Prop := Claim7.holds Tryd.pinned (.plain (OpenSpec.upto fnExactCompareDecSpec)) fnExactCompareDecUptoCard

/-- THE SECOND FORM's CARD OF 'laws.FnTimes'. -/
def fnTimesUptoCard : Claim7 := { stood := { row := fnTimesUptoRow, standIns := [], harness := (true, "4a61d948b812248cc51bcf06df5496e41b10d70eed4e46b572ca6dc1aae8b1fc"), looks := false }, kinds := [], alts := [], laidByText := true, laidKinds := [.data, .pinned], laidTests := true, laidLooks := .later }
def FnTimesUptoCardSaid : Prop := Claim7.holds Tryd.pinned (.plain (OpenSpec.upto fnTimesSpec)) fnTimesUptoCard

/-- THE SECOND FORM's CARD OF 'laws.FnCompared'. -/
def fnComparedUptoCard : Claim7 := { stood := { row := fnComparedUptoRow, standIns := [], harness := (true, "4a61d948b812248cc51bcf06df5496e41b10d70eed4e46b572ca6dc1aae8b1fc"), looks := false }, kinds := [], alts := [], laidByText := true, laidKinds := [.data, .pinned], laidTests := true, laidLooks := .later }
def FnComparedUptoCardSaid : Prop := Claim7.holds Tryd.pinned (.plain (OpenSpec.upto fnComparedSpec)) fnComparedUptoCard

/-- THE SECOND FORM's CARD OF 'laws.FnAdded'. -/
def fnAddedUptoCard : Claim7 := { stood := { row := fnAddedUptoRow, standIns := [], harness := (true, "4a61d948b812248cc51bcf06df5496e41b10d70eed4e46b572ca6dc1aae8b1fc"), looks := false }, kinds := [], alts := [], laidByText := true, laidKinds := [.data, .pinned], laidTests := true, laidLooks := .later }
def FnAddedUptoCardSaid : Prop := Claim7.holds Tryd.pinned (.plain (OpenSpec.upto fnAddedSpec)) fnAddedUptoCard

/-- THE SECOND FORM's CARD OF 'laws.FnDecs'. -/
def fnDecsUptoCard : Claim7 := { stood := { row := fnDecsUptoRow, standIns := [], harness := (true, "4a61d948b812248cc51bcf06df5496e41b10d70eed4e46b572ca6dc1aae8b1fc"), looks := false }, kinds := [], alts := [], laidByText := true, laidKinds := [.data, .pinned], laidTests := true, laidLooks := .later }
def FnDecsUptoCardSaid : Prop := Claim7.holds Tryd.pinned (.plain (OpenSpec.upto fnDecsSpec)) fnDecsUptoCard

/-- THE SECOND FORM's CARD OF 'laws.FnExactMatches'. -/
def fnExactMatchesUptoCard : Claim7 := { stood := { row := fnExactMatchesUptoRow, standIns := [], harness := (true, "4a61d948b812248cc51bcf06df5496e41b10d70eed4e46b572ca6dc1aae8b1fc"), looks := false }, kinds := [], alts := [], laidByText := true, laidKinds := [.data, .pinned], laidTests := true, laidLooks := .later }
def FnExactMatchesUptoCardSaid : Prop := Claim7.holds Tryd.pinned (.plain (OpenSpec.upto fnExactMatchesSpec)) fnExactMatchesUptoCard

/-- THE SECOND FORM's CARD OF 'laws.FnLiteral'. -/
def fnLiteralUptoCard : Claim7 := { stood := { row := fnLiteralUptoRow, standIns := [], harness := (true, "4a61d948b812248cc51bcf06df5496e41b10d70eed4e46b572ca6dc1aae8b1fc"), looks := false }, kinds := [], alts := [], laidByText := true, laidKinds := [.data, .pinned], laidTests := true, laidLooks := .later }
def FnLiteralUptoCardSaid : Prop := Claim7.holds Tryd.pinned (.plain (OpenSpec.upto fnLiteralSpec)) fnLiteralUptoCard

/-- THE SECOND FORM's CARD OF 'laws.FnShortest'. -/
def fnShortestUptoCard : Claim7 := { stood := { row := fnShortestUptoRow, standIns := [], harness := (true, "4a61d948b812248cc51bcf06df5496e41b10d70eed4e46b572ca6dc1aae8b1fc"), looks := false }, kinds := [], alts := [], laidByText := true, laidKinds := [.data, .pinned], laidTests := true, laidLooks := .later }
def FnShortestUptoCardSaid : Prop := Claim7.holds Tryd.pinned (.plain (OpenSpec.upto fnShortestSpec)) fnShortestUptoCard
end Rows
end Go.Proofs.YtilmhfkbpnejeaaDoor
