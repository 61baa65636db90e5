/-
  DERIVED. GIVEN WITH THE SEED: THE CARDS: each row of YtlejdidngmjicaaDoorRows.lean that lists a variable, with what it lists TIED to the program's text (the seventh form; the later family's looks); each row that meets fmt, with fmt's text TOLD by the authors' own Lean function (tested against real Go, not proved from fmt's source: count such statements apart). THE CARD IS WHAT COUNTS. Prove the row's statement (the work); the ties are given (YtlejdidngmjicaaDoorTie.lean); close each card by the builder's one call (the guide's Derived/Test/ToyasCard.lean, 'card_holds'). Laid BY PROGRAM, IN A SANDBOX (cutbox-door.mjs). By AI agents, Wed Nov 11 2026. No macro, syntax, notation, axiom, sorry.
-/
import Derived.Test.YtlejdidngmjicaaDoorRows
import GoSem.ClaimSeven
namespace Go.Proofs.YtlejdidngmjicaaDoor
namespace Rows

/-- THE TIED CARD OF 'foretellkeep.EndsNest'. -/
def endsNestCard : Claim7 := { stood := { row := endsNestRow, standIns := [], harness := (true, "a8aadc9d72e0cb9f3c2835d265b2c33c8c31aa2e278fcf6b95967eb571c65766"), looks := true }, kinds := [], alts := [], laidByText := true, laidKinds := [.data], laidTests := true, laidLooks := .later }
def EndsNestCardSaid : Prop := Claim7.holds Tryd.pinned (.plain (OpenSpec.ofChange endsNestSpec)) endsNestCard

/-- THE TIED CARD OF 'foretellkeep.PolishOne'. -/
def polishOneCard : Claim7 := { stood := { row := polishOneRow, standIns := [], harness := (true, "a8aadc9d72e0cb9f3c2835d265b2c33c8c31aa2e278fcf6b95967eb571c65766"), looks := true }, kinds := [], alts := [], laidByText := true, laidKinds := [.data], laidTests := true, laidLooks := .later }
def PolishOneCardSaid : Prop := Claim7.holds Tryd.pinned (.plain (OpenSpec.ofChange polishOneSpec)) polishOneCard

/-- THE TIED CARD OF 'foretellkeep.SplitJoin'. -/
def splitJoinCard : Claim7 := { stood := { row := splitJoinRow, standIns := [], harness := (true, "a8aadc9d72e0cb9f3c2835d265b2c33c8c31aa2e278fcf6b95967eb571c65766"), looks := true }, kinds := [], alts := [], laidByText := true, laidKinds := [.data], laidTests := true, laidLooks := .later }
def SplitJoinCardSaid : Prop := Claim7.holds Tryd.pinned (.plain (OpenSpec.ofChange splitJoinSpec)) splitJoinCard

/-- THE TIED CARD OF 'foretellkeep.DepthGrows'. -/
def depthGrowsCard : Claim7 := { stood := { row := depthGrowsRow, standIns := [], harness := (true, "a8aadc9d72e0cb9f3c2835d265b2c33c8c31aa2e278fcf6b95967eb571c65766"), looks := true }, kinds := [], alts := [], laidByText := true, laidKinds := [.data], laidTests := true, laidLooks := .later }
def DepthGrowsCardSaid : Prop := Claim7.holds Tryd.pinned (.plain (OpenSpec.ofChange depthGrowsSpec)) depthGrowsCard

/-- THE TIED CARD OF 'foretellkeep.CheckType'. -/
def checkTypeCard : Claim7 := { stood := { row := checkTypeRow, standIns := [], harness := (true, "a8aadc9d72e0cb9f3c2835d265b2c33c8c31aa2e278fcf6b95967eb571c65766"), looks := true }, kinds := [], alts := [], laidByText := true, laidKinds := [.data], laidTests := true, laidLooks := .later }
def CheckTypeCardSaid : Prop := Claim7.holds Tryd.pinned (.plain (OpenSpec.ofChange checkTypeSpec)) checkTypeCard

/-- THE TIED CARD OF 'foretellkeep.EvalTruth'. -/
def evalTruthCard : Claim7 := { stood := { row := evalTruthRow, standIns := [], harness := (true, "a8aadc9d72e0cb9f3c2835d265b2c33c8c31aa2e278fcf6b95967eb571c65766"), looks := true }, kinds := [], alts := [], laidByText := true, laidKinds := [.data], laidTests := true, laidLooks := .later }
def EvalTruthCardSaid : Prop := Claim7.holds Tryd.pinned (.plain (OpenSpec.ofChange evalTruthSpec)) evalTruthCard

/-- THE TIED CARD OF 'foretellkeep.EvalTurns'. -/
def evalTurnsCard : Claim7 := { stood := { row := evalTurnsRow, standIns := [], harness := (true, "a8aadc9d72e0cb9f3c2835d265b2c33c8c31aa2e278fcf6b95967eb571c65766"), looks := true }, kinds := [], alts := [], laidByText := true, laidKinds := [.data], laidTests := true, laidLooks := .later }
def EvalTurnsCardSaid : Prop := Claim7.holds Tryd.pinned (.plain (OpenSpec.ofChange evalTurnsSpec)) evalTurnsCard

/-- THE TIED CARD OF 'foretellkeep.EvalLogic'. -/
def evalLogicCard : Claim7 := { stood := { row := evalLogicRow, standIns := [], harness := (true, "a8aadc9d72e0cb9f3c2835d265b2c33c8c31aa2e278fcf6b95967eb571c65766"), looks := true }, kinds := [], alts := [], laidByText := true, laidKinds := [.data], laidTests := true, laidLooks := .later }
def EvalLogicCardSaid : Prop := Claim7.holds Tryd.pinned (.plain (OpenSpec.ofChange evalLogicSpec)) evalLogicCard

/-- THE TIED CARD OF 'foretellkeep.EvalOver'. -/
def evalOverCard : Claim7 := { stood := { row := evalOverRow, standIns := [], harness := (true, "a8aadc9d72e0cb9f3c2835d265b2c33c8c31aa2e278fcf6b95967eb571c65766"), looks := true }, kinds := [], alts := [], laidByText := true, laidKinds := [.data], laidTests := true, laidLooks := .later }
def EvalOverCardSaid : Prop := Claim7.holds Tryd.pinned (.plain (OpenSpec.ofChange evalOverSpec)) evalOverCard

/-- THE TIED CARD OF 'foretellkeep.EvalShift'. -/
def evalShiftCard : Claim7 := { stood := { row := evalShiftRow, standIns := [], harness := (true, "a8aadc9d72e0cb9f3c2835d265b2c33c8c31aa2e278fcf6b95967eb571c65766"), looks := true }, kinds := [], alts := [], laidByText := true, laidKinds := [.data], laidTests := true, laidLooks := .later }
def EvalShiftCardSaid : Prop := Claim7.holds Tryd.pinned (.plain (OpenSpec.ofChange evalShiftSpec)) evalShiftCard

/-- THE TIED CARD OF 'foretellkeep.EvalOrder'. -/
def evalOrderCard : Claim7 := { stood := { row := evalOrderRow, standIns := [], harness := (true, "a8aadc9d72e0cb9f3c2835d265b2c33c8c31aa2e278fcf6b95967eb571c65766"), looks := true }, kinds := [], alts := [], laidByText := true, laidKinds := [.data], laidTests := true, laidLooks := .later }
def EvalOrderCardSaid : Prop := Claim7.holds Tryd.pinned (.plain (OpenSpec.ofChange evalOrderSpec)) evalOrderCard

/-- THE SECOND FORM's CARD OF 'foretellkeep.EndsNest'. -/
def endsNestUptoCard : Claim7 := { stood := { row := endsNestUptoRow, standIns := [], harness := (true, "a8aadc9d72e0cb9f3c2835d265b2c33c8c31aa2e278fcf6b95967eb571c65766"), looks := true }, kinds := [], alts := [], laidByText := true, laidKinds := [.data], laidTests := true, laidLooks := .later }
def EndsNestUptoCardSaid : Prop := Claim7.holds Tryd.pinned (.plain (OpenSpec.upto endsNestSpec)) endsNestUptoCard

/-- THE SECOND FORM's CARD OF 'foretellkeep.PolishOne'. -/
def polishOneUptoCard : Claim7 := { stood := { row := polishOneUptoRow, standIns := [], harness := (true, "a8aadc9d72e0cb9f3c2835d265b2c33c8c31aa2e278fcf6b95967eb571c65766"), looks := true }, kinds := [], alts := [], laidByText := true, laidKinds := [.data], laidTests := true, laidLooks := .later }
def PolishOneUptoCardSaid : Prop := Claim7.holds Tryd.pinned (.plain (OpenSpec.upto polishOneSpec)) polishOneUptoCard

/-- THE SECOND FORM's CARD OF 'foretellkeep.SplitJoin'. -/
def splitJoinUptoCard : Claim7 := { stood := { row := splitJoinUptoRow, standIns := [], harness := (true, "a8aadc9d72e0cb9f3c2835d265b2c33c8c31aa2e278fcf6b95967eb571c65766"), looks := true }, kinds := [], alts := [], laidByText := true, laidKinds := [.data], laidTests := true, laidLooks := .later }
def SplitJoinUptoCardSaid : Prop := Claim7.holds Tryd.pinned (.plain (OpenSpec.upto splitJoinSpec)) splitJoinUptoCard

/-- THE SECOND FORM's CARD OF 'foretellkeep.DepthGrows'. -/
def depthGrowsUptoCard : Claim7 := { stood := { row := depthGrowsUptoRow, standIns := [], harness := (true, "a8aadc9d72e0cb9f3c2835d265b2c33c8c31aa2e278fcf6b95967eb571c65766"), looks := true }, kinds := [], alts := [], laidByText := true, laidKinds := [.data], laidTests := true, laidLooks := .later }
def DepthGrowsUptoCardSaid : Prop := Claim7.holds Tryd.pinned (.plain (OpenSpec.upto depthGrowsSpec)) depthGrowsUptoCard

/-- THE SECOND FORM's CARD OF 'foretellkeep.CheckType'. -/
def checkTypeUptoCard : Claim7 := { stood := { row := checkTypeUptoRow, standIns := [], harness := (true, "a8aadc9d72e0cb9f3c2835d265b2c33c8c31aa2e278fcf6b95967eb571c65766"), looks := true }, kinds := [], alts := [], laidByText := true, laidKinds := [.data], laidTests := true, laidLooks := .later }
def CheckTypeUptoCardSaid : Prop := Claim7.holds Tryd.pinned (.plain (OpenSpec.upto checkTypeSpec)) checkTypeUptoCard

/-- THE SECOND FORM's CARD OF 'foretellkeep.EvalTruth'. -/
def evalTruthUptoCard : Claim7 := { stood := { row := evalTruthUptoRow, standIns := [], harness := (true, "a8aadc9d72e0cb9f3c2835d265b2c33c8c31aa2e278fcf6b95967eb571c65766"), looks := true }, kinds := [], alts := [], laidByText := true, laidKinds := [.data], laidTests := true, laidLooks := .later }
def EvalTruthUptoCardSaid : Prop := Claim7.holds Tryd.pinned (.plain (OpenSpec.upto evalTruthSpec)) evalTruthUptoCard

/-- THE SECOND FORM's CARD OF 'foretellkeep.EvalTurns'. -/
def evalTurnsUptoCard : Claim7 := { stood := { row := evalTurnsUptoRow, standIns := [], harness := (true, "a8aadc9d72e0cb9f3c2835d265b2c33c8c31aa2e278fcf6b95967eb571c65766"), looks := true }, kinds := [], alts := [], laidByText := true, laidKinds := [.data], laidTests := true, laidLooks := .later }
def EvalTurnsUptoCardSaid : Prop := Claim7.holds Tryd.pinned (.plain (OpenSpec.upto evalTurnsSpec)) evalTurnsUptoCard

/-- THE SECOND FORM's CARD OF 'foretellkeep.EvalLogic'. -/
def evalLogicUptoCard : Claim7 := { stood := { row := evalLogicUptoRow, standIns := [], harness := (true, "a8aadc9d72e0cb9f3c2835d265b2c33c8c31aa2e278fcf6b95967eb571c65766"), looks := true }, kinds := [], alts := [], laidByText := true, laidKinds := [.data], laidTests := true, laidLooks := .later }
def EvalLogicUptoCardSaid : Prop := Claim7.holds Tryd.pinned (.plain (OpenSpec.upto evalLogicSpec)) evalLogicUptoCard

/-- THE SECOND FORM's CARD OF 'foretellkeep.EvalOver'. -/
def evalOverUptoCard : Claim7 := { stood := { row := evalOverUptoRow, standIns := [], harness := (true, "a8aadc9d72e0cb9f3c2835d265b2c33c8c31aa2e278fcf6b95967eb571c65766"), looks := true }, kinds := [], alts := [], laidByText := true, laidKinds := [.data], laidTests := true, laidLooks := .later }
def EvalOverUptoCardSaid : Prop := Claim7.holds Tryd.pinned (.plain (OpenSpec.upto evalOverSpec)) evalOverUptoCard

/-- THE SECOND FORM's CARD OF 'foretellkeep.EvalShift'. -/
def evalShiftUptoCard : Claim7 := { stood := { row := evalShiftUptoRow, standIns := [], harness := (true, "a8aadc9d72e0cb9f3c2835d265b2c33c8c31aa2e278fcf6b95967eb571c65766"), looks := true }, kinds := [], alts := [], laidByText := true, laidKinds := [.data], laidTests := true, laidLooks := .later }
def EvalShiftUptoCardSaid : Prop := Claim7.holds Tryd.pinned (.plain (OpenSpec.upto evalShiftSpec)) evalShiftUptoCard

/-- THE SECOND FORM's CARD OF 'foretellkeep.EvalOrder'. -/
def evalOrderUptoCard : Claim7 := { stood := { row := evalOrderUptoRow, standIns := [], harness := (true, "a8aadc9d72e0cb9f3c2835d265b2c33c8c31aa2e278fcf6b95967eb571c65766"), looks := true }, kinds := [], alts := [], laidByText := true, laidKinds := [.data], laidTests := true, laidLooks := .later }
def EvalOrderUptoCardSaid : Prop := Claim7.holds Tryd.pinned (.plain (OpenSpec.upto evalOrderSpec)) evalOrderUptoCard
end Rows
end Go.Proofs.YtlejdidngmjicaaDoor
