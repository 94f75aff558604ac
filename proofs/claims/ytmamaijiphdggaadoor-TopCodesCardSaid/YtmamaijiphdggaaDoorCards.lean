/-
  DERIVED. GIVEN WITH THE SEED: THE CARDS: each row of YtmamaijiphdggaaDoorRows.lean that lists a variable, with what it lists TIED to the program's text (the seventh form; the later family's looks); each row that meets fmt, with fmt's text TOLD by the authors' own Lean function (tested against real Go, not proved from fmt's source: count such statements apart). THE CARD IS WHAT COUNTS. Prove the row's statement (the work); the ties are given (YtmamaijiphdggaaDoorTie.lean); close each card by the builder's one call (the guide's Derived/Test/ToyasCard.lean, 'card_holds'). Laid BY PROGRAM, IN A SANDBOX (cutbox-door.mjs). By AI agents, Wed Nov 11 2026. No macro, syntax, notation, axiom, sorry.
-/
import Derived.Test.YtmamaijiphdggaaDoorRows
import GoSem.ClaimSeven
namespace Go.Proofs.YtmamaijiphdggaaDoor
namespace Rows

/-- THE TIED CARD OF 'secateurtop.TopCodes'. -/
def topCodesCard : Claim7 := { stood := { row := topCodesRow, standIns := [], harness := (true, "92413bc65fef809ae31da28a8bdad6e5a9520ce75979e0843b213eca4898ac09"), looks := true }, kinds := [], alts := [], laidByText := true, laidKinds := [.data], laidTests := true, laidLooks := .later }
def TopCodesCardSaid : Prop := Claim7.holds Tryd.pinned (.plain (OpenSpec.ofChange topCodesSpec)) topCodesCard

/-- THE TIED CARD OF 'secateurlaw07.OpShapes'. -/
def opShapesCard : Claim7 := { stood := { row := opShapesRow, standIns := [], harness := (true, "92413bc65fef809ae31da28a8bdad6e5a9520ce75979e0843b213eca4898ac09"), looks := true }, kinds := [], alts := [], laidByText := true, laidKinds := [.data], laidTests := true, laidLooks := .later }
def OpShapesCardSaid : Prop := Claim7.holds Tryd.pinned (.plain (OpenSpec.ofChange opShapesSpec)) opShapesCard

/-- THE TIED CARD OF 'secateurlaw07.OpFits'. -/
def opFitsCard : Claim7 := { stood := { row := opFitsRow, standIns := [], harness := (true, "92413bc65fef809ae31da28a8bdad6e5a9520ce75979e0843b213eca4898ac09"), looks := true }, kinds := [], alts := [], laidByText := true, laidKinds := [.data], laidTests := true, laidLooks := .later }
def OpFitsCardSaid : Prop := Claim7.holds Tryd.pinned (.plain (OpenSpec.ofChange opFitsSpec)) opFitsCard

/-- THE TIED CARD OF 'secateurlaw07.OpTells'. -/
def opTellsCard : Claim7 := { stood := { row := opTellsRow, standIns := [], harness := (true, "92413bc65fef809ae31da28a8bdad6e5a9520ce75979e0843b213eca4898ac09"), looks := true }, kinds := [], alts := [], laidByText := true, laidKinds := [.data], laidTests := true, laidLooks := .later }
def OpTellsCardSaid : Prop := Claim7.holds Tryd.pinned (.plain (OpenSpec.ofChange opTellsSpec)) opTellsCard

/-- THE TIED CARD OF 'secateurlaw07.OpWithin'. -/
def opWithinCard : Claim7 := { stood := { row := opWithinRow, standIns := [], harness := (true, "92413bc65fef809ae31da28a8bdad6e5a9520ce75979e0843b213eca4898ac09"), looks := true }, kinds := [], alts := [], laidByText := true, laidKinds := [.data], laidTests := true, laidLooks := .later }
def OpWithinCardSaid : Prop := Claim7.holds Tryd.pinned (.plain (OpenSpec.ofChange opWithinSpec)) opWithinCard

/-- THE TIED CARD OF 'secateurlaw07.OpLacks'. -/
def opLacksCard : Claim7 := { stood := { row := opLacksRow, standIns := [], harness := (true, "92413bc65fef809ae31da28a8bdad6e5a9520ce75979e0843b213eca4898ac09"), looks := true }, kinds := [], alts := [], laidByText := true, laidKinds := [.data], laidTests := true, laidLooks := .later }
def OpLacksCardSaid : Prop := Claim7.holds Tryd.pinned (.plain (OpenSpec.ofChange opLacksSpec)) opLacksCard

/-- THE SECOND FORM's CARD OF 'secateurtop.TopCodes'. -/
def topCodesUptoCard : Claim7 := { stood := { row := topCodesUptoRow, standIns := [], harness := (true, "92413bc65fef809ae31da28a8bdad6e5a9520ce75979e0843b213eca4898ac09"), looks := true }, kinds := [], alts := [], laidByText := true, laidKinds := [.data], laidTests := true, laidLooks := .later }
def TopCodesUptoCardSaid : Prop := Claim7.holds Tryd.pinned (.plain (OpenSpec.upto topCodesSpec)) topCodesUptoCard

/-- THE SECOND FORM's CARD OF 'secateurlaw07.OpShapes'. -/
def opShapesUptoCard : Claim7 := { stood := { row := opShapesUptoRow, standIns := [], harness := (true, "92413bc65fef809ae31da28a8bdad6e5a9520ce75979e0843b213eca4898ac09"), looks := true }, kinds := [], alts := [], laidByText := true, laidKinds := [.data], laidTests := true, laidLooks := .later }
def OpShapesUptoCardSaid : Prop := Claim7.holds Tryd.pinned (.plain (OpenSpec.upto opShapesSpec)) opShapesUptoCard

/-- THE SECOND FORM's CARD OF 'secateurlaw07.OpFits'. -/
def opFitsUptoCard : Claim7 := { stood := { row := opFitsUptoRow, standIns := [], harness := (true, "92413bc65fef809ae31da28a8bdad6e5a9520ce75979e0843b213eca4898ac09"), looks := true }, kinds := [], alts := [], laidByText := true, laidKinds := [.data], laidTests := true, laidLooks := .later }
def OpFitsUptoCardSaid : Prop := Claim7.holds Tryd.pinned (.plain (OpenSpec.upto opFitsSpec)) opFitsUptoCard

/-- THE SECOND FORM's CARD OF 'secateurlaw07.OpTells'. -/
def opTellsUptoCard : Claim7 := { stood := { row := opTellsUptoRow, standIns := [], harness := (true, "92413bc65fef809ae31da28a8bdad6e5a9520ce75979e0843b213eca4898ac09"), looks := true }, kinds := [], alts := [], laidByText := true, laidKinds := [.data], laidTests := true, laidLooks := .later }
def OpTellsUptoCardSaid : Prop := Claim7.holds Tryd.pinned (.plain (OpenSpec.upto opTellsSpec)) opTellsUptoCard

/-- THE SECOND FORM's CARD OF 'secateurlaw07.OpWithin'. -/
def opWithinUptoCard : Claim7 := { stood := { row := opWithinUptoRow, standIns := [], harness := (true, "92413bc65fef809ae31da28a8bdad6e5a9520ce75979e0843b213eca4898ac09"), looks := true }, kinds := [], alts := [], laidByText := true, laidKinds := [.data], laidTests := true, laidLooks := .later }
def OpWithinUptoCardSaid : Prop := Claim7.holds Tryd.pinned (.plain (OpenSpec.upto opWithinSpec)) opWithinUptoCard

/-- THE SECOND FORM's CARD OF 'secateurlaw07.OpLacks'. -/
def opLacksUptoCard : Claim7 := { stood := { row := opLacksUptoRow, standIns := [], harness := (true, "92413bc65fef809ae31da28a8bdad6e5a9520ce75979e0843b213eca4898ac09"), looks := true }, kinds := [], alts := [], laidByText := true, laidKinds := [.data], laidTests := true, laidLooks := .later }
def OpLacksUptoCardSaid : Prop := Claim7.holds Tryd.pinned (.plain (OpenSpec.upto opLacksSpec)) opLacksUptoCard
end Rows
end Go.Proofs.YtmamaijiphdggaaDoor
