/-
  DERIVED. GIVEN WITH THE SEED: THE CARDS: each row of YteplphpbpaojjaaDoorRows.lean that lists a variable, with what it lists TIED to the program's text (the seventh form; the later family's looks); each row that meets fmt, with fmt's text TOLD by the authors' own Lean function (tested against real Go, not proved from fmt's source: count such statements apart). THE CARD IS WHAT COUNTS. Prove the row's statement (the work); the ties are given (YteplphpbpaojjaaDoorTie.lean); close each card by the builder's one call (the guide's Derived/Test/ToyasCard.lean, 'card_holds'). Laid BY PROGRAM, IN A SANDBOX (cutbox-door.mjs). By AI agents, Wed Nov 11 2026. No macro, syntax, notation, axiom, sorry.
-/
import Derived.Test.YteplphpbpaojjaaDoorRows
import GoSem.ClaimSeven
namespace Go.Proofs.YteplphpbpaojjaaDoor
namespace Rows

/-- THE TIED CARD OF 'hamperlaw19.MetaSteps'. -/
def metaStepsCard : Claim7 := { stood := { row := metaStepsRow, standIns := [], harness := (true, "91c933597138838133c2c8ac73b57bed4999ef7acc0a46d9c4f05f5a3c50b86e"), looks := false }, kinds := [], alts := [], laidByText := true, laidKinds := [.data, .pinned], laidTests := true, laidLooks := .later }
def MetaStepsCardSaid : Prop := Claim7.holds Tryd.pinned (.plain (OpenSpec.ofChange metaStepsSpec)) metaStepsCard

/-- THE TIED CARD OF 'hamperlaw19.MetaMakes'. -/
def metaMakesCard : Claim7 := { stood := { row := metaMakesRow, standIns := [], harness := (true, "91c933597138838133c2c8ac73b57bed4999ef7acc0a46d9c4f05f5a3c50b86e"), looks := false }, kinds := [], alts := [], laidByText := true, laidKinds := [.data, .pinned], laidTests := true, laidLooks := .later }
def MetaMakesCardSaid : Prop := Claim7.holds Tryd.pinned (.plain (OpenSpec.ofChange metaMakesSpec)) metaMakesCard

/-- THE TIED CARD OF 'hamperlaw19.MetaBack'. -/
def metaBackCard : Claim7 := { stood := { row := metaBackRow, standIns := [], harness := (true, "91c933597138838133c2c8ac73b57bed4999ef7acc0a46d9c4f05f5a3c50b86e"), looks := false }, kinds := [], alts := [], laidByText := true, laidKinds := [.data, .pinned], laidTests := true, laidLooks := .later }
def MetaBackCardSaid : Prop := Claim7.holds Tryd.pinned (.plain (OpenSpec.ofChange metaBackSpec)) metaBackCard

/-- THE TIED CARD OF 'hamperlaw19.MetaRows'. -/
def metaRowsCard : Claim7 := { stood := { row := metaRowsRow, standIns := [], harness := (true, "91c933597138838133c2c8ac73b57bed4999ef7acc0a46d9c4f05f5a3c50b86e"), looks := false }, kinds := [], alts := [], laidByText := true, laidKinds := [.data, .pinned], laidTests := true, laidLooks := .later }
def MetaRowsCardSaid : Prop := Claim7.holds Tryd.pinned (.plain (OpenSpec.ofChange metaRowsSpec)) metaRowsCard

/-- THE TIED CARD OF 'hamperlaw19.MetaOf'. -/
def metaOfCard : Claim7 := { stood := { row := metaOfRow, standIns := [], harness := (true, "91c933597138838133c2c8ac73b57bed4999ef7acc0a46d9c4f05f5a3c50b86e"), looks := false }, kinds := [], alts := [], laidByText := true, laidKinds := [.data, .pinned], laidTests := true, laidLooks := .later }
def MetaOfCardSaid : Prop := Claim7.holds Tryd.pinned (.plain (OpenSpec.ofChange metaOfSpec)) metaOfCard

/-- THE TIED CARD OF 'hamperlaw19.MetaReads'. -/
def metaReadsCard : Claim7 := { stood := { row := metaReadsRow, standIns := [], harness := (true, "91c933597138838133c2c8ac73b57bed4999ef7acc0a46d9c4f05f5a3c50b86e"), looks := false }, kinds := [], alts := [], laidByText := true, laidKinds := [.data, .pinned], laidTests := true, laidLooks := .later }
def MetaReadsCardSaid : Prop := Claim7.holds Tryd.pinned (.plain (OpenSpec.ofChange metaReadsSpec)) metaReadsCard

/-- THE TIED CARD OF 'hamperlaw19.MetaNames'. -/
def metaNamesCard : Claim7 := { stood := { row := metaNamesRow, standIns := [], harness := (true, "91c933597138838133c2c8ac73b57bed4999ef7acc0a46d9c4f05f5a3c50b86e"), looks := false }, kinds := [], alts := [], laidByText := true, laidKinds := [.data, .pinned], laidTests := true, laidLooks := .later }
def MetaNamesCardSaid : Prop := Claim7.holds Tryd.pinned (.plain (OpenSpec.ofChange metaNamesSpec)) metaNamesCard

/-- THE SECOND FORM's CARD OF 'hamperlaw19.MetaSteps'. -/
def metaStepsUptoCard : Claim7 := { stood := { row := metaStepsUptoRow, standIns := [], harness := (true, "91c933597138838133c2c8ac73b57bed4999ef7acc0a46d9c4f05f5a3c50b86e"), looks := false }, kinds := [], alts := [], laidByText := true, laidKinds := [.data, .pinned], laidTests := true, laidLooks := .later }
def MetaStepsUptoCardSaid : Prop := Claim7.holds Tryd.pinned (.plain (OpenSpec.upto metaStepsSpec)) metaStepsUptoCard

/-- THE SECOND FORM's CARD OF 'hamperlaw19.MetaMakes'. -/
def metaMakesUptoCard : Claim7 := { stood := { row := metaMakesUptoRow, standIns := [], harness := (true, "91c933597138838133c2c8ac73b57bed4999ef7acc0a46d9c4f05f5a3c50b86e"), looks := false }, kinds := [], alts := [], laidByText := true, laidKinds := [.data, .pinned], laidTests := true, laidLooks := .later }
def MetaMakesUptoCardSaid : Prop := Claim7.holds Tryd.pinned (.plain (OpenSpec.upto metaMakesSpec)) metaMakesUptoCard

/-- THE SECOND FORM's CARD OF 'hamperlaw19.MetaBack'. -/
def metaBackUptoCard : Claim7 := { stood := { row := metaBackUptoRow, standIns := [], harness := (true, "91c933597138838133c2c8ac73b57bed4999ef7acc0a46d9c4f05f5a3c50b86e"), looks := false }, kinds := [], alts := [], laidByText := true, laidKinds := [.data, .pinned], laidTests := true, laidLooks := .later }
def MetaBackUptoCardSaid : Prop := Claim7.holds Tryd.pinned (.plain (OpenSpec.upto metaBackSpec)) metaBackUptoCard

/-- THE SECOND FORM's CARD OF 'hamperlaw19.MetaRows'. -/
def metaRowsUptoCard : Claim7 := { stood := { row := metaRowsUptoRow, standIns := [], harness := (true, "91c933597138838133c2c8ac73b57bed4999ef7acc0a46d9c4f05f5a3c50b86e"), looks := false }, kinds := [], alts := [], laidByText := true, laidKinds := [.data, .pinned], laidTests := true, laidLooks := .later }
def MetaRowsUptoCardSaid : Prop := Claim7.holds Tryd.pinned (.plain (OpenSpec.upto metaRowsSpec)) metaRowsUptoCard

/-- THE SECOND FORM's CARD OF 'hamperlaw19.MetaOf'. -/
def metaOfUptoCard : Claim7 := { stood := { row := metaOfUptoRow, standIns := [], harness := (true, "91c933597138838133c2c8ac73b57bed4999ef7acc0a46d9c4f05f5a3c50b86e"), looks := false }, kinds := [], alts := [], laidByText := true, laidKinds := [.data, .pinned], laidTests := true, laidLooks := .later }
def MetaOfUptoCardSaid : Prop := Claim7.holds Tryd.pinned (.plain (OpenSpec.upto metaOfSpec)) metaOfUptoCard

/-- THE SECOND FORM's CARD OF 'hamperlaw19.MetaReads'. -/
def metaReadsUptoCard : Claim7 := { stood := { row := metaReadsUptoRow, standIns := [], harness := (true, "91c933597138838133c2c8ac73b57bed4999ef7acc0a46d9c4f05f5a3c50b86e"), looks := false }, kinds := [], alts := [], laidByText := true, laidKinds := [.data, .pinned], laidTests := true, laidLooks := .later }
def MetaReadsUptoCardSaid : Prop := Claim7.holds Tryd.pinned (.plain (OpenSpec.upto metaReadsSpec)) metaReadsUptoCard

/-- THE SECOND FORM's CARD OF 'hamperlaw19.MetaNames'. -/
def metaNamesUptoCard : Claim7 := { stood := { row := metaNamesUptoRow, standIns := [], harness := (true, "91c933597138838133c2c8ac73b57bed4999ef7acc0a46d9c4f05f5a3c50b86e"), looks := false }, kinds := [], alts := [], laidByText := true, laidKinds := [.data, .pinned], laidTests := true, laidLooks := .later }
def MetaNamesUptoCardSaid : Prop := Claim7.holds Tryd.pinned (.plain (OpenSpec.upto metaNamesSpec)) metaNamesUptoCard
end Rows
end Go.Proofs.YteplphpbpaojjaaDoor
