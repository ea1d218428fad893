/-
  DERIVED. GIVEN WITH THE SEED: THE CARDS: each row of YtbeibmdccjgcmaaDoorRows.lean that lists a variable, with what it lists TIED to the program's text (the seventh form; the later family's looks); each row that meets fmt, with fmt's text TOLD by the authors' own Lean function (tested against real Go, not proved from fmt's source: count such statements apart). THE CARD IS WHAT COUNTS. Prove the row's statement (the work); the ties are given (YtbeibmdccjgcmaaDoorTie.lean); close each card by the builder's one call (the guide's Derived/Test/ToyasCard.lean, 'card_holds'). Laid BY PROGRAM, IN A SANDBOX (cutbox-door.mjs). By AI agents, Wed Nov 11 2026. No macro, syntax, notation, axiom, sorry.
-/
import Derived.Test.YtbeibmdccjgcmaaDoorRows
import GoSem.ClaimSeven
namespace Go.Proofs.YtbeibmdccjgcmaaDoor
namespace Rows

/-- THE TIED CARD OF 'hamperlaw21.QuickMakes'. -/
def quickMakesCard : Claim7 := { stood := { row := quickMakesRow, standIns := [], harness := (true, "783d470a607880ec070b4ed0669331d517bed54b757f44bf684a3303d9568d28"), looks := false }, kinds := [], alts := [], laidByText := true, laidKinds := [.data, .pinned], laidTests := true, laidLooks := .later }
def QuickMakesCardSaid : Prop := Claim7.holds Tryd.pinned (.plain (OpenSpec.ofChange quickMakesSpec)) quickMakesCard

/-- THE TIED CARD OF 'hamperlaw21.QuickReads'. -/
def quickReadsCard : Claim7 := { stood := { row := quickReadsRow, standIns := [], harness := (true, "783d470a607880ec070b4ed0669331d517bed54b757f44bf684a3303d9568d28"), looks := false }, kinds := [], alts := [], laidByText := true, laidKinds := [.data, .pinned], laidTests := true, laidLooks := .later }
def QuickReadsCardSaid : Prop := Claim7.holds Tryd.pinned (.plain (OpenSpec.ofChange quickReadsSpec)) quickReadsCard

/-- THE TIED CARD OF 'hamperlaw21.QuickMore'. -/
def quickMoreCard : Claim7 := { stood := { row := quickMoreRow, standIns := [], harness := (true, "783d470a607880ec070b4ed0669331d517bed54b757f44bf684a3303d9568d28"), looks := false }, kinds := [], alts := [], laidByText := true, laidKinds := [.data, .pinned], laidTests := true, laidLooks := .later }
def QuickMoreCardSaid : Prop := Claim7.holds Tryd.pinned (.plain (OpenSpec.ofChange quickMoreSpec)) quickMoreCard

/-- THE TIED CARD OF 'hamperlaw21.QuickNames'. -/
def quickNamesCard : Claim7 := { stood := { row := quickNamesRow, standIns := [], harness := (true, "783d470a607880ec070b4ed0669331d517bed54b757f44bf684a3303d9568d28"), looks := false }, kinds := [], alts := [], laidByText := true, laidKinds := [.data, .pinned], laidTests := true, laidLooks := .later }
def QuickNamesCardSaid : Prop := Claim7.holds Tryd.pinned (.plain (OpenSpec.ofChange quickNamesSpec)) quickNamesCard

/-- THE TIED CARD OF 'hamperlaw21.QuickBack'. -/
def quickBackCard : Claim7 := { stood := { row := quickBackRow, standIns := [], harness := (true, "783d470a607880ec070b4ed0669331d517bed54b757f44bf684a3303d9568d28"), looks := false }, kinds := [], alts := [], laidByText := true, laidKinds := [.data, .pinned], laidTests := true, laidLooks := .later }
def QuickBackCardSaid : Prop := Claim7.holds Tryd.pinned (.plain (OpenSpec.ofChange quickBackSpec)) quickBackCard

/-- THE TIED CARD OF 'hamperlaw21.QuickTurned'. -/
def quickTurnedCard : Claim7 := { stood := { row := quickTurnedRow, standIns := [], harness := (true, "783d470a607880ec070b4ed0669331d517bed54b757f44bf684a3303d9568d28"), looks := false }, kinds := [], alts := [], laidByText := true, laidKinds := [.data, .pinned], laidTests := true, laidLooks := .later }
def QuickTurnedCardSaid : Prop := Claim7.holds Tryd.pinned (.plain (OpenSpec.ofChange quickTurnedSpec)) quickTurnedCard

/-- THE SECOND FORM's CARD OF 'hamperlaw21.QuickMakes'. -/
def quickMakesUptoCard : Claim7 := { stood := { row := quickMakesUptoRow, standIns := [], harness := (true, "783d470a607880ec070b4ed0669331d517bed54b757f44bf684a3303d9568d28"), looks := false }, kinds := [], alts := [], laidByText := true, laidKinds := [.data, .pinned], laidTests := true, laidLooks := .later }
def QuickMakesUptoCardSaid : Prop := Claim7.holds Tryd.pinned (.plain (OpenSpec.upto quickMakesSpec)) quickMakesUptoCard

/-- THE SECOND FORM's CARD OF 'hamperlaw21.QuickReads'. -/
def quickReadsUptoCard : Claim7 := { stood := { row := quickReadsUptoRow, standIns := [], harness := (true, "783d470a607880ec070b4ed0669331d517bed54b757f44bf684a3303d9568d28"), looks := false }, kinds := [], alts := [], laidByText := true, laidKinds := [.data, .pinned], laidTests := true, laidLooks := .later }
def QuickReadsUptoCardSaid : Prop := Claim7.holds Tryd.pinned (.plain (OpenSpec.upto quickReadsSpec)) quickReadsUptoCard

/-- THE SECOND FORM's CARD OF 'hamperlaw21.QuickMore'. -/
def quickMoreUptoCard : Claim7 := { stood := { row := quickMoreUptoRow, standIns := [], harness := (true, "783d470a607880ec070b4ed0669331d517bed54b757f44bf684a3303d9568d28"), looks := false }, kinds := [], alts := [], laidByText := true, laidKinds := [.data, .pinned], laidTests := true, laidLooks := .later }
def QuickMoreUptoCardSaid : Prop := Claim7.holds Tryd.pinned (.plain (OpenSpec.upto quickMoreSpec)) quickMoreUptoCard

/-- THE SECOND FORM's CARD OF 'hamperlaw21.QuickNames'. -/
def quickNamesUptoCard : Claim7 := { stood := { row := quickNamesUptoRow, standIns := [], harness := (true, "783d470a607880ec070b4ed0669331d517bed54b757f44bf684a3303d9568d28"), looks := false }, kinds := [], alts := [], laidByText := true, laidKinds := [.data, .pinned], laidTests := true, laidLooks := .later }
def QuickNamesUptoCardSaid : Prop := Claim7.holds Tryd.pinned (.plain (OpenSpec.upto quickNamesSpec)) quickNamesUptoCard

/-- THE SECOND FORM's CARD OF 'hamperlaw21.QuickBack'. -/
def quickBackUptoCard : Claim7 := { stood := { row := quickBackUptoRow, standIns := [], harness := (true, "783d470a607880ec070b4ed0669331d517bed54b757f44bf684a3303d9568d28"), looks := false }, kinds := [], alts := [], laidByText := true, laidKinds := [.data, .pinned], laidTests := true, laidLooks := .later }
def QuickBackUptoCardSaid : Prop := Claim7.holds Tryd.pinned (.plain (OpenSpec.upto quickBackSpec)) quickBackUptoCard

/-- THE SECOND FORM's CARD OF 'hamperlaw21.QuickTurned'. -/
def quickTurnedUptoCard : Claim7 := { stood := { row := quickTurnedUptoRow, standIns := [], harness := (true, "783d470a607880ec070b4ed0669331d517bed54b757f44bf684a3303d9568d28"), looks := false }, kinds := [], alts := [], laidByText := true, laidKinds := [.data, .pinned], laidTests := true, laidLooks := .later }
def QuickTurnedUptoCardSaid : Prop := Claim7.holds Tryd.pinned (.plain (OpenSpec.upto quickTurnedSpec)) quickTurnedUptoCard
end Rows
end Go.Proofs.YtbeibmdccjgcmaaDoor
