/-
  DERIVED. GIVEN WITH THE SEED: THE CARDS: each row of YtkmakknjackdiaaDoorRows.lean that lists a variable, with what it lists TIED to the program's text (the seventh form; the later family's looks); each row that meets fmt, with fmt's text TOLD by the authors' own Lean function (tested against real Go, not proved from fmt's source: count such statements apart). THE CARD IS WHAT COUNTS. Prove the row's statement (the work); the ties are given (YtkmakknjackdiaaDoorTie.lean); close each card by the builder's one call (the guide's Derived/Test/ToyasCard.lean, 'card_holds'). Laid BY PROGRAM, IN A SANDBOX (cutbox-door.mjs). By AI agents, Wed Nov 11 2026. No macro, syntax, notation, axiom, sorry.
-/
import Derived.Test.YtkmakknjackdiaaDoorRows
import GoSem.ClaimSeven
namespace Go.Proofs.YtkmakknjackdiaaDoor
namespace Rows

/-- THE TIED CARD OF 'laws.FnExactRatFrom'. -/
def fnExactRatFromCard : Claim7 := { stood := { row := fnExactRatFromRow, standIns := [], harness := (true, "fe3ad36a56ebecfcdb2fc4d0d02282b82cccdefa5d0e2e73d42dcb986a608345"), looks := true }, kinds := [], alts := [], laidByText := true, laidKinds := [.data, .data, .data, .sentinel, .sentinel], laidTests := true, laidLooks := .later }
def FnExactRatFromCardSaid : Prop := Claim7.holds Tryd.pinned (.plain (OpenSpec.ofChange fnExactRatFromSpec)) fnExactRatFromCard

/-- THE TIED CARD OF 'laws.FnRatText'. -/
def fnRatTextCard : Claim7 := { stood := { row := fnRatTextRow, standIns := [], harness := (true, "fe3ad36a56ebecfcdb2fc4d0d02282b82cccdefa5d0e2e73d42dcb986a608345"), looks := true }, kinds := [], alts := [], laidByText := true, laidKinds := [.data, .data, .data, .sentinel, .sentinel], laidTests := true, laidLooks := .later }
def FnRatTextCardSaid : Prop := Claim7.holds Tryd.pinned (.plain (OpenSpec.ofChange fnRatTextSpec)) fnRatTextCard

/-- THE TIED CARD OF 'laws.FnRatFrom'. -/
def fnRatFromCard : Claim7 := { stood := { row := fnRatFromRow, standIns := [], harness := (true, "fe3ad36a56ebecfcdb2fc4d0d02282b82cccdefa5d0e2e73d42dcb986a608345"), looks := true }, kinds := [], alts := [], laidByText := true, laidKinds := [.data, .data, .data, .sentinel, .sentinel], laidTests := true, laidLooks := .later }
def FnRatFromCardSaid : Prop := Claim7.holds Tryd.pinned (.plain (OpenSpec.ofChange fnRatFromSpec)) fnRatFromCard

/-- THE TIED CARD OF 'laws.FnExactSpinText'. -/
def fnExactSpinTextCard : Claim7 := { stood := { row := fnExactSpinTextRow, standIns := [], harness := (true, "fe3ad36a56ebecfcdb2fc4d0d02282b82cccdefa5d0e2e73d42dcb986a608345"), looks := true }, kinds := [], alts := [], laidByText := true, laidKinds := [.data, .data, .data], laidTests := true, laidLooks := .later }
def FnExactSpinTextCardSaid : Prop := Claim7.holds Tryd.pinned (.plain (OpenSpec.ofChange fnExactSpinTextSpec)) fnExactSpinTextCard

/-- THE TIED CARD OF 'laws.FnSpinText'. -/
def fnSpinTextCard : Claim7 := { stood := { row := fnSpinTextRow, standIns := [], harness := (true, "fe3ad36a56ebecfcdb2fc4d0d02282b82cccdefa5d0e2e73d42dcb986a608345"), looks := true }, kinds := [], alts := [], laidByText := true, laidKinds := [.data, .data, .data], laidTests := true, laidLooks := .later }
def FnSpinTextCardSaid : Prop := Claim7.holds Tryd.pinned (.plain (OpenSpec.ofChange fnSpinTextSpec)) fnSpinTextCard

/-- THE TIED CARD OF 'laws.FnExactRatText'. -/
def fnExactRatTextCard : Claim7 := { stood := { row := fnExactRatTextRow, standIns := [], harness := (true, "fe3ad36a56ebecfcdb2fc4d0d02282b82cccdefa5d0e2e73d42dcb986a608345"), looks := true }, kinds := [], alts := [], laidByText := true, laidKinds := [.data, .data, .data], laidTests := true, laidLooks := .later }
def FnExactRatTextCardSaid : Prop := Claim7.holds Tryd.pinned (.plain (OpenSpec.ofChange fnExactRatTextSpec)) fnExactRatTextCard

/-- THE SECOND FORM's CARD OF 'laws.FnExactRatFrom'. -/
def fnExactRatFromUptoCard : Claim7 := { stood := { row := fnExactRatFromUptoRow, standIns := [], harness := (true, "fe3ad36a56ebecfcdb2fc4d0d02282b82cccdefa5d0e2e73d42dcb986a608345"), looks := true }, kinds := [], alts := [], laidByText := true, laidKinds := [.data, .data, .data, .sentinel, .sentinel], laidTests := true, laidLooks := .later }
def FnExactRatFromUptoCardSaid : Prop := Claim7.holds Tryd.pinned (.plain (OpenSpec.upto fnExactRatFromSpec)) fnExactRatFromUptoCard

/-- THE SECOND FORM's CARD OF 'laws.FnRatText'. -/
def fnRatTextUptoCard : Claim7 := { stood := { row := fnRatTextUptoRow, standIns := [], harness := (true, "fe3ad36a56ebecfcdb2fc4d0d02282b82cccdefa5d0e2e73d42dcb986a608345"), looks := true }, kinds := [], alts := [], laidByText := true, laidKinds := [.data, .data, .data, .sentinel, .sentinel], laidTests := true, laidLooks := .later }
def FnRatTextUptoCardSaid : Prop := Claim7.holds Tryd.pinned (.plain (OpenSpec.upto fnRatTextSpec)) fnRatTextUptoCard

/-- THE SECOND FORM's CARD OF 'laws.FnRatFrom'. -/
def fnRatFromUptoCard : Claim7 := { stood := { row := fnRatFromUptoRow, standIns := [], harness := (true, "fe3ad36a56ebecfcdb2fc4d0d02282b82cccdefa5d0e2e73d42dcb986a608345"), looks := true }, kinds := [], alts := [], laidByText := true, laidKinds := [.data, .data, .data, .sentinel, .sentinel], laidTests := true, laidLooks := .later }
def FnRatFromUptoCardSaid : Prop := Claim7.holds Tryd.pinned (.plain (OpenSpec.upto fnRatFromSpec)) fnRatFromUptoCard

/-- THE SECOND FORM's CARD OF 'laws.FnExactSpinText'. -/
def fnExactSpinTextUptoCard : Claim7 := { stood := { row := fnExactSpinTextUptoRow, standIns := [], harness := (true, "fe3ad36a56ebecfcdb2fc4d0d02282b82cccdefa5d0e2e73d42dcb986a608345"), looks := true }, kinds := [], alts := [], laidByText := true, laidKinds := [.data, .data, .data], laidTests := true, laidLooks := .later }
def FnExactSpinTextUptoCardSaid : Prop := Claim7.holds Tryd.pinned (.plain (OpenSpec.upto fnExactSpinTextSpec)) fnExactSpinTextUptoCard

/-- THE SECOND FORM's CARD OF 'laws.FnSpinText'. -/
def fnSpinTextUptoCard : Claim7 := { stood := { row := fnSpinTextUptoRow, standIns := [], harness := (true, "fe3ad36a56ebecfcdb2fc4d0d02282b82cccdefa5d0e2e73d42dcb986a608345"), looks := true }, kinds := [], alts := [], laidByText := true, laidKinds := [.data, .data, .data], laidTests := true, laidLooks := .later }
def FnSpinTextUptoCardSaid : Prop := Claim7.holds Tryd.pinned (.plain (OpenSpec.upto fnSpinTextSpec)) fnSpinTextUptoCard

/-- THE SECOND FORM's CARD OF 'laws.FnExactRatText'. -/
def fnExactRatTextUptoCard : Claim7 := { stood := { row := fnExactRatTextUptoRow, standIns := [], harness := (true, "fe3ad36a56ebecfcdb2fc4d0d02282b82cccdefa5d0e2e73d42dcb986a608345"), looks := true }, kinds := [], alts := [], laidByText := true, laidKinds := [.data, .data, .data], laidTests := true, laidLooks := .later }
def FnExactRatTextUptoCardSaid : Prop := Claim7.holds Tryd.pinned (.plain (OpenSpec.upto fnExactRatTextSpec)) fnExactRatTextUptoCard
end Rows
end Go.Proofs.YtkmakknjackdiaaDoor
