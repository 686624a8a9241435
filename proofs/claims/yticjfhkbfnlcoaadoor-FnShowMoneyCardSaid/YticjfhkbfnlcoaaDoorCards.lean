/-
  DERIVED. GIVEN WITH THE SEED: THE CARDS: each row of YticjfhkbfnlcoaaDoorRows.lean that lists a variable, with what it lists TIED to the program's text (the seventh form; the later family's looks); each row that meets fmt, with fmt's text TOLD by the authors' own Lean function (tested against real Go, not proved from fmt's source: count such statements apart). THE CARD IS WHAT COUNTS. Prove the row's statement (the work); the ties are given (YticjfhkbfnlcoaaDoorTie.lean); close each card by the builder's one call (the guide's Derived/Test/ToyasCard.lean, 'card_holds'). Laid BY PROGRAM, IN A SANDBOX (cutbox-door.mjs). By AI agents, Wed Nov 11 2026. No macro, syntax, notation, axiom, sorry.
-/
import Derived.Test.YticjfhkbfnlcoaaDoorRows
import GoSem.ClaimSeven
namespace Go.Proofs.YticjfhkbfnlcoaaDoor
namespace Rows

/-- THE TIED CARD OF 'laws.FnExactReadMoney'. -/
def fnExactReadMoneyCard : Claim7 := { stood := { row := fnExactReadMoneyRow, standIns := [], harness := (true, "0b5d53c845bf871525f4eb560ac6413e9051e68aa9d7d243828105a0337c80fb"), looks := false }, kinds := [], alts := [], laidByText := true, laidKinds := [.data, .data, .data], laidTests := true, laidLooks := .later }
def FnExactReadMoneyCardSaid : Prop := Claim7.holds Tryd.pinned (.plain (OpenSpec.ofChange fnExactReadMoneySpec)) fnExactReadMoneyCard

/-- THE TIED CARD OF 'laws.FnShowMoney'. -/
def fnShowMoneyCard : Claim7 := { stood := { row := fnShowMoneyRow, standIns := [], harness := (true, "0b5d53c845bf871525f4eb560ac6413e9051e68aa9d7d243828105a0337c80fb"), looks := false }, kinds := [], alts := [], laidByText := true, laidKinds := [.data, .data, .data], laidTests := true, laidLooks := .later }
def FnShowMoneyCardSaid : Prop := Claim7.holds Tryd.pinned (.plain (OpenSpec.ofChange fnShowMoneySpec)) fnShowMoneyCard

/-- THE SECOND FORM's CARD OF 'laws.FnExactReadMoney'. -/
def fnExactReadMoneyUptoCard : Claim7 := { stood := { row := fnExactReadMoneyUptoRow, standIns := [], harness := (true, "0b5d53c845bf871525f4eb560ac6413e9051e68aa9d7d243828105a0337c80fb"), looks := false }, kinds := [], alts := [], laidByText := true, laidKinds := [.data, .data, .data], laidTests := true, laidLooks := .later }
def FnExactReadMoneyUptoCardSaid : Prop := Claim7.holds Tryd.pinned (.plain (OpenSpec.upto fnExactReadMoneySpec)) fnExactReadMoneyUptoCard

/-- THE SECOND FORM's CARD OF 'laws.FnShowMoney'. -/
def fnShowMoneyUptoCard : Claim7 := { stood := { row := fnShowMoneyUptoRow, standIns := [], harness := (true, "0b5d53c845bf871525f4eb560ac6413e9051e68aa9d7d243828105a0337c80fb"), looks := false }, kinds := [], alts := [], laidByText := true, laidKinds := [.data, .data, .data], laidTests := true, laidLooks := .later }
def FnShowMoneyUptoCardSaid : Prop := Claim7.holds Tryd.pinned (.plain (OpenSpec.upto fnShowMoneySpec)) fnShowMoneyUptoCard
end Rows
end Go.Proofs.YticjfhkbfnlcoaaDoor
