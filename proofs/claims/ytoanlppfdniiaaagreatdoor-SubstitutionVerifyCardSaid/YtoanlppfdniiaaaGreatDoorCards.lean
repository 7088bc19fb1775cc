/-
  DERIVED. GIVEN WITH THE SEED: THE CARDS: each row of YtoanlppfdniiaaaGreatDoorRows.lean that lists a variable, with what it lists TIED to the program's text (the seventh form; the later family's looks); each row that meets fmt, with fmt's text TOLD by the authors' own Lean function (tested against real Go, not proved from fmt's source: count such statements apart). THE CARD IS WHAT COUNTS. Prove the row's statement (the work); the ties are given (YtoanlppfdniiaaaGreatDoorTie.lean); close each card by the builder's one call (the guide's Derived/Test/ToyasCard.lean, 'card_holds'). Laid BY PROGRAM, IN A SANDBOX (cutbox-door.mjs). By AI agents, Wed Nov 11 2026. No macro, syntax, notation, axiom, sorry.
-/
import Derived.Test.YtoanlppfdniiaaaGreatDoorRows
import GoSem.ClaimSeven
namespace Go.Proofs.YtoanlppfdniiaaaGreatDoor
namespace Rows

/-- THE TIED CARD OF 'girotop.SystemSubstitution'. -/
def systemSubstitutionCard : Claim7 := { stood := { row := systemSubstitutionRow, standIns := [], harness := (true, "a03886e39844877e1ebab1ed54b7bf82e32bdfa65bb1d6847354c106154739e8"), looks := false }, kinds := [], alts := [], laidByText := true, laidKinds := [.data, .data, .data], laidTests := true, laidLooks := .later }
def SystemSubstitutionCardSaid : Prop := Claim7.holds Tryz.pinned (.plain (OpenSpec.ofChange systemSubstitutionSpec)) systemSubstitutionCard

/-- THE TIED CARD OF 'girolaw35.SubstitutionGreedy'. -/
def substitutionGreedyCard : Claim7 := { stood := { row := substitutionGreedyRow, standIns := [], harness := (true, "a03886e39844877e1ebab1ed54b7bf82e32bdfa65bb1d6847354c106154739e8"), looks := false }, kinds := [], alts := [], laidByText := true, laidKinds := [.data, .data, .data], laidTests := true, laidLooks := .later }
def SubstitutionGreedyCardSaid : Prop := Claim7.holds Tryz.pinned (.plain (OpenSpec.ofChange substitutionGreedySpec)) substitutionGreedyCard

/-- THE TIED CARD OF 'girolaw35.SubstitutionBest'. -/
def substitutionBestCard : Claim7 := { stood := { row := substitutionBestRow, standIns := [], harness := (true, "a03886e39844877e1ebab1ed54b7bf82e32bdfa65bb1d6847354c106154739e8"), looks := false }, kinds := [], alts := [], laidByText := true, laidKinds := [.data, .data, .data], laidTests := true, laidLooks := .later }
def SubstitutionBestCardSaid : Prop := Claim7.holds Tryz.pinned (.plain (OpenSpec.ofChange substitutionBestSpec)) substitutionBestCard

/-- THE TIED CARD OF 'girolaw35.SubstitutionVerify'. -/
def substitutionVerifyCard : Claim7 := { stood := { row := substitutionVerifyRow, standIns := [], harness := (true, "a03886e39844877e1ebab1ed54b7bf82e32bdfa65bb1d6847354c106154739e8"), looks := false }, kinds := [], alts := [], laidByText := true, laidKinds := [.data, .data, .data], laidTests := true, laidLooks := .later }
def SubstitutionVerifyCardSaid : Prop := Claim7.holds Tryz.pinned (.plain (OpenSpec.ofChange substitutionVerifySpec)) substitutionVerifyCard

/-- THE TIED CARD OF 'girolaw35.SubstitutionChecks'. -/
def substitutionChecksCard : Claim7 := { stood := { row := substitutionChecksRow, standIns := [], harness := (true, "a03886e39844877e1ebab1ed54b7bf82e32bdfa65bb1d6847354c106154739e8"), looks := false }, kinds := [], alts := [], laidByText := true, laidKinds := [.data, .data, .data], laidTests := true, laidLooks := .later }
def SubstitutionChecksCardSaid : Prop := Claim7.holds Tryz.pinned (.plain (OpenSpec.ofChange substitutionChecksSpec)) substitutionChecksCard

/-- THE SECOND FORM's CARD OF 'girotop.SystemSubstitution'. -/
def systemSubstitutionUptoCard : Claim7 := { stood := { row := systemSubstitutionUptoRow, standIns := [], harness := (true, "a03886e39844877e1ebab1ed54b7bf82e32bdfa65bb1d6847354c106154739e8"), looks := false }, kinds := [], alts := [], laidByText := true, laidKinds := [.data, .data, .data], laidTests := true, laidLooks := .later }
def SystemSubstitutionUptoCardSaid : Prop := Claim7.holds Tryz.pinned (.plain (OpenSpec.upto systemSubstitutionSpec)) systemSubstitutionUptoCard

/-- THE SECOND FORM's CARD OF 'girolaw35.SubstitutionGreedy'. -/
def substitutionGreedyUptoCard : Claim7 := { stood := { row := substitutionGreedyUptoRow, standIns := [], harness := (true, "a03886e39844877e1ebab1ed54b7bf82e32bdfa65bb1d6847354c106154739e8"), looks := false }, kinds := [], alts := [], laidByText := true, laidKinds := [.data, .data, .data], laidTests := true, laidLooks := .later }
def SubstitutionGreedyUptoCardSaid : Prop := Claim7.holds Tryz.pinned (.plain (OpenSpec.upto substitutionGreedySpec)) substitutionGreedyUptoCard

/-- THE SECOND FORM's CARD OF 'girolaw35.SubstitutionBest'. -/
def substitutionBestUptoCard : Claim7 := { stood := { row := substitutionBestUptoRow, standIns := [], harness := (true, "a03886e39844877e1ebab1ed54b7bf82e32bdfa65bb1d6847354c106154739e8"), looks := false }, kinds := [], alts := [], laidByText := true, laidKinds := [.data, .data, .data], laidTests := true, laidLooks := .later }
def SubstitutionBestUptoCardSaid : Prop := Claim7.holds Tryz.pinned (.plain (OpenSpec.upto substitutionBestSpec)) substitutionBestUptoCard

/-- THE SECOND FORM's CARD OF 'girolaw35.SubstitutionVerify'. -/
def substitutionVerifyUptoCard : Claim7 := { stood := { row := substitutionVerifyUptoRow, standIns := [], harness := (true, "a03886e39844877e1ebab1ed54b7bf82e32bdfa65bb1d6847354c106154739e8"), looks := false }, kinds := [], alts := [], laidByText := true, laidKinds := [.data, .data, .data], laidTests := true, laidLooks := .later }
def SubstitutionVerifyUptoCardSaid : Prop := Claim7.holds Tryz.pinned (.plain (OpenSpec.upto substitutionVerifySpec)) substitutionVerifyUptoCard

/-- THE SECOND FORM's CARD OF 'girolaw35.SubstitutionChecks'. -/
def substitutionChecksUptoCard : Claim7 := { stood := { row := substitutionChecksUptoRow, standIns := [], harness := (true, "a03886e39844877e1ebab1ed54b7bf82e32bdfa65bb1d6847354c106154739e8"), looks := false }, kinds := [], alts := [], laidByText := true, laidKinds := [.data, .data, .data], laidTests := true, laidLooks := .later }
def SubstitutionChecksUptoCardSaid : Prop := Claim7.holds Tryz.pinned (.plain (OpenSpec.upto substitutionChecksSpec)) substitutionChecksUptoCard
end Rows
end Go.Proofs.YtoanlppfdniiaaaGreatDoor
