/-
  DERIVED. GIVEN WITH THE SEED: THE CARDS: each row of YtoanlppfdniiaaaDoorRows.lean that lists a variable, with what it lists TIED to the program's text (the seventh form; the later family's looks); each row that meets fmt, with fmt's text TOLD by the authors' own Lean function (tested against real Go, not proved from fmt's source: count such statements apart). THE CARD IS WHAT COUNTS. Prove the row's statement (the work); the ties are given (YtoanlppfdniiaaaDoorTie.lean); close each card by the builder's one call (the guide's Derived/Test/ToyasCard.lean, 'card_holds'). Laid BY PROGRAM, IN A SANDBOX (cutbox-door.mjs). By AI agents, Wed Nov 11 2026. No macro, syntax, notation, axiom, sorry.
-/
import Derived.Test.YtoanlppfdniiaaaDoorRows
import GoSem.ClaimSeven
namespace Go.Proofs.YtoanlppfdniiaaaDoor
namespace Rows

/-- THE TIED CARD OF 'girolaw35.SubstitutionMinimum'. -/
def substitutionMinimumCard : Claim7 := { stood := { row := substitutionMinimumRow, standIns := [], harness := (true, "a23a2064ad0e6946bcb2f337b05e3ed3bb45dcf3b58bc8fcef1511b177e89739"), looks := false }, kinds := [], alts := [], laidByText := true, laidKinds := [.data, .data, .data], laidTests := true, laidLooks := .later }
def SubstitutionMinimumCardSaid : Prop := Claim7.holds Tryd.pinned (.plain (OpenSpec.ofChange substitutionMinimumSpec)) substitutionMinimumCard

/-- THE TIED CARD OF 'girolaw35.SubstitutionLimits'. -/
def substitutionLimitsCard : Claim7 := { stood := { row := substitutionLimitsRow, standIns := [], harness := (true, "a23a2064ad0e6946bcb2f337b05e3ed3bb45dcf3b58bc8fcef1511b177e89739"), looks := false }, kinds := [], alts := [], laidByText := true, laidKinds := [.data, .data, .data], laidTests := true, laidLooks := .later }
def SubstitutionLimitsCardSaid : Prop := Claim7.holds Tryd.pinned (.plain (OpenSpec.ofChange substitutionLimitsSpec)) substitutionLimitsCard

/-- THE TIED CARD OF 'girolaw35.SubstitutionCover'. -/
def substitutionCoverCard : Claim7 := { stood := { row := substitutionCoverRow, standIns := [], harness := (true, "a23a2064ad0e6946bcb2f337b05e3ed3bb45dcf3b58bc8fcef1511b177e89739"), looks := false }, kinds := [], alts := [], laidByText := true, laidKinds := [.data, .data, .data], laidTests := true, laidLooks := .later }
def SubstitutionCoverCardSaid : Prop := Claim7.holds Tryd.pinned (.plain (OpenSpec.ofChange substitutionCoverSpec)) substitutionCoverCard

/-- THE TIED CARD OF 'girolaw35.SubstitutionSteps'. -/
def substitutionStepsCard : Claim7 := { stood := { row := substitutionStepsRow, standIns := [], harness := (true, "a23a2064ad0e6946bcb2f337b05e3ed3bb45dcf3b58bc8fcef1511b177e89739"), looks := false }, kinds := [], alts := [], laidByText := true, laidKinds := [.data, .data, .data], laidTests := true, laidLooks := .later }
def SubstitutionStepsCardSaid : Prop := Claim7.holds Tryd.pinned (.plain (OpenSpec.ofChange substitutionStepsSpec)) substitutionStepsCard

/-- THE SECOND FORM's CARD OF 'girolaw35.SubstitutionMinimum'. -/
def substitutionMinimumUptoCard : Claim7 := { stood := { row := substitutionMinimumUptoRow, standIns := [], harness := (true, "a23a2064ad0e6946bcb2f337b05e3ed3bb45dcf3b58bc8fcef1511b177e89739"), looks := false }, kinds := [], alts := [], laidByText := true, laidKinds := [.data, .data, .data], laidTests := true, laidLooks := .later }
def SubstitutionMinimumUptoCardSaid : Prop := Claim7.holds Tryd.pinned (.plain (OpenSpec.upto substitutionMinimumSpec)) substitutionMinimumUptoCard

/-- THE SECOND FORM's CARD OF 'girolaw35.SubstitutionLimits'. -/
def substitutionLimitsUptoCard : Claim7 := { stood := { row := substitutionLimitsUptoRow, standIns := [], harness := (true, "a23a2064ad0e6946bcb2f337b05e3ed3bb45dcf3b58bc8fcef1511b177e89739"), looks := false }, kinds := [], alts := [], laidByText := true, laidKinds := [.data, .data, .data], laidTests := true, laidLooks := .later }
def SubstitutionLimitsUptoCardSaid : Prop := Claim7.holds Tryd.pinned (.plain (OpenSpec.upto substitutionLimitsSpec)) substitutionLimitsUptoCard

/-- THE SECOND FORM's CARD OF 'girolaw35.SubstitutionCover'. -/
def substitutionCoverUptoCard : Claim7 := { stood := { row := substitutionCoverUptoRow, standIns := [], harness := (true, "a23a2064ad0e6946bcb2f337b05e3ed3bb45dcf3b58bc8fcef1511b177e89739"), looks := false }, kinds := [], alts := [], laidByText := true, laidKinds := [.data, .data, .data], laidTests := true, laidLooks := .later }
def SubstitutionCoverUptoCardSaid : Prop := Claim7.holds Tryd.pinned (.plain (OpenSpec.upto substitutionCoverSpec)) substitutionCoverUptoCard

/-- THE SECOND FORM's CARD OF 'girolaw35.SubstitutionSteps'. -/
def substitutionStepsUptoCard : Claim7 := { stood := { row := substitutionStepsUptoRow, standIns := [], harness := (true, "a23a2064ad0e6946bcb2f337b05e3ed3bb45dcf3b58bc8fcef1511b177e89739"), looks := false }, kinds := [], alts := [], laidByText := true, laidKinds := [.data, .data, .data], laidTests := true, laidLooks := .later }
def SubstitutionStepsUptoCardSaid : Prop := Claim7.holds Tryd.pinned (.plain (OpenSpec.upto substitutionStepsSpec)) substitutionStepsUptoCard
end Rows
end Go.Proofs.YtoanlppfdniiaaaDoor
