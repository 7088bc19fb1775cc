/- A part of the proof; no condition. -/
import Derived.Test.YtoanlppfdniiaaaGreatDoorX1
import Derived.Test.YtoanlppfdniiaaaGreatDoorX15
import Derived.Test.YtoanlppfdniiaaaGreatDoorX19
import Derived.Test.YtoanlppfdniiaaaGreatDoorX20
import Derived.Test.YtoanlppfdniiaaaGreatDoorX30
import Derived.Test.YtoanlppfdniiaaaGreatDoorX43
import Derived.Test.YtoanlppfdniiaaaGreatDoorX31
import Derived.Test.YtoanlppfdniiaaaGreatDoorX40
import Derived.Test.YtoanlppfdniiaaaGreatDoorX27
import Derived.Test.YtoanlppfdniiaaaGreatDoorX42
section
namespace Go.Proofs.YtoanlppfdniiaaaGreatDoor.Q
open Go.RowKit Go.Proofs.YtoanlppfdniiaaaGreatDoorW.PrintWords Go.Proofs.YtoanlppfdniiaaaGreatDoorW.PrintLast Go.Proofs.YtoanlppfdniiaaaGreatDoorW.PrintMore
attribute [local go_sem] max2_int min2_int max_two min_two max_three min_three max_four min_four
set_option linter.unusedVariables false
set_option linter.unusedSimpArgs false
def girolaw35_SubstitutionVerify.j0 : Nat → Bool → Int → List (S109) → List ByteArray → List (S109) → List (S109) → List (S109) → Int → Option (Bool)
  | 0, _, _, _, _, _, _, _, _ => none
  | k + 1, x32, x413000, x413001, x413002, x413003, x414000, x414001, x414002 => if x32 = true then ((girolaw35_known.f).bind fun t417 => (some t417)) else ((girolaw35_of.f k x413000 x413001 x413002 x413003).bind fun bt418 => ((girolaw35_plan.f k x414000 x414001 x414002).bind fun bt428 => ((substitution_Verify.f k bt418.1 bt418.2.1 bt418.2.2.1 bt418.2.2.2 bt428.1 bt428.2.1 bt428.2.2).bind fun t435 => ((giroref35_Verify.f k x413000 x413001 x413002 x413003 x414000 x414001 x414002).bind fun t436 => (if t435 = t436 then ((girolaw35_of.f k x413000 x413001 x413002 x413003).bind fun bt437 => ((substitution_Greedy.f bt437.1 bt437.2.1 bt437.2.2.1 bt437.2.2.2).bind fun bt447 => ((girolaw35_of.f k x413000 x413001 x413002 x413003).bind fun bt456 => ((substitution_Best.f bt456.1 bt456.2.1 bt456.2.2.1 bt456.2.2.2).bind fun bt466 => (if bt447.2.2.2 = 0 then ((girolaw35_of.f k x413000 x413001 x413002 x413003).bind fun bt475 => ((substitution_Verify.f k bt475.1 bt475.2.1 bt475.2.2.1 bt475.2.2.2 bt447.1 bt447.2.1 bt447.2.2.1).bind fun t485 => (if t485 = 0 then (if bt466.2.2.2 = 0 then ((girolaw35_of.f k x413000 x413001 x413002 x413003).bind fun bt486 => ((substitution_Verify.f k bt486.1 bt486.2.1 bt486.2.2.1 bt486.2.2.2 bt466.1 bt466.2.1 bt466.2.2.1).bind fun t496 => (some (t496 == 0)))) else (some true)) else (some false)))) else (if bt466.2.2.2 = 0 then ((girolaw35_of.f k x413000 x413001 x413002 x413003).bind fun bt497 => ((substitution_Verify.f k bt497.1 bt497.2.1 bt497.2.2.1 bt497.2.2.2 bt466.1 bt466.2.1 bt466.2.2.1).bind fun t507 => (some (t507 == 0)))) else (some true))))))) else (some false))))))
def girolaw35_SubstitutionVerify.f (k : Nat) (a0_0 : Int) (l0_1 : List (S109)) (l0_2 : List ByteArray) (l0_3 : List (S109)) (l1_0 : List (S109)) (l1_1 : List (S109)) (a1_2 : Int) : Option (Bool) := (girolaw35_known.f).bind fun t414 => (if t414 = true then ((girolaw35_few.f a0_0 l0_1 l0_2 l0_3).bind fun t415 => (if t415 = true then (if (l1_0.length : Int) > 14 then (girolaw35_SubstitutionVerify.j0 k true a0_0 l0_1 l0_2 l0_3 l1_0 l1_1 a1_2) else (if (l1_1.length : Int) > 14 then (girolaw35_SubstitutionVerify.j0 k true a0_0 l0_1 l0_2 l0_3 l1_0 l1_1 a1_2) else ((giroref35_Check.f k a0_0 l0_1 l0_2 l0_3).bind fun t416 => (girolaw35_SubstitutionVerify.j0 k (t416 != 0) a0_0 l0_1 l0_2 l0_3 l1_0 l1_1 a1_2)))) else (girolaw35_SubstitutionVerify.j0 k true a0_0 l0_1 l0_2 l0_3 l1_0 l1_1 a1_2))) else (girolaw35_SubstitutionVerify.j0 k true a0_0 l0_1 l0_2 l0_3 l1_0 l1_1 a1_2))
def girolaw35_SubstitutionVerify.T3 : Bool × List (List Nat × List Nat) := (true, [([], []), ([0], [0]), ([], []), ([2, 1], [2]), ([1, 3, 3], [1, 3]), ([], []), ([], []), ([5, 6, 4], [5, 6]), ([4, 7], [4, 7])])
def girolaw35_SubstitutionVerify.B3 : List Nat := [0, 1, 0, 7, 15, 0, 0, 127, 255]
theorem girolaw35_SubstitutionVerify.tab3 : rtab .any (opsOf Tryz.f6 3) = girolaw35_SubstitutionVerify.T3 := by kernel_rfl
theorem girolaw35_SubstitutionVerify.bits3 : waitsOk girolaw35_SubstitutionVerify.T3.2 girolaw35_SubstitutionVerify.B3 = true := by kernel_rfl
def girolaw35_SubstitutionVerify.T7 : Bool × List (List Nat × List Nat) := (true, [([], []), ([0], [0]), ([1], [1]), ([2], [2]), ([3, 2, 2], [2, 3]), ([2], [2]), ([4, 5, 4, 2], [2, 4, 5]), ([6, 2], [2, 6]), ([2, 7], [2, 7]), ([8, 6], [8]), ([9], [9]), ([10, 9], [9, 10]), ([11, 9, 9], [9, 11]), ([12], [12]), ([13, 12, 12], [12, 13]), ([12], [12]), ([14, 15, 14, 12], [12, 14, 15]), ([16, 12], [12, 16]), ([12, 17, 9], [9, 12, 17]), ([9, 18], [9, 18]), ([19, 16, 0, 1, 2, 3, 4, 5, 6, 7, 8, 9, 10, 11, 12, 13, 14, 15, 16, 17, 18, 19], [19])])
def girolaw35_SubstitutionVerify.B7 : List Nat := [0, 1, 3, 7, 15, 7, 63, 127, 255, 511, 1023, 2047, 4095, 8191, 16383, 8191, 65535, 131071, 262143, 524287, 1048575]
theorem girolaw35_SubstitutionVerify.tab7 : rtab .any (opsOf Tryz.f6 7) = girolaw35_SubstitutionVerify.T7 := by kernel_rfl
theorem girolaw35_SubstitutionVerify.bits7 : waitsOk girolaw35_SubstitutionVerify.T7.2 girolaw35_SubstitutionVerify.B7 = true := by kernel_rfl
end Go.Proofs.YtoanlppfdniiaaaGreatDoor.Q
end
