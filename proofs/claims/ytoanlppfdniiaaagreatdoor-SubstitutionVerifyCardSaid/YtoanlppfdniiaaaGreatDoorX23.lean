/- A part of the proof; no condition. -/
import Derived.Test.YtoanlppfdniiaaaGreatDoorX1
section
namespace Go.Proofs.YtoanlppfdniiaaaGreatDoor.Q
open Go.RowKit Go.Proofs.YtoanlppfdniiaaaGreatDoorW.PrintWords Go.Proofs.YtoanlppfdniiaaaGreatDoorW.PrintLast Go.Proofs.YtoanlppfdniiaaaGreatDoorW.PrintMore
attribute [local go_sem] max2_int min2_int max_two min_two max_three min_three max_four min_four
set_option linter.unusedVariables false
set_option linter.unusedSimpArgs false
def girolaw35_back.T5 : Bool × List (List Nat × List Nat) := (true, [([], []), ([], []), ([], []), ([1, 2], [1, 2]), ([3], [3]), ([4], [4]), ([], []), ([], []), ([6, 7], [6, 7]), ([8], [8]), ([9], [9]), ([], []), ([], []), ([11, 12], [11, 12]), ([13], [13]), ([14], [14]), ([5, 10, 15], [5, 10, 15]), ([16], [16]), ([0, 17], [0, 17]), ([18, 18, 0, 1, 2, 3, 4, 5, 6, 7, 8, 9, 10, 11, 12, 13, 14, 15, 16, 17, 18], [0, 18])])
def girolaw35_back.B5 : List Nat := [0, 0, 0, 6, 14, 30, 0, 0, 192, 448, 960, 0, 0, 6144, 14336, 30720, 65534, 131070, 262143, 524287]
theorem girolaw35_back.tab5 : rtab .any (opsOf Tryz.f61 5) = girolaw35_back.T5 := by kernel_rfl
theorem girolaw35_back.bits5 : waitsOk girolaw35_back.T5.2 girolaw35_back.B5 = true := by kernel_rfl
def girolaw35_to.T1 : Bool × List (List Nat × List Nat) := (true, [([], []), ([0], [0]), ([1], [1]), ([], []), ([3], [3]), ([4, 2], [4]), ([], []), ([6], [6]), ([2, 5, 7], [2, 5, 7]), ([8, 5, 0, 1, 2, 3, 4, 5, 6, 7, 8], [8])])
def girolaw35_to.B1 : List Nat := [0, 1, 3, 0, 8, 31, 0, 64, 255, 511]
theorem girolaw35_to.tab1 : rtab .any (opsOf Tryz.f23 1) = girolaw35_to.T1 := by kernel_rfl
theorem girolaw35_to.bits1 : waitsOk girolaw35_to.T1.2 girolaw35_to.B1 = true := by kernel_rfl
end Go.Proofs.YtoanlppfdniiaaaGreatDoor.Q
end
