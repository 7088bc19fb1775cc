/- A part of the proof, joined by a program of this session out of its texts; no condition. -/
import Derived.Test.YtoanlppfdniiaaaGreatDoorV1
import Derived.Test.YtoanlppfdniiaaaGreatDoorV22
section
namespace Go.Proofs.YtoanlppfdniiaaaGreatDoor.Q
open Go.RowKit Go.Proofs.YtoanlppfdniiaaaGreatDoorW.PrintWords Go.Proofs.YtoanlppfdniiaaaGreatDoorW.PrintLast Go.Proofs.YtoanlppfdniiaaaGreatDoorW.PrintMore
attribute [local go_sem] max2_int min2_int max_two min_two max_three min_three max_four min_four
set_option linter.unusedVariables false
set_option linter.unusedSimpArgs false
theorem info4 : (Tryz.prog.info? 4).map (fun i => (i.zero, i.size, i.bytes)) = some (some (.bool false), 1, 1) := by kernel_rfl
mutual
def giroref35_Greedy.l0 : Nat → List Bool → Int → List (S109) → List ByteArray → List (S109) → List (S109) → List (S109) → Int → Option ((List (S109)) × (List (S109)) × Int × Bool)
 | 0, _, _, _, _, _, _, _, _ => none
 | k + 1, x5, x213000, x213001, x213002, x213003, x219000, x219001, x219002 => if x219002 < x213000 then (giroref35_Greedy.l1 k x5 (-1) 0 x213000 x213001 x213002 x213003 x219000 x219001 x219002) else (some (x219000, x219001, x219002, true))
def giroref35_Greedy.l1 : Nat → List Bool → Int → Int → Int → List (S109) → List ByteArray → List (S109) → List (S109) → List (S109) → Int → Option ((List (S109)) × (List (S109)) × Int × Bool)
 | 0, _, _, _, _, _, _, _, _, _, _ => none
 | k + 1, x5, x6, x7, x213000, x213001, x213002, x213003, x219000, x219001, x219002 => if x7 < (x213003.length : Int) then (if 0 ≤ x7 then (if x7 < (x5.length : Int) then (if rdOf false x5 x7 = true then (giroref35_Greedy.l1 k x5 x6 (wrap64 (x7 + 1)) x213000 x213001 x213002 x213003 x219000 x219001 x219002) else (if x6 < 0 then (giroref35_Greedy.l1 k x5 x7 (wrap64 (x7 + 1)) x213000 x213001 x213002 x213003 x219000 x219001 x219002) else (if 0 ≤ x6 then (if x6 < (x213003.length : Int) then (if ((rd_T109 x213003 x7).f2) > ((rd_T109 x213003 x6).f2) then (giroref35_Greedy.l1 k x5 x7 (wrap64 (x7 + 1)) x213000 x213001 x213002 x213003 x219000 x219001 x219002) else (if ((rd_T109 x213003 x7).f2) = ((rd_T109 x213003 x6).f2) then (if (Op.bytesLess (((rd_T109 x213003 x7).f0).toList) (((rd_T109 x213003 x6).f0).toList)) = true then (giroref35_Greedy.l1 k x5 x7 (wrap64 (x7 + 1)) x213000 x213001 x213002 x213003 x219000 x219001 x219002) else (giroref35_Greedy.l1 k x5 x6 (wrap64 (x7 + 1)) x213000 x213001 x213002 x213003 x219000 x219001 x219002)) else (giroref35_Greedy.l1 k x5 x6 (wrap64 (x7 + 1)) x213000 x213001 x213002 x213003 x219000 x219001 x219002))) else (none)) else (none)))) else (none)) else (none)) else (if x6 < 0 then (some (([] : List (S109)), ([] : List (S109)), 0, false)) else (if 0 ≤ x6 then (if x6 < (x5.length : Int) then (if x6 < (x213003.length : Int) then (if x219000.length < 4398046511104 then (giroref35_Greedy.l0 k (x5.set (x6 : Int).toNat true) x213000 x213001 x213002 x213003 (x219000 ++ [(⟨(rd_T109 x213003 x6).f0, (rd_T109 x213003 x6).f1, (rd_T109 x213003 x6).f2⟩ : S109)]) x219001 (wrap64 (x219002 + ((rd_T109 x213003 x6).f2)))) else (none)) else (none)) else (none)) else (none)))
end
def giroref35_Greedy.f (k : Nat) (a0_0 : Int) (l0_1 : List (S109)) (l0_2 : List ByteArray) (l0_3 : List (S109)) : Option ((List (S109)) × (List (S109)) × Int × Bool) := (giroref35_Released.f k a0_0 l0_1 l0_2 l0_3).bind fun t214 => ((giroref35_Kept.f k a0_0 l0_1 l0_2 l0_3).bind fun t217 => (if 0 ≤ (l0_3.length : Int) then (if ((l0_3.length : Int) : Int).toNat ≤ 281474976710656 then (giroref35_Greedy.l0 k (List.replicate ((l0_3.length : Int) : Int).toNat false) a0_0 l0_1 l0_2 l0_3 ([] : List (S109)) t214 t217) else (none)) else (none)))
def giroref35_Greedy.T9 : Bool × List (List Nat × List Nat) := (true, [([], []), ([0], [0]), ([1], [1]), ([2], [2]), ([3, 2], [2, 3]), ([2], [2]), ([4, 5, 2], [2, 4, 5]), ([6, 2], [2, 6]), ([7, 2], [2, 7]), ([2], [2]), ([9, 2], [2, 9]), ([2], [2]), ([10, 11, 2], [2, 10, 11]), ([12, 2], [2, 12]), ([13, 2], [2, 13]), ([8, 14, 2], [2, 8, 14]), ([2, 15], [2, 15]), ([16, 2], [16]), ([17], [17]), ([18, 17], [17, 18]), ([17], [17]), ([19, 20, 17], [17, 19, 20]), ([21, 17], [17, 21]), ([22, 17], [17, 22]), ([17], [17]), ([24, 17], [17, 24]), ([17], [17]), ([25, 26, 17], [17, 25, 26]), ([27, 17], [17, 27]), ([28, 17], [17, 28]), ([23, 29, 17], [17, 23, 29]), ([30, 17, 17], [17, 30]), ([31], [31]), ([32, 31], [31, 32]), ([31], [31]), ([33, 34, 31], [31, 33, 34]), ([35, 31], [31, 35]), ([36, 31], [31, 36]), ([31], [31]), ([38, 31], [31, 38]), ([31], [31]), ([39, 40, 31], [31, 39, 40]), ([41, 31], [31, 41]), ([42, 31], [31, 42]), ([37, 43, 31], [31, 37, 43]), ([31, 44, 17], [17, 31, 44]), ([17, 45], [17, 45])])
def giroref35_Greedy.B9 : List Nat := [0, 1, 3, 7, 15, 7, 63, 127, 255, 7, 519, 7, 3591, 7687, 15879, 32767, 65535, 131071, 262143, 524287, 262143, 2097151, 4194303, 8388607, 262143, 17039359, 262143, 117702655, 251920383, 520355839, 1073741823, 2147483647, 4294967295, 8589934591, 4294967295, 34359738367, 68719476735, 137438953471, 4294967295, 279172874239, 4294967295, 1928440315903, 4127463571455, 8525510082559, 17592186044415, 35184372088831, 70368744177663]
theorem giroref35_Greedy.tab9 : rtab .any (opsOf Tryz.f21 9) = giroref35_Greedy.T9 := by kernel_rfl
theorem giroref35_Greedy.bits9 : waitsOk giroref35_Greedy.T9.2 giroref35_Greedy.B9 = true := by kernel_rfl
def giroref35_Greedy.T14 : Bool × List (List Nat × List Nat) := (true, [([], []), ([0], [0]), ([], []), ([2], [2]), ([], []), ([3, 4], [3, 4]), ([5], [5]), ([6], [6]), ([1, 7], [1, 7]), ([0, 1, 2, 3, 4, 5, 6, 7, 8], []), ([9, 8, 8, 0, 1, 2, 3, 4, 5, 6, 7, 8], [8, 9])])
def giroref35_Greedy.B14 : List Nat := [0, 1, 0, 4, 0, 28, 60, 124, 255, 511, 1023]
theorem giroref35_Greedy.tab14 : rtab .any (opsOf Tryz.f21 14) = giroref35_Greedy.T14 := by kernel_rfl
theorem giroref35_Greedy.bits14 : waitsOk giroref35_Greedy.T14.2 giroref35_Greedy.B14 = true := by kernel_rfl
def giroref35_Greedy.T15 : Bool × List (List Nat × List Nat) := (true, [([], []), ([0], [0]), ([], []), ([2], [2]), ([], []), ([3, 4], [3, 4]), ([5], [5]), ([6], [6]), ([1, 7], [1, 7]), ([0, 1, 2, 3, 4, 5, 6, 7, 8], []), ([9, 8, 0, 1, 2, 3, 4, 5, 6, 7, 8], [8, 9])])
def giroref35_Greedy.B15 : List Nat := [0, 1, 0, 4, 0, 28, 60, 124, 255, 511, 1023]
theorem giroref35_Greedy.tab15 : rtab .any (opsOf Tryz.f21 15) = giroref35_Greedy.T15 := by kernel_rfl
theorem giroref35_Greedy.bits15 : waitsOk giroref35_Greedy.T15.2 giroref35_Greedy.B15 = true := by kernel_rfl
theorem zA_ : type_of% @List.setIfInBounds_toArray := @List.setIfInBounds_toArray
theorem zB_ : type_of% @List.set_cons_zero := @List.set_cons_zero
theorem zC_ : type_of% @List.set_cons_succ := @List.set_cons_succ
abbrev giroref35_Greedy.zb0 : Array Bool := #[false,false,false,false,false,false,false,false,false,false,false,false,false,false,false,false,false,false,false,false,false,false,false,false,false,false,false,false,false,false,false,false,false,false,false,false,false,false,false,false,false,false,false,false,false,false,false]
abbrev giroref35_Greedy.zb1 : Array Bool := #[true,false,false,false,false,false,false,false,false,false,false,false,false,false,false,false,false,false,false,false,false,false,false,false,false,false,false,false,false,false,false,false,false,false,false,false,false,false,false,false,false,false,false,false,false,false,false]
abbrev giroref35_Greedy.zb2 : Array Bool := #[true,true,false,false,false,false,false,false,false,false,false,false,false,false,false,false,false,false,false,false,false,false,false,false,false,false,false,false,false,false,false,false,false,false,false,false,false,false,false,false,false,false,false,false,false,false,false]
abbrev giroref35_Greedy.zb3 : Array Bool := #[true,true,true,false,false,false,false,false,false,false,false,false,false,false,false,false,false,false,false,false,false,false,false,false,false,false,false,false,false,false,false,false,false,false,false,false,false,false,false,false,false,false,false,false,false,false,false]
abbrev giroref35_Greedy.zb4 : Array Bool := #[true,true,true,true,false,false,false,false,false,false,false,false,false,false,false,false,false,false,false,false,false,false,false,false,false,false,false,false,false,false,false,false,false,false,false,false,false,false,false,false,false,false,false,false,false,false,false]
abbrev giroref35_Greedy.zb5 : Array Bool := #[true,true,true,true,true,true,true,true,true,true,true,true,false,false,false,false,false,false,false,false,false,false,false,false,false,false,false,false,false,false,false,false,false,false,false,false,false,false,false,false,false,false,false,false,false,false,false]
abbrev giroref35_Greedy.zb6 : Array Bool := #[true,true,true,true,true,true,true,true,true,true,true,true,true,false,false,false,false,false,false,false,false,false,false,false,false,false,false,false,false,false,false,false,false,false,false,false,false,false,false,false,false,false,false,false,false,false,false]
abbrev giroref35_Greedy.zb7 : Array Bool := #[true,true,true,true,true,true,true,true,true,true,true,true,true,true,false,false,false,false,false,false,false,false,false,false,false,false,false,false,false,false,false,false,false,false,false,false,false,false,false,false,false,false,false,false,false,false,false]
abbrev giroref35_Greedy.zb8 : Array Bool := #[true,true,true,true,true,true,true,true,true,true,true,true,true,true,true,false,false,false,false,false,false,false,false,false,false,false,false,false,false,false,false,false,false,false,false,false,false,false,false,false,false,false,false,false,false,false,false]
abbrev giroref35_Greedy.zb9 : Array Bool := #[true,true,true,true,true,true,true,true,true,true,true,true,true,true,true,true,false,false,false,false,false,false,false,false,false,false,false,false,false,false,false,false,false,false,false,false,false,false,false,false,false,false,false,false,false,false,false]
abbrev giroref35_Greedy.zb10 : Array Bool := #[true,true,true,true,true,true,true,true,true,true,true,true,true,true,true,true,true,false,false,false,false,false,false,false,false,false,false,false,false,false,false,false,false,false,false,false,false,false,false,false,false,false,false,false,false,false,false]
abbrev giroref35_Greedy.zb11 : Array Bool := #[true,true,true,true,true,true,true,true,true,true,true,true,true,true,true,true,true,true,false,false,false,false,false,false,false,false,false,false,false,false,false,false,false,false,false,false,false,false,false,false,false,false,false,false,false,false,false]
abbrev giroref35_Greedy.zb12 : Array Bool := #[true,true,true,true,true,true,true,true,true,true,true,true,true,true,true,true,true,true,true,false,false,false,false,false,false,false,false,false,false,false,false,false,false,false,false,false,false,false,false,false,false,false,false,false,false,false,false]
abbrev giroref35_Greedy.zb13 : Array Bool := #[true,true,true,true,true,true,true,true,true,true,true,true,true,true,true,true,true,true,true,true,true,true,true,true,true,true,true,false,false,false,false,false,false,false,false,false,false,false,false,false,false,false,false,false,false,false,false]
abbrev giroref35_Greedy.zb14 : Array Bool := #[true,true,true,true,true,true,true,true,true,true,true,true,true,true,true,true,true,true,true,true,true,true,true,true,true,true,true,true,false,false,false,false,false,false,false,false,false,false,false,false,false,false,false,false,false,false,false]
abbrev giroref35_Greedy.zb15 : Array Bool := #[true,true,true,true,true,true,true,true,true,true,true,true,true,true,true,true,true,true,true,true,true,true,true,true,true,true,true,true,true,false,false,false,false,false,false,false,false,false,false,false,false,false,false,false,false,false,false]
abbrev giroref35_Greedy.zb16 : Array Bool := #[true,true,true,true,true,true,true,true,true,true,true,true,true,true,true,true,true,true,true,true,true,true,true,true,true,true,true,true,true,true,false,false,false,false,false,false,false,false,false,false,false,false,false,false,false,false,false]
abbrev giroref35_Greedy.zb17 : Array Bool := #[true,true,true,true,true,true,true,true,true,true,true,true,true,true,true,true,true,true,true,true,true,true,true,true,true,true,true,true,true,true,true,false,false,false,false,false,false,false,false,false,false,false,false,false,false,false,false]
abbrev giroref35_Greedy.zb18 : Array Bool := #[true,true,true,true,true,true,true,true,true,true,true,true,true,true,true,true,true,true,true,true,true,true,true,true,true,true,true,true,true,true,true,true,false,false,false,false,false,false,false,false,false,false,false,false,false,false,false]
abbrev giroref35_Greedy.zb19 : Array Bool := #[true,true,true,true,true,true,true,true,true,true,true,true,true,true,true,true,true,true,true,true,true,true,true,true,true,true,true,true,true,true,true,true,true,false,false,false,false,false,false,false,false,false,false,false,false,false,false]
abbrev giroref35_Greedy.zb20 : Array Bool := #[true,true,true,true,true,true,true,true,true,true,true,true,true,true,true,true,true,true,true,true,true,true,true,true,true,true,true,true,true,true,true,true,true,true,true,true,true,true,true,true,true,false,false,false,false,false,false]
abbrev giroref35_Greedy.zb21 : Array Bool := #[true,true,true,true,true,true,true,true,true,true,true,true,true,true,true,true,true,true,true,true,true,true,true,true,true,true,true,true,true,true,true,true,true,true,true,true,true,true,true,true,true,true,false,false,false,false,false]
abbrev giroref35_Greedy.zb22 : Array Bool := #[true,true,true,true,true,true,true,true,true,true,true,true,true,true,true,true,true,true,true,true,true,true,true,true,true,true,true,true,true,true,true,true,true,true,true,true,true,true,true,true,true,true,true,false,false,false,false]
abbrev giroref35_Greedy.zb23 : Array Bool := #[true,true,true,true,true,true,true,true,true,true,true,true,true,true,true,true,true,true,true,true,true,true,true,true,true,true,true,true,true,true,true,true,true,true,true,true,true,true,true,true,true,true,true,true,false,false,false]
abbrev giroref35_Greedy.zb24 : Array Bool := #[true,true,true,true,true,true,true,true,true,true,true,true,true,true,true,true,true,true,true,true,true,true,true,true,true,true,true,true,true,true,true,true,true,true,true,true,true,true,true,true,true,true,true,true,true,false,false]
abbrev giroref35_Greedy.zb25 : Array Bool := #[true,true,true,true,true,true,true,true,true,true,true,true,true,true,true,true,true,true,true,true,true,true,true,true,true,true,true,true,true,true,true,true,true,true,true,true,true,true,true,true,true,true,true,true,true,true,false]
abbrev giroref35_Greedy.zb26 : Array Bool := #[true,true,true,true,true,true,true,true,true,true,true,true,true,true,true,true,true,true,true,true,true,true,true,true,true,true,true,true,true,true,true,true,true,true,true,true,true,true,true,true,true,true,true,true,true,true,true]
abbrev giroref35_Greedy.zb27 : Array Bool := #[true,true,true,true,false,true,false,false,false,false,false,false,false,false,false,false,false,false,false,false,false,false,false,false,false,false,false,false,false,false,false,false,false,false,false,false,false,false,false,false,false,false,false,false,false,false,false]
abbrev giroref35_Greedy.zb28 : Array Bool := #[true,true,true,true,false,true,false,false,false,true,false,false,false,false,false,false,false,false,false,false,false,false,false,false,false,false,false,false,false,false,false,false,false,false,false,false,false,false,false,false,false,false,false,false,false,false,false]
abbrev giroref35_Greedy.zb29 : Array Bool := #[true,true,true,true,false,true,false,false,false,true,false,true,false,false,false,false,false,false,false,false,false,false,false,false,false,false,false,false,false,false,false,false,false,false,false,false,false,false,false,false,false,false,false,false,false,false,false]
abbrev giroref35_Greedy.zb30 : Array Bool := #[true,true,true,true,true,true,false,false,false,true,false,true,false,false,false,false,false,false,false,false,false,false,false,false,false,false,false,false,false,false,false,false,false,false,false,false,false,false,false,false,false,false,false,false,false,false,false]
abbrev giroref35_Greedy.zb31 : Array Bool := #[true,true,true,true,true,true,true,false,false,true,false,true,false,false,false,false,false,false,false,false,false,false,false,false,false,false,false,false,false,false,false,false,false,false,false,false,false,false,false,false,false,false,false,false,false,false,false]
abbrev giroref35_Greedy.zb32 : Array Bool := #[true,true,true,true,true,true,true,true,false,true,false,true,false,false,false,false,false,false,false,false,false,false,false,false,false,false,false,false,false,false,false,false,false,false,false,false,false,false,false,false,false,false,false,false,false,false,false]
abbrev giroref35_Greedy.zb33 : Array Bool := #[true,true,true,true,true,true,true,true,true,true,false,true,false,false,false,false,false,false,false,false,false,false,false,false,false,false,false,false,false,false,false,false,false,false,false,false,false,false,false,false,false,false,false,false,false,false,false]
abbrev giroref35_Greedy.zb34 : Array Bool := #[true,true,true,true,true,true,true,true,true,true,true,true,true,true,true,true,true,true,true,true,true,true,true,true,true,true,true,true,true,true,true,true,true,true,false,false,false,false,false,false,false,false,false,false,false,false,false]
abbrev giroref35_Greedy.zb35 : Array Bool := #[true,true,true,true,true,true,true,true,true,true,true,true,true,true,true,true,true,true,true,true,true,true,true,true,true,true,true,true,true,true,true,true,true,true,true,false,false,false,false,false,false,false,false,false,false,false,false]
abbrev giroref35_Greedy.zb36 : Array Bool := #[true,true,true,true,true,true,true,true,true,true,true,true,true,true,true,true,true,true,true,true,true,true,true,true,true,true,true,true,true,true,true,true,true,true,true,true,false,false,false,false,false,false,false,false,false,false,false]
abbrev giroref35_Greedy.zb37 : Array Bool := #[true,true,true,true,true,true,true,true,true,true,true,true,true,true,true,true,true,true,true,true,true,true,true,true,true,true,true,true,true,true,true,true,true,true,true,true,true,false,false,false,false,false,false,false,false,false,false]
abbrev giroref35_Greedy.zb38 : Array Bool := #[true,true,true,true,true,true,true,true,true,true,true,true,true,true,true,true,true,true,true,true,true,true,true,true,true,true,true,true,true,true,true,true,true,true,true,true,true,true,false,false,false,false,false,false,false,false,false]
abbrev giroref35_Greedy.zb39 : Array Bool := #[true,true,true,true,true,true,true,true,true,true,true,true,true,true,true,true,true,true,true,true,true,true,true,true,true,true,true,true,true,true,true,true,true,true,true,true,true,true,true,false,false,false,false,false,false,false,false]
abbrev giroref35_Greedy.zb40 : Array Bool := #[true,true,true,true,true,true,true,true,true,true,true,true,true,true,true,true,true,true,true,true,true,true,true,true,true,true,true,true,true,true,true,true,true,true,true,true,true,true,true,true,false,false,false,false,false,false,false]
abbrev giroref35_Greedy.zb41 : Array Bool := #[true,true,true,true,true,true,true,true,true,true,true,true,true,true,true,true,true,true,true,false,true,false,false,false,false,false,false,false,false,false,false,false,false,false,false,false,false,false,false,false,false,false,false,false,false,false,false]
abbrev giroref35_Greedy.zb42 : Array Bool := #[true,true,true,true,true,true,true,true,true,true,true,true,true,true,true,true,true,true,true,false,true,false,false,false,true,false,false,false,false,false,false,false,false,false,false,false,false,false,false,false,false,false,false,false,false,false,false]
abbrev giroref35_Greedy.zb43 : Array Bool := #[true,true,true,true,true,true,true,true,true,true,true,true,true,true,true,true,true,true,true,false,true,false,false,false,true,false,true,false,false,false,false,false,false,false,false,false,false,false,false,false,false,false,false,false,false,false,false]
abbrev giroref35_Greedy.zb44 : Array Bool := #[true,true,true,true,true,true,true,true,true,true,true,true,true,true,true,true,true,true,true,true,true,false,false,false,true,false,true,false,false,false,false,false,false,false,false,false,false,false,false,false,false,false,false,false,false,false,false]
abbrev giroref35_Greedy.zb45 : Array Bool := #[true,true,true,true,true,true,true,true,true,true,true,true,true,true,true,true,true,true,true,true,true,true,false,false,true,false,true,false,false,false,false,false,false,false,false,false,false,false,false,false,false,false,false,false,false,false,false]
abbrev giroref35_Greedy.zb46 : Array Bool := #[true,true,true,true,true,true,true,true,true,true,true,true,true,true,true,true,true,true,true,true,true,true,true,false,true,false,true,false,false,false,false,false,false,false,false,false,false,false,false,false,false,false,false,false,false,false,false]
abbrev giroref35_Greedy.zb47 : Array Bool := #[true,true,true,true,true,true,true,true,true,true,true,true,true,true,true,true,true,true,true,true,true,true,true,true,true,false,true,false,false,false,false,false,false,false,false,false,false,false,false,false,false,false,false,false,false,false,false]
abbrev giroref35_Greedy.zb48 : Array Bool := #[true,true,true,true,true,true,true,true,true,true,true,true,true,true,true,true,true,true,true,true,false,false,false,false,false,false,false,false,false,false,false,false,false,false,false,false,false,false,false,false,false,false,false,false,false,false,false]
abbrev giroref35_Greedy.zb49 : Array Bool := #[true,true,true,true,true,true,true,true,true,true,true,true,true,true,true,true,true,true,true,true,true,false,false,false,false,false,false,false,false,false,false,false,false,false,false,false,false,false,false,false,false,false,false,false,false,false,false]
abbrev giroref35_Greedy.zb50 : Array Bool := #[true,true,true,true,true,true,true,true,true,true,true,true,true,true,true,true,true,true,true,true,true,true,false,false,false,false,false,false,false,false,false,false,false,false,false,false,false,false,false,false,false,false,false,false,false,false,false]
abbrev giroref35_Greedy.zb51 : Array Bool := #[true,true,true,true,true,true,true,true,true,true,true,true,true,true,true,true,true,true,true,true,true,true,true,false,false,false,false,false,false,false,false,false,false,false,false,false,false,false,false,false,false,false,false,false,false,false,false]
abbrev giroref35_Greedy.zb52 : Array Bool := #[true,true,true,true,true,true,true,true,true,true,true,true,true,true,true,true,true,true,true,true,true,true,true,true,false,false,false,false,false,false,false,false,false,false,false,false,false,false,false,false,false,false,false,false,false,false,false]
abbrev giroref35_Greedy.zb53 : Array Bool := #[true,true,true,true,true,true,true,true,true,true,true,true,true,true,true,true,true,true,true,true,true,true,true,true,true,false,false,false,false,false,false,false,false,false,false,false,false,false,false,false,false,false,false,false,false,false,false]
abbrev giroref35_Greedy.zb54 : Array Bool := #[true,true,true,true,true,true,true,true,true,true,true,true,true,true,true,true,true,true,true,true,true,true,true,true,true,true,false,false,false,false,false,false,false,false,false,false,false,false,false,false,false,false,false,false,false,false,false]
abbrev giroref35_Greedy.zb55 : Array Bool := #[true,true,true,true,true,true,true,true,true,true,true,true,true,true,true,true,true,true,true,true,true,true,true,true,true,true,true,true,true,true,true,true,true,false,true,false,false,false,false,false,false,false,false,false,false,false,false]
abbrev giroref35_Greedy.zb56 : Array Bool := #[true,true,true,true,true,true,true,true,true,true,true,true,true,true,true,true,true,true,true,true,true,true,true,true,true,true,true,true,true,true,true,true,true,false,true,false,false,false,true,false,false,false,false,false,false,false,false]
abbrev giroref35_Greedy.zb57 : Array Bool := #[true,true,true,true,true,true,true,true,true,true,true,true,true,true,true,true,true,true,true,true,true,true,true,true,true,true,true,true,true,true,true,true,true,false,true,false,false,false,true,false,true,false,false,false,false,false,false]
abbrev giroref35_Greedy.zb58 : Array Bool := #[true,true,true,true,true,true,true,true,true,true,true,true,true,true,true,true,true,true,true,true,true,true,true,true,true,true,true,true,true,true,true,true,true,true,true,false,false,false,true,false,true,false,false,false,false,false,false]
abbrev giroref35_Greedy.zb59 : Array Bool := #[true,true,true,true,true,true,true,true,true,true,true,true,true,true,true,true,true,true,true,true,true,true,true,true,true,true,true,true,true,true,true,true,true,true,true,true,false,false,true,false,true,false,false,false,false,false,false]
abbrev giroref35_Greedy.zb60 : Array Bool := #[true,true,true,true,true,true,true,true,true,true,true,true,true,true,true,true,true,true,true,true,true,true,true,true,true,true,true,true,true,true,true,true,true,true,true,true,true,false,true,false,true,false,false,false,false,false,false]
abbrev giroref35_Greedy.zb61 : Array Bool := #[true,true,true,true,true,true,true,true,true,true,true,true,true,true,true,true,true,true,true,true,true,true,true,true,true,true,true,true,true,true,true,true,true,true,true,true,true,true,true,false,true,false,false,false,false,false,false]
abbrev giroref35_Greedy.zb62 : Array Bool := #[false,false,false,false,false,false,false,false,false,false,false]
abbrev giroref35_Greedy.zb63 : Array Bool := #[true,false,false,false,false,false,false,false,false,false,false]
abbrev giroref35_Greedy.zb64 : Array Bool := #[true,false,true,false,false,false,false,false,false,false,false]
abbrev giroref35_Greedy.zb65 : Array Bool := #[true,false,true,false,true,false,false,false,false,false,false]
abbrev giroref35_Greedy.zb66 : Array Bool := #[true,true,true,false,true,false,false,false,false,false,false]
abbrev giroref35_Greedy.zb67 : Array Bool := #[true,true,true,true,true,false,false,false,false,false,false]
abbrev giroref35_Greedy.zb68 : Array Bool := #[true,true,true,true,true,true,false,false,false,false,false]
abbrev giroref35_Greedy.zb69 : Array Bool := #[true,true,true,true,true,true,true,false,false,false,false]
set_option maxHeartbeats 8000000 in
set_option maxRecDepth 100000 in
theorem giroref35_Greedy.calls (k : Nat) (a0_0 : Int) (A0_1 : Option Addr) (c0_1 : Nat) (l0_1 : List (S109)) (A0_2 : Option Addr) (c0_2 : Nat) (l0_2 : List ByteArray) (A0_3 : Option Addr) (c0_3 : Nat) (l0_3 : List (S109)) (r1 : List (S109)) (r2 : List (S109)) (r3 : Int) (r4 : Bool) (w : World) (hr0_1 : Kd.C k109 w A0_1 l0_1.length l0_1) (hc0_1 : l0_1.length ≤ c0_1) (hr0_2 : Kd.C Kd.string w A0_2 l0_2.length l0_2) (hc0_2 : l0_2.length ≤ c0_2) (hr0_3 : Kd.C k109 w A0_3 l0_3.length l0_3) (hc0_3 : l0_3.length ≤ c0_3) (h : giroref35_Greedy.f k a0_0 l0_1 l0_2 l0_3 = some (r1, r2, r3, r4)) :
  Calls Tryz.prog 21 #[.agg #[.int .i64 a0_0, .slice A0_1 l0_1.length c0_1, .slice A0_2 l0_2.length c0_2, .slice A0_3 l0_3.length c0_3]] w fun e w' => ∃ v0_ v1_ : Value, e = .returned (.tuple #[.agg #[v0_, v1_, .int .i64 r3], .bool r4]) ∧ Kd.R k109 109 w' w.heap.size (fun k_ => some k_ ≠ (v1_ : Value).ownBlock) v0_ r1 ∧ Kd.R k109 109 w' w.heap.size (fun k_ => some k_ ≠ (v0_ : Value).ownBlock) v1_ r2 ∧ Below w.heap.size w w' := by
 have hu49 := Tryz.underlying49
 have hu54 := Tryz.underlying54
 have hu109 := Tryz.underlying109
 have HR0_1 := Aside0.mk hr0_1
 have HC0_1 := Aside0.mk hc0_1
 clear hr0_1 hc0_1
 have HR0_2 := Aside0.mk hr0_2
 have HC0_2 := Aside0.mk hc0_2
 clear hr0_2 hc0_2
 have HR0_3 := Aside0.mk hr0_3
 have HC0_3 := Aside0.mk hc0_3
 clear hr0_3 hc0_3
 have HB := Aside0.mk (Below.refl w.heap.size w)
 have H : ((giroref35_Released.f k a0_0 l0_1 l0_2 l0_3).bind fun t214 => ((giroref35_Kept.f k a0_0 l0_1 l0_2 l0_3).bind fun t217 => (if 0 ≤ (l0_3.length : Int) then (if ((l0_3.length : Int) : Int).toNat ≤ 281474976710656 then (giroref35_Greedy.l0 k (List.replicate ((l0_3.length : Int) : Int).toNat false) a0_0 l0_1 l0_2 l0_3 ([] : List (S109)) t214 t217) else (none)) else (none)))) = some (r1, r2, r3, r4) := h
 clear h
 replace H := Option.bind_eq_some_iff.mp H
 obtain ⟨t214, A20, H⟩ := H
 replace H : ((giroref35_Kept.f k a0_0 l0_1 l0_2 l0_3).bind fun t217 => (if 0 ≤ (l0_3.length : Int) then (if ((l0_3.length : Int) : Int).toNat ≤ 281474976710656 then (giroref35_Greedy.l0 k (List.replicate ((l0_3.length : Int) : Int).toNat false) a0_0 l0_1 l0_2 l0_3 ([] : List (S109)) t214 t217) else (none)) else (none))) = some (r1, r2, r3, r4) := H
 have A2 := Aside0.mk A20
 clear A20
 replace H := Option.bind_eq_some_iff.mp H
 obtain ⟨t217, A30, H⟩ := H
 replace H : (if 0 ≤ (l0_3.length : Int) then (if ((l0_3.length : Int) : Int).toNat ≤ 281474976710656 then (giroref35_Greedy.l0 k (List.replicate ((l0_3.length : Int) : Int).toNat false) a0_0 l0_1 l0_2 l0_3 ([] : List (S109)) t214 t217) else (none)) else (none)) = some (r1, r2, r3, r4) := H
 have A3 := Aside0.mk A30
 clear A30
 by_cases c4 : 0 ≤ (l0_3.length : Int)
 ·rw [if_pos c4] at H
  have c4b0 := eq_true c4
  have c4b1 : decide (0 ≤ (l0_3.length : Int)) = true := decide_eq_true c4
  clear c4
  by_cases c5 : ((l0_3.length : Int) : Int).toNat ≤ 281474976710656
  ·rw [if_pos c5] at H
   have c5b0 := eq_true c5
   have c5b1 : decide (((l0_3.length : Int) : Int).toNat ≤ 281474976710656) = true := decide_eq_true c5
   clear c5
   obtain ⟨y219, hy219⟩ : ∃ y_ : List Bool, y_ = (List.replicate ((l0_3.length : Int) : Int).toNat false) := ⟨_, rfl⟩
   replace H : (giroref35_Greedy.l0 k y219 a0_0 l0_1 l0_2 l0_3 ([] : List (S109)) t214 t217) = some (r1, r2, r3, r4) := by first | (rw [hy219]; with_reducible exact H) | (have H2_ := (Option.bind_some _ _).symm.trans H; rw [hy219]; with_reducible exact H2_) | (have H2_ := (Option.bind_some _ _).symm.trans H; with_reducible exact H2_) | with_reducible exact H | (rw [hy219]; exact H) | exact H
   have Ny219 := Aside0.mk hy219
   clear hy219
   have H' := Aside0.mk H
   clear H
   go_enter Tryz.func21, Tryz.ntmps21
   try go_wp2_with (first | ((with_reducible refine gate_dst (N := 1) rfl ?_); refine box_event ?hg (N := 1) ?hd (cs := #[.int .i64 a0_0, .slice A0_1 l0_1.length c0_1, .slice A0_2 l0_2.length c0_2, .slice A0_3 l0_3.length c0_3]) (t := 49) ?hr ?_; (case hd => rfl); (case hg => rfl); (case hr => first | (go_simp; done) | (go_simp; rfl)); intro gb212 hg w6 hbox hb; have n0_ := Aside0.mk (bx2 (by repeat (first | (with_reducible first | exact HB.out | apply bw2 | apply bw1 | apply bw3) | exact HB.out)) hb); have n1_ := Aside0.mk (hbox); have n2_ := Aside0.mk ((by rw [hg]; exact (bx3 (by repeat (first | (with_reducible first | exact HB.out | apply bw2 | apply bw1 | apply bw3) | exact HB.out))) : w.heap.size ≤ gb212)); have n3_ := Aside0.mk ((by rw [hg]; exact (bx3 (by repeat (first | (with_reducible first | exact HB.out | apply bw2 | apply bw1 | apply bw3) | exact HB.out))) : w.heap.size ≤ gb212)); clear HB; have HB := n0_; have BK212 := n1_; have GW212 := n2_; have GE212 := n3_; clear n0_ n1_ n2_ n3_; clear hb hbox hg) | ((with_reducible refine gate_dst (N := 2) rfl ?_); refine box_event ?hg (N := 2) ?hd (cs := #[.slice none 0 0, .slice none 0 0, .int .i64 0]) (t := 54) ?hr ?_; (case hd => rfl); (case hg => rfl); (case hr => first | (go_simp; done) | (go_simp; rfl)); intro gb213 hg w7 hbox hb; have n0_ := Aside0.mk (bx1 (g := gb212) (o := .cells #[.int .i64 a0_0, .slice A0_1 l0_1.length c0_1, .slice A0_2 l0_2.length c0_2, .slice A0_3 l0_3.length c0_3] 49 (0, 0)) (by (with_reducible repeat (first | refine bw8 ?_ _ | refine bw9 ?_ | refine bw6 ?_ _)); exact BK212.out) hb); have n1_ := Aside0.mk (bx2 (by repeat (first | (with_reducible first | exact HB.out | apply bw2 | apply bw1 | apply bw3 | refine bw4 ?_ GE212.out) | exact HB.out)) hb); have n2_ := Aside0.mk (hbox); have n3_ := Aside0.mk ((by rw [hg]; exact (bx3 (by repeat (first | (with_reducible first | exact HB.out | apply bw2 | apply bw1 | apply bw3 | refine bw4 ?_ GE212.out) | exact HB.out))) : w.heap.size ≤ gb213)); have n4_ := Aside0.mk ((by rw [hg]; exact (bx3 (by repeat (first | (with_reducible first | exact HB.out | apply bw2 | apply bw1 | apply bw3 | refine bw4 ?_ GE212.out) | exact HB.out))) : w.heap.size ≤ gb213)); have n5_ := Aside0.mk ((by rw [hg]; exact Nat.ne_of_lt (blk_lt (g := gb212) (o := .cells #[.int .i64 a0_0, .slice A0_1 l0_1.length c0_1, .slice A0_2 l0_2.length c0_2, .slice A0_3 l0_3.length c0_3] 49 (0, 0)) (by (with_reducible repeat (first | refine bw8 ?_ _ | refine bw9 ?_ | refine bw6 ?_ _)); exact BK212.out)) : gb212 ≠ gb213)); have n6_ := Aside0.mk ((by rw [hg]; exact Nat.ne_of_gt (blk_lt (g := gb212) (o := .cells #[.int .i64 a0_0, .slice A0_1 l0_1.length c0_1, .slice A0_2 l0_2.length c0_2, .slice A0_3 l0_3.length c0_3] 49 (0, 0)) (by (with_reducible repeat (first | refine bw8 ?_ _ | refine bw9 ?_ | refine bw6 ?_ _)); exact BK212.out)) : gb213 ≠ gb212)); clear BK212; clear HB; have BK212 := n0_; have HB := n1_; have BK213 := n2_; have GW213 := n3_; have GE213 := n4_; have NB212_213 := n5_; have NB213_212 := n6_; clear n0_ n1_ n2_ n3_ n4_ n5_ n6_; clear hb hbox hg))
   have n0_ := Aside0.mk (bw9 BK212.out)
   have n1_ := Aside0.mk (bw9 BK213.out)
   have n2_ := Aside0.mk (bw3 HB.out)
   clear BK212; clear BK213; clear HB; have BK212 := n0_; have BK213 := n1_; have HB := n2_; clear n0_ n1_ n2_
   refine start_ (n := 7) (S := fun w' => w'.cell? ⟨gb212, 0, none⟩ = some (.int .i64 a0_0) ∧ w'.cell? ⟨gb212, 1, none⟩ = some (.slice A0_1 l0_1.length c0_1) ∧ w'.cell? ⟨gb212, 2, none⟩ = some (.slice A0_2 l0_2.length c0_2) ∧ w'.cell? ⟨gb212, 3, none⟩ = some (.slice A0_3 l0_3.length c0_3)) (ds := []) #[false,false,false,false,false,false,false] (by kernel_rfl) rfl rfl ⟨(bw5 BK212.out 0).trans rfl, (bw5 BK212.out 1).trans rfl, (bw5 BK212.out 2).trans rfl, (bw5 BK212.out 3).trans rfl⟩ (fun hHeld => ?_)
   generalize w7.drew = w8 at BK212 BK213 HB hHeld ⊢
   refine take_ (i := 0) (N := some 8) (v := ?_) (a' := ?_) #[true,false,false,false,false,false,false] rfl rfl (by kernel_rfl) (fun _ _ _ h => h) (Or.inl ⟨by rfl, ?_⟩) hHeld ?_ ?_
   rotate_left
   ·rintro w' ⟨s0, s1, s2, s3⟩
    go_simp; (with_reducible rfl)
   rotate_left
   ·simp only [Act.put, zA_, zB_, zC_, i64_w, i32_w]; rfl
   refine take_ (i := 2) (N := some 10) (v := ?_) (a' := ?_) #[true,false,true,false,false,false,false] rfl rfl (by kernel_rfl) (fun _ _ _ h => h) (Or.inl ⟨by rfl, ?_⟩) hHeld ?_ ?_
   rotate_left
   ·rintro w' ⟨s0, s1, s2, s3⟩
    go_simp; (with_reducible rfl)
   rotate_left
   ·simp only [Act.put, zA_, zB_, zC_, i64_w, i32_w]; rfl
   refine join_ (σ := Value × Nat) 1 #[true,true,true,true,true,true,false] (fun s_ => [(9, s_.1), (11, .int .i64 t217), (4, .pointer (some ⟨s_.2, 0, none⟩)), (12, .agg #[.slice none 0 0, s_.1, .int .i64 t217])]) (fun s_ w' => (w'.cell? ⟨gb212, 0, none⟩ = some (.int .i64 a0_0) ∧ w'.cell? ⟨gb212, 1, none⟩ = some (.slice A0_1 l0_1.length c0_1) ∧ w'.cell? ⟨gb212, 2, none⟩ = some (.slice A0_2 l0_2.length c0_2) ∧ w'.cell? ⟨gb212, 3, none⟩ = some (.slice A0_3 l0_3.length c0_3)) ∧ (Kd.R k109 109 w' w.heap.size (fun _ => True) s_.1 t214) ∧ (w'.heap[gb212]? = some (.cells #[.int .i64 a0_0, .slice A0_1 l0_1.length c0_1, .slice A0_2 l0_2.length c0_2, .slice A0_3 l0_3.length c0_3] 49 (0, 0))) ∧ (w'.heap[gb213]? = some (.cells #[.slice none 0 0, .slice none 0 0, .int .i64 0] 54 (0, 0))) ∧ (w'.heap[s_.2]? = some (.cells #[.slice none 0 0, .slice none 0 0, .int .i64 0] 54 (0, 0))) ∧ (w.heap.size ≤ s_.2) ∧ (w.heap.size ≤ s_.2) ∧ (gb212 ≠ s_.2) ∧ (s_.2 ≠ gb212) ∧ (gb213 ≠ s_.2) ∧ (s_.2 ≠ gb213) ∧ (Below w.heap.size w w')) ?_ ?_
   rotate_left
   ·intro hCont
    refine two_ (i := 1) (j := 5) (Ni := some 9) (Nj := some 4) #[true,true,true,false,false,false,false] #[true,false,true,false,false,true,false] rfl rfl rfl rfl (by kernel_rfl) (by decide) (by decide) (fun K hK => ?_) (fun K hK => ?_)
    ·skip
     refine goes_ Tryz.func59 (by kernel_rfl) rfl #[.agg #[.int .i64 a0_0, .slice A0_1 l0_1.length c0_1, .slice A0_2 l0_2.length c0_2, .slice A0_3 l0_3.length c0_3]] (by rfl) rfl rfl (by (try simp only [List.map_toArray, List.map_cons, List.map_nil]); first | done | rfl | (simp only [List.length_drop, List.length_take]; rfl)) ?_
     with_reducible refine (giroref35_Released.calls k a0_0 _ _ l0_1 _ _ l0_2 _ _ l0_3 t214 _ ?side1 ?side2 ?side3 ?side4 ?side5 ?side6 A2.out).mono ?_
     (case side1 => repeat (first | exact (Kd.C_below HR0_1.out HB.out) | (with_reducible refine Kd.C_alloc ?_ _) | (with_reducible refine Kd.C_drewN ?_ _) | (with_reducible refine Kd.C_drew ?_)))
     (case side2 => exact HC0_1.out)
     (case side3 => repeat (first | exact (Kd.C_below HR0_2.out HB.out) | (with_reducible refine Kd.C_alloc ?_ _) | (with_reducible refine Kd.C_drewN ?_ _) | (with_reducible refine Kd.C_drew ?_)))
     (case side4 => exact HC0_2.out)
     (case side5 => repeat (first | exact (Kd.C_below HR0_3.out HB.out) | (with_reducible refine Kd.C_alloc ?_ _) | (with_reducible refine Kd.C_drewN ?_ _) | (with_reducible refine Kd.C_drew ?_)))
     (case side6 => exact HC0_3.out)
     rintro e w9 ⟨v215, rfl, ho0, hb⟩
     refine ⟨_, rfl, ?_⟩
     have n0_ := Aside0.mk (Kd.R_lower ho0 (bx3 (by repeat (first | (with_reducible first | exact HB.out | apply bw2 | apply bw1 | apply bw3 | refine bw4 ?_ GE212.out | refine bw4 ?_ GE213.out) | exact HB.out))))
     have n1_ := Aside0.mk (bx1 (g := gb212) (o := .cells #[.int .i64 a0_0, .slice A0_1 l0_1.length c0_1, .slice A0_2 l0_2.length c0_2, .slice A0_3 l0_3.length c0_3] 49 (0, 0)) (by (with_reducible repeat (first | refine bw8 ?_ _ | refine bw9 ?_ | refine bw6 ?_ _)); exact BK212.out) hb)
     have n2_ := Aside0.mk (bx1 (g := gb213) (o := .cells #[.slice none 0 0, .slice none 0 0, .int .i64 0] 54 (0, 0)) (by (with_reducible repeat (first | refine bw8 ?_ _ | refine bw9 ?_ | refine bw6 ?_ _)); exact BK213.out) hb)
     have n3_ := Aside0.mk (bx2 (by repeat (first | (with_reducible first | exact HB.out | apply bw2 | apply bw1 | apply bw3 | refine bw4 ?_ GE212.out | refine bw4 ?_ GE213.out) | exact HB.out)) hb)
     clear BK212; clear BK213; clear HB; have HO216 := n0_; have BK212 := n1_; have BK213 := n2_; have HB := n3_; clear n0_ n1_ n2_ n3_; (try clear hb); (try clear hb2); (try clear hk); (try clear hi); (try clear ho0)
     refine hK.out _ _ ⟨(bw5 BK212.out 0).trans rfl, (bw5 BK212.out 1).trans rfl, (bw5 BK212.out 2).trans rfl, (bw5 BK212.out 3).trans rfl⟩ (fun hHeld => ?_)
     clear hK K
     refine norm_ (a' := ?_) ?_ ?_
     rotate_left
     ·show Act.put _ (some 9) _ = _; simp only [Act.put, zA_, zB_, zC_, i64_w, i32_w]; rfl
     refine two_ (i := 3) (j := 5) (Ni := some 11) (Nj := some 4) #[true,true,true,true,false,false,false] #[true,true,true,false,false,true,false] rfl rfl rfl rfl (by kernel_rfl) (by decide) (by decide) (fun K hK => ?_) (fun K hK => ?_)
     ·skip
      refine goes_ Tryz.func31 (by kernel_rfl) rfl #[.agg #[.int .i64 a0_0, .slice A0_1 l0_1.length c0_1, .slice A0_2 l0_2.length c0_2, .slice A0_3 l0_3.length c0_3]] (by rfl) rfl rfl (by (try simp only [List.map_toArray, List.map_cons, List.map_nil]); first | done | rfl | (simp only [List.length_drop, List.length_take]; rfl)) ?_
      with_reducible refine (giroref35_Kept.calls k a0_0 _ _ l0_1 _ _ l0_2 _ _ l0_3 t217 _ ?side1 ?side2 ?side3 ?side4 ?side5 ?side6 A3.out).mono ?_
      (case side1 => repeat (first | exact (Kd.C_below HR0_1.out HB.out) | (with_reducible refine Kd.C_alloc ?_ _) | (with_reducible refine Kd.C_drewN ?_ _) | (with_reducible refine Kd.C_drew ?_)))
      (case side2 => exact HC0_1.out)
      (case side3 => repeat (first | exact (Kd.C_below HR0_2.out HB.out) | (with_reducible refine Kd.C_alloc ?_ _) | (with_reducible refine Kd.C_drewN ?_ _) | (with_reducible refine Kd.C_drew ?_)))
      (case side4 => exact HC0_2.out)
      (case side5 => repeat (first | exact (Kd.C_below HR0_3.out HB.out) | (with_reducible refine Kd.C_alloc ?_ _) | (with_reducible refine Kd.C_drewN ?_ _) | (with_reducible refine Kd.C_drew ?_)))
      (case side6 => exact HC0_3.out)
      rintro e w10 ⟨rfl, hb⟩
      refine ⟨_, rfl, ?_⟩
      have n0_ := Aside0.mk (Kd.R_below (by (with_reducible repeat (first | apply Kd.R_alloc | apply Kd.R_drewN | apply Kd.R_drew)); exact HO216.out) hb)
      have n1_ := Aside0.mk (bx1 (g := gb212) (o := .cells #[.int .i64 a0_0, .slice A0_1 l0_1.length c0_1, .slice A0_2 l0_2.length c0_2, .slice A0_3 l0_3.length c0_3] 49 (0, 0)) (by (with_reducible repeat (first | refine bw8 ?_ _ | refine bw9 ?_ | refine bw6 ?_ _)); exact BK212.out) hb)
      have n2_ := Aside0.mk (bx1 (g := gb213) (o := .cells #[.slice none 0 0, .slice none 0 0, .int .i64 0] 54 (0, 0)) (by (with_reducible repeat (first | refine bw8 ?_ _ | refine bw9 ?_ | refine bw6 ?_ _)); exact BK213.out) hb)
      have n3_ := Aside0.mk (bx2 (by repeat (first | (with_reducible first | exact HB.out | apply bw2 | apply bw1 | apply bw3 | refine bw4 ?_ GE212.out | refine bw4 ?_ GE213.out) | exact HB.out)) hb)
      clear HO216; clear BK212; clear BK213; clear HB; have HO216 := n0_; have BK212 := n1_; have BK213 := n2_; have HB := n3_; clear n0_ n1_ n2_ n3_; (try clear hb); (try clear hb2); (try clear hk); (try clear hi)
      obtain ⟨Ao11, co11, eo11⟩ := Kd.R_slice HO216.out
      (first | subst eo11 | (injection eo11 with f1_ f2_ f3_; have f4_ := f1_.symm; have f5_ := f3_.symm; clear f1_ f2_ f3_; subst f4_; subst f5_))
      refine hK.out _ _ ⟨(bw5 BK212.out 0).trans rfl, (bw5 BK212.out 1).trans rfl, (bw5 BK212.out 2).trans rfl, (bw5 BK212.out 3).trans rfl⟩ (fun hHeld => ?_)
      clear hK K
      refine norm_ (a' := ?_) ?_ ?_
      rotate_left
      ·show Act.put _ (some 11) _ = _; simp only [Act.put, zA_, zB_, zC_, i64_w, i32_w]; rfl
      refine pure_ (i := 4) (N := some 12) (v := ?_) (a' := ?_) #[true,true,true,true,true,false,false] rfl rfl (by kernel_rfl) (fun _ _ _ h => h) (Or.inl ⟨by rfl, ?_⟩) ?_ ?_
      rotate_left
      ·intro w'; go_simp; (with_reducible rfl)
      rotate_left
      ·simp only [Act.put, zA_, zB_, zC_, i64_w, i32_w]; rfl
      refine one_ (i := 5) (N := some 4) #[true,true,true,true,true,true,false] rfl rfl (by kernel_rfl) (by decide) (fun K hK => ?_)
      refine box_step ?hg (N := 4) ?hd (cs := #[.slice none 0 0, .slice none 0 0, .int .i64 0]) (t := 54) ?hr ?_; (case hd => rfl); (case hg => rfl); (case hr => first | (go_simp; done) | (go_simp; rfl))
      intro gb218 hg w12 hbox hb
      have n0_ := Aside0.mk (Kd.R_below (by (with_reducible repeat (first | apply Kd.R_alloc | apply Kd.R_drewN | apply Kd.R_drew)); exact HO216.out) hb)
      have n1_ := Aside0.mk (bx1 (g := gb212) (o := .cells #[.int .i64 a0_0, .slice A0_1 l0_1.length c0_1, .slice A0_2 l0_2.length c0_2, .slice A0_3 l0_3.length c0_3] 49 (0, 0)) (by (with_reducible repeat (first | refine bw8 ?_ _ | refine bw9 ?_ | refine bw6 ?_ _)); exact BK212.out) hb)
      have n2_ := Aside0.mk (bx1 (g := gb213) (o := .cells #[.slice none 0 0, .slice none 0 0, .int .i64 0] 54 (0, 0)) (by (with_reducible repeat (first | refine bw8 ?_ _ | refine bw9 ?_ | refine bw6 ?_ _)); exact BK213.out) hb)
      have n3_ := Aside0.mk (bx2 (by repeat (first | (with_reducible first | exact HB.out | apply bw2 | apply bw1 | apply bw3 | refine bw4 ?_ GE212.out | refine bw4 ?_ GE213.out) | exact HB.out)) hb)
      have n4_ := Aside0.mk (hbox)
      have n5_ := Aside0.mk ((by rw [hg]; exact (bx3 (by repeat (first | (with_reducible first | exact HB.out | apply bw2 | apply bw1 | apply bw3 | refine bw4 ?_ GE212.out | refine bw4 ?_ GE213.out) | exact HB.out))) : w.heap.size ≤ gb218))
      have n6_ := Aside0.mk ((by rw [hg]; exact (bx3 (by repeat (first | (with_reducible first | exact HB.out | apply bw2 | apply bw1 | apply bw3 | refine bw4 ?_ GE212.out | refine bw4 ?_ GE213.out) | exact HB.out))) : w.heap.size ≤ gb218))
      have n7_ := Aside0.mk ((by rw [hg]; exact Nat.ne_of_lt (blk_lt (g := gb212) (o := .cells #[.int .i64 a0_0, .slice A0_1 l0_1.length c0_1, .slice A0_2 l0_2.length c0_2, .slice A0_3 l0_3.length c0_3] 49 (0, 0)) (by (with_reducible repeat (first | refine bw8 ?_ _ | refine bw9 ?_ | refine bw6 ?_ _)); exact BK212.out)) : gb212 ≠ gb218))
      have n8_ := Aside0.mk ((by rw [hg]; exact Nat.ne_of_gt (blk_lt (g := gb212) (o := .cells #[.int .i64 a0_0, .slice A0_1 l0_1.length c0_1, .slice A0_2 l0_2.length c0_2, .slice A0_3 l0_3.length c0_3] 49 (0, 0)) (by (with_reducible repeat (first | refine bw8 ?_ _ | refine bw9 ?_ | refine bw6 ?_ _)); exact BK212.out)) : gb218 ≠ gb212))
      have n9_ := Aside0.mk ((by rw [hg]; exact Nat.ne_of_lt (blk_lt (g := gb213) (o := .cells #[.slice none 0 0, .slice none 0 0, .int .i64 0] 54 (0, 0)) (by (with_reducible repeat (first | refine bw8 ?_ _ | refine bw9 ?_ | refine bw6 ?_ _)); exact BK213.out)) : gb213 ≠ gb218))
      have n10_ := Aside0.mk ((by rw [hg]; exact Nat.ne_of_gt (blk_lt (g := gb213) (o := .cells #[.slice none 0 0, .slice none 0 0, .int .i64 0] 54 (0, 0)) (by (with_reducible repeat (first | refine bw8 ?_ _ | refine bw9 ?_ | refine bw6 ?_ _)); exact BK213.out)) : gb218 ≠ gb213))
      clear HO216; clear BK212; clear BK213; clear HB; have HO216 := n0_; have BK212 := n1_; have BK213 := n2_; have HB := n3_; have BK218 := n4_; have GW218 := n5_; have GE218 := n6_; have NB212_218 := n7_; have NB218_212 := n8_; have NB213_218 := n9_; have NB218_213 := n10_; clear n0_ n1_ n2_ n3_ n4_ n5_ n6_ n7_ n8_ n9_ n10_; clear hb hbox hg
      refine hK.out _ _ ⟨(bw5 BK212.out 0).trans rfl, (bw5 BK212.out 1).trans rfl, (bw5 BK212.out 2).trans rfl, (bw5 BK212.out 3).trans rfl⟩ (fun hHeld => ?_)
      clear hK K
      refine norm_ (a' := ?_) ?_ ?_
      rotate_left
      ·show Act.put _ (some 4) _ = _; simp only [Act.put, zA_, zB_, zC_, i64_w, i32_w]; rfl
      exact norm_ (by simp only [putAll, Act.put, zA_, zB_, zC_]) (hCont (.slice Ao11 t214.length co11, gb218) _ ⟨hHeld, (by (with_reducible repeat (first | apply Kd.R_alloc | apply Kd.R_drewN | apply Kd.R_drew)); exact HO216.out), (by (with_reducible repeat (first | refine bw8 ?_ _ | refine bw9 ?_ | refine bw6 ?_ _)); exact BK212.out), (by (with_reducible repeat (first | refine bw8 ?_ _ | refine bw9 ?_ | refine bw6 ?_ _)); exact BK213.out), (by (with_reducible repeat (first | refine bw8 ?_ _ | refine bw9 ?_ | refine bw6 ?_ _)); exact BK218.out), GW218.out, GE218.out, NB212_218.out, NB218_212.out, NB213_218.out, NB218_213.out, (by repeat (first | (with_reducible first | exact HB.out | apply bw2 | apply bw1 | apply bw3 | refine bw4 ?_ GE212.out | refine bw4 ?_ GE213.out | refine bw4 ?_ GE218.out) | exact HB.out))⟩)
     ·skip
      refine box_step ?hg (N := 4) ?hd (cs := #[.slice none 0 0, .slice none 0 0, .int .i64 0]) (t := 54) ?hr ?_; (case hd => rfl); (case hg => rfl); (case hr => first | (go_simp; done) | (go_simp; rfl))
      intro gb218 hg w10 hbox hb
      have n0_ := Aside0.mk (Kd.R_below (by (with_reducible repeat (first | apply Kd.R_alloc | apply Kd.R_drewN | apply Kd.R_drew)); exact HO216.out) hb)
      have n1_ := Aside0.mk (bx1 (g := gb212) (o := .cells #[.int .i64 a0_0, .slice A0_1 l0_1.length c0_1, .slice A0_2 l0_2.length c0_2, .slice A0_3 l0_3.length c0_3] 49 (0, 0)) (by (with_reducible repeat (first | refine bw8 ?_ _ | refine bw9 ?_ | refine bw6 ?_ _)); exact BK212.out) hb)
      have n2_ := Aside0.mk (bx1 (g := gb213) (o := .cells #[.slice none 0 0, .slice none 0 0, .int .i64 0] 54 (0, 0)) (by (with_reducible repeat (first | refine bw8 ?_ _ | refine bw9 ?_ | refine bw6 ?_ _)); exact BK213.out) hb)
      have n3_ := Aside0.mk (bx2 (by repeat (first | (with_reducible first | exact HB.out | apply bw2 | apply bw1 | apply bw3 | refine bw4 ?_ GE212.out | refine bw4 ?_ GE213.out) | exact HB.out)) hb)
      have n4_ := Aside0.mk (hbox)
      have n5_ := Aside0.mk ((by rw [hg]; exact (bx3 (by repeat (first | (with_reducible first | exact HB.out | apply bw2 | apply bw1 | apply bw3 | refine bw4 ?_ GE212.out | refine bw4 ?_ GE213.out) | exact HB.out))) : w.heap.size ≤ gb218))
      have n6_ := Aside0.mk ((by rw [hg]; exact (bx3 (by repeat (first | (with_reducible first | exact HB.out | apply bw2 | apply bw1 | apply bw3 | refine bw4 ?_ GE212.out | refine bw4 ?_ GE213.out) | exact HB.out))) : w.heap.size ≤ gb218))
      have n7_ := Aside0.mk ((by rw [hg]; exact Nat.ne_of_lt (blk_lt (g := gb212) (o := .cells #[.int .i64 a0_0, .slice A0_1 l0_1.length c0_1, .slice A0_2 l0_2.length c0_2, .slice A0_3 l0_3.length c0_3] 49 (0, 0)) (by (with_reducible repeat (first | refine bw8 ?_ _ | refine bw9 ?_ | refine bw6 ?_ _)); exact BK212.out)) : gb212 ≠ gb218))
      have n8_ := Aside0.mk ((by rw [hg]; exact Nat.ne_of_gt (blk_lt (g := gb212) (o := .cells #[.int .i64 a0_0, .slice A0_1 l0_1.length c0_1, .slice A0_2 l0_2.length c0_2, .slice A0_3 l0_3.length c0_3] 49 (0, 0)) (by (with_reducible repeat (first | refine bw8 ?_ _ | refine bw9 ?_ | refine bw6 ?_ _)); exact BK212.out)) : gb218 ≠ gb212))
      have n9_ := Aside0.mk ((by rw [hg]; exact Nat.ne_of_lt (blk_lt (g := gb213) (o := .cells #[.slice none 0 0, .slice none 0 0, .int .i64 0] 54 (0, 0)) (by (with_reducible repeat (first | refine bw8 ?_ _ | refine bw9 ?_ | refine bw6 ?_ _)); exact BK213.out)) : gb213 ≠ gb218))
      have n10_ := Aside0.mk ((by rw [hg]; exact Nat.ne_of_gt (blk_lt (g := gb213) (o := .cells #[.slice none 0 0, .slice none 0 0, .int .i64 0] 54 (0, 0)) (by (with_reducible repeat (first | refine bw8 ?_ _ | refine bw9 ?_ | refine bw6 ?_ _)); exact BK213.out)) : gb218 ≠ gb213))
      clear HO216; clear BK212; clear BK213; clear HB; have HO216 := n0_; have BK212 := n1_; have BK213 := n2_; have HB := n3_; have BK218 := n4_; have GW218 := n5_; have GE218 := n6_; have NB212_218 := n7_; have NB218_212 := n8_; have NB213_218 := n9_; have NB218_213 := n10_; clear n0_ n1_ n2_ n3_ n4_ n5_ n6_ n7_ n8_ n9_ n10_; clear hb hbox hg
      refine hK.out _ _ ⟨(bw5 BK212.out 0).trans rfl, (bw5 BK212.out 1).trans rfl, (bw5 BK212.out 2).trans rfl, (bw5 BK212.out 3).trans rfl⟩ (fun hHeld => ?_)
      clear hK K
      refine norm_ (a' := ?_) ?_ ?_
      rotate_left
      ·show Act.put _ (some 4) _ = _; simp only [Act.put, zA_, zB_, zC_, i64_w, i32_w]; rfl
      refine one_ (i := 3) (N := some 11) #[true,true,true,true,false,true,false] rfl rfl (by kernel_rfl) (by decide) (fun K hK => ?_)
      refine goes_ Tryz.func31 (by kernel_rfl) rfl #[.agg #[.int .i64 a0_0, .slice A0_1 l0_1.length c0_1, .slice A0_2 l0_2.length c0_2, .slice A0_3 l0_3.length c0_3]] (by rfl) rfl rfl (by (try simp only [List.map_toArray, List.map_cons, List.map_nil]); first | done | rfl | (simp only [List.length_drop, List.length_take]; rfl)) ?_
      with_reducible refine (giroref35_Kept.calls k a0_0 _ _ l0_1 _ _ l0_2 _ _ l0_3 t217 _ ?side1 ?side2 ?side3 ?side4 ?side5 ?side6 A3.out).mono ?_
      (case side1 => repeat (first | exact (Kd.C_below HR0_1.out HB.out) | (with_reducible refine Kd.C_alloc ?_ _) | (with_reducible refine Kd.C_drewN ?_ _) | (with_reducible refine Kd.C_drew ?_)))
      (case side2 => exact HC0_1.out)
      (case side3 => repeat (first | exact (Kd.C_below HR0_2.out HB.out) | (with_reducible refine Kd.C_alloc ?_ _) | (with_reducible refine Kd.C_drewN ?_ _) | (with_reducible refine Kd.C_drew ?_)))
      (case side4 => exact HC0_2.out)
      (case side5 => repeat (first | exact (Kd.C_below HR0_3.out HB.out) | (with_reducible refine Kd.C_alloc ?_ _) | (with_reducible refine Kd.C_drewN ?_ _) | (with_reducible refine Kd.C_drew ?_)))
      (case side6 => exact HC0_3.out)
      rintro e w11 ⟨rfl, hb⟩
      refine ⟨_, rfl, ?_⟩
      have n0_ := Aside0.mk (Kd.R_below (by (with_reducible repeat (first | apply Kd.R_alloc | apply Kd.R_drewN | apply Kd.R_drew)); exact HO216.out) hb)
      have n1_ := Aside0.mk (bx1 (g := gb212) (o := .cells #[.int .i64 a0_0, .slice A0_1 l0_1.length c0_1, .slice A0_2 l0_2.length c0_2, .slice A0_3 l0_3.length c0_3] 49 (0, 0)) (by (with_reducible repeat (first | refine bw8 ?_ _ | refine bw9 ?_ | refine bw6 ?_ _)); exact BK212.out) hb)
      have n2_ := Aside0.mk (bx1 (g := gb213) (o := .cells #[.slice none 0 0, .slice none 0 0, .int .i64 0] 54 (0, 0)) (by (with_reducible repeat (first | refine bw8 ?_ _ | refine bw9 ?_ | refine bw6 ?_ _)); exact BK213.out) hb)
      have n3_ := Aside0.mk (bx1 (g := gb218) (o := .cells #[.slice none 0 0, .slice none 0 0, .int .i64 0] 54 (0, 0)) (by (with_reducible repeat (first | refine bw8 ?_ _ | refine bw9 ?_ | refine bw6 ?_ _)); exact BK218.out) hb)
      have n4_ := Aside0.mk (bx2 (by repeat (first | (with_reducible first | exact HB.out | apply bw2 | apply bw1 | apply bw3 | refine bw4 ?_ GE212.out | refine bw4 ?_ GE213.out | refine bw4 ?_ GE218.out) | exact HB.out)) hb)
      clear HO216; clear BK212; clear BK213; clear BK218; clear HB; have HO216 := n0_; have BK212 := n1_; have BK213 := n2_; have BK218 := n3_; have HB := n4_; clear n0_ n1_ n2_ n3_ n4_; (try clear hb); (try clear hb2); (try clear hk); (try clear hi)
      obtain ⟨Ao12, co12, eo12⟩ := Kd.R_slice HO216.out
      (first | subst eo12 | (injection eo12 with f1_ f2_ f3_; have f4_ := f1_.symm; have f5_ := f3_.symm; clear f1_ f2_ f3_; subst f4_; subst f5_))
      refine hK.out _ _ ⟨(bw5 BK212.out 0).trans rfl, (bw5 BK212.out 1).trans rfl, (bw5 BK212.out 2).trans rfl, (bw5 BK212.out 3).trans rfl⟩ (fun hHeld => ?_)
      clear hK K
      refine norm_ (a' := ?_) ?_ ?_
      rotate_left
      ·show Act.put _ (some 11) _ = _; simp only [Act.put, zA_, zB_, zC_, i64_w, i32_w]; rfl
      refine pure_ (i := 4) (N := some 12) (v := ?_) (a' := ?_) #[true,true,true,true,true,true,false] rfl rfl (by kernel_rfl) (fun _ _ _ h => h) (Or.inl ⟨by rfl, ?_⟩) ?_ ?_
      rotate_left
      ·intro w'; go_simp; (with_reducible rfl)
      rotate_left
      ·simp only [Act.put, zA_, zB_, zC_, i64_w, i32_w]; rfl
      exact norm_ (by simp only [putAll, Act.put, zA_, zB_, zC_]) (hCont (.slice Ao12 t214.length co12, gb218) _ ⟨hHeld, (by (with_reducible repeat (first | apply Kd.R_alloc | apply Kd.R_drewN | apply Kd.R_drew)); exact HO216.out), (by (with_reducible repeat (first | refine bw8 ?_ _ | refine bw9 ?_ | refine bw6 ?_ _)); exact BK212.out), (by (with_reducible repeat (first | refine bw8 ?_ _ | refine bw9 ?_ | refine bw6 ?_ _)); exact BK213.out), (by (with_reducible repeat (first | refine bw8 ?_ _ | refine bw9 ?_ | refine bw6 ?_ _)); exact BK218.out), GW218.out, GE218.out, NB212_218.out, NB218_212.out, NB213_218.out, NB218_213.out, (by repeat (first | (with_reducible first | exact HB.out | apply bw2 | apply bw1 | apply bw3 | refine bw4 ?_ GE212.out | refine bw4 ?_ GE213.out | refine bw4 ?_ GE218.out) | exact HB.out))⟩)
    ·skip
     refine box_step ?hg (N := 4) ?hd (cs := #[.slice none 0 0, .slice none 0 0, .int .i64 0]) (t := 54) ?hr ?_; (case hd => rfl); (case hg => rfl); (case hr => first | (go_simp; done) | (go_simp; rfl))
     intro gb218 hg w9 hbox hb
     have n0_ := Aside0.mk (bx1 (g := gb212) (o := .cells #[.int .i64 a0_0, .slice A0_1 l0_1.length c0_1, .slice A0_2 l0_2.length c0_2, .slice A0_3 l0_3.length c0_3] 49 (0, 0)) (by (with_reducible repeat (first | refine bw8 ?_ _ | refine bw9 ?_ | refine bw6 ?_ _)); exact BK212.out) hb)
     have n1_ := Aside0.mk (bx1 (g := gb213) (o := .cells #[.slice none 0 0, .slice none 0 0, .int .i64 0] 54 (0, 0)) (by (with_reducible repeat (first | refine bw8 ?_ _ | refine bw9 ?_ | refine bw6 ?_ _)); exact BK213.out) hb)
     have n2_ := Aside0.mk (bx2 (by repeat (first | (with_reducible first | exact HB.out | apply bw2 | apply bw1 | apply bw3 | refine bw4 ?_ GE212.out | refine bw4 ?_ GE213.out) | exact HB.out)) hb)
     have n3_ := Aside0.mk (hbox)
     have n4_ := Aside0.mk ((by rw [hg]; exact (bx3 (by repeat (first | (with_reducible first | exact HB.out | apply bw2 | apply bw1 | apply bw3 | refine bw4 ?_ GE212.out | refine bw4 ?_ GE213.out) | exact HB.out))) : w.heap.size ≤ gb218))
     have n5_ := Aside0.mk ((by rw [hg]; exact (bx3 (by repeat (first | (with_reducible first | exact HB.out | apply bw2 | apply bw1 | apply bw3 | refine bw4 ?_ GE212.out | refine bw4 ?_ GE213.out) | exact HB.out))) : w.heap.size ≤ gb218))
     have n6_ := Aside0.mk ((by rw [hg]; exact Nat.ne_of_lt (blk_lt (g := gb212) (o := .cells #[.int .i64 a0_0, .slice A0_1 l0_1.length c0_1, .slice A0_2 l0_2.length c0_2, .slice A0_3 l0_3.length c0_3] 49 (0, 0)) (by (with_reducible repeat (first | refine bw8 ?_ _ | refine bw9 ?_ | refine bw6 ?_ _)); exact BK212.out)) : gb212 ≠ gb218))
     have n7_ := Aside0.mk ((by rw [hg]; exact Nat.ne_of_gt (blk_lt (g := gb212) (o := .cells #[.int .i64 a0_0, .slice A0_1 l0_1.length c0_1, .slice A0_2 l0_2.length c0_2, .slice A0_3 l0_3.length c0_3] 49 (0, 0)) (by (with_reducible repeat (first | refine bw8 ?_ _ | refine bw9 ?_ | refine bw6 ?_ _)); exact BK212.out)) : gb218 ≠ gb212))
     have n8_ := Aside0.mk ((by rw [hg]; exact Nat.ne_of_lt (blk_lt (g := gb213) (o := .cells #[.slice none 0 0, .slice none 0 0, .int .i64 0] 54 (0, 0)) (by (with_reducible repeat (first | refine bw8 ?_ _ | refine bw9 ?_ | refine bw6 ?_ _)); exact BK213.out)) : gb213 ≠ gb218))
     have n9_ := Aside0.mk ((by rw [hg]; exact Nat.ne_of_gt (blk_lt (g := gb213) (o := .cells #[.slice none 0 0, .slice none 0 0, .int .i64 0] 54 (0, 0)) (by (with_reducible repeat (first | refine bw8 ?_ _ | refine bw9 ?_ | refine bw6 ?_ _)); exact BK213.out)) : gb218 ≠ gb213))
     clear BK212; clear BK213; clear HB; have BK212 := n0_; have BK213 := n1_; have HB := n2_; have BK218 := n3_; have GW218 := n4_; have GE218 := n5_; have NB212_218 := n6_; have NB218_212 := n7_; have NB213_218 := n8_; have NB218_213 := n9_; clear n0_ n1_ n2_ n3_ n4_ n5_ n6_ n7_ n8_ n9_; clear hb hbox hg
     refine hK.out _ _ ⟨(bw5 BK212.out 0).trans rfl, (bw5 BK212.out 1).trans rfl, (bw5 BK212.out 2).trans rfl, (bw5 BK212.out 3).trans rfl⟩ (fun hHeld => ?_)
     clear hK K
     refine norm_ (a' := ?_) ?_ ?_
     rotate_left
     ·show Act.put _ (some 4) _ = _; simp only [Act.put, zA_, zB_, zC_, i64_w, i32_w]; rfl
     refine one_ (i := 1) (N := some 9) #[true,true,true,false,false,true,false] rfl rfl (by kernel_rfl) (by decide) (fun K hK => ?_)
     refine goes_ Tryz.func59 (by kernel_rfl) rfl #[.agg #[.int .i64 a0_0, .slice A0_1 l0_1.length c0_1, .slice A0_2 l0_2.length c0_2, .slice A0_3 l0_3.length c0_3]] (by rfl) rfl rfl (by (try simp only [List.map_toArray, List.map_cons, List.map_nil]); first | done | rfl | (simp only [List.length_drop, List.length_take]; rfl)) ?_
     with_reducible refine (giroref35_Released.calls k a0_0 _ _ l0_1 _ _ l0_2 _ _ l0_3 t214 _ ?side1 ?side2 ?side3 ?side4 ?side5 ?side6 A2.out).mono ?_
     (case side1 => repeat (first | exact (Kd.C_below HR0_1.out HB.out) | (with_reducible refine Kd.C_alloc ?_ _) | (with_reducible refine Kd.C_drewN ?_ _) | (with_reducible refine Kd.C_drew ?_)))
     (case side2 => exact HC0_1.out)
     (case side3 => repeat (first | exact (Kd.C_below HR0_2.out HB.out) | (with_reducible refine Kd.C_alloc ?_ _) | (with_reducible refine Kd.C_drewN ?_ _) | (with_reducible refine Kd.C_drew ?_)))
     (case side4 => exact HC0_2.out)
     (case side5 => repeat (first | exact (Kd.C_below HR0_3.out HB.out) | (with_reducible refine Kd.C_alloc ?_ _) | (with_reducible refine Kd.C_drewN ?_ _) | (with_reducible refine Kd.C_drew ?_)))
     (case side6 => exact HC0_3.out)
     rintro e w10 ⟨v215, rfl, ho0, hb⟩
     refine ⟨_, rfl, ?_⟩
     have n0_ := Aside0.mk (Kd.R_lower ho0 (bx3 (by repeat (first | (with_reducible first | exact HB.out | apply bw2 | apply bw1 | apply bw3 | refine bw4 ?_ GE212.out | refine bw4 ?_ GE213.out | refine bw4 ?_ GE218.out) | exact HB.out))))
     have n1_ := Aside0.mk (bx1 (g := gb212) (o := .cells #[.int .i64 a0_0, .slice A0_1 l0_1.length c0_1, .slice A0_2 l0_2.length c0_2, .slice A0_3 l0_3.length c0_3] 49 (0, 0)) (by (with_reducible repeat (first | refine bw8 ?_ _ | refine bw9 ?_ | refine bw6 ?_ _)); exact BK212.out) hb)
     have n2_ := Aside0.mk (bx1 (g := gb213) (o := .cells #[.slice none 0 0, .slice none 0 0, .int .i64 0] 54 (0, 0)) (by (with_reducible repeat (first | refine bw8 ?_ _ | refine bw9 ?_ | refine bw6 ?_ _)); exact BK213.out) hb)
     have n3_ := Aside0.mk (bx1 (g := gb218) (o := .cells #[.slice none 0 0, .slice none 0 0, .int .i64 0] 54 (0, 0)) (by (with_reducible repeat (first | refine bw8 ?_ _ | refine bw9 ?_ | refine bw6 ?_ _)); exact BK218.out) hb)
     have n4_ := Aside0.mk (bx2 (by repeat (first | (with_reducible first | exact HB.out | apply bw2 | apply bw1 | apply bw3 | refine bw4 ?_ GE212.out | refine bw4 ?_ GE213.out | refine bw4 ?_ GE218.out) | exact HB.out)) hb)
     clear BK212; clear BK213; clear BK218; clear HB; have HO216 := n0_; have BK212 := n1_; have BK213 := n2_; have BK218 := n3_; have HB := n4_; clear n0_ n1_ n2_ n3_ n4_; (try clear hb); (try clear hb2); (try clear hk); (try clear hi); (try clear ho0)
     refine hK.out _ _ ⟨(bw5 BK212.out 0).trans rfl, (bw5 BK212.out 1).trans rfl, (bw5 BK212.out 2).trans rfl, (bw5 BK212.out 3).trans rfl⟩ (fun hHeld => ?_)
     clear hK K
     refine norm_ (a' := ?_) ?_ ?_
     rotate_left
     ·show Act.put _ (some 9) _ = _; simp only [Act.put, zA_, zB_, zC_, i64_w, i32_w]; rfl
     refine one_ (i := 3) (N := some 11) #[true,true,true,true,false,true,false] rfl rfl (by kernel_rfl) (by decide) (fun K hK => ?_)
     refine goes_ Tryz.func31 (by kernel_rfl) rfl #[.agg #[.int .i64 a0_0, .slice A0_1 l0_1.length c0_1, .slice A0_2 l0_2.length c0_2, .slice A0_3 l0_3.length c0_3]] (by rfl) rfl rfl (by (try simp only [List.map_toArray, List.map_cons, List.map_nil]); first | done | rfl | (simp only [List.length_drop, List.length_take]; rfl)) ?_
     with_reducible refine (giroref35_Kept.calls k a0_0 _ _ l0_1 _ _ l0_2 _ _ l0_3 t217 _ ?side1 ?side2 ?side3 ?side4 ?side5 ?side6 A3.out).mono ?_
     (case side1 => repeat (first | exact (Kd.C_below HR0_1.out HB.out) | (with_reducible refine Kd.C_alloc ?_ _) | (with_reducible refine Kd.C_drewN ?_ _) | (with_reducible refine Kd.C_drew ?_)))
     (case side2 => exact HC0_1.out)
     (case side3 => repeat (first | exact (Kd.C_below HR0_2.out HB.out) | (with_reducible refine Kd.C_alloc ?_ _) | (with_reducible refine Kd.C_drewN ?_ _) | (with_reducible refine Kd.C_drew ?_)))
     (case side4 => exact HC0_2.out)
     (case side5 => repeat (first | exact (Kd.C_below HR0_3.out HB.out) | (with_reducible refine Kd.C_alloc ?_ _) | (with_reducible refine Kd.C_drewN ?_ _) | (with_reducible refine Kd.C_drew ?_)))
     (case side6 => exact HC0_3.out)
     rintro e w11 ⟨rfl, hb⟩
     refine ⟨_, rfl, ?_⟩
     have n0_ := Aside0.mk (Kd.R_below (by (with_reducible repeat (first | apply Kd.R_alloc | apply Kd.R_drewN | apply Kd.R_drew)); exact HO216.out) hb)
     have n1_ := Aside0.mk (bx1 (g := gb212) (o := .cells #[.int .i64 a0_0, .slice A0_1 l0_1.length c0_1, .slice A0_2 l0_2.length c0_2, .slice A0_3 l0_3.length c0_3] 49 (0, 0)) (by (with_reducible repeat (first | refine bw8 ?_ _ | refine bw9 ?_ | refine bw6 ?_ _)); exact BK212.out) hb)
     have n2_ := Aside0.mk (bx1 (g := gb213) (o := .cells #[.slice none 0 0, .slice none 0 0, .int .i64 0] 54 (0, 0)) (by (with_reducible repeat (first | refine bw8 ?_ _ | refine bw9 ?_ | refine bw6 ?_ _)); exact BK213.out) hb)
     have n3_ := Aside0.mk (bx1 (g := gb218) (o := .cells #[.slice none 0 0, .slice none 0 0, .int .i64 0] 54 (0, 0)) (by (with_reducible repeat (first | refine bw8 ?_ _ | refine bw9 ?_ | refine bw6 ?_ _)); exact BK218.out) hb)
     have n4_ := Aside0.mk (bx2 (by repeat (first | (with_reducible first | exact HB.out | apply bw2 | apply bw1 | apply bw3 | refine bw4 ?_ GE212.out | refine bw4 ?_ GE213.out | refine bw4 ?_ GE218.out) | exact HB.out)) hb)
     clear HO216; clear BK212; clear BK213; clear BK218; clear HB; have HO216 := n0_; have BK212 := n1_; have BK213 := n2_; have BK218 := n3_; have HB := n4_; clear n0_ n1_ n2_ n3_ n4_; (try clear hb); (try clear hb2); (try clear hk); (try clear hi)
     obtain ⟨Ao12, co12, eo12⟩ := Kd.R_slice HO216.out
     (first | subst eo12 | (injection eo12 with f1_ f2_ f3_; have f4_ := f1_.symm; have f5_ := f3_.symm; clear f1_ f2_ f3_; subst f4_; subst f5_))
     refine hK.out _ _ ⟨(bw5 BK212.out 0).trans rfl, (bw5 BK212.out 1).trans rfl, (bw5 BK212.out 2).trans rfl, (bw5 BK212.out 3).trans rfl⟩ (fun hHeld => ?_)
     clear hK K
     refine norm_ (a' := ?_) ?_ ?_
     rotate_left
     ·show Act.put _ (some 11) _ = _; simp only [Act.put, zA_, zB_, zC_, i64_w, i32_w]; rfl
     refine pure_ (i := 4) (N := some 12) (v := ?_) (a' := ?_) #[true,true,true,true,true,true,false] rfl rfl (by kernel_rfl) (fun _ _ _ h => h) (Or.inl ⟨by rfl, ?_⟩) ?_ ?_
     rotate_left
     ·intro w'; go_simp; (with_reducible rfl)
     rotate_left
     ·simp only [Act.put, zA_, zB_, zC_, i64_w, i32_w]; rfl
     exact norm_ (by simp only [putAll, Act.put, zA_, zB_, zC_]) (hCont (.slice Ao12 t214.length co12, gb218) _ ⟨hHeld, (by (with_reducible repeat (first | apply Kd.R_alloc | apply Kd.R_drewN | apply Kd.R_drew)); exact HO216.out), (by (with_reducible repeat (first | refine bw8 ?_ _ | refine bw9 ?_ | refine bw6 ?_ _)); exact BK212.out), (by (with_reducible repeat (first | refine bw8 ?_ _ | refine bw9 ?_ | refine bw6 ?_ _)); exact BK213.out), (by (with_reducible repeat (first | refine bw8 ?_ _ | refine bw9 ?_ | refine bw6 ?_ _)); exact BK218.out), GW218.out, GE218.out, NB212_218.out, NB218_212.out, NB213_218.out, NB218_213.out, (by repeat (first | (with_reducible first | exact HB.out | apply bw2 | apply bw1 | apply bw3 | refine bw4 ?_ GE212.out | refine bw4 ?_ GE213.out | refine bw4 ?_ GE218.out) | exact HB.out))⟩)
   rintro ⟨v215, gb218⟩ w13 ⟨hS_, h0_, h1_, h2_, h3_, h4_, h5_, h6_, h7_, h8_, h9_, h10_⟩
   have n0_ : Aside0 (Kd.R k109 109 w13 w.heap.size (fun _ => True) v215 t214) := ⟨h0_⟩
   have n1_ : Aside0 (w13.heap[gb212]? = some (.cells #[.int .i64 a0_0, .slice A0_1 l0_1.length c0_1, .slice A0_2 l0_2.length c0_2, .slice A0_3 l0_3.length c0_3] 49 (0, 0))) := ⟨h1_⟩
   have n2_ : Aside0 (w13.heap[gb213]? = some (.cells #[.slice none 0 0, .slice none 0 0, .int .i64 0] 54 (0, 0))) := ⟨h2_⟩
   have n3_ : Aside0 (w13.heap[gb218]? = some (.cells #[.slice none 0 0, .slice none 0 0, .int .i64 0] 54 (0, 0))) := ⟨h3_⟩
   have n4_ : Aside0 (w.heap.size ≤ gb218) := ⟨h4_⟩
   have n5_ : Aside0 (w.heap.size ≤ gb218) := ⟨h5_⟩
   have n6_ : Aside0 (gb212 ≠ gb218) := ⟨h6_⟩
   have n7_ : Aside0 (gb218 ≠ gb212) := ⟨h7_⟩
   have n8_ : Aside0 (gb213 ≠ gb218) := ⟨h8_⟩
   have n9_ : Aside0 (gb218 ≠ gb213) := ⟨h9_⟩
   have n10_ : Aside0 (Below w.heap.size w w13) := ⟨h10_⟩
   clear BK212; clear BK213; clear HB; clear h0_ h1_ h2_ h3_ h4_ h5_ h6_ h7_ h8_ h9_ h10_; have HO216 := n0_; have BK212 := n1_; have BK213 := n2_; have BK218 := n3_; have GW218 := n4_; have GE218 := n5_; have NB212_218 := n6_; have NB218_212 := n7_; have NB213_218 := n8_; have NB218_213 := n9_; have HB := n10_; clear n0_ n1_ n2_ n3_ n4_ n5_ n6_ n7_ n8_ n9_ n10_
   have hHeld : w13.cell? ⟨gb212, 0, none⟩ = some (.int .i64 a0_0) ∧ w13.cell? ⟨gb212, 1, none⟩ = some (.slice A0_1 l0_1.length c0_1) ∧ w13.cell? ⟨gb212, 2, none⟩ = some (.slice A0_2 l0_2.length c0_2) ∧ w13.cell? ⟨gb212, 3, none⟩ = some (.slice A0_3 l0_3.length c0_3) := hS_
   obtain ⟨Ao14, co14, eo14⟩ := Kd.R_slice HO216.out
   (first | subst eo14 | (injection eo14 with f1_ f2_ f3_; have f4_ := f1_.symm; have f5_ := f3_.symm; clear f1_ f2_ f3_; subst f4_; subst f5_))
   refine norm_ (a' := ?_) ?_ ?_
   rotate_left
   ·simp only [putAll, Act.put, zA_, zB_, zC_]; rfl
   refine one_ (i := 6) (N := none) #[true,true,true,true,true,true,true] rfl rfl (by kernel_rfl) (by decide) (fun K hK => ?_)
   have hs15 : w13.cell? ⟨gb218, 0, none⟩ = some (.slice none 0 0) := (bw5 BK218.out 0).trans rfl
   have hfs15 := bw7 BK218.out 0
   have hns15_0 := NB212_218.out
   have hns15_1 := NB213_218.out
   have hms15_0 := NB218_212.out
   have hms15_1 := NB218_213.out
   have hs16 : w13.cell? ⟨gb218, 1, none⟩ = some (.slice none 0 0) := (bw5 BK218.out 1).trans rfl
   have hfs16 := bw7 BK218.out 1
   have hns16_0 := NB212_218.out
   have hns16_1 := NB213_218.out
   have hms16_0 := NB218_212.out
   have hms16_1 := NB218_213.out
   have hs17 : w13.cell? ⟨gb218, 2, none⟩ = some (.int .i64 0) := (bw5 BK218.out 2).trans rfl
   have hfs17 := bw7 BK218.out 2
   have hns17_0 := NB212_218.out
   have hns17_1 := NB213_218.out
   have hms17_0 := NB218_212.out
   have hms17_1 := NB218_213.out
   refine skip_ (w1 := ?_) (by rfl) rfl ?_ ?_
   rotate_left
   ·go_simp; rfl
   refine hK.out _ _ ⟨((cell_far (p := ⟨gb218, _, none⟩) NB212_218.out _).trans (((cell_far (p := ⟨gb218, _, none⟩) NB212_218.out _).trans (((cell_far (p := ⟨gb218, _, none⟩) NB212_218.out _).trans (hHeld.1)))))), ((cell_far (p := ⟨gb218, _, none⟩) NB212_218.out _).trans (((cell_far (p := ⟨gb218, _, none⟩) NB212_218.out _).trans (((cell_far (p := ⟨gb218, _, none⟩) NB212_218.out _).trans (hHeld.2.1)))))), ((cell_far (p := ⟨gb218, _, none⟩) NB212_218.out _).trans (((cell_far (p := ⟨gb218, _, none⟩) NB212_218.out _).trans (((cell_far (p := ⟨gb218, _, none⟩) NB212_218.out _).trans (hHeld.2.2.1)))))), ((cell_far (p := ⟨gb218, _, none⟩) NB212_218.out _).trans (((cell_far (p := ⟨gb218, _, none⟩) NB212_218.out _).trans (((cell_far (p := ⟨gb218, _, none⟩) NB212_218.out _).trans (hHeld.2.2.2))))))⟩ (fun hHeld => ?_)
   clear hK K
   refine done_ (by kernel_rfl) ?_
   have hnb18 := NB212_213.out
   have hnc18 := NB213_212.out
   have hnb19 := NB212_218.out
   have hnc19 := NB218_212.out
   have hcz20_0 : w13.cell? ⟨gb212, 0, none⟩ = some (.int .i64 a0_0) := (bw5 BK212.out 0).trans rfl
   have hcz20_1 : w13.cell? ⟨gb212, 1, none⟩ = some (.slice A0_1 l0_1.length c0_1) := (bw5 BK212.out 1).trans rfl
   have hcz20_2 : w13.cell? ⟨gb212, 2, none⟩ = some (.slice A0_2 l0_2.length c0_2) := (bw5 BK212.out 2).trans rfl
   have hcz20_3 : w13.cell? ⟨gb212, 3, none⟩ = some (.slice A0_3 l0_3.length c0_3) := (bw5 BK212.out 3).trans rfl
   have hfz20_0 := bw7 BK212.out 0
   have hfz20_1 := bw7 BK212.out 1
   have hfz20_2 := bw7 BK212.out 2
   have hfz20_3 := bw7 BK212.out 3
   try go_wp2_with (first | ((with_reducible refine gate_dst (N := 16) rfl ?_); refine Kd.R_make Kd.bool _ 4 rfl (N := 16) rfl 41 _ _ rfl (l0_3.length : Int) rfl rfl Tryz.underlying41 (.bool false) 1 info4 rfl (by decide) (by omega) false (ok := fun _ => True) (okp := fun _ => True) rfl (fun _ hk => hk) trivial (of_decide_eq_true (by first | (with_reducible assumption) | assumption)) (Nat.le_trans (Nat.mul_le_mul_right _ (of_decide_eq_true (by first | (with_reducible assumption) | assumption) : (l0_3.length : Int).toNat ≤ 281474976710656)) (by omega)) (Below.refl _ _) (Nat.le_refl _) ?_; intro v220 w21 ho22 hb hg_ hnew_; clear hg_ hnew_; (first | rw [← Ny219.out] at ho22 | (simp only [Int.reduceToNat] at ho22; rw [← Ny219.out] at ho22)); have n0_ := Aside0.mk (Kd.R_below (by (with_reducible repeat (first | apply Kd.R_alloc | apply Kd.R_drewN | apply Kd.R_drew)); exact (Kd.R_mono (Kd.R_far (p := ⟨gb218, 2, none⟩) (Kd.R_far (p := ⟨gb218, 1, none⟩) (Kd.R_far (p := ⟨gb218, 0, none⟩) (Kd.R_types HO216.out BK218.out (by decide)) (fun _ hk => hk.2) (.slice none 0 0)) (fun _ hk => hk.2) (.slice Ao14 t214.length co14)) (fun _ hk => hk.2) (.int .i64 t217)) (fun _ h_ => h_.1))) hb); have n1_ := Aside0.mk (Kd.R_lower ho22 (bx3 (by repeat (first | (with_reducible first | exact HB.out | apply bw2 | apply bw1 | apply bw3 | refine bw4 ?_ GE212.out | refine bw4 ?_ GE213.out | refine bw4 ?_ GE218.out) | exact HB.out)))); have n2_ := Aside0.mk (bx1 (g := gb212) (o := .cells #[.int .i64 a0_0, .slice A0_1 l0_1.length c0_1, .slice A0_2 l0_2.length c0_2, .slice A0_3 l0_3.length c0_3] 49 (0, 0)) (by (with_reducible repeat (first | refine bw8 ?_ _ | refine bw9 ?_ | refine bw6 ?_ _)); refine blk_far ?_ NB212_218.out _; (with_reducible repeat (first | refine bw8 ?_ _ | refine bw9 ?_ | refine bw6 ?_ _)); refine blk_far ?_ NB212_218.out _; (with_reducible repeat (first | refine bw8 ?_ _ | refine bw9 ?_ | refine bw6 ?_ _)); refine blk_far ?_ NB212_218.out _; (with_reducible repeat (first | refine bw8 ?_ _ | refine bw9 ?_ | refine bw6 ?_ _)); exact BK212.out) hb); have n3_ := Aside0.mk (bx1 (g := gb213) (o := .cells #[.slice none 0 0, .slice none 0 0, .int .i64 0] 54 (0, 0)) (by (with_reducible repeat (first | refine bw8 ?_ _ | refine bw9 ?_ | refine bw6 ?_ _)); refine blk_far ?_ NB213_218.out _; (with_reducible repeat (first | refine bw8 ?_ _ | refine bw9 ?_ | refine bw6 ?_ _)); refine blk_far ?_ NB213_218.out _; (with_reducible repeat (first | refine bw8 ?_ _ | refine bw9 ?_ | refine bw6 ?_ _)); refine blk_far ?_ NB213_218.out _; (with_reducible repeat (first | refine bw8 ?_ _ | refine bw9 ?_ | refine bw6 ?_ _)); exact BK213.out) hb); have n4_ := Aside0.mk (bx1 (g := gb218) (o := .cells #[.slice none 0 0, .slice Ao14 t214.length co14, .int .i64 t217] 54 (0, 0)) (by (with_reducible repeat (first | refine bw8 ?_ _ | refine bw9 ?_ | refine bw6 ?_ _)); refine blk_put (cs := #[.slice none 0 0, .slice Ao14 t214.length co14, .int .i64 0]) ?_ 2 _ rfl; (with_reducible repeat (first | refine bw8 ?_ _ | refine bw9 ?_ | refine bw6 ?_ _)); refine blk_put (cs := #[.slice none 0 0, .slice none 0 0, .int .i64 0]) ?_ 1 _ rfl; (with_reducible repeat (first | refine bw8 ?_ _ | refine bw9 ?_ | refine bw6 ?_ _)); refine blk_put (cs := #[.slice none 0 0, .slice none 0 0, .int .i64 0]) ?_ 0 _ rfl; (with_reducible repeat (first | refine bw8 ?_ _ | refine bw9 ?_ | refine bw6 ?_ _)); exact BK218.out) hb); have n5_ := Aside0.mk (bx2 (by repeat (first | (with_reducible first | exact HB.out | apply bw2 | apply bw1 | apply bw3 | refine bw4 ?_ GE212.out | refine bw4 ?_ GE213.out | refine bw4 ?_ GE218.out) | exact HB.out)) hb); clear HO216; clear BK212; clear BK213; clear BK218; clear HB; have HO216 := n0_; have HO221 := n1_; have BK212 := n2_; have BK213 := n3_; have BK218 := n4_; have HB := n5_; clear n0_ n1_ n2_ n3_ n4_ n5_; clear hb ho22))
   go_loopg [] k (fun kq w' => ∃ (x5_1 : List Bool) (x214002_1 : Int) (x219000_1 : List (S109)) (x219002_1 : Int) (u219000 : Value), Aside0 (giroref35_Greedy.l0 kq x5_1 a0_0 l0_1 l0_2 l0_3 x219000_1 t214 x219002_1 = some (r1, r2, r3, r4)) ∧ Aside0 (kq ≤ k) ∧ Aside0 (Kd.R Kd.bool 4 w' w.heap.size (fun _ => True) v220 x5_1) ∧ Aside0 (Kd.R k109 109 w' w.heap.size (fun k_ => some k_ ≠ ((.slice Ao14 t214.length co14) : Value).ownBlock) u219000 x219000_1) ∧ Aside0 (Kd.R k109 109 w' w.heap.size (fun k_ => some k_ ≠ (u219000 : Value).ownBlock) (.slice Ao14 t214.length co14) t214) ∧ Aside0 (w'.heap[gb212]? = some (.cells #[.int .i64 a0_0, (.slice A0_1 l0_1.length c0_1), (.slice A0_2 l0_2.length c0_2), (.slice A0_3 l0_3.length c0_3)] 49 (0, 0))) ∧ Aside0 (w'.heap[gb213]? = some (.cells #[(.slice none 0 0), (.slice none 0 0), .int .i64 x214002_1] 54 (0, 0))) ∧ Aside0 (w'.heap[gb218]? = some (.cells #[u219000, (.slice Ao14 t214.length co14), .int .i64 x219002_1] 54 (0, 0))) ∧ Aside0 (Below w.heap.size w w'))
   case atStart => exact ⟨(y219), (0), (([] : List (S109))), (t217), (.slice none 0 0), H', ⟨Nat.le_refl _⟩, ⟨by (with_reducible repeat (first | apply Kd.R_alloc | apply Kd.R_drewN | apply Kd.R_drew)); exact HO221.out⟩, ⟨by first | exact Kd.R_nil _ _ _ _ _ | exact Kd.N_nil _ _ _ _ _ | exact Kd.V_nil _ _ _ _ _ | exact Kd.Q_nil _ _ _ _ _ | exact Kd.S_nil _ _ _ _ _⟩, ⟨by (with_reducible repeat (first | apply Kd.R_alloc | apply Kd.R_drewN | apply Kd.R_drew)); exact Kd.R_mono HO216.out (fun _ hk => (by simp [Value.ownBlock]))⟩, ⟨by (with_reducible repeat (first | refine bw8 ?_ _ | refine bw9 ?_ | refine bw6 ?_ _)); exact BK212.out⟩, ⟨by (with_reducible repeat (first | refine bw8 ?_ _ | refine bw9 ?_ | refine bw6 ?_ _)); exact BK213.out⟩, ⟨by (with_reducible repeat (first | refine bw8 ?_ _ | refine bw9 ?_ | refine bw6 ?_ _)); exact BK218.out⟩, ⟨by repeat (first | (with_reducible first | exact HB.out | apply bw2 | apply bw1 | apply bw3 | refine bw4 ?_ GE212.out | refine bw4 ?_ GE213.out | refine bw4 ?_ GE218.out) | exact HB.out)⟩⟩
   case round =>
    clear H'
    try clear c1
    try clear c2
    try clear p2
    try clear c3
    try clear c4
    try clear c4b0
    try clear c4b1
    try clear c5
    try clear c5b0
    try clear c5b1
    try clear c18
    try clear c19
    try clear c21
    try clear hcz20_0
    try clear hcz20_1
    try clear hcz20_2
    try clear hcz20_3
    try clear hfz20_0
    try clear hfz20_1
    try clear hfz20_2
    try clear hfz20_3
    obtain ⟨x5_1, x214002_1, x219000_1, x219002_1, u219000, HA, HK1, HO_5, HO_219000, HO_219001, BK212, BK213, BK218, HB⟩ := hrel
    cases gk with
    | zero => exact absurd HA.out (by simp [giroref35_Greedy.l0])
    | succ k1 =>
     have H := HA.out
     clear HA
     simp only [giroref35_Greedy.l0] at H
     by_cases c23 : x219002_1 < a0_0
     ·rw [if_pos c23] at H
      have c23b0 : decide (x219002_1 < a0_0) = true := decide_eq_true c23
      clear c23
      have H' := Aside0.mk H
      clear H
      have hnb24 := NB218_212.out
      have hnc24 := NB212_218.out
      have hnb25 := NB218_213.out
      have hnc25 := NB213_218.out
      have hcz26_0 : wr.cell? ⟨gb218, 0, none⟩ = some (u219000) := (bw5 BK218.out 0).trans rfl
      have hcz26_1 : wr.cell? ⟨gb218, 1, none⟩ = some (.slice Ao14 t214.length co14) := (bw5 BK218.out 1).trans rfl
      have hcz26_2 : wr.cell? ⟨gb218, 2, none⟩ = some (.int .i64 x219002_1) := (bw5 BK218.out 2).trans rfl
      have hfz26_0 := bw7 BK218.out 0
      have hfz26_1 := bw7 BK218.out 1
      have hfz26_2 := bw7 BK218.out 2
      have hnb27 := NB212_213.out
      have hnc27 := NB213_212.out
      have hcz28_0 : wr.cell? ⟨gb212, 0, none⟩ = some (.int .i64 a0_0) := (bw5 BK212.out 0).trans rfl
      have hcz28_1 : wr.cell? ⟨gb212, 1, none⟩ = some (.slice A0_1 l0_1.length c0_1) := (bw5 BK212.out 1).trans rfl
      have hcz28_2 : wr.cell? ⟨gb212, 2, none⟩ = some (.slice A0_2 l0_2.length c0_2) := (bw5 BK212.out 2).trans rfl
      have hcz28_3 : wr.cell? ⟨gb212, 3, none⟩ = some (.slice A0_3 l0_3.length c0_3) := (bw5 BK212.out 3).trans rfl
      have hfz28_0 := bw7 BK212.out 0
      have hfz28_1 := bw7 BK212.out 1
      have hfz28_2 := bw7 BK212.out 2
      have hfz28_3 := bw7 BK212.out 3
      go_wp2
      go_loopg [6, 7] k1 (fun kq v6 v7 w' => ∃ (x6_2 : Int) (x7_2 : Int), v6 = .int .i64 x6_2 ∧ v7 = .int .i64 x7_2 ∧ Aside0 (giroref35_Greedy.l1 kq x5_1 x6_2 x7_2 a0_0 l0_1 l0_2 l0_3 x219000_1 t214 x219002_1 = some (r1, r2, r3, r4)) ∧ Aside0 (kq ≤ k1) ∧ Aside0 (Kd.R Kd.bool 4 w' w.heap.size (fun _ => True) v220 x5_1) ∧ Aside0 (Kd.R k109 109 w' w.heap.size (fun k_ => some k_ ≠ ((.slice Ao14 t214.length co14) : Value).ownBlock) u219000 x219000_1) ∧ Aside0 (Kd.R k109 109 w' w.heap.size (fun k_ => some k_ ≠ (u219000 : Value).ownBlock) (.slice Ao14 t214.length co14) t214) ∧ Aside0 (w'.heap[gb212]? = some (.cells #[.int .i64 a0_0, (.slice A0_1 l0_1.length c0_1), (.slice A0_2 l0_2.length c0_2), (.slice A0_3 l0_3.length c0_3)] 49 (0, 0))) ∧ Aside0 (w'.heap[gb213]? = some (.cells #[(.slice none 0 0), (.slice none 0 0), .int .i64 x214002_1] 54 (0, 0))) ∧ Aside0 (w'.heap[gb218]? = some (.cells #[u219000, (.slice Ao14 t214.length co14), .int .i64 x219002_1] 54 (0, 0))) ∧ Aside0 (Below w.heap.size w w'))
      case atStart => exact ⟨((-1)), (0), (by first | rfl | (simp; done) | (simp [*]; done)), (by first | rfl | (simp; done) | (simp [*]; done)), H', ⟨Nat.le_refl _⟩, ⟨by (with_reducible repeat (first | apply Kd.R_alloc | apply Kd.R_drewN | apply Kd.R_drew)); exact HO_5.out⟩, ⟨by (with_reducible repeat (first | apply Kd.R_alloc | apply Kd.R_drewN | apply Kd.R_drew)); exact HO_219000.out⟩, ⟨by (with_reducible repeat (first | apply Kd.R_alloc | apply Kd.R_drewN | apply Kd.R_drew)); exact HO_219001.out⟩, ⟨by (with_reducible repeat (first | refine bw8 ?_ _ | refine bw9 ?_ | refine bw6 ?_ _)); exact BK212.out⟩, ⟨by (with_reducible repeat (first | refine bw8 ?_ _ | refine bw9 ?_ | refine bw6 ?_ _)); exact BK213.out⟩, ⟨by (with_reducible repeat (first | refine bw8 ?_ _ | refine bw9 ?_ | refine bw6 ?_ _)); exact BK218.out⟩, ⟨by repeat (first | (with_reducible first | exact HB.out | apply bw2 | apply bw1 | apply bw3 | refine bw4 ?_ GE212.out | refine bw4 ?_ GE213.out | refine bw4 ?_ GE218.out) | exact HB.out)⟩⟩
      case round =>
       clear H'
       try clear c1
       try clear c2
       try clear p2
       try clear c3
       try clear c4
       try clear c4b0
       try clear c4b1
       try clear c5
       try clear c5b0
       try clear c5b1
       try clear c18
       try clear c19
       try clear c21
       try clear c23
       try clear c23b0
       try clear c24
       try clear c25
       try clear c27
       try clear hcz20_0
       try clear hcz20_1
       try clear hcz20_2
       try clear hcz20_3
       try clear hcz26_0
       try clear hcz26_1
       try clear hcz26_2
       try clear hcz28_0
       try clear hcz28_1
       try clear hcz28_2
       try clear hcz28_3
       try clear hfz20_0
       try clear hfz20_1
       try clear hfz20_2
       try clear hfz20_3
       try clear hfz26_0
       try clear hfz26_1
       try clear hfz26_2
       try clear hfz28_0
       try clear hfz28_1
       try clear hfz28_2
       try clear hfz28_3
       try clear p2
       obtain ⟨x6_2, x7_2, rfl, rfl, HA, HK2, HO_5, HO_219000, HO_219001, BK212, BK213, BK218, HB⟩ := hrel
       cases gk with
       | zero => exact absurd HA.out (by simp [giroref35_Greedy.l1])
       | succ k2 =>
        have H := HA.out
        clear HA
        simp only [giroref35_Greedy.l1] at H
        by_cases c29 : x7_2 < (l0_3.length : Int)
        ·rw [if_pos c29] at H
         have c29b0 : decide (x7_2 < (l0_3.length : Int)) = true := decide_eq_true c29
         clear c29
         by_cases c30 : 0 ≤ x7_2
         ·rw [if_pos c30] at H
          have c30b0 : decide (0 ≤ x7_2) = true := decide_eq_true c30
          clear c30
          by_cases c31 : x7_2 < (x5_1.length : Int)
          ·rw [if_pos c31] at H
           have c31b0 : decide (x7_2 < (x5_1.length : Int)) = true := decide_eq_true c31
           clear c31
           obtain ⟨bq32, hbq32⟩ : ∃ b_ : Bool, b_ = (rdOf false x5_1 x7_2) := ⟨_, rfl⟩
           replace H : (if bq32 = true then (giroref35_Greedy.l1 k2 x5_1 x6_2 (wrap64 (x7_2 + 1)) a0_0 l0_1 l0_2 l0_3 x219000_1 t214 x219002_1) else (if x6_2 < 0 then (giroref35_Greedy.l1 k2 x5_1 x7_2 (wrap64 (x7_2 + 1)) a0_0 l0_1 l0_2 l0_3 x219000_1 t214 x219002_1) else (if 0 ≤ x6_2 then (if x6_2 < (l0_3.length : Int) then (if ((rd_T109 l0_3 x7_2).f2) > ((rd_T109 l0_3 x6_2).f2) then (giroref35_Greedy.l1 k2 x5_1 x7_2 (wrap64 (x7_2 + 1)) a0_0 l0_1 l0_2 l0_3 x219000_1 t214 x219002_1) else (if ((rd_T109 l0_3 x7_2).f2) = ((rd_T109 l0_3 x6_2).f2) then (if (Op.bytesLess (((rd_T109 l0_3 x7_2).f0).toList) (((rd_T109 l0_3 x6_2).f0).toList)) = true then (giroref35_Greedy.l1 k2 x5_1 x7_2 (wrap64 (x7_2 + 1)) a0_0 l0_1 l0_2 l0_3 x219000_1 t214 x219002_1) else (giroref35_Greedy.l1 k2 x5_1 x6_2 (wrap64 (x7_2 + 1)) a0_0 l0_1 l0_2 l0_3 x219000_1 t214 x219002_1)) else (giroref35_Greedy.l1 k2 x5_1 x6_2 (wrap64 (x7_2 + 1)) a0_0 l0_1 l0_2 l0_3 x219000_1 t214 x219002_1))) else (none)) else (none)))) = some (r1, r2, r3, r4) := by rw [← hbq32] at H; exact H
           have Nbq32 := Aside0.mk hbq32
           clear hbq32
           by_cases c33 : bq32 = true
           ·subst c33
            have H1 : (giroref35_Greedy.l1 k2 x5_1 x6_2 (wrap64 (x7_2 + 1)) a0_0 l0_1 l0_2 l0_3 x219000_1 t214 x219002_1) = some (r1, r2, r3, r4) := by rw [if_pos rfl] at H; exact H
            clear H
            have H := H1
            clear H1
            have H' := Aside0.mk H
            clear H
            have hnb34 := NB212_213.out
            have hnc34 := NB213_212.out
            have hnb35 := NB212_218.out
            have hnc35 := NB218_212.out
            have hcz36_0 : wr.cell? ⟨gb212, 0, none⟩ = some (.int .i64 a0_0) := (bw5 BK212.out 0).trans rfl
            have hcz36_1 : wr.cell? ⟨gb212, 1, none⟩ = some (.slice A0_1 l0_1.length c0_1) := (bw5 BK212.out 1).trans rfl
            have hcz36_2 : wr.cell? ⟨gb212, 2, none⟩ = some (.slice A0_2 l0_2.length c0_2) := (bw5 BK212.out 2).trans rfl
            have hcz36_3 : wr.cell? ⟨gb212, 3, none⟩ = some (.slice A0_3 l0_3.length c0_3) := (bw5 BK212.out 3).trans rfl
            have hfz36_0 := bw7 BK212.out 0
            have hfz36_1 := bw7 BK212.out 1
            have hfz36_2 := bw7 BK212.out 2
            have hfz36_3 := bw7 BK212.out 3
            obtain ⟨Ao37, co37, eo37⟩ := Kd.R_slice HO_5.out
            subst eo37
            have p228 : 0 ≤ (x7_2 : Int) := of_decide_eq_true (by first | (with_reducible assumption) | assumption)
            have q228 : x7_2 < (x5_1.length : Int) := of_decide_eq_true (by first | (with_reducible assumption) | assumption)
            obtain ⟨ad228, e228, hx228_0⟩ := Kd.at_bool (Kd.R_reads' HO_5.out).2.2 x7_2 p228 q228
            (try rw [← Nbq32.out] at hx228_0)
            cases e228
            replace p228 := eq_true p228
            replace q228 := eq_true q228
            go_wp2
            go_roundg k2
            case measure => have := HK1.out; have := HK2.out; omega
            case rel => exact ⟨(x6_2), (wrap64 (x7_2 + 1)), (by first | rfl | (simp; done) | (simp [*]; done)), (by first | rfl | (simp; done) | (simp [*]; done)), H', ⟨by have := HK1.out; have := HK2.out; omega⟩, ⟨by (with_reducible repeat (first | apply Kd.R_alloc | apply Kd.R_drewN | apply Kd.R_drew)); exact HO_5.out⟩, ⟨by (with_reducible repeat (first | apply Kd.R_alloc | apply Kd.R_drewN | apply Kd.R_drew)); exact HO_219000.out⟩, ⟨by (with_reducible repeat (first | apply Kd.R_alloc | apply Kd.R_drewN | apply Kd.R_drew)); exact HO_219001.out⟩, ⟨by (with_reducible repeat (first | refine bw8 ?_ _ | refine bw9 ?_ | refine bw6 ?_ _)); exact BK212.out⟩, ⟨by (with_reducible repeat (first | refine bw8 ?_ _ | refine bw9 ?_ | refine bw6 ?_ _)); exact BK213.out⟩, ⟨by (with_reducible repeat (first | refine bw8 ?_ _ | refine bw9 ?_ | refine bw6 ?_ _)); exact BK218.out⟩, ⟨by repeat (first | (with_reducible first | exact HB.out | apply bw2 | apply bw1 | apply bw3 | refine bw4 ?_ GE212.out | refine bw4 ?_ GE213.out | refine bw4 ?_ GE218.out) | exact HB.out)⟩⟩
           ·replace c33 := Bool.eq_false_iff.mpr c33
            subst c33
            have H1 : (if x6_2 < 0 then (giroref35_Greedy.l1 k2 x5_1 x7_2 (wrap64 (x7_2 + 1)) a0_0 l0_1 l0_2 l0_3 x219000_1 t214 x219002_1) else (if 0 ≤ x6_2 then (if x6_2 < (l0_3.length : Int) then (if ((rd_T109 l0_3 x7_2).f2) > ((rd_T109 l0_3 x6_2).f2) then (giroref35_Greedy.l1 k2 x5_1 x7_2 (wrap64 (x7_2 + 1)) a0_0 l0_1 l0_2 l0_3 x219000_1 t214 x219002_1) else (if ((rd_T109 l0_3 x7_2).f2) = ((rd_T109 l0_3 x6_2).f2) then (if (Op.bytesLess (((rd_T109 l0_3 x7_2).f0).toList) (((rd_T109 l0_3 x6_2).f0).toList)) = true then (giroref35_Greedy.l1 k2 x5_1 x7_2 (wrap64 (x7_2 + 1)) a0_0 l0_1 l0_2 l0_3 x219000_1 t214 x219002_1) else (giroref35_Greedy.l1 k2 x5_1 x6_2 (wrap64 (x7_2 + 1)) a0_0 l0_1 l0_2 l0_3 x219000_1 t214 x219002_1)) else (giroref35_Greedy.l1 k2 x5_1 x6_2 (wrap64 (x7_2 + 1)) a0_0 l0_1 l0_2 l0_3 x219000_1 t214 x219002_1))) else (none)) else (none))) = some (r1, r2, r3, r4) := by rw [if_neg (show ¬ (false = true) by decide)] at H; exact H
            clear H
            have H := H1
            clear H1
            by_cases c38 : x6_2 < 0
            ·rw [if_pos c38] at H
             have c38b0 : decide (x6_2 < 0) = true := decide_eq_true c38
             clear c38
             have H' := Aside0.mk H
             clear H
             have hnb39 := NB212_213.out
             have hnc39 := NB213_212.out
             have hnb40 := NB212_218.out
             have hnc40 := NB218_212.out
             have hcz41_0 : wr.cell? ⟨gb212, 0, none⟩ = some (.int .i64 a0_0) := (bw5 BK212.out 0).trans rfl
             have hcz41_1 : wr.cell? ⟨gb212, 1, none⟩ = some (.slice A0_1 l0_1.length c0_1) := (bw5 BK212.out 1).trans rfl
             have hcz41_2 : wr.cell? ⟨gb212, 2, none⟩ = some (.slice A0_2 l0_2.length c0_2) := (bw5 BK212.out 2).trans rfl
             have hcz41_3 : wr.cell? ⟨gb212, 3, none⟩ = some (.slice A0_3 l0_3.length c0_3) := (bw5 BK212.out 3).trans rfl
             have hfz41_0 := bw7 BK212.out 0
             have hfz41_1 := bw7 BK212.out 1
             have hfz41_2 := bw7 BK212.out 2
             have hfz41_3 := bw7 BK212.out 3
             obtain ⟨Ao42, co42, eo42⟩ := Kd.R_slice HO_5.out
             subst eo42
             have p228 : 0 ≤ (x7_2 : Int) := of_decide_eq_true (by first | (with_reducible assumption) | assumption)
             have q228 : x7_2 < (x5_1.length : Int) := of_decide_eq_true (by first | (with_reducible assumption) | assumption)
             obtain ⟨ad228, e228, hx228_0⟩ := Kd.at_bool (Kd.R_reads' HO_5.out).2.2 x7_2 p228 q228
             (try rw [← Nbq32.out] at hx228_0)
             cases e228
             replace p228 := eq_true p228
             replace q228 := eq_true q228
             try go_wp2
             have n0_ := Aside0.mk (Kd.R_drew HO_5.out)
             have n1_ := Aside0.mk (Kd.R_drew HO_219000.out)
             have n2_ := Aside0.mk (Kd.R_drew HO_219001.out)
             have n3_ := Aside0.mk (bw9 BK212.out)
             have n4_ := Aside0.mk (bw9 BK213.out)
             have n5_ := Aside0.mk (bw9 BK218.out)
             have n6_ := Aside0.mk (bw3 HB.out)
             clear HO_5; clear HO_219000; clear HO_219001; clear BK212; clear BK213; clear BK218; clear HB; have HO_5 := n0_; have HO_219000 := n1_; have HO_219001 := n2_; have BK212 := n3_; have BK213 := n4_; have BK218 := n5_; have HB := n6_; clear n0_ n1_ n2_ n3_ n4_ n5_ n6_
             refine start_ (n := 47) (S := fun w' => True) (ds := []) giroref35_Greedy.zb0 (by kernel_rfl) rfl rfl trivial (fun hHeld => ?_); refine with_tabW giroref35_Greedy.tab9 giroref35_Greedy.bits9 (fun HT_ HW_ => ?_)
             generalize wr.drew = w43 at HO_5 HO_219000 HO_219001 BK212 BK213 BK218 HB hHeld ⊢
             refine pure_ (i := 0) (N := some 33) (v := ?_) (a' := ?_) giroref35_Greedy.zb1 rfl rfl (any_of HT_.out (by kernel_rfl)) (fun _ _ _ h => h) (Or.inl ⟨by rfl, ?_⟩) ?_ ?_
             rotate_left
             ·intro w'; go_simp; (with_reducible rfl)
             rotate_left
             ·simp only [Act.put, zA_, zB_, zC_, i64_w, i32_w]; rfl
             refine pure_ (i := 1) (N := some 34) (v := ?_) (a' := ?_) giroref35_Greedy.zb2 rfl rfl (any_of HT_.out (by kernel_rfl)) (fun _ _ _ h => h) (Or.inl ⟨by rfl, ?_⟩) ?_ ?_
             rotate_left
             ·intro w'; go_simp; (with_reducible rfl)
             rotate_left
             ·simp only [Act.put, zA_, zB_, zC_, i64_w, i32_w]; rfl
             refine pure_ (i := 2) (N := some 35) (v := ?_) (a' := ?_) giroref35_Greedy.zb3 rfl rfl (any_of HT_.out (by kernel_rfl)) (fun _ _ _ h => h) (Or.inl ⟨by rfl, ?_⟩) ?_ ?_
             rotate_left
             ·intro w'; go_simp; (with_reducible rfl)
             rotate_left
             ·simp only [Act.put, zA_, zB_, zC_, i64_w, i32_w]; rfl
             refine pure_ (i := 3) (N := some 36) (v := undef) (a' := ?_) giroref35_Greedy.zb4 rfl rfl (any_of HT_.out (by kernel_rfl)) (fun _ _ _ h => h) (Or.inr ⟨by rfl, rfl⟩) ?_ ?_
             rotate_left
             ·simp only [Act.put, zA_, zB_, zC_, i64_w, i32_w]; rfl
             refine pure_ (i := 4) (N := some 37) (v := undef) (a' := ?_) #[true,true,true,true,true,false,false,false,false,false,false,false,false,false,false,false,false,false,false,false,false,false,false,false,false,false,false,false,false,false,false,false,false,false,false,false,false,false,false,false,false,false,false,false,false,false,false] rfl rfl (any_of HT_.out (by kernel_rfl)) (fun _ _ _ h => h) (Or.inr ⟨by rfl, rfl⟩) ?_ ?_
             rotate_left
             ·simp only [Act.put, zA_, zB_, zC_, i64_w, i32_w]; rfl
             refine pure_ (i := 5) (N := some 38) (v := undef) (a' := ?_) #[true,true,true,true,true,true,false,false,false,false,false,false,false,false,false,false,false,false,false,false,false,false,false,false,false,false,false,false,false,false,false,false,false,false,false,false,false,false,false,false,false,false,false,false,false,false,false] rfl rfl (any_of HT_.out (by kernel_rfl)) (fun _ _ _ h => h) (Or.inr ⟨by rfl, rfl⟩) ?_ ?_
             rotate_left
             ·simp only [Act.put, zA_, zB_, zC_, i64_w, i32_w]; rfl
             refine pure_ (i := 6) (N := some 39) (v := undef) (a' := ?_) #[true,true,true,true,true,true,true,false,false,false,false,false,false,false,false,false,false,false,false,false,false,false,false,false,false,false,false,false,false,false,false,false,false,false,false,false,false,false,false,false,false,false,false,false,false,false,false] rfl rfl (any_of HT_.out (by kernel_rfl)) (fun _ _ _ h => h) (Or.inr ⟨by rfl, rfl⟩) ?_ ?_
             rotate_left
             ·simp only [Act.put, zA_, zB_, zC_, i64_w, i32_w]; rfl
             refine pure_ (i := 7) (N := some 40) (v := undef) (a' := ?_) #[true,true,true,true,true,true,true,true,false,false,false,false,false,false,false,false,false,false,false,false,false,false,false,false,false,false,false,false,false,false,false,false,false,false,false,false,false,false,false,false,false,false,false,false,false,false,false] rfl rfl (any_of HT_.out (by kernel_rfl)) (fun _ _ _ h => h) (Or.inr ⟨by rfl, rfl⟩) ?_ ?_
             rotate_left
             ·simp only [Act.put, zA_, zB_, zC_, i64_w, i32_w]; rfl
             refine pure_ (i := 8) (N := some 41) (v := undef) (a' := ?_) #[true,true,true,true,true,true,true,true,true,false,false,false,false,false,false,false,false,false,false,false,false,false,false,false,false,false,false,false,false,false,false,false,false,false,false,false,false,false,false,false,false,false,false,false,false,false,false] rfl rfl (any_of HT_.out (by kernel_rfl)) (fun _ _ _ h => h) (Or.inr ⟨by rfl, rfl⟩) ?_ ?_
             rotate_left
             ·simp only [Act.put, zA_, zB_, zC_, i64_w, i32_w]; rfl
             refine pure_ (i := 9) (N := some 42) (v := undef) (a' := ?_) #[true,true,true,true,true,true,true,true,true,true,false,false,false,false,false,false,false,false,false,false,false,false,false,false,false,false,false,false,false,false,false,false,false,false,false,false,false,false,false,false,false,false,false,false,false,false,false] rfl rfl (any_of HT_.out (by kernel_rfl)) (fun _ _ _ h => h) (Or.inr ⟨by rfl, rfl⟩) ?_ ?_
             rotate_left
             ·simp only [Act.put, zA_, zB_, zC_, i64_w, i32_w]; rfl
             refine pure_ (i := 10) (N := some 43) (v := undef) (a' := ?_) #[true,true,true,true,true,true,true,true,true,true,true,false,false,false,false,false,false,false,false,false,false,false,false,false,false,false,false,false,false,false,false,false,false,false,false,false,false,false,false,false,false,false,false,false,false,false,false] rfl rfl (any_of HT_.out (by kernel_rfl)) (fun _ _ _ h => h) (Or.inr ⟨by rfl, rfl⟩) ?_ ?_
             rotate_left
             ·simp only [Act.put, zA_, zB_, zC_, i64_w, i32_w]; rfl
             refine pure_ (i := 11) (N := some 44) (v := undef) (a' := ?_) giroref35_Greedy.zb5 rfl rfl (any_of HT_.out (by kernel_rfl)) (fun _ _ _ h => h) (Or.inr ⟨by rfl, rfl⟩) ?_ ?_
             rotate_left
             ·simp only [Act.put, zA_, zB_, zC_, i64_w, i32_w]; rfl
             refine pure_ (i := 12) (N := some 45) (v := undef) (a' := ?_) giroref35_Greedy.zb6 rfl rfl (any_of HT_.out (by kernel_rfl)) (fun _ _ _ h => h) (Or.inr ⟨by rfl, rfl⟩) ?_ ?_
             rotate_left
             ·simp only [Act.put, zA_, zB_, zC_, i64_w, i32_w]; rfl
             refine pure_ (i := 13) (N := some 46) (v := undef) (a' := ?_) giroref35_Greedy.zb7 rfl rfl (any_of HT_.out (by kernel_rfl)) (fun _ _ _ h => h) (Or.inr ⟨by rfl, rfl⟩) ?_ ?_
             rotate_left
             ·simp only [Act.put, zA_, zB_, zC_, i64_w, i32_w]; rfl
             refine pure_ (i := 14) (N := some 47) (v := undef) (a' := ?_) giroref35_Greedy.zb8 rfl rfl (any_of HT_.out (by kernel_rfl)) (fun _ _ _ h => h) (Or.inr ⟨by rfl, rfl⟩) ?_ ?_
             rotate_left
             ·simp only [Act.put, zA_, zB_, zC_, i64_w, i32_w]; rfl
             refine pure_ (i := 15) (N := some 48) (v := undef) (a' := ?_) giroref35_Greedy.zb9 rfl rfl (any_of HT_.out (by kernel_rfl)) (fun _ _ _ h => h) (Or.inr ⟨by rfl, rfl⟩) ?_ ?_
             rotate_left
             ·simp only [Act.put, zA_, zB_, zC_, i64_w, i32_w]; rfl
             refine pure_ (i := 16) (N := some 49) (v := ?_) (a' := ?_) giroref35_Greedy.zb10 rfl rfl (any_of HT_.out (by kernel_rfl)) (fun _ _ _ h => h) (Or.inl ⟨by rfl, ?_⟩) ?_ ?_
             rotate_left
             ·intro w'; go_simp; (with_reducible rfl)
             rotate_left
             ·simp only [Act.put, zA_, zB_, zC_, i64_w, i32_w]; rfl
             refine pure_ (i := 17) (N := some 50) (v := ?_) (a' := ?_) giroref35_Greedy.zb11 rfl rfl (any_of HT_.out (by kernel_rfl)) (fun _ _ _ h => h) (Or.inl ⟨by rfl, ?_⟩) ?_ ?_
             rotate_left
             ·intro w'; go_simp; (with_reducible rfl)
             rotate_left
             ·simp only [Act.put, zA_, zB_, zC_, i64_w, i32_w]; rfl
             refine pure_ (i := 18) (N := some 51) (v := undef) (a' := ?_) giroref35_Greedy.zb12 rfl rfl (any_of HT_.out (by kernel_rfl)) (fun _ _ _ h => h) (Or.inr ⟨by rfl, rfl⟩) ?_ ?_
             rotate_left
             ·simp only [Act.put, zA_, zB_, zC_, i64_w, i32_w]; rfl
             refine pure_ (i := 19) (N := some 52) (v := undef) (a' := ?_) giroref35_Greedy.zb48 rfl rfl (any_of HT_.out (by kernel_rfl)) (fun _ _ _ h => h) (Or.inr ⟨by rfl, rfl⟩) ?_ ?_
             rotate_left
             ·simp only [Act.put, zA_, zB_, zC_, i64_w, i32_w]; rfl
             refine pure_ (i := 20) (N := some 53) (v := undef) (a' := ?_) giroref35_Greedy.zb49 rfl rfl (any_of HT_.out (by kernel_rfl)) (fun _ _ _ h => h) (Or.inr ⟨by rfl, rfl⟩) ?_ ?_
             rotate_left
             ·simp only [Act.put, zA_, zB_, zC_, i64_w, i32_w]; rfl
             refine pure_ (i := 21) (N := some 54) (v := undef) (a' := ?_) giroref35_Greedy.zb50 rfl rfl (any_of HT_.out (by kernel_rfl)) (fun _ _ _ h => h) (Or.inr ⟨by rfl, rfl⟩) ?_ ?_
             rotate_left
             ·simp only [Act.put, zA_, zB_, zC_, i64_w, i32_w]; rfl
             refine pure_ (i := 22) (N := some 55) (v := undef) (a' := ?_) giroref35_Greedy.zb51 rfl rfl (any_of HT_.out (by kernel_rfl)) (fun _ _ _ h => h) (Or.inr ⟨by rfl, rfl⟩) ?_ ?_
             rotate_left
             ·simp only [Act.put, zA_, zB_, zC_, i64_w, i32_w]; rfl
             refine pure_ (i := 23) (N := some 56) (v := undef) (a' := ?_) giroref35_Greedy.zb52 rfl rfl (any_of HT_.out (by kernel_rfl)) (fun _ _ _ h => h) (Or.inr ⟨by rfl, rfl⟩) ?_ ?_
             rotate_left
             ·simp only [Act.put, zA_, zB_, zC_, i64_w, i32_w]; rfl
             refine pure_ (i := 24) (N := some 57) (v := undef) (a' := ?_) giroref35_Greedy.zb53 rfl rfl (any_of HT_.out (by kernel_rfl)) (fun _ _ _ h => h) (Or.inr ⟨by rfl, rfl⟩) ?_ ?_
             rotate_left
             ·simp only [Act.put, zA_, zB_, zC_, i64_w, i32_w]; rfl
             refine pure_ (i := 25) (N := some 58) (v := undef) (a' := ?_) giroref35_Greedy.zb54 rfl rfl (any_of HT_.out (by kernel_rfl)) (fun _ _ _ h => h) (Or.inr ⟨by rfl, rfl⟩) ?_ ?_
             rotate_left
             ·simp only [Act.put, zA_, zB_, zC_, i64_w, i32_w]; rfl
             refine pure_ (i := 26) (N := some 59) (v := undef) (a' := ?_) giroref35_Greedy.zb13 rfl rfl (any_of HT_.out (by kernel_rfl)) (fun _ _ _ h => h) (Or.inr ⟨by rfl, rfl⟩) ?_ ?_
             rotate_left
             ·simp only [Act.put, zA_, zB_, zC_, i64_w, i32_w]; rfl
             refine pure_ (i := 27) (N := some 60) (v := undef) (a' := ?_) giroref35_Greedy.zb14 rfl rfl (any_of HT_.out (by kernel_rfl)) (fun _ _ _ h => h) (Or.inr ⟨by rfl, rfl⟩) ?_ ?_
             rotate_left
             ·simp only [Act.put, zA_, zB_, zC_, i64_w, i32_w]; rfl
             refine pure_ (i := 28) (N := some 61) (v := undef) (a' := ?_) giroref35_Greedy.zb15 rfl rfl (any_of HT_.out (by kernel_rfl)) (fun _ _ _ h => h) (Or.inr ⟨by rfl, rfl⟩) ?_ ?_
             rotate_left
             ·simp only [Act.put, zA_, zB_, zC_, i64_w, i32_w]; rfl
             refine pure_ (i := 29) (N := some 62) (v := undef) (a' := ?_) giroref35_Greedy.zb16 rfl rfl (any_of HT_.out (by kernel_rfl)) (fun _ _ _ h => h) (Or.inr ⟨by rfl, rfl⟩) ?_ ?_
             rotate_left
             ·simp only [Act.put, zA_, zB_, zC_, i64_w, i32_w]; rfl
             refine pure_ (i := 30) (N := some 63) (v := undef) (a' := ?_) giroref35_Greedy.zb17 rfl rfl (any_of HT_.out (by kernel_rfl)) (fun _ _ _ h => h) (Or.inr ⟨by rfl, rfl⟩) ?_ ?_
             rotate_left
             ·simp only [Act.put, zA_, zB_, zC_, i64_w, i32_w]; rfl
             refine pure_ (i := 31) (N := some 64) (v := undef) (a' := ?_) giroref35_Greedy.zb18 rfl rfl (any_of HT_.out (by kernel_rfl)) (fun _ _ _ h => h) (Or.inr ⟨by rfl, rfl⟩) ?_ ?_
             rotate_left
             ·simp only [Act.put, zA_, zB_, zC_, i64_w, i32_w]; rfl
             refine pure_ (i := 32) (N := some 65) (v := undef) (a' := ?_) giroref35_Greedy.zb19 rfl rfl (any_of HT_.out (by kernel_rfl)) (fun _ _ _ h => h) (Or.inr ⟨by rfl, rfl⟩) ?_ ?_
             rotate_left
             ·simp only [Act.put, zA_, zB_, zC_, i64_w, i32_w]; rfl
             refine pure_ (i := 33) (N := some 66) (v := undef) (a' := ?_) giroref35_Greedy.zb34 rfl rfl (any_of HT_.out (by kernel_rfl)) (fun _ _ _ h => h) (Or.inr ⟨by rfl, rfl⟩) ?_ ?_
             rotate_left
             ·simp only [Act.put, zA_, zB_, zC_, i64_w, i32_w]; rfl
             refine pure_ (i := 34) (N := some 67) (v := undef) (a' := ?_) giroref35_Greedy.zb35 rfl rfl (any_of HT_.out (by kernel_rfl)) (fun _ _ _ h => h) (Or.inr ⟨by rfl, rfl⟩) ?_ ?_
             rotate_left
             ·simp only [Act.put, zA_, zB_, zC_, i64_w, i32_w]; rfl
             refine pure_ (i := 35) (N := some 68) (v := undef) (a' := ?_) giroref35_Greedy.zb36 rfl rfl (any_of HT_.out (by kernel_rfl)) (fun _ _ _ h => h) (Or.inr ⟨by rfl, rfl⟩) ?_ ?_
             rotate_left
             ·simp only [Act.put, zA_, zB_, zC_, i64_w, i32_w]; rfl
             refine pure_ (i := 36) (N := some 69) (v := undef) (a' := ?_) giroref35_Greedy.zb37 rfl rfl (any_of HT_.out (by kernel_rfl)) (fun _ _ _ h => h) (Or.inr ⟨by rfl, rfl⟩) ?_ ?_
             rotate_left
             ·simp only [Act.put, zA_, zB_, zC_, i64_w, i32_w]; rfl
             refine pure_ (i := 37) (N := some 70) (v := undef) (a' := ?_) giroref35_Greedy.zb38 rfl rfl (any_of HT_.out (by kernel_rfl)) (fun _ _ _ h => h) (Or.inr ⟨by rfl, rfl⟩) ?_ ?_
             rotate_left
             ·simp only [Act.put, zA_, zB_, zC_, i64_w, i32_w]; rfl
             refine pure_ (i := 38) (N := some 71) (v := undef) (a' := ?_) giroref35_Greedy.zb39 rfl rfl (any_of HT_.out (by kernel_rfl)) (fun _ _ _ h => h) (Or.inr ⟨by rfl, rfl⟩) ?_ ?_
             rotate_left
             ·simp only [Act.put, zA_, zB_, zC_, i64_w, i32_w]; rfl
             refine pure_ (i := 39) (N := some 72) (v := undef) (a' := ?_) giroref35_Greedy.zb40 rfl rfl (any_of HT_.out (by kernel_rfl)) (fun _ _ _ h => h) (Or.inr ⟨by rfl, rfl⟩) ?_ ?_
             rotate_left
             ·simp only [Act.put, zA_, zB_, zC_, i64_w, i32_w]; rfl
             refine pure_ (i := 40) (N := some 73) (v := undef) (a' := ?_) giroref35_Greedy.zb20 rfl rfl (any_of HT_.out (by kernel_rfl)) (fun _ _ _ h => h) (Or.inr ⟨by rfl, rfl⟩) ?_ ?_
             rotate_left
             ·simp only [Act.put, zA_, zB_, zC_, i64_w, i32_w]; rfl
             refine pure_ (i := 41) (N := some 74) (v := undef) (a' := ?_) giroref35_Greedy.zb21 rfl rfl (any_of HT_.out (by kernel_rfl)) (fun _ _ _ h => h) (Or.inr ⟨by rfl, rfl⟩) ?_ ?_
             rotate_left
             ·simp only [Act.put, zA_, zB_, zC_, i64_w, i32_w]; rfl
             refine pure_ (i := 42) (N := some 75) (v := undef) (a' := ?_) giroref35_Greedy.zb22 rfl rfl (any_of HT_.out (by kernel_rfl)) (fun _ _ _ h => h) (Or.inr ⟨by rfl, rfl⟩) ?_ ?_
             rotate_left
             ·simp only [Act.put, zA_, zB_, zC_, i64_w, i32_w]; rfl
             refine pure_ (i := 43) (N := some 76) (v := undef) (a' := ?_) giroref35_Greedy.zb23 rfl rfl (any_of HT_.out (by kernel_rfl)) (fun _ _ _ h => h) (Or.inr ⟨by rfl, rfl⟩) ?_ ?_
             rotate_left
             ·simp only [Act.put, zA_, zB_, zC_, i64_w, i32_w]; rfl
             refine pure_ (i := 44) (N := some 77) (v := undef) (a' := ?_) giroref35_Greedy.zb24 rfl rfl (any_of HT_.out (by kernel_rfl)) (fun _ _ _ h => h) (Or.inr ⟨by rfl, rfl⟩) ?_ ?_
             rotate_left
             ·simp only [Act.put, zA_, zB_, zC_, i64_w, i32_w]; rfl
             refine pure_ (i := 45) (N := some 78) (v := undef) (a' := ?_) giroref35_Greedy.zb25 rfl rfl (any_of HT_.out (by kernel_rfl)) (fun _ _ _ h => h) (Or.inr ⟨by rfl, rfl⟩) ?_ ?_
             rotate_left
             ·simp only [Act.put, zA_, zB_, zC_, i64_w, i32_w]; rfl
             refine pure_ (i := 46) (N := some 79) (v := ?_) (a' := ?_) giroref35_Greedy.zb26 rfl rfl (any_of HT_.out (by kernel_rfl)) (fun _ _ _ h => h) (Or.inl ⟨by rfl, ?_⟩) ?_ ?_
             rotate_left
             ·intro w'; go_simp; (with_reducible rfl)
             rotate_left
             ·simp only [Act.put, zA_, zB_, zC_, i64_w, i32_w]; rfl
             refine done_ (done_of HT_.out (by kernel_rfl)) ?_
             try go_wp2
             go_roundg k2
             case measure => have := HK1.out; have := HK2.out; omega
             case rel => exact ⟨(x7_2), (wrap64 (x7_2 + 1)), (by first | rfl | (simp; done) | (simp [*]; done)), (by first | rfl | (simp; done) | (simp [*]; done)), H', ⟨by have := HK1.out; have := HK2.out; omega⟩, ⟨by (with_reducible repeat (first | apply Kd.R_alloc | apply Kd.R_drewN | apply Kd.R_drew)); exact HO_5.out⟩, ⟨by (with_reducible repeat (first | apply Kd.R_alloc | apply Kd.R_drewN | apply Kd.R_drew)); exact HO_219000.out⟩, ⟨by (with_reducible repeat (first | apply Kd.R_alloc | apply Kd.R_drewN | apply Kd.R_drew)); exact HO_219001.out⟩, ⟨by (with_reducible repeat (first | refine bw8 ?_ _ | refine bw9 ?_ | refine bw6 ?_ _)); exact BK212.out⟩, ⟨by (with_reducible repeat (first | refine bw8 ?_ _ | refine bw9 ?_ | refine bw6 ?_ _)); exact BK213.out⟩, ⟨by (with_reducible repeat (first | refine bw8 ?_ _ | refine bw9 ?_ | refine bw6 ?_ _)); exact BK218.out⟩, ⟨by repeat (first | (with_reducible first | exact HB.out | apply bw2 | apply bw1 | apply bw3 | refine bw4 ?_ GE212.out | refine bw4 ?_ GE213.out | refine bw4 ?_ GE218.out) | exact HB.out)⟩⟩
            ·rw [if_neg c38] at H
             have c38b0 : decide (x6_2 < 0) = false := decide_eq_false c38
             clear c38
             by_cases c44 : 0 ≤ x6_2
             ·rw [if_pos c44] at H
              have c44b0 : decide (0 ≤ x6_2) = true := decide_eq_true c44
              clear c44
              by_cases c45 : x6_2 < (l0_3.length : Int)
              ·rw [if_pos c45] at H
               have c45b0 : decide (x6_2 < (l0_3.length : Int)) = true := decide_eq_true c45
               clear c45
               by_cases c46 : ((rd_T109 l0_3 x7_2).f2) > ((rd_T109 l0_3 x6_2).f2)
               ·rw [if_pos c46] at H
                have c46b0 : decide (((rd_T109 l0_3 x6_2).f2) < ((rd_T109 l0_3 x7_2).f2)) = true := decide_eq_true c46
                clear c46
                have H' := Aside0.mk H
                clear H
                have hnb47 := NB212_213.out
                have hnc47 := NB213_212.out
                have hnb48 := NB212_218.out
                have hnc48 := NB218_212.out
                have hcz49_0 : wr.cell? ⟨gb212, 0, none⟩ = some (.int .i64 a0_0) := (bw5 BK212.out 0).trans rfl
                have hcz49_1 : wr.cell? ⟨gb212, 1, none⟩ = some (.slice A0_1 l0_1.length c0_1) := (bw5 BK212.out 1).trans rfl
                have hcz49_2 : wr.cell? ⟨gb212, 2, none⟩ = some (.slice A0_2 l0_2.length c0_2) := (bw5 BK212.out 2).trans rfl
                have hcz49_3 : wr.cell? ⟨gb212, 3, none⟩ = some (.slice A0_3 l0_3.length c0_3) := (bw5 BK212.out 3).trans rfl
                have hfz49_0 := bw7 BK212.out 0
                have hfz49_1 := bw7 BK212.out 1
                have hfz49_2 := bw7 BK212.out 2
                have hfz49_3 := bw7 BK212.out 3
                obtain ⟨Ao50, co50, eo50⟩ := Kd.R_slice HO_5.out
                subst eo50
                have p228 : 0 ≤ (x7_2 : Int) := of_decide_eq_true (by first | (with_reducible assumption) | assumption)
                have q228 : x7_2 < (x5_1.length : Int) := of_decide_eq_true (by first | (with_reducible assumption) | assumption)
                obtain ⟨ad228, e228, hx228_0⟩ := Kd.at_bool (Kd.R_reads' HO_5.out).2.2 x7_2 p228 q228
                (try rw [← Nbq32.out] at hx228_0)
                cases e228
                replace p228 := eq_true p228
                replace q228 := eq_true q228
                try go_wp2
                have n0_ := Aside0.mk (Kd.R_drew HO_5.out)
                have n1_ := Aside0.mk (Kd.R_drew HO_219000.out)
                have n2_ := Aside0.mk (Kd.R_drew HO_219001.out)
                have n3_ := Aside0.mk (bw9 BK212.out)
                have n4_ := Aside0.mk (bw9 BK213.out)
                have n5_ := Aside0.mk (bw9 BK218.out)
                have n6_ := Aside0.mk (bw3 HB.out)
                clear HO_5; clear HO_219000; clear HO_219001; clear BK212; clear BK213; clear BK218; clear HB; have HO_5 := n0_; have HO_219000 := n1_; have HO_219001 := n2_; have BK212 := n3_; have BK213 := n4_; have BK218 := n5_; have HB := n6_; clear n0_ n1_ n2_ n3_ n4_ n5_ n6_
                have p229 : 0 ≤ (x7_2 : Int) := of_decide_eq_true (by first | (with_reducible assumption) | assumption)
                have q229 : x7_2 < (l0_3.length : Int) := of_decide_eq_true (by first | (with_reducible assumption) | assumption)
                obtain ⟨ad229, e229, hx229_0, hx229_1, hx229_2⟩ := at_T109 HR0_3.out x7_2 p229 q229
                have hw229_2 := hx229_2
                have hw229_1 := hx229_1
                have hw229_0 := hx229_0
                cases e229
                replace hx229_0 := (HB.out.cell (World.block_lt_of_cell? w _ hx229_0)).trans hx229_0
                replace hx229_1 := (HB.out.cell (World.block_lt_of_cell? w _ hx229_1)).trans hx229_1
                replace hx229_2 := (HB.out.cell (World.block_lt_of_cell? w _ hx229_2)).trans hx229_2
                replace p229 := eq_true p229
                replace q229 := eq_true q229
                have p230 : 0 ≤ (x6_2 : Int) := of_decide_eq_true (by first | (with_reducible assumption) | assumption)
                have q230 : x6_2 < (l0_3.length : Int) := of_decide_eq_true (by first | (with_reducible assumption) | assumption)
                obtain ⟨ad230, e230, hx230_0, hx230_1, hx230_2⟩ := at_T109 HR0_3.out x6_2 p230 q230
                have hw230_2 := hx230_2
                have hw230_1 := hx230_1
                have hw230_0 := hx230_0
                obtain rfl : ad229 = ad230 := (by injection e230)
                replace hx230_0 := (HB.out.cell (World.block_lt_of_cell? w _ hx230_0)).trans hx230_0
                replace hx230_1 := (HB.out.cell (World.block_lt_of_cell? w _ hx230_1)).trans hx230_1
                replace hx230_2 := (HB.out.cell (World.block_lt_of_cell? w _ hx230_2)).trans hx230_2
                replace p230 := eq_true p230
                replace q230 := eq_true q230
                refine start_ (n := 47) (S := fun w' => w'.cell? ⟨gb212, 0, none⟩ = some (.int .i64 a0_0) ∧ w'.cell? ⟨gb212, 1, none⟩ = some (.slice A0_1 l0_1.length c0_1) ∧ w'.cell? ⟨gb212, 2, none⟩ = some (.slice A0_2 l0_2.length c0_2) ∧ w'.cell? ⟨gb212, 3, none⟩ = some (.slice (some ad229) l0_3.length c0_3) ∧ w'.cell? (ad229.add ((x7_2).toNat * 3)) = some (.string ((rd_T109 l0_3 x7_2).f0)) ∧ w'.cell? ⟨(ad229.add ((x7_2).toNat * 3)).block, (ad229.add ((x7_2).toNat * 3)).off + 1, none⟩ = some (.int .i64 ((rd_T109 l0_3 x7_2).f1)) ∧ w'.cell? ⟨(ad229.add ((x7_2).toNat * 3)).block, (ad229.add ((x7_2).toNat * 3)).off + 2, none⟩ = some (.int .i64 ((rd_T109 l0_3 x7_2).f2)) ∧ w'.cell? (ad229.add ((x6_2).toNat * 3)) = some (.string ((rd_T109 l0_3 x6_2).f0)) ∧ w'.cell? ⟨(ad229.add ((x6_2).toNat * 3)).block, (ad229.add ((x6_2).toNat * 3)).off + 1, none⟩ = some (.int .i64 ((rd_T109 l0_3 x6_2).f1)) ∧ w'.cell? ⟨(ad229.add ((x6_2).toNat * 3)).block, (ad229.add ((x6_2).toNat * 3)).off + 2, none⟩ = some (.int .i64 ((rd_T109 l0_3 x6_2).f2))) (ds := []) giroref35_Greedy.zb0 (by kernel_rfl) rfl rfl ⟨(bw5 BK212.out 0).trans rfl, (bw5 BK212.out 1).trans rfl, (bw5 BK212.out 2).trans rfl, (bw5 BK212.out 3).trans rfl, ((HB.out.cell (World.block_lt_of_cell? w _ hw229_0)).trans hw229_0), ((HB.out.cell (World.block_lt_of_cell? w _ hw229_1)).trans hw229_1), ((HB.out.cell (World.block_lt_of_cell? w _ hw229_2)).trans hw229_2), ((HB.out.cell (World.block_lt_of_cell? w _ hw230_0)).trans hw230_0), ((HB.out.cell (World.block_lt_of_cell? w _ hw230_1)).trans hw230_1), ((HB.out.cell (World.block_lt_of_cell? w _ hw230_2)).trans hw230_2)⟩ (fun hHeld => ?_); refine with_tabW giroref35_Greedy.tab9 giroref35_Greedy.bits9 (fun HT_ HW_ => ?_)
                generalize wr.drew = w51 at HO_5 HO_219000 HO_219001 BK212 BK213 BK218 HB hx229_0 hx229_1 hx229_2 hx230_0 hx230_1 hx230_2 hHeld ⊢
                refine pure_ (i := 0) (N := some 33) (v := ?_) (a' := ?_) giroref35_Greedy.zb1 rfl rfl (any_of HT_.out (by kernel_rfl)) (fun _ _ _ h => h) (Or.inl ⟨by rfl, ?_⟩) ?_ ?_
                rotate_left
                ·intro w'; go_simp; (with_reducible rfl)
                rotate_left
                ·simp only [Act.put, zA_, zB_, zC_, i64_w, i32_w]; rfl
                refine pure_ (i := 1) (N := some 34) (v := ?_) (a' := ?_) giroref35_Greedy.zb2 rfl rfl (any_of HT_.out (by kernel_rfl)) (fun _ _ _ h => h) (Or.inl ⟨by rfl, ?_⟩) ?_ ?_
                rotate_left
                ·intro w'; go_simp; (with_reducible rfl)
                rotate_left
                ·simp only [Act.put, zA_, zB_, zC_, i64_w, i32_w]; rfl
                refine pure_ (i := 2) (N := some 35) (v := ?_) (a' := ?_) giroref35_Greedy.zb3 rfl rfl (any_of HT_.out (by kernel_rfl)) (fun _ _ _ h => h) (Or.inl ⟨by rfl, ?_⟩) ?_ ?_
                rotate_left
                ·intro w'; go_simp; (with_reducible rfl)
                rotate_left
                ·simp only [Act.put, zA_, zB_, zC_, i64_w, i32_w]; rfl
                refine pure_ (i := 3) (N := some 36) (v := ?_) (a' := ?_) giroref35_Greedy.zb4 rfl rfl (any_of HT_.out (by kernel_rfl)) (fun _ _ _ h => h) (Or.inl ⟨by rfl, ?_⟩) ?_ ?_
                rotate_left
                ·intro w'; go_simp; (with_reducible rfl)
                rotate_left
                ·simp only [Act.put, zA_, zB_, zC_, i64_w, i32_w]; rfl
                refine pure_ (i := 5) (N := some 38) (v := ?_) (a' := ?_) giroref35_Greedy.zb27 rfl rfl (any_of HT_.out (by kernel_rfl)) (fun _ _ _ h => h) (Or.inl ⟨by rfl, ?_⟩) ?_ ?_
                rotate_left
                ·intro w'; go_simp; (with_reducible rfl)
                rotate_left
                ·simp only [Act.put, zA_, zB_, zC_, i64_w, i32_w]; rfl
                refine pure_ (i := 9) (N := some 42) (v := ?_) (a' := ?_) giroref35_Greedy.zb28 rfl rfl (any_of HT_.out (by kernel_rfl)) (fun _ _ _ h => h) (Or.inl ⟨by rfl, ?_⟩) ?_ ?_
                rotate_left
                ·intro w'; go_simp; (with_reducible rfl)
                rotate_left
                ·simp only [Act.put, zA_, zB_, zC_, i64_w, i32_w]; rfl
                refine pure_ (i := 11) (N := some 44) (v := ?_) (a' := ?_) giroref35_Greedy.zb29 rfl rfl (any_of HT_.out (by kernel_rfl)) (fun _ _ _ h => h) (Or.inl ⟨by rfl, ?_⟩) ?_ ?_
                rotate_left
                ·intro w'; go_simp; (with_reducible rfl)
                rotate_left
                ·simp only [Act.put, zA_, zB_, zC_, i64_w, i32_w]; rfl
                refine take_ (i := 4) (N := some 37) (v := ?_) (a' := ?_) giroref35_Greedy.zb30 rfl rfl (take_ofW HT_.out HW_.out (by kernel_rfl)) (fun _ _ _ h => h) (Or.inl ⟨by rfl, ?_⟩) hHeld ?_ ?_
                rotate_left
                ·rintro w' ⟨s0, s1, s2, s3, s4, s5, s6, s7, s8, s9⟩
                 go_simp; (with_reducible rfl)
                rotate_left
                ·simp only [Act.put, zA_, zB_, zC_, i64_w, i32_w]; rfl
                refine pure_ (i := 6) (N := some 39) (v := ?_) (a' := ?_) giroref35_Greedy.zb31 rfl rfl (any_of HT_.out (by kernel_rfl)) (fun _ _ _ h => h) (Or.inl ⟨by rfl, ?_⟩) ?_ ?_
                rotate_left
                ·intro w'; go_simp; (with_reducible rfl)
                rotate_left
                ·simp only [Act.put, zA_, zB_, zC_, i64_w, i32_w]; rfl
                refine pure_ (i := 7) (N := some 40) (v := ?_) (a' := ?_) giroref35_Greedy.zb32 rfl rfl (any_of HT_.out (by kernel_rfl)) (fun _ _ _ h => h) (Or.inl ⟨by rfl, ?_⟩) ?_ ?_
                rotate_left
                ·intro w'; go_simp; (with_reducible rfl)
                rotate_left
                ·simp only [Act.put, zA_, zB_, zC_, i64_w, i32_w]; rfl
                refine take_ (i := 8) (N := some 41) (v := ?_) (a' := ?_) giroref35_Greedy.zb33 rfl rfl (take_ofW HT_.out HW_.out (by kernel_rfl)) (fun _ _ _ h => h) (Or.inl ⟨by rfl, ?_⟩) hHeld ?_ ?_
                rotate_left
                ·rintro w' ⟨s0, s1, s2, s3, s4, s5, s6, s7, s8, s9⟩
                 go_simp; (with_reducible rfl)
                rotate_left
                ·simp only [Act.put, zA_, zB_, zC_, i64_w, i32_w]; rfl
                refine take_ (i := 10) (N := some 43) (v := ?_) (a' := ?_) giroref35_Greedy.zb5 rfl rfl (take_ofW HT_.out HW_.out (by kernel_rfl)) (fun _ _ _ h => h) (Or.inl ⟨by rfl, ?_⟩) hHeld ?_ ?_
                rotate_left
                ·rintro w' ⟨s0, s1, s2, s3, s4, s5, s6, s7, s8, s9⟩
                 go_simp; (with_reducible rfl)
                rotate_left
                ·simp only [Act.put, zA_, zB_, zC_, i64_w, i32_w]; rfl
                refine pure_ (i := 12) (N := some 45) (v := ?_) (a' := ?_) giroref35_Greedy.zb6 rfl rfl (any_of HT_.out (by kernel_rfl)) (fun _ _ _ h => h) (Or.inl ⟨by rfl, ?_⟩) ?_ ?_
                rotate_left
                ·intro w'; go_simp; (with_reducible rfl)
                rotate_left
                ·simp only [Act.put, zA_, zB_, zC_, i64_w, i32_w]; rfl
                refine pure_ (i := 13) (N := some 46) (v := ?_) (a' := ?_) giroref35_Greedy.zb7 rfl rfl (any_of HT_.out (by kernel_rfl)) (fun _ _ _ h => h) (Or.inl ⟨by rfl, ?_⟩) ?_ ?_
                rotate_left
                ·intro w'; go_simp; (with_reducible rfl)
                rotate_left
                ·simp only [Act.put, zA_, zB_, zC_, i64_w, i32_w]; rfl
                refine take_ (i := 14) (N := some 47) (v := ?_) (a' := ?_) giroref35_Greedy.zb8 rfl rfl (take_ofW HT_.out HW_.out (by kernel_rfl)) (fun _ _ _ h => h) (Or.inl ⟨by rfl, ?_⟩) hHeld ?_ ?_
                rotate_left
                ·rintro w' ⟨s0, s1, s2, s3, s4, s5, s6, s7, s8, s9⟩
                 go_simp; (with_reducible rfl)
                rotate_left
                ·simp only [Act.put, zA_, zB_, zC_, i64_w, i32_w]; rfl
                refine pure_ (i := 15) (N := some 48) (v := ?_) (a' := ?_) giroref35_Greedy.zb9 rfl rfl (any_of HT_.out (by kernel_rfl)) (fun _ _ _ h => h) (Or.inl ⟨by rfl, ?_⟩) ?_ ?_
                rotate_left
                ·intro w'; go_simp; (with_reducible rfl)
                rotate_left
                ·simp only [Act.put, zA_, zB_, zC_, i64_w, i32_w]; rfl
                refine pure_ (i := 16) (N := some 49) (v := ?_) (a' := ?_) giroref35_Greedy.zb10 rfl rfl (any_of HT_.out (by kernel_rfl)) (fun _ _ _ h => h) (Or.inl ⟨by rfl, ?_⟩) ?_ ?_
                rotate_left
                ·intro w'; go_simp; (with_reducible rfl)
                rotate_left
                ·simp only [Act.put, zA_, zB_, zC_, i64_w, i32_w]; rfl
                refine pure_ (i := 17) (N := some 50) (v := ?_) (a' := ?_) giroref35_Greedy.zb11 rfl rfl (any_of HT_.out (by kernel_rfl)) (fun _ _ _ h => h) (Or.inl ⟨by rfl, ?_⟩) ?_ ?_
                rotate_left
                ·intro w'; go_simp; (with_reducible rfl)
                rotate_left
                ·simp only [Act.put, zA_, zB_, zC_, i64_w, i32_w]; rfl
                refine pure_ (i := 18) (N := some 51) (v := undef) (a' := ?_) giroref35_Greedy.zb12 rfl rfl (any_of HT_.out (by kernel_rfl)) (fun _ _ _ h => h) (Or.inr ⟨by rfl, rfl⟩) ?_ ?_
                rotate_left
                ·simp only [Act.put, zA_, zB_, zC_, i64_w, i32_w]; rfl
                refine pure_ (i := 19) (N := some 52) (v := undef) (a' := ?_) giroref35_Greedy.zb48 rfl rfl (any_of HT_.out (by kernel_rfl)) (fun _ _ _ h => h) (Or.inr ⟨by rfl, rfl⟩) ?_ ?_
                rotate_left
                ·simp only [Act.put, zA_, zB_, zC_, i64_w, i32_w]; rfl
                refine pure_ (i := 20) (N := some 53) (v := undef) (a' := ?_) giroref35_Greedy.zb49 rfl rfl (any_of HT_.out (by kernel_rfl)) (fun _ _ _ h => h) (Or.inr ⟨by rfl, rfl⟩) ?_ ?_
                rotate_left
                ·simp only [Act.put, zA_, zB_, zC_, i64_w, i32_w]; rfl
                refine pure_ (i := 21) (N := some 54) (v := undef) (a' := ?_) giroref35_Greedy.zb50 rfl rfl (any_of HT_.out (by kernel_rfl)) (fun _ _ _ h => h) (Or.inr ⟨by rfl, rfl⟩) ?_ ?_
                rotate_left
                ·simp only [Act.put, zA_, zB_, zC_, i64_w, i32_w]; rfl
                refine pure_ (i := 22) (N := some 55) (v := undef) (a' := ?_) giroref35_Greedy.zb51 rfl rfl (any_of HT_.out (by kernel_rfl)) (fun _ _ _ h => h) (Or.inr ⟨by rfl, rfl⟩) ?_ ?_
                rotate_left
                ·simp only [Act.put, zA_, zB_, zC_, i64_w, i32_w]; rfl
                refine pure_ (i := 23) (N := some 56) (v := undef) (a' := ?_) giroref35_Greedy.zb52 rfl rfl (any_of HT_.out (by kernel_rfl)) (fun _ _ _ h => h) (Or.inr ⟨by rfl, rfl⟩) ?_ ?_
                rotate_left
                ·simp only [Act.put, zA_, zB_, zC_, i64_w, i32_w]; rfl
                refine pure_ (i := 24) (N := some 57) (v := undef) (a' := ?_) giroref35_Greedy.zb53 rfl rfl (any_of HT_.out (by kernel_rfl)) (fun _ _ _ h => h) (Or.inr ⟨by rfl, rfl⟩) ?_ ?_
                rotate_left
                ·simp only [Act.put, zA_, zB_, zC_, i64_w, i32_w]; rfl
                refine pure_ (i := 25) (N := some 58) (v := undef) (a' := ?_) giroref35_Greedy.zb54 rfl rfl (any_of HT_.out (by kernel_rfl)) (fun _ _ _ h => h) (Or.inr ⟨by rfl, rfl⟩) ?_ ?_
                rotate_left
                ·simp only [Act.put, zA_, zB_, zC_, i64_w, i32_w]; rfl
                refine pure_ (i := 26) (N := some 59) (v := undef) (a' := ?_) giroref35_Greedy.zb13 rfl rfl (any_of HT_.out (by kernel_rfl)) (fun _ _ _ h => h) (Or.inr ⟨by rfl, rfl⟩) ?_ ?_
                rotate_left
                ·simp only [Act.put, zA_, zB_, zC_, i64_w, i32_w]; rfl
                refine pure_ (i := 27) (N := some 60) (v := undef) (a' := ?_) giroref35_Greedy.zb14 rfl rfl (any_of HT_.out (by kernel_rfl)) (fun _ _ _ h => h) (Or.inr ⟨by rfl, rfl⟩) ?_ ?_
                rotate_left
                ·simp only [Act.put, zA_, zB_, zC_, i64_w, i32_w]; rfl
                refine pure_ (i := 28) (N := some 61) (v := undef) (a' := ?_) giroref35_Greedy.zb15 rfl rfl (any_of HT_.out (by kernel_rfl)) (fun _ _ _ h => h) (Or.inr ⟨by rfl, rfl⟩) ?_ ?_
                rotate_left
                ·simp only [Act.put, zA_, zB_, zC_, i64_w, i32_w]; rfl
                refine pure_ (i := 29) (N := some 62) (v := undef) (a' := ?_) giroref35_Greedy.zb16 rfl rfl (any_of HT_.out (by kernel_rfl)) (fun _ _ _ h => h) (Or.inr ⟨by rfl, rfl⟩) ?_ ?_
                rotate_left
                ·simp only [Act.put, zA_, zB_, zC_, i64_w, i32_w]; rfl
                refine pure_ (i := 30) (N := some 63) (v := undef) (a' := ?_) giroref35_Greedy.zb17 rfl rfl (any_of HT_.out (by kernel_rfl)) (fun _ _ _ h => h) (Or.inr ⟨by rfl, rfl⟩) ?_ ?_
                rotate_left
                ·simp only [Act.put, zA_, zB_, zC_, i64_w, i32_w]; rfl
                refine pure_ (i := 31) (N := some 64) (v := undef) (a' := ?_) giroref35_Greedy.zb18 rfl rfl (any_of HT_.out (by kernel_rfl)) (fun _ _ _ h => h) (Or.inr ⟨by rfl, rfl⟩) ?_ ?_
                rotate_left
                ·simp only [Act.put, zA_, zB_, zC_, i64_w, i32_w]; rfl
                refine pure_ (i := 32) (N := some 65) (v := undef) (a' := ?_) giroref35_Greedy.zb19 rfl rfl (any_of HT_.out (by kernel_rfl)) (fun _ _ _ h => h) (Or.inr ⟨by rfl, rfl⟩) ?_ ?_
                rotate_left
                ·simp only [Act.put, zA_, zB_, zC_, i64_w, i32_w]; rfl
                refine pure_ (i := 33) (N := some 66) (v := undef) (a' := ?_) giroref35_Greedy.zb34 rfl rfl (any_of HT_.out (by kernel_rfl)) (fun _ _ _ h => h) (Or.inr ⟨by rfl, rfl⟩) ?_ ?_
                rotate_left
                ·simp only [Act.put, zA_, zB_, zC_, i64_w, i32_w]; rfl
                refine pure_ (i := 34) (N := some 67) (v := undef) (a' := ?_) giroref35_Greedy.zb35 rfl rfl (any_of HT_.out (by kernel_rfl)) (fun _ _ _ h => h) (Or.inr ⟨by rfl, rfl⟩) ?_ ?_
                rotate_left
                ·simp only [Act.put, zA_, zB_, zC_, i64_w, i32_w]; rfl
                refine pure_ (i := 35) (N := some 68) (v := undef) (a' := ?_) giroref35_Greedy.zb36 rfl rfl (any_of HT_.out (by kernel_rfl)) (fun _ _ _ h => h) (Or.inr ⟨by rfl, rfl⟩) ?_ ?_
                rotate_left
                ·simp only [Act.put, zA_, zB_, zC_, i64_w, i32_w]; rfl
                refine pure_ (i := 36) (N := some 69) (v := undef) (a' := ?_) giroref35_Greedy.zb37 rfl rfl (any_of HT_.out (by kernel_rfl)) (fun _ _ _ h => h) (Or.inr ⟨by rfl, rfl⟩) ?_ ?_
                rotate_left
                ·simp only [Act.put, zA_, zB_, zC_, i64_w, i32_w]; rfl
                refine pure_ (i := 37) (N := some 70) (v := undef) (a' := ?_) giroref35_Greedy.zb38 rfl rfl (any_of HT_.out (by kernel_rfl)) (fun _ _ _ h => h) (Or.inr ⟨by rfl, rfl⟩) ?_ ?_
                rotate_left
                ·simp only [Act.put, zA_, zB_, zC_, i64_w, i32_w]; rfl
                refine pure_ (i := 38) (N := some 71) (v := undef) (a' := ?_) giroref35_Greedy.zb39 rfl rfl (any_of HT_.out (by kernel_rfl)) (fun _ _ _ h => h) (Or.inr ⟨by rfl, rfl⟩) ?_ ?_
                rotate_left
                ·simp only [Act.put, zA_, zB_, zC_, i64_w, i32_w]; rfl
                refine pure_ (i := 39) (N := some 72) (v := undef) (a' := ?_) giroref35_Greedy.zb40 rfl rfl (any_of HT_.out (by kernel_rfl)) (fun _ _ _ h => h) (Or.inr ⟨by rfl, rfl⟩) ?_ ?_
                rotate_left
                ·simp only [Act.put, zA_, zB_, zC_, i64_w, i32_w]; rfl
                refine pure_ (i := 40) (N := some 73) (v := undef) (a' := ?_) giroref35_Greedy.zb20 rfl rfl (any_of HT_.out (by kernel_rfl)) (fun _ _ _ h => h) (Or.inr ⟨by rfl, rfl⟩) ?_ ?_
                rotate_left
                ·simp only [Act.put, zA_, zB_, zC_, i64_w, i32_w]; rfl
                refine pure_ (i := 41) (N := some 74) (v := undef) (a' := ?_) giroref35_Greedy.zb21 rfl rfl (any_of HT_.out (by kernel_rfl)) (fun _ _ _ h => h) (Or.inr ⟨by rfl, rfl⟩) ?_ ?_
                rotate_left
                ·simp only [Act.put, zA_, zB_, zC_, i64_w, i32_w]; rfl
                refine pure_ (i := 42) (N := some 75) (v := undef) (a' := ?_) giroref35_Greedy.zb22 rfl rfl (any_of HT_.out (by kernel_rfl)) (fun _ _ _ h => h) (Or.inr ⟨by rfl, rfl⟩) ?_ ?_
                rotate_left
                ·simp only [Act.put, zA_, zB_, zC_, i64_w, i32_w]; rfl
                refine pure_ (i := 43) (N := some 76) (v := undef) (a' := ?_) giroref35_Greedy.zb23 rfl rfl (any_of HT_.out (by kernel_rfl)) (fun _ _ _ h => h) (Or.inr ⟨by rfl, rfl⟩) ?_ ?_
                rotate_left
                ·simp only [Act.put, zA_, zB_, zC_, i64_w, i32_w]; rfl
                refine pure_ (i := 44) (N := some 77) (v := undef) (a' := ?_) giroref35_Greedy.zb24 rfl rfl (any_of HT_.out (by kernel_rfl)) (fun _ _ _ h => h) (Or.inr ⟨by rfl, rfl⟩) ?_ ?_
                rotate_left
                ·simp only [Act.put, zA_, zB_, zC_, i64_w, i32_w]; rfl
                refine pure_ (i := 45) (N := some 78) (v := undef) (a' := ?_) giroref35_Greedy.zb25 rfl rfl (any_of HT_.out (by kernel_rfl)) (fun _ _ _ h => h) (Or.inr ⟨by rfl, rfl⟩) ?_ ?_
                rotate_left
                ·simp only [Act.put, zA_, zB_, zC_, i64_w, i32_w]; rfl
                refine pure_ (i := 46) (N := some 79) (v := ?_) (a' := ?_) giroref35_Greedy.zb26 rfl rfl (any_of HT_.out (by kernel_rfl)) (fun _ _ _ h => h) (Or.inl ⟨by rfl, ?_⟩) ?_ ?_
                rotate_left
                ·intro w'; go_simp; (with_reducible rfl)
                rotate_left
                ·simp only [Act.put, zA_, zB_, zC_, i64_w, i32_w]; rfl
                refine done_ (done_of HT_.out (by kernel_rfl)) ?_
                try go_wp2
                go_roundg k2
                case measure => have := HK1.out; have := HK2.out; omega
                case rel => exact ⟨(x7_2), (wrap64 (x7_2 + 1)), (by first | rfl | (simp; done) | (simp [*]; done)), (by first | rfl | (simp; done) | (simp [*]; done)), H', ⟨by have := HK1.out; have := HK2.out; omega⟩, ⟨by (with_reducible repeat (first | apply Kd.R_alloc | apply Kd.R_drewN | apply Kd.R_drew)); exact HO_5.out⟩, ⟨by (with_reducible repeat (first | apply Kd.R_alloc | apply Kd.R_drewN | apply Kd.R_drew)); exact HO_219000.out⟩, ⟨by (with_reducible repeat (first | apply Kd.R_alloc | apply Kd.R_drewN | apply Kd.R_drew)); exact HO_219001.out⟩, ⟨by (with_reducible repeat (first | refine bw8 ?_ _ | refine bw9 ?_ | refine bw6 ?_ _)); exact BK212.out⟩, ⟨by (with_reducible repeat (first | refine bw8 ?_ _ | refine bw9 ?_ | refine bw6 ?_ _)); exact BK213.out⟩, ⟨by (with_reducible repeat (first | refine bw8 ?_ _ | refine bw9 ?_ | refine bw6 ?_ _)); exact BK218.out⟩, ⟨by repeat (first | (with_reducible first | exact HB.out | apply bw2 | apply bw1 | apply bw3 | refine bw4 ?_ GE212.out | refine bw4 ?_ GE213.out | refine bw4 ?_ GE218.out) | exact HB.out)⟩⟩
               ·rw [if_neg c46] at H
                have c46b0 : decide (((rd_T109 l0_3 x6_2).f2) < ((rd_T109 l0_3 x7_2).f2)) = false := decide_eq_false c46
                clear c46
                by_cases c52 : ((rd_T109 l0_3 x7_2).f2) = ((rd_T109 l0_3 x6_2).f2)
                ·rw [if_pos c52] at H
                 have c52b0 : (((rd_T109 l0_3 x7_2).f2) == ((rd_T109 l0_3 x6_2).f2)) = true := beq_iff_eq.mpr c52
                 have c52b1 : (((rd_T109 l0_3 x7_2).f2) != ((rd_T109 l0_3 x6_2).f2)) = false := bne_eq_false_iff_eq.mpr c52
                 clear c52
                 by_cases c53 : (Op.bytesLess (((rd_T109 l0_3 x7_2).f0).toList) (((rd_T109 l0_3 x6_2).f0).toList)) = true
                 ·rw [if_pos c53] at H
                  have c53b0 : (Op.bytesLess (((rd_T109 l0_3 x7_2).f0).toList) (((rd_T109 l0_3 x6_2).f0).toList)) = true := c53
                  clear c53
                  have H' := Aside0.mk H
                  clear H
                  have hnb54 := NB212_213.out
                  have hnc54 := NB213_212.out
                  have hnb55 := NB212_218.out
                  have hnc55 := NB218_212.out
                  have hcz56_0 : wr.cell? ⟨gb212, 0, none⟩ = some (.int .i64 a0_0) := (bw5 BK212.out 0).trans rfl
                  have hcz56_1 : wr.cell? ⟨gb212, 1, none⟩ = some (.slice A0_1 l0_1.length c0_1) := (bw5 BK212.out 1).trans rfl
                  have hcz56_2 : wr.cell? ⟨gb212, 2, none⟩ = some (.slice A0_2 l0_2.length c0_2) := (bw5 BK212.out 2).trans rfl
                  have hcz56_3 : wr.cell? ⟨gb212, 3, none⟩ = some (.slice A0_3 l0_3.length c0_3) := (bw5 BK212.out 3).trans rfl
                  have hfz56_0 := bw7 BK212.out 0
                  have hfz56_1 := bw7 BK212.out 1
                  have hfz56_2 := bw7 BK212.out 2
                  have hfz56_3 := bw7 BK212.out 3
                  obtain ⟨Ao57, co57, eo57⟩ := Kd.R_slice HO_5.out
                  subst eo57
                  have p228 : 0 ≤ (x7_2 : Int) := of_decide_eq_true (by first | (with_reducible assumption) | assumption)
                  have q228 : x7_2 < (x5_1.length : Int) := of_decide_eq_true (by first | (with_reducible assumption) | assumption)
                  obtain ⟨ad228, e228, hx228_0⟩ := Kd.at_bool (Kd.R_reads' HO_5.out).2.2 x7_2 p228 q228
                  (try rw [← Nbq32.out] at hx228_0)
                  cases e228
                  replace p228 := eq_true p228
                  replace q228 := eq_true q228
                  try go_wp2
                  have n0_ := Aside0.mk (Kd.R_drew HO_5.out)
                  have n1_ := Aside0.mk (Kd.R_drew HO_219000.out)
                  have n2_ := Aside0.mk (Kd.R_drew HO_219001.out)
                  have n3_ := Aside0.mk (bw9 BK212.out)
                  have n4_ := Aside0.mk (bw9 BK213.out)
                  have n5_ := Aside0.mk (bw9 BK218.out)
                  have n6_ := Aside0.mk (bw3 HB.out)
                  clear HO_5; clear HO_219000; clear HO_219001; clear BK212; clear BK213; clear BK218; clear HB; have HO_5 := n0_; have HO_219000 := n1_; have HO_219001 := n2_; have BK212 := n3_; have BK213 := n4_; have BK218 := n5_; have HB := n6_; clear n0_ n1_ n2_ n3_ n4_ n5_ n6_
                  have p229 : 0 ≤ (x7_2 : Int) := of_decide_eq_true (by first | (with_reducible assumption) | assumption)
                  have q229 : x7_2 < (l0_3.length : Int) := of_decide_eq_true (by first | (with_reducible assumption) | assumption)
                  obtain ⟨ad229, e229, hx229_0, hx229_1, hx229_2⟩ := at_T109 HR0_3.out x7_2 p229 q229
                  have hw229_2 := hx229_2
                  have hw229_1 := hx229_1
                  have hw229_0 := hx229_0
                  cases e229
                  replace hx229_0 := (HB.out.cell (World.block_lt_of_cell? w _ hx229_0)).trans hx229_0
                  replace hx229_1 := (HB.out.cell (World.block_lt_of_cell? w _ hx229_1)).trans hx229_1
                  replace hx229_2 := (HB.out.cell (World.block_lt_of_cell? w _ hx229_2)).trans hx229_2
                  replace p229 := eq_true p229
                  replace q229 := eq_true q229
                  have p230 : 0 ≤ (x6_2 : Int) := of_decide_eq_true (by first | (with_reducible assumption) | assumption)
                  have q230 : x6_2 < (l0_3.length : Int) := of_decide_eq_true (by first | (with_reducible assumption) | assumption)
                  obtain ⟨ad230, e230, hx230_0, hx230_1, hx230_2⟩ := at_T109 HR0_3.out x6_2 p230 q230
                  have hw230_2 := hx230_2
                  have hw230_1 := hx230_1
                  have hw230_0 := hx230_0
                  obtain rfl : ad229 = ad230 := (by injection e230)
                  replace hx230_0 := (HB.out.cell (World.block_lt_of_cell? w _ hx230_0)).trans hx230_0
                  replace hx230_1 := (HB.out.cell (World.block_lt_of_cell? w _ hx230_1)).trans hx230_1
                  replace hx230_2 := (HB.out.cell (World.block_lt_of_cell? w _ hx230_2)).trans hx230_2
                  replace p230 := eq_true p230
                  replace q230 := eq_true q230
                  have p231 : 0 ≤ (x7_2 : Int) := of_decide_eq_true (by first | (with_reducible assumption) | assumption)
                  have q231 : x7_2 < (l0_3.length : Int) := of_decide_eq_true (by first | (with_reducible assumption) | assumption)
                  obtain ⟨ad231, e231, hx231_0, hx231_1, hx231_2⟩ := at_T109 HR0_3.out x7_2 p231 q231
                  have hw231_2 := hx231_2
                  have hw231_1 := hx231_1
                  have hw231_0 := hx231_0
                  obtain rfl : ad229 = ad231 := (by injection e231)
                  replace hx231_0 := (HB.out.cell (World.block_lt_of_cell? w _ hx231_0)).trans hx231_0
                  replace hx231_1 := (HB.out.cell (World.block_lt_of_cell? w _ hx231_1)).trans hx231_1
                  replace hx231_2 := (HB.out.cell (World.block_lt_of_cell? w _ hx231_2)).trans hx231_2
                  replace p231 := eq_true p231
                  replace q231 := eq_true q231
                  have p232 : 0 ≤ (x6_2 : Int) := of_decide_eq_true (by first | (with_reducible assumption) | assumption)
                  have q232 : x6_2 < (l0_3.length : Int) := of_decide_eq_true (by first | (with_reducible assumption) | assumption)
                  obtain ⟨ad232, e232, hx232_0, hx232_1, hx232_2⟩ := at_T109 HR0_3.out x6_2 p232 q232
                  have hw232_2 := hx232_2
                  have hw232_1 := hx232_1
                  have hw232_0 := hx232_0
                  obtain rfl : ad229 = ad232 := (by injection e232)
                  replace hx232_0 := (HB.out.cell (World.block_lt_of_cell? w _ hx232_0)).trans hx232_0
                  replace hx232_1 := (HB.out.cell (World.block_lt_of_cell? w _ hx232_1)).trans hx232_1
                  replace hx232_2 := (HB.out.cell (World.block_lt_of_cell? w _ hx232_2)).trans hx232_2
                  replace p232 := eq_true p232
                  replace q232 := eq_true q232
                  have p233 : 0 ≤ (x7_2 : Int) := of_decide_eq_true (by first | (with_reducible assumption) | assumption)
                  have q233 : x7_2 < (l0_3.length : Int) := of_decide_eq_true (by first | (with_reducible assumption) | assumption)
                  obtain ⟨ad233, e233, hx233_0, hx233_1, hx233_2⟩ := at_T109 HR0_3.out x7_2 p233 q233
                  have hw233_2 := hx233_2
                  have hw233_1 := hx233_1
                  have hw233_0 := hx233_0
                  obtain rfl : ad229 = ad233 := (by injection e233)
                  replace hx233_0 := (HB.out.cell (World.block_lt_of_cell? w _ hx233_0)).trans hx233_0
                  replace hx233_1 := (HB.out.cell (World.block_lt_of_cell? w _ hx233_1)).trans hx233_1
                  replace hx233_2 := (HB.out.cell (World.block_lt_of_cell? w _ hx233_2)).trans hx233_2
                  replace p233 := eq_true p233
                  replace q233 := eq_true q233
                  have p234 : 0 ≤ (x6_2 : Int) := of_decide_eq_true (by first | (with_reducible assumption) | assumption)
                  have q234 : x6_2 < (l0_3.length : Int) := of_decide_eq_true (by first | (with_reducible assumption) | assumption)
                  obtain ⟨ad234, e234, hx234_0, hx234_1, hx234_2⟩ := at_T109 HR0_3.out x6_2 p234 q234
                  have hw234_2 := hx234_2
                  have hw234_1 := hx234_1
                  have hw234_0 := hx234_0
                  obtain rfl : ad229 = ad234 := (by injection e234)
                  replace hx234_0 := (HB.out.cell (World.block_lt_of_cell? w _ hx234_0)).trans hx234_0
                  replace hx234_1 := (HB.out.cell (World.block_lt_of_cell? w _ hx234_1)).trans hx234_1
                  replace hx234_2 := (HB.out.cell (World.block_lt_of_cell? w _ hx234_2)).trans hx234_2
                  replace p234 := eq_true p234
                  replace q234 := eq_true q234
                  refine start_ (n := 47) (S := fun w' => w'.cell? ⟨gb212, 0, none⟩ = some (.int .i64 a0_0) ∧ w'.cell? ⟨gb212, 1, none⟩ = some (.slice A0_1 l0_1.length c0_1) ∧ w'.cell? ⟨gb212, 2, none⟩ = some (.slice A0_2 l0_2.length c0_2) ∧ w'.cell? ⟨gb212, 3, none⟩ = some (.slice (some ad229) l0_3.length c0_3) ∧ w'.cell? (ad229.add ((x7_2).toNat * 3)) = some (.string ((rd_T109 l0_3 x7_2).f0)) ∧ w'.cell? ⟨(ad229.add ((x7_2).toNat * 3)).block, (ad229.add ((x7_2).toNat * 3)).off + 1, none⟩ = some (.int .i64 ((rd_T109 l0_3 x7_2).f1)) ∧ w'.cell? ⟨(ad229.add ((x7_2).toNat * 3)).block, (ad229.add ((x7_2).toNat * 3)).off + 2, none⟩ = some (.int .i64 ((rd_T109 l0_3 x7_2).f2)) ∧ w'.cell? (ad229.add ((x6_2).toNat * 3)) = some (.string ((rd_T109 l0_3 x6_2).f0)) ∧ w'.cell? ⟨(ad229.add ((x6_2).toNat * 3)).block, (ad229.add ((x6_2).toNat * 3)).off + 1, none⟩ = some (.int .i64 ((rd_T109 l0_3 x6_2).f1)) ∧ w'.cell? ⟨(ad229.add ((x6_2).toNat * 3)).block, (ad229.add ((x6_2).toNat * 3)).off + 2, none⟩ = some (.int .i64 ((rd_T109 l0_3 x6_2).f2)) ∧ w'.cell? (ad229.add ((x7_2).toNat * 3)) = some (.string ((rd_T109 l0_3 x7_2).f0)) ∧ w'.cell? ⟨(ad229.add ((x7_2).toNat * 3)).block, (ad229.add ((x7_2).toNat * 3)).off + 1, none⟩ = some (.int .i64 ((rd_T109 l0_3 x7_2).f1)) ∧ w'.cell? ⟨(ad229.add ((x7_2).toNat * 3)).block, (ad229.add ((x7_2).toNat * 3)).off + 2, none⟩ = some (.int .i64 ((rd_T109 l0_3 x7_2).f2)) ∧ w'.cell? (ad229.add ((x6_2).toNat * 3)) = some (.string ((rd_T109 l0_3 x6_2).f0)) ∧ w'.cell? ⟨(ad229.add ((x6_2).toNat * 3)).block, (ad229.add ((x6_2).toNat * 3)).off + 1, none⟩ = some (.int .i64 ((rd_T109 l0_3 x6_2).f1)) ∧ w'.cell? ⟨(ad229.add ((x6_2).toNat * 3)).block, (ad229.add ((x6_2).toNat * 3)).off + 2, none⟩ = some (.int .i64 ((rd_T109 l0_3 x6_2).f2)) ∧ w'.cell? (ad229.add ((x7_2).toNat * 3)) = some (.string ((rd_T109 l0_3 x7_2).f0)) ∧ w'.cell? ⟨(ad229.add ((x7_2).toNat * 3)).block, (ad229.add ((x7_2).toNat * 3)).off + 1, none⟩ = some (.int .i64 ((rd_T109 l0_3 x7_2).f1)) ∧ w'.cell? ⟨(ad229.add ((x7_2).toNat * 3)).block, (ad229.add ((x7_2).toNat * 3)).off + 2, none⟩ = some (.int .i64 ((rd_T109 l0_3 x7_2).f2)) ∧ w'.cell? (ad229.add ((x6_2).toNat * 3)) = some (.string ((rd_T109 l0_3 x6_2).f0)) ∧ w'.cell? ⟨(ad229.add ((x6_2).toNat * 3)).block, (ad229.add ((x6_2).toNat * 3)).off + 1, none⟩ = some (.int .i64 ((rd_T109 l0_3 x6_2).f1)) ∧ w'.cell? ⟨(ad229.add ((x6_2).toNat * 3)).block, (ad229.add ((x6_2).toNat * 3)).off + 2, none⟩ = some (.int .i64 ((rd_T109 l0_3 x6_2).f2))) (ds := []) giroref35_Greedy.zb0 (by kernel_rfl) rfl rfl ⟨(bw5 BK212.out 0).trans rfl, (bw5 BK212.out 1).trans rfl, (bw5 BK212.out 2).trans rfl, (bw5 BK212.out 3).trans rfl, ((HB.out.cell (World.block_lt_of_cell? w _ hw229_0)).trans hw229_0), ((HB.out.cell (World.block_lt_of_cell? w _ hw229_1)).trans hw229_1), ((HB.out.cell (World.block_lt_of_cell? w _ hw229_2)).trans hw229_2), ((HB.out.cell (World.block_lt_of_cell? w _ hw230_0)).trans hw230_0), ((HB.out.cell (World.block_lt_of_cell? w _ hw230_1)).trans hw230_1), ((HB.out.cell (World.block_lt_of_cell? w _ hw230_2)).trans hw230_2), ((HB.out.cell (World.block_lt_of_cell? w _ hw231_0)).trans hw231_0), ((HB.out.cell (World.block_lt_of_cell? w _ hw231_1)).trans hw231_1), ((HB.out.cell (World.block_lt_of_cell? w _ hw231_2)).trans hw231_2), ((HB.out.cell (World.block_lt_of_cell? w _ hw232_0)).trans hw232_0), ((HB.out.cell (World.block_lt_of_cell? w _ hw232_1)).trans hw232_1), ((HB.out.cell (World.block_lt_of_cell? w _ hw232_2)).trans hw232_2), ((HB.out.cell (World.block_lt_of_cell? w _ hw233_0)).trans hw233_0), ((HB.out.cell (World.block_lt_of_cell? w _ hw233_1)).trans hw233_1), ((HB.out.cell (World.block_lt_of_cell? w _ hw233_2)).trans hw233_2), ((HB.out.cell (World.block_lt_of_cell? w _ hw234_0)).trans hw234_0), ((HB.out.cell (World.block_lt_of_cell? w _ hw234_1)).trans hw234_1), ((HB.out.cell (World.block_lt_of_cell? w _ hw234_2)).trans hw234_2)⟩ (fun hHeld => ?_); refine with_tabW giroref35_Greedy.tab9 giroref35_Greedy.bits9 (fun HT_ HW_ => ?_)
                  generalize wr.drew = w58 at HO_5 HO_219000 HO_219001 BK212 BK213 BK218 HB hx229_0 hx229_1 hx229_2 hx230_0 hx230_1 hx230_2 hx231_0 hx231_1 hx231_2 hx232_0 hx232_1 hx232_2 hx233_0 hx233_1 hx233_2 hx234_0 hx234_1 hx234_2 hHeld ⊢
                  refine pure_ (i := 0) (N := some 33) (v := ?_) (a' := ?_) giroref35_Greedy.zb1 rfl rfl (any_of HT_.out (by kernel_rfl)) (fun _ _ _ h => h) (Or.inl ⟨by rfl, ?_⟩) ?_ ?_
                  rotate_left
                  ·intro w'; go_simp; (with_reducible rfl)
                  rotate_left
                  ·simp only [Act.put, zA_, zB_, zC_, i64_w, i32_w]; rfl
                  refine pure_ (i := 1) (N := some 34) (v := ?_) (a' := ?_) giroref35_Greedy.zb2 rfl rfl (any_of HT_.out (by kernel_rfl)) (fun _ _ _ h => h) (Or.inl ⟨by rfl, ?_⟩) ?_ ?_
                  rotate_left
                  ·intro w'; go_simp; (with_reducible rfl)
                  rotate_left
                  ·simp only [Act.put, zA_, zB_, zC_, i64_w, i32_w]; rfl
                  refine pure_ (i := 2) (N := some 35) (v := ?_) (a' := ?_) giroref35_Greedy.zb3 rfl rfl (any_of HT_.out (by kernel_rfl)) (fun _ _ _ h => h) (Or.inl ⟨by rfl, ?_⟩) ?_ ?_
                  rotate_left
                  ·intro w'; go_simp; (with_reducible rfl)
                  rotate_left
                  ·simp only [Act.put, zA_, zB_, zC_, i64_w, i32_w]; rfl
                  refine pure_ (i := 3) (N := some 36) (v := ?_) (a' := ?_) giroref35_Greedy.zb4 rfl rfl (any_of HT_.out (by kernel_rfl)) (fun _ _ _ h => h) (Or.inl ⟨by rfl, ?_⟩) ?_ ?_
                  rotate_left
                  ·intro w'; go_simp; (with_reducible rfl)
                  rotate_left
                  ·simp only [Act.put, zA_, zB_, zC_, i64_w, i32_w]; rfl
                  refine pure_ (i := 5) (N := some 38) (v := ?_) (a' := ?_) giroref35_Greedy.zb27 rfl rfl (any_of HT_.out (by kernel_rfl)) (fun _ _ _ h => h) (Or.inl ⟨by rfl, ?_⟩) ?_ ?_
                  rotate_left
                  ·intro w'; go_simp; (with_reducible rfl)
                  rotate_left
                  ·simp only [Act.put, zA_, zB_, zC_, i64_w, i32_w]; rfl
                  refine pure_ (i := 9) (N := some 42) (v := ?_) (a' := ?_) giroref35_Greedy.zb28 rfl rfl (any_of HT_.out (by kernel_rfl)) (fun _ _ _ h => h) (Or.inl ⟨by rfl, ?_⟩) ?_ ?_
                  rotate_left
                  ·intro w'; go_simp; (with_reducible rfl)
                  rotate_left
                  ·simp only [Act.put, zA_, zB_, zC_, i64_w, i32_w]; rfl
                  refine pure_ (i := 11) (N := some 44) (v := ?_) (a' := ?_) giroref35_Greedy.zb29 rfl rfl (any_of HT_.out (by kernel_rfl)) (fun _ _ _ h => h) (Or.inl ⟨by rfl, ?_⟩) ?_ ?_
                  rotate_left
                  ·intro w'; go_simp; (with_reducible rfl)
                  rotate_left
                  ·simp only [Act.put, zA_, zB_, zC_, i64_w, i32_w]; rfl
                  refine take_ (i := 4) (N := some 37) (v := ?_) (a' := ?_) giroref35_Greedy.zb30 rfl rfl (take_ofW HT_.out HW_.out (by kernel_rfl)) (fun _ _ _ h => h) (Or.inl ⟨by rfl, ?_⟩) hHeld ?_ ?_
                  rotate_left
                  ·rintro w' ⟨s0, s1, s2, s3, s4, s5, s6, s7, s8, s9, s10, s11, s12, s13, s14, s15, s16, s17, s18, s19, s20, s21⟩
                   go_simp; (with_reducible rfl)
                  rotate_left
                  ·simp only [Act.put, zA_, zB_, zC_, i64_w, i32_w]; rfl
                  refine pure_ (i := 6) (N := some 39) (v := ?_) (a' := ?_) giroref35_Greedy.zb31 rfl rfl (any_of HT_.out (by kernel_rfl)) (fun _ _ _ h => h) (Or.inl ⟨by rfl, ?_⟩) ?_ ?_
                  rotate_left
                  ·intro w'; go_simp; (with_reducible rfl)
                  rotate_left
                  ·simp only [Act.put, zA_, zB_, zC_, i64_w, i32_w]; rfl
                  refine pure_ (i := 7) (N := some 40) (v := ?_) (a' := ?_) giroref35_Greedy.zb32 rfl rfl (any_of HT_.out (by kernel_rfl)) (fun _ _ _ h => h) (Or.inl ⟨by rfl, ?_⟩) ?_ ?_
                  rotate_left
                  ·intro w'; go_simp; (with_reducible rfl)
                  rotate_left
                  ·simp only [Act.put, zA_, zB_, zC_, i64_w, i32_w]; rfl
                  refine take_ (i := 8) (N := some 41) (v := ?_) (a' := ?_) giroref35_Greedy.zb33 rfl rfl (take_ofW HT_.out HW_.out (by kernel_rfl)) (fun _ _ _ h => h) (Or.inl ⟨by rfl, ?_⟩) hHeld ?_ ?_
                  rotate_left
                  ·rintro w' ⟨s0, s1, s2, s3, s4, s5, s6, s7, s8, s9, s10, s11, s12, s13, s14, s15, s16, s17, s18, s19, s20, s21⟩
                   go_simp; (with_reducible rfl)
                  rotate_left
                  ·simp only [Act.put, zA_, zB_, zC_, i64_w, i32_w]; rfl
                  refine take_ (i := 10) (N := some 43) (v := ?_) (a' := ?_) giroref35_Greedy.zb5 rfl rfl (take_ofW HT_.out HW_.out (by kernel_rfl)) (fun _ _ _ h => h) (Or.inl ⟨by rfl, ?_⟩) hHeld ?_ ?_
                  rotate_left
                  ·rintro w' ⟨s0, s1, s2, s3, s4, s5, s6, s7, s8, s9, s10, s11, s12, s13, s14, s15, s16, s17, s18, s19, s20, s21⟩
                   go_simp; (with_reducible rfl)
                  rotate_left
                  ·simp only [Act.put, zA_, zB_, zC_, i64_w, i32_w]; rfl
                  refine pure_ (i := 12) (N := some 45) (v := ?_) (a' := ?_) giroref35_Greedy.zb6 rfl rfl (any_of HT_.out (by kernel_rfl)) (fun _ _ _ h => h) (Or.inl ⟨by rfl, ?_⟩) ?_ ?_
                  rotate_left
                  ·intro w'; go_simp; (with_reducible rfl)
                  rotate_left
                  ·simp only [Act.put, zA_, zB_, zC_, i64_w, i32_w]; rfl
                  refine pure_ (i := 13) (N := some 46) (v := ?_) (a' := ?_) giroref35_Greedy.zb7 rfl rfl (any_of HT_.out (by kernel_rfl)) (fun _ _ _ h => h) (Or.inl ⟨by rfl, ?_⟩) ?_ ?_
                  rotate_left
                  ·intro w'; go_simp; (with_reducible rfl)
                  rotate_left
                  ·simp only [Act.put, zA_, zB_, zC_, i64_w, i32_w]; rfl
                  refine take_ (i := 14) (N := some 47) (v := ?_) (a' := ?_) giroref35_Greedy.zb8 rfl rfl (take_ofW HT_.out HW_.out (by kernel_rfl)) (fun _ _ _ h => h) (Or.inl ⟨by rfl, ?_⟩) hHeld ?_ ?_
                  rotate_left
                  ·rintro w' ⟨s0, s1, s2, s3, s4, s5, s6, s7, s8, s9, s10, s11, s12, s13, s14, s15, s16, s17, s18, s19, s20, s21⟩
                   go_simp; (with_reducible rfl)
                  rotate_left
                  ·simp only [Act.put, zA_, zB_, zC_, i64_w, i32_w]; rfl
                  refine pure_ (i := 15) (N := some 48) (v := ?_) (a' := ?_) giroref35_Greedy.zb9 rfl rfl (any_of HT_.out (by kernel_rfl)) (fun _ _ _ h => h) (Or.inl ⟨by rfl, ?_⟩) ?_ ?_
                  rotate_left
                  ·intro w'; go_simp; (with_reducible rfl)
                  rotate_left
                  ·simp only [Act.put, zA_, zB_, zC_, i64_w, i32_w]; rfl
                  refine pure_ (i := 16) (N := some 49) (v := ?_) (a' := ?_) giroref35_Greedy.zb10 rfl rfl (any_of HT_.out (by kernel_rfl)) (fun _ _ _ h => h) (Or.inl ⟨by rfl, ?_⟩) ?_ ?_
                  rotate_left
                  ·intro w'; go_simp; (with_reducible rfl)
                  rotate_left
                  ·simp only [Act.put, zA_, zB_, zC_, i64_w, i32_w]; rfl
                  refine pure_ (i := 17) (N := some 50) (v := ?_) (a' := ?_) giroref35_Greedy.zb11 rfl rfl (any_of HT_.out (by kernel_rfl)) (fun _ _ _ h => h) (Or.inl ⟨by rfl, ?_⟩) ?_ ?_
                  rotate_left
                  ·intro w'; go_simp; (with_reducible rfl)
                  rotate_left
                  ·simp only [Act.put, zA_, zB_, zC_, i64_w, i32_w]; rfl
                  refine pure_ (i := 18) (N := some 51) (v := ?_) (a' := ?_) giroref35_Greedy.zb12 rfl rfl (any_of HT_.out (by kernel_rfl)) (fun _ _ _ h => h) (Or.inl ⟨by rfl, ?_⟩) ?_ ?_
                  rotate_left
                  ·intro w'; go_simp; (with_reducible rfl)
                  rotate_left
                  ·simp only [Act.put, zA_, zB_, zC_, i64_w, i32_w]; rfl
                  refine pure_ (i := 20) (N := some 53) (v := ?_) (a' := ?_) giroref35_Greedy.zb41 rfl rfl (any_of HT_.out (by kernel_rfl)) (fun _ _ _ h => h) (Or.inl ⟨by rfl, ?_⟩) ?_ ?_
                  rotate_left
                  ·intro w'; go_simp; (with_reducible rfl)
                  rotate_left
                  ·simp only [Act.put, zA_, zB_, zC_, i64_w, i32_w]; rfl
                  refine pure_ (i := 24) (N := some 57) (v := ?_) (a' := ?_) giroref35_Greedy.zb42 rfl rfl (any_of HT_.out (by kernel_rfl)) (fun _ _ _ h => h) (Or.inl ⟨by rfl, ?_⟩) ?_ ?_
                  rotate_left
                  ·intro w'; go_simp; (with_reducible rfl)
                  rotate_left
                  ·simp only [Act.put, zA_, zB_, zC_, i64_w, i32_w]; rfl
                  refine pure_ (i := 26) (N := some 59) (v := ?_) (a' := ?_) giroref35_Greedy.zb43 rfl rfl (any_of HT_.out (by kernel_rfl)) (fun _ _ _ h => h) (Or.inl ⟨by rfl, ?_⟩) ?_ ?_
                  rotate_left
                  ·intro w'; go_simp; (with_reducible rfl)
                  rotate_left
                  ·simp only [Act.put, zA_, zB_, zC_, i64_w, i32_w]; rfl
                  refine take_ (i := 19) (N := some 52) (v := ?_) (a' := ?_) giroref35_Greedy.zb44 rfl rfl (take_ofW HT_.out HW_.out (by kernel_rfl)) (fun _ _ _ h => h) (Or.inl ⟨by rfl, ?_⟩) hHeld ?_ ?_
                  rotate_left
                  ·rintro w' ⟨s0, s1, s2, s3, s4, s5, s6, s7, s8, s9, s10, s11, s12, s13, s14, s15, s16, s17, s18, s19, s20, s21⟩
                   go_simp; (with_reducible rfl)
                  rotate_left
                  ·simp only [Act.put, zA_, zB_, zC_, i64_w, i32_w]; rfl
                  refine pure_ (i := 21) (N := some 54) (v := ?_) (a' := ?_) giroref35_Greedy.zb45 rfl rfl (any_of HT_.out (by kernel_rfl)) (fun _ _ _ h => h) (Or.inl ⟨by rfl, ?_⟩) ?_ ?_
                  rotate_left
                  ·intro w'; go_simp; (with_reducible rfl)
                  rotate_left
                  ·simp only [Act.put, zA_, zB_, zC_, i64_w, i32_w]; rfl
                  refine pure_ (i := 22) (N := some 55) (v := ?_) (a' := ?_) giroref35_Greedy.zb46 rfl rfl (any_of HT_.out (by kernel_rfl)) (fun _ _ _ h => h) (Or.inl ⟨by rfl, ?_⟩) ?_ ?_
                  rotate_left
                  ·intro w'; go_simp; (with_reducible rfl)
                  rotate_left
                  ·simp only [Act.put, zA_, zB_, zC_, i64_w, i32_w]; rfl
                  refine take_ (i := 23) (N := some 56) (v := ?_) (a' := ?_) giroref35_Greedy.zb47 rfl rfl (take_ofW HT_.out HW_.out (by kernel_rfl)) (fun _ _ _ h => h) (Or.inl ⟨by rfl, ?_⟩) hHeld ?_ ?_
                  rotate_left
                  ·rintro w' ⟨s0, s1, s2, s3, s4, s5, s6, s7, s8, s9, s10, s11, s12, s13, s14, s15, s16, s17, s18, s19, s20, s21⟩
                   go_simp; (with_reducible rfl)
                  rotate_left
                  ·simp only [Act.put, zA_, zB_, zC_, i64_w, i32_w]; rfl
                  refine take_ (i := 25) (N := some 58) (v := ?_) (a' := ?_) giroref35_Greedy.zb13 rfl rfl (take_ofW HT_.out HW_.out (by kernel_rfl)) (fun _ _ _ h => h) (Or.inl ⟨by rfl, ?_⟩) hHeld ?_ ?_
                  rotate_left
                  ·rintro w' ⟨s0, s1, s2, s3, s4, s5, s6, s7, s8, s9, s10, s11, s12, s13, s14, s15, s16, s17, s18, s19, s20, s21⟩
                   go_simp; (with_reducible rfl)
                  rotate_left
                  ·simp only [Act.put, zA_, zB_, zC_, i64_w, i32_w]; rfl
                  refine pure_ (i := 27) (N := some 60) (v := ?_) (a' := ?_) giroref35_Greedy.zb14 rfl rfl (any_of HT_.out (by kernel_rfl)) (fun _ _ _ h => h) (Or.inl ⟨by rfl, ?_⟩) ?_ ?_
                  rotate_left
                  ·intro w'; go_simp; (with_reducible rfl)
                  rotate_left
                  ·simp only [Act.put, zA_, zB_, zC_, i64_w, i32_w]; rfl
                  refine pure_ (i := 28) (N := some 61) (v := ?_) (a' := ?_) giroref35_Greedy.zb15 rfl rfl (any_of HT_.out (by kernel_rfl)) (fun _ _ _ h => h) (Or.inl ⟨by rfl, ?_⟩) ?_ ?_
                  rotate_left
                  ·intro w'; go_simp; (with_reducible rfl)
                  rotate_left
                  ·simp only [Act.put, zA_, zB_, zC_, i64_w, i32_w]; rfl
                  refine take_ (i := 29) (N := some 62) (v := ?_) (a' := ?_) giroref35_Greedy.zb16 rfl rfl (take_ofW HT_.out HW_.out (by kernel_rfl)) (fun _ _ _ h => h) (Or.inl ⟨by rfl, ?_⟩) hHeld ?_ ?_
                  rotate_left
                  ·rintro w' ⟨s0, s1, s2, s3, s4, s5, s6, s7, s8, s9, s10, s11, s12, s13, s14, s15, s16, s17, s18, s19, s20, s21⟩
                   go_simp; (with_reducible rfl)
                  rotate_left
                  ·simp only [Act.put, zA_, zB_, zC_, i64_w, i32_w]; rfl
                  refine pure_ (i := 30) (N := some 63) (v := ?_) (a' := ?_) giroref35_Greedy.zb17 rfl rfl (any_of HT_.out (by kernel_rfl)) (fun _ _ _ h => h) (Or.inl ⟨by rfl, ?_⟩) ?_ ?_
                  rotate_left
                  ·intro w'; go_simp; (with_reducible rfl)
                  rotate_left
                  ·simp only [Act.put, zA_, zB_, zC_, i64_w, i32_w]; rfl
                  refine pure_ (i := 31) (N := some 64) (v := ?_) (a' := ?_) giroref35_Greedy.zb18 rfl rfl (any_of HT_.out (by kernel_rfl)) (fun _ _ _ h => h) (Or.inl ⟨by rfl, ?_⟩) ?_ ?_
                  rotate_left
                  ·intro w'; go_simp; (with_reducible rfl)
                  rotate_left
                  ·simp only [Act.put, zA_, zB_, zC_, i64_w, i32_w]; rfl
                  refine pure_ (i := 32) (N := some 65) (v := ?_) (a' := ?_) giroref35_Greedy.zb19 rfl rfl (any_of HT_.out (by kernel_rfl)) (fun _ _ _ h => h) (Or.inl ⟨by rfl, ?_⟩) ?_ ?_
                  rotate_left
                  ·intro w'; go_simp; (with_reducible rfl)
                  rotate_left
                  ·simp only [Act.put, zA_, zB_, zC_, i64_w, i32_w]; rfl
                  refine pure_ (i := 34) (N := some 67) (v := ?_) (a' := ?_) giroref35_Greedy.zb55 rfl rfl (any_of HT_.out (by kernel_rfl)) (fun _ _ _ h => h) (Or.inl ⟨by rfl, ?_⟩) ?_ ?_
                  rotate_left
                  ·intro w'; go_simp; (with_reducible rfl)
                  rotate_left
                  ·simp only [Act.put, zA_, zB_, zC_, i64_w, i32_w]; rfl
                  refine pure_ (i := 38) (N := some 71) (v := ?_) (a' := ?_) giroref35_Greedy.zb56 rfl rfl (any_of HT_.out (by kernel_rfl)) (fun _ _ _ h => h) (Or.inl ⟨by rfl, ?_⟩) ?_ ?_
                  rotate_left
                  ·intro w'; go_simp; (with_reducible rfl)
                  rotate_left
                  ·simp only [Act.put, zA_, zB_, zC_, i64_w, i32_w]; rfl
                  refine pure_ (i := 40) (N := some 73) (v := ?_) (a' := ?_) giroref35_Greedy.zb57 rfl rfl (any_of HT_.out (by kernel_rfl)) (fun _ _ _ h => h) (Or.inl ⟨by rfl, ?_⟩) ?_ ?_
                  rotate_left
                  ·intro w'; go_simp; (with_reducible rfl)
                  rotate_left
                  ·simp only [Act.put, zA_, zB_, zC_, i64_w, i32_w]; rfl
                  refine take_ (i := 33) (N := some 66) (v := ?_) (a' := ?_) giroref35_Greedy.zb58 rfl rfl (take_ofW HT_.out HW_.out (by kernel_rfl)) (fun _ _ _ h => h) (Or.inl ⟨by rfl, ?_⟩) hHeld ?_ ?_
                  rotate_left
                  ·rintro w' ⟨s0, s1, s2, s3, s4, s5, s6, s7, s8, s9, s10, s11, s12, s13, s14, s15, s16, s17, s18, s19, s20, s21⟩
                   go_simp; (with_reducible rfl)
                  rotate_left
                  ·simp only [Act.put, zA_, zB_, zC_, i64_w, i32_w]; rfl
                  refine pure_ (i := 35) (N := some 68) (v := ?_) (a' := ?_) giroref35_Greedy.zb59 rfl rfl (any_of HT_.out (by kernel_rfl)) (fun _ _ _ h => h) (Or.inl ⟨by rfl, ?_⟩) ?_ ?_
                  rotate_left
                  ·intro w'; go_simp; (with_reducible rfl)
                  rotate_left
                  ·simp only [Act.put, zA_, zB_, zC_, i64_w, i32_w]; rfl
                  refine pure_ (i := 36) (N := some 69) (v := ?_) (a' := ?_) giroref35_Greedy.zb60 rfl rfl (any_of HT_.out (by kernel_rfl)) (fun _ _ _ h => h) (Or.inl ⟨by rfl, ?_⟩) ?_ ?_
                  rotate_left
                  ·intro w'; go_simp; (with_reducible rfl)
                  rotate_left
                  ·simp only [Act.put, zA_, zB_, zC_, i64_w, i32_w]; rfl
                  refine take_ (i := 37) (N := some 70) (v := ?_) (a' := ?_) giroref35_Greedy.zb61 rfl rfl (take_ofW HT_.out HW_.out (by kernel_rfl)) (fun _ _ _ h => h) (Or.inl ⟨by rfl, ?_⟩) hHeld ?_ ?_
                  rotate_left
                  ·rintro w' ⟨s0, s1, s2, s3, s4, s5, s6, s7, s8, s9, s10, s11, s12, s13, s14, s15, s16, s17, s18, s19, s20, s21⟩
                   go_simp; (with_reducible rfl)
                  rotate_left
                  ·simp only [Act.put, zA_, zB_, zC_, i64_w, i32_w]; rfl
                  refine take_ (i := 39) (N := some 72) (v := ?_) (a' := ?_) giroref35_Greedy.zb20 rfl rfl (take_ofW HT_.out HW_.out (by kernel_rfl)) (fun _ _ _ h => h) (Or.inl ⟨by rfl, ?_⟩) hHeld ?_ ?_
                  rotate_left
                  ·rintro w' ⟨s0, s1, s2, s3, s4, s5, s6, s7, s8, s9, s10, s11, s12, s13, s14, s15, s16, s17, s18, s19, s20, s21⟩
                   go_simp; (with_reducible rfl)
                  rotate_left
                  ·simp only [Act.put, zA_, zB_, zC_, i64_w, i32_w]; rfl
                  refine pure_ (i := 41) (N := some 74) (v := ?_) (a' := ?_) giroref35_Greedy.zb21 rfl rfl (any_of HT_.out (by kernel_rfl)) (fun _ _ _ h => h) (Or.inl ⟨by rfl, ?_⟩) ?_ ?_
                  rotate_left
                  ·intro w'; go_simp; (with_reducible rfl)
                  rotate_left
                  ·simp only [Act.put, zA_, zB_, zC_, i64_w, i32_w]; rfl
                  refine pure_ (i := 42) (N := some 75) (v := ?_) (a' := ?_) giroref35_Greedy.zb22 rfl rfl (any_of HT_.out (by kernel_rfl)) (fun _ _ _ h => h) (Or.inl ⟨by rfl, ?_⟩) ?_ ?_
                  rotate_left
                  ·intro w'; go_simp; (with_reducible rfl)
                  rotate_left
                  ·simp only [Act.put, zA_, zB_, zC_, i64_w, i32_w]; rfl
                  refine take_ (i := 43) (N := some 76) (v := ?_) (a' := ?_) giroref35_Greedy.zb23 rfl rfl (take_ofW HT_.out HW_.out (by kernel_rfl)) (fun _ _ _ h => h) (Or.inl ⟨by rfl, ?_⟩) hHeld ?_ ?_
                  rotate_left
                  ·rintro w' ⟨s0, s1, s2, s3, s4, s5, s6, s7, s8, s9, s10, s11, s12, s13, s14, s15, s16, s17, s18, s19, s20, s21⟩
                   go_simp; (with_reducible rfl)
                  rotate_left
                  ·simp only [Act.put, zA_, zB_, zC_, i64_w, i32_w]; rfl
                  refine pure_ (i := 44) (N := some 77) (v := ?_) (a' := ?_) giroref35_Greedy.zb24 rfl rfl (any_of HT_.out (by kernel_rfl)) (fun _ _ _ h => h) (Or.inl ⟨by rfl, ?_⟩) ?_ ?_
                  rotate_left
                  ·intro w'; go_simp; (with_reducible rfl)
                  rotate_left
                  ·simp only [Act.put, zA_, zB_, zC_, i64_w, i32_w]; rfl
                  refine pure_ (i := 45) (N := some 78) (v := ?_) (a' := ?_) giroref35_Greedy.zb25 rfl rfl (any_of HT_.out (by kernel_rfl)) (fun _ _ _ h => h) (Or.inl ⟨by rfl, ?_⟩) ?_ ?_
                  rotate_left
                  ·intro w'; go_simp; (with_reducible rfl)
                  rotate_left
                  ·simp only [Act.put, zA_, zB_, zC_, i64_w, i32_w]; rfl
                  refine pure_ (i := 46) (N := some 79) (v := ?_) (a' := ?_) giroref35_Greedy.zb26 rfl rfl (any_of HT_.out (by kernel_rfl)) (fun _ _ _ h => h) (Or.inl ⟨by rfl, ?_⟩) ?_ ?_
                  rotate_left
                  ·intro w'; go_simp; (with_reducible rfl)
                  rotate_left
                  ·simp only [Act.put, zA_, zB_, zC_, i64_w, i32_w]; rfl
                  refine done_ (done_of HT_.out (by kernel_rfl)) ?_
                  try go_wp2
                  go_roundg k2
                  case measure => have := HK1.out; have := HK2.out; omega
                  case rel => exact ⟨(x7_2), (wrap64 (x7_2 + 1)), (by first | rfl | (simp; done) | (simp [*]; done)), (by first | rfl | (simp; done) | (simp [*]; done)), H', ⟨by have := HK1.out; have := HK2.out; omega⟩, ⟨by (with_reducible repeat (first | apply Kd.R_alloc | apply Kd.R_drewN | apply Kd.R_drew)); exact HO_5.out⟩, ⟨by (with_reducible repeat (first | apply Kd.R_alloc | apply Kd.R_drewN | apply Kd.R_drew)); exact HO_219000.out⟩, ⟨by (with_reducible repeat (first | apply Kd.R_alloc | apply Kd.R_drewN | apply Kd.R_drew)); exact HO_219001.out⟩, ⟨by (with_reducible repeat (first | refine bw8 ?_ _ | refine bw9 ?_ | refine bw6 ?_ _)); exact BK212.out⟩, ⟨by (with_reducible repeat (first | refine bw8 ?_ _ | refine bw9 ?_ | refine bw6 ?_ _)); exact BK213.out⟩, ⟨by (with_reducible repeat (first | refine bw8 ?_ _ | refine bw9 ?_ | refine bw6 ?_ _)); exact BK218.out⟩, ⟨by repeat (first | (with_reducible first | exact HB.out | apply bw2 | apply bw1 | apply bw3 | refine bw4 ?_ GE212.out | refine bw4 ?_ GE213.out | refine bw4 ?_ GE218.out) | exact HB.out)⟩⟩
                 ·rw [if_neg c53] at H
                  have c53b0 : (Op.bytesLess (((rd_T109 l0_3 x7_2).f0).toList) (((rd_T109 l0_3 x6_2).f0).toList)) = false := by simpa using c53
                  clear c53
                  have H' := Aside0.mk H
                  clear H
                  have hnb59 := NB212_213.out
                  have hnc59 := NB213_212.out
                  have hnb60 := NB212_218.out
                  have hnc60 := NB218_212.out
                  have hcz61_0 : wr.cell? ⟨gb212, 0, none⟩ = some (.int .i64 a0_0) := (bw5 BK212.out 0).trans rfl
                  have hcz61_1 : wr.cell? ⟨gb212, 1, none⟩ = some (.slice A0_1 l0_1.length c0_1) := (bw5 BK212.out 1).trans rfl
                  have hcz61_2 : wr.cell? ⟨gb212, 2, none⟩ = some (.slice A0_2 l0_2.length c0_2) := (bw5 BK212.out 2).trans rfl
                  have hcz61_3 : wr.cell? ⟨gb212, 3, none⟩ = some (.slice A0_3 l0_3.length c0_3) := (bw5 BK212.out 3).trans rfl
                  have hfz61_0 := bw7 BK212.out 0
                  have hfz61_1 := bw7 BK212.out 1
                  have hfz61_2 := bw7 BK212.out 2
                  have hfz61_3 := bw7 BK212.out 3
                  obtain ⟨Ao62, co62, eo62⟩ := Kd.R_slice HO_5.out
                  subst eo62
                  have p228 : 0 ≤ (x7_2 : Int) := of_decide_eq_true (by first | (with_reducible assumption) | assumption)
                  have q228 : x7_2 < (x5_1.length : Int) := of_decide_eq_true (by first | (with_reducible assumption) | assumption)
                  obtain ⟨ad228, e228, hx228_0⟩ := Kd.at_bool (Kd.R_reads' HO_5.out).2.2 x7_2 p228 q228
                  (try rw [← Nbq32.out] at hx228_0)
                  cases e228
                  replace p228 := eq_true p228
                  replace q228 := eq_true q228
                  try go_wp2
                  have n0_ := Aside0.mk (Kd.R_drew HO_5.out)
                  have n1_ := Aside0.mk (Kd.R_drew HO_219000.out)
                  have n2_ := Aside0.mk (Kd.R_drew HO_219001.out)
                  have n3_ := Aside0.mk (bw9 BK212.out)
                  have n4_ := Aside0.mk (bw9 BK213.out)
                  have n5_ := Aside0.mk (bw9 BK218.out)
                  have n6_ := Aside0.mk (bw3 HB.out)
                  clear HO_5; clear HO_219000; clear HO_219001; clear BK212; clear BK213; clear BK218; clear HB; have HO_5 := n0_; have HO_219000 := n1_; have HO_219001 := n2_; have BK212 := n3_; have BK213 := n4_; have BK218 := n5_; have HB := n6_; clear n0_ n1_ n2_ n3_ n4_ n5_ n6_
                  have p229 : 0 ≤ (x7_2 : Int) := of_decide_eq_true (by first | (with_reducible assumption) | assumption)
                  have q229 : x7_2 < (l0_3.length : Int) := of_decide_eq_true (by first | (with_reducible assumption) | assumption)
                  obtain ⟨ad229, e229, hx229_0, hx229_1, hx229_2⟩ := at_T109 HR0_3.out x7_2 p229 q229
                  have hw229_2 := hx229_2
                  have hw229_1 := hx229_1
                  have hw229_0 := hx229_0
                  cases e229
                  replace hx229_0 := (HB.out.cell (World.block_lt_of_cell? w _ hx229_0)).trans hx229_0
                  replace hx229_1 := (HB.out.cell (World.block_lt_of_cell? w _ hx229_1)).trans hx229_1
                  replace hx229_2 := (HB.out.cell (World.block_lt_of_cell? w _ hx229_2)).trans hx229_2
                  replace p229 := eq_true p229
                  replace q229 := eq_true q229
                  have p230 : 0 ≤ (x6_2 : Int) := of_decide_eq_true (by first | (with_reducible assumption) | assumption)
                  have q230 : x6_2 < (l0_3.length : Int) := of_decide_eq_true (by first | (with_reducible assumption) | assumption)
                  obtain ⟨ad230, e230, hx230_0, hx230_1, hx230_2⟩ := at_T109 HR0_3.out x6_2 p230 q230
                  have hw230_2 := hx230_2
                  have hw230_1 := hx230_1
                  have hw230_0 := hx230_0
                  obtain rfl : ad229 = ad230 := (by injection e230)
                  replace hx230_0 := (HB.out.cell (World.block_lt_of_cell? w _ hx230_0)).trans hx230_0
                  replace hx230_1 := (HB.out.cell (World.block_lt_of_cell? w _ hx230_1)).trans hx230_1
                  replace hx230_2 := (HB.out.cell (World.block_lt_of_cell? w _ hx230_2)).trans hx230_2
                  replace p230 := eq_true p230
                  replace q230 := eq_true q230
                  have p231 : 0 ≤ (x7_2 : Int) := of_decide_eq_true (by first | (with_reducible assumption) | assumption)
                  have q231 : x7_2 < (l0_3.length : Int) := of_decide_eq_true (by first | (with_reducible assumption) | assumption)
                  obtain ⟨ad231, e231, hx231_0, hx231_1, hx231_2⟩ := at_T109 HR0_3.out x7_2 p231 q231
                  have hw231_2 := hx231_2
                  have hw231_1 := hx231_1
                  have hw231_0 := hx231_0
                  obtain rfl : ad229 = ad231 := (by injection e231)
                  replace hx231_0 := (HB.out.cell (World.block_lt_of_cell? w _ hx231_0)).trans hx231_0
                  replace hx231_1 := (HB.out.cell (World.block_lt_of_cell? w _ hx231_1)).trans hx231_1
                  replace hx231_2 := (HB.out.cell (World.block_lt_of_cell? w _ hx231_2)).trans hx231_2
                  replace p231 := eq_true p231
                  replace q231 := eq_true q231
                  have p232 : 0 ≤ (x6_2 : Int) := of_decide_eq_true (by first | (with_reducible assumption) | assumption)
                  have q232 : x6_2 < (l0_3.length : Int) := of_decide_eq_true (by first | (with_reducible assumption) | assumption)
                  obtain ⟨ad232, e232, hx232_0, hx232_1, hx232_2⟩ := at_T109 HR0_3.out x6_2 p232 q232
                  have hw232_2 := hx232_2
                  have hw232_1 := hx232_1
                  have hw232_0 := hx232_0
                  obtain rfl : ad229 = ad232 := (by injection e232)
                  replace hx232_0 := (HB.out.cell (World.block_lt_of_cell? w _ hx232_0)).trans hx232_0
                  replace hx232_1 := (HB.out.cell (World.block_lt_of_cell? w _ hx232_1)).trans hx232_1
                  replace hx232_2 := (HB.out.cell (World.block_lt_of_cell? w _ hx232_2)).trans hx232_2
                  replace p232 := eq_true p232
                  replace q232 := eq_true q232
                  have p233 : 0 ≤ (x7_2 : Int) := of_decide_eq_true (by first | (with_reducible assumption) | assumption)
                  have q233 : x7_2 < (l0_3.length : Int) := of_decide_eq_true (by first | (with_reducible assumption) | assumption)
                  obtain ⟨ad233, e233, hx233_0, hx233_1, hx233_2⟩ := at_T109 HR0_3.out x7_2 p233 q233
                  have hw233_2 := hx233_2
                  have hw233_1 := hx233_1
                  have hw233_0 := hx233_0
                  obtain rfl : ad229 = ad233 := (by injection e233)
                  replace hx233_0 := (HB.out.cell (World.block_lt_of_cell? w _ hx233_0)).trans hx233_0
                  replace hx233_1 := (HB.out.cell (World.block_lt_of_cell? w _ hx233_1)).trans hx233_1
                  replace hx233_2 := (HB.out.cell (World.block_lt_of_cell? w _ hx233_2)).trans hx233_2
                  replace p233 := eq_true p233
                  replace q233 := eq_true q233
                  have p234 : 0 ≤ (x6_2 : Int) := of_decide_eq_true (by first | (with_reducible assumption) | assumption)
                  have q234 : x6_2 < (l0_3.length : Int) := of_decide_eq_true (by first | (with_reducible assumption) | assumption)
                  obtain ⟨ad234, e234, hx234_0, hx234_1, hx234_2⟩ := at_T109 HR0_3.out x6_2 p234 q234
                  have hw234_2 := hx234_2
                  have hw234_1 := hx234_1
                  have hw234_0 := hx234_0
                  obtain rfl : ad229 = ad234 := (by injection e234)
                  replace hx234_0 := (HB.out.cell (World.block_lt_of_cell? w _ hx234_0)).trans hx234_0
                  replace hx234_1 := (HB.out.cell (World.block_lt_of_cell? w _ hx234_1)).trans hx234_1
                  replace hx234_2 := (HB.out.cell (World.block_lt_of_cell? w _ hx234_2)).trans hx234_2
                  replace p234 := eq_true p234
                  replace q234 := eq_true q234
                  refine start_ (n := 47) (S := fun w' => w'.cell? ⟨gb212, 0, none⟩ = some (.int .i64 a0_0) ∧ w'.cell? ⟨gb212, 1, none⟩ = some (.slice A0_1 l0_1.length c0_1) ∧ w'.cell? ⟨gb212, 2, none⟩ = some (.slice A0_2 l0_2.length c0_2) ∧ w'.cell? ⟨gb212, 3, none⟩ = some (.slice (some ad229) l0_3.length c0_3) ∧ w'.cell? (ad229.add ((x7_2).toNat * 3)) = some (.string ((rd_T109 l0_3 x7_2).f0)) ∧ w'.cell? ⟨(ad229.add ((x7_2).toNat * 3)).block, (ad229.add ((x7_2).toNat * 3)).off + 1, none⟩ = some (.int .i64 ((rd_T109 l0_3 x7_2).f1)) ∧ w'.cell? ⟨(ad229.add ((x7_2).toNat * 3)).block, (ad229.add ((x7_2).toNat * 3)).off + 2, none⟩ = some (.int .i64 ((rd_T109 l0_3 x7_2).f2)) ∧ w'.cell? (ad229.add ((x6_2).toNat * 3)) = some (.string ((rd_T109 l0_3 x6_2).f0)) ∧ w'.cell? ⟨(ad229.add ((x6_2).toNat * 3)).block, (ad229.add ((x6_2).toNat * 3)).off + 1, none⟩ = some (.int .i64 ((rd_T109 l0_3 x6_2).f1)) ∧ w'.cell? ⟨(ad229.add ((x6_2).toNat * 3)).block, (ad229.add ((x6_2).toNat * 3)).off + 2, none⟩ = some (.int .i64 ((rd_T109 l0_3 x6_2).f2)) ∧ w'.cell? (ad229.add ((x7_2).toNat * 3)) = some (.string ((rd_T109 l0_3 x7_2).f0)) ∧ w'.cell? ⟨(ad229.add ((x7_2).toNat * 3)).block, (ad229.add ((x7_2).toNat * 3)).off + 1, none⟩ = some (.int .i64 ((rd_T109 l0_3 x7_2).f1)) ∧ w'.cell? ⟨(ad229.add ((x7_2).toNat * 3)).block, (ad229.add ((x7_2).toNat * 3)).off + 2, none⟩ = some (.int .i64 ((rd_T109 l0_3 x7_2).f2)) ∧ w'.cell? (ad229.add ((x6_2).toNat * 3)) = some (.string ((rd_T109 l0_3 x6_2).f0)) ∧ w'.cell? ⟨(ad229.add ((x6_2).toNat * 3)).block, (ad229.add ((x6_2).toNat * 3)).off + 1, none⟩ = some (.int .i64 ((rd_T109 l0_3 x6_2).f1)) ∧ w'.cell? ⟨(ad229.add ((x6_2).toNat * 3)).block, (ad229.add ((x6_2).toNat * 3)).off + 2, none⟩ = some (.int .i64 ((rd_T109 l0_3 x6_2).f2)) ∧ w'.cell? (ad229.add ((x7_2).toNat * 3)) = some (.string ((rd_T109 l0_3 x7_2).f0)) ∧ w'.cell? ⟨(ad229.add ((x7_2).toNat * 3)).block, (ad229.add ((x7_2).toNat * 3)).off + 1, none⟩ = some (.int .i64 ((rd_T109 l0_3 x7_2).f1)) ∧ w'.cell? ⟨(ad229.add ((x7_2).toNat * 3)).block, (ad229.add ((x7_2).toNat * 3)).off + 2, none⟩ = some (.int .i64 ((rd_T109 l0_3 x7_2).f2)) ∧ w'.cell? (ad229.add ((x6_2).toNat * 3)) = some (.string ((rd_T109 l0_3 x6_2).f0)) ∧ w'.cell? ⟨(ad229.add ((x6_2).toNat * 3)).block, (ad229.add ((x6_2).toNat * 3)).off + 1, none⟩ = some (.int .i64 ((rd_T109 l0_3 x6_2).f1)) ∧ w'.cell? ⟨(ad229.add ((x6_2).toNat * 3)).block, (ad229.add ((x6_2).toNat * 3)).off + 2, none⟩ = some (.int .i64 ((rd_T109 l0_3 x6_2).f2))) (ds := []) giroref35_Greedy.zb0 (by kernel_rfl) rfl rfl ⟨(bw5 BK212.out 0).trans rfl, (bw5 BK212.out 1).trans rfl, (bw5 BK212.out 2).trans rfl, (bw5 BK212.out 3).trans rfl, ((HB.out.cell (World.block_lt_of_cell? w _ hw229_0)).trans hw229_0), ((HB.out.cell (World.block_lt_of_cell? w _ hw229_1)).trans hw229_1), ((HB.out.cell (World.block_lt_of_cell? w _ hw229_2)).trans hw229_2), ((HB.out.cell (World.block_lt_of_cell? w _ hw230_0)).trans hw230_0), ((HB.out.cell (World.block_lt_of_cell? w _ hw230_1)).trans hw230_1), ((HB.out.cell (World.block_lt_of_cell? w _ hw230_2)).trans hw230_2), ((HB.out.cell (World.block_lt_of_cell? w _ hw231_0)).trans hw231_0), ((HB.out.cell (World.block_lt_of_cell? w _ hw231_1)).trans hw231_1), ((HB.out.cell (World.block_lt_of_cell? w _ hw231_2)).trans hw231_2), ((HB.out.cell (World.block_lt_of_cell? w _ hw232_0)).trans hw232_0), ((HB.out.cell (World.block_lt_of_cell? w _ hw232_1)).trans hw232_1), ((HB.out.cell (World.block_lt_of_cell? w _ hw232_2)).trans hw232_2), ((HB.out.cell (World.block_lt_of_cell? w _ hw233_0)).trans hw233_0), ((HB.out.cell (World.block_lt_of_cell? w _ hw233_1)).trans hw233_1), ((HB.out.cell (World.block_lt_of_cell? w _ hw233_2)).trans hw233_2), ((HB.out.cell (World.block_lt_of_cell? w _ hw234_0)).trans hw234_0), ((HB.out.cell (World.block_lt_of_cell? w _ hw234_1)).trans hw234_1), ((HB.out.cell (World.block_lt_of_cell? w _ hw234_2)).trans hw234_2)⟩ (fun hHeld => ?_); refine with_tabW giroref35_Greedy.tab9 giroref35_Greedy.bits9 (fun HT_ HW_ => ?_)
                  generalize wr.drew = w63 at HO_5 HO_219000 HO_219001 BK212 BK213 BK218 HB hx229_0 hx229_1 hx229_2 hx230_0 hx230_1 hx230_2 hx231_0 hx231_1 hx231_2 hx232_0 hx232_1 hx232_2 hx233_0 hx233_1 hx233_2 hx234_0 hx234_1 hx234_2 hHeld ⊢
                  refine pure_ (i := 0) (N := some 33) (v := ?_) (a' := ?_) giroref35_Greedy.zb1 rfl rfl (any_of HT_.out (by kernel_rfl)) (fun _ _ _ h => h) (Or.inl ⟨by rfl, ?_⟩) ?_ ?_
                  rotate_left
                  ·intro w'; go_simp; (with_reducible rfl)
                  rotate_left
                  ·simp only [Act.put, zA_, zB_, zC_, i64_w, i32_w]; rfl
                  refine pure_ (i := 1) (N := some 34) (v := ?_) (a' := ?_) giroref35_Greedy.zb2 rfl rfl (any_of HT_.out (by kernel_rfl)) (fun _ _ _ h => h) (Or.inl ⟨by rfl, ?_⟩) ?_ ?_
                  rotate_left
                  ·intro w'; go_simp; (with_reducible rfl)
                  rotate_left
                  ·simp only [Act.put, zA_, zB_, zC_, i64_w, i32_w]; rfl
                  refine pure_ (i := 2) (N := some 35) (v := ?_) (a' := ?_) giroref35_Greedy.zb3 rfl rfl (any_of HT_.out (by kernel_rfl)) (fun _ _ _ h => h) (Or.inl ⟨by rfl, ?_⟩) ?_ ?_
                  rotate_left
                  ·intro w'; go_simp; (with_reducible rfl)
                  rotate_left
                  ·simp only [Act.put, zA_, zB_, zC_, i64_w, i32_w]; rfl
                  refine pure_ (i := 3) (N := some 36) (v := ?_) (a' := ?_) giroref35_Greedy.zb4 rfl rfl (any_of HT_.out (by kernel_rfl)) (fun _ _ _ h => h) (Or.inl ⟨by rfl, ?_⟩) ?_ ?_
                  rotate_left
                  ·intro w'; go_simp; (with_reducible rfl)
                  rotate_left
                  ·simp only [Act.put, zA_, zB_, zC_, i64_w, i32_w]; rfl
                  refine pure_ (i := 5) (N := some 38) (v := ?_) (a' := ?_) giroref35_Greedy.zb27 rfl rfl (any_of HT_.out (by kernel_rfl)) (fun _ _ _ h => h) (Or.inl ⟨by rfl, ?_⟩) ?_ ?_
                  rotate_left
                  ·intro w'; go_simp; (with_reducible rfl)
                  rotate_left
                  ·simp only [Act.put, zA_, zB_, zC_, i64_w, i32_w]; rfl
                  refine pure_ (i := 9) (N := some 42) (v := ?_) (a' := ?_) giroref35_Greedy.zb28 rfl rfl (any_of HT_.out (by kernel_rfl)) (fun _ _ _ h => h) (Or.inl ⟨by rfl, ?_⟩) ?_ ?_
                  rotate_left
                  ·intro w'; go_simp; (with_reducible rfl)
                  rotate_left
                  ·simp only [Act.put, zA_, zB_, zC_, i64_w, i32_w]; rfl
                  refine pure_ (i := 11) (N := some 44) (v := ?_) (a' := ?_) giroref35_Greedy.zb29 rfl rfl (any_of HT_.out (by kernel_rfl)) (fun _ _ _ h => h) (Or.inl ⟨by rfl, ?_⟩) ?_ ?_
                  rotate_left
                  ·intro w'; go_simp; (with_reducible rfl)
                  rotate_left
                  ·simp only [Act.put, zA_, zB_, zC_, i64_w, i32_w]; rfl
                  refine take_ (i := 4) (N := some 37) (v := ?_) (a' := ?_) giroref35_Greedy.zb30 rfl rfl (take_ofW HT_.out HW_.out (by kernel_rfl)) (fun _ _ _ h => h) (Or.inl ⟨by rfl, ?_⟩) hHeld ?_ ?_
                  rotate_left
                  ·rintro w' ⟨s0, s1, s2, s3, s4, s5, s6, s7, s8, s9, s10, s11, s12, s13, s14, s15, s16, s17, s18, s19, s20, s21⟩
                   go_simp; (with_reducible rfl)
                  rotate_left
                  ·simp only [Act.put, zA_, zB_, zC_, i64_w, i32_w]; rfl
                  refine pure_ (i := 6) (N := some 39) (v := ?_) (a' := ?_) giroref35_Greedy.zb31 rfl rfl (any_of HT_.out (by kernel_rfl)) (fun _ _ _ h => h) (Or.inl ⟨by rfl, ?_⟩) ?_ ?_
                  rotate_left
                  ·intro w'; go_simp; (with_reducible rfl)
                  rotate_left
                  ·simp only [Act.put, zA_, zB_, zC_, i64_w, i32_w]; rfl
                  refine pure_ (i := 7) (N := some 40) (v := ?_) (a' := ?_) giroref35_Greedy.zb32 rfl rfl (any_of HT_.out (by kernel_rfl)) (fun _ _ _ h => h) (Or.inl ⟨by rfl, ?_⟩) ?_ ?_
                  rotate_left
                  ·intro w'; go_simp; (with_reducible rfl)
                  rotate_left
                  ·simp only [Act.put, zA_, zB_, zC_, i64_w, i32_w]; rfl
                  refine take_ (i := 8) (N := some 41) (v := ?_) (a' := ?_) giroref35_Greedy.zb33 rfl rfl (take_ofW HT_.out HW_.out (by kernel_rfl)) (fun _ _ _ h => h) (Or.inl ⟨by rfl, ?_⟩) hHeld ?_ ?_
                  rotate_left
                  ·rintro w' ⟨s0, s1, s2, s3, s4, s5, s6, s7, s8, s9, s10, s11, s12, s13, s14, s15, s16, s17, s18, s19, s20, s21⟩
                   go_simp; (with_reducible rfl)
                  rotate_left
                  ·simp only [Act.put, zA_, zB_, zC_, i64_w, i32_w]; rfl
                  refine take_ (i := 10) (N := some 43) (v := ?_) (a' := ?_) giroref35_Greedy.zb5 rfl rfl (take_ofW HT_.out HW_.out (by kernel_rfl)) (fun _ _ _ h => h) (Or.inl ⟨by rfl, ?_⟩) hHeld ?_ ?_
                  rotate_left
                  ·rintro w' ⟨s0, s1, s2, s3, s4, s5, s6, s7, s8, s9, s10, s11, s12, s13, s14, s15, s16, s17, s18, s19, s20, s21⟩
                   go_simp; (with_reducible rfl)
                  rotate_left
                  ·simp only [Act.put, zA_, zB_, zC_, i64_w, i32_w]; rfl
                  refine pure_ (i := 12) (N := some 45) (v := ?_) (a' := ?_) giroref35_Greedy.zb6 rfl rfl (any_of HT_.out (by kernel_rfl)) (fun _ _ _ h => h) (Or.inl ⟨by rfl, ?_⟩) ?_ ?_
                  rotate_left
                  ·intro w'; go_simp; (with_reducible rfl)
                  rotate_left
                  ·simp only [Act.put, zA_, zB_, zC_, i64_w, i32_w]; rfl
                  refine pure_ (i := 13) (N := some 46) (v := ?_) (a' := ?_) giroref35_Greedy.zb7 rfl rfl (any_of HT_.out (by kernel_rfl)) (fun _ _ _ h => h) (Or.inl ⟨by rfl, ?_⟩) ?_ ?_
                  rotate_left
                  ·intro w'; go_simp; (with_reducible rfl)
                  rotate_left
                  ·simp only [Act.put, zA_, zB_, zC_, i64_w, i32_w]; rfl
                  refine take_ (i := 14) (N := some 47) (v := ?_) (a' := ?_) giroref35_Greedy.zb8 rfl rfl (take_ofW HT_.out HW_.out (by kernel_rfl)) (fun _ _ _ h => h) (Or.inl ⟨by rfl, ?_⟩) hHeld ?_ ?_
                  rotate_left
                  ·rintro w' ⟨s0, s1, s2, s3, s4, s5, s6, s7, s8, s9, s10, s11, s12, s13, s14, s15, s16, s17, s18, s19, s20, s21⟩
                   go_simp; (with_reducible rfl)
                  rotate_left
                  ·simp only [Act.put, zA_, zB_, zC_, i64_w, i32_w]; rfl
                  refine pure_ (i := 15) (N := some 48) (v := ?_) (a' := ?_) giroref35_Greedy.zb9 rfl rfl (any_of HT_.out (by kernel_rfl)) (fun _ _ _ h => h) (Or.inl ⟨by rfl, ?_⟩) ?_ ?_
                  rotate_left
                  ·intro w'; go_simp; (with_reducible rfl)
                  rotate_left
                  ·simp only [Act.put, zA_, zB_, zC_, i64_w, i32_w]; rfl
                  refine pure_ (i := 16) (N := some 49) (v := ?_) (a' := ?_) giroref35_Greedy.zb10 rfl rfl (any_of HT_.out (by kernel_rfl)) (fun _ _ _ h => h) (Or.inl ⟨by rfl, ?_⟩) ?_ ?_
                  rotate_left
                  ·intro w'; go_simp; (with_reducible rfl)
                  rotate_left
                  ·simp only [Act.put, zA_, zB_, zC_, i64_w, i32_w]; rfl
                  refine pure_ (i := 17) (N := some 50) (v := ?_) (a' := ?_) giroref35_Greedy.zb11 rfl rfl (any_of HT_.out (by kernel_rfl)) (fun _ _ _ h => h) (Or.inl ⟨by rfl, ?_⟩) ?_ ?_
                  rotate_left
                  ·intro w'; go_simp; (with_reducible rfl)
                  rotate_left
                  ·simp only [Act.put, zA_, zB_, zC_, i64_w, i32_w]; rfl
                  refine pure_ (i := 18) (N := some 51) (v := ?_) (a' := ?_) giroref35_Greedy.zb12 rfl rfl (any_of HT_.out (by kernel_rfl)) (fun _ _ _ h => h) (Or.inl ⟨by rfl, ?_⟩) ?_ ?_
                  rotate_left
                  ·intro w'; go_simp; (with_reducible rfl)
                  rotate_left
                  ·simp only [Act.put, zA_, zB_, zC_, i64_w, i32_w]; rfl
                  refine pure_ (i := 20) (N := some 53) (v := ?_) (a' := ?_) giroref35_Greedy.zb41 rfl rfl (any_of HT_.out (by kernel_rfl)) (fun _ _ _ h => h) (Or.inl ⟨by rfl, ?_⟩) ?_ ?_
                  rotate_left
                  ·intro w'; go_simp; (with_reducible rfl)
                  rotate_left
                  ·simp only [Act.put, zA_, zB_, zC_, i64_w, i32_w]; rfl
                  refine pure_ (i := 24) (N := some 57) (v := ?_) (a' := ?_) giroref35_Greedy.zb42 rfl rfl (any_of HT_.out (by kernel_rfl)) (fun _ _ _ h => h) (Or.inl ⟨by rfl, ?_⟩) ?_ ?_
                  rotate_left
                  ·intro w'; go_simp; (with_reducible rfl)
                  rotate_left
                  ·simp only [Act.put, zA_, zB_, zC_, i64_w, i32_w]; rfl
                  refine pure_ (i := 26) (N := some 59) (v := ?_) (a' := ?_) giroref35_Greedy.zb43 rfl rfl (any_of HT_.out (by kernel_rfl)) (fun _ _ _ h => h) (Or.inl ⟨by rfl, ?_⟩) ?_ ?_
                  rotate_left
                  ·intro w'; go_simp; (with_reducible rfl)
                  rotate_left
                  ·simp only [Act.put, zA_, zB_, zC_, i64_w, i32_w]; rfl
                  refine take_ (i := 19) (N := some 52) (v := ?_) (a' := ?_) giroref35_Greedy.zb44 rfl rfl (take_ofW HT_.out HW_.out (by kernel_rfl)) (fun _ _ _ h => h) (Or.inl ⟨by rfl, ?_⟩) hHeld ?_ ?_
                  rotate_left
                  ·rintro w' ⟨s0, s1, s2, s3, s4, s5, s6, s7, s8, s9, s10, s11, s12, s13, s14, s15, s16, s17, s18, s19, s20, s21⟩
                   go_simp; (with_reducible rfl)
                  rotate_left
                  ·simp only [Act.put, zA_, zB_, zC_, i64_w, i32_w]; rfl
                  refine pure_ (i := 21) (N := some 54) (v := ?_) (a' := ?_) giroref35_Greedy.zb45 rfl rfl (any_of HT_.out (by kernel_rfl)) (fun _ _ _ h => h) (Or.inl ⟨by rfl, ?_⟩) ?_ ?_
                  rotate_left
                  ·intro w'; go_simp; (with_reducible rfl)
                  rotate_left
                  ·simp only [Act.put, zA_, zB_, zC_, i64_w, i32_w]; rfl
                  refine pure_ (i := 22) (N := some 55) (v := ?_) (a' := ?_) giroref35_Greedy.zb46 rfl rfl (any_of HT_.out (by kernel_rfl)) (fun _ _ _ h => h) (Or.inl ⟨by rfl, ?_⟩) ?_ ?_
                  rotate_left
                  ·intro w'; go_simp; (with_reducible rfl)
                  rotate_left
                  ·simp only [Act.put, zA_, zB_, zC_, i64_w, i32_w]; rfl
                  refine take_ (i := 23) (N := some 56) (v := ?_) (a' := ?_) giroref35_Greedy.zb47 rfl rfl (take_ofW HT_.out HW_.out (by kernel_rfl)) (fun _ _ _ h => h) (Or.inl ⟨by rfl, ?_⟩) hHeld ?_ ?_
                  rotate_left
                  ·rintro w' ⟨s0, s1, s2, s3, s4, s5, s6, s7, s8, s9, s10, s11, s12, s13, s14, s15, s16, s17, s18, s19, s20, s21⟩
                   go_simp; (with_reducible rfl)
                  rotate_left
                  ·simp only [Act.put, zA_, zB_, zC_, i64_w, i32_w]; rfl
                  refine take_ (i := 25) (N := some 58) (v := ?_) (a' := ?_) giroref35_Greedy.zb13 rfl rfl (take_ofW HT_.out HW_.out (by kernel_rfl)) (fun _ _ _ h => h) (Or.inl ⟨by rfl, ?_⟩) hHeld ?_ ?_
                  rotate_left
                  ·rintro w' ⟨s0, s1, s2, s3, s4, s5, s6, s7, s8, s9, s10, s11, s12, s13, s14, s15, s16, s17, s18, s19, s20, s21⟩
                   go_simp; (with_reducible rfl)
                  rotate_left
                  ·simp only [Act.put, zA_, zB_, zC_, i64_w, i32_w]; rfl
                  refine pure_ (i := 27) (N := some 60) (v := ?_) (a' := ?_) giroref35_Greedy.zb14 rfl rfl (any_of HT_.out (by kernel_rfl)) (fun _ _ _ h => h) (Or.inl ⟨by rfl, ?_⟩) ?_ ?_
                  rotate_left
                  ·intro w'; go_simp; (with_reducible rfl)
                  rotate_left
                  ·simp only [Act.put, zA_, zB_, zC_, i64_w, i32_w]; rfl
                  refine pure_ (i := 28) (N := some 61) (v := ?_) (a' := ?_) giroref35_Greedy.zb15 rfl rfl (any_of HT_.out (by kernel_rfl)) (fun _ _ _ h => h) (Or.inl ⟨by rfl, ?_⟩) ?_ ?_
                  rotate_left
                  ·intro w'; go_simp; (with_reducible rfl)
                  rotate_left
                  ·simp only [Act.put, zA_, zB_, zC_, i64_w, i32_w]; rfl
                  refine take_ (i := 29) (N := some 62) (v := ?_) (a' := ?_) giroref35_Greedy.zb16 rfl rfl (take_ofW HT_.out HW_.out (by kernel_rfl)) (fun _ _ _ h => h) (Or.inl ⟨by rfl, ?_⟩) hHeld ?_ ?_
                  rotate_left
                  ·rintro w' ⟨s0, s1, s2, s3, s4, s5, s6, s7, s8, s9, s10, s11, s12, s13, s14, s15, s16, s17, s18, s19, s20, s21⟩
                   go_simp; (with_reducible rfl)
                  rotate_left
                  ·simp only [Act.put, zA_, zB_, zC_, i64_w, i32_w]; rfl
                  refine pure_ (i := 30) (N := some 63) (v := ?_) (a' := ?_) giroref35_Greedy.zb17 rfl rfl (any_of HT_.out (by kernel_rfl)) (fun _ _ _ h => h) (Or.inl ⟨by rfl, ?_⟩) ?_ ?_
                  rotate_left
                  ·intro w'; go_simp; (with_reducible rfl)
                  rotate_left
                  ·simp only [Act.put, zA_, zB_, zC_, i64_w, i32_w]; rfl
                  refine pure_ (i := 31) (N := some 64) (v := ?_) (a' := ?_) giroref35_Greedy.zb18 rfl rfl (any_of HT_.out (by kernel_rfl)) (fun _ _ _ h => h) (Or.inl ⟨by rfl, ?_⟩) ?_ ?_
                  rotate_left
                  ·intro w'; go_simp; (with_reducible rfl)
                  rotate_left
                  ·simp only [Act.put, zA_, zB_, zC_, i64_w, i32_w]; rfl
                  refine pure_ (i := 32) (N := some 65) (v := ?_) (a' := ?_) giroref35_Greedy.zb19 rfl rfl (any_of HT_.out (by kernel_rfl)) (fun _ _ _ h => h) (Or.inl ⟨by rfl, ?_⟩) ?_ ?_
                  rotate_left
                  ·intro w'; go_simp; (with_reducible rfl)
                  rotate_left
                  ·simp only [Act.put, zA_, zB_, zC_, i64_w, i32_w]; rfl
                  refine pure_ (i := 34) (N := some 67) (v := ?_) (a' := ?_) giroref35_Greedy.zb55 rfl rfl (any_of HT_.out (by kernel_rfl)) (fun _ _ _ h => h) (Or.inl ⟨by rfl, ?_⟩) ?_ ?_
                  rotate_left
                  ·intro w'; go_simp; (with_reducible rfl)
                  rotate_left
                  ·simp only [Act.put, zA_, zB_, zC_, i64_w, i32_w]; rfl
                  refine pure_ (i := 38) (N := some 71) (v := ?_) (a' := ?_) giroref35_Greedy.zb56 rfl rfl (any_of HT_.out (by kernel_rfl)) (fun _ _ _ h => h) (Or.inl ⟨by rfl, ?_⟩) ?_ ?_
                  rotate_left
                  ·intro w'; go_simp; (with_reducible rfl)
                  rotate_left
                  ·simp only [Act.put, zA_, zB_, zC_, i64_w, i32_w]; rfl
                  refine pure_ (i := 40) (N := some 73) (v := ?_) (a' := ?_) giroref35_Greedy.zb57 rfl rfl (any_of HT_.out (by kernel_rfl)) (fun _ _ _ h => h) (Or.inl ⟨by rfl, ?_⟩) ?_ ?_
                  rotate_left
                  ·intro w'; go_simp; (with_reducible rfl)
                  rotate_left
                  ·simp only [Act.put, zA_, zB_, zC_, i64_w, i32_w]; rfl
                  refine take_ (i := 33) (N := some 66) (v := ?_) (a' := ?_) giroref35_Greedy.zb58 rfl rfl (take_ofW HT_.out HW_.out (by kernel_rfl)) (fun _ _ _ h => h) (Or.inl ⟨by rfl, ?_⟩) hHeld ?_ ?_
                  rotate_left
                  ·rintro w' ⟨s0, s1, s2, s3, s4, s5, s6, s7, s8, s9, s10, s11, s12, s13, s14, s15, s16, s17, s18, s19, s20, s21⟩
                   go_simp; (with_reducible rfl)
                  rotate_left
                  ·simp only [Act.put, zA_, zB_, zC_, i64_w, i32_w]; rfl
                  refine pure_ (i := 35) (N := some 68) (v := ?_) (a' := ?_) giroref35_Greedy.zb59 rfl rfl (any_of HT_.out (by kernel_rfl)) (fun _ _ _ h => h) (Or.inl ⟨by rfl, ?_⟩) ?_ ?_
                  rotate_left
                  ·intro w'; go_simp; (with_reducible rfl)
                  rotate_left
                  ·simp only [Act.put, zA_, zB_, zC_, i64_w, i32_w]; rfl
                  refine pure_ (i := 36) (N := some 69) (v := ?_) (a' := ?_) giroref35_Greedy.zb60 rfl rfl (any_of HT_.out (by kernel_rfl)) (fun _ _ _ h => h) (Or.inl ⟨by rfl, ?_⟩) ?_ ?_
                  rotate_left
                  ·intro w'; go_simp; (with_reducible rfl)
                  rotate_left
                  ·simp only [Act.put, zA_, zB_, zC_, i64_w, i32_w]; rfl
                  refine take_ (i := 37) (N := some 70) (v := ?_) (a' := ?_) giroref35_Greedy.zb61 rfl rfl (take_ofW HT_.out HW_.out (by kernel_rfl)) (fun _ _ _ h => h) (Or.inl ⟨by rfl, ?_⟩) hHeld ?_ ?_
                  rotate_left
                  ·rintro w' ⟨s0, s1, s2, s3, s4, s5, s6, s7, s8, s9, s10, s11, s12, s13, s14, s15, s16, s17, s18, s19, s20, s21⟩
                   go_simp; (with_reducible rfl)
                  rotate_left
                  ·simp only [Act.put, zA_, zB_, zC_, i64_w, i32_w]; rfl
                  refine take_ (i := 39) (N := some 72) (v := ?_) (a' := ?_) giroref35_Greedy.zb20 rfl rfl (take_ofW HT_.out HW_.out (by kernel_rfl)) (fun _ _ _ h => h) (Or.inl ⟨by rfl, ?_⟩) hHeld ?_ ?_
                  rotate_left
                  ·rintro w' ⟨s0, s1, s2, s3, s4, s5, s6, s7, s8, s9, s10, s11, s12, s13, s14, s15, s16, s17, s18, s19, s20, s21⟩
                   go_simp; (with_reducible rfl)
                  rotate_left
                  ·simp only [Act.put, zA_, zB_, zC_, i64_w, i32_w]; rfl
                  refine pure_ (i := 41) (N := some 74) (v := ?_) (a' := ?_) giroref35_Greedy.zb21 rfl rfl (any_of HT_.out (by kernel_rfl)) (fun _ _ _ h => h) (Or.inl ⟨by rfl, ?_⟩) ?_ ?_
                  rotate_left
                  ·intro w'; go_simp; (with_reducible rfl)
                  rotate_left
                  ·simp only [Act.put, zA_, zB_, zC_, i64_w, i32_w]; rfl
                  refine pure_ (i := 42) (N := some 75) (v := ?_) (a' := ?_) giroref35_Greedy.zb22 rfl rfl (any_of HT_.out (by kernel_rfl)) (fun _ _ _ h => h) (Or.inl ⟨by rfl, ?_⟩) ?_ ?_
                  rotate_left
                  ·intro w'; go_simp; (with_reducible rfl)
                  rotate_left
                  ·simp only [Act.put, zA_, zB_, zC_, i64_w, i32_w]; rfl
                  refine take_ (i := 43) (N := some 76) (v := ?_) (a' := ?_) giroref35_Greedy.zb23 rfl rfl (take_ofW HT_.out HW_.out (by kernel_rfl)) (fun _ _ _ h => h) (Or.inl ⟨by rfl, ?_⟩) hHeld ?_ ?_
                  rotate_left
                  ·rintro w' ⟨s0, s1, s2, s3, s4, s5, s6, s7, s8, s9, s10, s11, s12, s13, s14, s15, s16, s17, s18, s19, s20, s21⟩
                   go_simp; (with_reducible rfl)
                  rotate_left
                  ·simp only [Act.put, zA_, zB_, zC_, i64_w, i32_w]; rfl
                  refine pure_ (i := 44) (N := some 77) (v := ?_) (a' := ?_) giroref35_Greedy.zb24 rfl rfl (any_of HT_.out (by kernel_rfl)) (fun _ _ _ h => h) (Or.inl ⟨by rfl, ?_⟩) ?_ ?_
                  rotate_left
                  ·intro w'; go_simp; (with_reducible rfl)
                  rotate_left
                  ·simp only [Act.put, zA_, zB_, zC_, i64_w, i32_w]; rfl
                  refine pure_ (i := 45) (N := some 78) (v := ?_) (a' := ?_) giroref35_Greedy.zb25 rfl rfl (any_of HT_.out (by kernel_rfl)) (fun _ _ _ h => h) (Or.inl ⟨by rfl, ?_⟩) ?_ ?_
                  rotate_left
                  ·intro w'; go_simp; (with_reducible rfl)
                  rotate_left
                  ·simp only [Act.put, zA_, zB_, zC_, i64_w, i32_w]; rfl
                  refine pure_ (i := 46) (N := some 79) (v := ?_) (a' := ?_) giroref35_Greedy.zb26 rfl rfl (any_of HT_.out (by kernel_rfl)) (fun _ _ _ h => h) (Or.inl ⟨by rfl, ?_⟩) ?_ ?_
                  rotate_left
                  ·intro w'; go_simp; (with_reducible rfl)
                  rotate_left
                  ·simp only [Act.put, zA_, zB_, zC_, i64_w, i32_w]; rfl
                  refine done_ (done_of HT_.out (by kernel_rfl)) ?_
                  try go_wp2
                  go_roundg k2
                  case measure => have := HK1.out; have := HK2.out; omega
                  case rel => exact ⟨(x6_2), (wrap64 (x7_2 + 1)), (by first | rfl | (simp; done) | (simp [*]; done)), (by first | rfl | (simp; done) | (simp [*]; done)), H', ⟨by have := HK1.out; have := HK2.out; omega⟩, ⟨by (with_reducible repeat (first | apply Kd.R_alloc | apply Kd.R_drewN | apply Kd.R_drew)); exact HO_5.out⟩, ⟨by (with_reducible repeat (first | apply Kd.R_alloc | apply Kd.R_drewN | apply Kd.R_drew)); exact HO_219000.out⟩, ⟨by (with_reducible repeat (first | apply Kd.R_alloc | apply Kd.R_drewN | apply Kd.R_drew)); exact HO_219001.out⟩, ⟨by (with_reducible repeat (first | refine bw8 ?_ _ | refine bw9 ?_ | refine bw6 ?_ _)); exact BK212.out⟩, ⟨by (with_reducible repeat (first | refine bw8 ?_ _ | refine bw9 ?_ | refine bw6 ?_ _)); exact BK213.out⟩, ⟨by (with_reducible repeat (first | refine bw8 ?_ _ | refine bw9 ?_ | refine bw6 ?_ _)); exact BK218.out⟩, ⟨by repeat (first | (with_reducible first | exact HB.out | apply bw2 | apply bw1 | apply bw3 | refine bw4 ?_ GE212.out | refine bw4 ?_ GE213.out | refine bw4 ?_ GE218.out) | exact HB.out)⟩⟩
                ·rw [if_neg c52] at H
                 have c52b0 : (((rd_T109 l0_3 x7_2).f2) == ((rd_T109 l0_3 x6_2).f2)) = false := beq_eq_false_iff_ne.mpr c52
                 have c52b1 : (((rd_T109 l0_3 x7_2).f2) != ((rd_T109 l0_3 x6_2).f2)) = true := bne_iff_ne.mpr c52
                 have H' := Aside0.mk H
                 clear H
                 have hnb64 := NB212_213.out
                 have hnc64 := NB213_212.out
                 have hnb65 := NB212_218.out
                 have hnc65 := NB218_212.out
                 have hcz66_0 : wr.cell? ⟨gb212, 0, none⟩ = some (.int .i64 a0_0) := (bw5 BK212.out 0).trans rfl
                 have hcz66_1 : wr.cell? ⟨gb212, 1, none⟩ = some (.slice A0_1 l0_1.length c0_1) := (bw5 BK212.out 1).trans rfl
                 have hcz66_2 : wr.cell? ⟨gb212, 2, none⟩ = some (.slice A0_2 l0_2.length c0_2) := (bw5 BK212.out 2).trans rfl
                 have hcz66_3 : wr.cell? ⟨gb212, 3, none⟩ = some (.slice A0_3 l0_3.length c0_3) := (bw5 BK212.out 3).trans rfl
                 have hfz66_0 := bw7 BK212.out 0
                 have hfz66_1 := bw7 BK212.out 1
                 have hfz66_2 := bw7 BK212.out 2
                 have hfz66_3 := bw7 BK212.out 3
                 obtain ⟨Ao67, co67, eo67⟩ := Kd.R_slice HO_5.out
                 subst eo67
                 have p228 : 0 ≤ (x7_2 : Int) := of_decide_eq_true (by first | (with_reducible assumption) | assumption)
                 have q228 : x7_2 < (x5_1.length : Int) := of_decide_eq_true (by first | (with_reducible assumption) | assumption)
                 obtain ⟨ad228, e228, hx228_0⟩ := Kd.at_bool (Kd.R_reads' HO_5.out).2.2 x7_2 p228 q228
                 (try rw [← Nbq32.out] at hx228_0)
                 cases e228
                 replace p228 := eq_true p228
                 replace q228 := eq_true q228
                 try go_wp2
                 have n0_ := Aside0.mk (Kd.R_drew HO_5.out)
                 have n1_ := Aside0.mk (Kd.R_drew HO_219000.out)
                 have n2_ := Aside0.mk (Kd.R_drew HO_219001.out)
                 have n3_ := Aside0.mk (bw9 BK212.out)
                 have n4_ := Aside0.mk (bw9 BK213.out)
                 have n5_ := Aside0.mk (bw9 BK218.out)
                 have n6_ := Aside0.mk (bw3 HB.out)
                 clear HO_5; clear HO_219000; clear HO_219001; clear BK212; clear BK213; clear BK218; clear HB; have HO_5 := n0_; have HO_219000 := n1_; have HO_219001 := n2_; have BK212 := n3_; have BK213 := n4_; have BK218 := n5_; have HB := n6_; clear n0_ n1_ n2_ n3_ n4_ n5_ n6_
                 have p229 : 0 ≤ (x7_2 : Int) := of_decide_eq_true (by first | (with_reducible assumption) | assumption)
                 have q229 : x7_2 < (l0_3.length : Int) := of_decide_eq_true (by first | (with_reducible assumption) | assumption)
                 obtain ⟨ad229, e229, hx229_0, hx229_1, hx229_2⟩ := at_T109 HR0_3.out x7_2 p229 q229
                 have hw229_2 := hx229_2
                 have hw229_1 := hx229_1
                 have hw229_0 := hx229_0
                 cases e229
                 replace hx229_0 := (HB.out.cell (World.block_lt_of_cell? w _ hx229_0)).trans hx229_0
                 replace hx229_1 := (HB.out.cell (World.block_lt_of_cell? w _ hx229_1)).trans hx229_1
                 replace hx229_2 := (HB.out.cell (World.block_lt_of_cell? w _ hx229_2)).trans hx229_2
                 replace p229 := eq_true p229
                 replace q229 := eq_true q229
                 have p230 : 0 ≤ (x6_2 : Int) := of_decide_eq_true (by first | (with_reducible assumption) | assumption)
                 have q230 : x6_2 < (l0_3.length : Int) := of_decide_eq_true (by first | (with_reducible assumption) | assumption)
                 obtain ⟨ad230, e230, hx230_0, hx230_1, hx230_2⟩ := at_T109 HR0_3.out x6_2 p230 q230
                 have hw230_2 := hx230_2
                 have hw230_1 := hx230_1
                 have hw230_0 := hx230_0
                 obtain rfl : ad229 = ad230 := (by injection e230)
                 replace hx230_0 := (HB.out.cell (World.block_lt_of_cell? w _ hx230_0)).trans hx230_0
                 replace hx230_1 := (HB.out.cell (World.block_lt_of_cell? w _ hx230_1)).trans hx230_1
                 replace hx230_2 := (HB.out.cell (World.block_lt_of_cell? w _ hx230_2)).trans hx230_2
                 replace p230 := eq_true p230
                 replace q230 := eq_true q230
                 have p231 : 0 ≤ (x7_2 : Int) := of_decide_eq_true (by first | (with_reducible assumption) | assumption)
                 have q231 : x7_2 < (l0_3.length : Int) := of_decide_eq_true (by first | (with_reducible assumption) | assumption)
                 obtain ⟨ad231, e231, hx231_0, hx231_1, hx231_2⟩ := at_T109 HR0_3.out x7_2 p231 q231
                 have hw231_2 := hx231_2
                 have hw231_1 := hx231_1
                 have hw231_0 := hx231_0
                 obtain rfl : ad229 = ad231 := (by injection e231)
                 replace hx231_0 := (HB.out.cell (World.block_lt_of_cell? w _ hx231_0)).trans hx231_0
                 replace hx231_1 := (HB.out.cell (World.block_lt_of_cell? w _ hx231_1)).trans hx231_1
                 replace hx231_2 := (HB.out.cell (World.block_lt_of_cell? w _ hx231_2)).trans hx231_2
                 replace p231 := eq_true p231
                 replace q231 := eq_true q231
                 have p232 : 0 ≤ (x6_2 : Int) := of_decide_eq_true (by first | (with_reducible assumption) | assumption)
                 have q232 : x6_2 < (l0_3.length : Int) := of_decide_eq_true (by first | (with_reducible assumption) | assumption)
                 obtain ⟨ad232, e232, hx232_0, hx232_1, hx232_2⟩ := at_T109 HR0_3.out x6_2 p232 q232
                 have hw232_2 := hx232_2
                 have hw232_1 := hx232_1
                 have hw232_0 := hx232_0
                 obtain rfl : ad229 = ad232 := (by injection e232)
                 replace hx232_0 := (HB.out.cell (World.block_lt_of_cell? w _ hx232_0)).trans hx232_0
                 replace hx232_1 := (HB.out.cell (World.block_lt_of_cell? w _ hx232_1)).trans hx232_1
                 replace hx232_2 := (HB.out.cell (World.block_lt_of_cell? w _ hx232_2)).trans hx232_2
                 replace p232 := eq_true p232
                 replace q232 := eq_true q232
                 refine start_ (n := 47) (S := fun w' => w'.cell? ⟨gb212, 0, none⟩ = some (.int .i64 a0_0) ∧ w'.cell? ⟨gb212, 1, none⟩ = some (.slice A0_1 l0_1.length c0_1) ∧ w'.cell? ⟨gb212, 2, none⟩ = some (.slice A0_2 l0_2.length c0_2) ∧ w'.cell? ⟨gb212, 3, none⟩ = some (.slice (some ad229) l0_3.length c0_3) ∧ w'.cell? (ad229.add ((x7_2).toNat * 3)) = some (.string ((rd_T109 l0_3 x7_2).f0)) ∧ w'.cell? ⟨(ad229.add ((x7_2).toNat * 3)).block, (ad229.add ((x7_2).toNat * 3)).off + 1, none⟩ = some (.int .i64 ((rd_T109 l0_3 x7_2).f1)) ∧ w'.cell? ⟨(ad229.add ((x7_2).toNat * 3)).block, (ad229.add ((x7_2).toNat * 3)).off + 2, none⟩ = some (.int .i64 ((rd_T109 l0_3 x7_2).f2)) ∧ w'.cell? (ad229.add ((x6_2).toNat * 3)) = some (.string ((rd_T109 l0_3 x6_2).f0)) ∧ w'.cell? ⟨(ad229.add ((x6_2).toNat * 3)).block, (ad229.add ((x6_2).toNat * 3)).off + 1, none⟩ = some (.int .i64 ((rd_T109 l0_3 x6_2).f1)) ∧ w'.cell? ⟨(ad229.add ((x6_2).toNat * 3)).block, (ad229.add ((x6_2).toNat * 3)).off + 2, none⟩ = some (.int .i64 ((rd_T109 l0_3 x6_2).f2)) ∧ w'.cell? (ad229.add ((x7_2).toNat * 3)) = some (.string ((rd_T109 l0_3 x7_2).f0)) ∧ w'.cell? ⟨(ad229.add ((x7_2).toNat * 3)).block, (ad229.add ((x7_2).toNat * 3)).off + 1, none⟩ = some (.int .i64 ((rd_T109 l0_3 x7_2).f1)) ∧ w'.cell? ⟨(ad229.add ((x7_2).toNat * 3)).block, (ad229.add ((x7_2).toNat * 3)).off + 2, none⟩ = some (.int .i64 ((rd_T109 l0_3 x7_2).f2)) ∧ w'.cell? (ad229.add ((x6_2).toNat * 3)) = some (.string ((rd_T109 l0_3 x6_2).f0)) ∧ w'.cell? ⟨(ad229.add ((x6_2).toNat * 3)).block, (ad229.add ((x6_2).toNat * 3)).off + 1, none⟩ = some (.int .i64 ((rd_T109 l0_3 x6_2).f1)) ∧ w'.cell? ⟨(ad229.add ((x6_2).toNat * 3)).block, (ad229.add ((x6_2).toNat * 3)).off + 2, none⟩ = some (.int .i64 ((rd_T109 l0_3 x6_2).f2))) (ds := []) giroref35_Greedy.zb0 (by kernel_rfl) rfl rfl ⟨(bw5 BK212.out 0).trans rfl, (bw5 BK212.out 1).trans rfl, (bw5 BK212.out 2).trans rfl, (bw5 BK212.out 3).trans rfl, ((HB.out.cell (World.block_lt_of_cell? w _ hw229_0)).trans hw229_0), ((HB.out.cell (World.block_lt_of_cell? w _ hw229_1)).trans hw229_1), ((HB.out.cell (World.block_lt_of_cell? w _ hw229_2)).trans hw229_2), ((HB.out.cell (World.block_lt_of_cell? w _ hw230_0)).trans hw230_0), ((HB.out.cell (World.block_lt_of_cell? w _ hw230_1)).trans hw230_1), ((HB.out.cell (World.block_lt_of_cell? w _ hw230_2)).trans hw230_2), ((HB.out.cell (World.block_lt_of_cell? w _ hw231_0)).trans hw231_0), ((HB.out.cell (World.block_lt_of_cell? w _ hw231_1)).trans hw231_1), ((HB.out.cell (World.block_lt_of_cell? w _ hw231_2)).trans hw231_2), ((HB.out.cell (World.block_lt_of_cell? w _ hw232_0)).trans hw232_0), ((HB.out.cell (World.block_lt_of_cell? w _ hw232_1)).trans hw232_1), ((HB.out.cell (World.block_lt_of_cell? w _ hw232_2)).trans hw232_2)⟩ (fun hHeld => ?_); refine with_tabW giroref35_Greedy.tab9 giroref35_Greedy.bits9 (fun HT_ HW_ => ?_)
                 generalize wr.drew = w68 at HO_5 HO_219000 HO_219001 BK212 BK213 BK218 HB hx229_0 hx229_1 hx229_2 hx230_0 hx230_1 hx230_2 hx231_0 hx231_1 hx231_2 hx232_0 hx232_1 hx232_2 hHeld ⊢
                 refine pure_ (i := 0) (N := some 33) (v := ?_) (a' := ?_) giroref35_Greedy.zb1 rfl rfl (any_of HT_.out (by kernel_rfl)) (fun _ _ _ h => h) (Or.inl ⟨by rfl, ?_⟩) ?_ ?_
                 rotate_left
                 ·intro w'; go_simp; (with_reducible rfl)
                 rotate_left
                 ·simp only [Act.put, zA_, zB_, zC_, i64_w, i32_w]; rfl
                 refine pure_ (i := 1) (N := some 34) (v := ?_) (a' := ?_) giroref35_Greedy.zb2 rfl rfl (any_of HT_.out (by kernel_rfl)) (fun _ _ _ h => h) (Or.inl ⟨by rfl, ?_⟩) ?_ ?_
                 rotate_left
                 ·intro w'; go_simp; (with_reducible rfl)
                 rotate_left
                 ·simp only [Act.put, zA_, zB_, zC_, i64_w, i32_w]; rfl
                 refine pure_ (i := 2) (N := some 35) (v := ?_) (a' := ?_) giroref35_Greedy.zb3 rfl rfl (any_of HT_.out (by kernel_rfl)) (fun _ _ _ h => h) (Or.inl ⟨by rfl, ?_⟩) ?_ ?_
                 rotate_left
                 ·intro w'; go_simp; (with_reducible rfl)
                 rotate_left
                 ·simp only [Act.put, zA_, zB_, zC_, i64_w, i32_w]; rfl
                 refine pure_ (i := 3) (N := some 36) (v := ?_) (a' := ?_) giroref35_Greedy.zb4 rfl rfl (any_of HT_.out (by kernel_rfl)) (fun _ _ _ h => h) (Or.inl ⟨by rfl, ?_⟩) ?_ ?_
                 rotate_left
                 ·intro w'; go_simp; (with_reducible rfl)
                 rotate_left
                 ·simp only [Act.put, zA_, zB_, zC_, i64_w, i32_w]; rfl
                 refine pure_ (i := 5) (N := some 38) (v := ?_) (a' := ?_) giroref35_Greedy.zb27 rfl rfl (any_of HT_.out (by kernel_rfl)) (fun _ _ _ h => h) (Or.inl ⟨by rfl, ?_⟩) ?_ ?_
                 rotate_left
                 ·intro w'; go_simp; (with_reducible rfl)
                 rotate_left
                 ·simp only [Act.put, zA_, zB_, zC_, i64_w, i32_w]; rfl
                 refine pure_ (i := 9) (N := some 42) (v := ?_) (a' := ?_) giroref35_Greedy.zb28 rfl rfl (any_of HT_.out (by kernel_rfl)) (fun _ _ _ h => h) (Or.inl ⟨by rfl, ?_⟩) ?_ ?_
                 rotate_left
                 ·intro w'; go_simp; (with_reducible rfl)
                 rotate_left
                 ·simp only [Act.put, zA_, zB_, zC_, i64_w, i32_w]; rfl
                 refine pure_ (i := 11) (N := some 44) (v := ?_) (a' := ?_) giroref35_Greedy.zb29 rfl rfl (any_of HT_.out (by kernel_rfl)) (fun _ _ _ h => h) (Or.inl ⟨by rfl, ?_⟩) ?_ ?_
                 rotate_left
                 ·intro w'; go_simp; (with_reducible rfl)
                 rotate_left
                 ·simp only [Act.put, zA_, zB_, zC_, i64_w, i32_w]; rfl
                 refine take_ (i := 4) (N := some 37) (v := ?_) (a' := ?_) giroref35_Greedy.zb30 rfl rfl (take_ofW HT_.out HW_.out (by kernel_rfl)) (fun _ _ _ h => h) (Or.inl ⟨by rfl, ?_⟩) hHeld ?_ ?_
                 rotate_left
                 ·rintro w' ⟨s0, s1, s2, s3, s4, s5, s6, s7, s8, s9, s10, s11, s12, s13, s14, s15⟩
                  go_simp; (with_reducible rfl)
                 rotate_left
                 ·simp only [Act.put, zA_, zB_, zC_, i64_w, i32_w]; rfl
                 refine pure_ (i := 6) (N := some 39) (v := ?_) (a' := ?_) giroref35_Greedy.zb31 rfl rfl (any_of HT_.out (by kernel_rfl)) (fun _ _ _ h => h) (Or.inl ⟨by rfl, ?_⟩) ?_ ?_
                 rotate_left
                 ·intro w'; go_simp; (with_reducible rfl)
                 rotate_left
                 ·simp only [Act.put, zA_, zB_, zC_, i64_w, i32_w]; rfl
                 refine pure_ (i := 7) (N := some 40) (v := ?_) (a' := ?_) giroref35_Greedy.zb32 rfl rfl (any_of HT_.out (by kernel_rfl)) (fun _ _ _ h => h) (Or.inl ⟨by rfl, ?_⟩) ?_ ?_
                 rotate_left
                 ·intro w'; go_simp; (with_reducible rfl)
                 rotate_left
                 ·simp only [Act.put, zA_, zB_, zC_, i64_w, i32_w]; rfl
                 refine take_ (i := 8) (N := some 41) (v := ?_) (a' := ?_) giroref35_Greedy.zb33 rfl rfl (take_ofW HT_.out HW_.out (by kernel_rfl)) (fun _ _ _ h => h) (Or.inl ⟨by rfl, ?_⟩) hHeld ?_ ?_
                 rotate_left
                 ·rintro w' ⟨s0, s1, s2, s3, s4, s5, s6, s7, s8, s9, s10, s11, s12, s13, s14, s15⟩
                  go_simp; (with_reducible rfl)
                 rotate_left
                 ·simp only [Act.put, zA_, zB_, zC_, i64_w, i32_w]; rfl
                 refine take_ (i := 10) (N := some 43) (v := ?_) (a' := ?_) giroref35_Greedy.zb5 rfl rfl (take_ofW HT_.out HW_.out (by kernel_rfl)) (fun _ _ _ h => h) (Or.inl ⟨by rfl, ?_⟩) hHeld ?_ ?_
                 rotate_left
                 ·rintro w' ⟨s0, s1, s2, s3, s4, s5, s6, s7, s8, s9, s10, s11, s12, s13, s14, s15⟩
                  go_simp; (with_reducible rfl)
                 rotate_left
                 ·simp only [Act.put, zA_, zB_, zC_, i64_w, i32_w]; rfl
                 refine pure_ (i := 12) (N := some 45) (v := ?_) (a' := ?_) giroref35_Greedy.zb6 rfl rfl (any_of HT_.out (by kernel_rfl)) (fun _ _ _ h => h) (Or.inl ⟨by rfl, ?_⟩) ?_ ?_
                 rotate_left
                 ·intro w'; go_simp; (with_reducible rfl)
                 rotate_left
                 ·simp only [Act.put, zA_, zB_, zC_, i64_w, i32_w]; rfl
                 refine pure_ (i := 13) (N := some 46) (v := ?_) (a' := ?_) giroref35_Greedy.zb7 rfl rfl (any_of HT_.out (by kernel_rfl)) (fun _ _ _ h => h) (Or.inl ⟨by rfl, ?_⟩) ?_ ?_
                 rotate_left
                 ·intro w'; go_simp; (with_reducible rfl)
                 rotate_left
                 ·simp only [Act.put, zA_, zB_, zC_, i64_w, i32_w]; rfl
                 refine take_ (i := 14) (N := some 47) (v := ?_) (a' := ?_) giroref35_Greedy.zb8 rfl rfl (take_ofW HT_.out HW_.out (by kernel_rfl)) (fun _ _ _ h => h) (Or.inl ⟨by rfl, ?_⟩) hHeld ?_ ?_
                 rotate_left
                 ·rintro w' ⟨s0, s1, s2, s3, s4, s5, s6, s7, s8, s9, s10, s11, s12, s13, s14, s15⟩
                  go_simp; (with_reducible rfl)
                 rotate_left
                 ·simp only [Act.put, zA_, zB_, zC_, i64_w, i32_w]; rfl
                 refine pure_ (i := 15) (N := some 48) (v := ?_) (a' := ?_) giroref35_Greedy.zb9 rfl rfl (any_of HT_.out (by kernel_rfl)) (fun _ _ _ h => h) (Or.inl ⟨by rfl, ?_⟩) ?_ ?_
                 rotate_left
                 ·intro w'; go_simp; (with_reducible rfl)
                 rotate_left
                 ·simp only [Act.put, zA_, zB_, zC_, i64_w, i32_w]; rfl
                 refine pure_ (i := 16) (N := some 49) (v := ?_) (a' := ?_) giroref35_Greedy.zb10 rfl rfl (any_of HT_.out (by kernel_rfl)) (fun _ _ _ h => h) (Or.inl ⟨by rfl, ?_⟩) ?_ ?_
                 rotate_left
                 ·intro w'; go_simp; (with_reducible rfl)
                 rotate_left
                 ·simp only [Act.put, zA_, zB_, zC_, i64_w, i32_w]; rfl
                 refine pure_ (i := 17) (N := some 50) (v := ?_) (a' := ?_) giroref35_Greedy.zb11 rfl rfl (any_of HT_.out (by kernel_rfl)) (fun _ _ _ h => h) (Or.inl ⟨by rfl, ?_⟩) ?_ ?_
                 rotate_left
                 ·intro w'; go_simp; (with_reducible rfl)
                 rotate_left
                 ·simp only [Act.put, zA_, zB_, zC_, i64_w, i32_w]; rfl
                 refine pure_ (i := 18) (N := some 51) (v := ?_) (a' := ?_) giroref35_Greedy.zb12 rfl rfl (any_of HT_.out (by kernel_rfl)) (fun _ _ _ h => h) (Or.inl ⟨by rfl, ?_⟩) ?_ ?_
                 rotate_left
                 ·intro w'; go_simp; (with_reducible rfl)
                 rotate_left
                 ·simp only [Act.put, zA_, zB_, zC_, i64_w, i32_w]; rfl
                 refine pure_ (i := 20) (N := some 53) (v := ?_) (a' := ?_) giroref35_Greedy.zb41 rfl rfl (any_of HT_.out (by kernel_rfl)) (fun _ _ _ h => h) (Or.inl ⟨by rfl, ?_⟩) ?_ ?_
                 rotate_left
                 ·intro w'; go_simp; (with_reducible rfl)
                 rotate_left
                 ·simp only [Act.put, zA_, zB_, zC_, i64_w, i32_w]; rfl
                 refine pure_ (i := 24) (N := some 57) (v := ?_) (a' := ?_) giroref35_Greedy.zb42 rfl rfl (any_of HT_.out (by kernel_rfl)) (fun _ _ _ h => h) (Or.inl ⟨by rfl, ?_⟩) ?_ ?_
                 rotate_left
                 ·intro w'; go_simp; (with_reducible rfl)
                 rotate_left
                 ·simp only [Act.put, zA_, zB_, zC_, i64_w, i32_w]; rfl
                 refine pure_ (i := 26) (N := some 59) (v := ?_) (a' := ?_) giroref35_Greedy.zb43 rfl rfl (any_of HT_.out (by kernel_rfl)) (fun _ _ _ h => h) (Or.inl ⟨by rfl, ?_⟩) ?_ ?_
                 rotate_left
                 ·intro w'; go_simp; (with_reducible rfl)
                 rotate_left
                 ·simp only [Act.put, zA_, zB_, zC_, i64_w, i32_w]; rfl
                 refine take_ (i := 19) (N := some 52) (v := ?_) (a' := ?_) giroref35_Greedy.zb44 rfl rfl (take_ofW HT_.out HW_.out (by kernel_rfl)) (fun _ _ _ h => h) (Or.inl ⟨by rfl, ?_⟩) hHeld ?_ ?_
                 rotate_left
                 ·rintro w' ⟨s0, s1, s2, s3, s4, s5, s6, s7, s8, s9, s10, s11, s12, s13, s14, s15⟩
                  go_simp; (with_reducible rfl)
                 rotate_left
                 ·simp only [Act.put, zA_, zB_, zC_, i64_w, i32_w]; rfl
                 refine pure_ (i := 21) (N := some 54) (v := ?_) (a' := ?_) giroref35_Greedy.zb45 rfl rfl (any_of HT_.out (by kernel_rfl)) (fun _ _ _ h => h) (Or.inl ⟨by rfl, ?_⟩) ?_ ?_
                 rotate_left
                 ·intro w'; go_simp; (with_reducible rfl)
                 rotate_left
                 ·simp only [Act.put, zA_, zB_, zC_, i64_w, i32_w]; rfl
                 refine pure_ (i := 22) (N := some 55) (v := ?_) (a' := ?_) giroref35_Greedy.zb46 rfl rfl (any_of HT_.out (by kernel_rfl)) (fun _ _ _ h => h) (Or.inl ⟨by rfl, ?_⟩) ?_ ?_
                 rotate_left
                 ·intro w'; go_simp; (with_reducible rfl)
                 rotate_left
                 ·simp only [Act.put, zA_, zB_, zC_, i64_w, i32_w]; rfl
                 refine take_ (i := 23) (N := some 56) (v := ?_) (a' := ?_) giroref35_Greedy.zb47 rfl rfl (take_ofW HT_.out HW_.out (by kernel_rfl)) (fun _ _ _ h => h) (Or.inl ⟨by rfl, ?_⟩) hHeld ?_ ?_
                 rotate_left
                 ·rintro w' ⟨s0, s1, s2, s3, s4, s5, s6, s7, s8, s9, s10, s11, s12, s13, s14, s15⟩
                  go_simp; (with_reducible rfl)
                 rotate_left
                 ·simp only [Act.put, zA_, zB_, zC_, i64_w, i32_w]; rfl
                 refine take_ (i := 25) (N := some 58) (v := ?_) (a' := ?_) giroref35_Greedy.zb13 rfl rfl (take_ofW HT_.out HW_.out (by kernel_rfl)) (fun _ _ _ h => h) (Or.inl ⟨by rfl, ?_⟩) hHeld ?_ ?_
                 rotate_left
                 ·rintro w' ⟨s0, s1, s2, s3, s4, s5, s6, s7, s8, s9, s10, s11, s12, s13, s14, s15⟩
                  go_simp; (with_reducible rfl)
                 rotate_left
                 ·simp only [Act.put, zA_, zB_, zC_, i64_w, i32_w]; rfl
                 refine pure_ (i := 27) (N := some 60) (v := ?_) (a' := ?_) giroref35_Greedy.zb14 rfl rfl (any_of HT_.out (by kernel_rfl)) (fun _ _ _ h => h) (Or.inl ⟨by rfl, ?_⟩) ?_ ?_
                 rotate_left
                 ·intro w'; go_simp; (with_reducible rfl)
                 rotate_left
                 ·simp only [Act.put, zA_, zB_, zC_, i64_w, i32_w]; rfl
                 refine pure_ (i := 28) (N := some 61) (v := ?_) (a' := ?_) giroref35_Greedy.zb15 rfl rfl (any_of HT_.out (by kernel_rfl)) (fun _ _ _ h => h) (Or.inl ⟨by rfl, ?_⟩) ?_ ?_
                 rotate_left
                 ·intro w'; go_simp; (with_reducible rfl)
                 rotate_left
                 ·simp only [Act.put, zA_, zB_, zC_, i64_w, i32_w]; rfl
                 refine take_ (i := 29) (N := some 62) (v := ?_) (a' := ?_) giroref35_Greedy.zb16 rfl rfl (take_ofW HT_.out HW_.out (by kernel_rfl)) (fun _ _ _ h => h) (Or.inl ⟨by rfl, ?_⟩) hHeld ?_ ?_
                 rotate_left
                 ·rintro w' ⟨s0, s1, s2, s3, s4, s5, s6, s7, s8, s9, s10, s11, s12, s13, s14, s15⟩
                  go_simp; (with_reducible rfl)
                 rotate_left
                 ·simp only [Act.put, zA_, zB_, zC_, i64_w, i32_w]; rfl
                 refine pure_ (i := 30) (N := some 63) (v := ?_) (a' := ?_) giroref35_Greedy.zb17 rfl rfl (any_of HT_.out (by kernel_rfl)) (fun _ _ _ h => h) (Or.inl ⟨by rfl, ?_⟩) ?_ ?_
                 rotate_left
                 ·intro w'; go_simp; (with_reducible rfl)
                 rotate_left
                 ·simp only [Act.put, zA_, zB_, zC_, i64_w, i32_w]; rfl
                 refine pure_ (i := 31) (N := some 64) (v := ?_) (a' := ?_) giroref35_Greedy.zb18 rfl rfl (any_of HT_.out (by kernel_rfl)) (fun _ _ _ h => h) (Or.inl ⟨by rfl, ?_⟩) ?_ ?_
                 rotate_left
                 ·intro w'; go_simp; (with_reducible rfl)
                 rotate_left
                 ·simp only [Act.put, zA_, zB_, zC_, i64_w, i32_w]; rfl
                 refine pure_ (i := 32) (N := some 65) (v := undef) (a' := ?_) giroref35_Greedy.zb19 rfl rfl (any_of HT_.out (by kernel_rfl)) (fun _ _ _ h => h) (Or.inr ⟨by rfl, rfl⟩) ?_ ?_
                 rotate_left
                 ·simp only [Act.put, zA_, zB_, zC_, i64_w, i32_w]; rfl
                 refine pure_ (i := 33) (N := some 66) (v := undef) (a' := ?_) giroref35_Greedy.zb34 rfl rfl (any_of HT_.out (by kernel_rfl)) (fun _ _ _ h => h) (Or.inr ⟨by rfl, rfl⟩) ?_ ?_
                 rotate_left
                 ·simp only [Act.put, zA_, zB_, zC_, i64_w, i32_w]; rfl
                 refine pure_ (i := 34) (N := some 67) (v := undef) (a' := ?_) giroref35_Greedy.zb35 rfl rfl (any_of HT_.out (by kernel_rfl)) (fun _ _ _ h => h) (Or.inr ⟨by rfl, rfl⟩) ?_ ?_
                 rotate_left
                 ·simp only [Act.put, zA_, zB_, zC_, i64_w, i32_w]; rfl
                 refine pure_ (i := 35) (N := some 68) (v := undef) (a' := ?_) giroref35_Greedy.zb36 rfl rfl (any_of HT_.out (by kernel_rfl)) (fun _ _ _ h => h) (Or.inr ⟨by rfl, rfl⟩) ?_ ?_
                 rotate_left
                 ·simp only [Act.put, zA_, zB_, zC_, i64_w, i32_w]; rfl
                 refine pure_ (i := 36) (N := some 69) (v := undef) (a' := ?_) giroref35_Greedy.zb37 rfl rfl (any_of HT_.out (by kernel_rfl)) (fun _ _ _ h => h) (Or.inr ⟨by rfl, rfl⟩) ?_ ?_
                 rotate_left
                 ·simp only [Act.put, zA_, zB_, zC_, i64_w, i32_w]; rfl
                 refine pure_ (i := 37) (N := some 70) (v := undef) (a' := ?_) giroref35_Greedy.zb38 rfl rfl (any_of HT_.out (by kernel_rfl)) (fun _ _ _ h => h) (Or.inr ⟨by rfl, rfl⟩) ?_ ?_
                 rotate_left
                 ·simp only [Act.put, zA_, zB_, zC_, i64_w, i32_w]; rfl
                 refine pure_ (i := 38) (N := some 71) (v := undef) (a' := ?_) giroref35_Greedy.zb39 rfl rfl (any_of HT_.out (by kernel_rfl)) (fun _ _ _ h => h) (Or.inr ⟨by rfl, rfl⟩) ?_ ?_
                 rotate_left
                 ·simp only [Act.put, zA_, zB_, zC_, i64_w, i32_w]; rfl
                 refine pure_ (i := 39) (N := some 72) (v := undef) (a' := ?_) giroref35_Greedy.zb40 rfl rfl (any_of HT_.out (by kernel_rfl)) (fun _ _ _ h => h) (Or.inr ⟨by rfl, rfl⟩) ?_ ?_
                 rotate_left
                 ·simp only [Act.put, zA_, zB_, zC_, i64_w, i32_w]; rfl
                 refine pure_ (i := 40) (N := some 73) (v := undef) (a' := ?_) giroref35_Greedy.zb20 rfl rfl (any_of HT_.out (by kernel_rfl)) (fun _ _ _ h => h) (Or.inr ⟨by rfl, rfl⟩) ?_ ?_
                 rotate_left
                 ·simp only [Act.put, zA_, zB_, zC_, i64_w, i32_w]; rfl
                 refine pure_ (i := 41) (N := some 74) (v := undef) (a' := ?_) giroref35_Greedy.zb21 rfl rfl (any_of HT_.out (by kernel_rfl)) (fun _ _ _ h => h) (Or.inr ⟨by rfl, rfl⟩) ?_ ?_
                 rotate_left
                 ·simp only [Act.put, zA_, zB_, zC_, i64_w, i32_w]; rfl
                 refine pure_ (i := 42) (N := some 75) (v := undef) (a' := ?_) giroref35_Greedy.zb22 rfl rfl (any_of HT_.out (by kernel_rfl)) (fun _ _ _ h => h) (Or.inr ⟨by rfl, rfl⟩) ?_ ?_
                 rotate_left
                 ·simp only [Act.put, zA_, zB_, zC_, i64_w, i32_w]; rfl
                 refine pure_ (i := 43) (N := some 76) (v := undef) (a' := ?_) giroref35_Greedy.zb23 rfl rfl (any_of HT_.out (by kernel_rfl)) (fun _ _ _ h => h) (Or.inr ⟨by rfl, rfl⟩) ?_ ?_
                 rotate_left
                 ·simp only [Act.put, zA_, zB_, zC_, i64_w, i32_w]; rfl
                 refine pure_ (i := 44) (N := some 77) (v := undef) (a' := ?_) giroref35_Greedy.zb24 rfl rfl (any_of HT_.out (by kernel_rfl)) (fun _ _ _ h => h) (Or.inr ⟨by rfl, rfl⟩) ?_ ?_
                 rotate_left
                 ·simp only [Act.put, zA_, zB_, zC_, i64_w, i32_w]; rfl
                 refine pure_ (i := 45) (N := some 78) (v := ?_) (a' := ?_) giroref35_Greedy.zb25 rfl rfl (any_of HT_.out (by kernel_rfl)) (fun _ _ _ h => h) (Or.inl ⟨by rfl, ?_⟩) ?_ ?_
                 rotate_left
                 ·intro w'; go_simp; (with_reducible rfl)
                 rotate_left
                 ·simp only [Act.put, zA_, zB_, zC_, i64_w, i32_w]; rfl
                 refine pure_ (i := 46) (N := some 79) (v := ?_) (a' := ?_) giroref35_Greedy.zb26 rfl rfl (any_of HT_.out (by kernel_rfl)) (fun _ _ _ h => h) (Or.inl ⟨by rfl, ?_⟩) ?_ ?_
                 rotate_left
                 ·intro w'; go_simp; (with_reducible rfl)
                 rotate_left
                 ·simp only [Act.put, zA_, zB_, zC_, i64_w, i32_w]; rfl
                 refine done_ (done_of HT_.out (by kernel_rfl)) ?_
                 try go_wp2
                 go_roundg k2
                 case measure => have := HK1.out; have := HK2.out; omega
                 case rel => exact ⟨(x6_2), (wrap64 (x7_2 + 1)), (by first | rfl | (simp; done) | (simp [*]; done)), (by first | rfl | (simp; done) | (simp [*]; done)), H', ⟨by have := HK1.out; have := HK2.out; omega⟩, ⟨by (with_reducible repeat (first | apply Kd.R_alloc | apply Kd.R_drewN | apply Kd.R_drew)); exact HO_5.out⟩, ⟨by (with_reducible repeat (first | apply Kd.R_alloc | apply Kd.R_drewN | apply Kd.R_drew)); exact HO_219000.out⟩, ⟨by (with_reducible repeat (first | apply Kd.R_alloc | apply Kd.R_drewN | apply Kd.R_drew)); exact HO_219001.out⟩, ⟨by (with_reducible repeat (first | refine bw8 ?_ _ | refine bw9 ?_ | refine bw6 ?_ _)); exact BK212.out⟩, ⟨by (with_reducible repeat (first | refine bw8 ?_ _ | refine bw9 ?_ | refine bw6 ?_ _)); exact BK213.out⟩, ⟨by (with_reducible repeat (first | refine bw8 ?_ _ | refine bw9 ?_ | refine bw6 ?_ _)); exact BK218.out⟩, ⟨by repeat (first | (with_reducible first | exact HB.out | apply bw2 | apply bw1 | apply bw3 | refine bw4 ?_ GE212.out | refine bw4 ?_ GE213.out | refine bw4 ?_ GE218.out) | exact HB.out)⟩⟩
              ·rw [if_neg c45] at H
               exact absurd H (by simp)
             ·rw [if_neg c44] at H
              exact absurd H (by simp)
          ·rw [if_neg c31] at H
           exact absurd H (by simp)
         ·rw [if_neg c30] at H
          exact absurd H (by simp)
        ·rw [if_neg c29] at H
         have c29b0 : decide (x7_2 < (l0_3.length : Int)) = false := decide_eq_false c29
         clear c29
         by_cases c69 : x6_2 < 0
         ·rw [if_pos c69] at H
          have c69b0 : decide (x6_2 < 0) = true := decide_eq_true c69
          clear c69
          simp only [Option.some.injEq, Prod.mk.injEq] at H
          obtain ⟨rfl, rfl, rfl, rfl⟩ := H
          have hnb70 := NB212_213.out
          have hnc70 := NB213_212.out
          have hnb71 := NB212_218.out
          have hnc71 := NB218_212.out
          have hcz72_0 : wr.cell? ⟨gb212, 0, none⟩ = some (.int .i64 a0_0) := (bw5 BK212.out 0).trans rfl
          have hcz72_1 : wr.cell? ⟨gb212, 1, none⟩ = some (.slice A0_1 l0_1.length c0_1) := (bw5 BK212.out 1).trans rfl
          have hcz72_2 : wr.cell? ⟨gb212, 2, none⟩ = some (.slice A0_2 l0_2.length c0_2) := (bw5 BK212.out 2).trans rfl
          have hcz72_3 : wr.cell? ⟨gb212, 3, none⟩ = some (.slice A0_3 l0_3.length c0_3) := (bw5 BK212.out 3).trans rfl
          have hfz72_0 := bw7 BK212.out 0
          have hfz72_1 := bw7 BK212.out 1
          have hfz72_2 := bw7 BK212.out 2
          have hfz72_3 := bw7 BK212.out 3
          have hnb73 := NB213_218.out
          have hnc73 := NB218_213.out
          have hcz74_0 : wr.cell? ⟨gb213, 0, none⟩ = some (.slice none 0 0) := (bw5 BK213.out 0).trans rfl
          have hcz74_1 : wr.cell? ⟨gb213, 1, none⟩ = some (.slice none 0 0) := (bw5 BK213.out 1).trans rfl
          have hcz74_2 : wr.cell? ⟨gb213, 2, none⟩ = some (.int .i64 x214002_1) := (bw5 BK213.out 2).trans rfl
          have hfz74_0 := bw7 BK213.out 0
          have hfz74_1 := bw7 BK213.out 1
          have hfz74_2 := bw7 BK213.out 2
          go_wp2
          refine bodyPost_ret (results_ct rfl _ _ gb213 54 #[.slice none 0 0, .slice none 0 0, .int .i64 0] (0, 0) _ rfl (by (with_reducible repeat (first | refine bw8 ?_ _ | refine bw9 ?_ | refine bw6 ?_ _)); refine blk_put (cs := #[.slice none 0 0, .slice none 0 0, .int .i64 x214002_1]) ?_ 2 _ rfl; (with_reducible repeat (first | refine bw8 ?_ _ | refine bw9 ?_ | refine bw6 ?_ _)); refine blk_put (cs := #[.slice none 0 0, .slice none 0 0, .int .i64 x214002_1]) ?_ 1 _ rfl; (with_reducible repeat (first | refine bw8 ?_ _ | refine bw9 ?_ | refine bw6 ?_ _)); refine blk_put (cs := #[.slice none 0 0, .slice none 0 0, .int .i64 x214002_1]) ?_ 0 _ rfl; (with_reducible repeat (first | refine bw8 ?_ _ | refine bw9 ?_ | refine bw6 ?_ _)); exact BK213.out) Tryz.underlying54 rfl (by kernel_rfl)) rfl ?_
          exact ⟨_, _, by first | rfl | (simp [errW_none, errW_some] <;> rfl) | (simp [*, errW_none, errW_some] <;> rfl), by first | exact Kd.R_nil _ _ _ _ _ | exact Kd.N_nil _ _ _ _ _ | exact Kd.V_nil _ _ _ _ _ | exact Kd.Q_nil _ _ _ _ _ | exact Kd.S_nil _ _ _ _ _, by first | exact Kd.R_nil _ _ _ _ _ | exact Kd.N_nil _ _ _ _ _ | exact Kd.V_nil _ _ _ _ _ | exact Kd.Q_nil _ _ _ _ _ | exact Kd.S_nil _ _ _ _ _, by repeat (first | (with_reducible first | exact HB.out | apply bw2 | apply bw1 | apply bw3 | refine bw4 ?_ GE212.out | refine bw4 ?_ GE213.out | refine bw4 ?_ GE218.out) | exact HB.out)⟩
         ·rw [if_neg c69] at H
          have c69b0 : decide (x6_2 < 0) = false := decide_eq_false c69
          clear c69
          by_cases c75 : 0 ≤ x6_2
          ·rw [if_pos c75] at H
           have c75b0 : decide (0 ≤ x6_2) = true := decide_eq_true c75
           clear c75
           by_cases c76 : x6_2 < (x5_1.length : Int)
           ·rw [if_pos c76] at H
            have c76b0 : decide (x6_2 < (x5_1.length : Int)) = true := decide_eq_true c76
            clear c76
            obtain ⟨y222, hy222⟩ : ∃ y_ : List Bool, y_ = (x5_1.set (x6_2 : Int).toNat true) := ⟨_, rfl⟩
            replace H : (if x6_2 < (l0_3.length : Int) then (if x219000_1.length < 4398046511104 then (giroref35_Greedy.l0 k2 y222 a0_0 l0_1 l0_2 l0_3 (x219000_1 ++ [(⟨(rd_T109 l0_3 x6_2).f0, (rd_T109 l0_3 x6_2).f1, (rd_T109 l0_3 x6_2).f2⟩ : S109)]) t214 (wrap64 (x219002_1 + ((rd_T109 l0_3 x6_2).f2)))) else (none)) else (none)) = some (r1, r2, r3, r4) := by first | (rw [hy222]; with_reducible exact H) | (have H2_ := (Option.bind_some _ _).symm.trans H; rw [hy222]; with_reducible exact H2_) | (have H2_ := (Option.bind_some _ _).symm.trans H; with_reducible exact H2_) | with_reducible exact H | (rw [hy222]; exact H) | exact H
            have Ny222 := Aside0.mk hy222
            clear hy222
            by_cases c78 : x6_2 < (l0_3.length : Int)
            ·rw [if_pos c78] at H
             have c78b0 : decide (x6_2 < (l0_3.length : Int)) = true := decide_eq_true c78
             clear c78
             by_cases c79 : x219000_1.length < 4398046511104
             ·rw [if_pos c79] at H
              have LMc79 := Aside0.mk c79
              clear c79
              obtain ⟨y224, hy224⟩ : ∃ y_ : List (S109), y_ = (x219000_1 ++ [(⟨(rd_T109 l0_3 x6_2).f0, (rd_T109 l0_3 x6_2).f1, (rd_T109 l0_3 x6_2).f2⟩ : S109)]) := ⟨_, rfl⟩
              replace H : (giroref35_Greedy.l0 k2 y222 a0_0 l0_1 l0_2 l0_3 y224 t214 (wrap64 (x219002_1 + ((rd_T109 l0_3 x6_2).f2)))) = some (r1, r2, r3, r4) := by first | (rw [hy224]; with_reducible exact H) | (have H2_ := (Option.bind_some _ _).symm.trans H; rw [hy224]; with_reducible exact H2_) | (have H2_ := (Option.bind_some _ _).symm.trans H; with_reducible exact H2_) | with_reducible exact H | (rw [hy224]; exact H) | exact H
              have Ny224 := Aside0.mk hy224
              clear hy224
              have H' := Aside0.mk H
              clear H
              have hnb80 := NB212_213.out
              have hnc80 := NB213_212.out
              have hnb81 := NB212_218.out
              have hnc81 := NB218_212.out
              have hcz82_0 : wr.cell? ⟨gb212, 0, none⟩ = some (.int .i64 a0_0) := (bw5 BK212.out 0).trans rfl
              have hcz82_1 : wr.cell? ⟨gb212, 1, none⟩ = some (.slice A0_1 l0_1.length c0_1) := (bw5 BK212.out 1).trans rfl
              have hcz82_2 : wr.cell? ⟨gb212, 2, none⟩ = some (.slice A0_2 l0_2.length c0_2) := (bw5 BK212.out 2).trans rfl
              have hcz82_3 : wr.cell? ⟨gb212, 3, none⟩ = some (.slice A0_3 l0_3.length c0_3) := (bw5 BK212.out 3).trans rfl
              have hfz82_0 := bw7 BK212.out 0
              have hfz82_1 := bw7 BK212.out 1
              have hfz82_2 := bw7 BK212.out 2
              have hfz82_3 := bw7 BK212.out 3
              have p77 : 0 ≤ (x6_2 : Int) := of_decide_eq_true (by first | (with_reducible assumption) | assumption)
              have q77 : (x6_2 : Int) < ((x5_1.length : Int) : Int) := of_decide_eq_true (by first | (with_reducible assumption) | assumption)
              obtain ⟨go77, co77, eo77, gb77, gl77, cl77, HG77⟩ := Kd.R_form HO_5.out (by omega)
              (first | cases eo77 | (injection eo77 with ea_ en_ ec_; (first | subst ea_ | (injection ea_ with ea_; subst ea_)); subst ec_; clear en_))
              have GB77 := Aside0.mk gb77
              have GG77 := Aside0.mk HG77
              clear gb77 gl77 HG77
              obtain ⟨hx77_0, hf77_0⟩ := Kd.R_celln false HO_5.out (x6_2 : Int) p77 q77
              replace p77 := eq_true p77
              replace q77 := eq_true q77
              have HP83 := Kd.R_putg HO_5.out (x6_2 : Int) true
              try go_wp2_with (first | ((with_reducible refine gate_store (t := 4) (p := 86) rfl ?_); refine store_event (t := 4) (p := 86) (v := ?vo_w84) (w1 := (wr.setCell ⟨go77, (x6_2 : Int).toNat, none⟩ (.bool true))) ?hg ?ho ?hn ?hr ?_; (case ho => rfl); (case hg => rfl); (case hn => rfl); (case hr => first | (go_simp; done) | (go_simp; rfl)); intro w84 hw; have hg : wr.grownBy w84 (some go77) := (by rw [hw]; exact HP83.2); have hp_ : Kd.R Kd.bool 4 w84 w.heap.size (fun _ => True) (.slice (some ⟨go77, 0, none⟩) x5_1.length co77) y222 := (by rw [hw, Ny222.out]; exact HP83.1); clear HP83; have n0_ := Aside0.mk (hp_); have n1_ := Aside0.mk (Kd.R_over' (v := (.slice (some ⟨go77, 0, none⟩) x5_1.length co77)) (by (with_reducible repeat (first | apply Kd.R_alloc | apply Kd.R_drewN | apply Kd.R_drew)); exact HO_219000.out) (Kd.R_typed HO_5.out) (by decide) hg); have n2_ := Aside0.mk (Kd.R_over' (v := (.slice (some ⟨go77, 0, none⟩) x5_1.length co77)) (by (with_reducible repeat (first | apply Kd.R_alloc | apply Kd.R_drewN | apply Kd.R_drew)); exact HO_219001.out) (Kd.R_typed HO_5.out) (by decide) hg); have n3_ := Aside0.mk (blk_grown (g := gb212) (o := .cells #[.int .i64 a0_0, .slice A0_1 l0_1.length c0_1, .slice A0_2 l0_2.length c0_2, .slice A0_3 l0_3.length c0_3] 49 (0, 0)) (by (with_reducible repeat (first | refine bw8 ?_ _ | refine bw9 ?_ | refine bw6 ?_ _)); exact BK212.out) hg (Kd.R_ne HO_5.out BK212.out (by decide))); have n4_ := Aside0.mk (blk_grown (g := gb213) (o := .cells #[.slice none 0 0, .slice none 0 0, .int .i64 x214002_1] 54 (0, 0)) (by (with_reducible repeat (first | refine bw8 ?_ _ | refine bw9 ?_ | refine bw6 ?_ _)); exact BK213.out) hg (Kd.R_ne HO_5.out BK213.out (by decide))); have n5_ := Aside0.mk (blk_grown (g := gb218) (o := .cells #[u219000, .slice Ao14 t214.length co14, .int .i64 x219002_1] 54 (0, 0)) (by (with_reducible repeat (first | refine bw8 ?_ _ | refine bw9 ?_ | refine bw6 ?_ _)); exact BK218.out) hg (Kd.R_ne HO_5.out BK218.out (by decide))); have n6_ := Aside0.mk ((by rw [hw]; exact bw4 (HB.out) GB77.out : Below w.heap.size w w84)); clear HO_5; clear HO_219000; clear HO_219001; clear BK212; clear BK213; clear BK218; clear HB; have HO_5 := n0_; have HO_219000 := n1_; have HO_219001 := n2_; have BK212 := n3_; have BK213 := n4_; have BK218 := n5_; have HB := n6_; clear n0_ n1_ n2_ n3_ n4_ n5_ n6_; clear hg hw hp_))
              have n0_ := Aside0.mk (Kd.R_drew HO_5.out)
              have n1_ := Aside0.mk (Kd.R_drew HO_219000.out)
              have n2_ := Aside0.mk (Kd.R_drew HO_219001.out)
              have n3_ := Aside0.mk (bw9 BK212.out)
              have n4_ := Aside0.mk (bw9 BK213.out)
              have n5_ := Aside0.mk (bw9 BK218.out)
              have n6_ := Aside0.mk (bw3 HB.out)
              clear HO_5; clear HO_219000; clear HO_219001; clear BK212; clear BK213; clear BK218; clear HB; have HO_5 := n0_; have HO_219000 := n1_; have HO_219001 := n2_; have BK212 := n3_; have BK213 := n4_; have BK218 := n5_; have HB := n6_; clear n0_ n1_ n2_ n3_ n4_ n5_ n6_
              have p223 : 0 ≤ (x6_2 : Int) := of_decide_eq_true (by first | (with_reducible assumption) | assumption)
              have q223 : x6_2 < (l0_3.length : Int) := of_decide_eq_true (by first | (with_reducible assumption) | assumption)
              obtain ⟨ad223, e223, hx223_0, hx223_1, hx223_2⟩ := at_T109 HR0_3.out x6_2 p223 q223
              have hw223_2 := hx223_2
              have hw223_1 := hx223_1
              have hw223_0 := hx223_0
              cases e223
              replace hx223_0 := (HB.out.cell (World.block_lt_of_cell? w _ hx223_0)).trans hx223_0
              replace hx223_1 := (HB.out.cell (World.block_lt_of_cell? w _ hx223_1)).trans hx223_1
              replace hx223_2 := (HB.out.cell (World.block_lt_of_cell? w _ hx223_2)).trans hx223_2
              replace p223 := eq_true p223
              replace q223 := eq_true q223
              refine start_ (n := 11) (S := fun w' => w'.cell? ⟨gb218, 0, none⟩ = some (u219000) ∧ w'.cell? ⟨gb218, 1, none⟩ = some (.slice Ao14 t214.length co14) ∧ w'.cell? ⟨gb218, 2, none⟩ = some (.int .i64 x219002_1) ∧ w'.cell? ⟨gb212, 0, none⟩ = some (.int .i64 a0_0) ∧ w'.cell? ⟨gb212, 1, none⟩ = some (.slice A0_1 l0_1.length c0_1) ∧ w'.cell? ⟨gb212, 2, none⟩ = some (.slice A0_2 l0_2.length c0_2) ∧ w'.cell? ⟨gb212, 3, none⟩ = some (.slice (some ad223) l0_3.length c0_3) ∧ w'.cell? (ad223.add ((x6_2).toNat * 3)) = some (.string ((rd_T109 l0_3 x6_2).f0)) ∧ w'.cell? ⟨(ad223.add ((x6_2).toNat * 3)).block, (ad223.add ((x6_2).toNat * 3)).off + 1, none⟩ = some (.int .i64 ((rd_T109 l0_3 x6_2).f1)) ∧ w'.cell? ⟨(ad223.add ((x6_2).toNat * 3)).block, (ad223.add ((x6_2).toNat * 3)).off + 2, none⟩ = some (.int .i64 ((rd_T109 l0_3 x6_2).f2))) (ds := [10]) giroref35_Greedy.zb62 (by kernel_rfl) rfl rfl ⟨(bw5 BK218.out 0).trans rfl, (bw5 BK218.out 1).trans rfl, (bw5 BK218.out 2).trans rfl, (bw5 BK212.out 0).trans rfl, (bw5 BK212.out 1).trans rfl, (bw5 BK212.out 2).trans rfl, (bw5 BK212.out 3).trans rfl, ((HB.out.cell (World.block_lt_of_cell? w _ hw223_0)).trans hw223_0), ((HB.out.cell (World.block_lt_of_cell? w _ hw223_1)).trans hw223_1), ((HB.out.cell (World.block_lt_of_cell? w _ hw223_2)).trans hw223_2)⟩ (fun hHeld => ?_); refine with_tabW giroref35_Greedy.tab14 giroref35_Greedy.bits14 (fun HT_ HW_ => ?_)
              generalize w84.drew = w85 at HO_5 HO_219000 HO_219001 BK212 BK213 BK218 HB hx223_0 hx223_1 hx223_2 hHeld ⊢
              refine pure_ (i := 0) (N := some 87) (v := ?_) (a' := ?_) giroref35_Greedy.zb63 rfl rfl (any_of HT_.out (by kernel_rfl)) (fun _ _ _ h => h) (Or.inl ⟨by rfl, ?_⟩) ?_ ?_
              rotate_left
              ·intro w'; go_simp; (with_reducible rfl)
              rotate_left
              ·simp only [Act.put, zA_, zB_, zC_, i64_w, i32_w]; rfl
              refine pure_ (i := 2) (N := some 89) (v := ?_) (a' := ?_) giroref35_Greedy.zb64 rfl rfl (any_of HT_.out (by kernel_rfl)) (fun _ _ _ h => h) (Or.inl ⟨by rfl, ?_⟩) ?_ ?_
              rotate_left
              ·intro w'; go_simp; (with_reducible rfl)
              rotate_left
              ·simp only [Act.put, zA_, zB_, zC_, i64_w, i32_w]; rfl
              refine pure_ (i := 4) (N := some 91) (v := ?_) (a' := ?_) giroref35_Greedy.zb65 rfl rfl (any_of HT_.out (by kernel_rfl)) (fun _ _ _ h => h) (Or.inl ⟨by rfl, ?_⟩) ?_ ?_
              rotate_left
              ·intro w'; go_simp; (with_reducible rfl)
              rotate_left
              ·simp only [Act.put, zA_, zB_, zC_, i64_w, i32_w]; rfl
              refine take_ (i := 1) (N := some 88) (v := ?_) (a' := ?_) giroref35_Greedy.zb66 rfl rfl (take_ofW HT_.out HW_.out (by kernel_rfl)) (fun _ _ _ h => h) (Or.inl ⟨by rfl, ?_⟩) hHeld ?_ ?_
              rotate_left
              ·rintro w' ⟨s0, s1, s2, s3, s4, s5, s6, s7, s8, s9⟩
               go_simp; (with_reducible rfl)
              rotate_left
              ·simp only [Act.put, zA_, zB_, zC_, i64_w, i32_w]; rfl
              refine take_ (i := 3) (N := some 90) (v := ?_) (a' := ?_) giroref35_Greedy.zb67 rfl rfl (take_ofW HT_.out HW_.out (by kernel_rfl)) (fun _ _ _ h => h) (Or.inl ⟨by rfl, ?_⟩) hHeld ?_ ?_
              rotate_left
              ·rintro w' ⟨s0, s1, s2, s3, s4, s5, s6, s7, s8, s9⟩
               go_simp; (with_reducible rfl)
              rotate_left
              ·simp only [Act.put, zA_, zB_, zC_, i64_w, i32_w]; rfl
              refine pure_ (i := 5) (N := some 92) (v := ?_) (a' := ?_) giroref35_Greedy.zb68 rfl rfl (any_of HT_.out (by kernel_rfl)) (fun _ _ _ h => h) (Or.inl ⟨by rfl, ?_⟩) ?_ ?_
              rotate_left
              ·intro w'; go_simp; (with_reducible rfl)
              rotate_left
              ·simp only [Act.put, zA_, zB_, zC_, i64_w, i32_w]; rfl
              refine take_ (i := 6) (N := some 93) (v := ?_) (a' := ?_) giroref35_Greedy.zb69 rfl rfl (take_ofW HT_.out HW_.out (by kernel_rfl)) (fun _ _ _ h => h) (Or.inl ⟨by rfl, ?_⟩) hHeld ?_ ?_
              rotate_left
              ·rintro w' ⟨s0, s1, s2, s3, s4, s5, s6, s7, s8, s9⟩
               go_simp; (with_reducible rfl)
              rotate_left
              ·simp only [Act.put, zA_, zB_, zC_, i64_w, i32_w]; rfl
              refine one_ (i := 7) (N := some 94) #[true,true,true,true,true,true,true,true,false,false,false] rfl rfl (one_of HT_.out (by kernel_rfl)) (by decide) (fun K hK => ?_)
              refine value_ (w1 := ?_) (v := ?_) (by rfl) rfl ?_ ?_
              rotate_left 2
              ·go_simp
               constructor
               ·rfl
               ·rfl
              refine hK.out _ _ ⟨(bw5 (bw6 BK218.out _) 0).trans rfl, (bw5 (bw6 BK218.out _) 1).trans rfl, (bw5 (bw6 BK218.out _) 2).trans rfl, (bw5 (bw6 BK212.out _) 0).trans rfl, (bw5 (bw6 BK212.out _) 1).trans rfl, (bw5 (bw6 BK212.out _) 2).trans rfl, (bw5 (bw6 BK212.out _) 3).trans rfl, (World.cell?_alloc_lt _ _ _ (World.block_lt_of_cell? _ _ (((HB.out.cell (World.block_lt_of_cell? w _ hw223_0)).trans hw223_0)))).trans (((HB.out.cell (World.block_lt_of_cell? w _ hw223_0)).trans hw223_0)), (World.cell?_alloc_lt _ _ _ (World.block_lt_of_cell? _ _ (((HB.out.cell (World.block_lt_of_cell? w _ hw223_1)).trans hw223_1)))).trans (((HB.out.cell (World.block_lt_of_cell? w _ hw223_1)).trans hw223_1)), (World.cell?_alloc_lt _ _ _ (World.block_lt_of_cell? _ _ (((HB.out.cell (World.block_lt_of_cell? w _ hw223_2)).trans hw223_2)))).trans (((HB.out.cell (World.block_lt_of_cell? w _ hw223_2)).trans hw223_2))⟩ (fun hHeld => ?_)
              clear hK K
              refine norm_ (a' := ?_) ?_ ?_
              rotate_left
              ·show Act.put _ (some 94) _ = _; simp only [Act.put, zA_, zB_, zC_, i64_w, i32_w]; rfl
              refine one_ (i := 8) (N := some 95) #[true,true,true,true,true,true,true,true,true,false,false] rfl rfl (one_of HT_.out (by kernel_rfl)) (by decide) (fun K hK => ?_)
              refine Kd.R_append_step k109 (w0 := w) w.heap.size (by rfl) (.tmp 88) (.tmp 94) 47 109 (.agg #[(.string ⟨#[]⟩), (.int .i64 0), (.int .i64 0)]) 32 rfl Tryz.underlying47 info109 rfl (by decide) (by omega) u219000 x219000_1 (⟨(rd_T109 l0_3 x6_2).f0, (rd_T109 l0_3 x6_2).f1, (rd_T109 l0_3 x6_2).f2⟩ : S109) [.string ((rd_T109 l0_3 x6_2).f0), .int .i64 ((rd_T109 l0_3 x6_2).f1), .int .i64 ((rd_T109 l0_3 x6_2).f2)] (fun k_ => some k_ ≠ (.slice Ao14 t214.length co14 : Value).ownBlock) (fun _ => False) rfl rfl ?aP (fun _ hk => hk.elim) ?aF ?aO ?aB ?aS ?aL ?_
              (case aP => exact k109_mkM _ _ _ (⟨(rd_T109 l0_3 x6_2).f0, (rd_T109 l0_3 x6_2).f1, (rd_T109 l0_3 x6_2).f2⟩ : S109))
              (case aB => exact (by repeat (first | (with_reducible first | exact HB.out | apply bw2 | apply bw1 | apply bw3 | refine bw4 ?_ GE212.out | refine bw4 ?_ GE213.out | refine bw4 ?_ GE218.out) | exact HB.out)))
              (case aF => exact (fun k_ hk => Kd.fresh' (Kd.R_lt (by (with_reducible repeat (first | apply Kd.R_alloc | apply Kd.R_drewN | apply Kd.R_drew)); exact HO_219001.out)) k_ hk))
              (case aO => exact (by (with_reducible repeat (first | apply Kd.R_alloc | apply Kd.R_drewN | apply Kd.R_drew)); exact HO_219000.out))
              (case aS => exact (bx3 (by repeat (first | (with_reducible first | exact HB.out | apply bw2 | apply bw1 | apply bw3 | refine bw4 ?_ GE212.out | refine bw4 ?_ GE213.out | refine bw4 ?_ GE218.out) | exact HB.out))))
              (case aL => have := LMc79.out; omega)
              intro v225 w86 ho hb hg hat
              rw [← Ny224.out] at ho
              have n0_ := Aside0.mk (Kd.R_over' (by (with_reducible repeat (first | apply Kd.R_alloc | apply Kd.R_drewN | apply Kd.R_drew)); exact HO_5.out) (Kd.R_typed (by (with_reducible repeat (first | apply Kd.R_alloc | apply Kd.R_drewN | apply Kd.R_drew)); exact HO_219000.out)) (by decide) hg)
              have n1_ := Aside0.mk (Kd.R_after (ok := (fun _ => True)) (by (with_reducible repeat (first | apply Kd.R_alloc | apply Kd.R_drewN | apply Kd.R_drew)); exact Kd.R_mono HO_219001.out (fun _ hk => ⟨trivial, hk⟩)) hg hat)
              have n2_ := Aside0.mk (blk_grown (g := gb212) (o := .cells #[.int .i64 a0_0, .slice A0_1 l0_1.length c0_1, .slice A0_2 l0_2.length c0_2, .slice (some ad223) l0_3.length c0_3] 49 (0, 0)) (by (with_reducible repeat (first | refine bw8 ?_ _ | refine bw9 ?_ | refine bw6 ?_ _)); exact BK212.out) hg (Kd.R_ne HO_219000.out BK212.out (by decide)))
              have n3_ := Aside0.mk (blk_grown (g := gb213) (o := .cells #[.slice none 0 0, .slice none 0 0, .int .i64 x214002_1] 54 (0, 0)) (by (with_reducible repeat (first | refine bw8 ?_ _ | refine bw9 ?_ | refine bw6 ?_ _)); exact BK213.out) hg (Kd.R_ne HO_219000.out BK213.out (by decide)))
              have n4_ := Aside0.mk (blk_grown (g := gb218) (o := .cells #[u219000, .slice Ao14 t214.length co14, .int .i64 x219002_1] 54 (0, 0)) (by (with_reducible repeat (first | refine bw8 ?_ _ | refine bw9 ?_ | refine bw6 ?_ _)); exact BK218.out) hg (Kd.R_ne HO_219000.out BK218.out (by decide)))
              have n5_ := Aside0.mk (hb)
              have n6_ := Aside0.mk (ho)
              clear HO_5; clear HO_219001; clear BK212; clear BK213; clear BK218; clear HB; clear HO_219000; have HO_5 := n0_; have HO_219001 := n1_; have BK212 := n2_; have BK213 := n3_; have BK218 := n4_; have HB := n5_; have HO226 := n6_; clear n0_ n1_ n2_ n3_ n4_ n5_ n6_; clear ho hb hg hat
              obtain ⟨Ao87, co87, eo87⟩ := Kd.R_slice HO226.out
              (first | subst eo87 | (injection eo87 with f1_ f2_ f3_; have f4_ := f1_.symm; have f5_ := f3_.symm; clear f1_ f2_ f3_; subst f4_; subst f5_))
              refine hK.out _ _ ⟨(bw5 BK218.out 0).trans rfl, (bw5 BK218.out 1).trans rfl, (bw5 BK218.out 2).trans rfl, (bw5 BK212.out 0).trans rfl, (bw5 BK212.out 1).trans rfl, (bw5 BK212.out 2).trans rfl, (bw5 BK212.out 3).trans rfl, ((HB.out.cell (World.block_lt_of_cell? w _ hw223_0)).trans hw223_0), ((HB.out.cell (World.block_lt_of_cell? w _ hw223_1)).trans hw223_1), ((HB.out.cell (World.block_lt_of_cell? w _ hw223_2)).trans hw223_2)⟩ (fun hHeld => ?_)
              clear hK K
              refine norm_ (a' := ?_) ?_ ?_
              rotate_left
              ·show Act.put _ (some 95) _ = _; simp only [Act.put, zA_, zB_, zC_, i64_w, i32_w]; rfl
              refine pure_ (i := 9) (N := some 96) (v := ?_) (a' := ?_) #[true,true,true,true,true,true,true,true,true,true,false] rfl rfl (any_of HT_.out (by kernel_rfl)) (fun _ _ _ h => h) (Or.inl ⟨by rfl, ?_⟩) ?_ ?_
              rotate_left
              ·intro w'; go_simp; (with_reducible rfl)
              rotate_left
              ·simp only [Act.put, zA_, zB_, zC_, i64_w, i32_w]; rfl
              refine last_ (i := 10) (N := none) #[true,true,true,true,true,true,true,true,true,true,true] rfl rfl (one_of HT_.out (by kernel_rfl)) (by decide) (fun K hK => ?_)
              have hs88 : w86.cell? ⟨gb218, 0, none⟩ = some (u219000) := (bw5 BK218.out 0).trans rfl
              have hfs88 := bw7 BK218.out 0
              have hns88_0 := NB212_218.out
              have hns88_1 := NB213_218.out
              have hms88_0 := NB218_212.out
              have hms88_1 := NB218_213.out
              refine skip_ (w1 := ?_) (by rfl) rfl ?_ ?_
              rotate_left
              ·go_simp; rfl
              refine hK.out _ _ ?_
              clear hK K
              refine done_ (done_of HT_.out (by kernel_rfl)) ?_
              try go_wp2
              have n0_ : Aside0 (Kd.R Kd.bool 4 (w86.setCell ⟨gb218, 0, none⟩ (.slice Ao87 y224.length co87)) w.heap.size (fun _ => True) (.slice (some ⟨go77, 0, none⟩) x5_1.length co77) y222) := ⟨by (with_reducible repeat (first | apply Kd.R_alloc | apply Kd.R_drewN | apply Kd.R_drew)); exact Kd.R_mono (Kd.R_far (p := ⟨gb218, 0, none⟩) (Kd.R_types HO_5.out BK218.out (by decide)) (fun _ hk => hk.2) (.slice Ao87 y224.length co87)) (fun _ hk => trivial)⟩
              have n1_ : Aside0 (Kd.R k109 109 (w86.setCell ⟨gb218, 0, none⟩ (.slice Ao87 y224.length co87)) w.heap.size (fun k_ => some k_ ≠ (.slice Ao87 y224.length co87 : Value).ownBlock) (.slice Ao14 t214.length co14) t214) := ⟨by (with_reducible repeat (first | apply Kd.R_alloc | apply Kd.R_drewN | apply Kd.R_drew)); exact Kd.R_mono (Kd.R_far (p := ⟨gb218, 0, none⟩) (Kd.R_types HO_219001.out BK218.out (by decide)) (fun _ hk => hk.2) (.slice Ao87 y224.length co87)) (fun _ hk => hk.1.2)⟩
              have n2_ : Aside0 (Kd.R k109 109 (w86.setCell ⟨gb218, 0, none⟩ (.slice Ao87 y224.length co87)) w.heap.size (fun k_ => some k_ ≠ (.slice Ao14 t214.length co14 : Value).ownBlock) (.slice Ao87 y224.length co87) y224) := ⟨by (with_reducible repeat (first | apply Kd.R_alloc | apply Kd.R_drewN | apply Kd.R_drew)); exact Kd.R_mono (Kd.R_far (p := ⟨gb218, 0, none⟩) (Kd.R_types HO226.out BK218.out (by decide)) (fun _ hk => hk.2) (.slice Ao87 y224.length co87)) (fun _ hk => hk.1)⟩
              have n3_ : Aside0 ((w86.setCell ⟨gb218, 0, none⟩ (.slice Ao87 y224.length co87)).heap[gb212]? = some (.cells #[.int .i64 a0_0, .slice A0_1 l0_1.length c0_1, .slice A0_2 l0_2.length c0_2, .slice (some ad223) l0_3.length c0_3] 49 (0, 0))) := ⟨by (with_reducible repeat (first | refine bw8 ?_ _ | refine bw9 ?_ | refine bw6 ?_ _)); refine blk_far ?_ NB212_218.out _; (with_reducible repeat (first | refine bw8 ?_ _ | refine bw9 ?_ | refine bw6 ?_ _)); exact BK212.out⟩
              have n4_ : Aside0 ((w86.setCell ⟨gb218, 0, none⟩ (.slice Ao87 y224.length co87)).heap[gb213]? = some (.cells #[.slice none 0 0, .slice none 0 0, .int .i64 x214002_1] 54 (0, 0))) := ⟨by (with_reducible repeat (first | refine bw8 ?_ _ | refine bw9 ?_ | refine bw6 ?_ _)); refine blk_far ?_ NB213_218.out _; (with_reducible repeat (first | refine bw8 ?_ _ | refine bw9 ?_ | refine bw6 ?_ _)); exact BK213.out⟩
              have n5_ : Aside0 ((w86.setCell ⟨gb218, 0, none⟩ (.slice Ao87 y224.length co87)).heap[gb218]? = some (.cells #[.slice Ao87 y224.length co87, .slice Ao14 t214.length co14, .int .i64 x219002_1] 54 (0, 0))) := ⟨by (with_reducible repeat (first | refine bw8 ?_ _ | refine bw9 ?_ | refine bw6 ?_ _)); refine blk_put (cs := #[u219000, .slice Ao14 t214.length co14, .int .i64 x219002_1]) ?_ 0 _ rfl; (with_reducible repeat (first | refine bw8 ?_ _ | refine bw9 ?_ | refine bw6 ?_ _)); exact BK218.out⟩
              have n6_ : Aside0 (Below w.heap.size w (w86.setCell ⟨gb218, 0, none⟩ (.slice Ao87 y224.length co87))) := ⟨by repeat (first | (with_reducible first | exact HB.out | apply bw2 | apply bw1 | apply bw3 | refine bw4 ?_ GE212.out | refine bw4 ?_ GE213.out | refine bw4 ?_ GE218.out) | exact HB.out)⟩
              (try clear HO_5); (try clear HO_219001); (try clear HO226); (try clear BK212); (try clear BK213); (try clear BK218); (try clear HB)
              generalize (w86.setCell ⟨gb218, 0, none⟩ (.slice Ao87 y224.length co87)) = w89 at n0_ n1_ n2_ n3_ n4_ n5_ n6_ ⊢
              have HO_5 := n0_; have HO_219001 := n1_; have HO226 := n2_; have BK212 := n3_; have BK213 := n4_; have BK218 := n5_; have HB := n6_; clear n0_ n1_ n2_ n3_ n4_ n5_ n6_
              have n0_ := Aside0.mk (Kd.R_drew HO_5.out)
              have n1_ := Aside0.mk (Kd.R_drew HO_219001.out)
              have n2_ := Aside0.mk (Kd.R_drew HO226.out)
              have n3_ := Aside0.mk (bw9 BK212.out)
              have n4_ := Aside0.mk (bw9 BK213.out)
              have n5_ := Aside0.mk (bw9 BK218.out)
              have n6_ := Aside0.mk (bw3 HB.out)
              clear HO_5; clear HO_219001; clear HO226; clear BK212; clear BK213; clear BK218; clear HB; have HO_5 := n0_; have HO_219001 := n1_; have HO226 := n2_; have BK212 := n3_; have BK213 := n4_; have BK218 := n5_; have HB := n6_; clear n0_ n1_ n2_ n3_ n4_ n5_ n6_
              have p227 : 0 ≤ (x6_2 : Int) := of_decide_eq_true (by first | (with_reducible assumption) | assumption)
              have q227 : x6_2 < (l0_3.length : Int) := of_decide_eq_true (by first | (with_reducible assumption) | assumption)
              obtain ⟨ad227, e227, hx227_0, hx227_1, hx227_2⟩ := at_T109 HR0_3.out x6_2 p227 q227
              have hw227_2 := hx227_2
              have hw227_1 := hx227_1
              have hw227_0 := hx227_0
              obtain rfl : ad223 = ad227 := (by injection e227)
              replace hx227_0 := (HB.out.cell (World.block_lt_of_cell? w _ hx227_0)).trans hx227_0
              replace hx227_1 := (HB.out.cell (World.block_lt_of_cell? w _ hx227_1)).trans hx227_1
              replace hx227_2 := (HB.out.cell (World.block_lt_of_cell? w _ hx227_2)).trans hx227_2
              replace p227 := eq_true p227
              replace q227 := eq_true q227
              refine start_ (n := 11) (S := fun w' => w'.cell? ⟨gb218, 0, none⟩ = some (.slice Ao87 y224.length co87) ∧ w'.cell? ⟨gb218, 1, none⟩ = some (.slice Ao14 t214.length co14) ∧ w'.cell? ⟨gb218, 2, none⟩ = some (.int .i64 x219002_1) ∧ w'.cell? ⟨gb212, 0, none⟩ = some (.int .i64 a0_0) ∧ w'.cell? ⟨gb212, 1, none⟩ = some (.slice A0_1 l0_1.length c0_1) ∧ w'.cell? ⟨gb212, 2, none⟩ = some (.slice A0_2 l0_2.length c0_2) ∧ w'.cell? ⟨gb212, 3, none⟩ = some (.slice (some ad223) l0_3.length c0_3) ∧ w'.cell? (ad223.add ((x6_2).toNat * 3)) = some (.string ((rd_T109 l0_3 x6_2).f0)) ∧ w'.cell? ⟨(ad223.add ((x6_2).toNat * 3)).block, (ad223.add ((x6_2).toNat * 3)).off + 1, none⟩ = some (.int .i64 ((rd_T109 l0_3 x6_2).f1)) ∧ w'.cell? ⟨(ad223.add ((x6_2).toNat * 3)).block, (ad223.add ((x6_2).toNat * 3)).off + 2, none⟩ = some (.int .i64 ((rd_T109 l0_3 x6_2).f2))) (ds := [10]) giroref35_Greedy.zb62 (by kernel_rfl) rfl rfl ⟨(bw5 BK218.out 0).trans rfl, (bw5 BK218.out 1).trans rfl, (bw5 BK218.out 2).trans rfl, (bw5 BK212.out 0).trans rfl, (bw5 BK212.out 1).trans rfl, (bw5 BK212.out 2).trans rfl, (bw5 BK212.out 3).trans rfl, ((HB.out.cell (World.block_lt_of_cell? w _ hw227_0)).trans hw227_0), ((HB.out.cell (World.block_lt_of_cell? w _ hw227_1)).trans hw227_1), ((HB.out.cell (World.block_lt_of_cell? w _ hw227_2)).trans hw227_2)⟩ (fun hHeld => ?_); refine with_tabW giroref35_Greedy.tab15 giroref35_Greedy.bits15 (fun HT_ HW_ => ?_)
              generalize w89.drew = w90 at HO_5 HO_219001 HO226 BK212 BK213 BK218 HB hx227_0 hx227_1 hx227_2 hHeld ⊢
              refine pure_ (i := 0) (N := some 97) (v := ?_) (a' := ?_) giroref35_Greedy.zb63 rfl rfl (any_of HT_.out (by kernel_rfl)) (fun _ _ _ h => h) (Or.inl ⟨by rfl, ?_⟩) ?_ ?_
              rotate_left
              ·intro w'; go_simp; (with_reducible rfl)
              rotate_left
              ·simp only [Act.put, zA_, zB_, zC_, i64_w, i32_w]; rfl
              refine pure_ (i := 2) (N := some 99) (v := ?_) (a' := ?_) giroref35_Greedy.zb64 rfl rfl (any_of HT_.out (by kernel_rfl)) (fun _ _ _ h => h) (Or.inl ⟨by rfl, ?_⟩) ?_ ?_
              rotate_left
              ·intro w'; go_simp; (with_reducible rfl)
              rotate_left
              ·simp only [Act.put, zA_, zB_, zC_, i64_w, i32_w]; rfl
              refine pure_ (i := 4) (N := some 101) (v := ?_) (a' := ?_) giroref35_Greedy.zb65 rfl rfl (any_of HT_.out (by kernel_rfl)) (fun _ _ _ h => h) (Or.inl ⟨by rfl, ?_⟩) ?_ ?_
              rotate_left
              ·intro w'; go_simp; (with_reducible rfl)
              rotate_left
              ·simp only [Act.put, zA_, zB_, zC_, i64_w, i32_w]; rfl
              refine take_ (i := 1) (N := some 98) (v := ?_) (a' := ?_) giroref35_Greedy.zb66 rfl rfl (take_ofW HT_.out HW_.out (by kernel_rfl)) (fun _ _ _ h => h) (Or.inl ⟨by rfl, ?_⟩) hHeld ?_ ?_
              rotate_left
              ·rintro w' ⟨s0, s1, s2, s3, s4, s5, s6, s7, s8, s9⟩
               go_simp; (with_reducible rfl)
              rotate_left
              ·simp only [Act.put, zA_, zB_, zC_, i64_w, i32_w]; rfl
              refine take_ (i := 3) (N := some 100) (v := ?_) (a' := ?_) giroref35_Greedy.zb67 rfl rfl (take_ofW HT_.out HW_.out (by kernel_rfl)) (fun _ _ _ h => h) (Or.inl ⟨by rfl, ?_⟩) hHeld ?_ ?_
              rotate_left
              ·rintro w' ⟨s0, s1, s2, s3, s4, s5, s6, s7, s8, s9⟩
               go_simp; (with_reducible rfl)
              rotate_left
              ·simp only [Act.put, zA_, zB_, zC_, i64_w, i32_w]; rfl
              refine pure_ (i := 5) (N := some 102) (v := ?_) (a' := ?_) giroref35_Greedy.zb68 rfl rfl (any_of HT_.out (by kernel_rfl)) (fun _ _ _ h => h) (Or.inl ⟨by rfl, ?_⟩) ?_ ?_
              rotate_left
              ·intro w'; go_simp; (with_reducible rfl)
              rotate_left
              ·simp only [Act.put, zA_, zB_, zC_, i64_w, i32_w]; rfl
              refine pure_ (i := 6) (N := some 103) (v := ?_) (a' := ?_) giroref35_Greedy.zb69 rfl rfl (any_of HT_.out (by kernel_rfl)) (fun _ _ _ h => h) (Or.inl ⟨by rfl, ?_⟩) ?_ ?_
              rotate_left
              ·intro w'; go_simp; (with_reducible rfl)
              rotate_left
              ·simp only [Act.put, zA_, zB_, zC_, i64_w, i32_w]; rfl
              refine take_ (i := 7) (N := some 104) (v := ?_) (a' := ?_) #[true,true,true,true,true,true,true,true,false,false,false] rfl rfl (take_ofW HT_.out HW_.out (by kernel_rfl)) (fun _ _ _ h => h) (Or.inl ⟨by rfl, ?_⟩) hHeld ?_ ?_
              rotate_left
              ·rintro w' ⟨s0, s1, s2, s3, s4, s5, s6, s7, s8, s9⟩
               go_simp; (with_reducible rfl)
              rotate_left
              ·simp only [Act.put, zA_, zB_, zC_, i64_w, i32_w]; rfl
              refine pure_ (i := 8) (N := some 105) (v := ?_) (a' := ?_) #[true,true,true,true,true,true,true,true,true,false,false] rfl rfl (any_of HT_.out (by kernel_rfl)) (fun _ _ _ h => h) (Or.inl ⟨by rfl, ?_⟩) ?_ ?_
              rotate_left
              ·intro w'; go_simp; (with_reducible rfl)
              rotate_left
              ·simp only [Act.put, zA_, zB_, zC_, i64_w, i32_w]; rfl
              refine pure_ (i := 9) (N := some 106) (v := ?_) (a' := ?_) #[true,true,true,true,true,true,true,true,true,true,false] rfl rfl (any_of HT_.out (by kernel_rfl)) (fun _ _ _ h => h) (Or.inl ⟨by rfl, ?_⟩) ?_ ?_
              rotate_left
              ·intro w'; go_simp; (with_reducible rfl)
              rotate_left
              ·simp only [Act.put, zA_, zB_, zC_, i64_w, i32_w]; rfl
              refine last_ (i := 10) (N := none) #[true,true,true,true,true,true,true,true,true,true,true] rfl rfl (one_of HT_.out (by kernel_rfl)) (by decide) (fun K hK => ?_)
              have hs91 : w90.cell? ⟨gb218, 2, none⟩ = some (.int .i64 x219002_1) := (bw5 BK218.out 2).trans rfl
              have hfs91 := bw7 BK218.out 2
              have hns91_0 := NB212_218.out
              have hns91_1 := NB213_218.out
              have hms91_0 := NB218_212.out
              have hms91_1 := NB218_213.out
              refine skip_ (w1 := ?_) (by rfl) rfl ?_ ?_
              rotate_left
              ·go_simp; rfl
              refine hK.out _ _ ?_
              clear hK K
              refine done_ (done_of HT_.out (by kernel_rfl)) ?_
              try go_wp2
              go_roundg k2
              case measure => have := HK1.out; have := HK2.out; omega
              case rel => exact ⟨(y222), (x214002_1), (y224), (wrap64 (x219002_1 + ((rd_T109 l0_3 x6_2).f2))), (.slice Ao87 y224.length co87), H', ⟨by have := HK1.out; have := HK2.out; omega⟩, ⟨by (with_reducible repeat (first | apply Kd.R_alloc | apply Kd.R_drewN | apply Kd.R_drew)); exact Kd.R_mono (Kd.R_far (p := ⟨gb218, 2, none⟩) (Kd.R_types HO_5.out BK218.out (by decide)) (fun _ hk => hk.2) (.int .i64 (wrap64 (x219002_1 + ((rd_T109 l0_3 x6_2).f2))))) (fun _ hk => trivial)⟩, ⟨by (with_reducible repeat (first | apply Kd.R_alloc | apply Kd.R_drewN | apply Kd.R_drew)); exact Kd.R_mono (Kd.R_far (p := ⟨gb218, 2, none⟩) (Kd.R_types HO226.out BK218.out (by decide)) (fun _ hk => hk.2) (.int .i64 (wrap64 (x219002_1 + ((rd_T109 l0_3 x6_2).f2))))) (fun _ hk => hk.1)⟩, ⟨by (with_reducible repeat (first | apply Kd.R_alloc | apply Kd.R_drewN | apply Kd.R_drew)); exact Kd.R_mono (Kd.R_far (p := ⟨gb218, 2, none⟩) (Kd.R_types HO_219001.out BK218.out (by decide)) (fun _ hk => hk.2) (.int .i64 (wrap64 (x219002_1 + ((rd_T109 l0_3 x6_2).f2))))) (fun _ hk => hk.1)⟩, ⟨by (with_reducible repeat (first | refine bw8 ?_ _ | refine bw9 ?_ | refine bw6 ?_ _)); refine blk_far ?_ NB212_218.out _; (with_reducible repeat (first | refine bw8 ?_ _ | refine bw9 ?_ | refine bw6 ?_ _)); exact BK212.out⟩, ⟨by (with_reducible repeat (first | refine bw8 ?_ _ | refine bw9 ?_ | refine bw6 ?_ _)); refine blk_far ?_ NB213_218.out _; (with_reducible repeat (first | refine bw8 ?_ _ | refine bw9 ?_ | refine bw6 ?_ _)); exact BK213.out⟩, ⟨by (with_reducible repeat (first | refine bw8 ?_ _ | refine bw9 ?_ | refine bw6 ?_ _)); refine blk_put (cs := #[.slice Ao87 y224.length co87, .slice Ao14 t214.length co14, .int .i64 x219002_1]) ?_ 2 _ rfl; (with_reducible repeat (first | refine bw8 ?_ _ | refine bw9 ?_ | refine bw6 ?_ _)); exact BK218.out⟩, ⟨by repeat (first | (with_reducible first | exact HB.out | apply bw2 | apply bw1 | apply bw3 | refine bw4 ?_ GE212.out | refine bw4 ?_ GE213.out | refine bw4 ?_ GE218.out) | exact HB.out)⟩⟩
             ·rw [if_neg c79] at H
              exact absurd H (by simp)
            ·rw [if_neg c78] at H
             exact absurd H (by simp)
           ·rw [if_neg c76] at H
            exact absurd H (by simp)
          ·rw [if_neg c75] at H
           exact absurd H (by simp)
     ·rw [if_neg c23] at H
      have c23b0 : decide (x219002_1 < a0_0) = false := decide_eq_false c23
      clear c23
      simp only [Option.some.injEq, Prod.mk.injEq] at H
      obtain ⟨rfl, rfl, rfl, rfl⟩ := H
      have hnb92 := NB218_212.out
      have hnc92 := NB212_218.out
      have hnb93 := NB218_213.out
      have hnc93 := NB213_218.out
      have hcz94_0 : wr.cell? ⟨gb218, 0, none⟩ = some (u219000) := (bw5 BK218.out 0).trans rfl
      have hcz94_1 : wr.cell? ⟨gb218, 1, none⟩ = some (.slice Ao14 t214.length co14) := (bw5 BK218.out 1).trans rfl
      have hcz94_2 : wr.cell? ⟨gb218, 2, none⟩ = some (.int .i64 x219002_1) := (bw5 BK218.out 2).trans rfl
      have hfz94_0 := bw7 BK218.out 0
      have hfz94_1 := bw7 BK218.out 1
      have hfz94_2 := bw7 BK218.out 2
      have hnb95 := NB212_213.out
      have hnc95 := NB213_212.out
      have hcz96_0 : wr.cell? ⟨gb212, 0, none⟩ = some (.int .i64 a0_0) := (bw5 BK212.out 0).trans rfl
      have hcz96_1 : wr.cell? ⟨gb212, 1, none⟩ = some (.slice A0_1 l0_1.length c0_1) := (bw5 BK212.out 1).trans rfl
      have hcz96_2 : wr.cell? ⟨gb212, 2, none⟩ = some (.slice A0_2 l0_2.length c0_2) := (bw5 BK212.out 2).trans rfl
      have hcz96_3 : wr.cell? ⟨gb212, 3, none⟩ = some (.slice A0_3 l0_3.length c0_3) := (bw5 BK212.out 3).trans rfl
      have hfz96_0 := bw7 BK212.out 0
      have hfz96_1 := bw7 BK212.out 1
      have hfz96_2 := bw7 BK212.out 2
      have hfz96_3 := bw7 BK212.out 3
      obtain ⟨Ao97, co97, eo97⟩ := Kd.R_slice HO_219000.out
      subst eo97
      have hcz98_0 : wr.cell? ⟨gb213, 0, none⟩ = some (.slice none 0 0) := (bw5 BK213.out 0).trans rfl
      have hcz98_1 : wr.cell? ⟨gb213, 1, none⟩ = some (.slice none 0 0) := (bw5 BK213.out 1).trans rfl
      have hcz98_2 : wr.cell? ⟨gb213, 2, none⟩ = some (.int .i64 x214002_1) := (bw5 BK213.out 2).trans rfl
      have hfz98_0 := bw7 BK213.out 0
      have hfz98_1 := bw7 BK213.out 1
      have hfz98_2 := bw7 BK213.out 2
      go_wp2
      refine bodyPost_ret (results_ct rfl _ _ gb213 54 #[.slice Ao97 x219000_1.length co97, .slice Ao14 t214.length co14, .int .i64 x219002_1] (0, 0) _ rfl (by (with_reducible repeat (first | refine bw8 ?_ _ | refine bw9 ?_ | refine bw6 ?_ _)); refine blk_put (cs := #[.slice Ao97 x219000_1.length co97, .slice Ao14 t214.length co14, .int .i64 x214002_1]) ?_ 2 _ rfl; (with_reducible repeat (first | refine bw8 ?_ _ | refine bw9 ?_ | refine bw6 ?_ _)); refine blk_put (cs := #[.slice Ao97 x219000_1.length co97, .slice none 0 0, .int .i64 x214002_1]) ?_ 1 _ rfl; (with_reducible repeat (first | refine bw8 ?_ _ | refine bw9 ?_ | refine bw6 ?_ _)); refine blk_put (cs := #[.slice none 0 0, .slice none 0 0, .int .i64 x214002_1]) ?_ 0 _ rfl; (with_reducible repeat (first | refine bw8 ?_ _ | refine bw9 ?_ | refine bw6 ?_ _)); exact BK213.out) Tryz.underlying54 rfl (by kernel_rfl)) rfl ?_
      exact ⟨_, _, by first | rfl | (simp [errW_none, errW_some] <;> rfl) | (simp [*, errW_none, errW_some] <;> rfl), by (with_reducible repeat (first | apply Kd.R_alloc | apply Kd.R_drewN | apply Kd.R_drew)); exact Kd.R_mono (Kd.R_far (p := ⟨gb213, 2, none⟩) (Kd.R_far (p := ⟨gb213, 1, none⟩) (Kd.R_far (p := ⟨gb213, 0, none⟩) (Kd.R_types HO_219000.out BK213.out (by decide)) (fun _ hk => hk.2) (.slice Ao97 x219000_1.length co97)) (fun _ hk => hk.2) (.slice Ao14 t214.length co14)) (fun _ hk => hk.2) (.int .i64 x219002_1)) (fun _ hk => hk.1), by (with_reducible repeat (first | apply Kd.R_alloc | apply Kd.R_drewN | apply Kd.R_drew)); exact Kd.R_mono (Kd.R_far (p := ⟨gb213, 2, none⟩) (Kd.R_far (p := ⟨gb213, 1, none⟩) (Kd.R_far (p := ⟨gb213, 0, none⟩) (Kd.R_types HO_219001.out BK213.out (by decide)) (fun _ hk => hk.2) (.slice Ao97 x219000_1.length co97)) (fun _ hk => hk.2) (.slice Ao14 t214.length co14)) (fun _ hk => hk.2) (.int .i64 x219002_1)) (fun _ hk => hk.1), by repeat (first | (with_reducible first | exact HB.out | apply bw2 | apply bw1 | apply bw3 | refine bw4 ?_ GE212.out | refine bw4 ?_ GE213.out | refine bw4 ?_ GE218.out) | exact HB.out)⟩
  ·rw [if_neg c5] at H
   exact absurd H (by simp)
 ·rw [if_neg c4] at H
  exact absurd H (by simp)
end Go.Proofs.YtoanlppfdniiaaaGreatDoor.Q
end
