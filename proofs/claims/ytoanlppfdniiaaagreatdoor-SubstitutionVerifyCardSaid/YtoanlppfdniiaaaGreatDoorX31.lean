/- A part of the proof; no condition. -/
import Derived.Test.YtoanlppfdniiaaaGreatDoorX1
import Derived.Test.YtoanlppfdniiaaaGreatDoorX21
import Derived.Test.YtoanlppfdniiaaaGreatDoorX15
import Derived.Test.YtoanlppfdniiaaaGreatDoorX18
import Derived.Test.YtoanlppfdniiaaaGreatDoorX22
section
namespace Go.Proofs.YtoanlppfdniiaaaGreatDoor.Q
open Go.RowKit Go.Proofs.YtoanlppfdniiaaaGreatDoorW.PrintWords Go.Proofs.YtoanlppfdniiaaaGreatDoorW.PrintLast Go.Proofs.YtoanlppfdniiaaaGreatDoorW.PrintMore
attribute [local go_sem] max2_int min2_int max_two min_two max_three min_three max_four min_four
set_option linter.unusedVariables false
set_option linter.unusedSimpArgs false
attribute [local go_sem high] eqA109
mutual
def giroref35_Verify.l0 : Nat → Int → Int → List (S109) → List ByteArray → List (S109) → List (S109) → List (S109) → Int → Option (Int)
 | 0, _, _, _, _, _, _, _, _ => none
 | k + 1, x5, x395000, x395001, x395002, x395003, x396000, x396001, x396002 => if x5 < (x396000.length : Int) then (if 0 ≤ x5 then ((giroref35_find.f k x395003 ((rd_T109 x396000 x5).f0)).bind fun t397 => (if t397 < 0 then (giroref35_Verify.j1 k x5 true x395000 x395001 x395002 x395003 x396000 x396001 x396002) else (if 0 ≤ t397 then (if t397 < (x395003.length : Int) then (giroref35_Verify.j1 k x5 (!((((rd_T109 x395003 t397).f0).toList) == (((rd_T109 x396000 x5).f0).toList)) || (!(((rd_T109 x395003 t397).f1) == ((rd_T109 x396000 x5).f1)) || (!(((rd_T109 x395003 t397).f2) == ((rd_T109 x396000 x5).f2))))) x395000 x395001 x395002 x395003 x396000 x396001 x396002) else (none)) else (none)))) else (none)) else ((giroref35_Released.f k x395000 x395001 x395002 x395003).bind fun t406 => ((giroref35_SameList.f k x396001 t406).bind fun t409 => (if t409 = true then ((giroref35_Kept.f k x395000 x395001 x395002 x395003).bind fun t410 => ((giroref35_Sum.f k x396000).bind fun t411 => (giroref35_Verify.j2 k (x396002 != (wrap64 (t410 + t411))) x395000 x395001 x395002 x395003 x396000 x396001 x396002))) else (giroref35_Verify.j2 k true x395000 x395001 x395002 x395003 x396000 x396001 x396002))))
def giroref35_Verify.j1 : Nat → Int → Bool → Int → List (S109) → List ByteArray → List (S109) → List (S109) → List (S109) → Int → Option (Int)
 | 0, _, _, _, _, _, _, _, _, _ => none
 | k + 1, x5, x37, x395000, x395001, x395002, x395003, x396000, x396001, x396002 => if x37 = true then (some 9) else (if 0 ≤ x5 then (if x5 ≤ (x396000.length : Int) then (if x5 < (x396000.length : Int) then ((giroref35_find.f k (x396000.take (x5 : Int).toNat) ((rd_T109 x396000 x5).f0)).bind fun t405 => (if t405 ≥ 0 then (some 7) else (giroref35_Verify.l0 k (wrap64 (x5 + 1)) x395000 x395001 x395002 x395003 x396000 x396001 x396002))) else (none)) else (none)) else (none))
def giroref35_Verify.j2 : Nat → Bool → Int → List (S109) → List ByteArray → List (S109) → List (S109) → List (S109) → Int → Option (Int)
 | 0, _, _, _, _, _, _, _, _ => none
 | k + 1, x66, x395000, x395001, x395002, x395003, x396000, x396001, x396002 => if x66 = true then (some 17) else (if x396002 < x395000 then (some 25) else (some 0))
end
def giroref35_Verify.f (k : Nat) (a0_0 : Int) (l0_1 : List (S109)) (l0_2 : List ByteArray) (l0_3 : List (S109)) (l1_0 : List (S109)) (l1_1 : List (S109)) (a1_2 : Int) : Option (Int) := giroref35_Verify.l0 k 0 a0_0 l0_1 l0_2 l0_3 l1_0 l1_1 a1_2
def giroref35_Verify.T4 : Bool × List (List Nat × List Nat) := (true, [([], []), ([0], [0]), ([], []), ([2], [2]), ([], []), ([3, 4], [3, 4]), ([5], [5]), ([6], [6]), ([1, 7], [1, 7]), ([8, 8, 0, 1, 2, 3, 4, 5, 6, 7, 8], [8])])
def giroref35_Verify.B4 : List Nat := [0, 1, 0, 4, 0, 28, 60, 124, 255, 511]
theorem giroref35_Verify.tab4 : rtab .any (opsOf Tryz.f27 4) = giroref35_Verify.T4 := by kernel_rfl
theorem giroref35_Verify.bits4 : waitsOk giroref35_Verify.T4.2 giroref35_Verify.B4 = true := by kernel_rfl
def giroref35_Verify.T5 : Bool × List (List Nat × List Nat) := (true, [([], []), ([0], [0]), ([1], [1]), ([2], [2]), ([3, 2], [2, 3]), ([2], [2]), ([4, 5, 2], [2, 4, 5]), ([6, 2], [2, 6]), ([2], [2]), ([8, 2], [2, 8]), ([2], [2]), ([9, 10, 2], [2, 9, 10]), ([11, 2], [2, 11]), ([7, 12, 2], [2, 7, 12]), ([2, 13], [2, 13])])
def giroref35_Verify.B5 : List Nat := [0, 1, 3, 7, 15, 7, 63, 127, 7, 263, 7, 1799, 3847, 8191, 16383]
theorem giroref35_Verify.tab5 : rtab .any (opsOf Tryz.f27 5) = giroref35_Verify.T5 := by kernel_rfl
theorem giroref35_Verify.bits5 : waitsOk giroref35_Verify.T5.2 giroref35_Verify.B5 = true := by kernel_rfl
def giroref35_Verify.T7 : Bool × List (List Nat × List Nat) := (true, [([], []), ([0], [0]), ([], []), ([1, 2], [1, 2]), ([], []), ([4], [4]), ([], []), ([5, 6], [5, 6]), ([7], [7]), ([8], [8]), ([3, 9], [3, 9]), ([10], [10])])
def giroref35_Verify.B7 : List Nat := [0, 1, 0, 7, 0, 16, 0, 112, 240, 496, 1023, 2047]
theorem giroref35_Verify.tab7 : rtab .any (opsOf Tryz.f27 7) = giroref35_Verify.T7 := by kernel_rfl
theorem giroref35_Verify.bits7 : waitsOk giroref35_Verify.T7.2 giroref35_Verify.B7 = true := by kernel_rfl
def giroref35_Verify.T9 : Bool × List (List Nat × List Nat) := (true, [([], []), ([0], [0]), ([], []), ([2], [2]), ([1, 3, 3], [1, 3]), ([4], [4]), ([5, 4], [5]), ([6], [6]), ([7, 6], [6, 7]), ([6], [6]), ([9, 6, 6], [6, 9]), ([6], [6]), ([11, 6], [6, 11]), ([12, 10, 6], [6, 12]), ([10, 13, 6], [6, 10, 13]), ([8, 14, 6], [6, 8, 14]), ([6, 15], [6, 15])])
def giroref35_Verify.B9 : List Nat := [0, 1, 0, 4, 15, 31, 63, 127, 255, 127, 639, 127, 2175, 7807, 15999, 32767, 65535]
theorem giroref35_Verify.tab9 : rtab .any (opsOf Tryz.f27 9) = giroref35_Verify.T9 := by kernel_rfl
theorem giroref35_Verify.bits9 : waitsOk giroref35_Verify.T9.2 giroref35_Verify.B9 = true := by kernel_rfl
abbrev zb16 : Array Bool := #[false,false,false,false,false,false,false,false,false,false,false,false,false,false,false]
abbrev zb17 : Array Bool := #[true,false,false,false,false,false,false,false,false,false,false,false,false,false,false]
abbrev zb18 : Array Bool := #[true,true,false,false,false,false,false,false,false,false,false,false,false,false,false]
abbrev zb19 : Array Bool := #[true,true,true,false,false,false,false,false,false,false,false,false,false,false,false]
abbrev zb20 : Array Bool := #[true,true,true,true,false,false,false,false,false,false,false,false,false,false,false]
abbrev zb21 : Array Bool := #[true,true,true,true,true,true,true,true,true,true,true,false,false,false,false]
abbrev zb22 : Array Bool := #[true,true,true,true,true,true,true,true,true,true,true,true,false,false,false]
abbrev zb23 : Array Bool := #[true,true,true,true,true,true,true,true,true,true,true,true,true,false,false]
abbrev zb24 : Array Bool := #[true,true,true,true,true,true,true,true,true,true,true,true,true,true,false]
abbrev zb25 : Array Bool := #[true,true,true,true,true,true,true,true,true,true,true,true,true,true,true]
abbrev zb26 : Array Bool := #[false,false,false,false,false,false,false,false,false,false,false,false]
abbrev zb27 : Array Bool := #[true,false,false,false,false,false,false,false,false,false,false,false]
abbrev zb28 : Array Bool := #[true,false,true,false,false,false,false,false,false,false,false,false]
abbrev zb29 : Array Bool := #[true,false,true,false,true,false,false,false,false,false,false,false]
abbrev zb30 : Array Bool := #[true,false,true,false,true,false,true,false,false,false,false,false]
abbrev zb31 : Array Bool := #[true,true,true,false,true,false,true,false,false,false,false,false]
abbrev zb32 : Array Bool := #[true,true,true,true,true,false,true,false,false,false,false,false]
abbrev zb33 : Array Bool := #[true,true,true,true,true,true,true,false,false,false,false,false]
abbrev zb34 : Array Bool := #[true,true,true,true,true,true,true,true,false,false,false,false]
abbrev zb35 : Array Bool := #[true,true,true,true,true,true,true,true,true,false,false,false]
abbrev zb36 : Array Bool := #[true,true,true,true,true,true,true,true,true,true,false,false]
abbrev zb37 : Array Bool := #[true,true,true,true,true,true,true,true,true,true,true,false]
abbrev zb38 : Array Bool := #[true,true,true,true,true,true,true,true,true,true,true,true]
abbrev zb39 : Array Bool := #[false,false,false,false,false,false,false,false,false,false,false,false,false,false,false,false,false]
abbrev zb40 : Array Bool := #[true,false,false,false,false,false,false,false,false,false,false,false,false,false,false,false,false]
abbrev zb41 : Array Bool := #[true,true,false,false,false,false,false,false,false,false,false,false,false,false,false,false,false]
abbrev zb42 : Array Bool := #[true,true,true,false,false,false,false,false,false,false,false,false,false,false,false,false,false]
abbrev zb43 : Array Bool := #[true,true,true,true,false,false,false,false,false,false,false,false,false,false,false,false,false]
abbrev zb44 : Array Bool := #[true,true,true,true,true,false,false,false,false,false,false,false,false,false,false,false,false]
abbrev zb45 : Array Bool := #[true,true,true,true,true,true,false,false,false,false,false,false,false,false,false,false,false]
abbrev zb46 : Array Bool := #[true,true,true,true,true,true,true,false,false,false,false,false,false,false,false,false,false]
abbrev zb47 : Array Bool := #[true,true,true,true,true,true,true,true,false,false,false,false,false,false,false,false,false]
abbrev zb48 : Array Bool := #[true,true,true,true,true,true,true,true,true,true,true,true,true,false,false,false,false]
abbrev zb49 : Array Bool := #[true,true,true,true,true,true,true,true,true,true,true,true,true,true,false,false,false]
abbrev zb50 : Array Bool := #[true,true,true,true,true,true,true,true,true,true,true,true,true,true,true,false,false]
abbrev zb51 : Array Bool := #[true,true,true,true,true,true,true,true,true,true,true,true,true,true,true,true,false]
abbrev zb52 : Array Bool := #[true,true,true,true,true,true,true,true,true,true,true,true,true,true,true,true,true]
set_option maxHeartbeats 8000000 in
set_option maxRecDepth 100000 in
theorem giroref35_Verify.calls (k : Nat) (a0_0 : Int) (A0_1 : Option Addr) (c0_1 : Nat) (l0_1 : List (S109)) (A0_2 : Option Addr) (c0_2 : Nat) (l0_2 : List ByteArray) (A0_3 : Option Addr) (c0_3 : Nat) (l0_3 : List (S109)) (A1_0 : Option Addr) (c1_0 : Nat) (l1_0 : List (S109)) (A1_1 : Option Addr) (c1_1 : Nat) (l1_1 : List (S109)) (a1_2 : Int) (r : Int) (w : World) (hr0_1 : Kd.C k109 w A0_1 l0_1.length l0_1) (hc0_1 : l0_1.length ≤ c0_1) (hr0_2 : Kd.C Kd.string w A0_2 l0_2.length l0_2) (hc0_2 : l0_2.length ≤ c0_2) (hr0_3 : Kd.C k109 w A0_3 l0_3.length l0_3) (hc0_3 : l0_3.length ≤ c0_3) (hr1_0 : Kd.C k109 w A1_0 l1_0.length l1_0) (hc1_0 : l1_0.length ≤ c1_0) (hr1_1 : Kd.C k109 w A1_1 l1_1.length l1_1) (hc1_1 : l1_1.length ≤ c1_1) (h : giroref35_Verify.f k a0_0 l0_1 l0_2 l0_3 l1_0 l1_1 a1_2 = some r) :
  Calls Tryz.prog 27 #[.agg #[.int .i64 a0_0, .slice A0_1 l0_1.length c0_1, .slice A0_2 l0_2.length c0_2, .slice A0_3 l0_3.length c0_3], .agg #[.slice A1_0 l1_0.length c1_0, .slice A1_1 l1_1.length c1_1, .int .i64 a1_2]] w fun e w' => e = .returned (.int .i64 r) ∧ Below w.heap.size w w' := by
 have hu49 := Tryz.underlying49
 have hu54 := Tryz.underlying54
 have hu109 := Tryz.underlying109
 have HR0_1 := Aside0.mk hr0_1
 have HC0_1 := Aside0.mk hc0_1
 clear hr0_1 hc0_1
 have HR0_2 := Aside0.mk hr0_2
 have HC0_2 := Aside0.mk hc0_2
 clear hr0_2 hc0_2
 have HR0_3 := Aside0.mk hr0_3
 have HC0_3 := Aside0.mk hc0_3
 clear hr0_3 hc0_3
 have HR1_0 := Aside0.mk hr1_0
 have HC1_0 := Aside0.mk hc1_0
 clear hr1_0 hc1_0
 have HR1_1 := Aside0.mk hr1_1
 have HC1_1 := Aside0.mk hc1_1
 clear hr1_1 hc1_1
 have HB := Aside0.mk (Below.refl w.heap.size w)
 have H : (giroref35_Verify.l0 k 0 a0_0 l0_1 l0_2 l0_3 l1_0 l1_1 a1_2) = some r := h
 clear h
 have H' := Aside0.mk H
 clear H
 go_enter Tryz.func27, Tryz.ntmps27
 go_wp2_with (first | ((with_reducible refine gate_dst (N := 2) rfl ?_); refine box_event ?hg (N := 2) ?hd (cs := #[.int .i64 a0_0, .slice A0_1 l0_1.length c0_1, .slice A0_2 l0_2.length c0_2, .slice A0_3 l0_3.length c0_3]) (t := 49) ?hr ?_; (case hd => rfl); (case hg => rfl); (case hr => first | (go_simp; done) | (go_simp; rfl)); intro gb394 hg w3 hbox hb; have n0_ := Aside0.mk (bx2 (by repeat (first | (with_reducible first | exact HB.out | apply bw2 | apply bw1 | apply bw3) | exact HB.out)) hb); have n1_ := Aside0.mk (hbox); have n2_ := Aside0.mk ((by rw [hg]; exact (bx3 (by repeat (first | (with_reducible first | exact HB.out | apply bw2 | apply bw1 | apply bw3) | exact HB.out))) : w.heap.size ≤ gb394)); have n3_ := Aside0.mk ((by rw [hg]; exact (bx3 (by repeat (first | (with_reducible first | exact HB.out | apply bw2 | apply bw1 | apply bw3) | exact HB.out))) : w.heap.size ≤ gb394)); clear HB; have HB := n0_; have BK394 := n1_; have GW394 := n2_; have GE394 := n3_; clear n0_ n1_ n2_ n3_; clear hb hbox hg) | ((with_reducible refine gate_dst (N := 3) rfl ?_); refine box_event ?hg (N := 3) ?hd (cs := #[.slice A1_0 l1_0.length c1_0, .slice A1_1 l1_1.length c1_1, .int .i64 a1_2]) (t := 54) ?hr ?_; (case hd => rfl); (case hg => rfl); (case hr => first | (go_simp; done) | (go_simp; rfl)); intro gb395 hg w4 hbox hb; have n0_ := Aside0.mk (bx1 (g := gb394) (o := .cells #[.int .i64 a0_0, .slice A0_1 l0_1.length c0_1, .slice A0_2 l0_2.length c0_2, .slice A0_3 l0_3.length c0_3] 49 (0, 0)) (by (with_reducible repeat (first | refine bw8 ?_ _ | refine bw9 ?_ | refine bw6 ?_ _)); exact BK394.out) hb); have n1_ := Aside0.mk (bx2 (by repeat (first | (with_reducible first | exact HB.out | apply bw2 | apply bw1 | apply bw3 | refine bw4 ?_ GE394.out) | exact HB.out)) hb); have n2_ := Aside0.mk (hbox); have n3_ := Aside0.mk ((by rw [hg]; exact (bx3 (by repeat (first | (with_reducible first | exact HB.out | apply bw2 | apply bw1 | apply bw3 | refine bw4 ?_ GE394.out) | exact HB.out))) : w.heap.size ≤ gb395)); have n4_ := Aside0.mk ((by rw [hg]; exact (bx3 (by repeat (first | (with_reducible first | exact HB.out | apply bw2 | apply bw1 | apply bw3 | refine bw4 ?_ GE394.out) | exact HB.out))) : w.heap.size ≤ gb395)); have n5_ := Aside0.mk ((by rw [hg]; exact Nat.ne_of_lt (blk_lt (g := gb394) (o := .cells #[.int .i64 a0_0, .slice A0_1 l0_1.length c0_1, .slice A0_2 l0_2.length c0_2, .slice A0_3 l0_3.length c0_3] 49 (0, 0)) (by (with_reducible repeat (first | refine bw8 ?_ _ | refine bw9 ?_ | refine bw6 ?_ _)); exact BK394.out)) : gb394 ≠ gb395)); have n6_ := Aside0.mk ((by rw [hg]; exact Nat.ne_of_gt (blk_lt (g := gb394) (o := .cells #[.int .i64 a0_0, .slice A0_1 l0_1.length c0_1, .slice A0_2 l0_2.length c0_2, .slice A0_3 l0_3.length c0_3] 49 (0, 0)) (by (with_reducible repeat (first | refine bw8 ?_ _ | refine bw9 ?_ | refine bw6 ?_ _)); exact BK394.out)) : gb395 ≠ gb394)); clear BK394; clear HB; have BK394 := n0_; have HB := n1_; have BK395 := n2_; have GW395 := n3_; have GE395 := n4_; have NB394_395 := n5_; have NB395_394 := n6_; clear n0_ n1_ n2_ n3_ n4_ n5_ n6_; clear hb hbox hg))
 go_loopg [5] k (fun kq v5 w' => ∃ (x5_1 : Int), v5 = .int .i64 x5_1 ∧ Aside0 (giroref35_Verify.l0 kq x5_1 a0_0 l0_1 l0_2 l0_3 l1_0 l1_1 a1_2 = some r) ∧ Aside0 (kq ≤ k) ∧ Aside0 (w'.heap[gb394]? = some (.cells #[.int .i64 a0_0, (.slice A0_1 l0_1.length c0_1), (.slice A0_2 l0_2.length c0_2), (.slice A0_3 l0_3.length c0_3)] 49 (0, 0))) ∧ Aside0 (w'.heap[gb395]? = some (.cells #[(.slice A1_0 l1_0.length c1_0), (.slice A1_1 l1_1.length c1_1), .int .i64 a1_2] 54 (0, 0))) ∧ Aside0 (Below w.heap.size w w'))
 case atStart => exact ⟨(0), (by first | rfl | (simp; done) | (simp [*]; done)), H', ⟨Nat.le_refl _⟩, ⟨by (with_reducible repeat (first | refine bw8 ?_ _ | refine bw9 ?_ | refine bw6 ?_ _)); exact BK394.out⟩, ⟨by (with_reducible repeat (first | refine bw8 ?_ _ | refine bw9 ?_ | refine bw6 ?_ _)); exact BK395.out⟩, ⟨by repeat (first | (with_reducible first | exact HB.out | apply bw2 | apply bw1 | apply bw3 | refine bw4 ?_ GE394.out | refine bw4 ?_ GE395.out) | exact HB.out)⟩⟩
 case round =>
  clear H'
  try clear c1
  try clear c2
  try clear p2
  obtain ⟨x5_1, rfl, HA, HK1, BK394, BK395, HB⟩ := hrel
  cases gk with
  | zero => exact absurd HA.out (by simp [giroref35_Verify.l0])
  | succ k1 =>
   have H := HA.out
   clear HA
   simp only [giroref35_Verify.l0] at H
   by_cases c5 : x5_1 < (l1_0.length : Int)
   ·rw [if_pos c5] at H
    have c5b0 : decide (x5_1 < (l1_0.length : Int)) = true := decide_eq_true c5
    clear c5
    by_cases c6 : 0 ≤ x5_1
    ·rw [if_pos c6] at H
     have c6b0 : decide (0 ≤ x5_1) = true := decide_eq_true c6
     clear c6
     replace H := Option.bind_eq_some_iff.mp H
     obtain ⟨t397, A70, H⟩ := H
     replace H : (if t397 < 0 then (giroref35_Verify.j1 k1 x5_1 true a0_0 l0_1 l0_2 l0_3 l1_0 l1_1 a1_2) else (if 0 ≤ t397 then (if t397 < (l0_3.length : Int) then (giroref35_Verify.j1 k1 x5_1 (!((((rd_T109 l0_3 t397).f0).toList) == (((rd_T109 l1_0 x5_1).f0).toList)) || (!(((rd_T109 l0_3 t397).f1) == ((rd_T109 l1_0 x5_1).f1)) || (!(((rd_T109 l0_3 t397).f2) == ((rd_T109 l1_0 x5_1).f2))))) a0_0 l0_1 l0_2 l0_3 l1_0 l1_1 a1_2) else (none)) else (none))) = some r := H
     have A7 := Aside0.mk A70
     clear A70
     have HC8 := Aside0.mk H
     clear H
     have hnb9 := NB395_394.out
     have hnc9 := NB394_395.out
     have hcz10_0 : wr.cell? ⟨gb395, 0, none⟩ = some (.slice A1_0 l1_0.length c1_0) := (bw5 BK395.out 0).trans rfl
     have hcz10_1 : wr.cell? ⟨gb395, 1, none⟩ = some (.slice A1_1 l1_1.length c1_1) := (bw5 BK395.out 1).trans rfl
     have hcz10_2 : wr.cell? ⟨gb395, 2, none⟩ = some (.int .i64 a1_2) := (bw5 BK395.out 2).trans rfl
     have hfz10_0 := bw7 BK395.out 0
     have hfz10_1 := bw7 BK395.out 1
     have hfz10_2 := bw7 BK395.out 2
     try go_wp2
     have n0_ := Aside0.mk (bw9 BK394.out)
     have n1_ := Aside0.mk (bw9 BK395.out)
     have n2_ := Aside0.mk (bw3 HB.out)
     clear BK394; clear BK395; clear HB; have BK394 := n0_; have BK395 := n1_; have HB := n2_; clear n0_ n1_ n2_
     have p396 : 0 ≤ (x5_1 : Int) := of_decide_eq_true (by first | (with_reducible assumption) | assumption)
     have q396 : x5_1 < (l1_0.length : Int) := of_decide_eq_true (by first | (with_reducible assumption) | assumption)
     obtain ⟨ad396, e396, hx396_0, hx396_1, hx396_2⟩ := at_T109 HR1_0.out x5_1 p396 q396
     have hw396_2 := hx396_2
     have hw396_1 := hx396_1
     have hw396_0 := hx396_0
     cases e396
     replace hx396_0 := (HB.out.cell (World.block_lt_of_cell? w _ hx396_0)).trans hx396_0
     replace hx396_1 := (HB.out.cell (World.block_lt_of_cell? w _ hx396_1)).trans hx396_1
     replace hx396_2 := (HB.out.cell (World.block_lt_of_cell? w _ hx396_2)).trans hx396_2
     replace p396 := eq_true p396
     replace q396 := eq_true q396
     refine start_ (n := 10) (S := fun w' => w'.cell? ⟨gb394, 0, none⟩ = some (.int .i64 a0_0) ∧ w'.cell? ⟨gb394, 1, none⟩ = some (.slice A0_1 l0_1.length c0_1) ∧ w'.cell? ⟨gb394, 2, none⟩ = some (.slice A0_2 l0_2.length c0_2) ∧ w'.cell? ⟨gb394, 3, none⟩ = some (.slice A0_3 l0_3.length c0_3) ∧ w'.cell? ⟨gb395, 0, none⟩ = some (.slice (some ad396) l1_0.length c1_0) ∧ w'.cell? ⟨gb395, 1, none⟩ = some (.slice A1_1 l1_1.length c1_1) ∧ w'.cell? ⟨gb395, 2, none⟩ = some (.int .i64 a1_2) ∧ w'.cell? (ad396.add ((x5_1).toNat * 3)) = some (.string ((rd_T109 l1_0 x5_1).f0)) ∧ w'.cell? ⟨(ad396.add ((x5_1).toNat * 3)).block, (ad396.add ((x5_1).toNat * 3)).off + 1, none⟩ = some (.int .i64 ((rd_T109 l1_0 x5_1).f1)) ∧ w'.cell? ⟨(ad396.add ((x5_1).toNat * 3)).block, (ad396.add ((x5_1).toNat * 3)).off + 2, none⟩ = some (.int .i64 ((rd_T109 l1_0 x5_1).f2))) (ds := []) #[false,false,false,false,false,false,false,false,false,false] (by kernel_rfl) rfl rfl ⟨(bw5 BK394.out 0).trans rfl, (bw5 BK394.out 1).trans rfl, (bw5 BK394.out 2).trans rfl, (bw5 BK394.out 3).trans rfl, (bw5 BK395.out 0).trans rfl, (bw5 BK395.out 1).trans rfl, (bw5 BK395.out 2).trans rfl, ((HB.out.cell (World.block_lt_of_cell? w _ hw396_0)).trans hw396_0), ((HB.out.cell (World.block_lt_of_cell? w _ hw396_1)).trans hw396_1), ((HB.out.cell (World.block_lt_of_cell? w _ hw396_2)).trans hw396_2)⟩ (fun hHeld => ?_); refine with_tabW giroref35_Verify.tab4 giroref35_Verify.bits4 (fun HT_ HW_ => ?_)
     generalize wr.drew = w11 at BK394 BK395 HB hx396_0 hx396_1 hx396_2 hHeld ⊢
     refine pure_ (i := 0) (N := some 14) (v := ?_) (a' := ?_) #[true,false,false,false,false,false,false,false,false,false] rfl rfl (any_of HT_.out (by kernel_rfl)) (fun _ _ _ h => h) (Or.inl ⟨by rfl, ?_⟩) ?_ ?_
     rotate_left
     ·intro w'; go_simp; (with_reducible rfl)
     rotate_left
     ·simp only [Act.put, zA_, zB_, zC_, i64_w, i32_w]; rfl
     refine pure_ (i := 2) (N := some 16) (v := ?_) (a' := ?_) #[true,false,true,false,false,false,false,false,false,false] rfl rfl (any_of HT_.out (by kernel_rfl)) (fun _ _ _ h => h) (Or.inl ⟨by rfl, ?_⟩) ?_ ?_
     rotate_left
     ·intro w'; go_simp; (with_reducible rfl)
     rotate_left
     ·simp only [Act.put, zA_, zB_, zC_, i64_w, i32_w]; rfl
     refine pure_ (i := 4) (N := some 18) (v := ?_) (a' := ?_) #[true,false,true,false,true,false,false,false,false,false] rfl rfl (any_of HT_.out (by kernel_rfl)) (fun _ _ _ h => h) (Or.inl ⟨by rfl, ?_⟩) ?_ ?_
     rotate_left
     ·intro w'; go_simp; (with_reducible rfl)
     rotate_left
     ·simp only [Act.put, zA_, zB_, zC_, i64_w, i32_w]; rfl
     refine take_ (i := 1) (N := some 15) (v := ?_) (a' := ?_) #[true,true,true,false,true,false,false,false,false,false] rfl rfl (take_ofW HT_.out HW_.out (by kernel_rfl)) (fun _ _ _ h => h) (Or.inl ⟨by rfl, ?_⟩) hHeld ?_ ?_
     rotate_left
     ·rintro w' ⟨s0, s1, s2, s3, s4, s5, s6, s7, s8, s9⟩
      go_simp; (with_reducible rfl)
     rotate_left
     ·simp only [Act.put, zA_, zB_, zC_, i64_w, i32_w]; rfl
     refine take_ (i := 3) (N := some 17) (v := ?_) (a' := ?_) #[true,true,true,true,true,false,false,false,false,false] rfl rfl (take_ofW HT_.out HW_.out (by kernel_rfl)) (fun _ _ _ h => h) (Or.inl ⟨by rfl, ?_⟩) hHeld ?_ ?_
     rotate_left
     ·rintro w' ⟨s0, s1, s2, s3, s4, s5, s6, s7, s8, s9⟩
      go_simp; (with_reducible rfl)
     rotate_left
     ·simp only [Act.put, zA_, zB_, zC_, i64_w, i32_w]; rfl
     refine pure_ (i := 5) (N := some 19) (v := ?_) (a' := ?_) #[true,true,true,true,true,true,false,false,false,false] rfl rfl (any_of HT_.out (by kernel_rfl)) (fun _ _ _ h => h) (Or.inl ⟨by rfl, ?_⟩) ?_ ?_
     rotate_left
     ·intro w'; go_simp; (with_reducible rfl)
     rotate_left
     ·simp only [Act.put, zA_, zB_, zC_, i64_w, i32_w]; rfl
     refine pure_ (i := 6) (N := some 20) (v := ?_) (a' := ?_) #[true,true,true,true,true,true,true,false,false,false] rfl rfl (any_of HT_.out (by kernel_rfl)) (fun _ _ _ h => h) (Or.inl ⟨by rfl, ?_⟩) ?_ ?_
     rotate_left
     ·intro w'; go_simp; (with_reducible rfl)
     rotate_left
     ·simp only [Act.put, zA_, zB_, zC_, i64_w, i32_w]; rfl
     refine take_ (i := 7) (N := some 21) (v := ?_) (a' := ?_) #[true,true,true,true,true,true,true,true,false,false] rfl rfl (take_ofW HT_.out HW_.out (by kernel_rfl)) (fun _ _ _ h => h) (Or.inl ⟨by rfl, ?_⟩) hHeld ?_ ?_
     rotate_left
     ·rintro w' ⟨s0, s1, s2, s3, s4, s5, s6, s7, s8, s9⟩
      go_simp; (with_reducible rfl)
     rotate_left
     ·simp only [Act.put, zA_, zB_, zC_, i64_w, i32_w]; rfl
     refine one_ (i := 8) (N := some 22) #[true,true,true,true,true,true,true,true,true,false] rfl rfl (one_of HT_.out (by kernel_rfl)) (by decide) (fun K hK => ?_)
     refine goes_ Tryz.func56 (by kernel_rfl) rfl #[.slice A0_3 l0_3.length c0_3, .string ((rd_T109 l1_0 x5_1).f0)] (by rfl) rfl rfl (by (try simp only [List.map_toArray, List.map_cons, List.map_nil]); first | done | rfl | (simp only [List.length_drop, List.length_take]; rfl)) ?_
     with_reducible refine (giroref35_find.calls k1 _ _ l0_3 ((rd_T109 l1_0 x5_1).f0) t397 _ ?side1 ?side2 A7.out).mono ?_
     (case side1 => repeat (first | exact (Kd.C_below HR0_3.out HB.out) | with_reducible first | refine Kd.C_alloc ?_ _ | refine Kd.C_drewN ?_ _ | refine Kd.C_drew ?_))
     (case side2 => exact HC0_3.out)
     rintro e w' ⟨rfl, ⟨nd, rfl⟩⟩
     refine ⟨_, rfl, ?_⟩
     refine hK.out _ _ ⟨(bw5 BK394.out 0).trans rfl, (bw5 BK394.out 1).trans rfl, (bw5 BK394.out 2).trans rfl, (bw5 BK394.out 3).trans rfl, (bw5 BK395.out 0).trans rfl, (bw5 BK395.out 1).trans rfl, (bw5 BK395.out 2).trans rfl, ((HB.out.cell (World.block_lt_of_cell? w _ hw396_0)).trans hw396_0), ((HB.out.cell (World.block_lt_of_cell? w _ hw396_1)).trans hw396_1), ((HB.out.cell (World.block_lt_of_cell? w _ hw396_2)).trans hw396_2)⟩ (fun hHeld => ?_)
     clear hK K
     refine norm_ (a' := ?_) ?_ ?_
     rotate_left
     ·show Act.put _ (some 22) _ = _; simp only [Act.put, zA_, zB_, zC_, i64_w, i32_w]; rfl
     refine pure_ (i := 9) (N := some 6) (v := ?_) (a' := ?_) #[true,true,true,true,true,true,true,true,true,true] rfl rfl (any_of HT_.out (by kernel_rfl)) (fun _ _ _ h => h) (Or.inl ⟨by rfl, ?_⟩) ?_ ?_
     rotate_left
     ·intro w'; go_simp; (with_reducible rfl)
     rotate_left
     ·simp only [Act.put, zA_, zB_, zC_, i64_w, i32_w]; rfl
     refine done_ (done_of HT_.out (by kernel_rfl)) ?_
     go_upto_region 5 with (fail)
     go_cut [37] (fun v37 wc => ∃ (kq : Nat) (x37_7 : Bool), v37 = .bool x37_7 ∧ Aside0 (giroref35_Verify.j1 kq x5_1 x37_7 a0_0 l0_1 l0_2 l0_3 l1_0 l1_1 a1_2 = some r) ∧ Aside0 (kq ≤ k1) ∧ Aside0 (wc.heap[gb394]? = some (.cells #[.int .i64 a0_0, (.slice A0_1 l0_1.length c0_1), (.slice A0_2 l0_2.length c0_2), (.slice A0_3 l0_3.length c0_3)] 49 (0, 0))) ∧ Aside0 (wc.heap[gb395]? = some (.cells #[(.slice (some ad396) l1_0.length c1_0), (.slice A1_1 l1_1.length c1_1), .int .i64 a1_2] 54 (0, 0))) ∧ Aside0 (Below w.heap.size w wc))
     case first =>
      have H := HC8.out
      clear HC8
      by_cases c12 : t397 < 0
      ·rw [if_pos c12] at H
       have c12b0 : decide (t397 < 0) = true := decide_eq_true c12
       clear c12
       (first | rw [c12b0] | (simp only [i64_w, i32_w]; rw [c12b0]) | skip)
       have H' := Aside0.mk H
       clear H
       try go_wp2
       have BK394_ := BK394
       have BK395_ := BK395
       have HB0_ := HB
       have n0_ := Aside0.mk (bw9 BK394.out)
       have n1_ := Aside0.mk (bw9 BK395.out)
       have n2_ := Aside0.mk (bw3 HB.out)
       clear BK394; clear BK395; clear HB; have BK394 := n0_; have BK395 := n1_; have HB := n2_; clear n0_ n1_ n2_
       refine start_ (n := 15) (S := fun w' => True) (ds := []) zb16 (by kernel_rfl) rfl rfl trivial (fun hHeld => ?_); refine with_tabW giroref35_Verify.tab5 giroref35_Verify.bits5 (fun HT_ HW_ => ?_)
       generalize w11.drew = w13 at BK394 BK395 HB hHeld ⊢
       refine pure_ (i := 0) (N := some 23) (v := ?_) (a' := ?_) zb17 rfl rfl (any_of HT_.out (by kernel_rfl)) (fun _ _ _ h => h) (Or.inl ⟨by rfl, ?_⟩) ?_ ?_
       rotate_left
       ·intro w'; go_simp; (with_reducible rfl)
       rotate_left
       ·simp only [Act.put, zA_, zB_, zC_, i64_w, i32_w]; rfl
       refine pure_ (i := 1) (N := some 24) (v := ?_) (a' := ?_) zb18 rfl rfl (any_of HT_.out (by kernel_rfl)) (fun _ _ _ h => h) (Or.inl ⟨by rfl, ?_⟩) ?_ ?_
       rotate_left
       ·intro w'; go_simp; (with_reducible rfl)
       rotate_left
       ·simp only [Act.put, zA_, zB_, zC_, i64_w, i32_w]; rfl
       refine pure_ (i := 2) (N := some 25) (v := ?_) (a' := ?_) zb19 rfl rfl (any_of HT_.out (by kernel_rfl)) (fun _ _ _ h => h) (Or.inl ⟨by rfl, ?_⟩) ?_ ?_
       rotate_left
       ·intro w'; go_simp; (with_reducible rfl)
       rotate_left
       ·simp only [Act.put, zA_, zB_, zC_, i64_w, i32_w]; rfl
       refine pure_ (i := 3) (N := some 26) (v := undef) (a' := ?_) zb20 rfl rfl (any_of HT_.out (by kernel_rfl)) (fun _ _ _ h => h) (Or.inr ⟨by rfl, rfl⟩) ?_ ?_
       rotate_left
       ·simp only [Act.put, zA_, zB_, zC_, i64_w, i32_w]; rfl
       refine pure_ (i := 4) (N := some 27) (v := undef) (a' := ?_) #[true,true,true,true,true,false,false,false,false,false,false,false,false,false,false] rfl rfl (any_of HT_.out (by kernel_rfl)) (fun _ _ _ h => h) (Or.inr ⟨by rfl, rfl⟩) ?_ ?_
       rotate_left
       ·simp only [Act.put, zA_, zB_, zC_, i64_w, i32_w]; rfl
       refine pure_ (i := 5) (N := some 28) (v := undef) (a' := ?_) #[true,true,true,true,true,true,false,false,false,false,false,false,false,false,false] rfl rfl (any_of HT_.out (by kernel_rfl)) (fun _ _ _ h => h) (Or.inr ⟨by rfl, rfl⟩) ?_ ?_
       rotate_left
       ·simp only [Act.put, zA_, zB_, zC_, i64_w, i32_w]; rfl
       refine pure_ (i := 6) (N := some 29) (v := undef) (a' := ?_) #[true,true,true,true,true,true,true,false,false,false,false,false,false,false,false] rfl rfl (any_of HT_.out (by kernel_rfl)) (fun _ _ _ h => h) (Or.inr ⟨by rfl, rfl⟩) ?_ ?_
       rotate_left
       ·simp only [Act.put, zA_, zB_, zC_, i64_w, i32_w]; rfl
       refine pure_ (i := 7) (N := some 30) (v := undef) (a' := ?_) #[true,true,true,true,true,true,true,true,false,false,false,false,false,false,false] rfl rfl (any_of HT_.out (by kernel_rfl)) (fun _ _ _ h => h) (Or.inr ⟨by rfl, rfl⟩) ?_ ?_
       rotate_left
       ·simp only [Act.put, zA_, zB_, zC_, i64_w, i32_w]; rfl
       refine pure_ (i := 8) (N := some 31) (v := undef) (a' := ?_) #[true,true,true,true,true,true,true,true,true,false,false,false,false,false,false] rfl rfl (any_of HT_.out (by kernel_rfl)) (fun _ _ _ h => h) (Or.inr ⟨by rfl, rfl⟩) ?_ ?_
       rotate_left
       ·simp only [Act.put, zA_, zB_, zC_, i64_w, i32_w]; rfl
       refine pure_ (i := 9) (N := some 32) (v := undef) (a' := ?_) #[true,true,true,true,true,true,true,true,true,true,false,false,false,false,false] rfl rfl (any_of HT_.out (by kernel_rfl)) (fun _ _ _ h => h) (Or.inr ⟨by rfl, rfl⟩) ?_ ?_
       rotate_left
       ·simp only [Act.put, zA_, zB_, zC_, i64_w, i32_w]; rfl
       refine pure_ (i := 10) (N := some 33) (v := undef) (a' := ?_) zb21 rfl rfl (any_of HT_.out (by kernel_rfl)) (fun _ _ _ h => h) (Or.inr ⟨by rfl, rfl⟩) ?_ ?_
       rotate_left
       ·simp only [Act.put, zA_, zB_, zC_, i64_w, i32_w]; rfl
       refine pure_ (i := 11) (N := some 34) (v := undef) (a' := ?_) zb22 rfl rfl (any_of HT_.out (by kernel_rfl)) (fun _ _ _ h => h) (Or.inr ⟨by rfl, rfl⟩) ?_ ?_
       rotate_left
       ·simp only [Act.put, zA_, zB_, zC_, i64_w, i32_w]; rfl
       refine pure_ (i := 12) (N := some 35) (v := undef) (a' := ?_) zb23 rfl rfl (any_of HT_.out (by kernel_rfl)) (fun _ _ _ h => h) (Or.inr ⟨by rfl, rfl⟩) ?_ ?_
       rotate_left
       ·simp only [Act.put, zA_, zB_, zC_, i64_w, i32_w]; rfl
       refine pure_ (i := 13) (N := some 36) (v := undef) (a' := ?_) zb24 rfl rfl (any_of HT_.out (by kernel_rfl)) (fun _ _ _ h => h) (Or.inr ⟨by rfl, rfl⟩) ?_ ?_
       rotate_left
       ·simp only [Act.put, zA_, zB_, zC_, i64_w, i32_w]; rfl
       refine pure_ (i := 14) (N := some 37) (v := ?_) (a' := ?_) zb25 rfl rfl (any_of HT_.out (by kernel_rfl)) (fun _ _ _ h => h) (Or.inl ⟨by rfl, ?_⟩) ?_ ?_
       rotate_left
       ·intro w'; go_simp; (with_reducible rfl)
       rotate_left
       ·simp only [Act.put, zA_, zB_, zC_, i64_w, i32_w]; rfl
       refine done_ (done_of HT_.out (by kernel_rfl)) ?_
       try go_wp2
       go_meet
       case rel => exact ⟨_, (true), (by first | rfl | (simp; done) | (simp [*]; done)), H', ⟨by have := HK1.out; first | omega | exact Nat.le_refl _⟩, ⟨by first | exact BK394_.out | ((with_reducible repeat (first | refine bw8 ?_ _ | refine bw9 ?_ | refine bw6 ?_ _)); exact BK394.out)⟩, ⟨by first | exact BK395_.out | ((with_reducible repeat (first | refine bw8 ?_ _ | refine bw9 ?_ | refine bw6 ?_ _)); exact BK395.out)⟩, ⟨by first | exact bw1 HB0_.out _ | exact bw3 (bw1 HB0_.out _) | repeat (first | (with_reducible first | exact HB.out | apply bw2 | apply bw1 | apply bw3 | refine bw4 ?_ GE394.out | refine bw4 ?_ GE395.out) | exact HB.out)⟩⟩
      ·rw [if_neg c12] at H
       have c12b0 : decide (t397 < 0) = false := decide_eq_false c12
       clear c12
       (first | rw [c12b0] | (simp only [i64_w, i32_w]; rw [c12b0]) | skip)
       by_cases c14 : 0 ≤ t397
       ·rw [if_pos c14] at H
        have c14b0 : decide (0 ≤ t397) = true := decide_eq_true c14
        clear c14
        by_cases c15 : t397 < (l0_3.length : Int)
        ·rw [if_pos c15] at H
         have c15b0 : decide (t397 < (l0_3.length : Int)) = true := decide_eq_true c15
         clear c15
         have H' := Aside0.mk H
         clear H
         try go_wp2
         have BK394_ := BK394
         have BK395_ := BK395
         have HB0_ := HB
         have n0_ := Aside0.mk (bw9 BK394.out)
         have n1_ := Aside0.mk (bw9 BK395.out)
         have n2_ := Aside0.mk (bw3 HB.out)
         clear BK394; clear BK395; clear HB; have BK394 := n0_; have BK395 := n1_; have HB := n2_; clear n0_ n1_ n2_
         have p398 : 0 ≤ (t397 : Int) := of_decide_eq_true (by first | (with_reducible assumption) | assumption)
         have q398 : t397 < (l0_3.length : Int) := of_decide_eq_true (by first | (with_reducible assumption) | assumption)
         obtain ⟨ad398, e398, hx398_0, hx398_1, hx398_2⟩ := at_T109 HR0_3.out t397 p398 q398
         have hw398_2 := hx398_2
         have hw398_1 := hx398_1
         have hw398_0 := hx398_0
         cases e398
         replace hx398_0 := (HB.out.cell (World.block_lt_of_cell? w _ hx398_0)).trans hx398_0
         replace hx398_1 := (HB.out.cell (World.block_lt_of_cell? w _ hx398_1)).trans hx398_1
         replace hx398_2 := (HB.out.cell (World.block_lt_of_cell? w _ hx398_2)).trans hx398_2
         replace p398 := eq_true p398
         replace q398 := eq_true q398
         have p399 : 0 ≤ (x5_1 : Int) := of_decide_eq_true (by first | (with_reducible assumption) | assumption)
         have q399 : x5_1 < (l1_0.length : Int) := of_decide_eq_true (by first | (with_reducible assumption) | assumption)
         obtain ⟨ad399, e399, hx399_0, hx399_1, hx399_2⟩ := at_T109 HR1_0.out x5_1 p399 q399
         have hw399_2 := hx399_2
         have hw399_1 := hx399_1
         have hw399_0 := hx399_0
         obtain rfl : ad396 = ad399 := (by injection e399)
         replace hx399_0 := (HB.out.cell (World.block_lt_of_cell? w _ hx399_0)).trans hx399_0
         replace hx399_1 := (HB.out.cell (World.block_lt_of_cell? w _ hx399_1)).trans hx399_1
         replace hx399_2 := (HB.out.cell (World.block_lt_of_cell? w _ hx399_2)).trans hx399_2
         replace p399 := eq_true p399
         replace q399 := eq_true q399
         refine start_ (n := 15) (S := fun w' => w'.cell? ⟨gb394, 0, none⟩ = some (.int .i64 a0_0) ∧ w'.cell? ⟨gb394, 1, none⟩ = some (.slice A0_1 l0_1.length c0_1) ∧ w'.cell? ⟨gb394, 2, none⟩ = some (.slice A0_2 l0_2.length c0_2) ∧ w'.cell? ⟨gb394, 3, none⟩ = some (.slice (some ad398) l0_3.length c0_3) ∧ w'.cell? ⟨gb395, 0, none⟩ = some (.slice (some ad396) l1_0.length c1_0) ∧ w'.cell? ⟨gb395, 1, none⟩ = some (.slice A1_1 l1_1.length c1_1) ∧ w'.cell? ⟨gb395, 2, none⟩ = some (.int .i64 a1_2) ∧ w'.cell? (ad398.add ((t397).toNat * 3)) = some (.string ((rd_T109 l0_3 t397).f0)) ∧ w'.cell? ⟨(ad398.add ((t397).toNat * 3)).block, (ad398.add ((t397).toNat * 3)).off + 1, none⟩ = some (.int .i64 ((rd_T109 l0_3 t397).f1)) ∧ w'.cell? ⟨(ad398.add ((t397).toNat * 3)).block, (ad398.add ((t397).toNat * 3)).off + 2, none⟩ = some (.int .i64 ((rd_T109 l0_3 t397).f2)) ∧ w'.cell? (ad396.add ((x5_1).toNat * 3)) = some (.string ((rd_T109 l1_0 x5_1).f0)) ∧ w'.cell? ⟨(ad396.add ((x5_1).toNat * 3)).block, (ad396.add ((x5_1).toNat * 3)).off + 1, none⟩ = some (.int .i64 ((rd_T109 l1_0 x5_1).f1)) ∧ w'.cell? ⟨(ad396.add ((x5_1).toNat * 3)).block, (ad396.add ((x5_1).toNat * 3)).off + 2, none⟩ = some (.int .i64 ((rd_T109 l1_0 x5_1).f2))) (ds := []) zb16 (by kernel_rfl) rfl rfl ⟨(bw5 BK394.out 0).trans rfl, (bw5 BK394.out 1).trans rfl, (bw5 BK394.out 2).trans rfl, (bw5 BK394.out 3).trans rfl, (bw5 BK395.out 0).trans rfl, (bw5 BK395.out 1).trans rfl, (bw5 BK395.out 2).trans rfl, ((HB.out.cell (World.block_lt_of_cell? w _ hw398_0)).trans hw398_0), ((HB.out.cell (World.block_lt_of_cell? w _ hw398_1)).trans hw398_1), ((HB.out.cell (World.block_lt_of_cell? w _ hw398_2)).trans hw398_2), ((HB.out.cell (World.block_lt_of_cell? w _ hw399_0)).trans hw399_0), ((HB.out.cell (World.block_lt_of_cell? w _ hw399_1)).trans hw399_1), ((HB.out.cell (World.block_lt_of_cell? w _ hw399_2)).trans hw399_2)⟩ (fun hHeld => ?_); refine with_tabW giroref35_Verify.tab5 giroref35_Verify.bits5 (fun HT_ HW_ => ?_)
         generalize w11.drew = w16 at BK394 BK395 HB hx398_0 hx398_1 hx398_2 hx399_0 hx399_1 hx399_2 hHeld ⊢
         refine pure_ (i := 0) (N := some 23) (v := ?_) (a' := ?_) zb17 rfl rfl (any_of HT_.out (by kernel_rfl)) (fun _ _ _ h => h) (Or.inl ⟨by rfl, ?_⟩) ?_ ?_
         rotate_left
         ·intro w'; go_simp; (with_reducible rfl)
         rotate_left
         ·simp only [Act.put, zA_, zB_, zC_, i64_w, i32_w]; rfl
         refine pure_ (i := 1) (N := some 24) (v := ?_) (a' := ?_) zb18 rfl rfl (any_of HT_.out (by kernel_rfl)) (fun _ _ _ h => h) (Or.inl ⟨by rfl, ?_⟩) ?_ ?_
         rotate_left
         ·intro w'; go_simp; (with_reducible rfl)
         rotate_left
         ·simp only [Act.put, zA_, zB_, zC_, i64_w, i32_w]; rfl
         refine pure_ (i := 2) (N := some 25) (v := ?_) (a' := ?_) zb19 rfl rfl (any_of HT_.out (by kernel_rfl)) (fun _ _ _ h => h) (Or.inl ⟨by rfl, ?_⟩) ?_ ?_
         rotate_left
         ·intro w'; go_simp; (with_reducible rfl)
         rotate_left
         ·simp only [Act.put, zA_, zB_, zC_, i64_w, i32_w]; rfl
         refine pure_ (i := 3) (N := some 26) (v := ?_) (a' := ?_) zb20 rfl rfl (any_of HT_.out (by kernel_rfl)) (fun _ _ _ h => h) (Or.inl ⟨by rfl, ?_⟩) ?_ ?_
         rotate_left
         ·intro w'; go_simp; (with_reducible rfl)
         rotate_left
         ·simp only [Act.put, zA_, zB_, zC_, i64_w, i32_w]; rfl
         refine pure_ (i := 5) (N := some 28) (v := ?_) (a' := ?_) #[true,true,true,true,false,true,false,false,false,false,false,false,false,false,false] rfl rfl (any_of HT_.out (by kernel_rfl)) (fun _ _ _ h => h) (Or.inl ⟨by rfl, ?_⟩) ?_ ?_
         rotate_left
         ·intro w'; go_simp; (with_reducible rfl)
         rotate_left
         ·simp only [Act.put, zA_, zB_, zC_, i64_w, i32_w]; rfl
         refine pure_ (i := 8) (N := some 31) (v := ?_) (a' := ?_) #[true,true,true,true,false,true,false,false,true,false,false,false,false,false,false] rfl rfl (any_of HT_.out (by kernel_rfl)) (fun _ _ _ h => h) (Or.inl ⟨by rfl, ?_⟩) ?_ ?_
         rotate_left
         ·intro w'; go_simp; (with_reducible rfl)
         rotate_left
         ·simp only [Act.put, zA_, zB_, zC_, i64_w, i32_w]; rfl
         refine pure_ (i := 10) (N := some 33) (v := ?_) (a' := ?_) #[true,true,true,true,false,true,false,false,true,false,true,false,false,false,false] rfl rfl (any_of HT_.out (by kernel_rfl)) (fun _ _ _ h => h) (Or.inl ⟨by rfl, ?_⟩) ?_ ?_
         rotate_left
         ·intro w'; go_simp; (with_reducible rfl)
         rotate_left
         ·simp only [Act.put, zA_, zB_, zC_, i64_w, i32_w]; rfl
         refine take_ (i := 4) (N := some 27) (v := ?_) (a' := ?_) #[true,true,true,true,true,true,false,false,true,false,true,false,false,false,false] rfl rfl (take_ofW HT_.out HW_.out (by kernel_rfl)) (fun _ _ _ h => h) (Or.inl ⟨by rfl, ?_⟩) hHeld ?_ ?_
         rotate_left
         ·rintro w' ⟨s0, s1, s2, s3, s4, s5, s6, s7, s8, s9, s10, s11, s12⟩
          go_simp; (with_reducible rfl)
         rotate_left
         ·simp only [Act.put, zA_, zB_, zC_, i64_w, i32_w]; rfl
         refine pure_ (i := 6) (N := some 29) (v := ?_) (a' := ?_) #[true,true,true,true,true,true,true,false,true,false,true,false,false,false,false] rfl rfl (any_of HT_.out (by kernel_rfl)) (fun _ _ _ h => h) (Or.inl ⟨by rfl, ?_⟩) ?_ ?_
         rotate_left
         ·intro w'; go_simp; (with_reducible rfl)
         rotate_left
         ·simp only [Act.put, zA_, zB_, zC_, i64_w, i32_w]; rfl
         refine take_ (i := 7) (N := some 30) (v := ?_) (a' := ?_) #[true,true,true,true,true,true,true,true,true,false,true,false,false,false,false] rfl rfl (take_ofW HT_.out HW_.out (by kernel_rfl)) (fun _ _ _ h => h) (Or.inl ⟨by rfl, ?_⟩) hHeld ?_ ?_
         rotate_left
         ·rintro w' ⟨s0, s1, s2, s3, s4, s5, s6, s7, s8, s9, s10, s11, s12⟩
          go_simp; (with_reducible rfl)
         rotate_left
         ·simp only [Act.put, zA_, zB_, zC_, i64_w, i32_w]; rfl
         refine take_ (i := 9) (N := some 32) (v := ?_) (a' := ?_) zb21 rfl rfl (take_ofW HT_.out HW_.out (by kernel_rfl)) (fun _ _ _ h => h) (Or.inl ⟨by rfl, ?_⟩) hHeld ?_ ?_
         rotate_left
         ·rintro w' ⟨s0, s1, s2, s3, s4, s5, s6, s7, s8, s9, s10, s11, s12⟩
          go_simp; (with_reducible rfl)
         rotate_left
         ·simp only [Act.put, zA_, zB_, zC_, i64_w, i32_w]; rfl
         refine pure_ (i := 11) (N := some 34) (v := ?_) (a' := ?_) zb22 rfl rfl (any_of HT_.out (by kernel_rfl)) (fun _ _ _ h => h) (Or.inl ⟨by rfl, ?_⟩) ?_ ?_
         rotate_left
         ·intro w'; go_simp; (with_reducible rfl)
         rotate_left
         ·simp only [Act.put, zA_, zB_, zC_, i64_w, i32_w]; rfl
         refine take_ (i := 12) (N := some 35) (v := ?_) (a' := ?_) zb23 rfl rfl (take_ofW HT_.out HW_.out (by kernel_rfl)) (fun _ _ _ h => h) (Or.inl ⟨by rfl, ?_⟩) hHeld ?_ ?_
         rotate_left
         ·rintro w' ⟨s0, s1, s2, s3, s4, s5, s6, s7, s8, s9, s10, s11, s12⟩
          go_simp; (with_reducible rfl)
         rotate_left
         ·simp only [Act.put, zA_, zB_, zC_, i64_w, i32_w]; rfl
         refine pure_ (i := 13) (N := some 36) (v := ?_) (a' := ?_) zb24 rfl rfl (any_of HT_.out (by kernel_rfl)) (fun _ _ _ h => h) (Or.inl ⟨by rfl, ?_⟩) ?_ ?_
         rotate_left
         ·intro w'; go_simp; (with_reducible rfl)
         rotate_left
         ·simp only [Act.put, zA_, zB_, zC_, i64_w, i32_w]; rfl
         refine pure_ (i := 14) (N := some 37) (v := ?_) (a' := ?_) zb25 rfl rfl (any_of HT_.out (by kernel_rfl)) (fun _ _ _ h => h) (Or.inl ⟨by rfl, ?_⟩) ?_ ?_
         rotate_left
         ·intro w'; go_simp; (with_reducible rfl)
         rotate_left
         ·simp only [Act.put, zA_, zB_, zC_, i64_w, i32_w]; rfl
         refine done_ (done_of HT_.out (by kernel_rfl)) ?_
         try go_wp2
         go_meet
         case rel => exact ⟨_, ((!((((rd_T109 l0_3 t397).f0).toList) == (((rd_T109 l1_0 x5_1).f0).toList)) || (!(((rd_T109 l0_3 t397).f1) == ((rd_T109 l1_0 x5_1).f1)) || (!(((rd_T109 l0_3 t397).f2) == ((rd_T109 l1_0 x5_1).f2)))))), (by first | rfl | (simp; done) | (simp [*]; done)), H', ⟨by have := HK1.out; first | omega | exact Nat.le_refl _⟩, ⟨by first | exact BK394_.out | ((with_reducible repeat (first | refine bw8 ?_ _ | refine bw9 ?_ | refine bw6 ?_ _)); exact BK394.out)⟩, ⟨by first | exact BK395_.out | ((with_reducible repeat (first | refine bw8 ?_ _ | refine bw9 ?_ | refine bw6 ?_ _)); exact BK395.out)⟩, ⟨by first | exact bw1 HB0_.out _ | exact bw3 (bw1 HB0_.out _) | repeat (first | (with_reducible first | exact HB.out | apply bw2 | apply bw1 | apply bw3 | refine bw4 ?_ GE394.out | refine bw4 ?_ GE395.out) | exact HB.out)⟩⟩
        ·rw [if_neg c15] at H
         exact absurd H (by simp)
       ·rw [if_neg c14] at H
        exact absurd H (by simp)
     case rest =>
      clear HC8
      try clear c1
      try clear c2
      try clear p2
      try clear p3
      try clear q3
      try clear hx3
      try clear c5
      try clear c5b0
      try clear c6
      try clear c6b0
      try clear c9
      try clear c12
      try clear c12b0
      try clear c14
      try clear c14b0
      try clear c15
      try clear c15b0
      try clear hcz10_0
      try clear hcz10_1
      try clear hcz10_2
      try clear hfz10_0
      try clear hfz10_1
      try clear hfz10_2
      try clear hx396_0
      try clear hx396_1
      try clear hx396_2
      try clear hx398_0
      try clear hx398_1
      try clear hx398_2
      try clear hx399_0
      try clear hx399_1
      try clear hx399_2
      try clear p2
      try clear p396
      try clear p398
      try clear p399
      try clear q396
      try clear q398
      try clear q399
      obtain ⟨kq, x37_7, rfl, HA, HJ7, BK394, BK395, HB⟩ := hcut
      cases kq with
      | zero => exact absurd HA.out (by simp [giroref35_Verify.j1])
      | succ kj7 =>
       have H := HA.out
       clear HA
       simp only [giroref35_Verify.j1] at H
       by_cases c17 : x37_7 = true
       ·subst c17
        have H1 : (some 9) = some r := by rw [if_pos rfl] at H; exact H
        clear H
        have H := H1
        clear H1
        obtain rfl := Option.some.inj H
        go_wp2
        go_ret
        exact ⟨by first | rfl | (simp [errW_none, errW_some] <;> rfl) | (simp [*, errW_none, errW_some] <;> rfl), by repeat (first | (with_reducible first | exact HB.out | apply bw2 | apply bw1 | apply bw3 | refine bw4 ?_ GE394.out | refine bw4 ?_ GE395.out) | exact HB.out)⟩
       ·replace c17 := Bool.eq_false_iff.mpr c17
        subst c17
        have H1 : (if 0 ≤ x5_1 then (if x5_1 ≤ (l1_0.length : Int) then (if x5_1 < (l1_0.length : Int) then ((giroref35_find.f kj7 (l1_0.take (x5_1 : Int).toNat) ((rd_T109 l1_0 x5_1).f0)).bind fun t405 => (if t405 ≥ 0 then (some 7) else (giroref35_Verify.l0 kj7 (wrap64 (x5_1 + 1)) a0_0 l0_1 l0_2 l0_3 l1_0 l1_1 a1_2))) else (none)) else (none)) else (none)) = some r := by rw [if_neg (show ¬ (false = true) by decide)] at H; exact H
        clear H
        have H := H1
        clear H1
        by_cases c18 : 0 ≤ x5_1
        ·rw [if_pos c18] at H
         have c18b0 := eq_true c18
         have c18b1 : decide (0 ≤ x5_1) = true := decide_eq_true c18
         clear c18
         by_cases c19 : x5_1 ≤ (l1_0.length : Int)
         ·rw [if_pos c19] at H
          have c19b0 := eq_true c19
          have c19b1 : decide (x5_1 ≤ (l1_0.length : Int)) = true := decide_eq_true c19
          clear c19
          obtain ⟨y400, hy400⟩ : ∃ y_ : List (S109), y_ = (l1_0.take (x5_1 : Int).toNat) := ⟨_, rfl⟩
          replace H : (if x5_1 < (l1_0.length : Int) then ((giroref35_find.f kj7 y400 ((rd_T109 l1_0 x5_1).f0)).bind fun t405 => (if t405 ≥ 0 then (some 7) else (giroref35_Verify.l0 kj7 (wrap64 (x5_1 + 1)) a0_0 l0_1 l0_2 l0_3 l1_0 l1_1 a1_2))) else (none)) = some r := by first | (rw [hy400]; with_reducible exact H) | (have H2_ := (Option.bind_some _ _).symm.trans H; rw [hy400]; with_reducible exact H2_) | (have H2_ := (Option.bind_some _ _).symm.trans H; with_reducible exact H2_) | with_reducible exact H | (rw [hy400]; exact H) | exact H
          have Ny400 := Aside0.mk hy400
          clear hy400
          by_cases c20 : x5_1 < (l1_0.length : Int)
          ·rw [if_pos c20] at H
           have c20b0 : decide (x5_1 < (l1_0.length : Int)) = true := decide_eq_true c20
           clear c20
           replace H := Option.bind_eq_some_iff.mp H
           obtain ⟨t405, A210, H⟩ := H
           replace H : (if t405 ≥ 0 then (some 7) else (giroref35_Verify.l0 kj7 (wrap64 (x5_1 + 1)) a0_0 l0_1 l0_2 l0_3 l1_0 l1_1 a1_2)) = some r := H
           have A21 := Aside0.mk A210
           clear A210
           by_cases c22 : t405 ≥ 0
           ·rw [if_pos c22] at H
            have c22b0 : decide (0 ≤ t405) = true := decide_eq_true c22
            clear c22
            obtain rfl := Option.some.inj H
            try go_wp2
            have n0_ := Aside0.mk (bw9 BK394.out)
            have n1_ := Aside0.mk (bw9 BK395.out)
            have n2_ := Aside0.mk (bw3 HB.out)
            clear BK394; clear BK395; clear HB; have BK394 := n0_; have BK395 := n1_; have HB := n2_; clear n0_ n1_ n2_
            have q24 : (x5_1 : Int) ≤ ((l1_0.length : Int) : Int) := of_decide_eq_true (by first | (with_reducible assumption) | assumption)
            obtain ⟨i024, hi024, _, hsz24, _⟩ := info_parts info109
            have hroom24 : l1_0.length ≤ c1_0 := HC1_0.out
            have hC24 : Kd.C k109 _ (some ad396) l1_0.length l1_0 := HR1_0.out
            have hcut24 := cut_to (P := Tryz.prog) 47 109 .i64 Tryz.underlying47 hi024 (some ad396) l1_0.length c1_0 x5_1 (of_decide_eq_true (by first | (with_reducible assumption) | assumption)) q24 hroom24
            have hr24 := Kd.C_take (m := (x5_1 : Int).toNat) hC24 (by omega)
            have hy24 : y400.length = (x5_1 : Int).toNat := (by rw [Ny400.out, List.length_take]; omega)
            rw [← Ny400.out] at hr24
            rw [← hy24] at hcut24
            have HR403 := Aside0.mk hr24
            have HC403 := Aside0.mk (show y400.length ≤ c1_0 from by omega)
            clear hr24 hC24 hroom24 hi024 hsz24
            have KY24 := Aside0.mk hy24
            clear hy24
            replace q24 := eq_true q24
            have p404 : 0 ≤ (x5_1 : Int) := of_decide_eq_true (by first | (with_reducible assumption) | assumption)
            have q404 : x5_1 < (l1_0.length : Int) := of_decide_eq_true (by first | (with_reducible assumption) | assumption)
            obtain ⟨ad404, e404, hx404_0, hx404_1, hx404_2⟩ := at_T109 HR1_0.out x5_1 p404 q404
            have hw404_2 := hx404_2
            have hw404_1 := hx404_1
            have hw404_0 := hx404_0
            obtain rfl : ad396 = ad404 := (by injection e404)
            replace hx404_0 := (HB.out.cell (World.block_lt_of_cell? w _ hx404_0)).trans hx404_0
            replace hx404_1 := (HB.out.cell (World.block_lt_of_cell? w _ hx404_1)).trans hx404_1
            replace hx404_2 := (HB.out.cell (World.block_lt_of_cell? w _ hx404_2)).trans hx404_2
            replace p404 := eq_true p404
            replace q404 := eq_true q404
            refine start_ (n := 12) (S := fun w' => w'.cell? ⟨gb395, 0, none⟩ = some (.slice (some ad396) l1_0.length c1_0) ∧ w'.cell? ⟨gb395, 1, none⟩ = some (.slice A1_1 l1_1.length c1_1) ∧ w'.cell? ⟨gb395, 2, none⟩ = some (.int .i64 a1_2) ∧ w'.cell? (ad396.add ((x5_1).toNat * 3)) = some (.string ((rd_T109 l1_0 x5_1).f0)) ∧ w'.cell? ⟨(ad396.add ((x5_1).toNat * 3)).block, (ad396.add ((x5_1).toNat * 3)).off + 1, none⟩ = some (.int .i64 ((rd_T109 l1_0 x5_1).f1)) ∧ w'.cell? ⟨(ad396.add ((x5_1).toNat * 3)).block, (ad396.add ((x5_1).toNat * 3)).off + 2, none⟩ = some (.int .i64 ((rd_T109 l1_0 x5_1).f2))) (ds := []) zb26 (by kernel_rfl) rfl rfl ⟨(bw5 BK395.out 0).trans rfl, (bw5 BK395.out 1).trans rfl, (bw5 BK395.out 2).trans rfl, ((HB.out.cell (World.block_lt_of_cell? w _ hw404_0)).trans hw404_0), ((HB.out.cell (World.block_lt_of_cell? w _ hw404_1)).trans hw404_1), ((HB.out.cell (World.block_lt_of_cell? w _ hw404_2)).trans hw404_2)⟩ (fun hHeld => ?_); refine with_tabW giroref35_Verify.tab7 giroref35_Verify.bits7 (fun HT_ HW_ => ?_)
            generalize wc.drew = w23 at BK394 BK395 HB HR403 hx404_0 hx404_1 hx404_2 hHeld ⊢
            refine pure_ (i := 0) (N := some 38) (v := ?_) (a' := ?_) zb27 rfl rfl (any_of HT_.out (by kernel_rfl)) (fun _ _ _ h => h) (Or.inl ⟨by rfl, ?_⟩) ?_ ?_
            rotate_left
            ·intro w'; go_simp; (with_reducible rfl)
            rotate_left
            ·simp only [Act.put, zA_, zB_, zC_, i64_w, i32_w]; rfl
            refine pure_ (i := 2) (N := some 40) (v := ?_) (a' := ?_) zb28 rfl rfl (any_of HT_.out (by kernel_rfl)) (fun _ _ _ h => h) (Or.inl ⟨by rfl, ?_⟩) ?_ ?_
            rotate_left
            ·intro w'; go_simp; (with_reducible rfl)
            rotate_left
            ·simp only [Act.put, zA_, zB_, zC_, i64_w, i32_w]; rfl
            refine pure_ (i := 4) (N := some 42) (v := ?_) (a' := ?_) zb29 rfl rfl (any_of HT_.out (by kernel_rfl)) (fun _ _ _ h => h) (Or.inl ⟨by rfl, ?_⟩) ?_ ?_
            rotate_left
            ·intro w'; go_simp; (with_reducible rfl)
            rotate_left
            ·simp only [Act.put, zA_, zB_, zC_, i64_w, i32_w]; rfl
            refine pure_ (i := 6) (N := some 44) (v := ?_) (a' := ?_) zb30 rfl rfl (any_of HT_.out (by kernel_rfl)) (fun _ _ _ h => h) (Or.inl ⟨by rfl, ?_⟩) ?_ ?_
            rotate_left
            ·intro w'; go_simp; (with_reducible rfl)
            rotate_left
            ·simp only [Act.put, zA_, zB_, zC_, i64_w, i32_w]; rfl
            refine take_ (i := 1) (N := some 39) (v := ?_) (a' := ?_) zb31 rfl rfl (take_ofW HT_.out HW_.out (by kernel_rfl)) (fun _ _ _ h => h) (Or.inl ⟨by rfl, ?_⟩) hHeld ?_ ?_
            rotate_left
            ·rintro w' ⟨s0, s1, s2, s3, s4, s5⟩
             go_simp; (with_reducible rfl)
            rotate_left
            ·simp only [Act.put, zA_, zB_, zC_, i64_w, i32_w]; rfl
            refine pure_ (i := 3) (N := some 41) (v := ?_) (a' := ?_) zb32 rfl rfl (any_of HT_.out (by kernel_rfl)) (fun _ _ _ h => h) (Or.inl ⟨by rfl, ?_⟩) ?_ ?_
            rotate_left
            ·intro w'; go_simp; (with_reducible rfl)
            rotate_left
            ·simp only [Act.put, zA_, zB_, zC_, i64_w, i32_w]; rfl
            refine take_ (i := 5) (N := some 43) (v := ?_) (a' := ?_) zb33 rfl rfl (take_ofW HT_.out HW_.out (by kernel_rfl)) (fun _ _ _ h => h) (Or.inl ⟨by rfl, ?_⟩) hHeld ?_ ?_
            rotate_left
            ·rintro w' ⟨s0, s1, s2, s3, s4, s5⟩
             go_simp; (with_reducible rfl)
            rotate_left
            ·simp only [Act.put, zA_, zB_, zC_, i64_w, i32_w]; rfl
            refine pure_ (i := 7) (N := some 45) (v := ?_) (a' := ?_) zb34 rfl rfl (any_of HT_.out (by kernel_rfl)) (fun _ _ _ h => h) (Or.inl ⟨by rfl, ?_⟩) ?_ ?_
            rotate_left
            ·intro w'; go_simp; (with_reducible rfl)
            rotate_left
            ·simp only [Act.put, zA_, zB_, zC_, i64_w, i32_w]; rfl
            refine pure_ (i := 8) (N := some 46) (v := ?_) (a' := ?_) zb35 rfl rfl (any_of HT_.out (by kernel_rfl)) (fun _ _ _ h => h) (Or.inl ⟨by rfl, ?_⟩) ?_ ?_
            rotate_left
            ·intro w'; go_simp; (with_reducible rfl)
            rotate_left
            ·simp only [Act.put, zA_, zB_, zC_, i64_w, i32_w]; rfl
            refine take_ (i := 9) (N := some 47) (v := ?_) (a' := ?_) zb36 rfl rfl (take_ofW HT_.out HW_.out (by kernel_rfl)) (fun _ _ _ h => h) (Or.inl ⟨by rfl, ?_⟩) hHeld ?_ ?_
            rotate_left
            ·rintro w' ⟨s0, s1, s2, s3, s4, s5⟩
             go_simp; (with_reducible rfl)
            rotate_left
            ·simp only [Act.put, zA_, zB_, zC_, i64_w, i32_w]; rfl
            refine one_ (i := 10) (N := some 48) zb37 rfl rfl (one_of HT_.out (by kernel_rfl)) (by decide) (fun K hK => ?_)
            refine goes_ Tryz.func56 (by kernel_rfl) rfl #[.slice (some ad396) y400.length c1_0, .string ((rd_T109 l1_0 x5_1).f0)] (by rfl) rfl rfl (by (try simp only [List.map_toArray, List.map_cons, List.map_nil]); first | done | rfl | (simp only [List.length_drop, List.length_take]; rfl)) ?_
            with_reducible refine (giroref35_find.calls kj7 _ _ y400 ((rd_T109 l1_0 x5_1).f0) t405 _ ?side1 ?side2 A21.out).mono ?_
            (case side1 => repeat (first | exact (Kd.C_below HR403.out HB.out) | with_reducible first | refine Kd.C_alloc ?_ _ | refine Kd.C_drewN ?_ _ | refine Kd.C_drew ?_))
            (case side2 => exact HC403.out)
            rintro e w' ⟨rfl, ⟨nd, rfl⟩⟩
            refine ⟨_, rfl, ?_⟩
            refine hK.out _ _ ⟨(bw5 BK395.out 0).trans rfl, (bw5 BK395.out 1).trans rfl, (bw5 BK395.out 2).trans rfl, ((HB.out.cell (World.block_lt_of_cell? w _ hw404_0)).trans hw404_0), ((HB.out.cell (World.block_lt_of_cell? w _ hw404_1)).trans hw404_1), ((HB.out.cell (World.block_lt_of_cell? w _ hw404_2)).trans hw404_2)⟩ (fun hHeld => ?_)
            clear hK K
            refine norm_ (a' := ?_) ?_ ?_
            rotate_left
            ·show Act.put _ (some 48) _ = _; simp only [Act.put, zA_, zB_, zC_, i64_w, i32_w]; rfl
            refine pure_ (i := 11) (N := some 49) (v := ?_) (a' := ?_) zb38 rfl rfl (any_of HT_.out (by kernel_rfl)) (fun _ _ _ h => h) (Or.inl ⟨by rfl, ?_⟩) ?_ ?_
            rotate_left
            ·intro w'; go_simp; (with_reducible rfl)
            rotate_left
            ·simp only [Act.put, zA_, zB_, zC_, i64_w, i32_w]; rfl
            refine done_ (done_of HT_.out (by kernel_rfl)) ?_
            try go_wp2
            go_ret
            exact ⟨by first | rfl | (simp [errW_none, errW_some] <;> rfl) | (simp [*, errW_none, errW_some] <;> rfl), by repeat (first | (with_reducible first | exact HB.out | apply bw2 | apply bw1 | apply bw3 | refine bw4 ?_ GE394.out | refine bw4 ?_ GE395.out) | exact HB.out)⟩
           ·rw [if_neg c22] at H
            have c22b0 : decide (0 ≤ t405) = false := decide_eq_false c22
            clear c22
            have H' := Aside0.mk H
            clear H
            try go_wp2
            have n0_ := Aside0.mk (bw9 BK394.out)
            have n1_ := Aside0.mk (bw9 BK395.out)
            have n2_ := Aside0.mk (bw3 HB.out)
            clear BK394; clear BK395; clear HB; have BK394 := n0_; have BK395 := n1_; have HB := n2_; clear n0_ n1_ n2_
            have q26 : (x5_1 : Int) ≤ ((l1_0.length : Int) : Int) := of_decide_eq_true (by first | (with_reducible assumption) | assumption)
            obtain ⟨i026, hi026, _, hsz26, _⟩ := info_parts info109
            have hroom26 : l1_0.length ≤ c1_0 := HC1_0.out
            have hC26 : Kd.C k109 _ (some ad396) l1_0.length l1_0 := HR1_0.out
            have hcut26 := cut_to (P := Tryz.prog) 47 109 .i64 Tryz.underlying47 hi026 (some ad396) l1_0.length c1_0 x5_1 (of_decide_eq_true (by first | (with_reducible assumption) | assumption)) q26 hroom26
            have hr26 := Kd.C_take (m := (x5_1 : Int).toNat) hC26 (by omega)
            have hy26 : y400.length = (x5_1 : Int).toNat := (by rw [Ny400.out, List.length_take]; omega)
            rw [← Ny400.out] at hr26
            rw [← hy26] at hcut26
            have HR403 := Aside0.mk hr26
            have HC403 := Aside0.mk (show y400.length ≤ c1_0 from by omega)
            clear hr26 hC26 hroom26 hi026 hsz26
            have KY26 := Aside0.mk hy26
            clear hy26
            replace q26 := eq_true q26
            have p404 : 0 ≤ (x5_1 : Int) := of_decide_eq_true (by first | (with_reducible assumption) | assumption)
            have q404 : x5_1 < (l1_0.length : Int) := of_decide_eq_true (by first | (with_reducible assumption) | assumption)
            obtain ⟨ad404, e404, hx404_0, hx404_1, hx404_2⟩ := at_T109 HR1_0.out x5_1 p404 q404
            have hw404_2 := hx404_2
            have hw404_1 := hx404_1
            have hw404_0 := hx404_0
            obtain rfl : ad396 = ad404 := (by injection e404)
            replace hx404_0 := (HB.out.cell (World.block_lt_of_cell? w _ hx404_0)).trans hx404_0
            replace hx404_1 := (HB.out.cell (World.block_lt_of_cell? w _ hx404_1)).trans hx404_1
            replace hx404_2 := (HB.out.cell (World.block_lt_of_cell? w _ hx404_2)).trans hx404_2
            replace p404 := eq_true p404
            replace q404 := eq_true q404
            refine start_ (n := 12) (S := fun w' => w'.cell? ⟨gb395, 0, none⟩ = some (.slice (some ad396) l1_0.length c1_0) ∧ w'.cell? ⟨gb395, 1, none⟩ = some (.slice A1_1 l1_1.length c1_1) ∧ w'.cell? ⟨gb395, 2, none⟩ = some (.int .i64 a1_2) ∧ w'.cell? (ad396.add ((x5_1).toNat * 3)) = some (.string ((rd_T109 l1_0 x5_1).f0)) ∧ w'.cell? ⟨(ad396.add ((x5_1).toNat * 3)).block, (ad396.add ((x5_1).toNat * 3)).off + 1, none⟩ = some (.int .i64 ((rd_T109 l1_0 x5_1).f1)) ∧ w'.cell? ⟨(ad396.add ((x5_1).toNat * 3)).block, (ad396.add ((x5_1).toNat * 3)).off + 2, none⟩ = some (.int .i64 ((rd_T109 l1_0 x5_1).f2))) (ds := []) zb26 (by kernel_rfl) rfl rfl ⟨(bw5 BK395.out 0).trans rfl, (bw5 BK395.out 1).trans rfl, (bw5 BK395.out 2).trans rfl, ((HB.out.cell (World.block_lt_of_cell? w _ hw404_0)).trans hw404_0), ((HB.out.cell (World.block_lt_of_cell? w _ hw404_1)).trans hw404_1), ((HB.out.cell (World.block_lt_of_cell? w _ hw404_2)).trans hw404_2)⟩ (fun hHeld => ?_); refine with_tabW giroref35_Verify.tab7 giroref35_Verify.bits7 (fun HT_ HW_ => ?_)
            generalize wc.drew = w25 at BK394 BK395 HB HR403 hx404_0 hx404_1 hx404_2 hHeld ⊢
            refine pure_ (i := 0) (N := some 38) (v := ?_) (a' := ?_) zb27 rfl rfl (any_of HT_.out (by kernel_rfl)) (fun _ _ _ h => h) (Or.inl ⟨by rfl, ?_⟩) ?_ ?_
            rotate_left
            ·intro w'; go_simp; (with_reducible rfl)
            rotate_left
            ·simp only [Act.put, zA_, zB_, zC_, i64_w, i32_w]; rfl
            refine pure_ (i := 2) (N := some 40) (v := ?_) (a' := ?_) zb28 rfl rfl (any_of HT_.out (by kernel_rfl)) (fun _ _ _ h => h) (Or.inl ⟨by rfl, ?_⟩) ?_ ?_
            rotate_left
            ·intro w'; go_simp; (with_reducible rfl)
            rotate_left
            ·simp only [Act.put, zA_, zB_, zC_, i64_w, i32_w]; rfl
            refine pure_ (i := 4) (N := some 42) (v := ?_) (a' := ?_) zb29 rfl rfl (any_of HT_.out (by kernel_rfl)) (fun _ _ _ h => h) (Or.inl ⟨by rfl, ?_⟩) ?_ ?_
            rotate_left
            ·intro w'; go_simp; (with_reducible rfl)
            rotate_left
            ·simp only [Act.put, zA_, zB_, zC_, i64_w, i32_w]; rfl
            refine pure_ (i := 6) (N := some 44) (v := ?_) (a' := ?_) zb30 rfl rfl (any_of HT_.out (by kernel_rfl)) (fun _ _ _ h => h) (Or.inl ⟨by rfl, ?_⟩) ?_ ?_
            rotate_left
            ·intro w'; go_simp; (with_reducible rfl)
            rotate_left
            ·simp only [Act.put, zA_, zB_, zC_, i64_w, i32_w]; rfl
            refine take_ (i := 1) (N := some 39) (v := ?_) (a' := ?_) zb31 rfl rfl (take_ofW HT_.out HW_.out (by kernel_rfl)) (fun _ _ _ h => h) (Or.inl ⟨by rfl, ?_⟩) hHeld ?_ ?_
            rotate_left
            ·rintro w' ⟨s0, s1, s2, s3, s4, s5⟩
             go_simp; (with_reducible rfl)
            rotate_left
            ·simp only [Act.put, zA_, zB_, zC_, i64_w, i32_w]; rfl
            refine pure_ (i := 3) (N := some 41) (v := ?_) (a' := ?_) zb32 rfl rfl (any_of HT_.out (by kernel_rfl)) (fun _ _ _ h => h) (Or.inl ⟨by rfl, ?_⟩) ?_ ?_
            rotate_left
            ·intro w'; go_simp; (with_reducible rfl)
            rotate_left
            ·simp only [Act.put, zA_, zB_, zC_, i64_w, i32_w]; rfl
            refine take_ (i := 5) (N := some 43) (v := ?_) (a' := ?_) zb33 rfl rfl (take_ofW HT_.out HW_.out (by kernel_rfl)) (fun _ _ _ h => h) (Or.inl ⟨by rfl, ?_⟩) hHeld ?_ ?_
            rotate_left
            ·rintro w' ⟨s0, s1, s2, s3, s4, s5⟩
             go_simp; (with_reducible rfl)
            rotate_left
            ·simp only [Act.put, zA_, zB_, zC_, i64_w, i32_w]; rfl
            refine pure_ (i := 7) (N := some 45) (v := ?_) (a' := ?_) zb34 rfl rfl (any_of HT_.out (by kernel_rfl)) (fun _ _ _ h => h) (Or.inl ⟨by rfl, ?_⟩) ?_ ?_
            rotate_left
            ·intro w'; go_simp; (with_reducible rfl)
            rotate_left
            ·simp only [Act.put, zA_, zB_, zC_, i64_w, i32_w]; rfl
            refine pure_ (i := 8) (N := some 46) (v := ?_) (a' := ?_) zb35 rfl rfl (any_of HT_.out (by kernel_rfl)) (fun _ _ _ h => h) (Or.inl ⟨by rfl, ?_⟩) ?_ ?_
            rotate_left
            ·intro w'; go_simp; (with_reducible rfl)
            rotate_left
            ·simp only [Act.put, zA_, zB_, zC_, i64_w, i32_w]; rfl
            refine take_ (i := 9) (N := some 47) (v := ?_) (a' := ?_) zb36 rfl rfl (take_ofW HT_.out HW_.out (by kernel_rfl)) (fun _ _ _ h => h) (Or.inl ⟨by rfl, ?_⟩) hHeld ?_ ?_
            rotate_left
            ·rintro w' ⟨s0, s1, s2, s3, s4, s5⟩
             go_simp; (with_reducible rfl)
            rotate_left
            ·simp only [Act.put, zA_, zB_, zC_, i64_w, i32_w]; rfl
            refine one_ (i := 10) (N := some 48) zb37 rfl rfl (one_of HT_.out (by kernel_rfl)) (by decide) (fun K hK => ?_)
            refine goes_ Tryz.func56 (by kernel_rfl) rfl #[.slice (some ad396) y400.length c1_0, .string ((rd_T109 l1_0 x5_1).f0)] (by rfl) rfl rfl (by (try simp only [List.map_toArray, List.map_cons, List.map_nil]); first | done | rfl | (simp only [List.length_drop, List.length_take]; rfl)) ?_
            with_reducible refine (giroref35_find.calls kj7 _ _ y400 ((rd_T109 l1_0 x5_1).f0) t405 _ ?side1 ?side2 A21.out).mono ?_
            (case side1 => repeat (first | exact (Kd.C_below HR403.out HB.out) | with_reducible first | refine Kd.C_alloc ?_ _ | refine Kd.C_drewN ?_ _ | refine Kd.C_drew ?_))
            (case side2 => exact HC403.out)
            rintro e w' ⟨rfl, ⟨nd, rfl⟩⟩
            refine ⟨_, rfl, ?_⟩
            refine hK.out _ _ ⟨(bw5 BK395.out 0).trans rfl, (bw5 BK395.out 1).trans rfl, (bw5 BK395.out 2).trans rfl, ((HB.out.cell (World.block_lt_of_cell? w _ hw404_0)).trans hw404_0), ((HB.out.cell (World.block_lt_of_cell? w _ hw404_1)).trans hw404_1), ((HB.out.cell (World.block_lt_of_cell? w _ hw404_2)).trans hw404_2)⟩ (fun hHeld => ?_)
            clear hK K
            refine norm_ (a' := ?_) ?_ ?_
            rotate_left
            ·show Act.put _ (some 48) _ = _; simp only [Act.put, zA_, zB_, zC_, i64_w, i32_w]; rfl
            refine pure_ (i := 11) (N := some 49) (v := ?_) (a' := ?_) zb38 rfl rfl (any_of HT_.out (by kernel_rfl)) (fun _ _ _ h => h) (Or.inl ⟨by rfl, ?_⟩) ?_ ?_
            rotate_left
            ·intro w'; go_simp; (with_reducible rfl)
            rotate_left
            ·simp only [Act.put, zA_, zB_, zC_, i64_w, i32_w]; rfl
            refine done_ (done_of HT_.out (by kernel_rfl)) ?_
            try go_wp2
            go_roundg kj7
            case measure => have := HK1.out; have := HJ7.out; omega
            case rel => exact ⟨(wrap64 (x5_1 + 1)), (by first | rfl | (simp; done) | (simp [*]; done)), H', ⟨by have := HK1.out; have := HJ7.out; omega⟩, ⟨by (with_reducible repeat (first | refine bw8 ?_ _ | refine bw9 ?_ | refine bw6 ?_ _)); exact BK394.out⟩, ⟨by (with_reducible repeat (first | refine bw8 ?_ _ | refine bw9 ?_ | refine bw6 ?_ _)); exact BK395.out⟩, ⟨by repeat (first | (with_reducible first | exact HB.out | apply bw2 | apply bw1 | apply bw3 | refine bw4 ?_ GE394.out | refine bw4 ?_ GE395.out) | exact HB.out)⟩⟩
          ·rw [if_neg c20] at H
           exact absurd H (by simp)
         ·rw [if_neg c19] at H
          exact absurd H (by simp)
        ·rw [if_neg c18] at H
         exact absurd H (by simp)
    ·rw [if_neg c6] at H
     exact absurd H (by simp)
   ·rw [if_neg c5] at H
    have c5b0 : decide (x5_1 < (l1_0.length : Int)) = false := decide_eq_false c5
    clear c5
    have HC27 := Aside0.mk H
    clear H
    have hnb28 := NB395_394.out
    have hnc28 := NB394_395.out
    have hcz29_0 : wr.cell? ⟨gb395, 0, none⟩ = some (.slice A1_0 l1_0.length c1_0) := (bw5 BK395.out 0).trans rfl
    have hcz29_1 : wr.cell? ⟨gb395, 1, none⟩ = some (.slice A1_1 l1_1.length c1_1) := (bw5 BK395.out 1).trans rfl
    have hcz29_2 : wr.cell? ⟨gb395, 2, none⟩ = some (.int .i64 a1_2) := (bw5 BK395.out 2).trans rfl
    have hfz29_0 := bw7 BK395.out 0
    have hfz29_1 := bw7 BK395.out 1
    have hfz29_2 := bw7 BK395.out 2
    go_upto_region 9 with (fail)
    go_cut [66] (fun v66 wc => ∃ (kq : Nat) (x66_26 : Bool), v66 = .bool x66_26 ∧ Aside0 (giroref35_Verify.j2 kq x66_26 a0_0 l0_1 l0_2 l0_3 l1_0 l1_1 a1_2 = some r) ∧ Aside0 (kq ≤ k1) ∧ Aside0 (wc.heap[gb394]? = some (.cells #[.int .i64 a0_0, (.slice A0_1 l0_1.length c0_1), (.slice A0_2 l0_2.length c0_2), (.slice A0_3 l0_3.length c0_3)] 49 (0, 0))) ∧ Aside0 (wc.heap[gb395]? = some (.cells #[(.slice A1_0 l1_0.length c1_0), (.slice A1_1 l1_1.length c1_1), .int .i64 a1_2] 54 (0, 0))) ∧ Aside0 (Below w.heap.size w wc))
    case first =>
     have H := HC27.out
     clear HC27
     replace H := Option.bind_eq_some_iff.mp H
     obtain ⟨t406, A300, H⟩ := H
     replace H : ((giroref35_SameList.f k1 l1_1 t406).bind fun t409 => (if t409 = true then ((giroref35_Kept.f k1 a0_0 l0_1 l0_2 l0_3).bind fun t410 => ((giroref35_Sum.f k1 l1_0).bind fun t411 => (giroref35_Verify.j2 k1 (a1_2 != (wrap64 (t410 + t411))) a0_0 l0_1 l0_2 l0_3 l1_0 l1_1 a1_2))) else (giroref35_Verify.j2 k1 true a0_0 l0_1 l0_2 l0_3 l1_0 l1_1 a1_2))) = some r := H
     have A30 := Aside0.mk A300
     clear A300
     replace H := Option.bind_eq_some_iff.mp H
     obtain ⟨t409, A310, H⟩ := H
     replace H : (if t409 = true then ((giroref35_Kept.f k1 a0_0 l0_1 l0_2 l0_3).bind fun t410 => ((giroref35_Sum.f k1 l1_0).bind fun t411 => (giroref35_Verify.j2 k1 (a1_2 != (wrap64 (t410 + t411))) a0_0 l0_1 l0_2 l0_3 l1_0 l1_1 a1_2))) else (giroref35_Verify.j2 k1 true a0_0 l0_1 l0_2 l0_3 l1_0 l1_1 a1_2)) = some r := H
     have A31 := Aside0.mk A310
     clear A310
     by_cases c32 : t409 = true
     ·subst c32
      have H1 : ((giroref35_Kept.f k1 a0_0 l0_1 l0_2 l0_3).bind fun t410 => ((giroref35_Sum.f k1 l1_0).bind fun t411 => (giroref35_Verify.j2 k1 (a1_2 != (wrap64 (t410 + t411))) a0_0 l0_1 l0_2 l0_3 l1_0 l1_1 a1_2))) = some r := by rw [if_pos rfl] at H; exact H
      clear H
      have H := H1
      clear H1
      replace H := Option.bind_eq_some_iff.mp H
      obtain ⟨t410, A330, H⟩ := H
      replace H : ((giroref35_Sum.f k1 l1_0).bind fun t411 => (giroref35_Verify.j2 k1 (a1_2 != (wrap64 (t410 + t411))) a0_0 l0_1 l0_2 l0_3 l1_0 l1_1 a1_2)) = some r := H
      have A33 := Aside0.mk A330
      clear A330
      replace H := Option.bind_eq_some_iff.mp H
      obtain ⟨t411, A340, H⟩ := H
      replace H : (giroref35_Verify.j2 k1 (a1_2 != (wrap64 (t410 + t411))) a0_0 l0_1 l0_2 l0_3 l1_0 l1_1 a1_2) = some r := H
      have A34 := Aside0.mk A340
      clear A340
      have H' := Aside0.mk H
      clear H
      try go_wp2
      have n0_ := Aside0.mk (bw9 BK394.out)
      have n1_ := Aside0.mk (bw9 BK395.out)
      have n2_ := Aside0.mk (bw3 HB.out)
      clear BK394; clear BK395; clear HB; have BK394 := n0_; have BK395 := n1_; have HB := n2_; clear n0_ n1_ n2_
      refine start_ (n := 17) (S := fun w' => w'.cell? ⟨gb395, 0, none⟩ = some (.slice A1_0 l1_0.length c1_0) ∧ w'.cell? ⟨gb395, 1, none⟩ = some (.slice A1_1 l1_1.length c1_1) ∧ w'.cell? ⟨gb395, 2, none⟩ = some (.int .i64 a1_2) ∧ w'.cell? ⟨gb394, 0, none⟩ = some (.int .i64 a0_0) ∧ w'.cell? ⟨gb394, 1, none⟩ = some (.slice A0_1 l0_1.length c0_1) ∧ w'.cell? ⟨gb394, 2, none⟩ = some (.slice A0_2 l0_2.length c0_2) ∧ w'.cell? ⟨gb394, 3, none⟩ = some (.slice A0_3 l0_3.length c0_3)) (ds := []) zb39 (by kernel_rfl) rfl rfl ⟨(bw5 BK395.out 0).trans rfl, (bw5 BK395.out 1).trans rfl, (bw5 BK395.out 2).trans rfl, (bw5 BK394.out 0).trans rfl, (bw5 BK394.out 1).trans rfl, (bw5 BK394.out 2).trans rfl, (bw5 BK394.out 3).trans rfl⟩ (fun hHeld => ?_); refine with_tabW giroref35_Verify.tab9 giroref35_Verify.bits9 (fun HT_ HW_ => ?_)
      generalize wr.drew = w35 at BK394 BK395 HB hHeld ⊢
      refine pure_ (i := 0) (N := some 50) (v := ?_) (a' := ?_) zb40 rfl rfl (any_of HT_.out (by kernel_rfl)) (fun _ _ _ h => h) (Or.inl ⟨by rfl, ?_⟩) ?_ ?_
      rotate_left
      ·intro w'; go_simp; (with_reducible rfl)
      rotate_left
      ·simp only [Act.put, zA_, zB_, zC_, i64_w, i32_w]; rfl
      refine take_ (i := 1) (N := some 51) (v := ?_) (a' := ?_) zb41 rfl rfl (take_ofW HT_.out HW_.out (by kernel_rfl)) (fun _ _ _ h => h) (Or.inl ⟨by rfl, ?_⟩) hHeld ?_ ?_
      rotate_left
      ·rintro w' ⟨s0, s1, s2, s3, s4, s5, s6⟩
       go_simp; (with_reducible rfl)
      rotate_left
      ·simp only [Act.put, zA_, zB_, zC_, i64_w, i32_w]; rfl
      refine take_ (i := 2) (N := some 52) (v := ?_) (a' := ?_) zb42 rfl rfl (take_ofW HT_.out HW_.out (by kernel_rfl)) (fun _ _ _ h => h) (Or.inl ⟨by rfl, ?_⟩) hHeld ?_ ?_
      rotate_left
      ·rintro w' ⟨s0, s1, s2, s3, s4, s5, s6⟩
       go_simp; (with_reducible rfl)
      rotate_left
      ·simp only [Act.put, zA_, zB_, zC_, i64_w, i32_w]; rfl
      refine one_ (i := 3) (N := some 53) zb43 rfl rfl (one_of HT_.out (by kernel_rfl)) (by decide) (fun K hK => ?_)
      refine goes_ Tryz.func59 (by kernel_rfl) rfl #[.agg #[.int .i64 a0_0, .slice A0_1 l0_1.length c0_1, .slice A0_2 l0_2.length c0_2, .slice A0_3 l0_3.length c0_3]] (by rfl) rfl rfl (by (try simp only [List.map_toArray, List.map_cons, List.map_nil]); first | done | rfl | (simp only [List.length_drop, List.length_take]; rfl)) ?_
      with_reducible refine (giroref35_Released.calls k1 a0_0 _ _ l0_1 _ _ l0_2 _ _ l0_3 t406 _ ?side1 ?side2 ?side3 ?side4 ?side5 ?side6 A30.out).mono ?_
      (case side1 => repeat (first | exact (Kd.C_below HR0_1.out HB.out) | with_reducible first | refine Kd.C_alloc ?_ _ | refine Kd.C_drewN ?_ _ | refine Kd.C_drew ?_))
      (case side2 => exact HC0_1.out)
      (case side3 => repeat (first | exact (Kd.C_below HR0_2.out HB.out) | with_reducible first | refine Kd.C_alloc ?_ _ | refine Kd.C_drewN ?_ _ | refine Kd.C_drew ?_))
      (case side4 => exact HC0_2.out)
      (case side5 => repeat (first | exact (Kd.C_below HR0_3.out HB.out) | with_reducible first | refine Kd.C_alloc ?_ _ | refine Kd.C_drewN ?_ _ | refine Kd.C_drew ?_))
      (case side6 => exact HC0_3.out)
      rintro e w36 ⟨v407, rfl, ho0, hb⟩
      refine ⟨_, rfl, ?_⟩
      have n0_ := Aside0.mk (Kd.R_lower ho0 (bx3 (by repeat (first | (with_reducible first | exact HB.out | apply bw2 | apply bw1 | apply bw3 | refine bw4 ?_ GE394.out | refine bw4 ?_ GE395.out) | exact HB.out))))
      have n1_ := Aside0.mk (bx1 (g := gb394) (o := .cells #[.int .i64 a0_0, .slice A0_1 l0_1.length c0_1, .slice A0_2 l0_2.length c0_2, .slice A0_3 l0_3.length c0_3] 49 (0, 0)) (by (with_reducible repeat (first | refine bw8 ?_ _ | refine bw9 ?_ | refine bw6 ?_ _)); exact BK394.out) hb)
      have n2_ := Aside0.mk (bx1 (g := gb395) (o := .cells #[.slice A1_0 l1_0.length c1_0, .slice A1_1 l1_1.length c1_1, .int .i64 a1_2] 54 (0, 0)) (by (with_reducible repeat (first | refine bw8 ?_ _ | refine bw9 ?_ | refine bw6 ?_ _)); exact BK395.out) hb)
      have n3_ := Aside0.mk (bx2 (by repeat (first | (with_reducible first | exact HB.out | apply bw2 | apply bw1 | apply bw3 | refine bw4 ?_ GE394.out | refine bw4 ?_ GE395.out) | exact HB.out)) hb)
      clear BK394; clear BK395; clear HB; have HO408 := n0_; have BK394 := n1_; have BK395 := n2_; have HB := n3_; clear n0_ n1_ n2_ n3_; (try clear hb); (try clear hb2); (try clear hk); (try clear hi); (try clear ho0)
      obtain ⟨Ao37, co37, eo37⟩ := Kd.R_slice HO408.out
      (first | subst eo37 | (injection eo37 with f1_ f2_ f3_; have f4_ := f1_.symm; have f5_ := f3_.symm; clear f1_ f2_ f3_; subst f4_; subst f5_))
      refine hK.out _ _ ⟨(bw5 BK395.out 0).trans rfl, (bw5 BK395.out 1).trans rfl, (bw5 BK395.out 2).trans rfl, (bw5 BK394.out 0).trans rfl, (bw5 BK394.out 1).trans rfl, (bw5 BK394.out 2).trans rfl, (bw5 BK394.out 3).trans rfl⟩ (fun hHeld => ?_)
      clear hK K
      refine norm_ (a' := ?_) ?_ ?_
      rotate_left
      ·show Act.put _ (some 53) _ = _; simp only [Act.put, zA_, zB_, zC_, i64_w, i32_w]; rfl
      refine one_ (i := 4) (N := some 54) zb44 rfl rfl (one_of HT_.out (by kernel_rfl)) (by decide) (fun K hK => ?_)
      refine goes_ Tryz.func60 (by kernel_rfl) rfl #[.slice A1_1 l1_1.length c1_1, .slice Ao37 t406.length co37] (by rfl) rfl rfl (by (try simp only [List.map_toArray, List.map_cons, List.map_nil]); first | done | rfl | (simp only [List.length_drop, List.length_take]; rfl)) ?_
      with_reducible refine (giroref35_SameList.calls k1 _ _ l1_1 _ _ t406 true _ ?side1 ?side2 ?side3 ?side4 A31.out).mono ?_
      (case side1 => repeat (first | exact (Kd.C_below HR1_1.out HB.out) | with_reducible first | refine Kd.C_alloc ?_ _ | refine Kd.C_drewN ?_ _ | refine Kd.C_drew ?_))
      (case side2 => exact HC1_1.out)
      (case side3 => repeat (first | exact (Kd.R_reads' HO408.out).2.2 | with_reducible first | refine Kd.C_alloc ?_ _ | refine Kd.C_drewN ?_ _ | refine Kd.C_drew ?_))
      (case side4 => exact (Kd.R_reads' HO408.out).2.1)
      rintro e w' ⟨rfl, ⟨nd, rfl⟩⟩
      refine ⟨_, rfl, ?_⟩
      refine hK.out _ _ ⟨(bw5 BK395.out 0).trans rfl, (bw5 BK395.out 1).trans rfl, (bw5 BK395.out 2).trans rfl, (bw5 BK394.out 0).trans rfl, (bw5 BK394.out 1).trans rfl, (bw5 BK394.out 2).trans rfl, (bw5 BK394.out 3).trans rfl⟩ (fun hHeld => ?_)
      clear hK K
      refine norm_ (a' := ?_) ?_ ?_
      rotate_left
      ·show Act.put _ (some 54) _ = _; simp only [Act.put, zA_, zB_, zC_, i64_w, i32_w]; rfl
      refine pure_ (i := 5) (N := some 55) (v := ?_) (a' := ?_) zb45 rfl rfl (any_of HT_.out (by kernel_rfl)) (fun _ _ _ h => h) (Or.inl ⟨by rfl, ?_⟩) ?_ ?_
      rotate_left
      ·intro w'; go_simp; (with_reducible rfl)
      rotate_left
      ·simp only [Act.put, zA_, zB_, zC_, i64_w, i32_w]; rfl
      refine pure_ (i := 6) (N := some 56) (v := ?_) (a' := ?_) zb46 rfl rfl (any_of HT_.out (by kernel_rfl)) (fun _ _ _ h => h) (Or.inl ⟨by rfl, ?_⟩) ?_ ?_
      rotate_left
      ·intro w'; go_simp; (with_reducible rfl)
      rotate_left
      ·simp only [Act.put, zA_, zB_, zC_, i64_w, i32_w]; rfl
      refine pure_ (i := 7) (N := some 57) (v := ?_) (a' := ?_) zb47 rfl rfl (any_of HT_.out (by kernel_rfl)) (fun _ _ _ h => h) (Or.inl ⟨by rfl, ?_⟩) ?_ ?_
      rotate_left
      ·intro w'; go_simp; (with_reducible rfl)
      rotate_left
      ·simp only [Act.put, zA_, zB_, zC_, i64_w, i32_w]; rfl
      refine pure_ (i := 11) (N := some 61) (v := ?_) (a' := ?_) #[true,true,true,true,true,true,true,true,false,false,false,true,false,false,false,false,false] rfl rfl (any_of HT_.out (by kernel_rfl)) (fun _ _ _ h => h) (Or.inl ⟨by rfl, ?_⟩) ?_ ?_
      rotate_left
      ·intro w'; go_simp; (with_reducible rfl)
      rotate_left
      ·simp only [Act.put, zA_, zB_, zC_, i64_w, i32_w]; rfl
      refine take_ (i := 8) (N := some 58) (v := ?_) (a' := ?_) #[true,true,true,true,true,true,true,true,true,false,false,true,false,false,false,false,false] rfl rfl (take_ofW HT_.out HW_.out (by kernel_rfl)) (fun _ _ _ h => h) (Or.inl ⟨by rfl, ?_⟩) hHeld ?_ ?_
      rotate_left
      ·rintro w' ⟨s0, s1, s2, s3, s4, s5, s6⟩
       go_simp; (with_reducible rfl)
      rotate_left
      ·simp only [Act.put, zA_, zB_, zC_, i64_w, i32_w]; rfl
      refine take_ (i := 9) (N := some 59) (v := ?_) (a' := ?_) #[true,true,true,true,true,true,true,true,true,true,false,true,false,false,false,false,false] rfl rfl (take_ofW HT_.out HW_.out (by kernel_rfl)) (fun _ _ _ h => h) (Or.inl ⟨by rfl, ?_⟩) hHeld ?_ ?_
      rotate_left
      ·rintro w' ⟨s0, s1, s2, s3, s4, s5, s6⟩
       go_simp; (with_reducible rfl)
      rotate_left
      ·simp only [Act.put, zA_, zB_, zC_, i64_w, i32_w]; rfl
      refine take_ (i := 12) (N := some 62) (v := ?_) (a' := ?_) #[true,true,true,true,true,true,true,true,true,true,false,true,true,false,false,false,false] rfl rfl (take_ofW HT_.out HW_.out (by kernel_rfl)) (fun _ _ _ h => h) (Or.inl ⟨by rfl, ?_⟩) hHeld ?_ ?_
      rotate_left
      ·rintro w' ⟨s0, s1, s2, s3, s4, s5, s6⟩
       go_simp; (with_reducible rfl)
      rotate_left
      ·simp only [Act.put, zA_, zB_, zC_, i64_w, i32_w]; rfl
      refine one_ (i := 10) (N := some 60) zb48 rfl rfl (one_of HT_.out (by kernel_rfl)) (by decide) (fun K hK => ?_)
      refine goes_ Tryz.func31 (by kernel_rfl) rfl #[.agg #[.int .i64 a0_0, .slice A0_1 l0_1.length c0_1, .slice A0_2 l0_2.length c0_2, .slice A0_3 l0_3.length c0_3]] (by rfl) rfl rfl (by (try simp only [List.map_toArray, List.map_cons, List.map_nil]); first | done | rfl | (simp only [List.length_drop, List.length_take]; rfl)) ?_
      with_reducible refine (giroref35_Kept.calls k1 a0_0 _ _ l0_1 _ _ l0_2 _ _ l0_3 t410 _ ?side1 ?side2 ?side3 ?side4 ?side5 ?side6 A33.out).mono ?_
      (case side1 => repeat (first | exact (Kd.C_below HR0_1.out (by repeat (first | (with_reducible first | exact HB.out | apply bw2 | apply bw1 | apply bw3 | refine bw4 ?_ GE394.out | refine bw4 ?_ GE395.out) | exact HB.out))) | with_reducible first | refine Kd.C_alloc ?_ _ | refine Kd.C_drewN ?_ _ | refine Kd.C_drew ?_))
      (case side2 => exact HC0_1.out)
      (case side3 => repeat (first | exact (Kd.C_below HR0_2.out (by repeat (first | (with_reducible first | exact HB.out | apply bw2 | apply bw1 | apply bw3 | refine bw4 ?_ GE394.out | refine bw4 ?_ GE395.out) | exact HB.out))) | with_reducible first | refine Kd.C_alloc ?_ _ | refine Kd.C_drewN ?_ _ | refine Kd.C_drew ?_))
      (case side4 => exact HC0_2.out)
      (case side5 => repeat (first | exact (Kd.C_below HR0_3.out (by repeat (first | (with_reducible first | exact HB.out | apply bw2 | apply bw1 | apply bw3 | refine bw4 ?_ GE394.out | refine bw4 ?_ GE395.out) | exact HB.out))) | with_reducible first | refine Kd.C_alloc ?_ _ | refine Kd.C_drewN ?_ _ | refine Kd.C_drew ?_))
      (case side6 => exact HC0_3.out)
      rintro e w38 ⟨rfl, hb⟩
      refine ⟨_, rfl, ?_⟩
      have n0_ := Aside0.mk (Kd.R_below (by (with_reducible repeat (first | apply Kd.R_alloc | apply Kd.R_drewN | apply Kd.R_drew)); exact HO408.out) hb)
      have n1_ := Aside0.mk (bx1 (g := gb394) (o := .cells #[.int .i64 a0_0, .slice A0_1 l0_1.length c0_1, .slice A0_2 l0_2.length c0_2, .slice A0_3 l0_3.length c0_3] 49 (0, 0)) (by (with_reducible repeat (first | refine bw8 ?_ _ | refine bw9 ?_ | refine bw6 ?_ _)); exact BK394.out) hb)
      have n2_ := Aside0.mk (bx1 (g := gb395) (o := .cells #[.slice A1_0 l1_0.length c1_0, .slice A1_1 l1_1.length c1_1, .int .i64 a1_2] 54 (0, 0)) (by (with_reducible repeat (first | refine bw8 ?_ _ | refine bw9 ?_ | refine bw6 ?_ _)); exact BK395.out) hb)
      have n3_ := Aside0.mk (bx2 (by repeat (first | (with_reducible first | exact HB.out | apply bw2 | apply bw1 | apply bw3 | refine bw4 ?_ GE394.out | refine bw4 ?_ GE395.out) | exact HB.out)) hb)
      clear HO408; clear BK394; clear BK395; clear HB; have HO408 := n0_; have BK394 := n1_; have BK395 := n2_; have HB := n3_; clear n0_ n1_ n2_ n3_; (try clear hb); (try clear hb2); (try clear hk); (try clear hi)
      refine hK.out _ _ ⟨(bw5 BK395.out 0).trans rfl, (bw5 BK395.out 1).trans rfl, (bw5 BK395.out 2).trans rfl, (bw5 BK394.out 0).trans rfl, (bw5 BK394.out 1).trans rfl, (bw5 BK394.out 2).trans rfl, (bw5 BK394.out 3).trans rfl⟩ (fun hHeld => ?_)
      clear hK K
      refine norm_ (a' := ?_) ?_ ?_
      rotate_left
      ·show Act.put _ (some 60) _ = _; simp only [Act.put, zA_, zB_, zC_, i64_w, i32_w]; rfl
      refine one_ (i := 13) (N := some 63) zb49 rfl rfl (one_of HT_.out (by kernel_rfl)) (by decide) (fun K hK => ?_)
      refine goes_ Tryz.func57 (by kernel_rfl) rfl #[.slice A1_0 l1_0.length c1_0] (by rfl) rfl rfl (by (try simp only [List.map_toArray, List.map_cons, List.map_nil]); first | done | rfl | (simp only [List.length_drop, List.length_take]; rfl)) ?_
      with_reducible refine (giroref35_Sum.calls k1 _ _ l1_0 t411 _ ?side1 ?side2 A34.out).mono ?_
      (case side1 => repeat (first | exact (Kd.C_below HR1_0.out HB.out) | with_reducible first | refine Kd.C_alloc ?_ _ | refine Kd.C_drewN ?_ _ | refine Kd.C_drew ?_))
      (case side2 => exact HC1_0.out)
      rintro e w' ⟨rfl, ⟨nd, rfl⟩⟩
      refine ⟨_, rfl, ?_⟩
      refine hK.out _ _ ⟨(bw5 BK395.out 0).trans rfl, (bw5 BK395.out 1).trans rfl, (bw5 BK395.out 2).trans rfl, (bw5 BK394.out 0).trans rfl, (bw5 BK394.out 1).trans rfl, (bw5 BK394.out 2).trans rfl, (bw5 BK394.out 3).trans rfl⟩ (fun hHeld => ?_)
      clear hK K
      refine norm_ (a' := ?_) ?_ ?_
      rotate_left
      ·show Act.put _ (some 63) _ = _; simp only [Act.put, zA_, zB_, zC_, i64_w, i32_w]; rfl
      refine pure_ (i := 14) (N := some 64) (v := ?_) (a' := ?_) zb50 rfl rfl (any_of HT_.out (by kernel_rfl)) (fun _ _ _ h => h) (Or.inl ⟨by rfl, ?_⟩) ?_ ?_
      rotate_left
      ·intro w'; go_simp; (with_reducible rfl)
      rotate_left
      ·simp only [Act.put, zA_, zB_, zC_, i64_w, i32_w]; rfl
      refine pure_ (i := 15) (N := some 65) (v := ?_) (a' := ?_) zb51 rfl rfl (any_of HT_.out (by kernel_rfl)) (fun _ _ _ h => h) (Or.inl ⟨by rfl, ?_⟩) ?_ ?_
      rotate_left
      ·intro w'; go_simp; (with_reducible rfl)
      rotate_left
      ·simp only [Act.put, zA_, zB_, zC_, i64_w, i32_w]; rfl
      refine pure_ (i := 16) (N := some 66) (v := ?_) (a' := ?_) zb52 rfl rfl (any_of HT_.out (by kernel_rfl)) (fun _ _ _ h => h) (Or.inl ⟨by rfl, ?_⟩) ?_ ?_
      rotate_left
      ·intro w'; go_simp; (with_reducible rfl)
      rotate_left
      ·simp only [Act.put, zA_, zB_, zC_, i64_w, i32_w]; rfl
      refine done_ (done_of HT_.out (by kernel_rfl)) ?_
      try go_wp2
      go_meet
      case rel => exact ⟨_, ((a1_2 != (wrap64 (t410 + t411)))), (by first | rfl | (simp; done) | (simp [*]; done)), H', ⟨by have := HK1.out; first | omega | exact Nat.le_refl _⟩, ⟨by (with_reducible repeat (first | refine bw8 ?_ _ | refine bw9 ?_ | refine bw6 ?_ _)); exact BK394.out⟩, ⟨by (with_reducible repeat (first | refine bw8 ?_ _ | refine bw9 ?_ | refine bw6 ?_ _)); exact BK395.out⟩, ⟨by repeat (first | (with_reducible first | exact HB.out | apply bw2 | apply bw1 | apply bw3 | refine bw4 ?_ GE394.out | refine bw4 ?_ GE395.out) | exact HB.out)⟩⟩
     ·replace c32 := Bool.eq_false_iff.mpr c32
      subst c32
      have H1 : (giroref35_Verify.j2 k1 true a0_0 l0_1 l0_2 l0_3 l1_0 l1_1 a1_2) = some r := by rw [if_neg (show ¬ (false = true) by decide)] at H; exact H
      clear H
      have H := H1
      clear H1
      have H' := Aside0.mk H
      clear H
      try go_wp2
      have n0_ := Aside0.mk (bw9 BK394.out)
      have n1_ := Aside0.mk (bw9 BK395.out)
      have n2_ := Aside0.mk (bw3 HB.out)
      clear BK394; clear BK395; clear HB; have BK394 := n0_; have BK395 := n1_; have HB := n2_; clear n0_ n1_ n2_
      refine start_ (n := 17) (S := fun w' => w'.cell? ⟨gb395, 0, none⟩ = some (.slice A1_0 l1_0.length c1_0) ∧ w'.cell? ⟨gb395, 1, none⟩ = some (.slice A1_1 l1_1.length c1_1) ∧ w'.cell? ⟨gb395, 2, none⟩ = some (.int .i64 a1_2) ∧ w'.cell? ⟨gb394, 0, none⟩ = some (.int .i64 a0_0) ∧ w'.cell? ⟨gb394, 1, none⟩ = some (.slice A0_1 l0_1.length c0_1) ∧ w'.cell? ⟨gb394, 2, none⟩ = some (.slice A0_2 l0_2.length c0_2) ∧ w'.cell? ⟨gb394, 3, none⟩ = some (.slice A0_3 l0_3.length c0_3)) (ds := []) zb39 (by kernel_rfl) rfl rfl ⟨(bw5 BK395.out 0).trans rfl, (bw5 BK395.out 1).trans rfl, (bw5 BK395.out 2).trans rfl, (bw5 BK394.out 0).trans rfl, (bw5 BK394.out 1).trans rfl, (bw5 BK394.out 2).trans rfl, (bw5 BK394.out 3).trans rfl⟩ (fun hHeld => ?_); refine with_tabW giroref35_Verify.tab9 giroref35_Verify.bits9 (fun HT_ HW_ => ?_)
      generalize wr.drew = w39 at BK394 BK395 HB hHeld ⊢
      refine pure_ (i := 0) (N := some 50) (v := ?_) (a' := ?_) zb40 rfl rfl (any_of HT_.out (by kernel_rfl)) (fun _ _ _ h => h) (Or.inl ⟨by rfl, ?_⟩) ?_ ?_
      rotate_left
      ·intro w'; go_simp; (with_reducible rfl)
      rotate_left
      ·simp only [Act.put, zA_, zB_, zC_, i64_w, i32_w]; rfl
      refine take_ (i := 1) (N := some 51) (v := ?_) (a' := ?_) zb41 rfl rfl (take_ofW HT_.out HW_.out (by kernel_rfl)) (fun _ _ _ h => h) (Or.inl ⟨by rfl, ?_⟩) hHeld ?_ ?_
      rotate_left
      ·rintro w' ⟨s0, s1, s2, s3, s4, s5, s6⟩
       go_simp; (with_reducible rfl)
      rotate_left
      ·simp only [Act.put, zA_, zB_, zC_, i64_w, i32_w]; rfl
      refine take_ (i := 2) (N := some 52) (v := ?_) (a' := ?_) zb42 rfl rfl (take_ofW HT_.out HW_.out (by kernel_rfl)) (fun _ _ _ h => h) (Or.inl ⟨by rfl, ?_⟩) hHeld ?_ ?_
      rotate_left
      ·rintro w' ⟨s0, s1, s2, s3, s4, s5, s6⟩
       go_simp; (with_reducible rfl)
      rotate_left
      ·simp only [Act.put, zA_, zB_, zC_, i64_w, i32_w]; rfl
      refine one_ (i := 3) (N := some 53) zb43 rfl rfl (one_of HT_.out (by kernel_rfl)) (by decide) (fun K hK => ?_)
      refine goes_ Tryz.func59 (by kernel_rfl) rfl #[.agg #[.int .i64 a0_0, .slice A0_1 l0_1.length c0_1, .slice A0_2 l0_2.length c0_2, .slice A0_3 l0_3.length c0_3]] (by rfl) rfl rfl (by (try simp only [List.map_toArray, List.map_cons, List.map_nil]); first | done | rfl | (simp only [List.length_drop, List.length_take]; rfl)) ?_
      with_reducible refine (giroref35_Released.calls k1 a0_0 _ _ l0_1 _ _ l0_2 _ _ l0_3 t406 _ ?side1 ?side2 ?side3 ?side4 ?side5 ?side6 A30.out).mono ?_
      (case side1 => repeat (first | exact (Kd.C_below HR0_1.out HB.out) | with_reducible first | refine Kd.C_alloc ?_ _ | refine Kd.C_drewN ?_ _ | refine Kd.C_drew ?_))
      (case side2 => exact HC0_1.out)
      (case side3 => repeat (first | exact (Kd.C_below HR0_2.out HB.out) | with_reducible first | refine Kd.C_alloc ?_ _ | refine Kd.C_drewN ?_ _ | refine Kd.C_drew ?_))
      (case side4 => exact HC0_2.out)
      (case side5 => repeat (first | exact (Kd.C_below HR0_3.out HB.out) | with_reducible first | refine Kd.C_alloc ?_ _ | refine Kd.C_drewN ?_ _ | refine Kd.C_drew ?_))
      (case side6 => exact HC0_3.out)
      rintro e w40 ⟨v407, rfl, ho0, hb⟩
      refine ⟨_, rfl, ?_⟩
      have n0_ := Aside0.mk (Kd.R_lower ho0 (bx3 (by repeat (first | (with_reducible first | exact HB.out | apply bw2 | apply bw1 | apply bw3 | refine bw4 ?_ GE394.out | refine bw4 ?_ GE395.out) | exact HB.out))))
      have n1_ := Aside0.mk (bx1 (g := gb394) (o := .cells #[.int .i64 a0_0, .slice A0_1 l0_1.length c0_1, .slice A0_2 l0_2.length c0_2, .slice A0_3 l0_3.length c0_3] 49 (0, 0)) (by (with_reducible repeat (first | refine bw8 ?_ _ | refine bw9 ?_ | refine bw6 ?_ _)); exact BK394.out) hb)
      have n2_ := Aside0.mk (bx1 (g := gb395) (o := .cells #[.slice A1_0 l1_0.length c1_0, .slice A1_1 l1_1.length c1_1, .int .i64 a1_2] 54 (0, 0)) (by (with_reducible repeat (first | refine bw8 ?_ _ | refine bw9 ?_ | refine bw6 ?_ _)); exact BK395.out) hb)
      have n3_ := Aside0.mk (bx2 (by repeat (first | (with_reducible first | exact HB.out | apply bw2 | apply bw1 | apply bw3 | refine bw4 ?_ GE394.out | refine bw4 ?_ GE395.out) | exact HB.out)) hb)
      clear BK394; clear BK395; clear HB; have HO408 := n0_; have BK394 := n1_; have BK395 := n2_; have HB := n3_; clear n0_ n1_ n2_ n3_; (try clear hb); (try clear hb2); (try clear hk); (try clear hi); (try clear ho0)
      obtain ⟨Ao41, co41, eo41⟩ := Kd.R_slice HO408.out
      (first | subst eo41 | (injection eo41 with f1_ f2_ f3_; have f4_ := f1_.symm; have f5_ := f3_.symm; clear f1_ f2_ f3_; subst f4_; subst f5_))
      refine hK.out _ _ ⟨(bw5 BK395.out 0).trans rfl, (bw5 BK395.out 1).trans rfl, (bw5 BK395.out 2).trans rfl, (bw5 BK394.out 0).trans rfl, (bw5 BK394.out 1).trans rfl, (bw5 BK394.out 2).trans rfl, (bw5 BK394.out 3).trans rfl⟩ (fun hHeld => ?_)
      clear hK K
      refine norm_ (a' := ?_) ?_ ?_
      rotate_left
      ·show Act.put _ (some 53) _ = _; simp only [Act.put, zA_, zB_, zC_, i64_w, i32_w]; rfl
      refine one_ (i := 4) (N := some 54) zb44 rfl rfl (one_of HT_.out (by kernel_rfl)) (by decide) (fun K hK => ?_)
      refine goes_ Tryz.func60 (by kernel_rfl) rfl #[.slice A1_1 l1_1.length c1_1, .slice Ao41 t406.length co41] (by rfl) rfl rfl (by (try simp only [List.map_toArray, List.map_cons, List.map_nil]); first | done | rfl | (simp only [List.length_drop, List.length_take]; rfl)) ?_
      with_reducible refine (giroref35_SameList.calls k1 _ _ l1_1 _ _ t406 false _ ?side1 ?side2 ?side3 ?side4 A31.out).mono ?_
      (case side1 => repeat (first | exact (Kd.C_below HR1_1.out HB.out) | with_reducible first | refine Kd.C_alloc ?_ _ | refine Kd.C_drewN ?_ _ | refine Kd.C_drew ?_))
      (case side2 => exact HC1_1.out)
      (case side3 => repeat (first | exact (Kd.R_reads' HO408.out).2.2 | with_reducible first | refine Kd.C_alloc ?_ _ | refine Kd.C_drewN ?_ _ | refine Kd.C_drew ?_))
      (case side4 => exact (Kd.R_reads' HO408.out).2.1)
      rintro e w' ⟨rfl, ⟨nd, rfl⟩⟩
      refine ⟨_, rfl, ?_⟩
      refine hK.out _ _ ⟨(bw5 BK395.out 0).trans rfl, (bw5 BK395.out 1).trans rfl, (bw5 BK395.out 2).trans rfl, (bw5 BK394.out 0).trans rfl, (bw5 BK394.out 1).trans rfl, (bw5 BK394.out 2).trans rfl, (bw5 BK394.out 3).trans rfl⟩ (fun hHeld => ?_)
      clear hK K
      refine norm_ (a' := ?_) ?_ ?_
      rotate_left
      ·show Act.put _ (some 54) _ = _; simp only [Act.put, zA_, zB_, zC_, i64_w, i32_w]; rfl
      refine pure_ (i := 5) (N := some 55) (v := ?_) (a' := ?_) zb45 rfl rfl (any_of HT_.out (by kernel_rfl)) (fun _ _ _ h => h) (Or.inl ⟨by rfl, ?_⟩) ?_ ?_
      rotate_left
      ·intro w'; go_simp; (with_reducible rfl)
      rotate_left
      ·simp only [Act.put, zA_, zB_, zC_, i64_w, i32_w]; rfl
      refine pure_ (i := 6) (N := some 56) (v := ?_) (a' := ?_) zb46 rfl rfl (any_of HT_.out (by kernel_rfl)) (fun _ _ _ h => h) (Or.inl ⟨by rfl, ?_⟩) ?_ ?_
      rotate_left
      ·intro w'; go_simp; (with_reducible rfl)
      rotate_left
      ·simp only [Act.put, zA_, zB_, zC_, i64_w, i32_w]; rfl
      refine pure_ (i := 7) (N := some 57) (v := undef) (a' := ?_) zb47 rfl rfl (any_of HT_.out (by kernel_rfl)) (fun _ _ _ h => h) (Or.inr ⟨by rfl, rfl⟩) ?_ ?_
      rotate_left
      ·simp only [Act.put, zA_, zB_, zC_, i64_w, i32_w]; rfl
      refine pure_ (i := 8) (N := some 58) (v := undef) (a' := ?_) #[true,true,true,true,true,true,true,true,true,false,false,false,false,false,false,false,false] rfl rfl (any_of HT_.out (by kernel_rfl)) (fun _ _ _ h => h) (Or.inr ⟨by rfl, rfl⟩) ?_ ?_
      rotate_left
      ·simp only [Act.put, zA_, zB_, zC_, i64_w, i32_w]; rfl
      refine pure_ (i := 9) (N := some 59) (v := undef) (a' := ?_) #[true,true,true,true,true,true,true,true,true,true,false,false,false,false,false,false,false] rfl rfl (any_of HT_.out (by kernel_rfl)) (fun _ _ _ h => h) (Or.inr ⟨by rfl, rfl⟩) ?_ ?_
      rotate_left
      ·simp only [Act.put, zA_, zB_, zC_, i64_w, i32_w]; rfl
      refine pure_ (i := 10) (N := some 60) (v := undef) (a' := ?_) #[true,true,true,true,true,true,true,true,true,true,true,false,false,false,false,false,false] rfl rfl (any_of HT_.out (by kernel_rfl)) (fun _ _ _ h => h) (Or.inr ⟨by rfl, rfl⟩) ?_ ?_
      rotate_left
      ·simp only [Act.put, zA_, zB_, zC_, i64_w, i32_w]; rfl
      refine pure_ (i := 11) (N := some 61) (v := undef) (a' := ?_) #[true,true,true,true,true,true,true,true,true,true,true,true,false,false,false,false,false] rfl rfl (any_of HT_.out (by kernel_rfl)) (fun _ _ _ h => h) (Or.inr ⟨by rfl, rfl⟩) ?_ ?_
      rotate_left
      ·simp only [Act.put, zA_, zB_, zC_, i64_w, i32_w]; rfl
      refine pure_ (i := 12) (N := some 62) (v := undef) (a' := ?_) zb48 rfl rfl (any_of HT_.out (by kernel_rfl)) (fun _ _ _ h => h) (Or.inr ⟨by rfl, rfl⟩) ?_ ?_
      rotate_left
      ·simp only [Act.put, zA_, zB_, zC_, i64_w, i32_w]; rfl
      refine pure_ (i := 13) (N := some 63) (v := undef) (a' := ?_) zb49 rfl rfl (any_of HT_.out (by kernel_rfl)) (fun _ _ _ h => h) (Or.inr ⟨by rfl, rfl⟩) ?_ ?_
      rotate_left
      ·simp only [Act.put, zA_, zB_, zC_, i64_w, i32_w]; rfl
      refine pure_ (i := 14) (N := some 64) (v := undef) (a' := ?_) zb50 rfl rfl (any_of HT_.out (by kernel_rfl)) (fun _ _ _ h => h) (Or.inr ⟨by rfl, rfl⟩) ?_ ?_
      rotate_left
      ·simp only [Act.put, zA_, zB_, zC_, i64_w, i32_w]; rfl
      refine pure_ (i := 15) (N := some 65) (v := undef) (a' := ?_) zb51 rfl rfl (any_of HT_.out (by kernel_rfl)) (fun _ _ _ h => h) (Or.inr ⟨by rfl, rfl⟩) ?_ ?_
      rotate_left
      ·simp only [Act.put, zA_, zB_, zC_, i64_w, i32_w]; rfl
      refine pure_ (i := 16) (N := some 66) (v := ?_) (a' := ?_) zb52 rfl rfl (any_of HT_.out (by kernel_rfl)) (fun _ _ _ h => h) (Or.inl ⟨by rfl, ?_⟩) ?_ ?_
      rotate_left
      ·intro w'; go_simp; (with_reducible rfl)
      rotate_left
      ·simp only [Act.put, zA_, zB_, zC_, i64_w, i32_w]; rfl
      refine done_ (done_of HT_.out (by kernel_rfl)) ?_
      try go_wp2
      go_meet
      case rel => exact ⟨_, (true), (by first | rfl | (simp; done) | (simp [*]; done)), H', ⟨by have := HK1.out; first | omega | exact Nat.le_refl _⟩, ⟨by (with_reducible repeat (first | refine bw8 ?_ _ | refine bw9 ?_ | refine bw6 ?_ _)); exact BK394.out⟩, ⟨by (with_reducible repeat (first | refine bw8 ?_ _ | refine bw9 ?_ | refine bw6 ?_ _)); exact BK395.out⟩, ⟨by repeat (first | (with_reducible first | exact HB.out | apply bw2 | apply bw1 | apply bw3 | refine bw4 ?_ GE394.out | refine bw4 ?_ GE395.out) | exact HB.out)⟩⟩
    case rest =>
     clear HC27
     try clear c1
     try clear c2
     try clear p2
     try clear q2
     try clear c3
     try clear p4
     try clear q4
     try clear hx4
     try clear c5
     try clear c5b0
     try clear c6
     try clear p6
     try clear c18
     try clear c19
     try clear c20
     try clear c22
     try clear c22b0
     try clear q26
     try clear c28
     try clear c31
     try clear c32
     try clear p40
     try clear q40
     try clear hx40
     try clear hcz29_0
     try clear hcz29_1
     try clear hcz29_2
     try clear hfz29_0
     try clear hfz29_1
     try clear hfz29_2
     try clear hx404_0
     try clear hx404_1
     try clear hx404_2
     try clear p404
     try clear q26
     try clear q404
     obtain ⟨kq, x66_26, rfl, HA, HJ26, BK394, BK395, HB⟩ := hcut
     cases kq with
     | zero => exact absurd HA.out (by simp [giroref35_Verify.j2])
     | succ kj26 =>
      have H := HA.out
      clear HA
      simp only [giroref35_Verify.j2] at H
      by_cases c42 : x66_26 = true
      ·subst c42
       have H1 : (some 17) = some r := by rw [if_pos rfl] at H; exact H
       clear H
       have H := H1
       clear H1
       obtain rfl := Option.some.inj H
       go_wp2
       go_ret
       exact ⟨by first | rfl | (simp [errW_none, errW_some] <;> rfl) | (simp [*, errW_none, errW_some] <;> rfl), by repeat (first | (with_reducible first | exact HB.out | apply bw2 | apply bw1 | apply bw3 | refine bw4 ?_ GE394.out | refine bw4 ?_ GE395.out) | exact HB.out)⟩
      ·replace c42 := Bool.eq_false_iff.mpr c42
       subst c42
       have H1 : (if a1_2 < a0_0 then (some 25) else (some 0)) = some r := by rw [if_neg (show ¬ (false = true) by decide)] at H; exact H
       clear H
       have H := H1
       clear H1
       by_cases c43 : a1_2 < a0_0
       ·rw [if_pos c43] at H
        have c43b0 : decide (a1_2 < a0_0) = true := decide_eq_true c43
        clear c43
        obtain rfl := Option.some.inj H
        have hnb44 := NB395_394.out
        have hnc44 := NB394_395.out
        have hcz45_0 : wc.cell? ⟨gb395, 0, none⟩ = some (.slice A1_0 l1_0.length c1_0) := (bw5 BK395.out 0).trans rfl
        have hcz45_1 : wc.cell? ⟨gb395, 1, none⟩ = some (.slice A1_1 l1_1.length c1_1) := (bw5 BK395.out 1).trans rfl
        have hcz45_2 : wc.cell? ⟨gb395, 2, none⟩ = some (.int .i64 a1_2) := (bw5 BK395.out 2).trans rfl
        have hfz45_0 := bw7 BK395.out 0
        have hfz45_1 := bw7 BK395.out 1
        have hfz45_2 := bw7 BK395.out 2
        have hcz46_0 : wc.cell? ⟨gb394, 0, none⟩ = some (.int .i64 a0_0) := (bw5 BK394.out 0).trans rfl
        have hcz46_1 : wc.cell? ⟨gb394, 1, none⟩ = some (.slice A0_1 l0_1.length c0_1) := (bw5 BK394.out 1).trans rfl
        have hcz46_2 : wc.cell? ⟨gb394, 2, none⟩ = some (.slice A0_2 l0_2.length c0_2) := (bw5 BK394.out 2).trans rfl
        have hcz46_3 : wc.cell? ⟨gb394, 3, none⟩ = some (.slice A0_3 l0_3.length c0_3) := (bw5 BK394.out 3).trans rfl
        have hfz46_0 := bw7 BK394.out 0
        have hfz46_1 := bw7 BK394.out 1
        have hfz46_2 := bw7 BK394.out 2
        have hfz46_3 := bw7 BK394.out 3
        go_wp2
        go_ret
        exact ⟨by first | rfl | (simp [errW_none, errW_some] <;> rfl) | (simp [*, errW_none, errW_some] <;> rfl), by repeat (first | (with_reducible first | exact HB.out | apply bw2 | apply bw1 | apply bw3 | refine bw4 ?_ GE394.out | refine bw4 ?_ GE395.out) | exact HB.out)⟩
       ·rw [if_neg c43] at H
        have c43b0 : decide (a1_2 < a0_0) = false := decide_eq_false c43
        clear c43
        obtain rfl := Option.some.inj H
        have hnb47 := NB395_394.out
        have hnc47 := NB394_395.out
        have hcz48_0 : wc.cell? ⟨gb395, 0, none⟩ = some (.slice A1_0 l1_0.length c1_0) := (bw5 BK395.out 0).trans rfl
        have hcz48_1 : wc.cell? ⟨gb395, 1, none⟩ = some (.slice A1_1 l1_1.length c1_1) := (bw5 BK395.out 1).trans rfl
        have hcz48_2 : wc.cell? ⟨gb395, 2, none⟩ = some (.int .i64 a1_2) := (bw5 BK395.out 2).trans rfl
        have hfz48_0 := bw7 BK395.out 0
        have hfz48_1 := bw7 BK395.out 1
        have hfz48_2 := bw7 BK395.out 2
        have hcz49_0 : wc.cell? ⟨gb394, 0, none⟩ = some (.int .i64 a0_0) := (bw5 BK394.out 0).trans rfl
        have hcz49_1 : wc.cell? ⟨gb394, 1, none⟩ = some (.slice A0_1 l0_1.length c0_1) := (bw5 BK394.out 1).trans rfl
        have hcz49_2 : wc.cell? ⟨gb394, 2, none⟩ = some (.slice A0_2 l0_2.length c0_2) := (bw5 BK394.out 2).trans rfl
        have hcz49_3 : wc.cell? ⟨gb394, 3, none⟩ = some (.slice A0_3 l0_3.length c0_3) := (bw5 BK394.out 3).trans rfl
        have hfz49_0 := bw7 BK394.out 0
        have hfz49_1 := bw7 BK394.out 1
        have hfz49_2 := bw7 BK394.out 2
        have hfz49_3 := bw7 BK394.out 3
        go_wp2
        go_ret
        exact ⟨by first | rfl | (simp [errW_none, errW_some] <;> rfl) | (simp [*, errW_none, errW_some] <;> rfl), by repeat (first | (with_reducible first | exact HB.out | apply bw2 | apply bw1 | apply bw3 | refine bw4 ?_ GE394.out | refine bw4 ?_ GE395.out) | exact HB.out)⟩
end Go.Proofs.YtoanlppfdniiaaaGreatDoor.Q
end
