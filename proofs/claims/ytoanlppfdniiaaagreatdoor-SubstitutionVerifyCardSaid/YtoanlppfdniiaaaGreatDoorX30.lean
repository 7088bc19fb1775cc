/- A part of the proof; no condition. -/
import Derived.Test.YtoanlppfdniiaaaGreatDoorX1
import Derived.Test.YtoanlppfdniiaaaGreatDoorX13
import Derived.Test.YtoanlppfdniiaaaGreatDoorX29
import Derived.Test.YtoanlppfdniiaaaGreatDoorX14
section
namespace Go.Proofs.YtoanlppfdniiaaaGreatDoor.Q
open Go.RowKit Go.Proofs.YtoanlppfdniiaaaGreatDoorW.PrintWords Go.Proofs.YtoanlppfdniiaaaGreatDoorW.PrintLast Go.Proofs.YtoanlppfdniiaaaGreatDoorW.PrintMore
attribute [local go_sem] max2_int min2_int max_two min_two max_three min_three max_four min_four
set_option linter.unusedVariables false
set_option linter.unusedSimpArgs false
mutual
def substitution_Verify.l0 : Nat → List (S35) → Int → Int → Int → List (S35) → List ByteArray → List (S35) → List (S35) → List (S35) → Int → Option (Int)
 | 0, _, _, _, _, _, _, _, _, _, _ => none
 | k + 1, x14, x15, x16, x370000, x370001, x370002, x370003, x371000, x371001, x371002 => if x16 < x15 then (if 0 ≤ x16 then (if x16 < (x14.length : Int) then ((substitution_Position_64.f k x370003 ((rd_T35 x14 x16).f0) ((rd_T35 x14 x16).f1) ((rd_T35 x14 x16).f2)).bind fun t374 => (if t374 = true then (if x16 ≤ (x371000.length : Int) then ((substitution_Position_64.f k (x371000.take (x16 : Int).toNat) ((rd_T35 x14 x16).f0) ((rd_T35 x14 x16).f1) ((rd_T35 x14 x16).f2)).bind fun t379 => (if t379 = true then (some 7) else (substitution_Verify.l0 k x14 x15 (wrap64 (x16 + 1)) x370000 x370001 x370002 x370003 x371000 x371001 x371002))) else (none)) else (some 9))) else (none)) else (none)) else ((substitution_Request_withdrawn.f k x370000 x370001 x370002 x370003).bind fun t380 => ((substitution_Position_65.f k x371001 t380).bind fun t383 => (if t383 = true then ((substitution_Request_kept.f k x370000 x370001 x370002 x370003).bind fun t384 => ((substitution_sum.f k x371000).bind fun t385 => (substitution_Verify.j1 k (x371002 != (wrap64 (t384 + t385))) x370000 x370001 x370002 x370003 x371000 x371001 x371002))) else (substitution_Verify.j1 k true x370000 x370001 x370002 x370003 x371000 x371001 x371002))))
def substitution_Verify.j1 : Nat → Bool → Int → List (S35) → List ByteArray → List (S35) → List (S35) → List (S35) → Int → Option (Int)
 | 0, _, _, _, _, _, _, _, _ => none
 | k + 1, x49, x370000, x370001, x370002, x370003, x371000, x371001, x371002 => if x49 = true then (some 17) else (if x371002 < x370000 then (some 25) else (some 0))
end
def substitution_Verify.f (k : Nat) (a0_0 : Int) (l0_1 : List (S35)) (l0_2 : List ByteArray) (l0_3 : List (S35)) (l1_0 : List (S35)) (l1_1 : List (S35)) (a1_2 : Int) : Option (Int) := (substitution_Check.f a0_0 l0_1 l0_2 l0_3).bind fun t371 => (if t371 = 0 then (substitution_Verify.l0 k l1_0 (l1_0.length : Int) 0 a0_0 l0_1 l0_2 l0_3 l1_0 l1_1 a1_2) else (some t371))
def substitution_Verify.T12 : Bool × List (List Nat × List Nat) := (true, [([], []), ([0], [0]), ([], []), ([2], [2]), ([1, 3, 3], [1, 3]), ([4], [4]), ([5, 4], [5]), ([6], [6]), ([7, 6], [6, 7]), ([6], [6]), ([9, 6, 6], [6, 9]), ([6], [6]), ([11, 6], [6, 11]), ([12, 10, 6], [6, 12]), ([10, 13, 6], [6, 10, 13]), ([8, 14, 6], [6, 8, 14]), ([6, 15], [6, 15])])
def substitution_Verify.B12 : List Nat := [0, 1, 0, 4, 15, 31, 63, 127, 255, 127, 639, 127, 2175, 7807, 15999, 32767, 65535]
theorem substitution_Verify.tab12 : rtab .any (opsOf Tryz.f25 12) = substitution_Verify.T12 := by kernel_rfl
theorem substitution_Verify.bits12 : waitsOk substitution_Verify.T12.2 substitution_Verify.B12 = true := by kernel_rfl
abbrev zb2 : Array Bool := #[false,false,false,false,false,false,false,false,false,false,false,false,false,false,false,false,false]
abbrev zb3 : Array Bool := #[true,false,false,false,false,false,false,false,false,false,false,false,false,false,false,false,false]
abbrev zb4 : Array Bool := #[true,true,false,false,false,false,false,false,false,false,false,false,false,false,false,false,false]
abbrev zb5 : Array Bool := #[true,true,true,false,false,false,false,false,false,false,false,false,false,false,false,false,false]
abbrev zb6 : Array Bool := #[true,true,true,true,false,false,false,false,false,false,false,false,false,false,false,false,false]
abbrev zb7 : Array Bool := #[true,true,true,true,true,false,false,false,false,false,false,false,false,false,false,false,false]
abbrev zb8 : Array Bool := #[true,true,true,true,true,true,false,false,false,false,false,false,false,false,false,false,false]
abbrev zb9 : Array Bool := #[true,true,true,true,true,true,true,false,false,false,false,false,false,false,false,false,false]
abbrev zb10 : Array Bool := #[true,true,true,true,true,true,true,true,false,false,false,false,false,false,false,false,false]
abbrev zb11 : Array Bool := #[true,true,true,true,true,true,true,true,true,true,true,true,true,false,false,false,false]
abbrev zb12 : Array Bool := #[true,true,true,true,true,true,true,true,true,true,true,true,true,true,false,false,false]
abbrev zb13 : Array Bool := #[true,true,true,true,true,true,true,true,true,true,true,true,true,true,true,false,false]
abbrev zb14 : Array Bool := #[true,true,true,true,true,true,true,true,true,true,true,true,true,true,true,true,false]
abbrev zb15 : Array Bool := #[true,true,true,true,true,true,true,true,true,true,true,true,true,true,true,true,true]
set_option maxHeartbeats 8000000 in
set_option maxRecDepth 100000 in
theorem substitution_Verify.calls (k : Nat) (a0_0 : Int) (A0_1 : Option Addr) (c0_1 : Nat) (l0_1 : List (S35)) (A0_2 : Option Addr) (c0_2 : Nat) (l0_2 : List ByteArray) (A0_3 : Option Addr) (c0_3 : Nat) (l0_3 : List (S35)) (A1_0 : Option Addr) (c1_0 : Nat) (l1_0 : List (S35)) (A1_1 : Option Addr) (c1_1 : Nat) (l1_1 : List (S35)) (a1_2 : Int) (r : Int) (w : World) (hr0_1 : Kd.C k35 w A0_1 l0_1.length l0_1) (hc0_1 : l0_1.length ≤ c0_1) (hr0_2 : Kd.C Kd.string w A0_2 l0_2.length l0_2) (hc0_2 : l0_2.length ≤ c0_2) (hr0_3 : Kd.C k35 w A0_3 l0_3.length l0_3) (hc0_3 : l0_3.length ≤ c0_3) (hr1_0 : Kd.C k35 w A1_0 l1_0.length l1_0) (hc1_0 : l1_0.length ≤ c1_0) (hr1_1 : Kd.C k35 w A1_1 l1_1.length l1_1) (hc1_1 : l1_1.length ≤ c1_1) (h : substitution_Verify.f k a0_0 l0_1 l0_2 l0_3 l1_0 l1_1 a1_2 = some r) :
  Calls Tryz.prog 25 #[.agg #[.int .i64 a0_0, .slice A0_1 l0_1.length c0_1, .slice A0_2 l0_2.length c0_2, .slice A0_3 l0_3.length c0_3], .agg #[.slice A1_0 l1_0.length c1_0, .slice A1_1 l1_1.length c1_1, .int .i64 a1_2]] w fun e w' => e = .returned (.int .i64 r) ∧ Below w.heap.size w w' := by
 have hu25 := Tryz.underlying25
 have hu28 := Tryz.underlying28
 have hu35 := Tryz.underlying35
 have HR0_1 := Aside0.mk hr0_1
 have HC0_1 := Aside0.mk hc0_1
 clear hr0_1 hc0_1
 have HR0_2 := Aside0.mk hr0_2
 have HC0_2 := Aside0.mk hc0_2
 clear hr0_2 hc0_2
 have HR0_3 := Aside0.mk hr0_3
 have HC0_3 := Aside0.mk hc0_3
 clear hr0_3 hc0_3
 have HR1_0 := Aside0.mk hr1_0
 have HC1_0 := Aside0.mk hc1_0
 clear hr1_0 hc1_0
 have HR1_1 := Aside0.mk hr1_1
 have HC1_1 := Aside0.mk hc1_1
 clear hr1_1 hc1_1
 have HB := Aside0.mk (Below.refl w.heap.size w)
 have H : ((substitution_Check.f a0_0 l0_1 l0_2 l0_3).bind fun t371 => (if t371 = 0 then (substitution_Verify.l0 k l1_0 (l1_0.length : Int) 0 a0_0 l0_1 l0_2 l0_3 l1_0 l1_1 a1_2) else (some t371))) = some r := h
 clear h
 replace H := Option.bind_eq_some_iff.mp H
 obtain ⟨t371, A30, H⟩ := H
 replace H : (if t371 = 0 then (substitution_Verify.l0 k l1_0 (l1_0.length : Int) 0 a0_0 l0_1 l0_2 l0_3 l1_0 l1_1 a1_2) else (some t371)) = some r := H
 have A3 := Aside0.mk A30
 clear A30
 by_cases c4 : t371 = 0
 ·rw [if_pos c4] at H
  have c4b0 : (t371 == 0) = true := beq_iff_eq.mpr c4
  have c4b1 : (t371 != 0) = false := bne_eq_false_iff_eq.mpr c4
  clear c4
  have H' := Aside0.mk H
  clear H
  go_enter Tryz.func25, Tryz.ntmps25
  go_wp2_with (first | ((with_reducible refine gate_dst (N := 2) rfl ?_); refine box_event ?hg (N := 2) ?hd (cs := #[.int .i64 a0_0, .slice A0_1 l0_1.length c0_1, .slice A0_2 l0_2.length c0_2, .slice A0_3 l0_3.length c0_3]) (t := 25) ?hr ?_; (case hd => rfl); (case hg => rfl); (case hr => first | (go_simp; done) | (go_simp; rfl)); intro gb369 hg w5 hbox hb; have n0_ := Aside0.mk (bx2 (by repeat (first | (with_reducible first | exact HB.out | apply bw2 | apply bw1 | apply bw3) | exact HB.out)) hb); have n1_ := Aside0.mk (hbox); have n2_ := Aside0.mk ((by rw [hg]; exact (bx3 (by repeat (first | (with_reducible first | exact HB.out | apply bw2 | apply bw1 | apply bw3) | exact HB.out))) : w.heap.size ≤ gb369)); have n3_ := Aside0.mk ((by rw [hg]; exact (bx3 (by repeat (first | (with_reducible first | exact HB.out | apply bw2 | apply bw1 | apply bw3) | exact HB.out))) : w.heap.size ≤ gb369)); clear HB; have HB := n0_; have BK369 := n1_; have GW369 := n2_; have GE369 := n3_; clear n0_ n1_ n2_ n3_; clear hb hbox hg) | ((with_reducible refine gate_dst (N := 3) rfl ?_); refine box_event ?hg (N := 3) ?hd (cs := #[.slice A1_0 l1_0.length c1_0, .slice A1_1 l1_1.length c1_1, .int .i64 a1_2]) (t := 28) ?hr ?_; (case hd => rfl); (case hg => rfl); (case hr => first | (go_simp; done) | (go_simp; rfl)); intro gb370 hg w6 hbox hb; have n0_ := Aside0.mk (bx1 (g := gb369) (o := .cells #[.int .i64 a0_0, .slice A0_1 l0_1.length c0_1, .slice A0_2 l0_2.length c0_2, .slice A0_3 l0_3.length c0_3] 25 (0, 0)) (by (with_reducible repeat (first | refine bw8 ?_ _ | refine bw9 ?_ | refine bw6 ?_ _)); exact BK369.out) hb); have n1_ := Aside0.mk (bx2 (by repeat (first | (with_reducible first | exact HB.out | apply bw2 | apply bw1 | apply bw3 | refine bw4 ?_ GE369.out) | exact HB.out)) hb); have n2_ := Aside0.mk (hbox); have n3_ := Aside0.mk ((by rw [hg]; exact (bx3 (by repeat (first | (with_reducible first | exact HB.out | apply bw2 | apply bw1 | apply bw3 | refine bw4 ?_ GE369.out) | exact HB.out))) : w.heap.size ≤ gb370)); have n4_ := Aside0.mk ((by rw [hg]; exact (bx3 (by repeat (first | (with_reducible first | exact HB.out | apply bw2 | apply bw1 | apply bw3 | refine bw4 ?_ GE369.out) | exact HB.out))) : w.heap.size ≤ gb370)); have n5_ := Aside0.mk ((by rw [hg]; exact Nat.ne_of_lt (blk_lt (g := gb369) (o := .cells #[.int .i64 a0_0, .slice A0_1 l0_1.length c0_1, .slice A0_2 l0_2.length c0_2, .slice A0_3 l0_3.length c0_3] 25 (0, 0)) (by (with_reducible repeat (first | refine bw8 ?_ _ | refine bw9 ?_ | refine bw6 ?_ _)); exact BK369.out)) : gb369 ≠ gb370)); have n6_ := Aside0.mk ((by rw [hg]; exact Nat.ne_of_gt (blk_lt (g := gb369) (o := .cells #[.int .i64 a0_0, .slice A0_1 l0_1.length c0_1, .slice A0_2 l0_2.length c0_2, .slice A0_3 l0_3.length c0_3] 25 (0, 0)) (by (with_reducible repeat (first | refine bw8 ?_ _ | refine bw9 ?_ | refine bw6 ?_ _)); exact BK369.out)) : gb370 ≠ gb369)); clear BK369; clear HB; have BK369 := n0_; have HB := n1_; have BK370 := n2_; have GW370 := n3_; have GE370 := n4_; have NB369_370 := n5_; have NB370_369 := n6_; clear n0_ n1_ n2_ n3_ n4_ n5_ n6_; clear hb hbox hg; have hnb7 := NB369_370.out; have hnc7 := NB370_369.out; have hcz8_0 : w6.cell? ⟨gb369, 0, none⟩ = some (.int .i64 a0_0) := (bw5 BK369.out 0).trans rfl; have hcz8_1 : w6.cell? ⟨gb369, 1, none⟩ = some (.slice A0_1 l0_1.length c0_1) := (bw5 BK369.out 1).trans rfl; have hcz8_2 : w6.cell? ⟨gb369, 2, none⟩ = some (.slice A0_2 l0_2.length c0_2) := (bw5 BK369.out 2).trans rfl; have hcz8_3 : w6.cell? ⟨gb369, 3, none⟩ = some (.slice A0_3 l0_3.length c0_3) := (bw5 BK369.out 3).trans rfl; have hfz8_0 := bw7 BK369.out 0; have hfz8_1 := bw7 BK369.out 1; have hfz8_2 := bw7 BK369.out 2; have hfz8_3 := bw7 BK369.out 3) | ((with_reducible refine gate_callee (f := 29) rfl ?_); refine goesL_ (some 9) rfl rfl Tryz.func29 (by kernel_rfl) rfl #[.agg #[.int .i64 a0_0, .slice A0_1 l0_1.length c0_1, .slice A0_2 l0_2.length c0_2, .slice A0_3 l0_3.length c0_3]] rfl (by (try simp only [List.map_toArray, List.map_cons, List.map_nil]); first | done | rfl | (simp only [List.length_drop, List.length_take]; rfl)) ?_; (with_reducible refine (substitution_Check.calls a0_0 _ _ l0_1 _ _ l0_2 _ _ l0_3 t371 _ ?side1 ?side2 ?side3 ?side4 ?side5 ?side6 A3.out).mono ?_); (case side1 => repeat (first | exact (Kd.C_below HR0_1.out HB.out) | with_reducible first | refine Kd.C_alloc ?_ _ | refine Kd.C_drewN ?_ _ | refine Kd.C_drew ?_)); (case side2 => exact HC0_1.out); (case side3 => repeat (first | exact (Kd.C_below HR0_2.out HB.out) | with_reducible first | refine Kd.C_alloc ?_ _ | refine Kd.C_drewN ?_ _ | refine Kd.C_drew ?_)); (case side4 => exact HC0_2.out); (case side5 => repeat (first | exact (Kd.C_below HR0_3.out HB.out) | with_reducible first | refine Kd.C_alloc ?_ _ | refine Kd.C_drewN ?_ _ | refine Kd.C_drew ?_)); (case side6 => exact HC0_3.out); rintro e w9 ⟨rfl, hb⟩; refine ⟨_, rfl, ?_⟩; have n0_ := Aside0.mk (bx1 (g := gb369) (o := .cells #[.int .i64 a0_0, .slice A0_1 l0_1.length c0_1, .slice A0_2 l0_2.length c0_2, .slice A0_3 l0_3.length c0_3] 25 (0, 0)) (by (with_reducible repeat (first | refine bw8 ?_ _ | refine bw9 ?_ | refine bw6 ?_ _)); exact BK369.out) hb); have n1_ := Aside0.mk (bx1 (g := gb370) (o := .cells #[.slice A1_0 l1_0.length c1_0, .slice A1_1 l1_1.length c1_1, .int .i64 a1_2] 28 (0, 0)) (by (with_reducible repeat (first | refine bw8 ?_ _ | refine bw9 ?_ | refine bw6 ?_ _)); exact BK370.out) hb); have n2_ := Aside0.mk (bx2 (by repeat (first | (with_reducible first | exact HB.out | apply bw2 | apply bw1 | apply bw3 | refine bw4 ?_ GE369.out | refine bw4 ?_ GE370.out) | exact HB.out)) hb); clear BK369; clear BK370; clear HB; have BK369 := n0_; have BK370 := n1_; have HB := n2_; clear n0_ n1_ n2_; (try clear hb); (try clear hb2); (try clear hk); (try clear hi); have hcz10_0 : w9.cell? ⟨gb370, 0, none⟩ = some (.slice A1_0 l1_0.length c1_0) := (bw5 BK370.out 0).trans rfl; have hcz10_1 : w9.cell? ⟨gb370, 1, none⟩ = some (.slice A1_1 l1_1.length c1_1) := (bw5 BK370.out 1).trans rfl; have hcz10_2 : w9.cell? ⟨gb370, 2, none⟩ = some (.int .i64 a1_2) := (bw5 BK370.out 2).trans rfl; have hfz10_0 := bw7 BK370.out 0; have hfz10_1 := bw7 BK370.out 1; have hfz10_2 := bw7 BK370.out 2))
  go_loopg [16] k (fun kq v16 w' => ∃ (x16_1 : Int), v16 = .int .i64 x16_1 ∧ Aside0 (substitution_Verify.l0 kq l1_0 (l1_0.length : Int) x16_1 a0_0 l0_1 l0_2 l0_3 l1_0 l1_1 a1_2 = some r) ∧ Aside0 (kq ≤ k) ∧ Aside0 (w'.heap[gb369]? = some (.cells #[.int .i64 a0_0, (.slice A0_1 l0_1.length c0_1), (.slice A0_2 l0_2.length c0_2), (.slice A0_3 l0_3.length c0_3)] 25 (0, 0))) ∧ Aside0 (w'.heap[gb370]? = some (.cells #[(.slice A1_0 l1_0.length c1_0), (.slice A1_1 l1_1.length c1_1), .int .i64 a1_2] 28 (0, 0))) ∧ Aside0 (Below w.heap.size w w'))
  case atStart => exact ⟨(0), (by first | rfl | (simp; done) | (simp [*]; done)), H', ⟨Nat.le_refl _⟩, ⟨by (with_reducible repeat (first | refine bw8 ?_ _ | refine bw9 ?_ | refine bw6 ?_ _)); exact BK369.out⟩, ⟨by (with_reducible repeat (first | refine bw8 ?_ _ | refine bw9 ?_ | refine bw6 ?_ _)); exact BK370.out⟩, ⟨by repeat (first | (with_reducible first | exact HB.out | apply bw2 | apply bw1 | apply bw3 | refine bw4 ?_ GE369.out | refine bw4 ?_ GE370.out) | exact HB.out)⟩⟩
  case round =>
   clear H'
   try clear c1
   try clear c2
   try clear p2
   try clear c4
   try clear c4b0
   try clear c4b1
   try clear c7
   try clear hcz10_0
   try clear hcz10_1
   try clear hcz10_2
   try clear hcz8_0
   try clear hcz8_1
   try clear hcz8_2
   try clear hcz8_3
   try clear hfz10_0
   try clear hfz10_1
   try clear hfz10_2
   try clear hfz8_0
   try clear hfz8_1
   try clear hfz8_2
   try clear hfz8_3
   obtain ⟨x16_1, rfl, HA, HK1, BK369, BK370, HB⟩ := hrel
   cases gk with
   | zero => exact absurd HA.out (by simp [substitution_Verify.l0])
   | succ k1 =>
    have H := HA.out
    clear HA
    simp only [substitution_Verify.l0] at H
    by_cases c11 : x16_1 < (l1_0.length : Int)
    ·rw [if_pos c11] at H
     have c11b0 : decide (x16_1 < (l1_0.length : Int)) = true := decide_eq_true c11
     clear c11
     by_cases c12 : 0 ≤ x16_1
     ·rw [if_pos c12] at H
      have c12b0 : decide (0 ≤ x16_1) = true := decide_eq_true c12
      clear c12
      by_cases c13 : x16_1 < (l1_0.length : Int)
      ·rw [if_pos c13] at H
       have c13b0 : decide (x16_1 < (l1_0.length : Int)) = true := decide_eq_true c13
       clear c13
       replace H := Option.bind_eq_some_iff.mp H
       obtain ⟨t374, A140, H⟩ := H
       replace H : (if t374 = true then (if x16_1 ≤ (l1_0.length : Int) then ((substitution_Position_64.f k1 (l1_0.take (x16_1 : Int).toNat) ((rd_T35 l1_0 x16_1).f0) ((rd_T35 l1_0 x16_1).f1) ((rd_T35 l1_0 x16_1).f2)).bind fun t379 => (if t379 = true then (some 7) else (substitution_Verify.l0 k1 l1_0 (l1_0.length : Int) (wrap64 (x16_1 + 1)) a0_0 l0_1 l0_2 l0_3 l1_0 l1_1 a1_2))) else (none)) else (some 9)) = some r := H
       have A14 := Aside0.mk A140
       clear A140
       by_cases c15 : t374 = true
       ·subst c15
        have H1 : (if x16_1 ≤ (l1_0.length : Int) then ((substitution_Position_64.f k1 (l1_0.take (x16_1 : Int).toNat) ((rd_T35 l1_0 x16_1).f0) ((rd_T35 l1_0 x16_1).f1) ((rd_T35 l1_0 x16_1).f2)).bind fun t379 => (if t379 = true then (some 7) else (substitution_Verify.l0 k1 l1_0 (l1_0.length : Int) (wrap64 (x16_1 + 1)) a0_0 l0_1 l0_2 l0_3 l1_0 l1_1 a1_2))) else (none)) = some r := by rw [if_pos rfl] at H; exact H
        clear H
        have H := H1
        clear H1
        have c16b0 := eq_true (of_decide_eq_true (by first | (with_reducible assumption) | assumption) : 0 ≤ x16_1)
        by_cases c17 : x16_1 ≤ (l1_0.length : Int)
        ·rw [if_pos c17] at H
         have c17b0 := eq_true c17
         have c17b1 : decide (x16_1 ≤ (l1_0.length : Int)) = true := decide_eq_true c17
         clear c17
         obtain ⟨y375, hy375⟩ : ∃ y_ : List (S35), y_ = (l1_0.take (x16_1 : Int).toNat) := ⟨_, rfl⟩
         replace H : ((substitution_Position_64.f k1 y375 ((rd_T35 l1_0 x16_1).f0) ((rd_T35 l1_0 x16_1).f1) ((rd_T35 l1_0 x16_1).f2)).bind fun t379 => (if t379 = true then (some 7) else (substitution_Verify.l0 k1 l1_0 (l1_0.length : Int) (wrap64 (x16_1 + 1)) a0_0 l0_1 l0_2 l0_3 l1_0 l1_1 a1_2))) = some r := by first | (rw [hy375]; with_reducible exact H) | (have H2_ := (Option.bind_some _ _).symm.trans H; rw [hy375]; with_reducible exact H2_) | (have H2_ := (Option.bind_some _ _).symm.trans H; with_reducible exact H2_) | with_reducible exact H | (rw [hy375]; exact H) | exact H
         have Ny375 := Aside0.mk hy375
         clear hy375
         replace H := Option.bind_eq_some_iff.mp H
         obtain ⟨t379, A180, H⟩ := H
         replace H : (if t379 = true then (some 7) else (substitution_Verify.l0 k1 l1_0 (l1_0.length : Int) (wrap64 (x16_1 + 1)) a0_0 l0_1 l0_2 l0_3 l1_0 l1_1 a1_2)) = some r := H
         have A18 := Aside0.mk A180
         clear A180
         by_cases c19 : t379 = true
         ·subst c19
          have H1 : (some 7) = some r := by rw [if_pos rfl] at H; exact H
          clear H
          have H := H1
          clear H1
          obtain rfl := Option.some.inj H
          have p372 : 0 ≤ (x16_1 : Int) := of_decide_eq_true (by first | (with_reducible assumption) | assumption)
          have q372 : x16_1 < (l1_0.length : Int) := of_decide_eq_true (by first | (with_reducible assumption) | assumption)
          obtain ⟨ad372, e372, hx372_0, hx372_1, hx372_2⟩ := at_T35 HR1_0.out x16_1 p372 q372
          cases e372
          replace hx372_0 := (HB.out.cell (World.block_lt_of_cell? w _ hx372_0)).trans hx372_0
          replace hx372_1 := (HB.out.cell (World.block_lt_of_cell? w _ hx372_1)).trans hx372_1
          replace hx372_2 := (HB.out.cell (World.block_lt_of_cell? w _ hx372_2)).trans hx372_2
          replace p372 := eq_true p372
          replace q372 := eq_true q372
          try go_wp2_with (first | ((with_reducible refine gate_dst (N := 7) rfl ?_); refine box_event ?hg (N := 7) ?hd (cs := #[.string (⟨#[]⟩ : ByteArray), .int .i64 0, .int .i64 0]) (t := 35) ?hr ?_; (case hd => rfl); (case hg => rfl); (case hr => first | (go_simp; done) | (go_simp; rfl)); intro gb373 hg w20 hbox hb; have n0_ := Aside0.mk (bx1 (g := gb369) (o := .cells #[.int .i64 a0_0, .slice A0_1 l0_1.length c0_1, .slice A0_2 l0_2.length c0_2, .slice A0_3 l0_3.length c0_3] 25 (0, 0)) (by (with_reducible repeat (first | refine bw8 ?_ _ | refine bw9 ?_ | refine bw6 ?_ _)); exact BK369.out) hb); have n1_ := Aside0.mk (bx1 (g := gb370) (o := .cells #[.slice (some ad372) l1_0.length c1_0, .slice A1_1 l1_1.length c1_1, .int .i64 a1_2] 28 (0, 0)) (by (with_reducible repeat (first | refine bw8 ?_ _ | refine bw9 ?_ | refine bw6 ?_ _)); exact BK370.out) hb); have n2_ := Aside0.mk (bx2 (by repeat (first | (with_reducible first | exact HB.out | apply bw2 | apply bw1 | apply bw3 | refine bw4 ?_ GE369.out | refine bw4 ?_ GE370.out) | exact HB.out)) hb); have n3_ := Aside0.mk (hbox); have n4_ := Aside0.mk ((by rw [hg]; exact (bx3 (by repeat (first | (with_reducible first | exact HB.out | apply bw2 | apply bw1 | apply bw3 | refine bw4 ?_ GE369.out | refine bw4 ?_ GE370.out) | exact HB.out))) : w.heap.size ≤ gb373)); have n5_ := Aside0.mk ((by rw [hg]; exact (bx3 (by repeat (first | (with_reducible first | exact HB.out | apply bw2 | apply bw1 | apply bw3 | refine bw4 ?_ GE369.out | refine bw4 ?_ GE370.out) | exact HB.out))) : w.heap.size ≤ gb373)); have n6_ := Aside0.mk ((by rw [hg]; exact Nat.ne_of_lt (blk_lt (g := gb369) (o := .cells #[.int .i64 a0_0, .slice A0_1 l0_1.length c0_1, .slice A0_2 l0_2.length c0_2, .slice A0_3 l0_3.length c0_3] 25 (0, 0)) (by (with_reducible repeat (first | refine bw8 ?_ _ | refine bw9 ?_ | refine bw6 ?_ _)); exact BK369.out)) : gb369 ≠ gb373)); have n7_ := Aside0.mk ((by rw [hg]; exact Nat.ne_of_gt (blk_lt (g := gb369) (o := .cells #[.int .i64 a0_0, .slice A0_1 l0_1.length c0_1, .slice A0_2 l0_2.length c0_2, .slice A0_3 l0_3.length c0_3] 25 (0, 0)) (by (with_reducible repeat (first | refine bw8 ?_ _ | refine bw9 ?_ | refine bw6 ?_ _)); exact BK369.out)) : gb373 ≠ gb369)); have n8_ := Aside0.mk ((by rw [hg]; exact Nat.ne_of_lt (blk_lt (g := gb370) (o := .cells #[.slice (some ad372) l1_0.length c1_0, .slice A1_1 l1_1.length c1_1, .int .i64 a1_2] 28 (0, 0)) (by (with_reducible repeat (first | refine bw8 ?_ _ | refine bw9 ?_ | refine bw6 ?_ _)); exact BK370.out)) : gb370 ≠ gb373)); have n9_ := Aside0.mk ((by rw [hg]; exact Nat.ne_of_gt (blk_lt (g := gb370) (o := .cells #[.slice (some ad372) l1_0.length c1_0, .slice A1_1 l1_1.length c1_1, .int .i64 a1_2] 28 (0, 0)) (by (with_reducible repeat (first | refine bw8 ?_ _ | refine bw9 ?_ | refine bw6 ?_ _)); exact BK370.out)) : gb373 ≠ gb370)); clear BK369; clear BK370; clear HB; have BK369 := n0_; have BK370 := n1_; have HB := n2_; have BK373 := n3_; have GW373 := n4_; have GE373 := n5_; have NB369_373 := n6_; have NB373_369 := n7_; have NB370_373 := n8_; have NB373_370 := n9_; clear n0_ n1_ n2_ n3_ n4_ n5_ n6_ n7_ n8_ n9_; clear hb hbox hg; have hnb21 := NB373_369.out; have hnc21 := NB369_373.out; have hnb22 := NB373_370.out; have hnc22 := NB370_373.out; have hcz23_0 : w20.cell? ⟨gb373, 0, none⟩ = some (.string (⟨#[]⟩ : ByteArray)) := (bw5 BK373.out 0).trans rfl; have hcz23_1 : w20.cell? ⟨gb373, 1, none⟩ = some (.int .i64 0) := (bw5 BK373.out 1).trans rfl; have hcz23_2 : w20.cell? ⟨gb373, 2, none⟩ = some (.int .i64 0) := (bw5 BK373.out 2).trans rfl; have hfz23_0 := bw7 BK373.out 0; have hfz23_1 := bw7 BK373.out 1; have hfz23_2 := bw7 BK373.out 2; have hnb24 := NB369_370.out; have hnc24 := NB370_369.out; have hcz25_0 : w20.cell? ⟨gb369, 0, none⟩ = some (.int .i64 a0_0) := (bw5 BK369.out 0).trans rfl; have hcz25_1 : w20.cell? ⟨gb369, 1, none⟩ = some (.slice A0_1 l0_1.length c0_1) := (bw5 BK369.out 1).trans rfl; have hcz25_2 : w20.cell? ⟨gb369, 2, none⟩ = some (.slice A0_2 l0_2.length c0_2) := (bw5 BK369.out 2).trans rfl; have hcz25_3 : w20.cell? ⟨gb369, 3, none⟩ = some (.slice A0_3 l0_3.length c0_3) := (bw5 BK369.out 3).trans rfl; have hfz25_0 := bw7 BK369.out 0; have hfz25_1 := bw7 BK369.out 1; have hfz25_2 := bw7 BK369.out 2; have hfz25_3 := bw7 BK369.out 3) | ((with_reducible refine gate_callee (f := 64) rfl ?_); refine goesL_ (some 24) rfl rfl Tryz.func64 (by kernel_rfl) rfl #[.slice A0_3 l0_3.length c0_3, .agg #[.string ((rd_T35 l1_0 x16_1).f0), .int .i64 ((rd_T35 l1_0 x16_1).f1), .int .i64 ((rd_T35 l1_0 x16_1).f2)]] rfl (by (try simp only [List.map_toArray, List.map_cons, List.map_nil]); first | done | rfl | (simp only [List.length_drop, List.length_take]; rfl)) ?_; (with_reducible refine (substitution_Position_64.calls k1 _ _ l0_3 ((rd_T35 l1_0 x16_1).f0) ((rd_T35 l1_0 x16_1).f1) ((rd_T35 l1_0 x16_1).f2) true _ ?side1 ?side2 A14.out).mono ?_); (case side1 => exact Kd.C_below HR0_3.out (by repeat (first | (with_reducible first | exact HB.out | apply bw2 | apply bw1 | apply bw3 | refine bw4 ?_ GE369.out | refine bw4 ?_ GE370.out | refine bw4 ?_ GE373.out) | exact HB.out))); (case side2 => exact HC0_3.out); rintro e w26 ⟨rfl, hb⟩; refine ⟨_, rfl, ?_⟩; have n0_ := Aside0.mk (bx1 (g := gb369) (o := .cells #[.int .i64 a0_0, .slice A0_1 l0_1.length c0_1, .slice A0_2 l0_2.length c0_2, .slice A0_3 l0_3.length c0_3] 25 (0, 0)) (by (with_reducible repeat (first | refine bw8 ?_ _ | refine bw9 ?_ | refine bw6 ?_ _)); refine blk_far ?_ NB369_373.out _; (with_reducible repeat (first | refine bw8 ?_ _ | refine bw9 ?_ | refine bw6 ?_ _)); refine blk_far ?_ NB369_373.out _; (with_reducible repeat (first | refine bw8 ?_ _ | refine bw9 ?_ | refine bw6 ?_ _)); refine blk_far ?_ NB369_373.out _; (with_reducible repeat (first | refine bw8 ?_ _ | refine bw9 ?_ | refine bw6 ?_ _)); exact BK369.out) hb); have n1_ := Aside0.mk (bx1 (g := gb370) (o := .cells #[.slice (some ad372) l1_0.length c1_0, .slice A1_1 l1_1.length c1_1, .int .i64 a1_2] 28 (0, 0)) (by (with_reducible repeat (first | refine bw8 ?_ _ | refine bw9 ?_ | refine bw6 ?_ _)); refine blk_far ?_ NB370_373.out _; (with_reducible repeat (first | refine bw8 ?_ _ | refine bw9 ?_ | refine bw6 ?_ _)); refine blk_far ?_ NB370_373.out _; (with_reducible repeat (first | refine bw8 ?_ _ | refine bw9 ?_ | refine bw6 ?_ _)); refine blk_far ?_ NB370_373.out _; (with_reducible repeat (first | refine bw8 ?_ _ | refine bw9 ?_ | refine bw6 ?_ _)); exact BK370.out) hb); have n2_ := Aside0.mk (bx1 (g := gb373) (o := .cells #[.string ((rd_T35 l1_0 x16_1).f0), .int .i64 ((rd_T35 l1_0 x16_1).f1), .int .i64 ((rd_T35 l1_0 x16_1).f2)] 35 (0, 0)) (by (with_reducible repeat (first | refine bw8 ?_ _ | refine bw9 ?_ | refine bw6 ?_ _)); refine blk_put (cs := #[.string ((rd_T35 l1_0 x16_1).f0), .int .i64 ((rd_T35 l1_0 x16_1).f1), .int .i64 0]) ?_ 2 _ rfl; (with_reducible repeat (first | refine bw8 ?_ _ | refine bw9 ?_ | refine bw6 ?_ _)); refine blk_put (cs := #[.string ((rd_T35 l1_0 x16_1).f0), .int .i64 0, .int .i64 0]) ?_ 1 _ rfl; (with_reducible repeat (first | refine bw8 ?_ _ | refine bw9 ?_ | refine bw6 ?_ _)); refine blk_put (cs := #[.string (⟨#[]⟩ : ByteArray), .int .i64 0, .int .i64 0]) ?_ 0 _ rfl; (with_reducible repeat (first | refine bw8 ?_ _ | refine bw9 ?_ | refine bw6 ?_ _)); exact BK373.out) hb); have n3_ := Aside0.mk (bx2 (by repeat (first | (with_reducible first | exact HB.out | apply bw2 | apply bw1 | apply bw3 | refine bw4 ?_ GE369.out | refine bw4 ?_ GE370.out | refine bw4 ?_ GE373.out) | exact HB.out)) hb); clear BK369; clear BK370; clear BK373; clear HB; have BK369 := n0_; have BK370 := n1_; have BK373 := n2_; have HB := n3_; clear n0_ n1_ n2_ n3_; (try clear hb); (try clear hb2); (try clear hk); (try clear hi)))
          have n0_ := Aside0.mk (bw9 BK369.out)
          have n1_ := Aside0.mk (bw9 BK370.out)
          have n2_ := Aside0.mk (bw9 BK373.out)
          have n3_ := Aside0.mk (bw3 HB.out)
          clear BK369; clear BK370; clear BK373; clear HB; have BK369 := n0_; have BK370 := n1_; have BK373 := n2_; have HB := n3_; clear n0_ n1_ n2_ n3_
          have q28 : (x16_1 : Int) ≤ ((l1_0.length : Int) : Int) := of_decide_eq_true (by first | (with_reducible assumption) | assumption)
          obtain ⟨i028, hi028, _, hsz28, _⟩ := info_parts info35
          have hroom28 : l1_0.length ≤ c1_0 := HC1_0.out
          have hC28 : Kd.C k35 _ (some ad372) l1_0.length l1_0 := HR1_0.out
          have hcut28 := cut_to (P := Tryz.prog) 22 35 .i64 Tryz.underlying22 hi028 (some ad372) l1_0.length c1_0 x16_1 (of_decide_eq_true (by first | (with_reducible assumption) | assumption)) q28 hroom28
          have hr28 := Kd.C_take (m := (x16_1 : Int).toNat) hC28 (by omega)
          have hy28 : y375.length = (x16_1 : Int).toNat := (by rw [Ny375.out, List.length_take]; omega)
          rw [← Ny375.out] at hr28
          rw [← hy28] at hcut28
          have HR378 := Aside0.mk hr28
          have HC378 := Aside0.mk (show y375.length ≤ c1_0 from by omega)
          clear hr28 hC28 hroom28 hi028 hsz28
          have KY28 := Aside0.mk hy28
          clear hy28
          replace q28 := eq_true q28
          refine start_ (n := 6) (S := fun w' => w'.cell? ⟨gb370, 0, none⟩ = some (.slice (some ad372) l1_0.length c1_0) ∧ w'.cell? ⟨gb370, 1, none⟩ = some (.slice A1_1 l1_1.length c1_1) ∧ w'.cell? ⟨gb370, 2, none⟩ = some (.int .i64 a1_2) ∧ w'.cell? ⟨gb373, 0, none⟩ = some (.string ((rd_T35 l1_0 x16_1).f0)) ∧ w'.cell? ⟨gb373, 1, none⟩ = some (.int .i64 ((rd_T35 l1_0 x16_1).f1)) ∧ w'.cell? ⟨gb373, 2, none⟩ = some (.int .i64 ((rd_T35 l1_0 x16_1).f2))) (ds := []) #[false,false,false,false,false,false] (by kernel_rfl) rfl rfl ⟨(bw5 BK370.out 0).trans rfl, (bw5 BK370.out 1).trans rfl, (bw5 BK370.out 2).trans rfl, (bw5 BK373.out 0).trans rfl, (bw5 BK373.out 1).trans rfl, (bw5 BK373.out 2).trans rfl⟩ (fun hHeld => ?_)
          generalize w26.drew = w27 at BK369 BK370 BK373 HB HR378 hHeld ⊢
          refine pure_ (i := 0) (N := some 26) (v := ?_) (a' := ?_) #[true,false,false,false,false,false] rfl rfl (by kernel_rfl) (fun _ _ _ h => h) (Or.inl ⟨by rfl, ?_⟩) ?_ ?_
          rotate_left
          ·intro w'; go_simp; (with_reducible rfl)
          rotate_left
          ·simp only [Act.put, zA_, zB_, zC_, i64_w, i32_w]; rfl
          refine pure_ (i := 2) (N := some 28) (v := ?_) (a' := ?_) #[true,false,true,false,false,false] rfl rfl (by kernel_rfl) (fun _ _ _ h => h) (Or.inl ⟨by rfl, ?_⟩) ?_ ?_
          rotate_left
          ·intro w'; go_simp; (with_reducible rfl)
          rotate_left
          ·simp only [Act.put, zA_, zB_, zC_, i64_w, i32_w]; rfl
          refine take_ (i := 1) (N := some 27) (v := ?_) (a' := ?_) #[true,true,true,false,false,false] rfl rfl (by kernel_rfl) (fun _ _ _ h => h) (Or.inl ⟨by rfl, ?_⟩) hHeld ?_ ?_
          rotate_left
          ·rintro w' ⟨s0, s1, s2, s3, s4, s5⟩
           go_simp; (with_reducible rfl)
          rotate_left
          ·simp only [Act.put, zA_, zB_, zC_, i64_w, i32_w]; rfl
          refine pure_ (i := 3) (N := some 29) (v := ?_) (a' := ?_) #[true,true,true,true,false,false] rfl rfl (by kernel_rfl) (fun _ _ _ h => h) (Or.inl ⟨by rfl, ?_⟩) ?_ ?_
          rotate_left
          ·intro w'; go_simp; (with_reducible rfl)
          rotate_left
          ·simp only [Act.put, zA_, zB_, zC_, i64_w, i32_w]; rfl
          refine take_ (i := 4) (N := some 30) (v := ?_) (a' := ?_) #[true,true,true,true,true,false] rfl rfl (by kernel_rfl) (fun _ _ _ h => h) (Or.inl ⟨by rfl, ?_⟩) hHeld ?_ ?_
          rotate_left
          ·rintro w' ⟨s0, s1, s2, s3, s4, s5⟩
           go_simp; (with_reducible rfl)
          rotate_left
          ·simp only [Act.put, zA_, zB_, zC_, i64_w, i32_w]; rfl
          refine one_ (i := 5) (N := some 31) #[true,true,true,true,true,true] rfl rfl (by kernel_rfl) (by decide) (fun K hK => ?_)
          refine goes_ Tryz.func64 (by kernel_rfl) rfl #[.slice (some ad372) y375.length c1_0, .agg #[.string ((rd_T35 l1_0 x16_1).f0), .int .i64 ((rd_T35 l1_0 x16_1).f1), .int .i64 ((rd_T35 l1_0 x16_1).f2)]] (by rfl) rfl rfl (by (try simp only [List.map_toArray, List.map_cons, List.map_nil]); first | done | rfl | (simp only [List.length_drop, List.length_take]; rfl)) ?_
          with_reducible refine (substitution_Position_64.calls k1 _ _ y375 ((rd_T35 l1_0 x16_1).f0) ((rd_T35 l1_0 x16_1).f1) ((rd_T35 l1_0 x16_1).f2) true _ ?side1 ?side2 A18.out).mono ?_
          (case side1 => repeat (first | exact (Kd.C_below HR378.out HB.out) | with_reducible first | refine Kd.C_alloc ?_ _ | refine Kd.C_drewN ?_ _ | refine Kd.C_drew ?_))
          (case side2 => exact HC378.out)
          rintro e w29 ⟨rfl, hb⟩
          refine ⟨_, rfl, ?_⟩
          have n0_ := Aside0.mk (bx1 (g := gb369) (o := .cells #[.int .i64 a0_0, .slice A0_1 l0_1.length c0_1, .slice A0_2 l0_2.length c0_2, .slice A0_3 l0_3.length c0_3] 25 (0, 0)) (by (with_reducible repeat (first | refine bw8 ?_ _ | refine bw9 ?_ | refine bw6 ?_ _)); exact BK369.out) hb)
          have n1_ := Aside0.mk (bx1 (g := gb370) (o := .cells #[.slice (some ad372) l1_0.length c1_0, .slice A1_1 l1_1.length c1_1, .int .i64 a1_2] 28 (0, 0)) (by (with_reducible repeat (first | refine bw8 ?_ _ | refine bw9 ?_ | refine bw6 ?_ _)); exact BK370.out) hb)
          have n2_ := Aside0.mk (bx1 (g := gb373) (o := .cells #[.string ((rd_T35 l1_0 x16_1).f0), .int .i64 ((rd_T35 l1_0 x16_1).f1), .int .i64 ((rd_T35 l1_0 x16_1).f2)] 35 (0, 0)) (by (with_reducible repeat (first | refine bw8 ?_ _ | refine bw9 ?_ | refine bw6 ?_ _)); exact BK373.out) hb)
          have n3_ := Aside0.mk (bx2 (by repeat (first | (with_reducible first | exact HB.out | apply bw2 | apply bw1 | apply bw3 | refine bw4 ?_ GE369.out | refine bw4 ?_ GE370.out | refine bw4 ?_ GE373.out) | exact HB.out)) hb)
          clear BK369; clear BK370; clear BK373; clear HB; have BK369 := n0_; have BK370 := n1_; have BK373 := n2_; have HB := n3_; clear n0_ n1_ n2_ n3_; (try clear hb); (try clear hb2); (try clear hk); (try clear hi)
          refine hK.out _ _ ⟨(bw5 BK370.out 0).trans rfl, (bw5 BK370.out 1).trans rfl, (bw5 BK370.out 2).trans rfl, (bw5 BK373.out 0).trans rfl, (bw5 BK373.out 1).trans rfl, (bw5 BK373.out 2).trans rfl⟩ (fun hHeld => ?_)
          clear hK K
          refine norm_ (a' := ?_) ?_ ?_
          rotate_left
          ·show Act.put _ (some 31) _ = _; simp only [Act.put, zA_, zB_, zC_, i64_w, i32_w]; rfl
          refine done_ (by kernel_rfl) ?_
          try go_wp2
          go_ret
          exact ⟨by first | rfl | (simp [errW_none, errW_some] <;> rfl) | (simp [*, errW_none, errW_some] <;> rfl), by repeat (first | (with_reducible first | exact HB.out | apply bw2 | apply bw1 | apply bw3 | refine bw4 ?_ GE369.out | refine bw4 ?_ GE370.out | refine bw4 ?_ GE373.out) | exact HB.out)⟩
         ·replace c19 := Bool.eq_false_iff.mpr c19
          subst c19
          have H1 : (substitution_Verify.l0 k1 l1_0 (l1_0.length : Int) (wrap64 (x16_1 + 1)) a0_0 l0_1 l0_2 l0_3 l1_0 l1_1 a1_2) = some r := by rw [if_neg (show ¬ (false = true) by decide)] at H; exact H
          clear H
          have H := H1
          clear H1
          have H' := Aside0.mk H
          clear H
          have p372 : 0 ≤ (x16_1 : Int) := of_decide_eq_true (by first | (with_reducible assumption) | assumption)
          have q372 : x16_1 < (l1_0.length : Int) := of_decide_eq_true (by first | (with_reducible assumption) | assumption)
          obtain ⟨ad372, e372, hx372_0, hx372_1, hx372_2⟩ := at_T35 HR1_0.out x16_1 p372 q372
          cases e372
          replace hx372_0 := (HB.out.cell (World.block_lt_of_cell? w _ hx372_0)).trans hx372_0
          replace hx372_1 := (HB.out.cell (World.block_lt_of_cell? w _ hx372_1)).trans hx372_1
          replace hx372_2 := (HB.out.cell (World.block_lt_of_cell? w _ hx372_2)).trans hx372_2
          replace p372 := eq_true p372
          replace q372 := eq_true q372
          try go_wp2_with (first | ((with_reducible refine gate_dst (N := 7) rfl ?_); refine box_event ?hg (N := 7) ?hd (cs := #[.string (⟨#[]⟩ : ByteArray), .int .i64 0, .int .i64 0]) (t := 35) ?hr ?_; (case hd => rfl); (case hg => rfl); (case hr => first | (go_simp; done) | (go_simp; rfl)); intro gb373 hg w30 hbox hb; have n0_ := Aside0.mk (bx1 (g := gb369) (o := .cells #[.int .i64 a0_0, .slice A0_1 l0_1.length c0_1, .slice A0_2 l0_2.length c0_2, .slice A0_3 l0_3.length c0_3] 25 (0, 0)) (by (with_reducible repeat (first | refine bw8 ?_ _ | refine bw9 ?_ | refine bw6 ?_ _)); exact BK369.out) hb); have n1_ := Aside0.mk (bx1 (g := gb370) (o := .cells #[.slice (some ad372) l1_0.length c1_0, .slice A1_1 l1_1.length c1_1, .int .i64 a1_2] 28 (0, 0)) (by (with_reducible repeat (first | refine bw8 ?_ _ | refine bw9 ?_ | refine bw6 ?_ _)); exact BK370.out) hb); have n2_ := Aside0.mk (bx2 (by repeat (first | (with_reducible first | exact HB.out | apply bw2 | apply bw1 | apply bw3 | refine bw4 ?_ GE369.out | refine bw4 ?_ GE370.out) | exact HB.out)) hb); have n3_ := Aside0.mk (hbox); have n4_ := Aside0.mk ((by rw [hg]; exact (bx3 (by repeat (first | (with_reducible first | exact HB.out | apply bw2 | apply bw1 | apply bw3 | refine bw4 ?_ GE369.out | refine bw4 ?_ GE370.out) | exact HB.out))) : w.heap.size ≤ gb373)); have n5_ := Aside0.mk ((by rw [hg]; exact (bx3 (by repeat (first | (with_reducible first | exact HB.out | apply bw2 | apply bw1 | apply bw3 | refine bw4 ?_ GE369.out | refine bw4 ?_ GE370.out) | exact HB.out))) : w.heap.size ≤ gb373)); have n6_ := Aside0.mk ((by rw [hg]; exact Nat.ne_of_lt (blk_lt (g := gb369) (o := .cells #[.int .i64 a0_0, .slice A0_1 l0_1.length c0_1, .slice A0_2 l0_2.length c0_2, .slice A0_3 l0_3.length c0_3] 25 (0, 0)) (by (with_reducible repeat (first | refine bw8 ?_ _ | refine bw9 ?_ | refine bw6 ?_ _)); exact BK369.out)) : gb369 ≠ gb373)); have n7_ := Aside0.mk ((by rw [hg]; exact Nat.ne_of_gt (blk_lt (g := gb369) (o := .cells #[.int .i64 a0_0, .slice A0_1 l0_1.length c0_1, .slice A0_2 l0_2.length c0_2, .slice A0_3 l0_3.length c0_3] 25 (0, 0)) (by (with_reducible repeat (first | refine bw8 ?_ _ | refine bw9 ?_ | refine bw6 ?_ _)); exact BK369.out)) : gb373 ≠ gb369)); have n8_ := Aside0.mk ((by rw [hg]; exact Nat.ne_of_lt (blk_lt (g := gb370) (o := .cells #[.slice (some ad372) l1_0.length c1_0, .slice A1_1 l1_1.length c1_1, .int .i64 a1_2] 28 (0, 0)) (by (with_reducible repeat (first | refine bw8 ?_ _ | refine bw9 ?_ | refine bw6 ?_ _)); exact BK370.out)) : gb370 ≠ gb373)); have n9_ := Aside0.mk ((by rw [hg]; exact Nat.ne_of_gt (blk_lt (g := gb370) (o := .cells #[.slice (some ad372) l1_0.length c1_0, .slice A1_1 l1_1.length c1_1, .int .i64 a1_2] 28 (0, 0)) (by (with_reducible repeat (first | refine bw8 ?_ _ | refine bw9 ?_ | refine bw6 ?_ _)); exact BK370.out)) : gb373 ≠ gb370)); clear BK369; clear BK370; clear HB; have BK369 := n0_; have BK370 := n1_; have HB := n2_; have BK373 := n3_; have GW373 := n4_; have GE373 := n5_; have NB369_373 := n6_; have NB373_369 := n7_; have NB370_373 := n8_; have NB373_370 := n9_; clear n0_ n1_ n2_ n3_ n4_ n5_ n6_ n7_ n8_ n9_; clear hb hbox hg; have hnb31 := NB373_369.out; have hnc31 := NB369_373.out; have hnb32 := NB373_370.out; have hnc32 := NB370_373.out; have hcz33_0 : w30.cell? ⟨gb373, 0, none⟩ = some (.string (⟨#[]⟩ : ByteArray)) := (bw5 BK373.out 0).trans rfl; have hcz33_1 : w30.cell? ⟨gb373, 1, none⟩ = some (.int .i64 0) := (bw5 BK373.out 1).trans rfl; have hcz33_2 : w30.cell? ⟨gb373, 2, none⟩ = some (.int .i64 0) := (bw5 BK373.out 2).trans rfl; have hfz33_0 := bw7 BK373.out 0; have hfz33_1 := bw7 BK373.out 1; have hfz33_2 := bw7 BK373.out 2; have hnb34 := NB369_370.out; have hnc34 := NB370_369.out; have hcz35_0 : w30.cell? ⟨gb369, 0, none⟩ = some (.int .i64 a0_0) := (bw5 BK369.out 0).trans rfl; have hcz35_1 : w30.cell? ⟨gb369, 1, none⟩ = some (.slice A0_1 l0_1.length c0_1) := (bw5 BK369.out 1).trans rfl; have hcz35_2 : w30.cell? ⟨gb369, 2, none⟩ = some (.slice A0_2 l0_2.length c0_2) := (bw5 BK369.out 2).trans rfl; have hcz35_3 : w30.cell? ⟨gb369, 3, none⟩ = some (.slice A0_3 l0_3.length c0_3) := (bw5 BK369.out 3).trans rfl; have hfz35_0 := bw7 BK369.out 0; have hfz35_1 := bw7 BK369.out 1; have hfz35_2 := bw7 BK369.out 2; have hfz35_3 := bw7 BK369.out 3) | ((with_reducible refine gate_callee (f := 64) rfl ?_); refine goesL_ (some 24) rfl rfl Tryz.func64 (by kernel_rfl) rfl #[.slice A0_3 l0_3.length c0_3, .agg #[.string ((rd_T35 l1_0 x16_1).f0), .int .i64 ((rd_T35 l1_0 x16_1).f1), .int .i64 ((rd_T35 l1_0 x16_1).f2)]] rfl (by (try simp only [List.map_toArray, List.map_cons, List.map_nil]); first | done | rfl | (simp only [List.length_drop, List.length_take]; rfl)) ?_; (with_reducible refine (substitution_Position_64.calls k1 _ _ l0_3 ((rd_T35 l1_0 x16_1).f0) ((rd_T35 l1_0 x16_1).f1) ((rd_T35 l1_0 x16_1).f2) true _ ?side1 ?side2 A14.out).mono ?_); (case side1 => exact Kd.C_below HR0_3.out (by repeat (first | (with_reducible first | exact HB.out | apply bw2 | apply bw1 | apply bw3 | refine bw4 ?_ GE369.out | refine bw4 ?_ GE370.out | refine bw4 ?_ GE373.out) | exact HB.out))); (case side2 => exact HC0_3.out); rintro e w36 ⟨rfl, hb⟩; refine ⟨_, rfl, ?_⟩; have n0_ := Aside0.mk (bx1 (g := gb369) (o := .cells #[.int .i64 a0_0, .slice A0_1 l0_1.length c0_1, .slice A0_2 l0_2.length c0_2, .slice A0_3 l0_3.length c0_3] 25 (0, 0)) (by (with_reducible repeat (first | refine bw8 ?_ _ | refine bw9 ?_ | refine bw6 ?_ _)); refine blk_far ?_ NB369_373.out _; (with_reducible repeat (first | refine bw8 ?_ _ | refine bw9 ?_ | refine bw6 ?_ _)); refine blk_far ?_ NB369_373.out _; (with_reducible repeat (first | refine bw8 ?_ _ | refine bw9 ?_ | refine bw6 ?_ _)); refine blk_far ?_ NB369_373.out _; (with_reducible repeat (first | refine bw8 ?_ _ | refine bw9 ?_ | refine bw6 ?_ _)); exact BK369.out) hb); have n1_ := Aside0.mk (bx1 (g := gb370) (o := .cells #[.slice (some ad372) l1_0.length c1_0, .slice A1_1 l1_1.length c1_1, .int .i64 a1_2] 28 (0, 0)) (by (with_reducible repeat (first | refine bw8 ?_ _ | refine bw9 ?_ | refine bw6 ?_ _)); refine blk_far ?_ NB370_373.out _; (with_reducible repeat (first | refine bw8 ?_ _ | refine bw9 ?_ | refine bw6 ?_ _)); refine blk_far ?_ NB370_373.out _; (with_reducible repeat (first | refine bw8 ?_ _ | refine bw9 ?_ | refine bw6 ?_ _)); refine blk_far ?_ NB370_373.out _; (with_reducible repeat (first | refine bw8 ?_ _ | refine bw9 ?_ | refine bw6 ?_ _)); exact BK370.out) hb); have n2_ := Aside0.mk (bx1 (g := gb373) (o := .cells #[.string ((rd_T35 l1_0 x16_1).f0), .int .i64 ((rd_T35 l1_0 x16_1).f1), .int .i64 ((rd_T35 l1_0 x16_1).f2)] 35 (0, 0)) (by (with_reducible repeat (first | refine bw8 ?_ _ | refine bw9 ?_ | refine bw6 ?_ _)); refine blk_put (cs := #[.string ((rd_T35 l1_0 x16_1).f0), .int .i64 ((rd_T35 l1_0 x16_1).f1), .int .i64 0]) ?_ 2 _ rfl; (with_reducible repeat (first | refine bw8 ?_ _ | refine bw9 ?_ | refine bw6 ?_ _)); refine blk_put (cs := #[.string ((rd_T35 l1_0 x16_1).f0), .int .i64 0, .int .i64 0]) ?_ 1 _ rfl; (with_reducible repeat (first | refine bw8 ?_ _ | refine bw9 ?_ | refine bw6 ?_ _)); refine blk_put (cs := #[.string (⟨#[]⟩ : ByteArray), .int .i64 0, .int .i64 0]) ?_ 0 _ rfl; (with_reducible repeat (first | refine bw8 ?_ _ | refine bw9 ?_ | refine bw6 ?_ _)); exact BK373.out) hb); have n3_ := Aside0.mk (bx2 (by repeat (first | (with_reducible first | exact HB.out | apply bw2 | apply bw1 | apply bw3 | refine bw4 ?_ GE369.out | refine bw4 ?_ GE370.out | refine bw4 ?_ GE373.out) | exact HB.out)) hb); clear BK369; clear BK370; clear BK373; clear HB; have BK369 := n0_; have BK370 := n1_; have BK373 := n2_; have HB := n3_; clear n0_ n1_ n2_ n3_; (try clear hb); (try clear hb2); (try clear hk); (try clear hi)))
          have n0_ := Aside0.mk (bw9 BK369.out)
          have n1_ := Aside0.mk (bw9 BK370.out)
          have n2_ := Aside0.mk (bw9 BK373.out)
          have n3_ := Aside0.mk (bw3 HB.out)
          clear BK369; clear BK370; clear BK373; clear HB; have BK369 := n0_; have BK370 := n1_; have BK373 := n2_; have HB := n3_; clear n0_ n1_ n2_ n3_
          have q38 : (x16_1 : Int) ≤ ((l1_0.length : Int) : Int) := of_decide_eq_true (by first | (with_reducible assumption) | assumption)
          obtain ⟨i038, hi038, _, hsz38, _⟩ := info_parts info35
          have hroom38 : l1_0.length ≤ c1_0 := HC1_0.out
          have hC38 : Kd.C k35 _ (some ad372) l1_0.length l1_0 := HR1_0.out
          have hcut38 := cut_to (P := Tryz.prog) 22 35 .i64 Tryz.underlying22 hi038 (some ad372) l1_0.length c1_0 x16_1 (of_decide_eq_true (by first | (with_reducible assumption) | assumption)) q38 hroom38
          have hr38 := Kd.C_take (m := (x16_1 : Int).toNat) hC38 (by omega)
          have hy38 : y375.length = (x16_1 : Int).toNat := (by rw [Ny375.out, List.length_take]; omega)
          rw [← Ny375.out] at hr38
          rw [← hy38] at hcut38
          have HR378 := Aside0.mk hr38
          have HC378 := Aside0.mk (show y375.length ≤ c1_0 from by omega)
          clear hr38 hC38 hroom38 hi038 hsz38
          have KY38 := Aside0.mk hy38
          clear hy38
          replace q38 := eq_true q38
          refine start_ (n := 6) (S := fun w' => w'.cell? ⟨gb370, 0, none⟩ = some (.slice (some ad372) l1_0.length c1_0) ∧ w'.cell? ⟨gb370, 1, none⟩ = some (.slice A1_1 l1_1.length c1_1) ∧ w'.cell? ⟨gb370, 2, none⟩ = some (.int .i64 a1_2) ∧ w'.cell? ⟨gb373, 0, none⟩ = some (.string ((rd_T35 l1_0 x16_1).f0)) ∧ w'.cell? ⟨gb373, 1, none⟩ = some (.int .i64 ((rd_T35 l1_0 x16_1).f1)) ∧ w'.cell? ⟨gb373, 2, none⟩ = some (.int .i64 ((rd_T35 l1_0 x16_1).f2))) (ds := []) #[false,false,false,false,false,false] (by kernel_rfl) rfl rfl ⟨(bw5 BK370.out 0).trans rfl, (bw5 BK370.out 1).trans rfl, (bw5 BK370.out 2).trans rfl, (bw5 BK373.out 0).trans rfl, (bw5 BK373.out 1).trans rfl, (bw5 BK373.out 2).trans rfl⟩ (fun hHeld => ?_)
          generalize w36.drew = w37 at BK369 BK370 BK373 HB HR378 hHeld ⊢
          refine pure_ (i := 0) (N := some 26) (v := ?_) (a' := ?_) #[true,false,false,false,false,false] rfl rfl (by kernel_rfl) (fun _ _ _ h => h) (Or.inl ⟨by rfl, ?_⟩) ?_ ?_
          rotate_left
          ·intro w'; go_simp; (with_reducible rfl)
          rotate_left
          ·simp only [Act.put, zA_, zB_, zC_, i64_w, i32_w]; rfl
          refine pure_ (i := 2) (N := some 28) (v := ?_) (a' := ?_) #[true,false,true,false,false,false] rfl rfl (by kernel_rfl) (fun _ _ _ h => h) (Or.inl ⟨by rfl, ?_⟩) ?_ ?_
          rotate_left
          ·intro w'; go_simp; (with_reducible rfl)
          rotate_left
          ·simp only [Act.put, zA_, zB_, zC_, i64_w, i32_w]; rfl
          refine take_ (i := 1) (N := some 27) (v := ?_) (a' := ?_) #[true,true,true,false,false,false] rfl rfl (by kernel_rfl) (fun _ _ _ h => h) (Or.inl ⟨by rfl, ?_⟩) hHeld ?_ ?_
          rotate_left
          ·rintro w' ⟨s0, s1, s2, s3, s4, s5⟩
           go_simp; (with_reducible rfl)
          rotate_left
          ·simp only [Act.put, zA_, zB_, zC_, i64_w, i32_w]; rfl
          refine pure_ (i := 3) (N := some 29) (v := ?_) (a' := ?_) #[true,true,true,true,false,false] rfl rfl (by kernel_rfl) (fun _ _ _ h => h) (Or.inl ⟨by rfl, ?_⟩) ?_ ?_
          rotate_left
          ·intro w'; go_simp; (with_reducible rfl)
          rotate_left
          ·simp only [Act.put, zA_, zB_, zC_, i64_w, i32_w]; rfl
          refine take_ (i := 4) (N := some 30) (v := ?_) (a' := ?_) #[true,true,true,true,true,false] rfl rfl (by kernel_rfl) (fun _ _ _ h => h) (Or.inl ⟨by rfl, ?_⟩) hHeld ?_ ?_
          rotate_left
          ·rintro w' ⟨s0, s1, s2, s3, s4, s5⟩
           go_simp; (with_reducible rfl)
          rotate_left
          ·simp only [Act.put, zA_, zB_, zC_, i64_w, i32_w]; rfl
          refine one_ (i := 5) (N := some 31) #[true,true,true,true,true,true] rfl rfl (by kernel_rfl) (by decide) (fun K hK => ?_)
          refine goes_ Tryz.func64 (by kernel_rfl) rfl #[.slice (some ad372) y375.length c1_0, .agg #[.string ((rd_T35 l1_0 x16_1).f0), .int .i64 ((rd_T35 l1_0 x16_1).f1), .int .i64 ((rd_T35 l1_0 x16_1).f2)]] (by rfl) rfl rfl (by (try simp only [List.map_toArray, List.map_cons, List.map_nil]); first | done | rfl | (simp only [List.length_drop, List.length_take]; rfl)) ?_
          with_reducible refine (substitution_Position_64.calls k1 _ _ y375 ((rd_T35 l1_0 x16_1).f0) ((rd_T35 l1_0 x16_1).f1) ((rd_T35 l1_0 x16_1).f2) false _ ?side1 ?side2 A18.out).mono ?_
          (case side1 => repeat (first | exact (Kd.C_below HR378.out HB.out) | with_reducible first | refine Kd.C_alloc ?_ _ | refine Kd.C_drewN ?_ _ | refine Kd.C_drew ?_))
          (case side2 => exact HC378.out)
          rintro e w39 ⟨rfl, hb⟩
          refine ⟨_, rfl, ?_⟩
          have n0_ := Aside0.mk (bx1 (g := gb369) (o := .cells #[.int .i64 a0_0, .slice A0_1 l0_1.length c0_1, .slice A0_2 l0_2.length c0_2, .slice A0_3 l0_3.length c0_3] 25 (0, 0)) (by (with_reducible repeat (first | refine bw8 ?_ _ | refine bw9 ?_ | refine bw6 ?_ _)); exact BK369.out) hb)
          have n1_ := Aside0.mk (bx1 (g := gb370) (o := .cells #[.slice (some ad372) l1_0.length c1_0, .slice A1_1 l1_1.length c1_1, .int .i64 a1_2] 28 (0, 0)) (by (with_reducible repeat (first | refine bw8 ?_ _ | refine bw9 ?_ | refine bw6 ?_ _)); exact BK370.out) hb)
          have n2_ := Aside0.mk (bx1 (g := gb373) (o := .cells #[.string ((rd_T35 l1_0 x16_1).f0), .int .i64 ((rd_T35 l1_0 x16_1).f1), .int .i64 ((rd_T35 l1_0 x16_1).f2)] 35 (0, 0)) (by (with_reducible repeat (first | refine bw8 ?_ _ | refine bw9 ?_ | refine bw6 ?_ _)); exact BK373.out) hb)
          have n3_ := Aside0.mk (bx2 (by repeat (first | (with_reducible first | exact HB.out | apply bw2 | apply bw1 | apply bw3 | refine bw4 ?_ GE369.out | refine bw4 ?_ GE370.out | refine bw4 ?_ GE373.out) | exact HB.out)) hb)
          clear BK369; clear BK370; clear BK373; clear HB; have BK369 := n0_; have BK370 := n1_; have BK373 := n2_; have HB := n3_; clear n0_ n1_ n2_ n3_; (try clear hb); (try clear hb2); (try clear hk); (try clear hi)
          refine hK.out _ _ ⟨(bw5 BK370.out 0).trans rfl, (bw5 BK370.out 1).trans rfl, (bw5 BK370.out 2).trans rfl, (bw5 BK373.out 0).trans rfl, (bw5 BK373.out 1).trans rfl, (bw5 BK373.out 2).trans rfl⟩ (fun hHeld => ?_)
          clear hK K
          refine norm_ (a' := ?_) ?_ ?_
          rotate_left
          ·show Act.put _ (some 31) _ = _; simp only [Act.put, zA_, zB_, zC_, i64_w, i32_w]; rfl
          refine done_ (by kernel_rfl) ?_
          try go_wp2
          go_roundg k1
          case measure => have := HK1.out; omega
          case rel => exact ⟨(wrap64 (x16_1 + 1)), (by first | rfl | (simp; done) | (simp [*]; done)), H', ⟨by have := HK1.out; omega⟩, ⟨by (with_reducible repeat (first | refine bw8 ?_ _ | refine bw9 ?_ | refine bw6 ?_ _)); exact BK369.out⟩, ⟨by (with_reducible repeat (first | refine bw8 ?_ _ | refine bw9 ?_ | refine bw6 ?_ _)); exact BK370.out⟩, ⟨by repeat (first | (with_reducible first | exact HB.out | apply bw2 | apply bw1 | apply bw3 | refine bw4 ?_ GE369.out | refine bw4 ?_ GE370.out | refine bw4 ?_ GE373.out) | exact HB.out)⟩⟩
        ·rw [if_neg c17] at H
         exact absurd H (by simp)
       ·replace c15 := Bool.eq_false_iff.mpr c15
        subst c15
        have H1 : (some 9) = some r := by rw [if_neg (show ¬ (false = true) by decide)] at H; exact H
        clear H
        have H := H1
        clear H1
        obtain rfl := Option.some.inj H
        have p372 : 0 ≤ (x16_1 : Int) := of_decide_eq_true (by first | (with_reducible assumption) | assumption)
        have q372 : x16_1 < (l1_0.length : Int) := of_decide_eq_true (by first | (with_reducible assumption) | assumption)
        obtain ⟨ad372, e372, hx372_0, hx372_1, hx372_2⟩ := at_T35 HR1_0.out x16_1 p372 q372
        cases e372
        replace hx372_0 := (HB.out.cell (World.block_lt_of_cell? w _ hx372_0)).trans hx372_0
        replace hx372_1 := (HB.out.cell (World.block_lt_of_cell? w _ hx372_1)).trans hx372_1
        replace hx372_2 := (HB.out.cell (World.block_lt_of_cell? w _ hx372_2)).trans hx372_2
        replace p372 := eq_true p372
        replace q372 := eq_true q372
        go_wp2_with (first | ((with_reducible refine gate_dst (N := 7) rfl ?_); refine box_event ?hg (N := 7) ?hd (cs := #[.string (⟨#[]⟩ : ByteArray), .int .i64 0, .int .i64 0]) (t := 35) ?hr ?_; (case hd => rfl); (case hg => rfl); (case hr => first | (go_simp; done) | (go_simp; rfl)); intro gb373 hg w40 hbox hb; have n0_ := Aside0.mk (bx1 (g := gb369) (o := .cells #[.int .i64 a0_0, .slice A0_1 l0_1.length c0_1, .slice A0_2 l0_2.length c0_2, .slice A0_3 l0_3.length c0_3] 25 (0, 0)) (by (with_reducible repeat (first | refine bw8 ?_ _ | refine bw9 ?_ | refine bw6 ?_ _)); exact BK369.out) hb); have n1_ := Aside0.mk (bx1 (g := gb370) (o := .cells #[.slice (some ad372) l1_0.length c1_0, .slice A1_1 l1_1.length c1_1, .int .i64 a1_2] 28 (0, 0)) (by (with_reducible repeat (first | refine bw8 ?_ _ | refine bw9 ?_ | refine bw6 ?_ _)); exact BK370.out) hb); have n2_ := Aside0.mk (bx2 (by repeat (first | (with_reducible first | exact HB.out | apply bw2 | apply bw1 | apply bw3 | refine bw4 ?_ GE369.out | refine bw4 ?_ GE370.out) | exact HB.out)) hb); have n3_ := Aside0.mk (hbox); have n4_ := Aside0.mk ((by rw [hg]; exact (bx3 (by repeat (first | (with_reducible first | exact HB.out | apply bw2 | apply bw1 | apply bw3 | refine bw4 ?_ GE369.out | refine bw4 ?_ GE370.out) | exact HB.out))) : w.heap.size ≤ gb373)); have n5_ := Aside0.mk ((by rw [hg]; exact (bx3 (by repeat (first | (with_reducible first | exact HB.out | apply bw2 | apply bw1 | apply bw3 | refine bw4 ?_ GE369.out | refine bw4 ?_ GE370.out) | exact HB.out))) : w.heap.size ≤ gb373)); have n6_ := Aside0.mk ((by rw [hg]; exact Nat.ne_of_lt (blk_lt (g := gb369) (o := .cells #[.int .i64 a0_0, .slice A0_1 l0_1.length c0_1, .slice A0_2 l0_2.length c0_2, .slice A0_3 l0_3.length c0_3] 25 (0, 0)) (by (with_reducible repeat (first | refine bw8 ?_ _ | refine bw9 ?_ | refine bw6 ?_ _)); exact BK369.out)) : gb369 ≠ gb373)); have n7_ := Aside0.mk ((by rw [hg]; exact Nat.ne_of_gt (blk_lt (g := gb369) (o := .cells #[.int .i64 a0_0, .slice A0_1 l0_1.length c0_1, .slice A0_2 l0_2.length c0_2, .slice A0_3 l0_3.length c0_3] 25 (0, 0)) (by (with_reducible repeat (first | refine bw8 ?_ _ | refine bw9 ?_ | refine bw6 ?_ _)); exact BK369.out)) : gb373 ≠ gb369)); have n8_ := Aside0.mk ((by rw [hg]; exact Nat.ne_of_lt (blk_lt (g := gb370) (o := .cells #[.slice (some ad372) l1_0.length c1_0, .slice A1_1 l1_1.length c1_1, .int .i64 a1_2] 28 (0, 0)) (by (with_reducible repeat (first | refine bw8 ?_ _ | refine bw9 ?_ | refine bw6 ?_ _)); exact BK370.out)) : gb370 ≠ gb373)); have n9_ := Aside0.mk ((by rw [hg]; exact Nat.ne_of_gt (blk_lt (g := gb370) (o := .cells #[.slice (some ad372) l1_0.length c1_0, .slice A1_1 l1_1.length c1_1, .int .i64 a1_2] 28 (0, 0)) (by (with_reducible repeat (first | refine bw8 ?_ _ | refine bw9 ?_ | refine bw6 ?_ _)); exact BK370.out)) : gb373 ≠ gb370)); clear BK369; clear BK370; clear HB; have BK369 := n0_; have BK370 := n1_; have HB := n2_; have BK373 := n3_; have GW373 := n4_; have GE373 := n5_; have NB369_373 := n6_; have NB373_369 := n7_; have NB370_373 := n8_; have NB373_370 := n9_; clear n0_ n1_ n2_ n3_ n4_ n5_ n6_ n7_ n8_ n9_; clear hb hbox hg; have hnb41 := NB373_369.out; have hnc41 := NB369_373.out; have hnb42 := NB373_370.out; have hnc42 := NB370_373.out; have hcz43_0 : w40.cell? ⟨gb373, 0, none⟩ = some (.string (⟨#[]⟩ : ByteArray)) := (bw5 BK373.out 0).trans rfl; have hcz43_1 : w40.cell? ⟨gb373, 1, none⟩ = some (.int .i64 0) := (bw5 BK373.out 1).trans rfl; have hcz43_2 : w40.cell? ⟨gb373, 2, none⟩ = some (.int .i64 0) := (bw5 BK373.out 2).trans rfl; have hfz43_0 := bw7 BK373.out 0; have hfz43_1 := bw7 BK373.out 1; have hfz43_2 := bw7 BK373.out 2; have hnb44 := NB369_370.out; have hnc44 := NB370_369.out; have hcz45_0 : w40.cell? ⟨gb369, 0, none⟩ = some (.int .i64 a0_0) := (bw5 BK369.out 0).trans rfl; have hcz45_1 : w40.cell? ⟨gb369, 1, none⟩ = some (.slice A0_1 l0_1.length c0_1) := (bw5 BK369.out 1).trans rfl; have hcz45_2 : w40.cell? ⟨gb369, 2, none⟩ = some (.slice A0_2 l0_2.length c0_2) := (bw5 BK369.out 2).trans rfl; have hcz45_3 : w40.cell? ⟨gb369, 3, none⟩ = some (.slice A0_3 l0_3.length c0_3) := (bw5 BK369.out 3).trans rfl; have hfz45_0 := bw7 BK369.out 0; have hfz45_1 := bw7 BK369.out 1; have hfz45_2 := bw7 BK369.out 2; have hfz45_3 := bw7 BK369.out 3) | ((with_reducible refine gate_callee (f := 64) rfl ?_); refine goesL_ (some 24) rfl rfl Tryz.func64 (by kernel_rfl) rfl #[.slice A0_3 l0_3.length c0_3, .agg #[.string ((rd_T35 l1_0 x16_1).f0), .int .i64 ((rd_T35 l1_0 x16_1).f1), .int .i64 ((rd_T35 l1_0 x16_1).f2)]] rfl (by (try simp only [List.map_toArray, List.map_cons, List.map_nil]); first | done | rfl | (simp only [List.length_drop, List.length_take]; rfl)) ?_; (with_reducible refine (substitution_Position_64.calls k1 _ _ l0_3 ((rd_T35 l1_0 x16_1).f0) ((rd_T35 l1_0 x16_1).f1) ((rd_T35 l1_0 x16_1).f2) false _ ?side1 ?side2 A14.out).mono ?_); (case side1 => exact Kd.C_below HR0_3.out (by repeat (first | (with_reducible first | exact HB.out | apply bw2 | apply bw1 | apply bw3 | refine bw4 ?_ GE369.out | refine bw4 ?_ GE370.out | refine bw4 ?_ GE373.out) | exact HB.out))); (case side2 => exact HC0_3.out); rintro e w46 ⟨rfl, hb⟩; refine ⟨_, rfl, ?_⟩; have n0_ := Aside0.mk (bx1 (g := gb369) (o := .cells #[.int .i64 a0_0, .slice A0_1 l0_1.length c0_1, .slice A0_2 l0_2.length c0_2, .slice A0_3 l0_3.length c0_3] 25 (0, 0)) (by (with_reducible repeat (first | refine bw8 ?_ _ | refine bw9 ?_ | refine bw6 ?_ _)); refine blk_far ?_ NB369_373.out _; (with_reducible repeat (first | refine bw8 ?_ _ | refine bw9 ?_ | refine bw6 ?_ _)); refine blk_far ?_ NB369_373.out _; (with_reducible repeat (first | refine bw8 ?_ _ | refine bw9 ?_ | refine bw6 ?_ _)); refine blk_far ?_ NB369_373.out _; (with_reducible repeat (first | refine bw8 ?_ _ | refine bw9 ?_ | refine bw6 ?_ _)); exact BK369.out) hb); have n1_ := Aside0.mk (bx1 (g := gb370) (o := .cells #[.slice (some ad372) l1_0.length c1_0, .slice A1_1 l1_1.length c1_1, .int .i64 a1_2] 28 (0, 0)) (by (with_reducible repeat (first | refine bw8 ?_ _ | refine bw9 ?_ | refine bw6 ?_ _)); refine blk_far ?_ NB370_373.out _; (with_reducible repeat (first | refine bw8 ?_ _ | refine bw9 ?_ | refine bw6 ?_ _)); refine blk_far ?_ NB370_373.out _; (with_reducible repeat (first | refine bw8 ?_ _ | refine bw9 ?_ | refine bw6 ?_ _)); refine blk_far ?_ NB370_373.out _; (with_reducible repeat (first | refine bw8 ?_ _ | refine bw9 ?_ | refine bw6 ?_ _)); exact BK370.out) hb); have n2_ := Aside0.mk (bx1 (g := gb373) (o := .cells #[.string ((rd_T35 l1_0 x16_1).f0), .int .i64 ((rd_T35 l1_0 x16_1).f1), .int .i64 ((rd_T35 l1_0 x16_1).f2)] 35 (0, 0)) (by (with_reducible repeat (first | refine bw8 ?_ _ | refine bw9 ?_ | refine bw6 ?_ _)); refine blk_put (cs := #[.string ((rd_T35 l1_0 x16_1).f0), .int .i64 ((rd_T35 l1_0 x16_1).f1), .int .i64 0]) ?_ 2 _ rfl; (with_reducible repeat (first | refine bw8 ?_ _ | refine bw9 ?_ | refine bw6 ?_ _)); refine blk_put (cs := #[.string ((rd_T35 l1_0 x16_1).f0), .int .i64 0, .int .i64 0]) ?_ 1 _ rfl; (with_reducible repeat (first | refine bw8 ?_ _ | refine bw9 ?_ | refine bw6 ?_ _)); refine blk_put (cs := #[.string (⟨#[]⟩ : ByteArray), .int .i64 0, .int .i64 0]) ?_ 0 _ rfl; (with_reducible repeat (first | refine bw8 ?_ _ | refine bw9 ?_ | refine bw6 ?_ _)); exact BK373.out) hb); have n3_ := Aside0.mk (bx2 (by repeat (first | (with_reducible first | exact HB.out | apply bw2 | apply bw1 | apply bw3 | refine bw4 ?_ GE369.out | refine bw4 ?_ GE370.out | refine bw4 ?_ GE373.out) | exact HB.out)) hb); clear BK369; clear BK370; clear BK373; clear HB; have BK369 := n0_; have BK370 := n1_; have BK373 := n2_; have HB := n3_; clear n0_ n1_ n2_ n3_; (try clear hb); (try clear hb2); (try clear hk); (try clear hi)))
        go_ret
        exact ⟨by first | rfl | (simp [errW_none, errW_some] <;> rfl) | (simp [*, errW_none, errW_some] <;> rfl), by repeat (first | (with_reducible first | exact HB.out | apply bw2 | apply bw1 | apply bw3 | refine bw4 ?_ GE369.out | refine bw4 ?_ GE370.out | refine bw4 ?_ GE373.out) | exact HB.out)⟩
      ·rw [if_neg c13] at H
       exact absurd H (by simp)
     ·rw [if_neg c12] at H
      exact absurd H (by simp)
    ·rw [if_neg c11] at H
     have c11b0 : decide (x16_1 < (l1_0.length : Int)) = false := decide_eq_false c11
     clear c11
     have HC47 := Aside0.mk H
     clear H
     go_upto_region 12 with (fail)
     go_cut [49] (fun v49 wc => ∃ (kq : Nat) (x49_46 : Bool), v49 = .bool x49_46 ∧ Aside0 (substitution_Verify.j1 kq x49_46 a0_0 l0_1 l0_2 l0_3 l1_0 l1_1 a1_2 = some r) ∧ Aside0 (kq ≤ k1) ∧ Aside0 (wc.heap[gb369]? = some (.cells #[.int .i64 a0_0, (.slice A0_1 l0_1.length c0_1), (.slice A0_2 l0_2.length c0_2), (.slice A0_3 l0_3.length c0_3)] 25 (0, 0))) ∧ Aside0 (wc.heap[gb370]? = some (.cells #[(.slice A1_0 l1_0.length c1_0), (.slice A1_1 l1_1.length c1_1), .int .i64 a1_2] 28 (0, 0))) ∧ Aside0 (Below w.heap.size w wc))
     case first =>
      have H := HC47.out
      clear HC47
      replace H := Option.bind_eq_some_iff.mp H
      obtain ⟨t380, A480, H⟩ := H
      replace H : ((substitution_Position_65.f k1 l1_1 t380).bind fun t383 => (if t383 = true then ((substitution_Request_kept.f k1 a0_0 l0_1 l0_2 l0_3).bind fun t384 => ((substitution_sum.f k1 l1_0).bind fun t385 => (substitution_Verify.j1 k1 (a1_2 != (wrap64 (t384 + t385))) a0_0 l0_1 l0_2 l0_3 l1_0 l1_1 a1_2))) else (substitution_Verify.j1 k1 true a0_0 l0_1 l0_2 l0_3 l1_0 l1_1 a1_2))) = some r := H
      have A48 := Aside0.mk A480
      clear A480
      replace H := Option.bind_eq_some_iff.mp H
      obtain ⟨t383, A490, H⟩ := H
      replace H : (if t383 = true then ((substitution_Request_kept.f k1 a0_0 l0_1 l0_2 l0_3).bind fun t384 => ((substitution_sum.f k1 l1_0).bind fun t385 => (substitution_Verify.j1 k1 (a1_2 != (wrap64 (t384 + t385))) a0_0 l0_1 l0_2 l0_3 l1_0 l1_1 a1_2))) else (substitution_Verify.j1 k1 true a0_0 l0_1 l0_2 l0_3 l1_0 l1_1 a1_2)) = some r := H
      have A49 := Aside0.mk A490
      clear A490
      by_cases c50 : t383 = true
      ·subst c50
       have H1 : ((substitution_Request_kept.f k1 a0_0 l0_1 l0_2 l0_3).bind fun t384 => ((substitution_sum.f k1 l1_0).bind fun t385 => (substitution_Verify.j1 k1 (a1_2 != (wrap64 (t384 + t385))) a0_0 l0_1 l0_2 l0_3 l1_0 l1_1 a1_2))) = some r := by rw [if_pos rfl] at H; exact H
       clear H
       have H := H1
       clear H1
       replace H := Option.bind_eq_some_iff.mp H
       obtain ⟨t384, A510, H⟩ := H
       replace H : ((substitution_sum.f k1 l1_0).bind fun t385 => (substitution_Verify.j1 k1 (a1_2 != (wrap64 (t384 + t385))) a0_0 l0_1 l0_2 l0_3 l1_0 l1_1 a1_2)) = some r := H
       have A51 := Aside0.mk A510
       clear A510
       replace H := Option.bind_eq_some_iff.mp H
       obtain ⟨t385, A520, H⟩ := H
       replace H : (substitution_Verify.j1 k1 (a1_2 != (wrap64 (t384 + t385))) a0_0 l0_1 l0_2 l0_3 l1_0 l1_1 a1_2) = some r := H
       have A52 := Aside0.mk A520
       clear A520
       have H' := Aside0.mk H
       clear H
       try go_wp2
       have n0_ := Aside0.mk (bw9 BK369.out)
       have n1_ := Aside0.mk (bw9 BK370.out)
       have n2_ := Aside0.mk (bw3 HB.out)
       clear BK369; clear BK370; clear HB; have BK369 := n0_; have BK370 := n1_; have HB := n2_; clear n0_ n1_ n2_
       refine start_ (n := 17) (S := fun w' => w'.cell? ⟨gb370, 0, none⟩ = some (.slice A1_0 l1_0.length c1_0) ∧ w'.cell? ⟨gb370, 1, none⟩ = some (.slice A1_1 l1_1.length c1_1) ∧ w'.cell? ⟨gb370, 2, none⟩ = some (.int .i64 a1_2) ∧ w'.cell? ⟨gb369, 0, none⟩ = some (.int .i64 a0_0) ∧ w'.cell? ⟨gb369, 1, none⟩ = some (.slice A0_1 l0_1.length c0_1) ∧ w'.cell? ⟨gb369, 2, none⟩ = some (.slice A0_2 l0_2.length c0_2) ∧ w'.cell? ⟨gb369, 3, none⟩ = some (.slice A0_3 l0_3.length c0_3)) (ds := []) zb2 (by kernel_rfl) rfl rfl ⟨(bw5 BK370.out 0).trans rfl, (bw5 BK370.out 1).trans rfl, (bw5 BK370.out 2).trans rfl, (bw5 BK369.out 0).trans rfl, (bw5 BK369.out 1).trans rfl, (bw5 BK369.out 2).trans rfl, (bw5 BK369.out 3).trans rfl⟩ (fun hHeld => ?_); refine with_tabW substitution_Verify.tab12 substitution_Verify.bits12 (fun HT_ HW_ => ?_)
       generalize wr.drew = w53 at BK369 BK370 HB hHeld ⊢
       refine pure_ (i := 0) (N := some 33) (v := ?_) (a' := ?_) zb3 rfl rfl (any_of HT_.out (by kernel_rfl)) (fun _ _ _ h => h) (Or.inl ⟨by rfl, ?_⟩) ?_ ?_
       rotate_left
       ·intro w'; go_simp; (with_reducible rfl)
       rotate_left
       ·simp only [Act.put, zA_, zB_, zC_, i64_w, i32_w]; rfl
       refine take_ (i := 1) (N := some 34) (v := ?_) (a' := ?_) zb4 rfl rfl (take_ofW HT_.out HW_.out (by kernel_rfl)) (fun _ _ _ h => h) (Or.inl ⟨by rfl, ?_⟩) hHeld ?_ ?_
       rotate_left
       ·rintro w' ⟨s0, s1, s2, s3, s4, s5, s6⟩
        go_simp; (with_reducible rfl)
       rotate_left
       ·simp only [Act.put, zA_, zB_, zC_, i64_w, i32_w]; rfl
       refine take_ (i := 2) (N := some 35) (v := ?_) (a' := ?_) zb5 rfl rfl (take_ofW HT_.out HW_.out (by kernel_rfl)) (fun _ _ _ h => h) (Or.inl ⟨by rfl, ?_⟩) hHeld ?_ ?_
       rotate_left
       ·rintro w' ⟨s0, s1, s2, s3, s4, s5, s6⟩
        go_simp; (with_reducible rfl)
       rotate_left
       ·simp only [Act.put, zA_, zB_, zC_, i64_w, i32_w]; rfl
       refine one_ (i := 3) (N := some 36) zb6 rfl rfl (one_of HT_.out (by kernel_rfl)) (by decide) (fun K hK => ?_)
       refine goes_ Tryz.func66 (by kernel_rfl) rfl #[.agg #[.int .i64 a0_0, .slice A0_1 l0_1.length c0_1, .slice A0_2 l0_2.length c0_2, .slice A0_3 l0_3.length c0_3]] (by rfl) rfl rfl (by (try simp only [List.map_toArray, List.map_cons, List.map_nil]); first | done | rfl | (simp only [List.length_drop, List.length_take]; rfl)) ?_
       with_reducible refine (substitution_Request_withdrawn.calls k1 a0_0 _ _ l0_1 _ _ l0_2 _ _ l0_3 t380 _ ?side1 ?side2 ?side3 ?side4 ?side5 ?side6 A48.out).mono ?_
       (case side1 => repeat (first | exact (Kd.C_below HR0_1.out HB.out) | with_reducible first | refine Kd.C_alloc ?_ _ | refine Kd.C_drewN ?_ _ | refine Kd.C_drew ?_))
       (case side2 => exact HC0_1.out)
       (case side3 => repeat (first | exact (Kd.C_below HR0_2.out HB.out) | with_reducible first | refine Kd.C_alloc ?_ _ | refine Kd.C_drewN ?_ _ | refine Kd.C_drew ?_))
       (case side4 => exact HC0_2.out)
       (case side5 => repeat (first | exact (Kd.C_below HR0_3.out HB.out) | with_reducible first | refine Kd.C_alloc ?_ _ | refine Kd.C_drewN ?_ _ | refine Kd.C_drew ?_))
       (case side6 => exact HC0_3.out)
       rintro e w54 ⟨v381, rfl, ho0, hb⟩
       refine ⟨_, rfl, ?_⟩
       have n0_ := Aside0.mk (Kd.R_lower ho0 (bx3 (by repeat (first | (with_reducible first | exact HB.out | apply bw2 | apply bw1 | apply bw3 | refine bw4 ?_ GE369.out | refine bw4 ?_ GE370.out) | exact HB.out))))
       have n1_ := Aside0.mk (bx1 (g := gb369) (o := .cells #[.int .i64 a0_0, .slice A0_1 l0_1.length c0_1, .slice A0_2 l0_2.length c0_2, .slice A0_3 l0_3.length c0_3] 25 (0, 0)) (by (with_reducible repeat (first | refine bw8 ?_ _ | refine bw9 ?_ | refine bw6 ?_ _)); exact BK369.out) hb)
       have n2_ := Aside0.mk (bx1 (g := gb370) (o := .cells #[.slice A1_0 l1_0.length c1_0, .slice A1_1 l1_1.length c1_1, .int .i64 a1_2] 28 (0, 0)) (by (with_reducible repeat (first | refine bw8 ?_ _ | refine bw9 ?_ | refine bw6 ?_ _)); exact BK370.out) hb)
       have n3_ := Aside0.mk (bx2 (by repeat (first | (with_reducible first | exact HB.out | apply bw2 | apply bw1 | apply bw3 | refine bw4 ?_ GE369.out | refine bw4 ?_ GE370.out) | exact HB.out)) hb)
       clear BK369; clear BK370; clear HB; have HO382 := n0_; have BK369 := n1_; have BK370 := n2_; have HB := n3_; clear n0_ n1_ n2_ n3_; (try clear hb); (try clear hb2); (try clear hk); (try clear hi); (try clear ho0)
       obtain ⟨Ao55, co55, eo55⟩ := Kd.R_slice HO382.out
       (first | subst eo55 | (injection eo55 with f1_ f2_ f3_; have f4_ := f1_.symm; have f5_ := f3_.symm; clear f1_ f2_ f3_; subst f4_; subst f5_))
       refine hK.out _ _ ⟨(bw5 BK370.out 0).trans rfl, (bw5 BK370.out 1).trans rfl, (bw5 BK370.out 2).trans rfl, (bw5 BK369.out 0).trans rfl, (bw5 BK369.out 1).trans rfl, (bw5 BK369.out 2).trans rfl, (bw5 BK369.out 3).trans rfl⟩ (fun hHeld => ?_)
       clear hK K
       refine norm_ (a' := ?_) ?_ ?_
       rotate_left
       ·show Act.put _ (some 36) _ = _; simp only [Act.put, zA_, zB_, zC_, i64_w, i32_w]; rfl
       refine one_ (i := 4) (N := some 37) zb7 rfl rfl (one_of HT_.out (by kernel_rfl)) (by decide) (fun K hK => ?_)
       refine goes_ Tryz.func65 (by kernel_rfl) rfl #[.slice A1_1 l1_1.length c1_1, .slice Ao55 t380.length co55] (by rfl) rfl rfl (by (try simp only [List.map_toArray, List.map_cons, List.map_nil]); first | done | rfl | (simp only [List.length_drop, List.length_take]; rfl)) ?_
       with_reducible refine (substitution_Position_65.calls k1 _ _ l1_1 _ _ t380 true _ ?side1 ?side2 ?side3 ?side4 A49.out).mono ?_
       (case side1 => repeat (first | exact (Kd.C_below HR1_1.out HB.out) | with_reducible first | refine Kd.C_alloc ?_ _ | refine Kd.C_drewN ?_ _ | refine Kd.C_drew ?_))
       (case side2 => exact HC1_1.out)
       (case side3 => repeat (first | exact (Kd.R_reads' HO382.out).2.2 | with_reducible first | refine Kd.C_alloc ?_ _ | refine Kd.C_drewN ?_ _ | refine Kd.C_drew ?_))
       (case side4 => exact (Kd.R_reads' HO382.out).2.1)
       rintro e w' ⟨rfl, ⟨nd, rfl⟩⟩
       refine ⟨_, rfl, ?_⟩
       refine hK.out _ _ ⟨(bw5 BK370.out 0).trans rfl, (bw5 BK370.out 1).trans rfl, (bw5 BK370.out 2).trans rfl, (bw5 BK369.out 0).trans rfl, (bw5 BK369.out 1).trans rfl, (bw5 BK369.out 2).trans rfl, (bw5 BK369.out 3).trans rfl⟩ (fun hHeld => ?_)
       clear hK K
       refine norm_ (a' := ?_) ?_ ?_
       rotate_left
       ·show Act.put _ (some 37) _ = _; simp only [Act.put, zA_, zB_, zC_, i64_w, i32_w]; rfl
       refine pure_ (i := 5) (N := some 38) (v := ?_) (a' := ?_) zb8 rfl rfl (any_of HT_.out (by kernel_rfl)) (fun _ _ _ h => h) (Or.inl ⟨by rfl, ?_⟩) ?_ ?_
       rotate_left
       ·intro w'; go_simp; (with_reducible rfl)
       rotate_left
       ·simp only [Act.put, zA_, zB_, zC_, i64_w, i32_w]; rfl
       refine pure_ (i := 6) (N := some 39) (v := ?_) (a' := ?_) zb9 rfl rfl (any_of HT_.out (by kernel_rfl)) (fun _ _ _ h => h) (Or.inl ⟨by rfl, ?_⟩) ?_ ?_
       rotate_left
       ·intro w'; go_simp; (with_reducible rfl)
       rotate_left
       ·simp only [Act.put, zA_, zB_, zC_, i64_w, i32_w]; rfl
       refine pure_ (i := 7) (N := some 40) (v := ?_) (a' := ?_) zb10 rfl rfl (any_of HT_.out (by kernel_rfl)) (fun _ _ _ h => h) (Or.inl ⟨by rfl, ?_⟩) ?_ ?_
       rotate_left
       ·intro w'; go_simp; (with_reducible rfl)
       rotate_left
       ·simp only [Act.put, zA_, zB_, zC_, i64_w, i32_w]; rfl
       refine pure_ (i := 11) (N := some 44) (v := ?_) (a' := ?_) #[true,true,true,true,true,true,true,true,false,false,false,true,false,false,false,false,false] rfl rfl (any_of HT_.out (by kernel_rfl)) (fun _ _ _ h => h) (Or.inl ⟨by rfl, ?_⟩) ?_ ?_
       rotate_left
       ·intro w'; go_simp; (with_reducible rfl)
       rotate_left
       ·simp only [Act.put, zA_, zB_, zC_, i64_w, i32_w]; rfl
       refine take_ (i := 8) (N := some 41) (v := ?_) (a' := ?_) #[true,true,true,true,true,true,true,true,true,false,false,true,false,false,false,false,false] rfl rfl (take_ofW HT_.out HW_.out (by kernel_rfl)) (fun _ _ _ h => h) (Or.inl ⟨by rfl, ?_⟩) hHeld ?_ ?_
       rotate_left
       ·rintro w' ⟨s0, s1, s2, s3, s4, s5, s6⟩
        go_simp; (with_reducible rfl)
       rotate_left
       ·simp only [Act.put, zA_, zB_, zC_, i64_w, i32_w]; rfl
       refine take_ (i := 9) (N := some 42) (v := ?_) (a' := ?_) #[true,true,true,true,true,true,true,true,true,true,false,true,false,false,false,false,false] rfl rfl (take_ofW HT_.out HW_.out (by kernel_rfl)) (fun _ _ _ h => h) (Or.inl ⟨by rfl, ?_⟩) hHeld ?_ ?_
       rotate_left
       ·rintro w' ⟨s0, s1, s2, s3, s4, s5, s6⟩
        go_simp; (with_reducible rfl)
       rotate_left
       ·simp only [Act.put, zA_, zB_, zC_, i64_w, i32_w]; rfl
       refine take_ (i := 12) (N := some 45) (v := ?_) (a' := ?_) #[true,true,true,true,true,true,true,true,true,true,false,true,true,false,false,false,false] rfl rfl (take_ofW HT_.out HW_.out (by kernel_rfl)) (fun _ _ _ h => h) (Or.inl ⟨by rfl, ?_⟩) hHeld ?_ ?_
       rotate_left
       ·rintro w' ⟨s0, s1, s2, s3, s4, s5, s6⟩
        go_simp; (with_reducible rfl)
       rotate_left
       ·simp only [Act.put, zA_, zB_, zC_, i64_w, i32_w]; rfl
       refine one_ (i := 10) (N := some 43) zb11 rfl rfl (one_of HT_.out (by kernel_rfl)) (by decide) (fun K hK => ?_)
       refine goes_ Tryz.func67 (by kernel_rfl) rfl #[.agg #[.int .i64 a0_0, .slice A0_1 l0_1.length c0_1, .slice A0_2 l0_2.length c0_2, .slice A0_3 l0_3.length c0_3]] (by rfl) rfl rfl (by (try simp only [List.map_toArray, List.map_cons, List.map_nil]); first | done | rfl | (simp only [List.length_drop, List.length_take]; rfl)) ?_
       with_reducible refine (substitution_Request_kept.calls k1 a0_0 _ _ l0_1 _ _ l0_2 _ _ l0_3 t384 _ ?side1 ?side2 ?side3 ?side4 ?side5 ?side6 A51.out).mono ?_
       (case side1 => repeat (first | exact (Kd.C_below HR0_1.out (by repeat (first | (with_reducible first | exact HB.out | apply bw2 | apply bw1 | apply bw3 | refine bw4 ?_ GE369.out | refine bw4 ?_ GE370.out) | exact HB.out))) | with_reducible first | refine Kd.C_alloc ?_ _ | refine Kd.C_drewN ?_ _ | refine Kd.C_drew ?_))
       (case side2 => exact HC0_1.out)
       (case side3 => repeat (first | exact (Kd.C_below HR0_2.out (by repeat (first | (with_reducible first | exact HB.out | apply bw2 | apply bw1 | apply bw3 | refine bw4 ?_ GE369.out | refine bw4 ?_ GE370.out) | exact HB.out))) | with_reducible first | refine Kd.C_alloc ?_ _ | refine Kd.C_drewN ?_ _ | refine Kd.C_drew ?_))
       (case side4 => exact HC0_2.out)
       (case side5 => repeat (first | exact (Kd.C_below HR0_3.out (by repeat (first | (with_reducible first | exact HB.out | apply bw2 | apply bw1 | apply bw3 | refine bw4 ?_ GE369.out | refine bw4 ?_ GE370.out) | exact HB.out))) | with_reducible first | refine Kd.C_alloc ?_ _ | refine Kd.C_drewN ?_ _ | refine Kd.C_drew ?_))
       (case side6 => exact HC0_3.out)
       rintro e w56 ⟨rfl, hb⟩
       refine ⟨_, rfl, ?_⟩
       have n0_ := Aside0.mk (Kd.R_below (by (with_reducible repeat (first | apply Kd.R_alloc | apply Kd.R_drewN | apply Kd.R_drew)); exact HO382.out) hb)
       have n1_ := Aside0.mk (bx1 (g := gb369) (o := .cells #[.int .i64 a0_0, .slice A0_1 l0_1.length c0_1, .slice A0_2 l0_2.length c0_2, .slice A0_3 l0_3.length c0_3] 25 (0, 0)) (by (with_reducible repeat (first | refine bw8 ?_ _ | refine bw9 ?_ | refine bw6 ?_ _)); exact BK369.out) hb)
       have n2_ := Aside0.mk (bx1 (g := gb370) (o := .cells #[.slice A1_0 l1_0.length c1_0, .slice A1_1 l1_1.length c1_1, .int .i64 a1_2] 28 (0, 0)) (by (with_reducible repeat (first | refine bw8 ?_ _ | refine bw9 ?_ | refine bw6 ?_ _)); exact BK370.out) hb)
       have n3_ := Aside0.mk (bx2 (by repeat (first | (with_reducible first | exact HB.out | apply bw2 | apply bw1 | apply bw3 | refine bw4 ?_ GE369.out | refine bw4 ?_ GE370.out) | exact HB.out)) hb)
       clear HO382; clear BK369; clear BK370; clear HB; have HO382 := n0_; have BK369 := n1_; have BK370 := n2_; have HB := n3_; clear n0_ n1_ n2_ n3_; (try clear hb); (try clear hb2); (try clear hk); (try clear hi)
       refine hK.out _ _ ⟨(bw5 BK370.out 0).trans rfl, (bw5 BK370.out 1).trans rfl, (bw5 BK370.out 2).trans rfl, (bw5 BK369.out 0).trans rfl, (bw5 BK369.out 1).trans rfl, (bw5 BK369.out 2).trans rfl, (bw5 BK369.out 3).trans rfl⟩ (fun hHeld => ?_)
       clear hK K
       refine norm_ (a' := ?_) ?_ ?_
       rotate_left
       ·show Act.put _ (some 43) _ = _; simp only [Act.put, zA_, zB_, zC_, i64_w, i32_w]; rfl
       refine one_ (i := 13) (N := some 46) zb12 rfl rfl (one_of HT_.out (by kernel_rfl)) (by decide) (fun K hK => ?_)
       refine goes_ Tryz.func41 (by kernel_rfl) rfl #[.slice A1_0 l1_0.length c1_0] (by rfl) rfl rfl (by (try simp only [List.map_toArray, List.map_cons, List.map_nil]); first | done | rfl | (simp only [List.length_drop, List.length_take]; rfl)) ?_
       with_reducible refine (substitution_sum.calls k1 _ _ l1_0 t385 _ ?side1 ?side2 A52.out).mono ?_
       (case side1 => repeat (first | exact (Kd.C_below HR1_0.out HB.out) | with_reducible first | refine Kd.C_alloc ?_ _ | refine Kd.C_drewN ?_ _ | refine Kd.C_drew ?_))
       (case side2 => exact HC1_0.out)
       rintro e w57 ⟨rfl, hb⟩
       refine ⟨_, rfl, ?_⟩
       have n0_ := Aside0.mk (Kd.R_below (by (with_reducible repeat (first | apply Kd.R_alloc | apply Kd.R_drewN | apply Kd.R_drew)); exact HO382.out) hb)
       have n1_ := Aside0.mk (bx1 (g := gb369) (o := .cells #[.int .i64 a0_0, .slice A0_1 l0_1.length c0_1, .slice A0_2 l0_2.length c0_2, .slice A0_3 l0_3.length c0_3] 25 (0, 0)) (by (with_reducible repeat (first | refine bw8 ?_ _ | refine bw9 ?_ | refine bw6 ?_ _)); exact BK369.out) hb)
       have n2_ := Aside0.mk (bx1 (g := gb370) (o := .cells #[.slice A1_0 l1_0.length c1_0, .slice A1_1 l1_1.length c1_1, .int .i64 a1_2] 28 (0, 0)) (by (with_reducible repeat (first | refine bw8 ?_ _ | refine bw9 ?_ | refine bw6 ?_ _)); exact BK370.out) hb)
       have n3_ := Aside0.mk (bx2 (by repeat (first | (with_reducible first | exact HB.out | apply bw2 | apply bw1 | apply bw3 | refine bw4 ?_ GE369.out | refine bw4 ?_ GE370.out) | exact HB.out)) hb)
       clear HO382; clear BK369; clear BK370; clear HB; have HO382 := n0_; have BK369 := n1_; have BK370 := n2_; have HB := n3_; clear n0_ n1_ n2_ n3_; (try clear hb); (try clear hb2); (try clear hk); (try clear hi)
       refine hK.out _ _ ⟨(bw5 BK370.out 0).trans rfl, (bw5 BK370.out 1).trans rfl, (bw5 BK370.out 2).trans rfl, (bw5 BK369.out 0).trans rfl, (bw5 BK369.out 1).trans rfl, (bw5 BK369.out 2).trans rfl, (bw5 BK369.out 3).trans rfl⟩ (fun hHeld => ?_)
       clear hK K
       refine norm_ (a' := ?_) ?_ ?_
       rotate_left
       ·show Act.put _ (some 46) _ = _; simp only [Act.put, zA_, zB_, zC_, i64_w, i32_w]; rfl
       refine pure_ (i := 14) (N := some 47) (v := ?_) (a' := ?_) zb13 rfl rfl (any_of HT_.out (by kernel_rfl)) (fun _ _ _ h => h) (Or.inl ⟨by rfl, ?_⟩) ?_ ?_
       rotate_left
       ·intro w'; go_simp; (with_reducible rfl)
       rotate_left
       ·simp only [Act.put, zA_, zB_, zC_, i64_w, i32_w]; rfl
       refine pure_ (i := 15) (N := some 48) (v := ?_) (a' := ?_) zb14 rfl rfl (any_of HT_.out (by kernel_rfl)) (fun _ _ _ h => h) (Or.inl ⟨by rfl, ?_⟩) ?_ ?_
       rotate_left
       ·intro w'; go_simp; (with_reducible rfl)
       rotate_left
       ·simp only [Act.put, zA_, zB_, zC_, i64_w, i32_w]; rfl
       refine pure_ (i := 16) (N := some 49) (v := ?_) (a' := ?_) zb15 rfl rfl (any_of HT_.out (by kernel_rfl)) (fun _ _ _ h => h) (Or.inl ⟨by rfl, ?_⟩) ?_ ?_
       rotate_left
       ·intro w'; go_simp; (with_reducible rfl)
       rotate_left
       ·simp only [Act.put, zA_, zB_, zC_, i64_w, i32_w]; rfl
       refine done_ (done_of HT_.out (by kernel_rfl)) ?_
       try go_wp2
       go_meet
       case rel => exact ⟨_, ((a1_2 != (wrap64 (t384 + t385)))), (by first | rfl | (simp; done) | (simp [*]; done)), H', ⟨by have := HK1.out; first | omega | exact Nat.le_refl _⟩, ⟨by (with_reducible repeat (first | refine bw8 ?_ _ | refine bw9 ?_ | refine bw6 ?_ _)); exact BK369.out⟩, ⟨by (with_reducible repeat (first | refine bw8 ?_ _ | refine bw9 ?_ | refine bw6 ?_ _)); exact BK370.out⟩, ⟨by repeat (first | (with_reducible first | exact HB.out | apply bw2 | apply bw1 | apply bw3 | refine bw4 ?_ GE369.out | refine bw4 ?_ GE370.out) | exact HB.out)⟩⟩
      ·replace c50 := Bool.eq_false_iff.mpr c50
       subst c50
       have H1 : (substitution_Verify.j1 k1 true a0_0 l0_1 l0_2 l0_3 l1_0 l1_1 a1_2) = some r := by rw [if_neg (show ¬ (false = true) by decide)] at H; exact H
       clear H
       have H := H1
       clear H1
       have H' := Aside0.mk H
       clear H
       try go_wp2
       have n0_ := Aside0.mk (bw9 BK369.out)
       have n1_ := Aside0.mk (bw9 BK370.out)
       have n2_ := Aside0.mk (bw3 HB.out)
       clear BK369; clear BK370; clear HB; have BK369 := n0_; have BK370 := n1_; have HB := n2_; clear n0_ n1_ n2_
       refine start_ (n := 17) (S := fun w' => w'.cell? ⟨gb370, 0, none⟩ = some (.slice A1_0 l1_0.length c1_0) ∧ w'.cell? ⟨gb370, 1, none⟩ = some (.slice A1_1 l1_1.length c1_1) ∧ w'.cell? ⟨gb370, 2, none⟩ = some (.int .i64 a1_2) ∧ w'.cell? ⟨gb369, 0, none⟩ = some (.int .i64 a0_0) ∧ w'.cell? ⟨gb369, 1, none⟩ = some (.slice A0_1 l0_1.length c0_1) ∧ w'.cell? ⟨gb369, 2, none⟩ = some (.slice A0_2 l0_2.length c0_2) ∧ w'.cell? ⟨gb369, 3, none⟩ = some (.slice A0_3 l0_3.length c0_3)) (ds := []) zb2 (by kernel_rfl) rfl rfl ⟨(bw5 BK370.out 0).trans rfl, (bw5 BK370.out 1).trans rfl, (bw5 BK370.out 2).trans rfl, (bw5 BK369.out 0).trans rfl, (bw5 BK369.out 1).trans rfl, (bw5 BK369.out 2).trans rfl, (bw5 BK369.out 3).trans rfl⟩ (fun hHeld => ?_); refine with_tabW substitution_Verify.tab12 substitution_Verify.bits12 (fun HT_ HW_ => ?_)
       generalize wr.drew = w58 at BK369 BK370 HB hHeld ⊢
       refine pure_ (i := 0) (N := some 33) (v := ?_) (a' := ?_) zb3 rfl rfl (any_of HT_.out (by kernel_rfl)) (fun _ _ _ h => h) (Or.inl ⟨by rfl, ?_⟩) ?_ ?_
       rotate_left
       ·intro w'; go_simp; (with_reducible rfl)
       rotate_left
       ·simp only [Act.put, zA_, zB_, zC_, i64_w, i32_w]; rfl
       refine take_ (i := 1) (N := some 34) (v := ?_) (a' := ?_) zb4 rfl rfl (take_ofW HT_.out HW_.out (by kernel_rfl)) (fun _ _ _ h => h) (Or.inl ⟨by rfl, ?_⟩) hHeld ?_ ?_
       rotate_left
       ·rintro w' ⟨s0, s1, s2, s3, s4, s5, s6⟩
        go_simp; (with_reducible rfl)
       rotate_left
       ·simp only [Act.put, zA_, zB_, zC_, i64_w, i32_w]; rfl
       refine take_ (i := 2) (N := some 35) (v := ?_) (a' := ?_) zb5 rfl rfl (take_ofW HT_.out HW_.out (by kernel_rfl)) (fun _ _ _ h => h) (Or.inl ⟨by rfl, ?_⟩) hHeld ?_ ?_
       rotate_left
       ·rintro w' ⟨s0, s1, s2, s3, s4, s5, s6⟩
        go_simp; (with_reducible rfl)
       rotate_left
       ·simp only [Act.put, zA_, zB_, zC_, i64_w, i32_w]; rfl
       refine one_ (i := 3) (N := some 36) zb6 rfl rfl (one_of HT_.out (by kernel_rfl)) (by decide) (fun K hK => ?_)
       refine goes_ Tryz.func66 (by kernel_rfl) rfl #[.agg #[.int .i64 a0_0, .slice A0_1 l0_1.length c0_1, .slice A0_2 l0_2.length c0_2, .slice A0_3 l0_3.length c0_3]] (by rfl) rfl rfl (by (try simp only [List.map_toArray, List.map_cons, List.map_nil]); first | done | rfl | (simp only [List.length_drop, List.length_take]; rfl)) ?_
       with_reducible refine (substitution_Request_withdrawn.calls k1 a0_0 _ _ l0_1 _ _ l0_2 _ _ l0_3 t380 _ ?side1 ?side2 ?side3 ?side4 ?side5 ?side6 A48.out).mono ?_
       (case side1 => repeat (first | exact (Kd.C_below HR0_1.out HB.out) | with_reducible first | refine Kd.C_alloc ?_ _ | refine Kd.C_drewN ?_ _ | refine Kd.C_drew ?_))
       (case side2 => exact HC0_1.out)
       (case side3 => repeat (first | exact (Kd.C_below HR0_2.out HB.out) | with_reducible first | refine Kd.C_alloc ?_ _ | refine Kd.C_drewN ?_ _ | refine Kd.C_drew ?_))
       (case side4 => exact HC0_2.out)
       (case side5 => repeat (first | exact (Kd.C_below HR0_3.out HB.out) | with_reducible first | refine Kd.C_alloc ?_ _ | refine Kd.C_drewN ?_ _ | refine Kd.C_drew ?_))
       (case side6 => exact HC0_3.out)
       rintro e w59 ⟨v381, rfl, ho0, hb⟩
       refine ⟨_, rfl, ?_⟩
       have n0_ := Aside0.mk (Kd.R_lower ho0 (bx3 (by repeat (first | (with_reducible first | exact HB.out | apply bw2 | apply bw1 | apply bw3 | refine bw4 ?_ GE369.out | refine bw4 ?_ GE370.out) | exact HB.out))))
       have n1_ := Aside0.mk (bx1 (g := gb369) (o := .cells #[.int .i64 a0_0, .slice A0_1 l0_1.length c0_1, .slice A0_2 l0_2.length c0_2, .slice A0_3 l0_3.length c0_3] 25 (0, 0)) (by (with_reducible repeat (first | refine bw8 ?_ _ | refine bw9 ?_ | refine bw6 ?_ _)); exact BK369.out) hb)
       have n2_ := Aside0.mk (bx1 (g := gb370) (o := .cells #[.slice A1_0 l1_0.length c1_0, .slice A1_1 l1_1.length c1_1, .int .i64 a1_2] 28 (0, 0)) (by (with_reducible repeat (first | refine bw8 ?_ _ | refine bw9 ?_ | refine bw6 ?_ _)); exact BK370.out) hb)
       have n3_ := Aside0.mk (bx2 (by repeat (first | (with_reducible first | exact HB.out | apply bw2 | apply bw1 | apply bw3 | refine bw4 ?_ GE369.out | refine bw4 ?_ GE370.out) | exact HB.out)) hb)
       clear BK369; clear BK370; clear HB; have HO382 := n0_; have BK369 := n1_; have BK370 := n2_; have HB := n3_; clear n0_ n1_ n2_ n3_; (try clear hb); (try clear hb2); (try clear hk); (try clear hi); (try clear ho0)
       obtain ⟨Ao60, co60, eo60⟩ := Kd.R_slice HO382.out
       (first | subst eo60 | (injection eo60 with f1_ f2_ f3_; have f4_ := f1_.symm; have f5_ := f3_.symm; clear f1_ f2_ f3_; subst f4_; subst f5_))
       refine hK.out _ _ ⟨(bw5 BK370.out 0).trans rfl, (bw5 BK370.out 1).trans rfl, (bw5 BK370.out 2).trans rfl, (bw5 BK369.out 0).trans rfl, (bw5 BK369.out 1).trans rfl, (bw5 BK369.out 2).trans rfl, (bw5 BK369.out 3).trans rfl⟩ (fun hHeld => ?_)
       clear hK K
       refine norm_ (a' := ?_) ?_ ?_
       rotate_left
       ·show Act.put _ (some 36) _ = _; simp only [Act.put, zA_, zB_, zC_, i64_w, i32_w]; rfl
       refine one_ (i := 4) (N := some 37) zb7 rfl rfl (one_of HT_.out (by kernel_rfl)) (by decide) (fun K hK => ?_)
       refine goes_ Tryz.func65 (by kernel_rfl) rfl #[.slice A1_1 l1_1.length c1_1, .slice Ao60 t380.length co60] (by rfl) rfl rfl (by (try simp only [List.map_toArray, List.map_cons, List.map_nil]); first | done | rfl | (simp only [List.length_drop, List.length_take]; rfl)) ?_
       with_reducible refine (substitution_Position_65.calls k1 _ _ l1_1 _ _ t380 false _ ?side1 ?side2 ?side3 ?side4 A49.out).mono ?_
       (case side1 => repeat (first | exact (Kd.C_below HR1_1.out HB.out) | with_reducible first | refine Kd.C_alloc ?_ _ | refine Kd.C_drewN ?_ _ | refine Kd.C_drew ?_))
       (case side2 => exact HC1_1.out)
       (case side3 => repeat (first | exact (Kd.R_reads' HO382.out).2.2 | with_reducible first | refine Kd.C_alloc ?_ _ | refine Kd.C_drewN ?_ _ | refine Kd.C_drew ?_))
       (case side4 => exact (Kd.R_reads' HO382.out).2.1)
       rintro e w' ⟨rfl, ⟨nd, rfl⟩⟩
       refine ⟨_, rfl, ?_⟩
       refine hK.out _ _ ⟨(bw5 BK370.out 0).trans rfl, (bw5 BK370.out 1).trans rfl, (bw5 BK370.out 2).trans rfl, (bw5 BK369.out 0).trans rfl, (bw5 BK369.out 1).trans rfl, (bw5 BK369.out 2).trans rfl, (bw5 BK369.out 3).trans rfl⟩ (fun hHeld => ?_)
       clear hK K
       refine norm_ (a' := ?_) ?_ ?_
       rotate_left
       ·show Act.put _ (some 37) _ = _; simp only [Act.put, zA_, zB_, zC_, i64_w, i32_w]; rfl
       refine pure_ (i := 5) (N := some 38) (v := ?_) (a' := ?_) zb8 rfl rfl (any_of HT_.out (by kernel_rfl)) (fun _ _ _ h => h) (Or.inl ⟨by rfl, ?_⟩) ?_ ?_
       rotate_left
       ·intro w'; go_simp; (with_reducible rfl)
       rotate_left
       ·simp only [Act.put, zA_, zB_, zC_, i64_w, i32_w]; rfl
       refine pure_ (i := 6) (N := some 39) (v := ?_) (a' := ?_) zb9 rfl rfl (any_of HT_.out (by kernel_rfl)) (fun _ _ _ h => h) (Or.inl ⟨by rfl, ?_⟩) ?_ ?_
       rotate_left
       ·intro w'; go_simp; (with_reducible rfl)
       rotate_left
       ·simp only [Act.put, zA_, zB_, zC_, i64_w, i32_w]; rfl
       refine pure_ (i := 7) (N := some 40) (v := undef) (a' := ?_) zb10 rfl rfl (any_of HT_.out (by kernel_rfl)) (fun _ _ _ h => h) (Or.inr ⟨by rfl, rfl⟩) ?_ ?_
       rotate_left
       ·simp only [Act.put, zA_, zB_, zC_, i64_w, i32_w]; rfl
       refine pure_ (i := 8) (N := some 41) (v := undef) (a' := ?_) #[true,true,true,true,true,true,true,true,true,false,false,false,false,false,false,false,false] rfl rfl (any_of HT_.out (by kernel_rfl)) (fun _ _ _ h => h) (Or.inr ⟨by rfl, rfl⟩) ?_ ?_
       rotate_left
       ·simp only [Act.put, zA_, zB_, zC_, i64_w, i32_w]; rfl
       refine pure_ (i := 9) (N := some 42) (v := undef) (a' := ?_) #[true,true,true,true,true,true,true,true,true,true,false,false,false,false,false,false,false] rfl rfl (any_of HT_.out (by kernel_rfl)) (fun _ _ _ h => h) (Or.inr ⟨by rfl, rfl⟩) ?_ ?_
       rotate_left
       ·simp only [Act.put, zA_, zB_, zC_, i64_w, i32_w]; rfl
       refine pure_ (i := 10) (N := some 43) (v := undef) (a' := ?_) #[true,true,true,true,true,true,true,true,true,true,true,false,false,false,false,false,false] rfl rfl (any_of HT_.out (by kernel_rfl)) (fun _ _ _ h => h) (Or.inr ⟨by rfl, rfl⟩) ?_ ?_
       rotate_left
       ·simp only [Act.put, zA_, zB_, zC_, i64_w, i32_w]; rfl
       refine pure_ (i := 11) (N := some 44) (v := undef) (a' := ?_) #[true,true,true,true,true,true,true,true,true,true,true,true,false,false,false,false,false] rfl rfl (any_of HT_.out (by kernel_rfl)) (fun _ _ _ h => h) (Or.inr ⟨by rfl, rfl⟩) ?_ ?_
       rotate_left
       ·simp only [Act.put, zA_, zB_, zC_, i64_w, i32_w]; rfl
       refine pure_ (i := 12) (N := some 45) (v := undef) (a' := ?_) zb11 rfl rfl (any_of HT_.out (by kernel_rfl)) (fun _ _ _ h => h) (Or.inr ⟨by rfl, rfl⟩) ?_ ?_
       rotate_left
       ·simp only [Act.put, zA_, zB_, zC_, i64_w, i32_w]; rfl
       refine pure_ (i := 13) (N := some 46) (v := undef) (a' := ?_) zb12 rfl rfl (any_of HT_.out (by kernel_rfl)) (fun _ _ _ h => h) (Or.inr ⟨by rfl, rfl⟩) ?_ ?_
       rotate_left
       ·simp only [Act.put, zA_, zB_, zC_, i64_w, i32_w]; rfl
       refine pure_ (i := 14) (N := some 47) (v := undef) (a' := ?_) zb13 rfl rfl (any_of HT_.out (by kernel_rfl)) (fun _ _ _ h => h) (Or.inr ⟨by rfl, rfl⟩) ?_ ?_
       rotate_left
       ·simp only [Act.put, zA_, zB_, zC_, i64_w, i32_w]; rfl
       refine pure_ (i := 15) (N := some 48) (v := undef) (a' := ?_) zb14 rfl rfl (any_of HT_.out (by kernel_rfl)) (fun _ _ _ h => h) (Or.inr ⟨by rfl, rfl⟩) ?_ ?_
       rotate_left
       ·simp only [Act.put, zA_, zB_, zC_, i64_w, i32_w]; rfl
       refine pure_ (i := 16) (N := some 49) (v := ?_) (a' := ?_) zb15 rfl rfl (any_of HT_.out (by kernel_rfl)) (fun _ _ _ h => h) (Or.inl ⟨by rfl, ?_⟩) ?_ ?_
       rotate_left
       ·intro w'; go_simp; (with_reducible rfl)
       rotate_left
       ·simp only [Act.put, zA_, zB_, zC_, i64_w, i32_w]; rfl
       refine done_ (done_of HT_.out (by kernel_rfl)) ?_
       try go_wp2
       go_meet
       case rel => exact ⟨_, (true), (by first | rfl | (simp; done) | (simp [*]; done)), H', ⟨by have := HK1.out; first | omega | exact Nat.le_refl _⟩, ⟨by (with_reducible repeat (first | refine bw8 ?_ _ | refine bw9 ?_ | refine bw6 ?_ _)); exact BK369.out⟩, ⟨by (with_reducible repeat (first | refine bw8 ?_ _ | refine bw9 ?_ | refine bw6 ?_ _)); exact BK370.out⟩, ⟨by repeat (first | (with_reducible first | exact HB.out | apply bw2 | apply bw1 | apply bw3 | refine bw4 ?_ GE369.out | refine bw4 ?_ GE370.out) | exact HB.out)⟩⟩
     case rest =>
      clear HC47
      try clear c1
      try clear p2
      try clear c3
      try clear p3
      try clear q3
      try clear hx3
      try clear c4
      try clear c5
      try clear c6
      try clear p6
      try clear c11
      try clear c11b0
      try clear c12
      try clear c13
      try clear c15
      try clear c17
      try clear c19
      try clear c31
      try clear c32
      try clear c34
      try clear p37
      try clear q37
      try clear hx37
      try clear q38
      try clear c41
      try clear c42
      try clear c44
      try clear c50
      try clear hcz33_0
      try clear hcz33_1
      try clear hcz33_2
      try clear hcz35_0
      try clear hcz35_1
      try clear hcz35_2
      try clear hcz35_3
      try clear hcz43_0
      try clear hcz43_1
      try clear hcz43_2
      try clear hcz45_0
      try clear hcz45_1
      try clear hcz45_2
      try clear hcz45_3
      try clear hfz33_0
      try clear hfz33_1
      try clear hfz33_2
      try clear hfz35_0
      try clear hfz35_1
      try clear hfz35_2
      try clear hfz35_3
      try clear hfz43_0
      try clear hfz43_1
      try clear hfz43_2
      try clear hfz45_0
      try clear hfz45_1
      try clear hfz45_2
      try clear hfz45_3
      try clear hx372_0
      try clear hx372_1
      try clear hx372_2
      try clear p372
      try clear q372
      try clear q38
      obtain ⟨kq, x49_46, rfl, HA, HJ46, BK369, BK370, HB⟩ := hcut
      cases kq with
      | zero => exact absurd HA.out (by simp [substitution_Verify.j1])
      | succ kj46 =>
       have H := HA.out
       clear HA
       simp only [substitution_Verify.j1] at H
       by_cases c61 : x49_46 = true
       ·subst c61
        have H1 : (some 17) = some r := by rw [if_pos rfl] at H; exact H
        clear H
        have H := H1
        clear H1
        obtain rfl := Option.some.inj H
        go_wp2
        go_ret
        exact ⟨by first | rfl | (simp [errW_none, errW_some] <;> rfl) | (simp [*, errW_none, errW_some] <;> rfl), by repeat (first | (with_reducible first | exact HB.out | apply bw2 | apply bw1 | apply bw3 | refine bw4 ?_ GE369.out | refine bw4 ?_ GE370.out) | exact HB.out)⟩
       ·replace c61 := Bool.eq_false_iff.mpr c61
        subst c61
        have H1 : (if a1_2 < a0_0 then (some 25) else (some 0)) = some r := by rw [if_neg (show ¬ (false = true) by decide)] at H; exact H
        clear H
        have H := H1
        clear H1
        by_cases c62 : a1_2 < a0_0
        ·rw [if_pos c62] at H
         have c62b0 : decide (a1_2 < a0_0) = true := decide_eq_true c62
         clear c62
         obtain rfl := Option.some.inj H
         have hnb63 := NB370_369.out
         have hnc63 := NB369_370.out
         have hcz64_0 : wc.cell? ⟨gb370, 0, none⟩ = some (.slice A1_0 l1_0.length c1_0) := (bw5 BK370.out 0).trans rfl
         have hcz64_1 : wc.cell? ⟨gb370, 1, none⟩ = some (.slice A1_1 l1_1.length c1_1) := (bw5 BK370.out 1).trans rfl
         have hcz64_2 : wc.cell? ⟨gb370, 2, none⟩ = some (.int .i64 a1_2) := (bw5 BK370.out 2).trans rfl
         have hfz64_0 := bw7 BK370.out 0
         have hfz64_1 := bw7 BK370.out 1
         have hfz64_2 := bw7 BK370.out 2
         have hcz65_0 : wc.cell? ⟨gb369, 0, none⟩ = some (.int .i64 a0_0) := (bw5 BK369.out 0).trans rfl
         have hcz65_1 : wc.cell? ⟨gb369, 1, none⟩ = some (.slice A0_1 l0_1.length c0_1) := (bw5 BK369.out 1).trans rfl
         have hcz65_2 : wc.cell? ⟨gb369, 2, none⟩ = some (.slice A0_2 l0_2.length c0_2) := (bw5 BK369.out 2).trans rfl
         have hcz65_3 : wc.cell? ⟨gb369, 3, none⟩ = some (.slice A0_3 l0_3.length c0_3) := (bw5 BK369.out 3).trans rfl
         have hfz65_0 := bw7 BK369.out 0
         have hfz65_1 := bw7 BK369.out 1
         have hfz65_2 := bw7 BK369.out 2
         have hfz65_3 := bw7 BK369.out 3
         go_wp2
         go_ret
         exact ⟨by first | rfl | (simp [errW_none, errW_some] <;> rfl) | (simp [*, errW_none, errW_some] <;> rfl), by repeat (first | (with_reducible first | exact HB.out | apply bw2 | apply bw1 | apply bw3 | refine bw4 ?_ GE369.out | refine bw4 ?_ GE370.out) | exact HB.out)⟩
        ·rw [if_neg c62] at H
         have c62b0 : decide (a1_2 < a0_0) = false := decide_eq_false c62
         clear c62
         obtain rfl := Option.some.inj H
         have hnb66 := NB370_369.out
         have hnc66 := NB369_370.out
         have hcz67_0 : wc.cell? ⟨gb370, 0, none⟩ = some (.slice A1_0 l1_0.length c1_0) := (bw5 BK370.out 0).trans rfl
         have hcz67_1 : wc.cell? ⟨gb370, 1, none⟩ = some (.slice A1_1 l1_1.length c1_1) := (bw5 BK370.out 1).trans rfl
         have hcz67_2 : wc.cell? ⟨gb370, 2, none⟩ = some (.int .i64 a1_2) := (bw5 BK370.out 2).trans rfl
         have hfz67_0 := bw7 BK370.out 0
         have hfz67_1 := bw7 BK370.out 1
         have hfz67_2 := bw7 BK370.out 2
         have hcz68_0 : wc.cell? ⟨gb369, 0, none⟩ = some (.int .i64 a0_0) := (bw5 BK369.out 0).trans rfl
         have hcz68_1 : wc.cell? ⟨gb369, 1, none⟩ = some (.slice A0_1 l0_1.length c0_1) := (bw5 BK369.out 1).trans rfl
         have hcz68_2 : wc.cell? ⟨gb369, 2, none⟩ = some (.slice A0_2 l0_2.length c0_2) := (bw5 BK369.out 2).trans rfl
         have hcz68_3 : wc.cell? ⟨gb369, 3, none⟩ = some (.slice A0_3 l0_3.length c0_3) := (bw5 BK369.out 3).trans rfl
         have hfz68_0 := bw7 BK369.out 0
         have hfz68_1 := bw7 BK369.out 1
         have hfz68_2 := bw7 BK369.out 2
         have hfz68_3 := bw7 BK369.out 3
         go_wp2
         go_ret
         exact ⟨by first | rfl | (simp [errW_none, errW_some] <;> rfl) | (simp [*, errW_none, errW_some] <;> rfl), by repeat (first | (with_reducible first | exact HB.out | apply bw2 | apply bw1 | apply bw3 | refine bw4 ?_ GE369.out | refine bw4 ?_ GE370.out) | exact HB.out)⟩
 ·rw [if_neg c4] at H
  have c4b0 : (t371 == 0) = false := beq_eq_false_iff_ne.mpr c4
  have c4b1 : (t371 != 0) = true := bne_iff_ne.mpr c4
  obtain rfl := Option.some.inj H
  go_enter Tryz.func25, Tryz.ntmps25
  go_wp2_with (first | ((with_reducible refine gate_dst (N := 2) rfl ?_); refine box_event ?hg (N := 2) ?hd (cs := #[.int .i64 a0_0, .slice A0_1 l0_1.length c0_1, .slice A0_2 l0_2.length c0_2, .slice A0_3 l0_3.length c0_3]) (t := 25) ?hr ?_; (case hd => rfl); (case hg => rfl); (case hr => first | (go_simp; done) | (go_simp; rfl)); intro gb369 hg w69 hbox hb; have n0_ := Aside0.mk (bx2 (by repeat (first | (with_reducible first | exact HB.out | apply bw2 | apply bw1 | apply bw3) | exact HB.out)) hb); have n1_ := Aside0.mk (hbox); have n2_ := Aside0.mk ((by rw [hg]; exact (bx3 (by repeat (first | (with_reducible first | exact HB.out | apply bw2 | apply bw1 | apply bw3) | exact HB.out))) : w.heap.size ≤ gb369)); have n3_ := Aside0.mk ((by rw [hg]; exact (bx3 (by repeat (first | (with_reducible first | exact HB.out | apply bw2 | apply bw1 | apply bw3) | exact HB.out))) : w.heap.size ≤ gb369)); clear HB; have HB := n0_; have BK369 := n1_; have GW369 := n2_; have GE369 := n3_; clear n0_ n1_ n2_ n3_; clear hb hbox hg) | ((with_reducible refine gate_dst (N := 3) rfl ?_); refine box_event ?hg (N := 3) ?hd (cs := #[.slice A1_0 l1_0.length c1_0, .slice A1_1 l1_1.length c1_1, .int .i64 a1_2]) (t := 28) ?hr ?_; (case hd => rfl); (case hg => rfl); (case hr => first | (go_simp; done) | (go_simp; rfl)); intro gb370 hg w70 hbox hb; have n0_ := Aside0.mk (bx1 (g := gb369) (o := .cells #[.int .i64 a0_0, .slice A0_1 l0_1.length c0_1, .slice A0_2 l0_2.length c0_2, .slice A0_3 l0_3.length c0_3] 25 (0, 0)) (by (with_reducible repeat (first | refine bw8 ?_ _ | refine bw9 ?_ | refine bw6 ?_ _)); exact BK369.out) hb); have n1_ := Aside0.mk (bx2 (by repeat (first | (with_reducible first | exact HB.out | apply bw2 | apply bw1 | apply bw3 | refine bw4 ?_ GE369.out) | exact HB.out)) hb); have n2_ := Aside0.mk (hbox); have n3_ := Aside0.mk ((by rw [hg]; exact (bx3 (by repeat (first | (with_reducible first | exact HB.out | apply bw2 | apply bw1 | apply bw3 | refine bw4 ?_ GE369.out) | exact HB.out))) : w.heap.size ≤ gb370)); have n4_ := Aside0.mk ((by rw [hg]; exact (bx3 (by repeat (first | (with_reducible first | exact HB.out | apply bw2 | apply bw1 | apply bw3 | refine bw4 ?_ GE369.out) | exact HB.out))) : w.heap.size ≤ gb370)); have n5_ := Aside0.mk ((by rw [hg]; exact Nat.ne_of_lt (blk_lt (g := gb369) (o := .cells #[.int .i64 a0_0, .slice A0_1 l0_1.length c0_1, .slice A0_2 l0_2.length c0_2, .slice A0_3 l0_3.length c0_3] 25 (0, 0)) (by (with_reducible repeat (first | refine bw8 ?_ _ | refine bw9 ?_ | refine bw6 ?_ _)); exact BK369.out)) : gb369 ≠ gb370)); have n6_ := Aside0.mk ((by rw [hg]; exact Nat.ne_of_gt (blk_lt (g := gb369) (o := .cells #[.int .i64 a0_0, .slice A0_1 l0_1.length c0_1, .slice A0_2 l0_2.length c0_2, .slice A0_3 l0_3.length c0_3] 25 (0, 0)) (by (with_reducible repeat (first | refine bw8 ?_ _ | refine bw9 ?_ | refine bw6 ?_ _)); exact BK369.out)) : gb370 ≠ gb369)); clear BK369; clear HB; have BK369 := n0_; have HB := n1_; have BK370 := n2_; have GW370 := n3_; have GE370 := n4_; have NB369_370 := n5_; have NB370_369 := n6_; clear n0_ n1_ n2_ n3_ n4_ n5_ n6_; clear hb hbox hg; have hnb71 := NB369_370.out; have hnc71 := NB370_369.out; have hcz72_0 : w70.cell? ⟨gb369, 0, none⟩ = some (.int .i64 a0_0) := (bw5 BK369.out 0).trans rfl; have hcz72_1 : w70.cell? ⟨gb369, 1, none⟩ = some (.slice A0_1 l0_1.length c0_1) := (bw5 BK369.out 1).trans rfl; have hcz72_2 : w70.cell? ⟨gb369, 2, none⟩ = some (.slice A0_2 l0_2.length c0_2) := (bw5 BK369.out 2).trans rfl; have hcz72_3 : w70.cell? ⟨gb369, 3, none⟩ = some (.slice A0_3 l0_3.length c0_3) := (bw5 BK369.out 3).trans rfl; have hfz72_0 := bw7 BK369.out 0; have hfz72_1 := bw7 BK369.out 1; have hfz72_2 := bw7 BK369.out 2; have hfz72_3 := bw7 BK369.out 3) | ((with_reducible refine gate_callee (f := 29) rfl ?_); refine goesL_ (some 9) rfl rfl Tryz.func29 (by kernel_rfl) rfl #[.agg #[.int .i64 a0_0, .slice A0_1 l0_1.length c0_1, .slice A0_2 l0_2.length c0_2, .slice A0_3 l0_3.length c0_3]] rfl (by (try simp only [List.map_toArray, List.map_cons, List.map_nil]); first | done | rfl | (simp only [List.length_drop, List.length_take]; rfl)) ?_; (with_reducible refine (substitution_Check.calls a0_0 _ _ l0_1 _ _ l0_2 _ _ l0_3 t371 _ ?side1 ?side2 ?side3 ?side4 ?side5 ?side6 A3.out).mono ?_); (case side1 => repeat (first | exact (Kd.C_below HR0_1.out HB.out) | with_reducible first | refine Kd.C_alloc ?_ _ | refine Kd.C_drewN ?_ _ | refine Kd.C_drew ?_)); (case side2 => exact HC0_1.out); (case side3 => repeat (first | exact (Kd.C_below HR0_2.out HB.out) | with_reducible first | refine Kd.C_alloc ?_ _ | refine Kd.C_drewN ?_ _ | refine Kd.C_drew ?_)); (case side4 => exact HC0_2.out); (case side5 => repeat (first | exact (Kd.C_below HR0_3.out HB.out) | with_reducible first | refine Kd.C_alloc ?_ _ | refine Kd.C_drewN ?_ _ | refine Kd.C_drew ?_)); (case side6 => exact HC0_3.out); rintro e w73 ⟨rfl, hb⟩; refine ⟨_, rfl, ?_⟩; have n0_ := Aside0.mk (bx1 (g := gb369) (o := .cells #[.int .i64 a0_0, .slice A0_1 l0_1.length c0_1, .slice A0_2 l0_2.length c0_2, .slice A0_3 l0_3.length c0_3] 25 (0, 0)) (by (with_reducible repeat (first | refine bw8 ?_ _ | refine bw9 ?_ | refine bw6 ?_ _)); exact BK369.out) hb); have n1_ := Aside0.mk (bx1 (g := gb370) (o := .cells #[.slice A1_0 l1_0.length c1_0, .slice A1_1 l1_1.length c1_1, .int .i64 a1_2] 28 (0, 0)) (by (with_reducible repeat (first | refine bw8 ?_ _ | refine bw9 ?_ | refine bw6 ?_ _)); exact BK370.out) hb); have n2_ := Aside0.mk (bx2 (by repeat (first | (with_reducible first | exact HB.out | apply bw2 | apply bw1 | apply bw3 | refine bw4 ?_ GE369.out | refine bw4 ?_ GE370.out) | exact HB.out)) hb); clear BK369; clear BK370; clear HB; have BK369 := n0_; have BK370 := n1_; have HB := n2_; clear n0_ n1_ n2_; (try clear hb); (try clear hb2); (try clear hk); (try clear hi)))
  go_ret
  exact ⟨by first | rfl | (simp [errW_none, errW_some] <;> rfl) | (simp [*, errW_none, errW_some] <;> rfl), by repeat (first | (with_reducible first | exact HB.out | apply bw2 | apply bw1 | apply bw3 | refine bw4 ?_ GE369.out | refine bw4 ?_ GE370.out) | exact HB.out)⟩
end Go.Proofs.YtoanlppfdniiaaaGreatDoor.Q
end
