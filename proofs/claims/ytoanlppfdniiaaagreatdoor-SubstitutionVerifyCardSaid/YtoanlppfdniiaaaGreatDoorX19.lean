/- A part of the proof; no condition. -/
import Derived.Test.YtoanlppfdniiaaaGreatDoorX1
import Derived.Test.YtoanlppfdniiaaaGreatDoorX15
import Derived.Test.YtoanlppfdniiaaaGreatDoorX18
section
namespace Go.Proofs.YtoanlppfdniiaaaGreatDoor.Q
open Go.RowKit Go.Proofs.YtoanlppfdniiaaaGreatDoorW.PrintWords Go.Proofs.YtoanlppfdniiaaaGreatDoorW.PrintLast Go.Proofs.YtoanlppfdniiaaaGreatDoorW.PrintMore
attribute [local go_sem] max2_int min2_int max_two min_two max_three min_three max_four min_four
set_option linter.unusedVariables false
set_option linter.unusedSimpArgs false
mutual
def giroref35_Check.j0 : Nat → Bool → Int → List (S109) → List ByteArray → List (S109) → Option (Int)
 | 0, _, _, _, _, _ => none
 | k + 1, x14, x168000, x168001, x168002, x168003 => if x14 = true then (some 2) else (if (x168001.length : Int) > 256 then (giroref35_Check.j1 k true x168000 x168001 x168002 x168003) else (if (x168002.length : Int) > 256 then (giroref35_Check.j1 k true x168000 x168001 x168002 x168003) else (giroref35_Check.j1 k (decide ((x168003.length : Int) > 256)) x168000 x168001 x168002 x168003)))
def giroref35_Check.j1 : Nat → Bool → Int → List (S109) → List ByteArray → List (S109) → Option (Int)
 | 0, _, _, _, _, _ => none
 | k + 1, x30, x168000, x168001, x168002, x168003 => if x30 = true then (some 8) else ((giroref35_list.f k x168001).bind fun t168 => (if t168 = 0 then ((giroref35_list.f k x168003).bind fun t169 => (if t169 = 0 then (giroref35_Check.l0 k 0 x168000 x168001 x168002 x168003) else (some t169))) else (some t168)))
def giroref35_Check.l0 : Nat → Int → Int → List (S109) → List ByteArray → List (S109) → Option (Int)
 | 0, _, _, _, _, _ => none
 | k + 1, x5, x168000, x168001, x168002, x168003 => if x5 < (x168002.length : Int) then (if 0 ≤ x5 then ((giroref35_find.f k x168001 (rdOf ByteArray.empty x168002 x5)).bind fun t171 => (if t171 < 0 then (some 9) else (giroref35_Check.l1 k x5 0 x168000 x168001 x168002 x168003))) else (none)) else ((giroref35_Sum.f k x168001).bind fun t176 => ((giroref35_Sum.f k x168003).bind fun t177 => (if (wrap64 (t176 + t177)) > 1000000000000000 then (some 12) else ((giroref35_Sum.f k x168001).bind fun t178 => (if t178 < x168000 then (some 25) else (some 0))))))
def giroref35_Check.l1 : Nat → Int → Int → Int → List (S109) → List ByteArray → List (S109) → Option (Int)
 | 0, _, _, _, _, _, _ => none
 | k + 1, x5, x6, x168000, x168001, x168002, x168003 => if x6 < x5 then (if 0 ≤ x6 then (if x6 < (x168002.length : Int) then (if 0 ≤ x5 then (if x5 < (x168002.length : Int) then (if (rdOf ByteArray.empty x168002 x6).toList = (rdOf ByteArray.empty x168002 x5).toList then (some 7) else (giroref35_Check.l1 k x5 (wrap64 (x6 + 1)) x168000 x168001 x168002 x168003)) else (none)) else (none)) else (none)) else (none)) else (if 0 ≤ x5 then (if x5 < (x168002.length : Int) then ((giroref35_find.f k x168003 (rdOf ByteArray.empty x168002 x5)).bind fun t175 => (if t175 ≥ 0 then (some 7) else (giroref35_Check.l0 k (wrap64 (x5 + 1)) x168000 x168001 x168002 x168003))) else (none)) else (none))
end
def giroref35_Check.f (k : Nat) (a0_0 : Int) (l0_1 : List (S109)) (l0_2 : List ByteArray) (l0_3 : List (S109)) : Option (Int) := if a0_0 < 0 then (giroref35_Check.j0 k true a0_0 l0_1 l0_2 l0_3) else (giroref35_Check.j0 k (decide (a0_0 > 1000000000000000)) a0_0 l0_1 l0_2 l0_3)
set_option maxHeartbeats 8000000 in
set_option maxRecDepth 100000 in
theorem giroref35_Check.calls (k : Nat) (a0_0 : Int) (A0_1 : Option Addr) (c0_1 : Nat) (l0_1 : List (S109)) (A0_2 : Option Addr) (c0_2 : Nat) (l0_2 : List ByteArray) (A0_3 : Option Addr) (c0_3 : Nat) (l0_3 : List (S109)) (r : Int) (w : World) (hr0_1 : Kd.C k109 w A0_1 l0_1.length l0_1) (hc0_1 : l0_1.length ≤ c0_1) (hr0_2 : Kd.C Kd.string w A0_2 l0_2.length l0_2) (hc0_2 : l0_2.length ≤ c0_2) (hr0_3 : Kd.C k109 w A0_3 l0_3.length l0_3) (hc0_3 : l0_3.length ≤ c0_3) (h : giroref35_Check.f k a0_0 l0_1 l0_2 l0_3 = some r) :
  Calls Tryz.prog 19 #[.agg #[.int .i64 a0_0, .slice A0_1 l0_1.length c0_1, .slice A0_2 l0_2.length c0_2, .slice A0_3 l0_3.length c0_3]] w fun e w' => e = .returned (.int .i64 r) ∧ Below w.heap.size w w' := by
 have hu49 := Tryz.underlying49
 have HR0_1 := Aside0.mk hr0_1
 have HC0_1 := Aside0.mk hc0_1
 clear hr0_1 hc0_1
 have HR0_2 := Aside0.mk hr0_2
 have HC0_2 := Aside0.mk hc0_2
 clear hr0_2 hc0_2
 have HR0_3 := Aside0.mk hr0_3
 have HC0_3 := Aside0.mk hc0_3
 clear hr0_3 hc0_3
 have HB := Aside0.mk (Below.refl w.heap.size w)
 have H : (if a0_0 < 0 then (giroref35_Check.j0 k true a0_0 l0_1 l0_2 l0_3) else (giroref35_Check.j0 k (decide (a0_0 > 1000000000000000)) a0_0 l0_1 l0_2 l0_3)) = some r := h
 clear h
 have HC2 := Aside0.mk H
 clear H
 go_enter Tryz.func19, Tryz.ntmps19
 go_upto_region 1 with (first | ((with_reducible refine gate_dst (N := 1) rfl ?_); (try (refine gate_guard (by rfl) ?_; dsimp only)); refine box_event ?hg (N := 1) ?hd (cs := #[.int .i64 a0_0, .slice A0_1 l0_1.length c0_1, .slice A0_2 l0_2.length c0_2, .slice A0_3 l0_3.length c0_3]) (t := 49) ?hr ?_; (case hd => rfl); (case hg => rfl); (case hr => first | (go_simp; done) | (go_simp; rfl)); intro gb167 hg w3 hbox hb; have n0_ := Aside0.mk (bx2 (by repeat (first | (with_reducible first | exact HB.out | apply bw2 | apply bw1 | apply bw3) | exact HB.out)) hb); have n1_ := Aside0.mk (hbox); have n2_ := Aside0.mk ((by rw [hg]; exact (bx3 (by repeat (first | (with_reducible first | exact HB.out | apply bw2 | apply bw1 | apply bw3) | exact HB.out))) : w.heap.size ≤ gb167)); have n3_ := Aside0.mk ((by rw [hg]; exact (bx3 (by repeat (first | (with_reducible first | exact HB.out | apply bw2 | apply bw1 | apply bw3) | exact HB.out))) : w.heap.size ≤ gb167)); clear HB; have HB := n0_; have BK167 := n1_; have GW167 := n2_; have GE167 := n3_; clear n0_ n1_ n2_ n3_; clear hb hbox hg))
 repeat (go_quiet (first | ((with_reducible refine gate_dst (N := 1) rfl ?_); (try (refine gate_guard (by rfl) ?_; dsimp only)); refine box_event ?hg (N := 1) ?hd (cs := #[.int .i64 a0_0, .slice A0_1 l0_1.length c0_1, .slice A0_2 l0_2.length c0_2, .slice A0_3 l0_3.length c0_3]) (t := 49) ?hr ?_; (case hd => rfl); (case hg => rfl); (case hr => first | (go_simp; done) | (go_simp; rfl)); intro gb167 hg w3 hbox hb; have n0_ := Aside0.mk (bx2 (by repeat (first | (with_reducible first | exact HB.out | apply bw2 | apply bw1 | apply bw3) | exact HB.out)) hb); have n1_ := Aside0.mk (hbox); have n2_ := Aside0.mk ((by rw [hg]; exact (bx3 (by repeat (first | (with_reducible first | exact HB.out | apply bw2 | apply bw1 | apply bw3) | exact HB.out))) : w.heap.size ≤ gb167)); have n3_ := Aside0.mk ((by rw [hg]; exact (bx3 (by repeat (first | (with_reducible first | exact HB.out | apply bw2 | apply bw1 | apply bw3) | exact HB.out))) : w.heap.size ≤ gb167)); clear HB; have HB := n0_; have BK167 := n1_; have GW167 := n2_; have GE167 := n3_; clear n0_ n1_ n2_ n3_; clear hb hbox hg)); go_upto_region 1 with (first | ((with_reducible refine gate_dst (N := 1) rfl ?_); (try (refine gate_guard (by rfl) ?_; dsimp only)); refine box_event ?hg (N := 1) ?hd (cs := #[.int .i64 a0_0, .slice A0_1 l0_1.length c0_1, .slice A0_2 l0_2.length c0_2, .slice A0_3 l0_3.length c0_3]) (t := 49) ?hr ?_; (case hd => rfl); (case hg => rfl); (case hr => first | (go_simp; done) | (go_simp; rfl)); intro gb167 hg w3 hbox hb; have n0_ := Aside0.mk (bx2 (by repeat (first | (with_reducible first | exact HB.out | apply bw2 | apply bw1 | apply bw3) | exact HB.out)) hb); have n1_ := Aside0.mk (hbox); have n2_ := Aside0.mk ((by rw [hg]; exact (bx3 (by repeat (first | (with_reducible first | exact HB.out | apply bw2 | apply bw1 | apply bw3) | exact HB.out))) : w.heap.size ≤ gb167)); have n3_ := Aside0.mk ((by rw [hg]; exact (bx3 (by repeat (first | (with_reducible first | exact HB.out | apply bw2 | apply bw1 | apply bw3) | exact HB.out))) : w.heap.size ≤ gb167)); clear HB; have HB := n0_; have BK167 := n1_; have GW167 := n2_; have GE167 := n3_; clear n0_ n1_ n2_ n3_; clear hb hbox hg)))
 (try simp only [Act.put, zA_, zB_, zC_])
 go_cut [14] (fun v14 wc => ∃ (kq : Nat) (x14_1 : Bool), v14 = .bool x14_1 ∧ Aside0 (giroref35_Check.j0 kq x14_1 a0_0 l0_1 l0_2 l0_3 = some r) ∧ Aside0 (kq ≤ k) ∧ Aside0 (wc.heap[gb167]? = some (.cells #[.int .i64 a0_0, (.slice A0_1 l0_1.length c0_1), (.slice A0_2 l0_2.length c0_2), (.slice A0_3 l0_3.length c0_3)] 49 (0, 0))) ∧ Aside0 (Below w.heap.size w wc))
 case first =>
  have H := HC2.out
  clear HC2
  by_cases c4 : a0_0 < 0
  ·rw [if_pos c4] at H
   have c4b0 : decide (a0_0 < 0) = true := decide_eq_true c4
   clear c4
   (first | rw [c4b0] | (simp only [i64_w, i32_w]; rw [c4b0]) | skip)
   have H' := Aside0.mk H
   clear H
   have hcz5_0 : w3.cell? ⟨gb167, 0, none⟩ = some (.int .i64 a0_0) := (bw5 BK167.out 0).trans rfl
   have hcz5_1 : w3.cell? ⟨gb167, 1, none⟩ = some (.slice A0_1 l0_1.length c0_1) := (bw5 BK167.out 1).trans rfl
   have hcz5_2 : w3.cell? ⟨gb167, 2, none⟩ = some (.slice A0_2 l0_2.length c0_2) := (bw5 BK167.out 2).trans rfl
   have hcz5_3 : w3.cell? ⟨gb167, 3, none⟩ = some (.slice A0_3 l0_3.length c0_3) := (bw5 BK167.out 3).trans rfl
   have hfz5_0 := bw7 BK167.out 0
   have hfz5_1 := bw7 BK167.out 1
   have hfz5_2 := bw7 BK167.out 2
   have hfz5_3 := bw7 BK167.out 3
   go_wp2
   repeat (go_quiet (fail); try go_wp2)
   go_meet
   case rel => exact ⟨_, (true), (by first | rfl | (simp; done) | (simp [*]; done)), H', ⟨by first | omega | exact Nat.le_refl _⟩, ⟨by (with_reducible repeat (first | refine bw8 ?_ _ | refine bw9 ?_ | refine bw6 ?_ _)); exact BK167.out⟩, ⟨by repeat (first | (with_reducible first | exact HB.out | apply bw2 | apply bw1 | apply bw3 | refine bw4 ?_ GE167.out) | exact HB.out)⟩⟩
  ·rw [if_neg c4] at H
   have c4b0 : decide (a0_0 < 0) = false := decide_eq_false c4
   clear c4
   (first | rw [c4b0] | (simp only [i64_w, i32_w]; rw [c4b0]) | skip)
   have H' := Aside0.mk H
   clear H
   have hcz6_0 : w3.cell? ⟨gb167, 0, none⟩ = some (.int .i64 a0_0) := (bw5 BK167.out 0).trans rfl
   have hcz6_1 : w3.cell? ⟨gb167, 1, none⟩ = some (.slice A0_1 l0_1.length c0_1) := (bw5 BK167.out 1).trans rfl
   have hcz6_2 : w3.cell? ⟨gb167, 2, none⟩ = some (.slice A0_2 l0_2.length c0_2) := (bw5 BK167.out 2).trans rfl
   have hcz6_3 : w3.cell? ⟨gb167, 3, none⟩ = some (.slice A0_3 l0_3.length c0_3) := (bw5 BK167.out 3).trans rfl
   have hfz6_0 := bw7 BK167.out 0
   have hfz6_1 := bw7 BK167.out 1
   have hfz6_2 := bw7 BK167.out 2
   have hfz6_3 := bw7 BK167.out 3
   go_wp2
   repeat (go_quiet (fail); try go_wp2)
   go_meet
   case rel => exact ⟨_, (decide (a0_0 > 1000000000000000)), (by first | rfl | (simp; done) | (simp [*]; done)), H', ⟨by first | omega | exact Nat.le_refl _⟩, ⟨by (with_reducible repeat (first | refine bw8 ?_ _ | refine bw9 ?_ | refine bw6 ?_ _)); exact BK167.out⟩, ⟨by repeat (first | (with_reducible first | exact HB.out | apply bw2 | apply bw1 | apply bw3 | refine bw4 ?_ GE167.out) | exact HB.out)⟩⟩
 case rest =>
  clear HC2
  try clear c1
  try clear p2
  try clear c4
  try clear c4b0
  try clear hcz5_0
  try clear hcz5_1
  try clear hcz5_2
  try clear hcz5_3
  try clear hcz6_0
  try clear hcz6_1
  try clear hcz6_2
  try clear hcz6_3
  try clear hfz5_0
  try clear hfz5_1
  try clear hfz5_2
  try clear hfz5_3
  try clear hfz6_0
  try clear hfz6_1
  try clear hfz6_2
  try clear hfz6_3
  obtain ⟨kq, x14_1, rfl, HA, HJ1, BK167, HB⟩ := hcut
  cases kq with
  | zero => exact absurd HA.out (by simp [giroref35_Check.j0])
  | succ kj1 =>
   have H := HA.out
   clear HA
   simp only [giroref35_Check.j0] at H
   by_cases c7 : x14_1 = true
   ·subst c7
    have H1 : (some 2) = some r := by rw [if_pos rfl] at H; exact H
    clear H
    have H := H1
    clear H1
    obtain rfl := Option.some.inj H
    go_wp2
    repeat (go_quiet (fail); try go_wp2)
    go_ret
    exact ⟨by first | rfl | (simp [errW_none, errW_some] <;> rfl) | (simp [*, errW_none, errW_some] <;> rfl), by repeat (first | (with_reducible first | exact HB.out | apply bw2 | apply bw1 | apply bw3 | refine bw4 ?_ GE167.out) | exact HB.out)⟩
   ·replace c7 := Bool.eq_false_iff.mpr c7
    subst c7
    have H1 : (if (l0_1.length : Int) > 256 then (giroref35_Check.j1 kj1 true a0_0 l0_1 l0_2 l0_3) else (if (l0_2.length : Int) > 256 then (giroref35_Check.j1 kj1 true a0_0 l0_1 l0_2 l0_3) else (giroref35_Check.j1 kj1 (decide ((l0_3.length : Int) > 256)) a0_0 l0_1 l0_2 l0_3))) = some r := by rw [if_neg (show ¬ (false = true) by decide)] at H; exact H
    clear H
    have H := H1
    clear H1
    have HC8 := Aside0.mk H
    clear H
    go_upto_region 3 with (fail)
    repeat (go_quiet (fail); go_upto_region 3 with (fail))
    go_cut [30] (fun v30 wc => ∃ (kq : Nat) (x30_7 : Bool), v30 = .bool x30_7 ∧ Aside0 (giroref35_Check.j1 kq x30_7 a0_0 l0_1 l0_2 l0_3 = some r) ∧ Aside0 (kq ≤ kj1) ∧ Aside0 (wc.heap[gb167]? = some (.cells #[.int .i64 a0_0, (.slice A0_1 l0_1.length c0_1), (.slice A0_2 l0_2.length c0_2), (.slice A0_3 l0_3.length c0_3)] 49 (0, 0))) ∧ Aside0 (Below w.heap.size w wc))
    case first =>
     have H := HC8.out
     clear HC8
     by_cases c9 : (l0_1.length : Int) > 256
     ·rw [if_pos c9] at H
      have c9b0 : decide (256 < (l0_1.length : Int)) = true := decide_eq_true c9
      have c9b1 : decide (256 < l0_1.length) = true := decide_eq_true (by omega)
      clear c9
      (first | rw [c9b0] | (simp only [i64_w, i32_w]; rw [c9b0]) | skip)
      have H' := Aside0.mk H
      clear H
      have hcz10_0 : wc.cell? ⟨gb167, 0, none⟩ = some (.int .i64 a0_0) := (bw5 BK167.out 0).trans rfl
      have hcz10_1 : wc.cell? ⟨gb167, 1, none⟩ = some (.slice A0_1 l0_1.length c0_1) := (bw5 BK167.out 1).trans rfl
      have hcz10_2 : wc.cell? ⟨gb167, 2, none⟩ = some (.slice A0_2 l0_2.length c0_2) := (bw5 BK167.out 2).trans rfl
      have hcz10_3 : wc.cell? ⟨gb167, 3, none⟩ = some (.slice A0_3 l0_3.length c0_3) := (bw5 BK167.out 3).trans rfl
      have hfz10_0 := bw7 BK167.out 0
      have hfz10_1 := bw7 BK167.out 1
      have hfz10_2 := bw7 BK167.out 2
      have hfz10_3 := bw7 BK167.out 3
      go_wp2
      repeat (go_quiet (fail); try go_wp2)
      go_meet
      case rel => exact ⟨_, (true), (by first | rfl | (simp; done) | (simp [*]; done)), H', ⟨by have := HJ1.out; first | omega | exact Nat.le_refl _⟩, ⟨by (with_reducible repeat (first | refine bw8 ?_ _ | refine bw9 ?_ | refine bw6 ?_ _)); exact BK167.out⟩, ⟨by repeat (first | (with_reducible first | exact HB.out | apply bw2 | apply bw1 | apply bw3 | refine bw4 ?_ GE167.out) | exact HB.out)⟩⟩
     ·rw [if_neg c9] at H
      have c9b0 : decide (256 < (l0_1.length : Int)) = false := decide_eq_false c9
      have c9b1 : decide (256 < l0_1.length) = false := decide_eq_false (by omega)
      clear c9
      (first | rw [c9b0] | (simp only [i64_w, i32_w]; rw [c9b0]) | skip)
      by_cases c11 : (l0_2.length : Int) > 256
      ·rw [if_pos c11] at H
       have c11b0 : decide (256 < (l0_2.length : Int)) = true := decide_eq_true c11
       have c11b1 : decide (256 < l0_2.length) = true := decide_eq_true (by omega)
       clear c11
       have H' := Aside0.mk H
       clear H
       have hcz12_0 : wc.cell? ⟨gb167, 0, none⟩ = some (.int .i64 a0_0) := (bw5 BK167.out 0).trans rfl
       have hcz12_1 : wc.cell? ⟨gb167, 1, none⟩ = some (.slice A0_1 l0_1.length c0_1) := (bw5 BK167.out 1).trans rfl
       have hcz12_2 : wc.cell? ⟨gb167, 2, none⟩ = some (.slice A0_2 l0_2.length c0_2) := (bw5 BK167.out 2).trans rfl
       have hcz12_3 : wc.cell? ⟨gb167, 3, none⟩ = some (.slice A0_3 l0_3.length c0_3) := (bw5 BK167.out 3).trans rfl
       have hfz12_0 := bw7 BK167.out 0
       have hfz12_1 := bw7 BK167.out 1
       have hfz12_2 := bw7 BK167.out 2
       have hfz12_3 := bw7 BK167.out 3
       go_wp2
       repeat (go_quiet (fail); try go_wp2)
       go_meet
       case rel => exact ⟨_, (true), (by first | rfl | (simp; done) | (simp [*]; done)), H', ⟨by have := HJ1.out; first | omega | exact Nat.le_refl _⟩, ⟨by (with_reducible repeat (first | refine bw8 ?_ _ | refine bw9 ?_ | refine bw6 ?_ _)); exact BK167.out⟩, ⟨by repeat (first | (with_reducible first | exact HB.out | apply bw2 | apply bw1 | apply bw3 | refine bw4 ?_ GE167.out) | exact HB.out)⟩⟩
      ·rw [if_neg c11] at H
       have c11b0 : decide (256 < (l0_2.length : Int)) = false := decide_eq_false c11
       have c11b1 : decide (256 < l0_2.length) = false := decide_eq_false (by omega)
       clear c11
       have H' := Aside0.mk H
       clear H
       have hcz13_0 : wc.cell? ⟨gb167, 0, none⟩ = some (.int .i64 a0_0) := (bw5 BK167.out 0).trans rfl
       have hcz13_1 : wc.cell? ⟨gb167, 1, none⟩ = some (.slice A0_1 l0_1.length c0_1) := (bw5 BK167.out 1).trans rfl
       have hcz13_2 : wc.cell? ⟨gb167, 2, none⟩ = some (.slice A0_2 l0_2.length c0_2) := (bw5 BK167.out 2).trans rfl
       have hcz13_3 : wc.cell? ⟨gb167, 3, none⟩ = some (.slice A0_3 l0_3.length c0_3) := (bw5 BK167.out 3).trans rfl
       have hfz13_0 := bw7 BK167.out 0
       have hfz13_1 := bw7 BK167.out 1
       have hfz13_2 := bw7 BK167.out 2
       have hfz13_3 := bw7 BK167.out 3
       go_wp2
       repeat (go_quiet (fail); try go_wp2)
       go_meet
       case rel => exact ⟨_, (decide ((l0_3.length : Int) > 256)), (by first | rfl | (simp; done) | (simp [*]; done)), H', ⟨by have := HJ1.out; first | omega | exact Nat.le_refl _⟩, ⟨by (with_reducible repeat (first | refine bw8 ?_ _ | refine bw9 ?_ | refine bw6 ?_ _)); exact BK167.out⟩, ⟨by repeat (first | (with_reducible first | exact HB.out | apply bw2 | apply bw1 | apply bw3 | refine bw4 ?_ GE167.out) | exact HB.out)⟩⟩
    case rest =>
     clear HC8
     try clear c1
     try clear p2
     try clear c4
     try clear c4b0
     try clear c7
     try clear c9
     try clear c9b0
     try clear c9b1
     try clear c11
     try clear c11b0
     try clear c11b1
     try clear hcz10_0
     try clear hcz10_1
     try clear hcz10_2
     try clear hcz10_3
     try clear hcz12_0
     try clear hcz12_1
     try clear hcz12_2
     try clear hcz12_3
     try clear hcz13_0
     try clear hcz13_1
     try clear hcz13_2
     try clear hcz13_3
     try clear hcz5_0
     try clear hcz5_1
     try clear hcz5_2
     try clear hcz5_3
     try clear hcz6_0
     try clear hcz6_1
     try clear hcz6_2
     try clear hcz6_3
     try clear hfz10_0
     try clear hfz10_1
     try clear hfz10_2
     try clear hfz10_3
     try clear hfz12_0
     try clear hfz12_1
     try clear hfz12_2
     try clear hfz12_3
     try clear hfz13_0
     try clear hfz13_1
     try clear hfz13_2
     try clear hfz13_3
     try clear hfz5_0
     try clear hfz5_1
     try clear hfz5_2
     try clear hfz5_3
     try clear hfz6_0
     try clear hfz6_1
     try clear hfz6_2
     try clear hfz6_3
     try clear p2
     obtain ⟨kq, x30_7, rfl, HA, HJ7, BK167, HB⟩ := hcut
     cases kq with
     | zero => exact absurd HA.out (by simp [giroref35_Check.j1])
     | succ kj7 =>
      have H := HA.out
      clear HA
      simp only [giroref35_Check.j1] at H
      by_cases c14 : x30_7 = true
      ·subst c14
       have H1 : (some 8) = some r := by rw [if_pos rfl] at H; exact H
       clear H
       have H := H1
       clear H1
       obtain rfl := Option.some.inj H
       go_wp2
       repeat (go_quiet (fail); try go_wp2)
       go_ret
       exact ⟨by first | rfl | (simp [errW_none, errW_some] <;> rfl) | (simp [*, errW_none, errW_some] <;> rfl), by repeat (first | (with_reducible first | exact HB.out | apply bw2 | apply bw1 | apply bw3 | refine bw4 ?_ GE167.out) | exact HB.out)⟩
      ·replace c14 := Bool.eq_false_iff.mpr c14
       subst c14
       have H1 : ((giroref35_list.f kj7 l0_1).bind fun t168 => (if t168 = 0 then ((giroref35_list.f kj7 l0_3).bind fun t169 => (if t169 = 0 then (giroref35_Check.l0 kj7 0 a0_0 l0_1 l0_2 l0_3) else (some t169))) else (some t168))) = some r := by rw [if_neg (show ¬ (false = true) by decide)] at H; exact H
       clear H
       have H := H1
       clear H1
       replace H := Option.bind_eq_some_iff.mp H
       obtain ⟨t168, A150, H⟩ := H
       replace H : (if t168 = 0 then ((giroref35_list.f kj7 l0_3).bind fun t169 => (if t169 = 0 then (giroref35_Check.l0 kj7 0 a0_0 l0_1 l0_2 l0_3) else (some t169))) else (some t168)) = some r := H
       have A15 := Aside0.mk A150
       clear A150
       by_cases c16 : t168 = 0
       ·rw [if_pos c16] at H
        have c16b0 : (t168 == 0) = true := beq_iff_eq.mpr c16
        have c16b1 : (t168 != 0) = false := bne_eq_false_iff_eq.mpr c16
        clear c16
        replace H := Option.bind_eq_some_iff.mp H
        obtain ⟨t169, A170, H⟩ := H
        replace H : (if t169 = 0 then (giroref35_Check.l0 kj7 0 a0_0 l0_1 l0_2 l0_3) else (some t169)) = some r := H
        have A17 := Aside0.mk A170
        clear A170
        by_cases c18 : t169 = 0
        ·rw [if_pos c18] at H
         have c18b0 : (t169 == 0) = true := beq_iff_eq.mpr c18
         have c18b1 : (t169 != 0) = false := bne_eq_false_iff_eq.mpr c18
         clear c18
         have H' := Aside0.mk H
         clear H
         have hcz19_0 : wc.cell? ⟨gb167, 0, none⟩ = some (.int .i64 a0_0) := (bw5 BK167.out 0).trans rfl
         have hcz19_1 : wc.cell? ⟨gb167, 1, none⟩ = some (.slice A0_1 l0_1.length c0_1) := (bw5 BK167.out 1).trans rfl
         have hcz19_2 : wc.cell? ⟨gb167, 2, none⟩ = some (.slice A0_2 l0_2.length c0_2) := (bw5 BK167.out 2).trans rfl
         have hcz19_3 : wc.cell? ⟨gb167, 3, none⟩ = some (.slice A0_3 l0_3.length c0_3) := (bw5 BK167.out 3).trans rfl
         have hfz19_0 := bw7 BK167.out 0
         have hfz19_1 := bw7 BK167.out 1
         have hfz19_2 := bw7 BK167.out 2
         have hfz19_3 := bw7 BK167.out 3
         go_wp2_with (first | (go_at_call 55; (with_reducible refine (giroref35_list.calls kj7 _ _ l0_1 t168 _ ?side1 ?side2 A15.out).mono ?_); (case side1 => repeat (first | exact (Kd.C_below HR0_1.out HB.out) | with_reducible first | refine Kd.C_alloc ?_ _ | refine Kd.C_drewN ?_ _ | refine Kd.C_drew ?_)); (case side2 => exact HC0_1.out); rintro e w20 ⟨rfl, hb⟩; have n0_ := Aside0.mk (bx1 (g := gb167) (o := .cells #[.int .i64 a0_0, .slice A0_1 l0_1.length c0_1, .slice A0_2 l0_2.length c0_2, .slice A0_3 l0_3.length c0_3] 49 (0, 0)) (by (with_reducible repeat (first | refine bw8 ?_ _ | refine bw9 ?_ | refine bw6 ?_ _)); exact BK167.out) hb); have n1_ := Aside0.mk (bx2 (by repeat (first | (with_reducible first | exact HB.out | apply bw2 | apply bw1 | apply bw3 | refine bw4 ?_ GE167.out) | exact HB.out)) hb); clear BK167; clear HB; have BK167 := n0_; have HB := n1_; clear n0_ n1_; (try clear hb); (try clear hb2); (try clear hk); (try clear hi); have hcz21_0 : w20.cell? ⟨gb167, 0, none⟩ = some (.int .i64 a0_0) := (bw5 BK167.out 0).trans rfl; have hcz21_1 : w20.cell? ⟨gb167, 1, none⟩ = some (.slice A0_1 l0_1.length c0_1) := (bw5 BK167.out 1).trans rfl; have hcz21_2 : w20.cell? ⟨gb167, 2, none⟩ = some (.slice A0_2 l0_2.length c0_2) := (bw5 BK167.out 2).trans rfl; have hcz21_3 : w20.cell? ⟨gb167, 3, none⟩ = some (.slice A0_3 l0_3.length c0_3) := (bw5 BK167.out 3).trans rfl; have hfz21_0 := bw7 BK167.out 0; have hfz21_1 := bw7 BK167.out 1; have hfz21_2 := bw7 BK167.out 2; have hfz21_3 := bw7 BK167.out 3) | (go_at_call 55; (with_reducible refine (giroref35_list.calls kj7 _ _ l0_3 t169 _ ?side1 ?side2 A17.out).mono ?_); (case side1 => repeat (first | exact (Kd.C_below HR0_3.out HB.out) | with_reducible first | refine Kd.C_alloc ?_ _ | refine Kd.C_drewN ?_ _ | refine Kd.C_drew ?_)); (case side2 => exact HC0_3.out); rintro e w22 ⟨rfl, hb⟩; have n0_ := Aside0.mk (bx1 (g := gb167) (o := .cells #[.int .i64 a0_0, .slice A0_1 l0_1.length c0_1, .slice A0_2 l0_2.length c0_2, .slice A0_3 l0_3.length c0_3] 49 (0, 0)) (by (with_reducible repeat (first | refine bw8 ?_ _ | refine bw9 ?_ | refine bw6 ?_ _)); exact BK167.out) hb); have n1_ := Aside0.mk (bx2 (by repeat (first | (with_reducible first | exact HB.out | apply bw2 | apply bw1 | apply bw3 | refine bw4 ?_ GE167.out) | exact HB.out)) hb); clear BK167; clear HB; have BK167 := n0_; have HB := n1_; clear n0_ n1_; (try clear hb); (try clear hb2); (try clear hk); (try clear hi)))
         repeat (go_quiet (first | (go_at_call 55; (with_reducible refine (giroref35_list.calls kj7 _ _ l0_1 t168 _ ?side1 ?side2 A15.out).mono ?_); (case side1 => repeat (first | exact (Kd.C_below HR0_1.out HB.out) | with_reducible first | refine Kd.C_alloc ?_ _ | refine Kd.C_drewN ?_ _ | refine Kd.C_drew ?_)); (case side2 => exact HC0_1.out); rintro e w20 ⟨rfl, hb⟩; have n0_ := Aside0.mk (bx1 (g := gb167) (o := .cells #[.int .i64 a0_0, .slice A0_1 l0_1.length c0_1, .slice A0_2 l0_2.length c0_2, .slice A0_3 l0_3.length c0_3] 49 (0, 0)) (by (with_reducible repeat (first | refine bw8 ?_ _ | refine bw9 ?_ | refine bw6 ?_ _)); exact BK167.out) hb); have n1_ := Aside0.mk (bx2 (by repeat (first | (with_reducible first | exact HB.out | apply bw2 | apply bw1 | apply bw3 | refine bw4 ?_ GE167.out) | exact HB.out)) hb); clear BK167; clear HB; have BK167 := n0_; have HB := n1_; clear n0_ n1_; (try clear hb); (try clear hb2); (try clear hk); (try clear hi); have hcz21_0 : w20.cell? ⟨gb167, 0, none⟩ = some (.int .i64 a0_0) := (bw5 BK167.out 0).trans rfl; have hcz21_1 : w20.cell? ⟨gb167, 1, none⟩ = some (.slice A0_1 l0_1.length c0_1) := (bw5 BK167.out 1).trans rfl; have hcz21_2 : w20.cell? ⟨gb167, 2, none⟩ = some (.slice A0_2 l0_2.length c0_2) := (bw5 BK167.out 2).trans rfl; have hcz21_3 : w20.cell? ⟨gb167, 3, none⟩ = some (.slice A0_3 l0_3.length c0_3) := (bw5 BK167.out 3).trans rfl; have hfz21_0 := bw7 BK167.out 0; have hfz21_1 := bw7 BK167.out 1; have hfz21_2 := bw7 BK167.out 2; have hfz21_3 := bw7 BK167.out 3) | (go_at_call 55; (with_reducible refine (giroref35_list.calls kj7 _ _ l0_3 t169 _ ?side1 ?side2 A17.out).mono ?_); (case side1 => repeat (first | exact (Kd.C_below HR0_3.out HB.out) | with_reducible first | refine Kd.C_alloc ?_ _ | refine Kd.C_drewN ?_ _ | refine Kd.C_drew ?_)); (case side2 => exact HC0_3.out); rintro e w22 ⟨rfl, hb⟩; have n0_ := Aside0.mk (bx1 (g := gb167) (o := .cells #[.int .i64 a0_0, .slice A0_1 l0_1.length c0_1, .slice A0_2 l0_2.length c0_2, .slice A0_3 l0_3.length c0_3] 49 (0, 0)) (by (with_reducible repeat (first | refine bw8 ?_ _ | refine bw9 ?_ | refine bw6 ?_ _)); exact BK167.out) hb); have n1_ := Aside0.mk (bx2 (by repeat (first | (with_reducible first | exact HB.out | apply bw2 | apply bw1 | apply bw3 | refine bw4 ?_ GE167.out) | exact HB.out)) hb); clear BK167; clear HB; have BK167 := n0_; have HB := n1_; clear n0_ n1_; (try clear hb); (try clear hb2); (try clear hk); (try clear hi))); try go_wp2_with (first | (go_at_call 55; (with_reducible refine (giroref35_list.calls kj7 _ _ l0_1 t168 _ ?side1 ?side2 A15.out).mono ?_); (case side1 => repeat (first | exact (Kd.C_below HR0_1.out HB.out) | with_reducible first | refine Kd.C_alloc ?_ _ | refine Kd.C_drewN ?_ _ | refine Kd.C_drew ?_)); (case side2 => exact HC0_1.out); rintro e w20 ⟨rfl, hb⟩; have n0_ := Aside0.mk (bx1 (g := gb167) (o := .cells #[.int .i64 a0_0, .slice A0_1 l0_1.length c0_1, .slice A0_2 l0_2.length c0_2, .slice A0_3 l0_3.length c0_3] 49 (0, 0)) (by (with_reducible repeat (first | refine bw8 ?_ _ | refine bw9 ?_ | refine bw6 ?_ _)); exact BK167.out) hb); have n1_ := Aside0.mk (bx2 (by repeat (first | (with_reducible first | exact HB.out | apply bw2 | apply bw1 | apply bw3 | refine bw4 ?_ GE167.out) | exact HB.out)) hb); clear BK167; clear HB; have BK167 := n0_; have HB := n1_; clear n0_ n1_; (try clear hb); (try clear hb2); (try clear hk); (try clear hi); have hcz21_0 : w20.cell? ⟨gb167, 0, none⟩ = some (.int .i64 a0_0) := (bw5 BK167.out 0).trans rfl; have hcz21_1 : w20.cell? ⟨gb167, 1, none⟩ = some (.slice A0_1 l0_1.length c0_1) := (bw5 BK167.out 1).trans rfl; have hcz21_2 : w20.cell? ⟨gb167, 2, none⟩ = some (.slice A0_2 l0_2.length c0_2) := (bw5 BK167.out 2).trans rfl; have hcz21_3 : w20.cell? ⟨gb167, 3, none⟩ = some (.slice A0_3 l0_3.length c0_3) := (bw5 BK167.out 3).trans rfl; have hfz21_0 := bw7 BK167.out 0; have hfz21_1 := bw7 BK167.out 1; have hfz21_2 := bw7 BK167.out 2; have hfz21_3 := bw7 BK167.out 3) | (go_at_call 55; (with_reducible refine (giroref35_list.calls kj7 _ _ l0_3 t169 _ ?side1 ?side2 A17.out).mono ?_); (case side1 => repeat (first | exact (Kd.C_below HR0_3.out HB.out) | with_reducible first | refine Kd.C_alloc ?_ _ | refine Kd.C_drewN ?_ _ | refine Kd.C_drew ?_)); (case side2 => exact HC0_3.out); rintro e w22 ⟨rfl, hb⟩; have n0_ := Aside0.mk (bx1 (g := gb167) (o := .cells #[.int .i64 a0_0, .slice A0_1 l0_1.length c0_1, .slice A0_2 l0_2.length c0_2, .slice A0_3 l0_3.length c0_3] 49 (0, 0)) (by (with_reducible repeat (first | refine bw8 ?_ _ | refine bw9 ?_ | refine bw6 ?_ _)); exact BK167.out) hb); have n1_ := Aside0.mk (bx2 (by repeat (first | (with_reducible first | exact HB.out | apply bw2 | apply bw1 | apply bw3 | refine bw4 ?_ GE167.out) | exact HB.out)) hb); clear BK167; clear HB; have BK167 := n0_; have HB := n1_; clear n0_ n1_; (try clear hb); (try clear hb2); (try clear hk); (try clear hi))))
         go_loopg [5] kj7 (fun kq v5 w' => ∃ (x5_3 : Int), v5 = .int .i64 x5_3 ∧ Aside0 (giroref35_Check.l0 kq x5_3 a0_0 l0_1 l0_2 l0_3 = some r) ∧ Aside0 (kq ≤ kj7) ∧ Aside0 (w'.heap[gb167]? = some (.cells #[.int .i64 a0_0, (.slice A0_1 l0_1.length c0_1), (.slice A0_2 l0_2.length c0_2), (.slice A0_3 l0_3.length c0_3)] 49 (0, 0))) ∧ Aside0 (Below w.heap.size w w'))
         case atStart => exact ⟨(0), (by first | rfl | (simp; done) | (simp [*]; done)), H', ⟨Nat.le_refl _⟩, ⟨by (with_reducible repeat (first | refine bw8 ?_ _ | refine bw9 ?_ | refine bw6 ?_ _)); exact BK167.out⟩, ⟨by repeat (first | (with_reducible first | exact HB.out | apply bw2 | apply bw1 | apply bw3 | refine bw4 ?_ GE167.out) | exact HB.out)⟩⟩
         case round =>
          clear H'
          try clear c1
          try clear p2
          try clear c4
          try clear c4b0
          try clear c7
          try clear c9
          try clear c9b0
          try clear c9b1
          try clear c11
          try clear c11b0
          try clear c11b1
          try clear c14
          try clear c16
          try clear c16b0
          try clear c16b1
          try clear c18
          try clear c18b0
          try clear c18b1
          try clear c19
          try clear hcz10_0
          try clear hcz10_1
          try clear hcz10_2
          try clear hcz10_3
          try clear hcz12_0
          try clear hcz12_1
          try clear hcz12_2
          try clear hcz12_3
          try clear hcz13_0
          try clear hcz13_1
          try clear hcz13_2
          try clear hcz13_3
          try clear hcz19_0
          try clear hcz19_1
          try clear hcz19_2
          try clear hcz19_3
          try clear hcz21_0
          try clear hcz21_1
          try clear hcz21_2
          try clear hcz21_3
          try clear hcz5_0
          try clear hcz5_1
          try clear hcz5_2
          try clear hcz5_3
          try clear hcz6_0
          try clear hcz6_1
          try clear hcz6_2
          try clear hcz6_3
          try clear hfz10_0
          try clear hfz10_1
          try clear hfz10_2
          try clear hfz10_3
          try clear hfz12_0
          try clear hfz12_1
          try clear hfz12_2
          try clear hfz12_3
          try clear hfz13_0
          try clear hfz13_1
          try clear hfz13_2
          try clear hfz13_3
          try clear hfz19_0
          try clear hfz19_1
          try clear hfz19_2
          try clear hfz19_3
          try clear hfz21_0
          try clear hfz21_1
          try clear hfz21_2
          try clear hfz21_3
          try clear hfz5_0
          try clear hfz5_1
          try clear hfz5_2
          try clear hfz5_3
          try clear hfz6_0
          try clear hfz6_1
          try clear hfz6_2
          try clear hfz6_3
          try clear p2
          obtain ⟨x5_3, rfl, HA, HK3, BK167, HB⟩ := hrel
          cases gk with
          | zero => exact absurd HA.out (by simp [giroref35_Check.l0])
          | succ k3 =>
           have H := HA.out
           clear HA
           simp only [giroref35_Check.l0] at H
           by_cases c23 : x5_3 < (l0_2.length : Int)
           ·rw [if_pos c23] at H
            have c23b0 : decide (x5_3 < (l0_2.length : Int)) = true := decide_eq_true c23
            clear c23
            by_cases c24 : 0 ≤ x5_3
            ·rw [if_pos c24] at H
             have c24b0 : decide (0 ≤ x5_3) = true := decide_eq_true c24
             clear c24
             replace H := Option.bind_eq_some_iff.mp H
             obtain ⟨t171, A250, H⟩ := H
             replace H : (if t171 < 0 then (some 9) else (giroref35_Check.l1 k3 x5_3 0 a0_0 l0_1 l0_2 l0_3)) = some r := H
             have A25 := Aside0.mk A250
             clear A250
             by_cases c26 : t171 < 0
             ·rw [if_pos c26] at H
              have c26b0 : decide (t171 < 0) = true := decide_eq_true c26
              clear c26
              obtain rfl := Option.some.inj H
              have hcz27_0 : wr.cell? ⟨gb167, 0, none⟩ = some (.int .i64 a0_0) := (bw5 BK167.out 0).trans rfl
              have hcz27_1 : wr.cell? ⟨gb167, 1, none⟩ = some (.slice A0_1 l0_1.length c0_1) := (bw5 BK167.out 1).trans rfl
              have hcz27_2 : wr.cell? ⟨gb167, 2, none⟩ = some (.slice A0_2 l0_2.length c0_2) := (bw5 BK167.out 2).trans rfl
              have hcz27_3 : wr.cell? ⟨gb167, 3, none⟩ = some (.slice A0_3 l0_3.length c0_3) := (bw5 BK167.out 3).trans rfl
              have hfz27_0 := bw7 BK167.out 0
              have hfz27_1 := bw7 BK167.out 1
              have hfz27_2 := bw7 BK167.out 2
              have hfz27_3 := bw7 BK167.out 3
              have p170 : 0 ≤ (x5_3 : Int) := of_decide_eq_true (by first | (with_reducible assumption) | assumption)
              have q170 : x5_3 < (l0_2.length : Int) := of_decide_eq_true (by first | (with_reducible assumption) | assumption)
              obtain ⟨ad170, e170, hx170_0⟩ := Kd.at_string HR0_2.out x5_3 p170 q170
              cases e170
              replace hx170_0 := (HB.out.cell (World.block_lt_of_cell? w _ hx170_0)).trans hx170_0
              replace p170 := eq_true p170
              replace q170 := eq_true q170
              go_wp2_with (first | (go_at_call 56; (with_reducible refine (giroref35_find.calls k3 _ _ l0_1 (rdOf ByteArray.empty l0_2 x5_3) t171 _ ?side1 ?side2 A25.out).mono ?_); (case side1 => repeat (first | exact (Kd.C_below HR0_1.out HB.out) | with_reducible first | refine Kd.C_alloc ?_ _ | refine Kd.C_drewN ?_ _ | refine Kd.C_drew ?_)); (case side2 => exact HC0_1.out); rintro e w' ⟨rfl, ⟨nd, rfl⟩⟩; (try first | exact ⟨rfl, _, World.drewN_drewN _ _ _⟩ | exact ⟨rfl, _, Eq.trans (World.drewN_drewN _ _ _) (congrArg (World.drewN _) (Nat.add_assoc _ _ _))⟩)))
              repeat (go_quiet (first | (go_at_call 56; (with_reducible refine (giroref35_find.calls k3 _ _ l0_1 (rdOf ByteArray.empty l0_2 x5_3) t171 _ ?side1 ?side2 A25.out).mono ?_); (case side1 => repeat (first | exact (Kd.C_below HR0_1.out HB.out) | with_reducible first | refine Kd.C_alloc ?_ _ | refine Kd.C_drewN ?_ _ | refine Kd.C_drew ?_)); (case side2 => exact HC0_1.out); rintro e w' ⟨rfl, ⟨nd, rfl⟩⟩; (try first | exact ⟨rfl, _, World.drewN_drewN _ _ _⟩ | exact ⟨rfl, _, Eq.trans (World.drewN_drewN _ _ _) (congrArg (World.drewN _) (Nat.add_assoc _ _ _))⟩))); try go_wp2_with (first | (go_at_call 56; (with_reducible refine (giroref35_find.calls k3 _ _ l0_1 (rdOf ByteArray.empty l0_2 x5_3) t171 _ ?side1 ?side2 A25.out).mono ?_); (case side1 => repeat (first | exact (Kd.C_below HR0_1.out HB.out) | with_reducible first | refine Kd.C_alloc ?_ _ | refine Kd.C_drewN ?_ _ | refine Kd.C_drew ?_)); (case side2 => exact HC0_1.out); rintro e w' ⟨rfl, ⟨nd, rfl⟩⟩; (try first | exact ⟨rfl, _, World.drewN_drewN _ _ _⟩ | exact ⟨rfl, _, Eq.trans (World.drewN_drewN _ _ _) (congrArg (World.drewN _) (Nat.add_assoc _ _ _))⟩))))
              go_ret
              exact ⟨by first | rfl | (simp [errW_none, errW_some] <;> rfl) | (simp [*, errW_none, errW_some] <;> rfl), by repeat (first | (with_reducible first | exact HB.out | apply bw2 | apply bw1 | apply bw3 | refine bw4 ?_ GE167.out) | exact HB.out)⟩
             ·rw [if_neg c26] at H
              have c26b0 : decide (t171 < 0) = false := decide_eq_false c26
              clear c26
              have H' := Aside0.mk H
              clear H
              have hcz28_0 : wr.cell? ⟨gb167, 0, none⟩ = some (.int .i64 a0_0) := (bw5 BK167.out 0).trans rfl
              have hcz28_1 : wr.cell? ⟨gb167, 1, none⟩ = some (.slice A0_1 l0_1.length c0_1) := (bw5 BK167.out 1).trans rfl
              have hcz28_2 : wr.cell? ⟨gb167, 2, none⟩ = some (.slice A0_2 l0_2.length c0_2) := (bw5 BK167.out 2).trans rfl
              have hcz28_3 : wr.cell? ⟨gb167, 3, none⟩ = some (.slice A0_3 l0_3.length c0_3) := (bw5 BK167.out 3).trans rfl
              have hfz28_0 := bw7 BK167.out 0
              have hfz28_1 := bw7 BK167.out 1
              have hfz28_2 := bw7 BK167.out 2
              have hfz28_3 := bw7 BK167.out 3
              have p170 : 0 ≤ (x5_3 : Int) := of_decide_eq_true (by first | (with_reducible assumption) | assumption)
              have q170 : x5_3 < (l0_2.length : Int) := of_decide_eq_true (by first | (with_reducible assumption) | assumption)
              obtain ⟨ad170, e170, hx170_0⟩ := Kd.at_string HR0_2.out x5_3 p170 q170
              cases e170
              replace hx170_0 := (HB.out.cell (World.block_lt_of_cell? w _ hx170_0)).trans hx170_0
              replace p170 := eq_true p170
              replace q170 := eq_true q170
              go_wp2_with (first | (go_at_call 56; (with_reducible refine (giroref35_find.calls k3 _ _ l0_1 (rdOf ByteArray.empty l0_2 x5_3) t171 _ ?side1 ?side2 A25.out).mono ?_); (case side1 => repeat (first | exact (Kd.C_below HR0_1.out HB.out) | with_reducible first | refine Kd.C_alloc ?_ _ | refine Kd.C_drewN ?_ _ | refine Kd.C_drew ?_)); (case side2 => exact HC0_1.out); rintro e w' ⟨rfl, ⟨nd, rfl⟩⟩; (try first | exact ⟨rfl, _, World.drewN_drewN _ _ _⟩ | exact ⟨rfl, _, Eq.trans (World.drewN_drewN _ _ _) (congrArg (World.drewN _) (Nat.add_assoc _ _ _))⟩)))
              repeat (go_quiet (first | (go_at_call 56; (with_reducible refine (giroref35_find.calls k3 _ _ l0_1 (rdOf ByteArray.empty l0_2 x5_3) t171 _ ?side1 ?side2 A25.out).mono ?_); (case side1 => repeat (first | exact (Kd.C_below HR0_1.out HB.out) | with_reducible first | refine Kd.C_alloc ?_ _ | refine Kd.C_drewN ?_ _ | refine Kd.C_drew ?_)); (case side2 => exact HC0_1.out); rintro e w' ⟨rfl, ⟨nd, rfl⟩⟩; (try first | exact ⟨rfl, _, World.drewN_drewN _ _ _⟩ | exact ⟨rfl, _, Eq.trans (World.drewN_drewN _ _ _) (congrArg (World.drewN _) (Nat.add_assoc _ _ _))⟩))); try go_wp2_with (first | (go_at_call 56; (with_reducible refine (giroref35_find.calls k3 _ _ l0_1 (rdOf ByteArray.empty l0_2 x5_3) t171 _ ?side1 ?side2 A25.out).mono ?_); (case side1 => repeat (first | exact (Kd.C_below HR0_1.out HB.out) | with_reducible first | refine Kd.C_alloc ?_ _ | refine Kd.C_drewN ?_ _ | refine Kd.C_drew ?_)); (case side2 => exact HC0_1.out); rintro e w' ⟨rfl, ⟨nd, rfl⟩⟩; (try first | exact ⟨rfl, _, World.drewN_drewN _ _ _⟩ | exact ⟨rfl, _, Eq.trans (World.drewN_drewN _ _ _) (congrArg (World.drewN _) (Nat.add_assoc _ _ _))⟩))))
              go_loopg [6] k3 (fun kq v6 w' => ∃ (x6_4 : Int), v6 = .int .i64 x6_4 ∧ Aside0 (giroref35_Check.l1 kq x5_3 x6_4 a0_0 l0_1 l0_2 l0_3 = some r) ∧ Aside0 (kq ≤ k3) ∧ Aside0 (w'.heap[gb167]? = some (.cells #[.int .i64 a0_0, (.slice A0_1 l0_1.length c0_1), (.slice (some ad170) l0_2.length c0_2), (.slice A0_3 l0_3.length c0_3)] 49 (0, 0))) ∧ Aside0 (Below w.heap.size w w'))
              case atStart => exact ⟨(0), (by first | rfl | (simp; done) | (simp [*]; done)), H', ⟨Nat.le_refl _⟩, ⟨by (with_reducible repeat (first | refine bw8 ?_ _ | refine bw9 ?_ | refine bw6 ?_ _)); exact BK167.out⟩, ⟨by repeat (first | (with_reducible first | exact HB.out | apply bw2 | apply bw1 | apply bw3 | refine bw4 ?_ GE167.out) | exact HB.out)⟩⟩
              case round =>
               clear H'
               try clear c1
               try clear p1
               try clear q1
               try clear hx1
               try clear c2
               try clear p2
               try clear c4
               try clear c4b0
               try clear c7
               try clear c9
               try clear c9b0
               try clear c9b1
               try clear c11
               try clear c11b0
               try clear c11b1
               try clear c14
               try clear c16
               try clear c16b0
               try clear c16b1
               try clear p17
               try clear q17
               try clear hx17
               try clear c18
               try clear c18b0
               try clear c18b1
               try clear c19
               try clear c23
               try clear c23b0
               try clear c24
               try clear c24b0
               try clear c26
               try clear c26b0
               try clear hcz10_0
               try clear hcz10_1
               try clear hcz10_2
               try clear hcz10_3
               try clear hcz12_0
               try clear hcz12_1
               try clear hcz12_2
               try clear hcz12_3
               try clear hcz13_0
               try clear hcz13_1
               try clear hcz13_2
               try clear hcz13_3
               try clear hcz19_0
               try clear hcz19_1
               try clear hcz19_2
               try clear hcz19_3
               try clear hcz21_0
               try clear hcz21_1
               try clear hcz21_2
               try clear hcz21_3
               try clear hcz27_0
               try clear hcz27_1
               try clear hcz27_2
               try clear hcz27_3
               try clear hcz28_0
               try clear hcz28_1
               try clear hcz28_2
               try clear hcz28_3
               try clear hcz5_0
               try clear hcz5_1
               try clear hcz5_2
               try clear hcz5_3
               try clear hcz6_0
               try clear hcz6_1
               try clear hcz6_2
               try clear hcz6_3
               try clear hfz10_0
               try clear hfz10_1
               try clear hfz10_2
               try clear hfz10_3
               try clear hfz12_0
               try clear hfz12_1
               try clear hfz12_2
               try clear hfz12_3
               try clear hfz13_0
               try clear hfz13_1
               try clear hfz13_2
               try clear hfz13_3
               try clear hfz19_0
               try clear hfz19_1
               try clear hfz19_2
               try clear hfz19_3
               try clear hfz21_0
               try clear hfz21_1
               try clear hfz21_2
               try clear hfz21_3
               try clear hfz27_0
               try clear hfz27_1
               try clear hfz27_2
               try clear hfz27_3
               try clear hfz28_0
               try clear hfz28_1
               try clear hfz28_2
               try clear hfz28_3
               try clear hfz5_0
               try clear hfz5_1
               try clear hfz5_2
               try clear hfz5_3
               try clear hfz6_0
               try clear hfz6_1
               try clear hfz6_2
               try clear hfz6_3
               try clear hx170_0
               try clear p170
               try clear p2
               try clear q170
               obtain ⟨x6_4, rfl, HA, HK4, BK167, HB⟩ := hrel
               cases gk with
               | zero => exact absurd HA.out (by simp [giroref35_Check.l1])
               | succ k4 =>
                have H := HA.out
                clear HA
                simp only [giroref35_Check.l1] at H
                by_cases c29 : x6_4 < x5_3
                ·rw [if_pos c29] at H
                 have c29b0 : decide (x6_4 < x5_3) = true := decide_eq_true c29
                 clear c29
                 by_cases c30 : 0 ≤ x6_4
                 ·rw [if_pos c30] at H
                  have c30b0 : decide (0 ≤ x6_4) = true := decide_eq_true c30
                  clear c30
                  by_cases c31 : x6_4 < (l0_2.length : Int)
                  ·rw [if_pos c31] at H
                   have c31b0 : decide (x6_4 < (l0_2.length : Int)) = true := decide_eq_true c31
                   clear c31
                   by_cases c32 : 0 ≤ x5_3
                   ·rw [if_pos c32] at H
                    have c32b0 : decide (0 ≤ x5_3) = true := decide_eq_true c32
                    clear c32
                    by_cases c33 : x5_3 < (l0_2.length : Int)
                    ·rw [if_pos c33] at H
                     have c33b0 : decide (x5_3 < (l0_2.length : Int)) = true := decide_eq_true c33
                     clear c33
                     by_cases c34 : (rdOf ByteArray.empty l0_2 x6_4).toList = (rdOf ByteArray.empty l0_2 x5_3).toList
                     ·rw [if_pos c34] at H
                      have c34b0 : ((rdOf ByteArray.empty l0_2 x6_4).toList == (rdOf ByteArray.empty l0_2 x5_3).toList) = true := beq_iff_eq.mpr c34
                      have c34b1 : ((rdOf ByteArray.empty l0_2 x6_4).toList != (rdOf ByteArray.empty l0_2 x5_3).toList) = false := bne_eq_false_iff_eq.mpr c34
                      clear c34
                      obtain rfl := Option.some.inj H
                      have hcz35_0 : wr.cell? ⟨gb167, 0, none⟩ = some (.int .i64 a0_0) := (bw5 BK167.out 0).trans rfl
                      have hcz35_1 : wr.cell? ⟨gb167, 1, none⟩ = some (.slice A0_1 l0_1.length c0_1) := (bw5 BK167.out 1).trans rfl
                      have hcz35_2 : wr.cell? ⟨gb167, 2, none⟩ = some (.slice (some ad170) l0_2.length c0_2) := (bw5 BK167.out 2).trans rfl
                      have hcz35_3 : wr.cell? ⟨gb167, 3, none⟩ = some (.slice A0_3 l0_3.length c0_3) := (bw5 BK167.out 3).trans rfl
                      have hfz35_0 := bw7 BK167.out 0
                      have hfz35_1 := bw7 BK167.out 1
                      have hfz35_2 := bw7 BK167.out 2
                      have hfz35_3 := bw7 BK167.out 3
                      have p172 : 0 ≤ (x6_4 : Int) := of_decide_eq_true (by first | (with_reducible assumption) | assumption)
                      have q172 : x6_4 < (l0_2.length : Int) := of_decide_eq_true (by first | (with_reducible assumption) | assumption)
                      obtain ⟨ad172, e172, hx172_0⟩ := Kd.at_string HR0_2.out x6_4 p172 q172
                      obtain rfl : ad170 = ad172 := (by injection e172)
                      replace hx172_0 := (HB.out.cell (World.block_lt_of_cell? w _ hx172_0)).trans hx172_0
                      replace p172 := eq_true p172
                      replace q172 := eq_true q172
                      have p173 : 0 ≤ (x5_3 : Int) := of_decide_eq_true (by first | (with_reducible assumption) | assumption)
                      have q173 : x5_3 < (l0_2.length : Int) := of_decide_eq_true (by first | (with_reducible assumption) | assumption)
                      obtain ⟨ad173, e173, hx173_0⟩ := Kd.at_string HR0_2.out x5_3 p173 q173
                      obtain rfl : ad170 = ad173 := (by injection e173)
                      replace hx173_0 := (HB.out.cell (World.block_lt_of_cell? w _ hx173_0)).trans hx173_0
                      replace p173 := eq_true p173
                      replace q173 := eq_true q173
                      go_wp2
                      repeat (go_quiet (fail); try go_wp2)
                      go_ret
                      exact ⟨by first | rfl | (simp [errW_none, errW_some] <;> rfl) | (simp [*, errW_none, errW_some] <;> rfl), by repeat (first | (with_reducible first | exact HB.out | apply bw2 | apply bw1 | apply bw3 | refine bw4 ?_ GE167.out) | exact HB.out)⟩
                     ·rw [if_neg c34] at H
                      have c34b0 : ((rdOf ByteArray.empty l0_2 x6_4).toList == (rdOf ByteArray.empty l0_2 x5_3).toList) = false := beq_eq_false_iff_ne.mpr c34
                      have c34b1 : ((rdOf ByteArray.empty l0_2 x6_4).toList != (rdOf ByteArray.empty l0_2 x5_3).toList) = true := bne_iff_ne.mpr c34
                      have H' := Aside0.mk H
                      clear H
                      have hcz36_0 : wr.cell? ⟨gb167, 0, none⟩ = some (.int .i64 a0_0) := (bw5 BK167.out 0).trans rfl
                      have hcz36_1 : wr.cell? ⟨gb167, 1, none⟩ = some (.slice A0_1 l0_1.length c0_1) := (bw5 BK167.out 1).trans rfl
                      have hcz36_2 : wr.cell? ⟨gb167, 2, none⟩ = some (.slice (some ad170) l0_2.length c0_2) := (bw5 BK167.out 2).trans rfl
                      have hcz36_3 : wr.cell? ⟨gb167, 3, none⟩ = some (.slice A0_3 l0_3.length c0_3) := (bw5 BK167.out 3).trans rfl
                      have hfz36_0 := bw7 BK167.out 0
                      have hfz36_1 := bw7 BK167.out 1
                      have hfz36_2 := bw7 BK167.out 2
                      have hfz36_3 := bw7 BK167.out 3
                      have p172 : 0 ≤ (x6_4 : Int) := of_decide_eq_true (by first | (with_reducible assumption) | assumption)
                      have q172 : x6_4 < (l0_2.length : Int) := of_decide_eq_true (by first | (with_reducible assumption) | assumption)
                      obtain ⟨ad172, e172, hx172_0⟩ := Kd.at_string HR0_2.out x6_4 p172 q172
                      obtain rfl : ad170 = ad172 := (by injection e172)
                      replace hx172_0 := (HB.out.cell (World.block_lt_of_cell? w _ hx172_0)).trans hx172_0
                      replace p172 := eq_true p172
                      replace q172 := eq_true q172
                      have p173 : 0 ≤ (x5_3 : Int) := of_decide_eq_true (by first | (with_reducible assumption) | assumption)
                      have q173 : x5_3 < (l0_2.length : Int) := of_decide_eq_true (by first | (with_reducible assumption) | assumption)
                      obtain ⟨ad173, e173, hx173_0⟩ := Kd.at_string HR0_2.out x5_3 p173 q173
                      obtain rfl : ad170 = ad173 := (by injection e173)
                      replace hx173_0 := (HB.out.cell (World.block_lt_of_cell? w _ hx173_0)).trans hx173_0
                      replace p173 := eq_true p173
                      replace q173 := eq_true q173
                      go_wp2
                      repeat (go_quiet (fail); try go_wp2)
                      go_roundg k4
                      case measure => have := HJ1.out; have := HJ7.out; have := HK3.out; have := HK4.out; omega
                      case rel => exact ⟨(wrap64 (x6_4 + 1)), (by first | rfl | (simp; done) | (simp [*]; done)), H', ⟨by have := HJ1.out; have := HJ7.out; have := HK3.out; have := HK4.out; omega⟩, ⟨by (with_reducible repeat (first | refine bw8 ?_ _ | refine bw9 ?_ | refine bw6 ?_ _)); exact BK167.out⟩, ⟨by repeat (first | (with_reducible first | exact HB.out | apply bw2 | apply bw1 | apply bw3 | refine bw4 ?_ GE167.out) | exact HB.out)⟩⟩
                    ·rw [if_neg c33] at H
                     exact absurd H (by simp)
                   ·rw [if_neg c32] at H
                    exact absurd H (by simp)
                  ·rw [if_neg c31] at H
                   exact absurd H (by simp)
                 ·rw [if_neg c30] at H
                  exact absurd H (by simp)
                ·rw [if_neg c29] at H
                 have c29b0 : decide (x6_4 < x5_3) = false := decide_eq_false c29
                 clear c29
                 by_cases c37 : 0 ≤ x5_3
                 ·rw [if_pos c37] at H
                  have c37b0 : decide (0 ≤ x5_3) = true := decide_eq_true c37
                  clear c37
                  by_cases c38 : x5_3 < (l0_2.length : Int)
                  ·rw [if_pos c38] at H
                   have c38b0 : decide (x5_3 < (l0_2.length : Int)) = true := decide_eq_true c38
                   clear c38
                   replace H := Option.bind_eq_some_iff.mp H
                   obtain ⟨t175, A390, H⟩ := H
                   replace H : (if t175 ≥ 0 then (some 7) else (giroref35_Check.l0 k4 (wrap64 (x5_3 + 1)) a0_0 l0_1 l0_2 l0_3)) = some r := H
                   have A39 := Aside0.mk A390
                   clear A390
                   by_cases c40 : t175 ≥ 0
                   ·rw [if_pos c40] at H
                    have c40b0 : decide (0 ≤ t175) = true := decide_eq_true c40
                    clear c40
                    obtain rfl := Option.some.inj H
                    have hcz41_0 : wr.cell? ⟨gb167, 0, none⟩ = some (.int .i64 a0_0) := (bw5 BK167.out 0).trans rfl
                    have hcz41_1 : wr.cell? ⟨gb167, 1, none⟩ = some (.slice A0_1 l0_1.length c0_1) := (bw5 BK167.out 1).trans rfl
                    have hcz41_2 : wr.cell? ⟨gb167, 2, none⟩ = some (.slice (some ad170) l0_2.length c0_2) := (bw5 BK167.out 2).trans rfl
                    have hcz41_3 : wr.cell? ⟨gb167, 3, none⟩ = some (.slice A0_3 l0_3.length c0_3) := (bw5 BK167.out 3).trans rfl
                    have hfz41_0 := bw7 BK167.out 0
                    have hfz41_1 := bw7 BK167.out 1
                    have hfz41_2 := bw7 BK167.out 2
                    have hfz41_3 := bw7 BK167.out 3
                    have p174 : 0 ≤ (x5_3 : Int) := of_decide_eq_true (by first | (with_reducible assumption) | assumption)
                    have q174 : x5_3 < (l0_2.length : Int) := of_decide_eq_true (by first | (with_reducible assumption) | assumption)
                    obtain ⟨ad174, e174, hx174_0⟩ := Kd.at_string HR0_2.out x5_3 p174 q174
                    obtain rfl : ad170 = ad174 := (by injection e174)
                    replace hx174_0 := (HB.out.cell (World.block_lt_of_cell? w _ hx174_0)).trans hx174_0
                    replace p174 := eq_true p174
                    replace q174 := eq_true q174
                    go_wp2_with (first | (go_at_call 56; (with_reducible refine (giroref35_find.calls k4 _ _ l0_3 (rdOf ByteArray.empty l0_2 x5_3) t175 _ ?side1 ?side2 A39.out).mono ?_); (case side1 => repeat (first | exact (Kd.C_below HR0_3.out HB.out) | with_reducible first | refine Kd.C_alloc ?_ _ | refine Kd.C_drewN ?_ _ | refine Kd.C_drew ?_)); (case side2 => exact HC0_3.out); rintro e w' ⟨rfl, ⟨nd, rfl⟩⟩; (try first | exact ⟨rfl, _, World.drewN_drewN _ _ _⟩ | exact ⟨rfl, _, Eq.trans (World.drewN_drewN _ _ _) (congrArg (World.drewN _) (Nat.add_assoc _ _ _))⟩)))
                    repeat (go_quiet (first | (go_at_call 56; (with_reducible refine (giroref35_find.calls k4 _ _ l0_3 (rdOf ByteArray.empty l0_2 x5_3) t175 _ ?side1 ?side2 A39.out).mono ?_); (case side1 => repeat (first | exact (Kd.C_below HR0_3.out HB.out) | with_reducible first | refine Kd.C_alloc ?_ _ | refine Kd.C_drewN ?_ _ | refine Kd.C_drew ?_)); (case side2 => exact HC0_3.out); rintro e w' ⟨rfl, ⟨nd, rfl⟩⟩; (try first | exact ⟨rfl, _, World.drewN_drewN _ _ _⟩ | exact ⟨rfl, _, Eq.trans (World.drewN_drewN _ _ _) (congrArg (World.drewN _) (Nat.add_assoc _ _ _))⟩))); try go_wp2_with (first | (go_at_call 56; (with_reducible refine (giroref35_find.calls k4 _ _ l0_3 (rdOf ByteArray.empty l0_2 x5_3) t175 _ ?side1 ?side2 A39.out).mono ?_); (case side1 => repeat (first | exact (Kd.C_below HR0_3.out HB.out) | with_reducible first | refine Kd.C_alloc ?_ _ | refine Kd.C_drewN ?_ _ | refine Kd.C_drew ?_)); (case side2 => exact HC0_3.out); rintro e w' ⟨rfl, ⟨nd, rfl⟩⟩; (try first | exact ⟨rfl, _, World.drewN_drewN _ _ _⟩ | exact ⟨rfl, _, Eq.trans (World.drewN_drewN _ _ _) (congrArg (World.drewN _) (Nat.add_assoc _ _ _))⟩))))
                    go_ret
                    exact ⟨by first | rfl | (simp [errW_none, errW_some] <;> rfl) | (simp [*, errW_none, errW_some] <;> rfl), by repeat (first | (with_reducible first | exact HB.out | apply bw2 | apply bw1 | apply bw3 | refine bw4 ?_ GE167.out) | exact HB.out)⟩
                   ·rw [if_neg c40] at H
                    have c40b0 : decide (0 ≤ t175) = false := decide_eq_false c40
                    clear c40
                    have H' := Aside0.mk H
                    clear H
                    have hcz42_0 : wr.cell? ⟨gb167, 0, none⟩ = some (.int .i64 a0_0) := (bw5 BK167.out 0).trans rfl
                    have hcz42_1 : wr.cell? ⟨gb167, 1, none⟩ = some (.slice A0_1 l0_1.length c0_1) := (bw5 BK167.out 1).trans rfl
                    have hcz42_2 : wr.cell? ⟨gb167, 2, none⟩ = some (.slice (some ad170) l0_2.length c0_2) := (bw5 BK167.out 2).trans rfl
                    have hcz42_3 : wr.cell? ⟨gb167, 3, none⟩ = some (.slice A0_3 l0_3.length c0_3) := (bw5 BK167.out 3).trans rfl
                    have hfz42_0 := bw7 BK167.out 0
                    have hfz42_1 := bw7 BK167.out 1
                    have hfz42_2 := bw7 BK167.out 2
                    have hfz42_3 := bw7 BK167.out 3
                    have p174 : 0 ≤ (x5_3 : Int) := of_decide_eq_true (by first | (with_reducible assumption) | assumption)
                    have q174 : x5_3 < (l0_2.length : Int) := of_decide_eq_true (by first | (with_reducible assumption) | assumption)
                    obtain ⟨ad174, e174, hx174_0⟩ := Kd.at_string HR0_2.out x5_3 p174 q174
                    obtain rfl : ad170 = ad174 := (by injection e174)
                    replace hx174_0 := (HB.out.cell (World.block_lt_of_cell? w _ hx174_0)).trans hx174_0
                    replace p174 := eq_true p174
                    replace q174 := eq_true q174
                    go_wp2_with (first | (go_at_call 56; (with_reducible refine (giroref35_find.calls k4 _ _ l0_3 (rdOf ByteArray.empty l0_2 x5_3) t175 _ ?side1 ?side2 A39.out).mono ?_); (case side1 => repeat (first | exact (Kd.C_below HR0_3.out HB.out) | with_reducible first | refine Kd.C_alloc ?_ _ | refine Kd.C_drewN ?_ _ | refine Kd.C_drew ?_)); (case side2 => exact HC0_3.out); rintro e w' ⟨rfl, ⟨nd, rfl⟩⟩; (try first | exact ⟨rfl, _, World.drewN_drewN _ _ _⟩ | exact ⟨rfl, _, Eq.trans (World.drewN_drewN _ _ _) (congrArg (World.drewN _) (Nat.add_assoc _ _ _))⟩)))
                    repeat (go_quiet (first | (go_at_call 56; (with_reducible refine (giroref35_find.calls k4 _ _ l0_3 (rdOf ByteArray.empty l0_2 x5_3) t175 _ ?side1 ?side2 A39.out).mono ?_); (case side1 => repeat (first | exact (Kd.C_below HR0_3.out HB.out) | with_reducible first | refine Kd.C_alloc ?_ _ | refine Kd.C_drewN ?_ _ | refine Kd.C_drew ?_)); (case side2 => exact HC0_3.out); rintro e w' ⟨rfl, ⟨nd, rfl⟩⟩; (try first | exact ⟨rfl, _, World.drewN_drewN _ _ _⟩ | exact ⟨rfl, _, Eq.trans (World.drewN_drewN _ _ _) (congrArg (World.drewN _) (Nat.add_assoc _ _ _))⟩))); try go_wp2_with (first | (go_at_call 56; (with_reducible refine (giroref35_find.calls k4 _ _ l0_3 (rdOf ByteArray.empty l0_2 x5_3) t175 _ ?side1 ?side2 A39.out).mono ?_); (case side1 => repeat (first | exact (Kd.C_below HR0_3.out HB.out) | with_reducible first | refine Kd.C_alloc ?_ _ | refine Kd.C_drewN ?_ _ | refine Kd.C_drew ?_)); (case side2 => exact HC0_3.out); rintro e w' ⟨rfl, ⟨nd, rfl⟩⟩; (try first | exact ⟨rfl, _, World.drewN_drewN _ _ _⟩ | exact ⟨rfl, _, Eq.trans (World.drewN_drewN _ _ _) (congrArg (World.drewN _) (Nat.add_assoc _ _ _))⟩))))
                    go_roundg k4
                    case measure => have := HJ1.out; have := HJ7.out; have := HK3.out; have := HK4.out; omega
                    case rel => exact ⟨(wrap64 (x5_3 + 1)), (by first | rfl | (simp; done) | (simp [*]; done)), H', ⟨by have := HJ1.out; have := HJ7.out; have := HK3.out; have := HK4.out; omega⟩, ⟨by (with_reducible repeat (first | refine bw8 ?_ _ | refine bw9 ?_ | refine bw6 ?_ _)); exact BK167.out⟩, ⟨by repeat (first | (with_reducible first | exact HB.out | apply bw2 | apply bw1 | apply bw3 | refine bw4 ?_ GE167.out) | exact HB.out)⟩⟩
                  ·rw [if_neg c38] at H
                   exact absurd H (by simp)
                 ·rw [if_neg c37] at H
                  exact absurd H (by simp)
            ·rw [if_neg c24] at H
             exact absurd H (by simp)
           ·rw [if_neg c23] at H
            have c23b0 : decide (x5_3 < (l0_2.length : Int)) = false := decide_eq_false c23
            clear c23
            replace H := Option.bind_eq_some_iff.mp H
            obtain ⟨t176, A430, H⟩ := H
            replace H : ((giroref35_Sum.f k3 l0_3).bind fun t177 => (if (wrap64 (t176 + t177)) > 1000000000000000 then (some 12) else ((giroref35_Sum.f k3 l0_1).bind fun t178 => (if t178 < a0_0 then (some 25) else (some 0))))) = some r := H
            have A43 := Aside0.mk A430
            clear A430
            replace H := Option.bind_eq_some_iff.mp H
            obtain ⟨t177, A440, H⟩ := H
            replace H : (if (wrap64 (t176 + t177)) > 1000000000000000 then (some 12) else ((giroref35_Sum.f k3 l0_1).bind fun t178 => (if t178 < a0_0 then (some 25) else (some 0)))) = some r := H
            have A44 := Aside0.mk A440
            clear A440
            by_cases c45 : (wrap64 (t176 + t177)) > 1000000000000000
            ·rw [if_pos c45] at H
             have c45b0 : decide (1000000000000000 < (wrap64 (t176 + t177))) = true := decide_eq_true c45
             clear c45
             obtain rfl := Option.some.inj H
             have hcz46_0 : wr.cell? ⟨gb167, 0, none⟩ = some (.int .i64 a0_0) := (bw5 BK167.out 0).trans rfl
             have hcz46_1 : wr.cell? ⟨gb167, 1, none⟩ = some (.slice A0_1 l0_1.length c0_1) := (bw5 BK167.out 1).trans rfl
             have hcz46_2 : wr.cell? ⟨gb167, 2, none⟩ = some (.slice A0_2 l0_2.length c0_2) := (bw5 BK167.out 2).trans rfl
             have hcz46_3 : wr.cell? ⟨gb167, 3, none⟩ = some (.slice A0_3 l0_3.length c0_3) := (bw5 BK167.out 3).trans rfl
             have hfz46_0 := bw7 BK167.out 0
             have hfz46_1 := bw7 BK167.out 1
             have hfz46_2 := bw7 BK167.out 2
             have hfz46_3 := bw7 BK167.out 3
             go_wp2_with (first | (go_at_call 57; (with_reducible refine (giroref35_Sum.calls k3 _ _ l0_1 t176 _ ?side1 ?side2 A43.out).mono ?_); (case side1 => repeat (first | exact (Kd.C_below HR0_1.out HB.out) | with_reducible first | refine Kd.C_alloc ?_ _ | refine Kd.C_drewN ?_ _ | refine Kd.C_drew ?_)); (case side2 => exact HC0_1.out); rintro e w' ⟨rfl, ⟨nd, rfl⟩⟩; (try first | exact ⟨rfl, _, World.drewN_drewN _ _ _⟩ | exact ⟨rfl, _, Eq.trans (World.drewN_drewN _ _ _) (congrArg (World.drewN _) (Nat.add_assoc _ _ _))⟩)) | (go_at_call 57; (with_reducible refine (giroref35_Sum.calls k3 _ _ l0_3 t177 _ ?side1 ?side2 A44.out).mono ?_); (case side1 => repeat (first | exact (Kd.C_below HR0_3.out (by repeat (first | (with_reducible first | exact HB.out | apply bw2 | apply bw1 | apply bw3 | refine bw4 ?_ GE167.out) | exact HB.out))) | with_reducible first | refine Kd.C_alloc ?_ _ | refine Kd.C_drewN ?_ _ | refine Kd.C_drew ?_)); (case side2 => exact HC0_3.out); rintro e w' ⟨rfl, ⟨nd, rfl⟩⟩; (try first | exact ⟨rfl, _, World.drewN_drewN _ _ _⟩ | exact ⟨rfl, _, Eq.trans (World.drewN_drewN _ _ _) (congrArg (World.drewN _) (Nat.add_assoc _ _ _))⟩)))
             repeat (go_quiet (first | (go_at_call 57; (with_reducible refine (giroref35_Sum.calls k3 _ _ l0_1 t176 _ ?side1 ?side2 A43.out).mono ?_); (case side1 => repeat (first | exact (Kd.C_below HR0_1.out HB.out) | with_reducible first | refine Kd.C_alloc ?_ _ | refine Kd.C_drewN ?_ _ | refine Kd.C_drew ?_)); (case side2 => exact HC0_1.out); rintro e w' ⟨rfl, ⟨nd, rfl⟩⟩; (try first | exact ⟨rfl, _, World.drewN_drewN _ _ _⟩ | exact ⟨rfl, _, Eq.trans (World.drewN_drewN _ _ _) (congrArg (World.drewN _) (Nat.add_assoc _ _ _))⟩)) | (go_at_call 57; (with_reducible refine (giroref35_Sum.calls k3 _ _ l0_3 t177 _ ?side1 ?side2 A44.out).mono ?_); (case side1 => repeat (first | exact (Kd.C_below HR0_3.out (by repeat (first | (with_reducible first | exact HB.out | apply bw2 | apply bw1 | apply bw3 | refine bw4 ?_ GE167.out) | exact HB.out))) | with_reducible first | refine Kd.C_alloc ?_ _ | refine Kd.C_drewN ?_ _ | refine Kd.C_drew ?_)); (case side2 => exact HC0_3.out); rintro e w' ⟨rfl, ⟨nd, rfl⟩⟩; (try first | exact ⟨rfl, _, World.drewN_drewN _ _ _⟩ | exact ⟨rfl, _, Eq.trans (World.drewN_drewN _ _ _) (congrArg (World.drewN _) (Nat.add_assoc _ _ _))⟩))); try go_wp2_with (first | (go_at_call 57; (with_reducible refine (giroref35_Sum.calls k3 _ _ l0_1 t176 _ ?side1 ?side2 A43.out).mono ?_); (case side1 => repeat (first | exact (Kd.C_below HR0_1.out HB.out) | with_reducible first | refine Kd.C_alloc ?_ _ | refine Kd.C_drewN ?_ _ | refine Kd.C_drew ?_)); (case side2 => exact HC0_1.out); rintro e w' ⟨rfl, ⟨nd, rfl⟩⟩; (try first | exact ⟨rfl, _, World.drewN_drewN _ _ _⟩ | exact ⟨rfl, _, Eq.trans (World.drewN_drewN _ _ _) (congrArg (World.drewN _) (Nat.add_assoc _ _ _))⟩)) | (go_at_call 57; (with_reducible refine (giroref35_Sum.calls k3 _ _ l0_3 t177 _ ?side1 ?side2 A44.out).mono ?_); (case side1 => repeat (first | exact (Kd.C_below HR0_3.out (by repeat (first | (with_reducible first | exact HB.out | apply bw2 | apply bw1 | apply bw3 | refine bw4 ?_ GE167.out) | exact HB.out))) | with_reducible first | refine Kd.C_alloc ?_ _ | refine Kd.C_drewN ?_ _ | refine Kd.C_drew ?_)); (case side2 => exact HC0_3.out); rintro e w' ⟨rfl, ⟨nd, rfl⟩⟩; (try first | exact ⟨rfl, _, World.drewN_drewN _ _ _⟩ | exact ⟨rfl, _, Eq.trans (World.drewN_drewN _ _ _) (congrArg (World.drewN _) (Nat.add_assoc _ _ _))⟩))))
             go_ret
             exact ⟨by first | rfl | (simp [errW_none, errW_some] <;> rfl) | (simp [*, errW_none, errW_some] <;> rfl), by repeat (first | (with_reducible first | exact HB.out | apply bw2 | apply bw1 | apply bw3 | refine bw4 ?_ GE167.out) | exact HB.out)⟩
            ·rw [if_neg c45] at H
             have c45b0 : decide (1000000000000000 < (wrap64 (t176 + t177))) = false := decide_eq_false c45
             clear c45
             replace H := Option.bind_eq_some_iff.mp H
             obtain ⟨t178, A470, H⟩ := H
             replace H : (if t178 < a0_0 then (some 25) else (some 0)) = some r := H
             have A47 := Aside0.mk A470
             clear A470
             by_cases c48 : t178 < a0_0
             ·rw [if_pos c48] at H
              have c48b0 : decide (t178 < a0_0) = true := decide_eq_true c48
              rw [show t178 = t176 from Option.some.inj (A47.out.symm.trans A43.out)] at c48b0
              clear c48
              obtain rfl := Option.some.inj H
              have hcz49_0 : wr.cell? ⟨gb167, 0, none⟩ = some (.int .i64 a0_0) := (bw5 BK167.out 0).trans rfl
              have hcz49_1 : wr.cell? ⟨gb167, 1, none⟩ = some (.slice A0_1 l0_1.length c0_1) := (bw5 BK167.out 1).trans rfl
              have hcz49_2 : wr.cell? ⟨gb167, 2, none⟩ = some (.slice A0_2 l0_2.length c0_2) := (bw5 BK167.out 2).trans rfl
              have hcz49_3 : wr.cell? ⟨gb167, 3, none⟩ = some (.slice A0_3 l0_3.length c0_3) := (bw5 BK167.out 3).trans rfl
              have hfz49_0 := bw7 BK167.out 0
              have hfz49_1 := bw7 BK167.out 1
              have hfz49_2 := bw7 BK167.out 2
              have hfz49_3 := bw7 BK167.out 3
              go_wp2_with (first | (go_at_call 57; (with_reducible refine (giroref35_Sum.calls k3 _ _ l0_1 t176 _ ?side1 ?side2 A43.out).mono ?_); (case side1 => repeat (first | exact (Kd.C_below HR0_1.out HB.out) | with_reducible first | refine Kd.C_alloc ?_ _ | refine Kd.C_drewN ?_ _ | refine Kd.C_drew ?_)); (case side2 => exact HC0_1.out); rintro e w' ⟨rfl, ⟨nd, rfl⟩⟩; (try first | exact ⟨rfl, _, World.drewN_drewN _ _ _⟩ | exact ⟨rfl, _, Eq.trans (World.drewN_drewN _ _ _) (congrArg (World.drewN _) (Nat.add_assoc _ _ _))⟩)) | (go_at_call 57; (with_reducible refine (giroref35_Sum.calls k3 _ _ l0_3 t177 _ ?side1 ?side2 A44.out).mono ?_); (case side1 => repeat (first | exact (Kd.C_below HR0_3.out (by repeat (first | (with_reducible first | exact HB.out | apply bw2 | apply bw1 | apply bw3 | refine bw4 ?_ GE167.out) | exact HB.out))) | with_reducible first | refine Kd.C_alloc ?_ _ | refine Kd.C_drewN ?_ _ | refine Kd.C_drew ?_)); (case side2 => exact HC0_3.out); rintro e w' ⟨rfl, ⟨nd, rfl⟩⟩; (try first | exact ⟨rfl, _, World.drewN_drewN _ _ _⟩ | exact ⟨rfl, _, Eq.trans (World.drewN_drewN _ _ _) (congrArg (World.drewN _) (Nat.add_assoc _ _ _))⟩)) | (go_at_call 57; (with_reducible refine (giroref35_Sum.calls k3 _ _ l0_1 t178 _ ?side1 ?side2 A47.out).mono ?_); (case side1 => repeat (first | exact (Kd.C_below HR0_1.out (by repeat (first | (with_reducible first | exact HB.out | apply bw2 | apply bw1 | apply bw3 | refine bw4 ?_ GE167.out) | exact HB.out))) | with_reducible first | refine Kd.C_alloc ?_ _ | refine Kd.C_drewN ?_ _ | refine Kd.C_drew ?_)); (case side2 => exact HC0_1.out); rintro e w' ⟨rfl, ⟨nd, rfl⟩⟩; (try first | exact ⟨rfl, _, World.drewN_drewN _ _ _⟩ | exact ⟨rfl, _, Eq.trans (World.drewN_drewN _ _ _) (congrArg (World.drewN _) (Nat.add_assoc _ _ _))⟩)))
              repeat (go_quiet (first | (go_at_call 57; (with_reducible refine (giroref35_Sum.calls k3 _ _ l0_1 t176 _ ?side1 ?side2 A43.out).mono ?_); (case side1 => repeat (first | exact (Kd.C_below HR0_1.out HB.out) | with_reducible first | refine Kd.C_alloc ?_ _ | refine Kd.C_drewN ?_ _ | refine Kd.C_drew ?_)); (case side2 => exact HC0_1.out); rintro e w' ⟨rfl, ⟨nd, rfl⟩⟩; (try first | exact ⟨rfl, _, World.drewN_drewN _ _ _⟩ | exact ⟨rfl, _, Eq.trans (World.drewN_drewN _ _ _) (congrArg (World.drewN _) (Nat.add_assoc _ _ _))⟩)) | (go_at_call 57; (with_reducible refine (giroref35_Sum.calls k3 _ _ l0_3 t177 _ ?side1 ?side2 A44.out).mono ?_); (case side1 => repeat (first | exact (Kd.C_below HR0_3.out (by repeat (first | (with_reducible first | exact HB.out | apply bw2 | apply bw1 | apply bw3 | refine bw4 ?_ GE167.out) | exact HB.out))) | with_reducible first | refine Kd.C_alloc ?_ _ | refine Kd.C_drewN ?_ _ | refine Kd.C_drew ?_)); (case side2 => exact HC0_3.out); rintro e w' ⟨rfl, ⟨nd, rfl⟩⟩; (try first | exact ⟨rfl, _, World.drewN_drewN _ _ _⟩ | exact ⟨rfl, _, Eq.trans (World.drewN_drewN _ _ _) (congrArg (World.drewN _) (Nat.add_assoc _ _ _))⟩)) | (go_at_call 57; (with_reducible refine (giroref35_Sum.calls k3 _ _ l0_1 t178 _ ?side1 ?side2 A47.out).mono ?_); (case side1 => repeat (first | exact (Kd.C_below HR0_1.out (by repeat (first | (with_reducible first | exact HB.out | apply bw2 | apply bw1 | apply bw3 | refine bw4 ?_ GE167.out) | exact HB.out))) | with_reducible first | refine Kd.C_alloc ?_ _ | refine Kd.C_drewN ?_ _ | refine Kd.C_drew ?_)); (case side2 => exact HC0_1.out); rintro e w' ⟨rfl, ⟨nd, rfl⟩⟩; (try first | exact ⟨rfl, _, World.drewN_drewN _ _ _⟩ | exact ⟨rfl, _, Eq.trans (World.drewN_drewN _ _ _) (congrArg (World.drewN _) (Nat.add_assoc _ _ _))⟩))); try go_wp2_with (first | (go_at_call 57; (with_reducible refine (giroref35_Sum.calls k3 _ _ l0_1 t176 _ ?side1 ?side2 A43.out).mono ?_); (case side1 => repeat (first | exact (Kd.C_below HR0_1.out HB.out) | with_reducible first | refine Kd.C_alloc ?_ _ | refine Kd.C_drewN ?_ _ | refine Kd.C_drew ?_)); (case side2 => exact HC0_1.out); rintro e w' ⟨rfl, ⟨nd, rfl⟩⟩; (try first | exact ⟨rfl, _, World.drewN_drewN _ _ _⟩ | exact ⟨rfl, _, Eq.trans (World.drewN_drewN _ _ _) (congrArg (World.drewN _) (Nat.add_assoc _ _ _))⟩)) | (go_at_call 57; (with_reducible refine (giroref35_Sum.calls k3 _ _ l0_3 t177 _ ?side1 ?side2 A44.out).mono ?_); (case side1 => repeat (first | exact (Kd.C_below HR0_3.out (by repeat (first | (with_reducible first | exact HB.out | apply bw2 | apply bw1 | apply bw3 | refine bw4 ?_ GE167.out) | exact HB.out))) | with_reducible first | refine Kd.C_alloc ?_ _ | refine Kd.C_drewN ?_ _ | refine Kd.C_drew ?_)); (case side2 => exact HC0_3.out); rintro e w' ⟨rfl, ⟨nd, rfl⟩⟩; (try first | exact ⟨rfl, _, World.drewN_drewN _ _ _⟩ | exact ⟨rfl, _, Eq.trans (World.drewN_drewN _ _ _) (congrArg (World.drewN _) (Nat.add_assoc _ _ _))⟩)) | (go_at_call 57; (with_reducible refine (giroref35_Sum.calls k3 _ _ l0_1 t178 _ ?side1 ?side2 A47.out).mono ?_); (case side1 => repeat (first | exact (Kd.C_below HR0_1.out (by repeat (first | (with_reducible first | exact HB.out | apply bw2 | apply bw1 | apply bw3 | refine bw4 ?_ GE167.out) | exact HB.out))) | with_reducible first | refine Kd.C_alloc ?_ _ | refine Kd.C_drewN ?_ _ | refine Kd.C_drew ?_)); (case side2 => exact HC0_1.out); rintro e w' ⟨rfl, ⟨nd, rfl⟩⟩; (try first | exact ⟨rfl, _, World.drewN_drewN _ _ _⟩ | exact ⟨rfl, _, Eq.trans (World.drewN_drewN _ _ _) (congrArg (World.drewN _) (Nat.add_assoc _ _ _))⟩))))
              go_ret
              exact ⟨by first | rfl | (simp [errW_none, errW_some] <;> rfl) | (simp [*, errW_none, errW_some] <;> rfl), by repeat (first | (with_reducible first | exact HB.out | apply bw2 | apply bw1 | apply bw3 | refine bw4 ?_ GE167.out) | exact HB.out)⟩
             ·rw [if_neg c48] at H
              have c48b0 : decide (t178 < a0_0) = false := decide_eq_false c48
              rw [show t178 = t176 from Option.some.inj (A47.out.symm.trans A43.out)] at c48b0
              clear c48
              obtain rfl := Option.some.inj H
              have hcz50_0 : wr.cell? ⟨gb167, 0, none⟩ = some (.int .i64 a0_0) := (bw5 BK167.out 0).trans rfl
              have hcz50_1 : wr.cell? ⟨gb167, 1, none⟩ = some (.slice A0_1 l0_1.length c0_1) := (bw5 BK167.out 1).trans rfl
              have hcz50_2 : wr.cell? ⟨gb167, 2, none⟩ = some (.slice A0_2 l0_2.length c0_2) := (bw5 BK167.out 2).trans rfl
              have hcz50_3 : wr.cell? ⟨gb167, 3, none⟩ = some (.slice A0_3 l0_3.length c0_3) := (bw5 BK167.out 3).trans rfl
              have hfz50_0 := bw7 BK167.out 0
              have hfz50_1 := bw7 BK167.out 1
              have hfz50_2 := bw7 BK167.out 2
              have hfz50_3 := bw7 BK167.out 3
              go_wp2_with (first | (go_at_call 57; (with_reducible refine (giroref35_Sum.calls k3 _ _ l0_1 t176 _ ?side1 ?side2 A43.out).mono ?_); (case side1 => repeat (first | exact (Kd.C_below HR0_1.out HB.out) | with_reducible first | refine Kd.C_alloc ?_ _ | refine Kd.C_drewN ?_ _ | refine Kd.C_drew ?_)); (case side2 => exact HC0_1.out); rintro e w' ⟨rfl, ⟨nd, rfl⟩⟩; (try first | exact ⟨rfl, _, World.drewN_drewN _ _ _⟩ | exact ⟨rfl, _, Eq.trans (World.drewN_drewN _ _ _) (congrArg (World.drewN _) (Nat.add_assoc _ _ _))⟩)) | (go_at_call 57; (with_reducible refine (giroref35_Sum.calls k3 _ _ l0_3 t177 _ ?side1 ?side2 A44.out).mono ?_); (case side1 => repeat (first | exact (Kd.C_below HR0_3.out (by repeat (first | (with_reducible first | exact HB.out | apply bw2 | apply bw1 | apply bw3 | refine bw4 ?_ GE167.out) | exact HB.out))) | with_reducible first | refine Kd.C_alloc ?_ _ | refine Kd.C_drewN ?_ _ | refine Kd.C_drew ?_)); (case side2 => exact HC0_3.out); rintro e w' ⟨rfl, ⟨nd, rfl⟩⟩; (try first | exact ⟨rfl, _, World.drewN_drewN _ _ _⟩ | exact ⟨rfl, _, Eq.trans (World.drewN_drewN _ _ _) (congrArg (World.drewN _) (Nat.add_assoc _ _ _))⟩)) | (go_at_call 57; (with_reducible refine (giroref35_Sum.calls k3 _ _ l0_1 t178 _ ?side1 ?side2 A47.out).mono ?_); (case side1 => repeat (first | exact (Kd.C_below HR0_1.out (by repeat (first | (with_reducible first | exact HB.out | apply bw2 | apply bw1 | apply bw3 | refine bw4 ?_ GE167.out) | exact HB.out))) | with_reducible first | refine Kd.C_alloc ?_ _ | refine Kd.C_drewN ?_ _ | refine Kd.C_drew ?_)); (case side2 => exact HC0_1.out); rintro e w' ⟨rfl, ⟨nd, rfl⟩⟩; (try first | exact ⟨rfl, _, World.drewN_drewN _ _ _⟩ | exact ⟨rfl, _, Eq.trans (World.drewN_drewN _ _ _) (congrArg (World.drewN _) (Nat.add_assoc _ _ _))⟩)))
              repeat (go_quiet (first | (go_at_call 57; (with_reducible refine (giroref35_Sum.calls k3 _ _ l0_1 t176 _ ?side1 ?side2 A43.out).mono ?_); (case side1 => repeat (first | exact (Kd.C_below HR0_1.out HB.out) | with_reducible first | refine Kd.C_alloc ?_ _ | refine Kd.C_drewN ?_ _ | refine Kd.C_drew ?_)); (case side2 => exact HC0_1.out); rintro e w' ⟨rfl, ⟨nd, rfl⟩⟩; (try first | exact ⟨rfl, _, World.drewN_drewN _ _ _⟩ | exact ⟨rfl, _, Eq.trans (World.drewN_drewN _ _ _) (congrArg (World.drewN _) (Nat.add_assoc _ _ _))⟩)) | (go_at_call 57; (with_reducible refine (giroref35_Sum.calls k3 _ _ l0_3 t177 _ ?side1 ?side2 A44.out).mono ?_); (case side1 => repeat (first | exact (Kd.C_below HR0_3.out (by repeat (first | (with_reducible first | exact HB.out | apply bw2 | apply bw1 | apply bw3 | refine bw4 ?_ GE167.out) | exact HB.out))) | with_reducible first | refine Kd.C_alloc ?_ _ | refine Kd.C_drewN ?_ _ | refine Kd.C_drew ?_)); (case side2 => exact HC0_3.out); rintro e w' ⟨rfl, ⟨nd, rfl⟩⟩; (try first | exact ⟨rfl, _, World.drewN_drewN _ _ _⟩ | exact ⟨rfl, _, Eq.trans (World.drewN_drewN _ _ _) (congrArg (World.drewN _) (Nat.add_assoc _ _ _))⟩)) | (go_at_call 57; (with_reducible refine (giroref35_Sum.calls k3 _ _ l0_1 t178 _ ?side1 ?side2 A47.out).mono ?_); (case side1 => repeat (first | exact (Kd.C_below HR0_1.out (by repeat (first | (with_reducible first | exact HB.out | apply bw2 | apply bw1 | apply bw3 | refine bw4 ?_ GE167.out) | exact HB.out))) | with_reducible first | refine Kd.C_alloc ?_ _ | refine Kd.C_drewN ?_ _ | refine Kd.C_drew ?_)); (case side2 => exact HC0_1.out); rintro e w' ⟨rfl, ⟨nd, rfl⟩⟩; (try first | exact ⟨rfl, _, World.drewN_drewN _ _ _⟩ | exact ⟨rfl, _, Eq.trans (World.drewN_drewN _ _ _) (congrArg (World.drewN _) (Nat.add_assoc _ _ _))⟩))); try go_wp2_with (first | (go_at_call 57; (with_reducible refine (giroref35_Sum.calls k3 _ _ l0_1 t176 _ ?side1 ?side2 A43.out).mono ?_); (case side1 => repeat (first | exact (Kd.C_below HR0_1.out HB.out) | with_reducible first | refine Kd.C_alloc ?_ _ | refine Kd.C_drewN ?_ _ | refine Kd.C_drew ?_)); (case side2 => exact HC0_1.out); rintro e w' ⟨rfl, ⟨nd, rfl⟩⟩; (try first | exact ⟨rfl, _, World.drewN_drewN _ _ _⟩ | exact ⟨rfl, _, Eq.trans (World.drewN_drewN _ _ _) (congrArg (World.drewN _) (Nat.add_assoc _ _ _))⟩)) | (go_at_call 57; (with_reducible refine (giroref35_Sum.calls k3 _ _ l0_3 t177 _ ?side1 ?side2 A44.out).mono ?_); (case side1 => repeat (first | exact (Kd.C_below HR0_3.out (by repeat (first | (with_reducible first | exact HB.out | apply bw2 | apply bw1 | apply bw3 | refine bw4 ?_ GE167.out) | exact HB.out))) | with_reducible first | refine Kd.C_alloc ?_ _ | refine Kd.C_drewN ?_ _ | refine Kd.C_drew ?_)); (case side2 => exact HC0_3.out); rintro e w' ⟨rfl, ⟨nd, rfl⟩⟩; (try first | exact ⟨rfl, _, World.drewN_drewN _ _ _⟩ | exact ⟨rfl, _, Eq.trans (World.drewN_drewN _ _ _) (congrArg (World.drewN _) (Nat.add_assoc _ _ _))⟩)) | (go_at_call 57; (with_reducible refine (giroref35_Sum.calls k3 _ _ l0_1 t178 _ ?side1 ?side2 A47.out).mono ?_); (case side1 => repeat (first | exact (Kd.C_below HR0_1.out (by repeat (first | (with_reducible first | exact HB.out | apply bw2 | apply bw1 | apply bw3 | refine bw4 ?_ GE167.out) | exact HB.out))) | with_reducible first | refine Kd.C_alloc ?_ _ | refine Kd.C_drewN ?_ _ | refine Kd.C_drew ?_)); (case side2 => exact HC0_1.out); rintro e w' ⟨rfl, ⟨nd, rfl⟩⟩; (try first | exact ⟨rfl, _, World.drewN_drewN _ _ _⟩ | exact ⟨rfl, _, Eq.trans (World.drewN_drewN _ _ _) (congrArg (World.drewN _) (Nat.add_assoc _ _ _))⟩))))
              go_ret
              exact ⟨by first | rfl | (simp [errW_none, errW_some] <;> rfl) | (simp [*, errW_none, errW_some] <;> rfl), by repeat (first | (with_reducible first | exact HB.out | apply bw2 | apply bw1 | apply bw3 | refine bw4 ?_ GE167.out) | exact HB.out)⟩
        ·rw [if_neg c18] at H
         have c18b0 : (t169 == 0) = false := beq_eq_false_iff_ne.mpr c18
         have c18b1 : (t169 != 0) = true := bne_iff_ne.mpr c18
         obtain rfl := Option.some.inj H
         have hcz51_0 : wc.cell? ⟨gb167, 0, none⟩ = some (.int .i64 a0_0) := (bw5 BK167.out 0).trans rfl
         have hcz51_1 : wc.cell? ⟨gb167, 1, none⟩ = some (.slice A0_1 l0_1.length c0_1) := (bw5 BK167.out 1).trans rfl
         have hcz51_2 : wc.cell? ⟨gb167, 2, none⟩ = some (.slice A0_2 l0_2.length c0_2) := (bw5 BK167.out 2).trans rfl
         have hcz51_3 : wc.cell? ⟨gb167, 3, none⟩ = some (.slice A0_3 l0_3.length c0_3) := (bw5 BK167.out 3).trans rfl
         have hfz51_0 := bw7 BK167.out 0
         have hfz51_1 := bw7 BK167.out 1
         have hfz51_2 := bw7 BK167.out 2
         have hfz51_3 := bw7 BK167.out 3
         go_wp2_with (first | (go_at_call 55; (with_reducible refine (giroref35_list.calls kj7 _ _ l0_1 t168 _ ?side1 ?side2 A15.out).mono ?_); (case side1 => repeat (first | exact (Kd.C_below HR0_1.out HB.out) | with_reducible first | refine Kd.C_alloc ?_ _ | refine Kd.C_drewN ?_ _ | refine Kd.C_drew ?_)); (case side2 => exact HC0_1.out); rintro e w52 ⟨rfl, hb⟩; have n0_ := Aside0.mk (bx1 (g := gb167) (o := .cells #[.int .i64 a0_0, .slice A0_1 l0_1.length c0_1, .slice A0_2 l0_2.length c0_2, .slice A0_3 l0_3.length c0_3] 49 (0, 0)) (by (with_reducible repeat (first | refine bw8 ?_ _ | refine bw9 ?_ | refine bw6 ?_ _)); exact BK167.out) hb); have n1_ := Aside0.mk (bx2 (by repeat (first | (with_reducible first | exact HB.out | apply bw2 | apply bw1 | apply bw3 | refine bw4 ?_ GE167.out) | exact HB.out)) hb); clear BK167; clear HB; have BK167 := n0_; have HB := n1_; clear n0_ n1_; (try clear hb); (try clear hb2); (try clear hk); (try clear hi); have hcz53_0 : w52.cell? ⟨gb167, 0, none⟩ = some (.int .i64 a0_0) := (bw5 BK167.out 0).trans rfl; have hcz53_1 : w52.cell? ⟨gb167, 1, none⟩ = some (.slice A0_1 l0_1.length c0_1) := (bw5 BK167.out 1).trans rfl; have hcz53_2 : w52.cell? ⟨gb167, 2, none⟩ = some (.slice A0_2 l0_2.length c0_2) := (bw5 BK167.out 2).trans rfl; have hcz53_3 : w52.cell? ⟨gb167, 3, none⟩ = some (.slice A0_3 l0_3.length c0_3) := (bw5 BK167.out 3).trans rfl; have hfz53_0 := bw7 BK167.out 0; have hfz53_1 := bw7 BK167.out 1; have hfz53_2 := bw7 BK167.out 2; have hfz53_3 := bw7 BK167.out 3) | (go_at_call 55; (with_reducible refine (giroref35_list.calls kj7 _ _ l0_3 t169 _ ?side1 ?side2 A17.out).mono ?_); (case side1 => repeat (first | exact (Kd.C_below HR0_3.out HB.out) | with_reducible first | refine Kd.C_alloc ?_ _ | refine Kd.C_drewN ?_ _ | refine Kd.C_drew ?_)); (case side2 => exact HC0_3.out); rintro e w54 ⟨rfl, hb⟩; have n0_ := Aside0.mk (bx1 (g := gb167) (o := .cells #[.int .i64 a0_0, .slice A0_1 l0_1.length c0_1, .slice A0_2 l0_2.length c0_2, .slice A0_3 l0_3.length c0_3] 49 (0, 0)) (by (with_reducible repeat (first | refine bw8 ?_ _ | refine bw9 ?_ | refine bw6 ?_ _)); exact BK167.out) hb); have n1_ := Aside0.mk (bx2 (by repeat (first | (with_reducible first | exact HB.out | apply bw2 | apply bw1 | apply bw3 | refine bw4 ?_ GE167.out) | exact HB.out)) hb); clear BK167; clear HB; have BK167 := n0_; have HB := n1_; clear n0_ n1_; (try clear hb); (try clear hb2); (try clear hk); (try clear hi)))
         repeat (go_quiet (first | (go_at_call 55; (with_reducible refine (giroref35_list.calls kj7 _ _ l0_1 t168 _ ?side1 ?side2 A15.out).mono ?_); (case side1 => repeat (first | exact (Kd.C_below HR0_1.out HB.out) | with_reducible first | refine Kd.C_alloc ?_ _ | refine Kd.C_drewN ?_ _ | refine Kd.C_drew ?_)); (case side2 => exact HC0_1.out); rintro e w52 ⟨rfl, hb⟩; have n0_ := Aside0.mk (bx1 (g := gb167) (o := .cells #[.int .i64 a0_0, .slice A0_1 l0_1.length c0_1, .slice A0_2 l0_2.length c0_2, .slice A0_3 l0_3.length c0_3] 49 (0, 0)) (by (with_reducible repeat (first | refine bw8 ?_ _ | refine bw9 ?_ | refine bw6 ?_ _)); exact BK167.out) hb); have n1_ := Aside0.mk (bx2 (by repeat (first | (with_reducible first | exact HB.out | apply bw2 | apply bw1 | apply bw3 | refine bw4 ?_ GE167.out) | exact HB.out)) hb); clear BK167; clear HB; have BK167 := n0_; have HB := n1_; clear n0_ n1_; (try clear hb); (try clear hb2); (try clear hk); (try clear hi); have hcz53_0 : w52.cell? ⟨gb167, 0, none⟩ = some (.int .i64 a0_0) := (bw5 BK167.out 0).trans rfl; have hcz53_1 : w52.cell? ⟨gb167, 1, none⟩ = some (.slice A0_1 l0_1.length c0_1) := (bw5 BK167.out 1).trans rfl; have hcz53_2 : w52.cell? ⟨gb167, 2, none⟩ = some (.slice A0_2 l0_2.length c0_2) := (bw5 BK167.out 2).trans rfl; have hcz53_3 : w52.cell? ⟨gb167, 3, none⟩ = some (.slice A0_3 l0_3.length c0_3) := (bw5 BK167.out 3).trans rfl; have hfz53_0 := bw7 BK167.out 0; have hfz53_1 := bw7 BK167.out 1; have hfz53_2 := bw7 BK167.out 2; have hfz53_3 := bw7 BK167.out 3) | (go_at_call 55; (with_reducible refine (giroref35_list.calls kj7 _ _ l0_3 t169 _ ?side1 ?side2 A17.out).mono ?_); (case side1 => repeat (first | exact (Kd.C_below HR0_3.out HB.out) | with_reducible first | refine Kd.C_alloc ?_ _ | refine Kd.C_drewN ?_ _ | refine Kd.C_drew ?_)); (case side2 => exact HC0_3.out); rintro e w54 ⟨rfl, hb⟩; have n0_ := Aside0.mk (bx1 (g := gb167) (o := .cells #[.int .i64 a0_0, .slice A0_1 l0_1.length c0_1, .slice A0_2 l0_2.length c0_2, .slice A0_3 l0_3.length c0_3] 49 (0, 0)) (by (with_reducible repeat (first | refine bw8 ?_ _ | refine bw9 ?_ | refine bw6 ?_ _)); exact BK167.out) hb); have n1_ := Aside0.mk (bx2 (by repeat (first | (with_reducible first | exact HB.out | apply bw2 | apply bw1 | apply bw3 | refine bw4 ?_ GE167.out) | exact HB.out)) hb); clear BK167; clear HB; have BK167 := n0_; have HB := n1_; clear n0_ n1_; (try clear hb); (try clear hb2); (try clear hk); (try clear hi))); try go_wp2_with (first | (go_at_call 55; (with_reducible refine (giroref35_list.calls kj7 _ _ l0_1 t168 _ ?side1 ?side2 A15.out).mono ?_); (case side1 => repeat (first | exact (Kd.C_below HR0_1.out HB.out) | with_reducible first | refine Kd.C_alloc ?_ _ | refine Kd.C_drewN ?_ _ | refine Kd.C_drew ?_)); (case side2 => exact HC0_1.out); rintro e w52 ⟨rfl, hb⟩; have n0_ := Aside0.mk (bx1 (g := gb167) (o := .cells #[.int .i64 a0_0, .slice A0_1 l0_1.length c0_1, .slice A0_2 l0_2.length c0_2, .slice A0_3 l0_3.length c0_3] 49 (0, 0)) (by (with_reducible repeat (first | refine bw8 ?_ _ | refine bw9 ?_ | refine bw6 ?_ _)); exact BK167.out) hb); have n1_ := Aside0.mk (bx2 (by repeat (first | (with_reducible first | exact HB.out | apply bw2 | apply bw1 | apply bw3 | refine bw4 ?_ GE167.out) | exact HB.out)) hb); clear BK167; clear HB; have BK167 := n0_; have HB := n1_; clear n0_ n1_; (try clear hb); (try clear hb2); (try clear hk); (try clear hi); have hcz53_0 : w52.cell? ⟨gb167, 0, none⟩ = some (.int .i64 a0_0) := (bw5 BK167.out 0).trans rfl; have hcz53_1 : w52.cell? ⟨gb167, 1, none⟩ = some (.slice A0_1 l0_1.length c0_1) := (bw5 BK167.out 1).trans rfl; have hcz53_2 : w52.cell? ⟨gb167, 2, none⟩ = some (.slice A0_2 l0_2.length c0_2) := (bw5 BK167.out 2).trans rfl; have hcz53_3 : w52.cell? ⟨gb167, 3, none⟩ = some (.slice A0_3 l0_3.length c0_3) := (bw5 BK167.out 3).trans rfl; have hfz53_0 := bw7 BK167.out 0; have hfz53_1 := bw7 BK167.out 1; have hfz53_2 := bw7 BK167.out 2; have hfz53_3 := bw7 BK167.out 3) | (go_at_call 55; (with_reducible refine (giroref35_list.calls kj7 _ _ l0_3 t169 _ ?side1 ?side2 A17.out).mono ?_); (case side1 => repeat (first | exact (Kd.C_below HR0_3.out HB.out) | with_reducible first | refine Kd.C_alloc ?_ _ | refine Kd.C_drewN ?_ _ | refine Kd.C_drew ?_)); (case side2 => exact HC0_3.out); rintro e w54 ⟨rfl, hb⟩; have n0_ := Aside0.mk (bx1 (g := gb167) (o := .cells #[.int .i64 a0_0, .slice A0_1 l0_1.length c0_1, .slice A0_2 l0_2.length c0_2, .slice A0_3 l0_3.length c0_3] 49 (0, 0)) (by (with_reducible repeat (first | refine bw8 ?_ _ | refine bw9 ?_ | refine bw6 ?_ _)); exact BK167.out) hb); have n1_ := Aside0.mk (bx2 (by repeat (first | (with_reducible first | exact HB.out | apply bw2 | apply bw1 | apply bw3 | refine bw4 ?_ GE167.out) | exact HB.out)) hb); clear BK167; clear HB; have BK167 := n0_; have HB := n1_; clear n0_ n1_; (try clear hb); (try clear hb2); (try clear hk); (try clear hi))))
         go_ret
         exact ⟨by first | rfl | (simp [errW_none, errW_some] <;> rfl) | (simp [*, errW_none, errW_some] <;> rfl), by repeat (first | (with_reducible first | exact HB.out | apply bw2 | apply bw1 | apply bw3 | refine bw4 ?_ GE167.out) | exact HB.out)⟩
       ·rw [if_neg c16] at H
        have c16b0 : (t168 == 0) = false := beq_eq_false_iff_ne.mpr c16
        have c16b1 : (t168 != 0) = true := bne_iff_ne.mpr c16
        obtain rfl := Option.some.inj H
        have hcz55_0 : wc.cell? ⟨gb167, 0, none⟩ = some (.int .i64 a0_0) := (bw5 BK167.out 0).trans rfl
        have hcz55_1 : wc.cell? ⟨gb167, 1, none⟩ = some (.slice A0_1 l0_1.length c0_1) := (bw5 BK167.out 1).trans rfl
        have hcz55_2 : wc.cell? ⟨gb167, 2, none⟩ = some (.slice A0_2 l0_2.length c0_2) := (bw5 BK167.out 2).trans rfl
        have hcz55_3 : wc.cell? ⟨gb167, 3, none⟩ = some (.slice A0_3 l0_3.length c0_3) := (bw5 BK167.out 3).trans rfl
        have hfz55_0 := bw7 BK167.out 0
        have hfz55_1 := bw7 BK167.out 1
        have hfz55_2 := bw7 BK167.out 2
        have hfz55_3 := bw7 BK167.out 3
        go_wp2_with (first | (go_at_call 55; (with_reducible refine (giroref35_list.calls kj7 _ _ l0_1 t168 _ ?side1 ?side2 A15.out).mono ?_); (case side1 => repeat (first | exact (Kd.C_below HR0_1.out HB.out) | with_reducible first | refine Kd.C_alloc ?_ _ | refine Kd.C_drewN ?_ _ | refine Kd.C_drew ?_)); (case side2 => exact HC0_1.out); rintro e w56 ⟨rfl, hb⟩; have n0_ := Aside0.mk (bx1 (g := gb167) (o := .cells #[.int .i64 a0_0, .slice A0_1 l0_1.length c0_1, .slice A0_2 l0_2.length c0_2, .slice A0_3 l0_3.length c0_3] 49 (0, 0)) (by (with_reducible repeat (first | refine bw8 ?_ _ | refine bw9 ?_ | refine bw6 ?_ _)); exact BK167.out) hb); have n1_ := Aside0.mk (bx2 (by repeat (first | (with_reducible first | exact HB.out | apply bw2 | apply bw1 | apply bw3 | refine bw4 ?_ GE167.out) | exact HB.out)) hb); clear BK167; clear HB; have BK167 := n0_; have HB := n1_; clear n0_ n1_; (try clear hb); (try clear hb2); (try clear hk); (try clear hi)))
        repeat (go_quiet (first | (go_at_call 55; (with_reducible refine (giroref35_list.calls kj7 _ _ l0_1 t168 _ ?side1 ?side2 A15.out).mono ?_); (case side1 => repeat (first | exact (Kd.C_below HR0_1.out HB.out) | with_reducible first | refine Kd.C_alloc ?_ _ | refine Kd.C_drewN ?_ _ | refine Kd.C_drew ?_)); (case side2 => exact HC0_1.out); rintro e w56 ⟨rfl, hb⟩; have n0_ := Aside0.mk (bx1 (g := gb167) (o := .cells #[.int .i64 a0_0, .slice A0_1 l0_1.length c0_1, .slice A0_2 l0_2.length c0_2, .slice A0_3 l0_3.length c0_3] 49 (0, 0)) (by (with_reducible repeat (first | refine bw8 ?_ _ | refine bw9 ?_ | refine bw6 ?_ _)); exact BK167.out) hb); have n1_ := Aside0.mk (bx2 (by repeat (first | (with_reducible first | exact HB.out | apply bw2 | apply bw1 | apply bw3 | refine bw4 ?_ GE167.out) | exact HB.out)) hb); clear BK167; clear HB; have BK167 := n0_; have HB := n1_; clear n0_ n1_; (try clear hb); (try clear hb2); (try clear hk); (try clear hi))); try go_wp2_with (first | (go_at_call 55; (with_reducible refine (giroref35_list.calls kj7 _ _ l0_1 t168 _ ?side1 ?side2 A15.out).mono ?_); (case side1 => repeat (first | exact (Kd.C_below HR0_1.out HB.out) | with_reducible first | refine Kd.C_alloc ?_ _ | refine Kd.C_drewN ?_ _ | refine Kd.C_drew ?_)); (case side2 => exact HC0_1.out); rintro e w56 ⟨rfl, hb⟩; have n0_ := Aside0.mk (bx1 (g := gb167) (o := .cells #[.int .i64 a0_0, .slice A0_1 l0_1.length c0_1, .slice A0_2 l0_2.length c0_2, .slice A0_3 l0_3.length c0_3] 49 (0, 0)) (by (with_reducible repeat (first | refine bw8 ?_ _ | refine bw9 ?_ | refine bw6 ?_ _)); exact BK167.out) hb); have n1_ := Aside0.mk (bx2 (by repeat (first | (with_reducible first | exact HB.out | apply bw2 | apply bw1 | apply bw3 | refine bw4 ?_ GE167.out) | exact HB.out)) hb); clear BK167; clear HB; have BK167 := n0_; have HB := n1_; clear n0_ n1_; (try clear hb); (try clear hb2); (try clear hk); (try clear hi))))
        go_ret
        exact ⟨by first | rfl | (simp [errW_none, errW_some] <;> rfl) | (simp [*, errW_none, errW_some] <;> rfl), by repeat (first | (with_reducible first | exact HB.out | apply bw2 | apply bw1 | apply bw3 | refine bw4 ?_ GE167.out) | exact HB.out)⟩
end Go.Proofs.YtoanlppfdniiaaaGreatDoor.Q
end
