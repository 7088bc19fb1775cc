/- A part of the proof, joined by a program of this session out of its texts; no condition. -/
import Derived.Test.YtoanlppfdniiaaaGreatDoorU1
import Derived.Test.YtoanlppfdniiaaaGreatDoorU19
import Derived.Test.YtoanlppfdniiaaaGreatDoorU23
import Derived.Test.YtoanlppfdniiaaaGreatDoorU36
section
namespace Go.Proofs.YtoanlppfdniiaaaGreatDoor.Q
open Go.RowKit Go.Proofs.YtoanlppfdniiaaaGreatDoorW.PrintWords Go.Proofs.YtoanlppfdniiaaaGreatDoorW.PrintLast Go.Proofs.YtoanlppfdniiaaaGreatDoorW.PrintMore
attribute [local go_sem] max2_int min2_int max_two min_two max_three min_three max_four min_four
set_option linter.unusedVariables false
set_option linter.unusedSimpArgs false
mutual
def giroref35_Best.l0 : Nat → Bool → List Int → Int → Int → List (S109) → List ByteArray → List (S109) → List (S109) → List (S109) → Int → Option ((List (S109)) × (List (S109)) × Int × Bool)
 | 0, _, _, _, _, _, _, _, _, _, _ => none
 | k + 1, x4, x6, x7, x294000, x294001, x294002, x294003, x296000, x296001, x296002 => if x7 < (shl .i64 1 (x294003.length : Int)) then ((giroref35_chosen.f k x294000 x294001 x294002 x294003 x7).bind fun bt296 => ((giroref35_Kept.f k x294000 x294001 x294002 x294003).bind fun t302 => ((giroref35_Sum.f k bt296.1).bind fun t303 => (if (wrap64 (t302 + t303)) < x294000 then (giroref35_Best.l0 k x4 x6 (wrap64 (x7 + 1)) x294000 x294001 x294002 x294003 x296000 x296001 x296002) else (if x4 = true then (giroref35_Best.j1 k x4 x6 x7 bt296.1 bt296.2 (wrap64 (t302 + t303)) (decide ((bt296.1.length : Int) < (x296000.length : Int))) x294000 x294001 x294002 x294003 x296000 x296001 x296002) else (giroref35_Best.j1 k x4 x6 x7 bt296.1 bt296.2 (wrap64 (t302 + t303)) true x294000 x294001 x294002 x294003 x296000 x296001 x296002)))))) else (some (x296000, x296001, x296002, x4))
def giroref35_Best.j1 : Nat → Bool → List Int → Int → List (S109) → List Int → Int → Bool → Int → List (S109) → List ByteArray → List (S109) → List (S109) → List (S109) → Int → Option ((List (S109)) × (List (S109)) × Int × Bool)
 | 0, _, _, _, _, _, _, _, _, _, _, _, _, _, _ => none
 | k + 1, x4, x6, x7, x8, x9, x10, x11, x294000, x294001, x294002, x294003, x296000, x296001, x296002 => if x4 = true then (giroref35_Best.j2 k x4 x6 x7 x8 x9 x10 x11 ((x8.length : Int) == (x296000.length : Int)) x294000 x294001 x294002 x294003 x296000 x296001 x296002) else (giroref35_Best.j2 k x4 x6 x7 x8 x9 x10 x11 false x294000 x294001 x294002 x294003 x296000 x296001 x296002)
def giroref35_Best.j2 : Nat → Bool → List Int → Int → List (S109) → List Int → Int → Bool → Bool → Int → List (S109) → List ByteArray → List (S109) → List (S109) → List (S109) → Int → Option ((List (S109)) × (List (S109)) × Int × Bool)
 | 0, _, _, _, _, _, _, _, _, _, _, _, _, _, _, _ => none
 | k + 1, x4, x6, x7, x8, x9, x10, x11, x53, x294000, x294001, x294002, x294003, x296000, x296001, x296002 => if x53 = true then (if x10 < x296002 then ((giroref35_Released.f k x294000 x294001 x294002 x294003).bind fun t304 => (giroref35_Best.l0 k true x9 (wrap64 (x7 + 1)) x294000 x294001 x294002 x294003 x8 t304 x10)) else (if x10 = x296002 then ((giroref35_less.f k x9 x6).bind fun t307 => (if t307 = true then ((giroref35_Released.f k x294000 x294001 x294002 x294003).bind fun t308 => (giroref35_Best.l0 k true x9 (wrap64 (x7 + 1)) x294000 x294001 x294002 x294003 x8 t308 x10)) else (giroref35_Best.l0 k x4 x6 (wrap64 (x7 + 1)) x294000 x294001 x294002 x294003 x296000 x296001 x296002))) else (giroref35_Best.l0 k x4 x6 (wrap64 (x7 + 1)) x294000 x294001 x294002 x294003 x296000 x296001 x296002))) else (if x11 = true then ((giroref35_Released.f k x294000 x294001 x294002 x294003).bind fun t311 => (giroref35_Best.l0 k true x9 (wrap64 (x7 + 1)) x294000 x294001 x294002 x294003 x8 t311 x10)) else (giroref35_Best.l0 k x4 x6 (wrap64 (x7 + 1)) x294000 x294001 x294002 x294003 x296000 x296001 x296002))
end
def giroref35_Best.f (k : Nat) (a0_0 : Int) (l0_1 : List (S109)) (l0_2 : List ByteArray) (l0_3 : List (S109)) : Option ((List (S109)) × (List (S109)) × Int × Bool) := giroref35_Best.l0 k false ([] : List Int) 0 a0_0 l0_1 l0_2 l0_3 ([] : List (S109)) ([] : List (S109)) 0
set_option maxHeartbeats 8000000 in
set_option maxRecDepth 100000 in
theorem giroref35_Best.calls (k : Nat) (a0_0 : Int) (A0_1 : Option Addr) (c0_1 : Nat) (l0_1 : List (S109)) (A0_2 : Option Addr) (c0_2 : Nat) (l0_2 : List ByteArray) (A0_3 : Option Addr) (c0_3 : Nat) (l0_3 : List (S109)) (r1 : List (S109)) (r2 : List (S109)) (r3 : Int) (r4 : Bool) (w : World) (hr0_1 : Kd.C k109 w A0_1 l0_1.length l0_1) (hc0_1 : l0_1.length ≤ c0_1) (hr0_2 : Kd.C Kd.string w A0_2 l0_2.length l0_2) (hc0_2 : l0_2.length ≤ c0_2) (hr0_3 : Kd.C k109 w A0_3 l0_3.length l0_3) (hc0_3 : l0_3.length ≤ c0_3) (h : giroref35_Best.f k a0_0 l0_1 l0_2 l0_3 = some (r1, r2, r3, r4)) :
  Calls Tryz.prog 24 #[.agg #[.int .i64 a0_0, .slice A0_1 l0_1.length c0_1, .slice A0_2 l0_2.length c0_2, .slice A0_3 l0_3.length c0_3]] w fun e w' => ∃ v0_ v1_ : Value, e = .returned (.tuple #[.agg #[v0_, v1_, .int .i64 r3], .bool r4]) ∧ Kd.R k109 109 w' w.heap.size (fun k_ => some k_ ≠ (v1_ : Value).ownBlock) v0_ r1 ∧ Kd.R k109 109 w' w.heap.size (fun k_ => some k_ ≠ (v0_ : Value).ownBlock) v1_ r2 ∧ Below w.heap.size w w' := by
 have hu49 := Tryz.underlying49
 have hu54 := Tryz.underlying54
 have HR0_1 := Aside0.mk hr0_1
 have HC0_1 := Aside0.mk hc0_1
 clear hr0_1 hc0_1
 have HR0_2 := Aside0.mk hr0_2
 have HC0_2 := Aside0.mk hc0_2
 clear hr0_2 hc0_2
 have HR0_3 := Aside0.mk hr0_3
 have HC0_3 := Aside0.mk hc0_3
 clear hr0_3 hc0_3
 have HB := Aside0.mk (Below.refl w.heap.size w)
 have H : (giroref35_Best.l0 k false ([] : List Int) 0 a0_0 l0_1 l0_2 l0_3 ([] : List (S109)) ([] : List (S109)) 0) = some (r1, r2, r3, r4) := h
 clear h
 have H' := Aside0.mk H
 clear H
 go_enter Tryz.func24, Tryz.ntmps24
 go_wp2_with (first | ((with_reducible refine gate_dst (N := 1) rfl ?_); (try (refine gate_guard (by rfl) ?_; dsimp only)); refine box_event ?hg (N := 1) ?hd (cs := #[.int .i64 a0_0, .slice A0_1 l0_1.length c0_1, .slice A0_2 l0_2.length c0_2, .slice A0_3 l0_3.length c0_3]) (t := 49) ?hr ?_; (case hd => rfl); (case hg => rfl); (case hr => first | (go_simp; done) | (go_simp; rfl)); intro gb293 hg w2 hbox hb; have n0_ := Aside0.mk (bx2 (by repeat (first | (with_reducible first | exact HB.out | apply bw2 | apply bw1 | apply bw3) | exact HB.out)) hb); have n1_ := Aside0.mk (hbox); have n2_ := Aside0.mk ((by rw [hg]; exact (bx3 (by repeat (first | (with_reducible first | exact HB.out | apply bw2 | apply bw1 | apply bw3) | exact HB.out))) : w.heap.size ≤ gb293)); have n3_ := Aside0.mk ((by rw [hg]; exact (bx3 (by repeat (first | (with_reducible first | exact HB.out | apply bw2 | apply bw1 | apply bw3) | exact HB.out))) : w.heap.size ≤ gb293)); clear HB; have HB := n0_; have BK293 := n1_; have GW293 := n2_; have GE293 := n3_; clear n0_ n1_ n2_ n3_; clear hb hbox hg) | ((with_reducible refine gate_dst (N := 2) rfl ?_); (try (refine gate_guard (by rfl) ?_; dsimp only)); refine box_event ?hg (N := 2) ?hd (cs := #[.slice none 0 0, .slice none 0 0, .int .i64 0]) (t := 54) ?hr ?_; (case hd => rfl); (case hg => rfl); (case hr => first | (go_simp; done) | (go_simp; rfl)); intro gb294 hg w3 hbox hb; have n0_ := Aside0.mk (bx1 (g := gb293) (o := .cells #[.int .i64 a0_0, .slice A0_1 l0_1.length c0_1, .slice A0_2 l0_2.length c0_2, .slice A0_3 l0_3.length c0_3] 49 (0, 0)) (by (with_reducible repeat (first | refine bw8 ?_ _ | refine bw9 ?_ | refine bw6 ?_ _)); exact BK293.out) hb); have n1_ := Aside0.mk (bx2 (by repeat (first | (with_reducible first | exact HB.out | apply bw2 | apply bw1 | apply bw3 | refine bw4 ?_ GE293.out) | exact HB.out)) hb); have n2_ := Aside0.mk (hbox); have n3_ := Aside0.mk ((by rw [hg]; exact (bx3 (by repeat (first | (with_reducible first | exact HB.out | apply bw2 | apply bw1 | apply bw3 | refine bw4 ?_ GE293.out) | exact HB.out))) : w.heap.size ≤ gb294)); have n4_ := Aside0.mk ((by rw [hg]; exact (bx3 (by repeat (first | (with_reducible first | exact HB.out | apply bw2 | apply bw1 | apply bw3 | refine bw4 ?_ GE293.out) | exact HB.out))) : w.heap.size ≤ gb294)); have n5_ := Aside0.mk ((by rw [hg]; exact Nat.ne_of_lt (blk_lt (g := gb293) (o := .cells #[.int .i64 a0_0, .slice A0_1 l0_1.length c0_1, .slice A0_2 l0_2.length c0_2, .slice A0_3 l0_3.length c0_3] 49 (0, 0)) (by (with_reducible repeat (first | refine bw8 ?_ _ | refine bw9 ?_ | refine bw6 ?_ _)); exact BK293.out)) : gb293 ≠ gb294)); have n6_ := Aside0.mk ((by rw [hg]; exact Nat.ne_of_gt (blk_lt (g := gb293) (o := .cells #[.int .i64 a0_0, .slice A0_1 l0_1.length c0_1, .slice A0_2 l0_2.length c0_2, .slice A0_3 l0_3.length c0_3] 49 (0, 0)) (by (with_reducible repeat (first | refine bw8 ?_ _ | refine bw9 ?_ | refine bw6 ?_ _)); exact BK293.out)) : gb294 ≠ gb293)); clear BK293; clear HB; have BK293 := n0_; have HB := n1_; have BK294 := n2_; have GW294 := n3_; have GE294 := n4_; have NB293_294 := n5_; have NB294_293 := n6_; clear n0_ n1_ n2_ n3_ n4_ n5_ n6_; clear hb hbox hg) | ((with_reducible refine gate_dst (N := 5) rfl ?_); (try (refine gate_guard (by rfl) ?_; dsimp only)); refine box_event ?hg (N := 5) ?hd (cs := #[.slice none 0 0, .slice none 0 0, .int .i64 0]) (t := 54) ?hr ?_; (case hd => rfl); (case hg => rfl); (case hr => first | (go_simp; done) | (go_simp; rfl)); intro gb295 hg w4 hbox hb; have n0_ := Aside0.mk (bx1 (g := gb293) (o := .cells #[.int .i64 a0_0, .slice A0_1 l0_1.length c0_1, .slice A0_2 l0_2.length c0_2, .slice A0_3 l0_3.length c0_3] 49 (0, 0)) (by (with_reducible repeat (first | refine bw8 ?_ _ | refine bw9 ?_ | refine bw6 ?_ _)); exact BK293.out) hb); have n1_ := Aside0.mk (bx1 (g := gb294) (o := .cells #[.slice none 0 0, .slice none 0 0, .int .i64 0] 54 (0, 0)) (by (with_reducible repeat (first | refine bw8 ?_ _ | refine bw9 ?_ | refine bw6 ?_ _)); exact BK294.out) hb); have n2_ := Aside0.mk (bx2 (by repeat (first | (with_reducible first | exact HB.out | apply bw2 | apply bw1 | apply bw3 | refine bw4 ?_ GE293.out | refine bw4 ?_ GE294.out) | exact HB.out)) hb); have n3_ := Aside0.mk (hbox); have n4_ := Aside0.mk ((by rw [hg]; exact (bx3 (by repeat (first | (with_reducible first | exact HB.out | apply bw2 | apply bw1 | apply bw3 | refine bw4 ?_ GE293.out | refine bw4 ?_ GE294.out) | exact HB.out))) : w.heap.size ≤ gb295)); have n5_ := Aside0.mk ((by rw [hg]; exact (bx3 (by repeat (first | (with_reducible first | exact HB.out | apply bw2 | apply bw1 | apply bw3 | refine bw4 ?_ GE293.out | refine bw4 ?_ GE294.out) | exact HB.out))) : w.heap.size ≤ gb295)); have n6_ := Aside0.mk ((by rw [hg]; exact Nat.ne_of_lt (blk_lt (g := gb293) (o := .cells #[.int .i64 a0_0, .slice A0_1 l0_1.length c0_1, .slice A0_2 l0_2.length c0_2, .slice A0_3 l0_3.length c0_3] 49 (0, 0)) (by (with_reducible repeat (first | refine bw8 ?_ _ | refine bw9 ?_ | refine bw6 ?_ _)); exact BK293.out)) : gb293 ≠ gb295)); have n7_ := Aside0.mk ((by rw [hg]; exact Nat.ne_of_gt (blk_lt (g := gb293) (o := .cells #[.int .i64 a0_0, .slice A0_1 l0_1.length c0_1, .slice A0_2 l0_2.length c0_2, .slice A0_3 l0_3.length c0_3] 49 (0, 0)) (by (with_reducible repeat (first | refine bw8 ?_ _ | refine bw9 ?_ | refine bw6 ?_ _)); exact BK293.out)) : gb295 ≠ gb293)); have n8_ := Aside0.mk ((by rw [hg]; exact Nat.ne_of_lt (blk_lt (g := gb294) (o := .cells #[.slice none 0 0, .slice none 0 0, .int .i64 0] 54 (0, 0)) (by (with_reducible repeat (first | refine bw8 ?_ _ | refine bw9 ?_ | refine bw6 ?_ _)); exact BK294.out)) : gb294 ≠ gb295)); have n9_ := Aside0.mk ((by rw [hg]; exact Nat.ne_of_gt (blk_lt (g := gb294) (o := .cells #[.slice none 0 0, .slice none 0 0, .int .i64 0] 54 (0, 0)) (by (with_reducible repeat (first | refine bw8 ?_ _ | refine bw9 ?_ | refine bw6 ?_ _)); exact BK294.out)) : gb295 ≠ gb294)); clear BK293; clear BK294; clear HB; have BK293 := n0_; have BK294 := n1_; have HB := n2_; have BK295 := n3_; have GW295 := n4_; have GE295 := n5_; have NB293_295 := n6_; have NB295_293 := n7_; have NB294_295 := n8_; have NB295_294 := n9_; clear n0_ n1_ n2_ n3_ n4_ n5_ n6_ n7_ n8_ n9_; clear hb hbox hg))
 go_loopg [4, 6, 7] k (fun kq v4 v6 v7 w' => ∃ (x4_1 : Bool) (x6_1 : List Int) (x7_1 : Int) (x296000_1 : List (S109)) (x296001_1 : List (S109)) (x296002_1 : Int) (u296000 : Value) (u296001 : Value), v4 = .bool x4_1 ∧ v7 = .int .i64 x7_1 ∧ Aside0 (giroref35_Best.l0 kq x4_1 x6_1 x7_1 a0_0 l0_1 l0_2 l0_3 x296000_1 x296001_1 x296002_1 = some (r1, r2, r3, r4)) ∧ Aside0 (kq ≤ k) ∧ Aside0 (Kd.R (Kd.int .i64) 3 w' w.heap.size (fun _ => True) v6 x6_1) ∧ Aside0 (Kd.R k109 109 w' w.heap.size (fun k_ => some k_ ≠ (u296001 : Value).ownBlock) u296000 x296000_1) ∧ Aside0 (Kd.R k109 109 w' w.heap.size (fun k_ => some k_ ≠ (u296000 : Value).ownBlock) u296001 x296001_1) ∧ Aside0 (w'.heap[gb293]? = some (.cells #[.int .i64 a0_0, (.slice A0_1 l0_1.length c0_1), (.slice A0_2 l0_2.length c0_2), (.slice A0_3 l0_3.length c0_3)] 49 (0, 0))) ∧ Aside0 (w'.heap[gb294]? = some (.cells #[(.slice none 0 0), (.slice none 0 0), .int .i64 0] 54 (0, 0))) ∧ Aside0 (w'.heap[gb295]? = some (.cells #[u296000, u296001, .int .i64 x296002_1] 54 (0, 0))) ∧ Aside0 (Below w.heap.size w w'))
 case atStart => exact ⟨(false), (([] : List Int)), (0), (([] : List (S109))), (([] : List (S109))), (0), (.slice none 0 0), (.slice none 0 0), (by first | rfl | (simp; done) | (simp [*]; done)), (by first | rfl | (simp; done) | (simp [*]; done)), H', ⟨Nat.le_refl _⟩, ⟨by first | exact Kd.R_nil _ _ _ _ _ | exact Kd.N_nil _ _ _ _ _ | exact Kd.V_nil _ _ _ _ _ | exact Kd.Q_nil _ _ _ _ _ | exact Kd.S_nil _ _ _ _ _⟩, ⟨by first | exact Kd.R_nil _ _ _ _ _ | exact Kd.N_nil _ _ _ _ _ | exact Kd.V_nil _ _ _ _ _ | exact Kd.Q_nil _ _ _ _ _ | exact Kd.S_nil _ _ _ _ _⟩, ⟨by first | exact Kd.R_nil _ _ _ _ _ | exact Kd.N_nil _ _ _ _ _ | exact Kd.V_nil _ _ _ _ _ | exact Kd.Q_nil _ _ _ _ _ | exact Kd.S_nil _ _ _ _ _⟩, ⟨by (with_reducible repeat (first | refine bw8 ?_ _ | refine bw9 ?_ | refine bw6 ?_ _)); exact BK293.out⟩, ⟨by (with_reducible repeat (first | refine bw8 ?_ _ | refine bw9 ?_ | refine bw6 ?_ _)); exact BK294.out⟩, ⟨by (with_reducible repeat (first | refine bw8 ?_ _ | refine bw9 ?_ | refine bw6 ?_ _)); exact BK295.out⟩, ⟨by repeat (first | (with_reducible first | exact HB.out | apply bw2 | apply bw1 | apply bw3 | refine bw4 ?_ GE293.out | refine bw4 ?_ GE294.out | refine bw4 ?_ GE295.out) | exact HB.out)⟩⟩
 case round =>
  clear H'
  try clear c2
  try clear p2
  obtain ⟨x4_1, x6_1, x7_1, x296000_1, x296001_1, x296002_1, u296000, u296001, rfl, rfl, HA, HK1, HO_6, HO_296000, HO_296001, BK293, BK294, BK295, HB⟩ := hrel
  cases gk with
  | zero => exact absurd HA.out (by simp [giroref35_Best.l0])
  | succ k1 =>
   have H := HA.out
   clear HA
   simp only [giroref35_Best.l0] at H
   obtain ⟨ji5, hji5⟩ : ∃ j_ : Int, (shl .i64 1 (l0_3.length : Int)) = j_ := ⟨_, rfl⟩
   replace H : (if x7_1 < (ji5) then ((giroref35_chosen.f k1 a0_0 l0_1 l0_2 l0_3 x7_1).bind fun bt296 => ((giroref35_Kept.f k1 a0_0 l0_1 l0_2 l0_3).bind fun t302 => ((giroref35_Sum.f k1 bt296.1).bind fun t303 => (if (wrap64 (t302 + t303)) < a0_0 then (giroref35_Best.l0 k1 x4_1 x6_1 (wrap64 (x7_1 + 1)) a0_0 l0_1 l0_2 l0_3 x296000_1 x296001_1 x296002_1) else (if x4_1 = true then (giroref35_Best.j1 k1 x4_1 x6_1 x7_1 bt296.1 bt296.2 (wrap64 (t302 + t303)) (decide ((bt296.1.length : Int) < (x296000_1.length : Int))) a0_0 l0_1 l0_2 l0_3 x296000_1 x296001_1 x296002_1) else (giroref35_Best.j1 k1 x4_1 x6_1 x7_1 bt296.1 bt296.2 (wrap64 (t302 + t303)) true a0_0 l0_1 l0_2 l0_3 x296000_1 x296001_1 x296002_1)))))) else (some (x296000_1, x296001_1, x296002_1, x4_1))) = some (r1, r2, r3, r4) := by first | (rw [hji5] at H; exact H) | (simp only [hji5] at H ⊢; exact H)
   have hji5_ : (IntKind.i64.wrap (1 * 2 ^ min (l0_3.length : Int).toNat 64)) = ji5 := hji5
   have hji5z : (l0_3.length : Int) ≤ 64 → (IntKind.i64.wrap (1 * 2 ^ (l0_3.length : Int).toNat)) = ji5 := shl_small hji5
   have hji5p : (IntKind.i64.wrap (1 * 2 ^ min l0_3.length 64)) = ji5 := hji5_
   have hji5q : (l0_3.length : Int) ≤ 64 → (IntKind.i64.wrap (1 * 2 ^ l0_3.length)) = ji5 := hji5z
   have hji5r : (IntKind.i64.wrap (2 ^ min l0_3.length 64)) = ji5 := by have h_ := hji5p; rw [Int.one_mul] at h_; exact h_
   have hji5s : (l0_3.length : Int) ≤ 64 → (IntKind.i64.wrap (2 ^ l0_3.length)) = ji5 := fun hle_ => by have h_ := hji5q hle_; rw [Int.one_mul] at h_; exact h_
   have hji5u : (IntKind.i64.wrap (2 ^ min (l0_3.length : Int).toNat 64)) = ji5 := by have h_ := hji5_; rw [Int.one_mul] at h_; exact h_
   have hji5v : (l0_3.length : Int) ≤ 64 → (IntKind.i64.wrap (2 ^ (l0_3.length : Int).toNat)) = ji5 := fun hle_ => by have h_ := hji5z hle_; rw [Int.one_mul] at h_; exact h_
   have hji5y : (wrap64 (1 * 2 ^ min (l0_3.length : Int).toNat 64)) = ji5 := (i64_w _).symm.trans hji5_
   have hji5x : (l0_3.length : Int) ≤ 64 → (wrap64 (1 * 2 ^ (l0_3.length : Int).toNat)) = ji5 := fun h_ => (i64_w _).symm.trans (hji5z h_)
   by_cases c6 : x7_1 < (ji5)
   ·rw [if_pos c6] at H
    have c6b0 : decide (x7_1 < (ji5)) = true := decide_eq_true c6
    clear c6
    replace H := Option.bind_eq_some_iff.mp H
    obtain ⟨⟨t296, t299⟩, A70, H⟩ := H
    replace H : ((giroref35_Kept.f k1 a0_0 l0_1 l0_2 l0_3).bind fun t302 => ((giroref35_Sum.f k1 t296).bind fun t303 => (if (wrap64 (t302 + t303)) < a0_0 then (giroref35_Best.l0 k1 x4_1 x6_1 (wrap64 (x7_1 + 1)) a0_0 l0_1 l0_2 l0_3 x296000_1 x296001_1 x296002_1) else (if x4_1 = true then (giroref35_Best.j1 k1 x4_1 x6_1 x7_1 t296 t299 (wrap64 (t302 + t303)) (decide ((t296.length : Int) < (x296000_1.length : Int))) a0_0 l0_1 l0_2 l0_3 x296000_1 x296001_1 x296002_1) else (giroref35_Best.j1 k1 x4_1 x6_1 x7_1 t296 t299 (wrap64 (t302 + t303)) true a0_0 l0_1 l0_2 l0_3 x296000_1 x296001_1 x296002_1))))) = some (r1, r2, r3, r4) := H
    have A7 := Aside0.mk A70
    clear A70
    replace H := Option.bind_eq_some_iff.mp H
    obtain ⟨t302, A80, H⟩ := H
    replace H : ((giroref35_Sum.f k1 t296).bind fun t303 => (if (wrap64 (t302 + t303)) < a0_0 then (giroref35_Best.l0 k1 x4_1 x6_1 (wrap64 (x7_1 + 1)) a0_0 l0_1 l0_2 l0_3 x296000_1 x296001_1 x296002_1) else (if x4_1 = true then (giroref35_Best.j1 k1 x4_1 x6_1 x7_1 t296 t299 (wrap64 (t302 + t303)) (decide ((t296.length : Int) < (x296000_1.length : Int))) a0_0 l0_1 l0_2 l0_3 x296000_1 x296001_1 x296002_1) else (giroref35_Best.j1 k1 x4_1 x6_1 x7_1 t296 t299 (wrap64 (t302 + t303)) true a0_0 l0_1 l0_2 l0_3 x296000_1 x296001_1 x296002_1)))) = some (r1, r2, r3, r4) := H
    have A8 := Aside0.mk A80
    clear A80
    replace H := Option.bind_eq_some_iff.mp H
    obtain ⟨t303, A90, H⟩ := H
    replace H : (if (wrap64 (t302 + t303)) < a0_0 then (giroref35_Best.l0 k1 x4_1 x6_1 (wrap64 (x7_1 + 1)) a0_0 l0_1 l0_2 l0_3 x296000_1 x296001_1 x296002_1) else (if x4_1 = true then (giroref35_Best.j1 k1 x4_1 x6_1 x7_1 t296 t299 (wrap64 (t302 + t303)) (decide ((t296.length : Int) < (x296000_1.length : Int))) a0_0 l0_1 l0_2 l0_3 x296000_1 x296001_1 x296002_1) else (giroref35_Best.j1 k1 x4_1 x6_1 x7_1 t296 t299 (wrap64 (t302 + t303)) true a0_0 l0_1 l0_2 l0_3 x296000_1 x296001_1 x296002_1))) = some (r1, r2, r3, r4) := H
    have A9 := Aside0.mk A90
    clear A90
    by_cases c10 : (wrap64 (t302 + t303)) < a0_0
    ·rw [if_pos c10] at H
     have c10b0 : decide ((wrap64 (t302 + t303)) < a0_0) = true := decide_eq_true c10
     clear c10
     have H' := Aside0.mk H
     clear H
     have hnb11 := NB293_294.out
     have hnc11 := NB294_293.out
     have hnb12 := NB293_295.out
     have hnc12 := NB295_293.out
     have hcz13_0 : wr.cell? ⟨gb293, 0, none⟩ = some (.int .i64 a0_0) := (bw5 BK293.out 0).trans rfl
     have hcz13_1 : wr.cell? ⟨gb293, 1, none⟩ = some (.slice A0_1 l0_1.length c0_1) := (bw5 BK293.out 1).trans rfl
     have hcz13_2 : wr.cell? ⟨gb293, 2, none⟩ = some (.slice A0_2 l0_2.length c0_2) := (bw5 BK293.out 2).trans rfl
     have hcz13_3 : wr.cell? ⟨gb293, 3, none⟩ = some (.slice A0_3 l0_3.length c0_3) := (bw5 BK293.out 3).trans rfl
     have hfz13_0 := bw7 BK293.out 0
     have hfz13_1 := bw7 BK293.out 1
     have hfz13_2 := bw7 BK293.out 2
     have hfz13_3 := bw7 BK293.out 3
     go_wp2_with (first | ((with_reducible refine gate_callee (f := 62) rfl ?_); refine goesL_ (some 23) rfl rfl Tryz.func62 (by kernel_rfl) rfl #[.agg #[.int .i64 a0_0, .slice A0_1 l0_1.length c0_1, .slice A0_2 l0_2.length c0_2, .slice A0_3 l0_3.length c0_3], .int .i64 x7_1] rfl (by (try simp only [List.map_toArray, List.map_cons, List.map_nil]); first | done | rfl | (simp only [List.length_drop, List.length_take]; rfl)) ?_; (with_reducible refine (giroref35_chosen.calls k1 a0_0 _ _ l0_1 _ _ l0_2 _ _ l0_3 x7_1 t296 t299 _ ?side1 ?side2 ?side3 ?side4 ?side5 ?side6 A7.out).mono ?_); (case side1 => repeat (first | exact (Kd.C_below HR0_1.out HB.out) | (with_reducible refine Kd.C_alloc ?_ _) | (with_reducible refine Kd.C_drewN ?_ _) | (with_reducible refine Kd.C_drew ?_))); (case side2 => exact HC0_1.out); (case side3 => repeat (first | exact (Kd.C_below HR0_2.out HB.out) | (with_reducible refine Kd.C_alloc ?_ _) | (with_reducible refine Kd.C_drewN ?_ _) | (with_reducible refine Kd.C_drew ?_))); (case side4 => exact HC0_2.out); (case side5 => repeat (first | exact (Kd.C_below HR0_3.out HB.out) | (with_reducible refine Kd.C_alloc ?_ _) | (with_reducible refine Kd.C_drewN ?_ _) | (with_reducible refine Kd.C_drew ?_))); (case side6 => exact HC0_3.out); rintro e w14 ⟨v297, v300, rfl, ho0, ho1, hb⟩; refine ⟨_, rfl, ?_⟩; have n0_ := Aside0.mk (Kd.R_elder' (by (with_reducible repeat (first | apply Kd.R_alloc | apply Kd.R_drewN | apply Kd.R_drew)); exact HO_6.out) (Kd.R_base ho1) hb); have n1_ := Aside0.mk (Kd.R_elder' (by (with_reducible repeat (first | apply Kd.R_alloc | apply Kd.R_drewN | apply Kd.R_drew)); exact HO_296000.out) (Kd.R_base ho0) hb); have n2_ := Aside0.mk (Kd.R_elder' (by (with_reducible repeat (first | apply Kd.R_alloc | apply Kd.R_drewN | apply Kd.R_drew)); exact HO_296001.out) (Kd.R_base ho0) hb); have n3_ := Aside0.mk (Kd.R_lower (Kd.R_new' (Kd.R_new' ho0 (Kd.R_lt (by (with_reducible repeat (first | apply Kd.R_alloc | apply Kd.R_drewN | apply Kd.R_drew)); exact HO_296000.out))) (Kd.R_lt (by (with_reducible repeat (first | apply Kd.R_alloc | apply Kd.R_drewN | apply Kd.R_drew)); exact HO_296001.out))) (bx3 (by repeat (first | (with_reducible first | exact HB.out | apply bw2 | apply bw1 | apply bw3 | refine bw4 ?_ GE293.out | refine bw4 ?_ GE294.out | refine bw4 ?_ GE295.out) | exact HB.out)))); have n4_ := Aside0.mk (Kd.R_lower (Kd.R_new' ho1 (Kd.R_lt (by (with_reducible repeat (first | apply Kd.R_alloc | apply Kd.R_drewN | apply Kd.R_drew)); exact HO_6.out))) (bx3 (by repeat (first | (with_reducible first | exact HB.out | apply bw2 | apply bw1 | apply bw3 | refine bw4 ?_ GE293.out | refine bw4 ?_ GE294.out | refine bw4 ?_ GE295.out) | exact HB.out)))); have n5_ := Aside0.mk (bx1 (g := gb293) (o := .cells #[.int .i64 a0_0, .slice A0_1 l0_1.length c0_1, .slice A0_2 l0_2.length c0_2, .slice A0_3 l0_3.length c0_3] 49 (0, 0)) (by (with_reducible repeat (first | refine bw8 ?_ _ | refine bw9 ?_ | refine bw6 ?_ _)); exact BK293.out) hb); have n6_ := Aside0.mk (bx1 (g := gb294) (o := .cells #[.slice none 0 0, .slice none 0 0, .int .i64 0] 54 (0, 0)) (by (with_reducible repeat (first | refine bw8 ?_ _ | refine bw9 ?_ | refine bw6 ?_ _)); exact BK294.out) hb); have n7_ := Aside0.mk (bx1 (g := gb295) (o := .cells #[u296000, u296001, .int .i64 x296002_1] 54 (0, 0)) (by (with_reducible repeat (first | refine bw8 ?_ _ | refine bw9 ?_ | refine bw6 ?_ _)); exact BK295.out) hb); have n8_ := Aside0.mk (bx2 (by repeat (first | (with_reducible first | exact HB.out | apply bw2 | apply bw1 | apply bw3 | refine bw4 ?_ GE293.out | refine bw4 ?_ GE294.out | refine bw4 ?_ GE295.out) | exact HB.out)) hb); clear HO_6; clear HO_296000; clear HO_296001; clear BK293; clear BK294; clear BK295; clear HB; have HO_6 := n0_; have HO_296000 := n1_; have HO_296001 := n2_; have HO298 := n3_; have HO301 := n4_; have BK293 := n5_; have BK294 := n6_; have BK295 := n7_; have HB := n8_; clear n0_ n1_ n2_ n3_ n4_ n5_ n6_ n7_ n8_; (try clear hb); (try clear hb2); (try clear hk); (try clear hi); (try clear ho0); (try clear ho1); have hcz15_0 : w14.cell? ⟨gb293, 0, none⟩ = some (.int .i64 a0_0) := (bw5 BK293.out 0).trans rfl; have hcz15_1 : w14.cell? ⟨gb293, 1, none⟩ = some (.slice A0_1 l0_1.length c0_1) := (bw5 BK293.out 1).trans rfl; have hcz15_2 : w14.cell? ⟨gb293, 2, none⟩ = some (.slice A0_2 l0_2.length c0_2) := (bw5 BK293.out 2).trans rfl; have hcz15_3 : w14.cell? ⟨gb293, 3, none⟩ = some (.slice A0_3 l0_3.length c0_3) := (bw5 BK293.out 3).trans rfl; have hfz15_0 := bw7 BK293.out 0; have hfz15_1 := bw7 BK293.out 1; have hfz15_2 := bw7 BK293.out 2; have hfz15_3 := bw7 BK293.out 3) | ((with_reducible refine gate_callee (f := 31) rfl ?_); refine goesL_ (some 27) rfl rfl Tryz.func31 (by kernel_rfl) rfl #[.agg #[.int .i64 a0_0, .slice A0_1 l0_1.length c0_1, .slice A0_2 l0_2.length c0_2, .slice A0_3 l0_3.length c0_3]] rfl (by (try simp only [List.map_toArray, List.map_cons, List.map_nil]); first | done | rfl | (simp only [List.length_drop, List.length_take]; rfl)) ?_; (with_reducible refine (giroref35_Kept.calls k1 a0_0 _ _ l0_1 _ _ l0_2 _ _ l0_3 t302 _ ?side1 ?side2 ?side3 ?side4 ?side5 ?side6 A8.out).mono ?_); (case side1 => repeat (first | exact (Kd.C_below HR0_1.out HB.out) | (with_reducible refine Kd.C_alloc ?_ _) | (with_reducible refine Kd.C_drewN ?_ _) | (with_reducible refine Kd.C_drew ?_))); (case side2 => exact HC0_1.out); (case side3 => repeat (first | exact (Kd.C_below HR0_2.out HB.out) | (with_reducible refine Kd.C_alloc ?_ _) | (with_reducible refine Kd.C_drewN ?_ _) | (with_reducible refine Kd.C_drew ?_))); (case side4 => exact HC0_2.out); (case side5 => repeat (first | exact (Kd.C_below HR0_3.out HB.out) | (with_reducible refine Kd.C_alloc ?_ _) | (with_reducible refine Kd.C_drewN ?_ _) | (with_reducible refine Kd.C_drew ?_))); (case side6 => exact HC0_3.out); rintro e w16 ⟨rfl, hb⟩; refine ⟨_, rfl, ?_⟩; have n0_ := Aside0.mk (Kd.R_below (by (with_reducible repeat (first | apply Kd.R_alloc | apply Kd.R_drewN | apply Kd.R_drew)); exact HO_6.out) hb); have n1_ := Aside0.mk (Kd.R_below (by (with_reducible repeat (first | apply Kd.R_alloc | apply Kd.R_drewN | apply Kd.R_drew)); exact HO_296000.out) hb); have n2_ := Aside0.mk (Kd.R_below (by (with_reducible repeat (first | apply Kd.R_alloc | apply Kd.R_drewN | apply Kd.R_drew)); exact HO_296001.out) hb); have n3_ := Aside0.mk (Kd.R_below (by (with_reducible repeat (first | apply Kd.R_alloc | apply Kd.R_drewN | apply Kd.R_drew)); exact HO298.out) hb); have n4_ := Aside0.mk (Kd.R_below (by (with_reducible repeat (first | apply Kd.R_alloc | apply Kd.R_drewN | apply Kd.R_drew)); exact HO301.out) hb); have n5_ := Aside0.mk (bx1 (g := gb293) (o := .cells #[.int .i64 a0_0, .slice A0_1 l0_1.length c0_1, .slice A0_2 l0_2.length c0_2, .slice A0_3 l0_3.length c0_3] 49 (0, 0)) (by (with_reducible repeat (first | refine bw8 ?_ _ | refine bw9 ?_ | refine bw6 ?_ _)); exact BK293.out) hb); have n6_ := Aside0.mk (bx1 (g := gb294) (o := .cells #[.slice none 0 0, .slice none 0 0, .int .i64 0] 54 (0, 0)) (by (with_reducible repeat (first | refine bw8 ?_ _ | refine bw9 ?_ | refine bw6 ?_ _)); exact BK294.out) hb); have n7_ := Aside0.mk (bx1 (g := gb295) (o := .cells #[u296000, u296001, .int .i64 x296002_1] 54 (0, 0)) (by (with_reducible repeat (first | refine bw8 ?_ _ | refine bw9 ?_ | refine bw6 ?_ _)); exact BK295.out) hb); have n8_ := Aside0.mk (bx2 (by repeat (first | (with_reducible first | exact HB.out | apply bw2 | apply bw1 | apply bw3 | refine bw4 ?_ GE293.out | refine bw4 ?_ GE294.out | refine bw4 ?_ GE295.out) | exact HB.out)) hb); clear HO_6; clear HO_296000; clear HO_296001; clear HO298; clear HO301; clear BK293; clear BK294; clear BK295; clear HB; have HO_6 := n0_; have HO_296000 := n1_; have HO_296001 := n2_; have HO298 := n3_; have HO301 := n4_; have BK293 := n5_; have BK294 := n6_; have BK295 := n7_; have HB := n8_; clear n0_ n1_ n2_ n3_ n4_ n5_ n6_ n7_ n8_; (try clear hb); (try clear hb2); (try clear hk); (try clear hi); obtain ⟨Ao17, co17, eo17⟩ := Kd.R_slice HO298.out; subst eo17) | ((with_reducible refine gate_callee (f := 57) rfl ?_); refine goesL_ (some 29) rfl rfl Tryz.func57 (by kernel_rfl) rfl #[.slice Ao17 t296.length co17] rfl (by (try simp only [List.map_toArray, List.map_cons, List.map_nil]); first | done | rfl | (simp only [List.length_drop, List.length_take]; rfl)) ?_; (with_reducible refine (giroref35_Sum.calls k1 _ _ t296 t303 _ ?side1 ?side2 A9.out).mono ?_); (case side1 => repeat (first | exact (Kd.R_reads' HO298.out).2.2 | (with_reducible refine Kd.C_alloc ?_ _) | (with_reducible refine Kd.C_drewN ?_ _) | (with_reducible refine Kd.C_drew ?_))); (case side2 => exact (Kd.R_reads' HO298.out).2.1); rintro e w' ⟨rfl, ⟨nd, rfl⟩⟩; refine ⟨_, rfl, ?_⟩; have hcz18_0 : w16.cell? ⟨gb293, 0, none⟩ = some (.int .i64 a0_0) := (bw5 BK293.out 0).trans rfl; have hcz18_1 : w16.cell? ⟨gb293, 1, none⟩ = some (.slice A0_1 l0_1.length c0_1) := (bw5 BK293.out 1).trans rfl; have hcz18_2 : w16.cell? ⟨gb293, 2, none⟩ = some (.slice A0_2 l0_2.length c0_2) := (bw5 BK293.out 2).trans rfl; have hcz18_3 : w16.cell? ⟨gb293, 3, none⟩ = some (.slice A0_3 l0_3.length c0_3) := (bw5 BK293.out 3).trans rfl; have hfz18_0 := bw7 BK293.out 0; have hfz18_1 := bw7 BK293.out 1; have hfz18_2 := bw7 BK293.out 2; have hfz18_3 := bw7 BK293.out 3))
     go_roundg k1
     case measure => have := HK1.out; omega
     case rel => exact ⟨(x4_1), (x6_1), (wrap64 (x7_1 + 1)), (x296000_1), (x296001_1), (x296002_1), (u296000), (u296001), (by first | rfl | (simp; done) | (simp [*]; done)), (by first | rfl | (simp; done) | (simp [*]; done)), H', ⟨by have := HK1.out; omega⟩, ⟨by (with_reducible repeat (first | apply Kd.R_alloc | apply Kd.R_drewN | apply Kd.R_drew)); exact Kd.R_mono HO_6.out (fun _ hk => trivial)⟩, ⟨by (with_reducible repeat (first | apply Kd.R_alloc | apply Kd.R_drewN | apply Kd.R_drew)); exact Kd.R_mono HO_296000.out (fun _ hk => hk.1)⟩, ⟨by (with_reducible repeat (first | apply Kd.R_alloc | apply Kd.R_drewN | apply Kd.R_drew)); exact Kd.R_mono HO_296001.out (fun _ hk => hk.1)⟩, ⟨by (with_reducible repeat (first | refine bw8 ?_ _ | refine bw9 ?_ | refine bw6 ?_ _)); exact BK293.out⟩, ⟨by (with_reducible repeat (first | refine bw8 ?_ _ | refine bw9 ?_ | refine bw6 ?_ _)); exact BK294.out⟩, ⟨by (with_reducible repeat (first | refine bw8 ?_ _ | refine bw9 ?_ | refine bw6 ?_ _)); exact BK295.out⟩, ⟨by repeat (first | (with_reducible first | exact HB.out | apply bw2 | apply bw1 | apply bw3 | refine bw4 ?_ GE293.out | refine bw4 ?_ GE294.out | refine bw4 ?_ GE295.out) | exact HB.out)⟩⟩
    ·rw [if_neg c10] at H
     have c10b0 : decide ((wrap64 (t302 + t303)) < a0_0) = false := decide_eq_false c10
     clear c10
     have HC19 := Aside0.mk H
     clear H
     have hnb20 := NB293_294.out
     have hnc20 := NB294_293.out
     have hnb21 := NB293_295.out
     have hnc21 := NB295_293.out
     have hcz22_0 : wr.cell? ⟨gb293, 0, none⟩ = some (.int .i64 a0_0) := (bw5 BK293.out 0).trans rfl
     have hcz22_1 : wr.cell? ⟨gb293, 1, none⟩ = some (.slice A0_1 l0_1.length c0_1) := (bw5 BK293.out 1).trans rfl
     have hcz22_2 : wr.cell? ⟨gb293, 2, none⟩ = some (.slice A0_2 l0_2.length c0_2) := (bw5 BK293.out 2).trans rfl
     have hcz22_3 : wr.cell? ⟨gb293, 3, none⟩ = some (.slice A0_3 l0_3.length c0_3) := (bw5 BK293.out 3).trans rfl
     have hfz22_0 := bw7 BK293.out 0
     have hfz22_1 := bw7 BK293.out 1
     have hfz22_2 := bw7 BK293.out 2
     have hfz22_3 := bw7 BK293.out 3
     go_upto_region 10 with (first | ((with_reducible refine gate_callee (f := 62) rfl ?_); refine goesL_ (some 23) rfl rfl Tryz.func62 (by kernel_rfl) rfl #[.agg #[.int .i64 a0_0, .slice A0_1 l0_1.length c0_1, .slice A0_2 l0_2.length c0_2, .slice A0_3 l0_3.length c0_3], .int .i64 x7_1] rfl (by (try simp only [List.map_toArray, List.map_cons, List.map_nil]); first | done | rfl | (simp only [List.length_drop, List.length_take]; rfl)) ?_; (with_reducible refine (giroref35_chosen.calls k1 a0_0 _ _ l0_1 _ _ l0_2 _ _ l0_3 x7_1 t296 t299 _ ?side1 ?side2 ?side3 ?side4 ?side5 ?side6 A7.out).mono ?_); (case side1 => repeat (first | exact (Kd.C_below HR0_1.out HB.out) | (with_reducible refine Kd.C_alloc ?_ _) | (with_reducible refine Kd.C_drewN ?_ _) | (with_reducible refine Kd.C_drew ?_))); (case side2 => exact HC0_1.out); (case side3 => repeat (first | exact (Kd.C_below HR0_2.out HB.out) | (with_reducible refine Kd.C_alloc ?_ _) | (with_reducible refine Kd.C_drewN ?_ _) | (with_reducible refine Kd.C_drew ?_))); (case side4 => exact HC0_2.out); (case side5 => repeat (first | exact (Kd.C_below HR0_3.out HB.out) | (with_reducible refine Kd.C_alloc ?_ _) | (with_reducible refine Kd.C_drewN ?_ _) | (with_reducible refine Kd.C_drew ?_))); (case side6 => exact HC0_3.out); rintro e w23 ⟨v297, v300, rfl, ho0, ho1, hb⟩; refine ⟨_, rfl, ?_⟩; have n0_ := Aside0.mk (Kd.R_elder' (by (with_reducible repeat (first | apply Kd.R_alloc | apply Kd.R_drewN | apply Kd.R_drew)); exact HO_6.out) (Kd.R_base ho1) hb); have n1_ := Aside0.mk (Kd.R_elder' (by (with_reducible repeat (first | apply Kd.R_alloc | apply Kd.R_drewN | apply Kd.R_drew)); exact HO_296000.out) (Kd.R_base ho0) hb); have n2_ := Aside0.mk (Kd.R_elder' (by (with_reducible repeat (first | apply Kd.R_alloc | apply Kd.R_drewN | apply Kd.R_drew)); exact HO_296001.out) (Kd.R_base ho0) hb); have n3_ := Aside0.mk (Kd.R_lower (Kd.R_new' (Kd.R_new' ho0 (Kd.R_lt (by (with_reducible repeat (first | apply Kd.R_alloc | apply Kd.R_drewN | apply Kd.R_drew)); exact HO_296000.out))) (Kd.R_lt (by (with_reducible repeat (first | apply Kd.R_alloc | apply Kd.R_drewN | apply Kd.R_drew)); exact HO_296001.out))) (bx3 (by repeat (first | (with_reducible first | exact HB.out | apply bw2 | apply bw1 | apply bw3 | refine bw4 ?_ GE293.out | refine bw4 ?_ GE294.out | refine bw4 ?_ GE295.out) | exact HB.out)))); have n4_ := Aside0.mk (Kd.R_lower (Kd.R_new' ho1 (Kd.R_lt (by (with_reducible repeat (first | apply Kd.R_alloc | apply Kd.R_drewN | apply Kd.R_drew)); exact HO_6.out))) (bx3 (by repeat (first | (with_reducible first | exact HB.out | apply bw2 | apply bw1 | apply bw3 | refine bw4 ?_ GE293.out | refine bw4 ?_ GE294.out | refine bw4 ?_ GE295.out) | exact HB.out)))); have n5_ := Aside0.mk (bx1 (g := gb293) (o := .cells #[.int .i64 a0_0, .slice A0_1 l0_1.length c0_1, .slice A0_2 l0_2.length c0_2, .slice A0_3 l0_3.length c0_3] 49 (0, 0)) (by (with_reducible repeat (first | refine bw8 ?_ _ | refine bw9 ?_ | refine bw6 ?_ _)); exact BK293.out) hb); have n6_ := Aside0.mk (bx1 (g := gb294) (o := .cells #[.slice none 0 0, .slice none 0 0, .int .i64 0] 54 (0, 0)) (by (with_reducible repeat (first | refine bw8 ?_ _ | refine bw9 ?_ | refine bw6 ?_ _)); exact BK294.out) hb); have n7_ := Aside0.mk (bx1 (g := gb295) (o := .cells #[u296000, u296001, .int .i64 x296002_1] 54 (0, 0)) (by (with_reducible repeat (first | refine bw8 ?_ _ | refine bw9 ?_ | refine bw6 ?_ _)); exact BK295.out) hb); have n8_ := Aside0.mk (bx2 (by repeat (first | (with_reducible first | exact HB.out | apply bw2 | apply bw1 | apply bw3 | refine bw4 ?_ GE293.out | refine bw4 ?_ GE294.out | refine bw4 ?_ GE295.out) | exact HB.out)) hb); clear HO_6; clear HO_296000; clear HO_296001; clear BK293; clear BK294; clear BK295; clear HB; have HO_6 := n0_; have HO_296000 := n1_; have HO_296001 := n2_; have HO298 := n3_; have HO301 := n4_; have BK293 := n5_; have BK294 := n6_; have BK295 := n7_; have HB := n8_; clear n0_ n1_ n2_ n3_ n4_ n5_ n6_ n7_ n8_; (try clear hb); (try clear hb2); (try clear hk); (try clear hi); (try clear ho0); (try clear ho1); have hcz24_0 : w23.cell? ⟨gb293, 0, none⟩ = some (.int .i64 a0_0) := (bw5 BK293.out 0).trans rfl; have hcz24_1 : w23.cell? ⟨gb293, 1, none⟩ = some (.slice A0_1 l0_1.length c0_1) := (bw5 BK293.out 1).trans rfl; have hcz24_2 : w23.cell? ⟨gb293, 2, none⟩ = some (.slice A0_2 l0_2.length c0_2) := (bw5 BK293.out 2).trans rfl; have hcz24_3 : w23.cell? ⟨gb293, 3, none⟩ = some (.slice A0_3 l0_3.length c0_3) := (bw5 BK293.out 3).trans rfl; have hfz24_0 := bw7 BK293.out 0; have hfz24_1 := bw7 BK293.out 1; have hfz24_2 := bw7 BK293.out 2; have hfz24_3 := bw7 BK293.out 3) | ((with_reducible refine gate_callee (f := 31) rfl ?_); refine goesL_ (some 27) rfl rfl Tryz.func31 (by kernel_rfl) rfl #[.agg #[.int .i64 a0_0, .slice A0_1 l0_1.length c0_1, .slice A0_2 l0_2.length c0_2, .slice A0_3 l0_3.length c0_3]] rfl (by (try simp only [List.map_toArray, List.map_cons, List.map_nil]); first | done | rfl | (simp only [List.length_drop, List.length_take]; rfl)) ?_; (with_reducible refine (giroref35_Kept.calls k1 a0_0 _ _ l0_1 _ _ l0_2 _ _ l0_3 t302 _ ?side1 ?side2 ?side3 ?side4 ?side5 ?side6 A8.out).mono ?_); (case side1 => repeat (first | exact (Kd.C_below HR0_1.out HB.out) | (with_reducible refine Kd.C_alloc ?_ _) | (with_reducible refine Kd.C_drewN ?_ _) | (with_reducible refine Kd.C_drew ?_))); (case side2 => exact HC0_1.out); (case side3 => repeat (first | exact (Kd.C_below HR0_2.out HB.out) | (with_reducible refine Kd.C_alloc ?_ _) | (with_reducible refine Kd.C_drewN ?_ _) | (with_reducible refine Kd.C_drew ?_))); (case side4 => exact HC0_2.out); (case side5 => repeat (first | exact (Kd.C_below HR0_3.out HB.out) | (with_reducible refine Kd.C_alloc ?_ _) | (with_reducible refine Kd.C_drewN ?_ _) | (with_reducible refine Kd.C_drew ?_))); (case side6 => exact HC0_3.out); rintro e w25 ⟨rfl, hb⟩; refine ⟨_, rfl, ?_⟩; have n0_ := Aside0.mk (Kd.R_below (by (with_reducible repeat (first | apply Kd.R_alloc | apply Kd.R_drewN | apply Kd.R_drew)); exact HO_6.out) hb); have n1_ := Aside0.mk (Kd.R_below (by (with_reducible repeat (first | apply Kd.R_alloc | apply Kd.R_drewN | apply Kd.R_drew)); exact HO_296000.out) hb); have n2_ := Aside0.mk (Kd.R_below (by (with_reducible repeat (first | apply Kd.R_alloc | apply Kd.R_drewN | apply Kd.R_drew)); exact HO_296001.out) hb); have n3_ := Aside0.mk (Kd.R_below (by (with_reducible repeat (first | apply Kd.R_alloc | apply Kd.R_drewN | apply Kd.R_drew)); exact HO298.out) hb); have n4_ := Aside0.mk (Kd.R_below (by (with_reducible repeat (first | apply Kd.R_alloc | apply Kd.R_drewN | apply Kd.R_drew)); exact HO301.out) hb); have n5_ := Aside0.mk (bx1 (g := gb293) (o := .cells #[.int .i64 a0_0, .slice A0_1 l0_1.length c0_1, .slice A0_2 l0_2.length c0_2, .slice A0_3 l0_3.length c0_3] 49 (0, 0)) (by (with_reducible repeat (first | refine bw8 ?_ _ | refine bw9 ?_ | refine bw6 ?_ _)); exact BK293.out) hb); have n6_ := Aside0.mk (bx1 (g := gb294) (o := .cells #[.slice none 0 0, .slice none 0 0, .int .i64 0] 54 (0, 0)) (by (with_reducible repeat (first | refine bw8 ?_ _ | refine bw9 ?_ | refine bw6 ?_ _)); exact BK294.out) hb); have n7_ := Aside0.mk (bx1 (g := gb295) (o := .cells #[u296000, u296001, .int .i64 x296002_1] 54 (0, 0)) (by (with_reducible repeat (first | refine bw8 ?_ _ | refine bw9 ?_ | refine bw6 ?_ _)); exact BK295.out) hb); have n8_ := Aside0.mk (bx2 (by repeat (first | (with_reducible first | exact HB.out | apply bw2 | apply bw1 | apply bw3 | refine bw4 ?_ GE293.out | refine bw4 ?_ GE294.out | refine bw4 ?_ GE295.out) | exact HB.out)) hb); clear HO_6; clear HO_296000; clear HO_296001; clear HO298; clear HO301; clear BK293; clear BK294; clear BK295; clear HB; have HO_6 := n0_; have HO_296000 := n1_; have HO_296001 := n2_; have HO298 := n3_; have HO301 := n4_; have BK293 := n5_; have BK294 := n6_; have BK295 := n7_; have HB := n8_; clear n0_ n1_ n2_ n3_ n4_ n5_ n6_ n7_ n8_; (try clear hb); (try clear hb2); (try clear hk); (try clear hi); obtain ⟨Ao26, co26, eo26⟩ := Kd.R_slice HO298.out; subst eo26) | ((with_reducible refine gate_callee (f := 57) rfl ?_); refine goesL_ (some 29) rfl rfl Tryz.func57 (by kernel_rfl) rfl #[.slice Ao26 t296.length co26] rfl (by (try simp only [List.map_toArray, List.map_cons, List.map_nil]); first | done | rfl | (simp only [List.length_drop, List.length_take]; rfl)) ?_; (with_reducible refine (giroref35_Sum.calls k1 _ _ t296 t303 _ ?side1 ?side2 A9.out).mono ?_); (case side1 => repeat (first | exact (Kd.R_reads' HO298.out).2.2 | (with_reducible refine Kd.C_alloc ?_ _) | (with_reducible refine Kd.C_drewN ?_ _) | (with_reducible refine Kd.C_drew ?_))); (case side2 => exact (Kd.R_reads' HO298.out).2.1); rintro e w' ⟨rfl, ⟨nd, rfl⟩⟩; refine ⟨_, rfl, ?_⟩; have hcz27_0 : w25.cell? ⟨gb293, 0, none⟩ = some (.int .i64 a0_0) := (bw5 BK293.out 0).trans rfl; have hcz27_1 : w25.cell? ⟨gb293, 1, none⟩ = some (.slice A0_1 l0_1.length c0_1) := (bw5 BK293.out 1).trans rfl; have hcz27_2 : w25.cell? ⟨gb293, 2, none⟩ = some (.slice A0_2 l0_2.length c0_2) := (bw5 BK293.out 2).trans rfl; have hcz27_3 : w25.cell? ⟨gb293, 3, none⟩ = some (.slice A0_3 l0_3.length c0_3) := (bw5 BK293.out 3).trans rfl; have hfz27_0 := bw7 BK293.out 0; have hfz27_1 := bw7 BK293.out 1; have hfz27_2 := bw7 BK293.out 2; have hfz27_3 := bw7 BK293.out 3))
     (try simp only [Act.put, zA_, zB_, zC_])
     go_cut [11] (fun v11 wc => ∃ (kq : Nat) (x11_18 : Bool), v11 = .bool x11_18 ∧ Aside0 (giroref35_Best.j1 kq x4_1 x6_1 x7_1 t296 t299 (wrap64 (t302 + t303)) x11_18 a0_0 l0_1 l0_2 l0_3 x296000_1 x296001_1 x296002_1 = some (r1, r2, r3, r4)) ∧ Aside0 (kq ≤ k1) ∧ Aside0 (Kd.R (Kd.int .i64) 3 wc w.heap.size (fun k_ => some k_ ≠ (v300 : Value).ownBlock) u6 x6_1) ∧ Aside0 (Kd.R k109 109 wc w.heap.size (fun k_ => some k_ ≠ (u296000 : Value).ownBlock ∧ some k_ ≠ (u296001 : Value).ownBlock) (.slice Ao26 t296.length co26) t296) ∧ Aside0 (Kd.R (Kd.int .i64) 3 wc w.heap.size (fun k_ => some k_ ≠ (u6 : Value).ownBlock) v300 t299) ∧ Aside0 (Kd.R k109 109 wc w.heap.size (fun k_ => some k_ ≠ ((.slice Ao26 t296.length co26) : Value).ownBlock ∧ some k_ ≠ (u296001 : Value).ownBlock) u296000 x296000_1) ∧ Aside0 (Kd.R k109 109 wc w.heap.size (fun k_ => some k_ ≠ ((.slice Ao26 t296.length co26) : Value).ownBlock ∧ some k_ ≠ (u296000 : Value).ownBlock) u296001 x296001_1) ∧ Aside0 (wc.heap[gb293]? = some (.cells #[.int .i64 a0_0, (.slice A0_1 l0_1.length c0_1), (.slice A0_2 l0_2.length c0_2), (.slice A0_3 l0_3.length c0_3)] 49 (0, 0))) ∧ Aside0 (wc.heap[gb294]? = some (.cells #[(.slice none 0 0), (.slice none 0 0), .int .i64 0] 54 (0, 0))) ∧ Aside0 (wc.heap[gb295]? = some (.cells #[u296000, u296001, .int .i64 x296002_1] 54 (0, 0))) ∧ Aside0 (Below w.heap.size w wc))
     case first =>
      have H := HC19.out
      clear HC19
      by_cases c28 : x4_1 = true
      ·subst c28
       have H1 : (giroref35_Best.j1 k1 true x6_1 x7_1 t296 t299 (wrap64 (t302 + t303)) (decide ((t296.length : Int) < (x296000_1.length : Int))) a0_0 l0_1 l0_2 l0_3 x296000_1 x296001_1 x296002_1) = some (r1, r2, r3, r4) := by rw [if_pos rfl] at H; exact H
       clear H
       have H := H1
       clear H1
       have H' := Aside0.mk H
       clear H
       have hnb29 := NB295_293.out
       have hnc29 := NB293_295.out
       have hnb30 := NB295_294.out
       have hnc30 := NB294_295.out
       have hcz31_0 : w25.cell? ⟨gb295, 0, none⟩ = some (u296000) := (bw5 BK295.out 0).trans rfl
       have hcz31_1 : w25.cell? ⟨gb295, 1, none⟩ = some (u296001) := (bw5 BK295.out 1).trans rfl
       have hcz31_2 : w25.cell? ⟨gb295, 2, none⟩ = some (.int .i64 x296002_1) := (bw5 BK295.out 2).trans rfl
       have hfz31_0 := bw7 BK295.out 0
       have hfz31_1 := bw7 BK295.out 1
       have hfz31_2 := bw7 BK295.out 2
       obtain ⟨Ao32, co32, eo32⟩ := Kd.R_slice HO_296000.out
       subst eo32
       go_wp2
       go_meet
       case rel => exact ⟨_, (decide ((t296.length : Int) < (x296000_1.length : Int))), (by first | rfl | (simp; done) | (simp [*]; done)), H', ⟨by have := HK1.out; first | omega | exact Nat.le_refl _⟩, ⟨by (with_reducible repeat (first | apply Kd.R_alloc | apply Kd.R_drewN | apply Kd.R_drew)); exact Kd.R_mono HO_6.out (fun _ hk => hk.2)⟩, ⟨by (with_reducible repeat (first | apply Kd.R_alloc | apply Kd.R_drewN | apply Kd.R_drew)); exact Kd.R_mono HO298.out (fun _ hk => ⟨hk.1.2, hk.2⟩)⟩, ⟨by (with_reducible repeat (first | apply Kd.R_alloc | apply Kd.R_drewN | apply Kd.R_drew)); exact Kd.R_mono HO301.out (fun _ hk => hk.2)⟩, ⟨by (with_reducible repeat (first | apply Kd.R_alloc | apply Kd.R_drewN | apply Kd.R_drew)); exact Kd.R_mono HO_296000.out (fun _ hk => ⟨hk.2, hk.1⟩)⟩, ⟨by (with_reducible repeat (first | apply Kd.R_alloc | apply Kd.R_drewN | apply Kd.R_drew)); exact Kd.R_mono HO_296001.out (fun _ hk => ⟨hk.2, hk.1⟩)⟩, ⟨by (with_reducible repeat (first | refine bw8 ?_ _ | refine bw9 ?_ | refine bw6 ?_ _)); exact BK293.out⟩, ⟨by (with_reducible repeat (first | refine bw8 ?_ _ | refine bw9 ?_ | refine bw6 ?_ _)); exact BK294.out⟩, ⟨by (with_reducible repeat (first | refine bw8 ?_ _ | refine bw9 ?_ | refine bw6 ?_ _)); exact BK295.out⟩, ⟨by repeat (first | (with_reducible first | exact HB.out | apply bw2 | apply bw1 | apply bw3 | refine bw4 ?_ GE293.out | refine bw4 ?_ GE294.out | refine bw4 ?_ GE295.out) | exact HB.out)⟩⟩
      ·replace c28 := Bool.eq_false_iff.mpr c28
       subst c28
       have H1 : (giroref35_Best.j1 k1 false x6_1 x7_1 t296 t299 (wrap64 (t302 + t303)) true a0_0 l0_1 l0_2 l0_3 x296000_1 x296001_1 x296002_1) = some (r1, r2, r3, r4) := by rw [if_neg (show ¬ (false = true) by decide)] at H; exact H
       clear H
       have H := H1
       clear H1
       have H' := Aside0.mk H
       clear H
       go_wp2
       go_meet
       case rel => exact ⟨_, (true), (by first | rfl | (simp; done) | (simp [*]; done)), H', ⟨by have := HK1.out; first | omega | exact Nat.le_refl _⟩, ⟨by (with_reducible repeat (first | apply Kd.R_alloc | apply Kd.R_drewN | apply Kd.R_drew)); exact Kd.R_mono HO_6.out (fun _ hk => hk.2)⟩, ⟨by (with_reducible repeat (first | apply Kd.R_alloc | apply Kd.R_drewN | apply Kd.R_drew)); exact Kd.R_mono HO298.out (fun _ hk => ⟨hk.1.2, hk.2⟩)⟩, ⟨by (with_reducible repeat (first | apply Kd.R_alloc | apply Kd.R_drewN | apply Kd.R_drew)); exact Kd.R_mono HO301.out (fun _ hk => hk.2)⟩, ⟨by (with_reducible repeat (first | apply Kd.R_alloc | apply Kd.R_drewN | apply Kd.R_drew)); exact Kd.R_mono HO_296000.out (fun _ hk => ⟨hk.2, hk.1⟩)⟩, ⟨by (with_reducible repeat (first | apply Kd.R_alloc | apply Kd.R_drewN | apply Kd.R_drew)); exact Kd.R_mono HO_296001.out (fun _ hk => ⟨hk.2, hk.1⟩)⟩, ⟨by (with_reducible repeat (first | refine bw8 ?_ _ | refine bw9 ?_ | refine bw6 ?_ _)); exact BK293.out⟩, ⟨by (with_reducible repeat (first | refine bw8 ?_ _ | refine bw9 ?_ | refine bw6 ?_ _)); exact BK294.out⟩, ⟨by (with_reducible repeat (first | refine bw8 ?_ _ | refine bw9 ?_ | refine bw6 ?_ _)); exact BK295.out⟩, ⟨by repeat (first | (with_reducible first | exact HB.out | apply bw2 | apply bw1 | apply bw3 | refine bw4 ?_ GE293.out | refine bw4 ?_ GE294.out | refine bw4 ?_ GE295.out) | exact HB.out)⟩⟩
     case rest =>
      clear HC19
      try clear c1
      try clear c2
      try clear p2
      try clear c3
      try clear c5
      try clear c6
      try clear c6b0
      try clear p6
      try clear c10
      try clear c10b0
      try clear c11
      try clear c12
      try clear c20
      try clear c21
      try clear c24
      try clear c28
      try clear c29
      try clear c30
      try clear c31
      try clear hcz13_0
      try clear hcz13_1
      try clear hcz13_2
      try clear hcz13_3
      try clear hcz15_0
      try clear hcz15_1
      try clear hcz15_2
      try clear hcz15_3
      try clear hcz18_0
      try clear hcz18_1
      try clear hcz18_2
      try clear hcz18_3
      try clear hcz22_0
      try clear hcz22_1
      try clear hcz22_2
      try clear hcz22_3
      try clear hcz24_0
      try clear hcz24_1
      try clear hcz24_2
      try clear hcz24_3
      try clear hcz27_0
      try clear hcz27_1
      try clear hcz27_2
      try clear hcz27_3
      try clear hcz31_0
      try clear hcz31_1
      try clear hcz31_2
      try clear hfz13_0
      try clear hfz13_1
      try clear hfz13_2
      try clear hfz13_3
      try clear hfz15_0
      try clear hfz15_1
      try clear hfz15_2
      try clear hfz15_3
      try clear hfz18_0
      try clear hfz18_1
      try clear hfz18_2
      try clear hfz18_3
      try clear hfz22_0
      try clear hfz22_1
      try clear hfz22_2
      try clear hfz22_3
      try clear hfz24_0
      try clear hfz24_1
      try clear hfz24_2
      try clear hfz24_3
      try clear hfz27_0
      try clear hfz27_1
      try clear hfz27_2
      try clear hfz27_3
      try clear hfz31_0
      try clear hfz31_1
      try clear hfz31_2
      try clear p2
      obtain ⟨kq, x11_18, rfl, HA, HJ18, HO_6, HO_8, HO_9, HO_296000, HO_296001, BK293, BK294, BK295, HB⟩ := hcut
      cases kq with
      | zero => exact absurd HA.out (by simp [giroref35_Best.j1])
      | succ kj18 =>
       have H := HA.out
       clear HA
       simp only [giroref35_Best.j1] at H
       have HC33 := Aside0.mk H
       clear H
       go_upto_region 11 with (fail)
       go_cut [53] (fun v53 wc => ∃ (kq : Nat) (x53_32 : Bool), v53 = .bool x53_32 ∧ Aside0 (giroref35_Best.j2 kq x4_1 x6_1 x7_1 t296 t299 (wrap64 (t302 + t303)) x11_18 x53_32 a0_0 l0_1 l0_2 l0_3 x296000_1 x296001_1 x296002_1 = some (r1, r2, r3, r4)) ∧ Aside0 (kq ≤ kj18) ∧ Aside0 (Kd.R (Kd.int .i64) 3 wc w.heap.size (fun k_ => some k_ ≠ (v300 : Value).ownBlock) u6 x6_1) ∧ Aside0 (Kd.R k109 109 wc w.heap.size (fun k_ => some k_ ≠ (u296000 : Value).ownBlock ∧ some k_ ≠ (u296001 : Value).ownBlock) (.slice Ao26 t296.length co26) t296) ∧ Aside0 (Kd.R (Kd.int .i64) 3 wc w.heap.size (fun k_ => some k_ ≠ (u6 : Value).ownBlock) v300 t299) ∧ Aside0 (Kd.R k109 109 wc w.heap.size (fun k_ => some k_ ≠ ((.slice Ao26 t296.length co26) : Value).ownBlock ∧ some k_ ≠ (u296001 : Value).ownBlock) u296000 x296000_1) ∧ Aside0 (Kd.R k109 109 wc w.heap.size (fun k_ => some k_ ≠ ((.slice Ao26 t296.length co26) : Value).ownBlock ∧ some k_ ≠ (u296000 : Value).ownBlock) u296001 x296001_1) ∧ Aside0 (wc.heap[gb293]? = some (.cells #[.int .i64 a0_0, (.slice A0_1 l0_1.length c0_1), (.slice A0_2 l0_2.length c0_2), (.slice A0_3 l0_3.length c0_3)] 49 (0, 0))) ∧ Aside0 (wc.heap[gb294]? = some (.cells #[(.slice none 0 0), (.slice none 0 0), .int .i64 0] 54 (0, 0))) ∧ Aside0 (wc.heap[gb295]? = some (.cells #[u296000, u296001, .int .i64 x296002_1] 54 (0, 0))) ∧ Aside0 (Below w.heap.size w wc))
       case first =>
        have H := HC33.out
        clear HC33
        by_cases c34 : x4_1 = true
        ·subst c34
         have H1 : (giroref35_Best.j2 kj18 true x6_1 x7_1 t296 t299 (wrap64 (t302 + t303)) x11_18 ((t296.length : Int) == (x296000_1.length : Int)) a0_0 l0_1 l0_2 l0_3 x296000_1 x296001_1 x296002_1) = some (r1, r2, r3, r4) := by rw [if_pos rfl] at H; exact H
         clear H
         have H := H1
         clear H1
         have H' := Aside0.mk H
         clear H
         have hnb35 := NB295_293.out
         have hnc35 := NB293_295.out
         have hnb36 := NB295_294.out
         have hnc36 := NB294_295.out
         have hcz37_0 : wc.cell? ⟨gb295, 0, none⟩ = some (u296000) := (bw5 BK295.out 0).trans rfl
         have hcz37_1 : wc.cell? ⟨gb295, 1, none⟩ = some (u296001) := (bw5 BK295.out 1).trans rfl
         have hcz37_2 : wc.cell? ⟨gb295, 2, none⟩ = some (.int .i64 x296002_1) := (bw5 BK295.out 2).trans rfl
         have hfz37_0 := bw7 BK295.out 0
         have hfz37_1 := bw7 BK295.out 1
         have hfz37_2 := bw7 BK295.out 2
         obtain ⟨Ao38, co38, eo38⟩ := Kd.R_slice HO_296000.out
         subst eo38
         go_wp2
         go_meet
         case rel => exact ⟨_, (((t296.length : Int) == (x296000_1.length : Int))), (by first | rfl | (simp; done) | (simp [*]; done)), H', ⟨by have := HK1.out; have := HJ18.out; first | omega | exact Nat.le_refl _⟩, ⟨by (with_reducible repeat (first | apply Kd.R_alloc | apply Kd.R_drewN | apply Kd.R_drew)); exact HO_6.out⟩, ⟨by (with_reducible repeat (first | apply Kd.R_alloc | apply Kd.R_drewN | apply Kd.R_drew)); exact HO_8.out⟩, ⟨by (with_reducible repeat (first | apply Kd.R_alloc | apply Kd.R_drewN | apply Kd.R_drew)); exact HO_9.out⟩, ⟨by (with_reducible repeat (first | apply Kd.R_alloc | apply Kd.R_drewN | apply Kd.R_drew)); exact HO_296000.out⟩, ⟨by (with_reducible repeat (first | apply Kd.R_alloc | apply Kd.R_drewN | apply Kd.R_drew)); exact HO_296001.out⟩, ⟨by (with_reducible repeat (first | refine bw8 ?_ _ | refine bw9 ?_ | refine bw6 ?_ _)); exact BK293.out⟩, ⟨by (with_reducible repeat (first | refine bw8 ?_ _ | refine bw9 ?_ | refine bw6 ?_ _)); exact BK294.out⟩, ⟨by (with_reducible repeat (first | refine bw8 ?_ _ | refine bw9 ?_ | refine bw6 ?_ _)); exact BK295.out⟩, ⟨by repeat (first | (with_reducible first | exact HB.out | apply bw2 | apply bw1 | apply bw3 | refine bw4 ?_ GE293.out | refine bw4 ?_ GE294.out | refine bw4 ?_ GE295.out) | exact HB.out)⟩⟩
        ·replace c34 := Bool.eq_false_iff.mpr c34
         subst c34
         have H1 : (giroref35_Best.j2 kj18 false x6_1 x7_1 t296 t299 (wrap64 (t302 + t303)) x11_18 false a0_0 l0_1 l0_2 l0_3 x296000_1 x296001_1 x296002_1) = some (r1, r2, r3, r4) := by rw [if_neg (show ¬ (false = true) by decide)] at H; exact H
         clear H
         have H := H1
         clear H1
         have H' := Aside0.mk H
         clear H
         go_wp2
         go_meet
         case rel => exact ⟨_, (false), (by first | rfl | (simp; done) | (simp [*]; done)), H', ⟨by have := HK1.out; have := HJ18.out; first | omega | exact Nat.le_refl _⟩, ⟨by (with_reducible repeat (first | apply Kd.R_alloc | apply Kd.R_drewN | apply Kd.R_drew)); exact HO_6.out⟩, ⟨by (with_reducible repeat (first | apply Kd.R_alloc | apply Kd.R_drewN | apply Kd.R_drew)); exact HO_8.out⟩, ⟨by (with_reducible repeat (first | apply Kd.R_alloc | apply Kd.R_drewN | apply Kd.R_drew)); exact HO_9.out⟩, ⟨by (with_reducible repeat (first | apply Kd.R_alloc | apply Kd.R_drewN | apply Kd.R_drew)); exact HO_296000.out⟩, ⟨by (with_reducible repeat (first | apply Kd.R_alloc | apply Kd.R_drewN | apply Kd.R_drew)); exact HO_296001.out⟩, ⟨by (with_reducible repeat (first | refine bw8 ?_ _ | refine bw9 ?_ | refine bw6 ?_ _)); exact BK293.out⟩, ⟨by (with_reducible repeat (first | refine bw8 ?_ _ | refine bw9 ?_ | refine bw6 ?_ _)); exact BK294.out⟩, ⟨by (with_reducible repeat (first | refine bw8 ?_ _ | refine bw9 ?_ | refine bw6 ?_ _)); exact BK295.out⟩, ⟨by repeat (first | (with_reducible first | exact HB.out | apply bw2 | apply bw1 | apply bw3 | refine bw4 ?_ GE293.out | refine bw4 ?_ GE294.out | refine bw4 ?_ GE295.out) | exact HB.out)⟩⟩
       case rest =>
        clear HC33
        try clear c1
        try clear c2
        try clear p2
        try clear c3
        try clear c5
        try clear c6
        try clear c6b0
        try clear p6
        try clear c10
        try clear c10b0
        try clear c11
        try clear c12
        try clear c20
        try clear c21
        try clear c24
        try clear c28
        try clear c29
        try clear c30
        try clear c31
        try clear c34
        try clear c35
        try clear c36
        try clear hcz13_0
        try clear hcz13_1
        try clear hcz13_2
        try clear hcz13_3
        try clear hcz15_0
        try clear hcz15_1
        try clear hcz15_2
        try clear hcz15_3
        try clear hcz18_0
        try clear hcz18_1
        try clear hcz18_2
        try clear hcz18_3
        try clear hcz22_0
        try clear hcz22_1
        try clear hcz22_2
        try clear hcz22_3
        try clear hcz24_0
        try clear hcz24_1
        try clear hcz24_2
        try clear hcz24_3
        try clear hcz27_0
        try clear hcz27_1
        try clear hcz27_2
        try clear hcz27_3
        try clear hcz31_0
        try clear hcz31_1
        try clear hcz31_2
        try clear hcz37_0
        try clear hcz37_1
        try clear hcz37_2
        try clear hfz13_0
        try clear hfz13_1
        try clear hfz13_2
        try clear hfz13_3
        try clear hfz15_0
        try clear hfz15_1
        try clear hfz15_2
        try clear hfz15_3
        try clear hfz18_0
        try clear hfz18_1
        try clear hfz18_2
        try clear hfz18_3
        try clear hfz22_0
        try clear hfz22_1
        try clear hfz22_2
        try clear hfz22_3
        try clear hfz24_0
        try clear hfz24_1
        try clear hfz24_2
        try clear hfz24_3
        try clear hfz27_0
        try clear hfz27_1
        try clear hfz27_2
        try clear hfz27_3
        try clear hfz31_0
        try clear hfz31_1
        try clear hfz31_2
        try clear hfz37_0
        try clear hfz37_1
        try clear hfz37_2
        try clear p2
        try clear p6
        obtain ⟨kq, x53_32, rfl, HA, HJ32, HO_6, HO_8, HO_9, HO_296000, HO_296001, BK293, BK294, BK295, HB⟩ := hcut
        cases kq with
        | zero => exact absurd HA.out (by simp [giroref35_Best.j2])
        | succ kj32 =>
         have H := HA.out
         clear HA
         simp only [giroref35_Best.j2] at H
         by_cases c39 : x53_32 = true
         ·subst c39
          have H1 : (if (wrap64 (t302 + t303)) < x296002_1 then ((giroref35_Released.f kj32 a0_0 l0_1 l0_2 l0_3).bind fun t304 => (giroref35_Best.l0 kj32 true t299 (wrap64 (x7_1 + 1)) a0_0 l0_1 l0_2 l0_3 t296 t304 (wrap64 (t302 + t303)))) else (if (wrap64 (t302 + t303)) = x296002_1 then ((giroref35_less.f kj32 t299 x6_1).bind fun t307 => (if t307 = true then ((giroref35_Released.f kj32 a0_0 l0_1 l0_2 l0_3).bind fun t308 => (giroref35_Best.l0 kj32 true t299 (wrap64 (x7_1 + 1)) a0_0 l0_1 l0_2 l0_3 t296 t308 (wrap64 (t302 + t303)))) else (giroref35_Best.l0 kj32 x4_1 x6_1 (wrap64 (x7_1 + 1)) a0_0 l0_1 l0_2 l0_3 x296000_1 x296001_1 x296002_1))) else (giroref35_Best.l0 kj32 x4_1 x6_1 (wrap64 (x7_1 + 1)) a0_0 l0_1 l0_2 l0_3 x296000_1 x296001_1 x296002_1))) = some (r1, r2, r3, r4) := by rw [if_pos rfl] at H; exact H
          clear H
          have H := H1
          clear H1
          by_cases c40 : (wrap64 (t302 + t303)) < x296002_1
          ·rw [if_pos c40] at H
           have c40b0 : decide ((wrap64 (t302 + t303)) < x296002_1) = true := decide_eq_true c40
           clear c40
           replace H := Option.bind_eq_some_iff.mp H
           obtain ⟨t304, A410, H⟩ := H
           replace H : (giroref35_Best.l0 kj32 true t299 (wrap64 (x7_1 + 1)) a0_0 l0_1 l0_2 l0_3 t296 t304 (wrap64 (t302 + t303))) = some (r1, r2, r3, r4) := H
           have A41 := Aside0.mk A410
           clear A410
           have H' := Aside0.mk H
           clear H
           have hnb42 := NB295_293.out
           have hnc42 := NB293_295.out
           have hnb43 := NB295_294.out
           have hnc43 := NB294_295.out
           have hcz44_0 : wc.cell? ⟨gb295, 0, none⟩ = some (u296000) := (bw5 BK295.out 0).trans rfl
           have hcz44_1 : wc.cell? ⟨gb295, 1, none⟩ = some (u296001) := (bw5 BK295.out 1).trans rfl
           have hcz44_2 : wc.cell? ⟨gb295, 2, none⟩ = some (.int .i64 x296002_1) := (bw5 BK295.out 2).trans rfl
           have hfz44_0 := bw7 BK295.out 0
           have hfz44_1 := bw7 BK295.out 1
           have hfz44_2 := bw7 BK295.out 2
           have hnb45 := NB293_294.out
           have hnc45 := NB294_293.out
           have hcz46_0 : wc.cell? ⟨gb293, 0, none⟩ = some (.int .i64 a0_0) := (bw5 BK293.out 0).trans rfl
           have hcz46_1 : wc.cell? ⟨gb293, 1, none⟩ = some (.slice A0_1 l0_1.length c0_1) := (bw5 BK293.out 1).trans rfl
           have hcz46_2 : wc.cell? ⟨gb293, 2, none⟩ = some (.slice A0_2 l0_2.length c0_2) := (bw5 BK293.out 2).trans rfl
           have hcz46_3 : wc.cell? ⟨gb293, 3, none⟩ = some (.slice A0_3 l0_3.length c0_3) := (bw5 BK293.out 3).trans rfl
           have hfz46_0 := bw7 BK293.out 0
           have hfz46_1 := bw7 BK293.out 1
           have hfz46_2 := bw7 BK293.out 2
           have hfz46_3 := bw7 BK293.out 3
           go_wp2_with (first | ((with_reducible refine gate_callee (f := 59) rfl ?_); refine goesL_ (some 73) rfl rfl Tryz.func59 (by kernel_rfl) rfl #[.agg #[.int .i64 a0_0, .slice A0_1 l0_1.length c0_1, .slice A0_2 l0_2.length c0_2, .slice A0_3 l0_3.length c0_3]] rfl (by (try simp only [List.map_toArray, List.map_cons, List.map_nil]); first | done | rfl | (simp only [List.length_drop, List.length_take]; rfl)) ?_; (with_reducible refine (giroref35_Released.calls kj32 a0_0 _ _ l0_1 _ _ l0_2 _ _ l0_3 t304 _ ?side1 ?side2 ?side3 ?side4 ?side5 ?side6 A41.out).mono ?_); (case side1 => repeat (first | exact (Kd.C_below HR0_1.out HB.out) | (with_reducible refine Kd.C_alloc ?_ _) | (with_reducible refine Kd.C_drewN ?_ _) | (with_reducible refine Kd.C_drew ?_))); (case side2 => exact HC0_1.out); (case side3 => repeat (first | exact (Kd.C_below HR0_2.out HB.out) | (with_reducible refine Kd.C_alloc ?_ _) | (with_reducible refine Kd.C_drewN ?_ _) | (with_reducible refine Kd.C_drew ?_))); (case side4 => exact HC0_2.out); (case side5 => repeat (first | exact (Kd.C_below HR0_3.out HB.out) | (with_reducible refine Kd.C_alloc ?_ _) | (with_reducible refine Kd.C_drewN ?_ _) | (with_reducible refine Kd.C_drew ?_))); (case side6 => exact HC0_3.out); rintro e w47 ⟨v305, rfl, ho0, hb⟩; refine ⟨_, rfl, ?_⟩; have n0_ := Aside0.mk (Kd.R_below (by (with_reducible repeat (first | apply Kd.R_alloc | apply Kd.R_drewN | apply Kd.R_drew)); exact HO_6.out) hb); have n1_ := Aside0.mk (Kd.R_elder' (by (with_reducible repeat (first | apply Kd.R_alloc | apply Kd.R_drewN | apply Kd.R_drew)); exact HO_8.out) (Kd.R_base ho0) hb); have n2_ := Aside0.mk (Kd.R_below (by (with_reducible repeat (first | apply Kd.R_alloc | apply Kd.R_drewN | apply Kd.R_drew)); exact HO_9.out) hb); have n3_ := Aside0.mk (Kd.R_elder' (by (with_reducible repeat (first | apply Kd.R_alloc | apply Kd.R_drewN | apply Kd.R_drew)); exact HO_296000.out) (Kd.R_base ho0) hb); have n4_ := Aside0.mk (Kd.R_elder' (by (with_reducible repeat (first | apply Kd.R_alloc | apply Kd.R_drewN | apply Kd.R_drew)); exact HO_296001.out) (Kd.R_base ho0) hb); have n5_ := Aside0.mk (Kd.R_lower (Kd.R_new' (Kd.R_new' (Kd.R_new' ho0 (Kd.R_lt (by (with_reducible repeat (first | apply Kd.R_alloc | apply Kd.R_drewN | apply Kd.R_drew)); exact HO_8.out))) (Kd.R_lt (by (with_reducible repeat (first | apply Kd.R_alloc | apply Kd.R_drewN | apply Kd.R_drew)); exact HO_296000.out))) (Kd.R_lt (by (with_reducible repeat (first | apply Kd.R_alloc | apply Kd.R_drewN | apply Kd.R_drew)); exact HO_296001.out))) (bx3 (by repeat (first | (with_reducible first | exact HB.out | apply bw2 | apply bw1 | apply bw3 | refine bw4 ?_ GE293.out | refine bw4 ?_ GE294.out | refine bw4 ?_ GE295.out) | exact HB.out)))); have n6_ := Aside0.mk (bx1 (g := gb293) (o := .cells #[.int .i64 a0_0, .slice A0_1 l0_1.length c0_1, .slice A0_2 l0_2.length c0_2, .slice A0_3 l0_3.length c0_3] 49 (0, 0)) (by (with_reducible repeat (first | refine bw8 ?_ _ | refine bw9 ?_ | refine bw6 ?_ _)); exact BK293.out) hb); have n7_ := Aside0.mk (bx1 (g := gb294) (o := .cells #[.slice none 0 0, .slice none 0 0, .int .i64 0] 54 (0, 0)) (by (with_reducible repeat (first | refine bw8 ?_ _ | refine bw9 ?_ | refine bw6 ?_ _)); exact BK294.out) hb); have n8_ := Aside0.mk (bx1 (g := gb295) (o := .cells #[u296000, u296001, .int .i64 x296002_1] 54 (0, 0)) (by (with_reducible repeat (first | refine bw8 ?_ _ | refine bw9 ?_ | refine bw6 ?_ _)); exact BK295.out) hb); have n9_ := Aside0.mk (bx2 (by repeat (first | (with_reducible first | exact HB.out | apply bw2 | apply bw1 | apply bw3 | refine bw4 ?_ GE293.out | refine bw4 ?_ GE294.out | refine bw4 ?_ GE295.out) | exact HB.out)) hb); clear HO_6; clear HO_8; clear HO_9; clear HO_296000; clear HO_296001; clear BK293; clear BK294; clear BK295; clear HB; have HO_6 := n0_; have HO_8 := n1_; have HO_9 := n2_; have HO_296000 := n3_; have HO_296001 := n4_; have HO306 := n5_; have BK293 := n6_; have BK294 := n7_; have BK295 := n8_; have HB := n9_; clear n0_ n1_ n2_ n3_ n4_ n5_ n6_ n7_ n8_ n9_; (try clear hb); (try clear hb2); (try clear hk); (try clear hi); (try clear ho0); obtain ⟨Ao48, co48, eo48⟩ := Kd.R_slice HO306.out; subst eo48; have hcz49_0 : w47.cell? ⟨gb295, 0, none⟩ = some (u296000) := (bw5 BK295.out 0).trans rfl; have hcz49_1 : w47.cell? ⟨gb295, 1, none⟩ = some (u296001) := (bw5 BK295.out 1).trans rfl; have hcz49_2 : w47.cell? ⟨gb295, 2, none⟩ = some (.int .i64 x296002_1) := (bw5 BK295.out 2).trans rfl; have hfz49_0 := bw7 BK295.out 0; have hfz49_1 := bw7 BK295.out 1; have hfz49_2 := bw7 BK295.out 2))
           go_roundg kj32
           case measure => have := HK1.out; have := HJ18.out; have := HJ32.out; omega
           case rel => exact ⟨(true), (t299), (wrap64 (x7_1 + 1)), (t296), (t304), ((wrap64 (t302 + t303))), (.slice Ao26 t296.length co26), (.slice Ao48 t304.length co48), (by first | rfl | (simp; done) | (simp [*]; done)), (by first | rfl | (simp; done) | (simp [*]; done)), H', ⟨by have := HK1.out; have := HJ18.out; have := HJ32.out; omega⟩, ⟨by (with_reducible repeat (first | apply Kd.R_alloc | apply Kd.R_drewN | apply Kd.R_drew)); exact Kd.R_mono (Kd.R_far (p := ⟨gb295, 2, none⟩) (Kd.R_far (p := ⟨gb295, 1, none⟩) (Kd.R_far (p := ⟨gb295, 0, none⟩) (Kd.R_types HO_9.out BK295.out (by decide)) (fun _ hk => hk.2) (.slice Ao26 t296.length co26)) (fun _ hk => hk.2) (.slice Ao48 t304.length co48)) (fun _ hk => hk.2) (.int .i64 (wrap64 (t302 + t303)))) (fun _ hk => trivial)⟩, ⟨by (with_reducible repeat (first | apply Kd.R_alloc | apply Kd.R_drewN | apply Kd.R_drew)); exact Kd.R_mono (Kd.R_far (p := ⟨gb295, 2, none⟩) (Kd.R_far (p := ⟨gb295, 1, none⟩) (Kd.R_far (p := ⟨gb295, 0, none⟩) (Kd.R_types HO_8.out BK295.out (by decide)) (fun _ hk => hk.2) (.slice Ao26 t296.length co26)) (fun _ hk => hk.2) (.slice Ao48 t304.length co48)) (fun _ hk => hk.2) (.int .i64 (wrap64 (t302 + t303)))) (fun _ hk => hk.1.2)⟩, ⟨by (with_reducible repeat (first | apply Kd.R_alloc | apply Kd.R_drewN | apply Kd.R_drew)); exact Kd.R_mono (Kd.R_far (p := ⟨gb295, 2, none⟩) (Kd.R_far (p := ⟨gb295, 1, none⟩) (Kd.R_far (p := ⟨gb295, 0, none⟩) (Kd.R_types HO306.out BK295.out (by decide)) (fun _ hk => hk.2) (.slice Ao26 t296.length co26)) (fun _ hk => hk.2) (.slice Ao48 t304.length co48)) (fun _ hk => hk.2) (.int .i64 (wrap64 (t302 + t303)))) (fun _ hk => hk.1.1.1.2)⟩, ⟨by (with_reducible repeat (first | refine bw8 ?_ _ | refine bw9 ?_ | refine bw6 ?_ _)); refine blk_far ?_ NB293_295.out _; (with_reducible repeat (first | refine bw8 ?_ _ | refine bw9 ?_ | refine bw6 ?_ _)); refine blk_far ?_ NB293_295.out _; (with_reducible repeat (first | refine bw8 ?_ _ | refine bw9 ?_ | refine bw6 ?_ _)); refine blk_far ?_ NB293_295.out _; (with_reducible repeat (first | refine bw8 ?_ _ | refine bw9 ?_ | refine bw6 ?_ _)); exact BK293.out⟩, ⟨by (with_reducible repeat (first | refine bw8 ?_ _ | refine bw9 ?_ | refine bw6 ?_ _)); refine blk_far ?_ NB294_295.out _; (with_reducible repeat (first | refine bw8 ?_ _ | refine bw9 ?_ | refine bw6 ?_ _)); refine blk_far ?_ NB294_295.out _; (with_reducible repeat (first | refine bw8 ?_ _ | refine bw9 ?_ | refine bw6 ?_ _)); refine blk_far ?_ NB294_295.out _; (with_reducible repeat (first | refine bw8 ?_ _ | refine bw9 ?_ | refine bw6 ?_ _)); exact BK294.out⟩, ⟨by (with_reducible repeat (first | refine bw8 ?_ _ | refine bw9 ?_ | refine bw6 ?_ _)); refine blk_put (cs := #[.slice Ao26 t296.length co26, .slice Ao48 t304.length co48, .int .i64 x296002_1]) ?_ 2 _ rfl; (with_reducible repeat (first | refine bw8 ?_ _ | refine bw9 ?_ | refine bw6 ?_ _)); refine blk_put (cs := #[.slice Ao26 t296.length co26, u296001, .int .i64 x296002_1]) ?_ 1 _ rfl; (with_reducible repeat (first | refine bw8 ?_ _ | refine bw9 ?_ | refine bw6 ?_ _)); refine blk_put (cs := #[u296000, u296001, .int .i64 x296002_1]) ?_ 0 _ rfl; (with_reducible repeat (first | refine bw8 ?_ _ | refine bw9 ?_ | refine bw6 ?_ _)); exact BK295.out⟩, ⟨by repeat (first | (with_reducible first | exact HB.out | apply bw2 | apply bw1 | apply bw3 | refine bw4 ?_ GE293.out | refine bw4 ?_ GE294.out | refine bw4 ?_ GE295.out) | exact HB.out)⟩⟩
          ·rw [if_neg c40] at H
           have c40b0 : decide ((wrap64 (t302 + t303)) < x296002_1) = false := decide_eq_false c40
           clear c40
           by_cases c50 : (wrap64 (t302 + t303)) = x296002_1
           ·rw [if_pos c50] at H
            have c50b0 : ((wrap64 (t302 + t303)) == x296002_1) = true := beq_iff_eq.mpr c50
            have c50b1 : ((wrap64 (t302 + t303)) != x296002_1) = false := bne_eq_false_iff_eq.mpr c50
            clear c50
            replace H := Option.bind_eq_some_iff.mp H
            obtain ⟨t307, A510, H⟩ := H
            replace H : (if t307 = true then ((giroref35_Released.f kj32 a0_0 l0_1 l0_2 l0_3).bind fun t308 => (giroref35_Best.l0 kj32 true t299 (wrap64 (x7_1 + 1)) a0_0 l0_1 l0_2 l0_3 t296 t308 (wrap64 (t302 + t303)))) else (giroref35_Best.l0 kj32 x4_1 x6_1 (wrap64 (x7_1 + 1)) a0_0 l0_1 l0_2 l0_3 x296000_1 x296001_1 x296002_1)) = some (r1, r2, r3, r4) := H
            have A51 := Aside0.mk A510
            clear A510
            by_cases c52 : t307 = true
            ·subst c52
             have H1 : ((giroref35_Released.f kj32 a0_0 l0_1 l0_2 l0_3).bind fun t308 => (giroref35_Best.l0 kj32 true t299 (wrap64 (x7_1 + 1)) a0_0 l0_1 l0_2 l0_3 t296 t308 (wrap64 (t302 + t303)))) = some (r1, r2, r3, r4) := by rw [if_pos rfl] at H; exact H
             clear H
             have H := H1
             clear H1
             replace H := Option.bind_eq_some_iff.mp H
             obtain ⟨t308, A530, H⟩ := H
             replace H : (giroref35_Best.l0 kj32 true t299 (wrap64 (x7_1 + 1)) a0_0 l0_1 l0_2 l0_3 t296 t308 (wrap64 (t302 + t303))) = some (r1, r2, r3, r4) := H
             have A53 := Aside0.mk A530
             clear A530
             have H' := Aside0.mk H
             clear H
             have hnb54 := NB295_293.out
             have hnc54 := NB293_295.out
             have hnb55 := NB295_294.out
             have hnc55 := NB294_295.out
             have hcz56_0 : wc.cell? ⟨gb295, 0, none⟩ = some (u296000) := (bw5 BK295.out 0).trans rfl
             have hcz56_1 : wc.cell? ⟨gb295, 1, none⟩ = some (u296001) := (bw5 BK295.out 1).trans rfl
             have hcz56_2 : wc.cell? ⟨gb295, 2, none⟩ = some (.int .i64 x296002_1) := (bw5 BK295.out 2).trans rfl
             have hfz56_0 := bw7 BK295.out 0
             have hfz56_1 := bw7 BK295.out 1
             have hfz56_2 := bw7 BK295.out 2
             obtain ⟨Ao57, co57, eo57⟩ := Kd.R_slice HO_9.out
             subst eo57
             obtain ⟨Ao58, co58, eo58⟩ := Kd.R_slice HO_6.out
             subst eo58
             go_wp2_with (first | (go_at_call 63; (with_reducible refine (giroref35_less.calls kj32 _ _ t299 _ _ x6_1 true _ ?side1 ?side2 ?side3 ?side4 A51.out).mono ?_); (case side1 => repeat (first | exact (Kd.R_reads' HO_9.out).2.2 | (with_reducible refine Kd.C_alloc ?_ _) | (with_reducible refine Kd.C_drewN ?_ _) | (with_reducible refine Kd.C_drew ?_))); (case side2 => exact (Kd.R_reads' HO_9.out).2.1); (case side3 => repeat (first | exact (Kd.R_reads' HO_6.out).2.2 | (with_reducible refine Kd.C_alloc ?_ _) | (with_reducible refine Kd.C_drewN ?_ _) | (with_reducible refine Kd.C_drew ?_))); (case side4 => exact (Kd.R_reads' HO_6.out).2.1); rintro e w' ⟨rfl, ⟨nd, rfl⟩⟩; (try (rw [drewN_self wc]; generalize hq_ : World.drewN wc _ = wc; have n0_ : Aside0 (Kd.R k109 109 wc w.heap.size (fun k_ => some k_ ≠ (u296001 : Value).ownBlock ∧ some k_ ≠ (.slice Ao26 t296.length co26 : Value).ownBlock) u296000 x296000_1) := ⟨by rw [← hq_]; exact (by (with_reducible repeat (first | apply Kd.R_alloc | apply Kd.R_drewN | apply Kd.R_drew)); exact Kd.R_mono HO_296000.out (fun _ hk => ⟨hk.2, hk.1⟩))⟩; have n1_ : Aside0 (Kd.R k109 109 wc w.heap.size (fun k_ => some k_ ≠ (u296000 : Value).ownBlock ∧ some k_ ≠ (.slice Ao26 t296.length co26 : Value).ownBlock) u296001 x296001_1) := ⟨by rw [← hq_]; exact (by (with_reducible repeat (first | apply Kd.R_alloc | apply Kd.R_drewN | apply Kd.R_drew)); exact Kd.R_mono HO_296001.out (fun _ hk => ⟨hk.2, hk.1⟩))⟩; have n2_ : Aside0 (Kd.R (Kd.int .i64) 3 wc w.heap.size (fun k_ => some k_ ≠ (.slice Ao57 t299.length co57 : Value).ownBlock) (.slice Ao58 x6_1.length co58) x6_1) := ⟨by rw [← hq_]; exact (by (with_reducible repeat (first | apply Kd.R_alloc | apply Kd.R_drewN | apply Kd.R_drew)); exact HO_6.out)⟩; have n3_ : Aside0 (Kd.R k109 109 wc w.heap.size (fun k_ => some k_ ≠ (u296000 : Value).ownBlock ∧ some k_ ≠ (u296001 : Value).ownBlock) (.slice Ao26 t296.length co26) t296) := ⟨by rw [← hq_]; exact (by (with_reducible repeat (first | apply Kd.R_alloc | apply Kd.R_drewN | apply Kd.R_drew)); exact HO_8.out)⟩; have n4_ : Aside0 (Kd.R (Kd.int .i64) 3 wc w.heap.size (fun k_ => some k_ ≠ (.slice Ao58 x6_1.length co58 : Value).ownBlock) (.slice Ao57 t299.length co57) t299) := ⟨by rw [← hq_]; exact (by (with_reducible repeat (first | apply Kd.R_alloc | apply Kd.R_drewN | apply Kd.R_drew)); exact HO_9.out)⟩; have n5_ : Aside0 (wc.heap[gb293]? = some (.cells #[.int .i64 a0_0, .slice A0_1 l0_1.length c0_1, .slice A0_2 l0_2.length c0_2, .slice A0_3 l0_3.length c0_3] 49 (0, 0))) := ⟨by rw [← hq_]; exact (by (with_reducible repeat (first | refine bw8 ?_ _ | refine bw9 ?_ | refine bw6 ?_ _)); exact BK293.out)⟩; have n6_ : Aside0 (wc.heap[gb294]? = some (.cells #[.slice none 0 0, .slice none 0 0, .int .i64 0] 54 (0, 0))) := ⟨by rw [← hq_]; exact (by (with_reducible repeat (first | refine bw8 ?_ _ | refine bw9 ?_ | refine bw6 ?_ _)); exact BK294.out)⟩; have n7_ : Aside0 (wc.heap[gb295]? = some (.cells #[u296000, u296001, .int .i64 x296002_1] 54 (0, 0))) := ⟨by rw [← hq_]; exact (by (with_reducible repeat (first | refine bw8 ?_ _ | refine bw9 ?_ | refine bw6 ?_ _)); exact BK295.out)⟩; have n8_ : Aside0 (Below w.heap.size w wc) := ⟨by rw [← hq_]; exact (by repeat (first | (with_reducible first | exact HB.out | apply bw2 | apply bw1 | apply bw3 | refine bw4 ?_ GE293.out | refine bw4 ?_ GE294.out | refine bw4 ?_ GE295.out) | exact HB.out))⟩; clear HO_296000 HO_296001 HO_6 HO_8 HO_9 BK293 BK294 BK295 HB hq_; have HO_296000 := n0_; have HO_296001 := n1_; have HO_6 := n2_; have HO_8 := n3_; have HO_9 := n4_; have BK293 := n5_; have BK294 := n6_; have BK295 := n7_; have HB := n8_; clear n0_ n1_ n2_ n3_ n4_ n5_ n6_ n7_ n8_)); have hnb59 := NB293_294.out; have hnc59 := NB294_293.out; have hcz60_0 : wc.cell? ⟨gb293, 0, none⟩ = some (.int .i64 a0_0) := (bw5 BK293.out 0).trans rfl; have hcz60_1 : wc.cell? ⟨gb293, 1, none⟩ = some (.slice A0_1 l0_1.length c0_1) := (bw5 BK293.out 1).trans rfl; have hcz60_2 : wc.cell? ⟨gb293, 2, none⟩ = some (.slice A0_2 l0_2.length c0_2) := (bw5 BK293.out 2).trans rfl; have hcz60_3 : wc.cell? ⟨gb293, 3, none⟩ = some (.slice A0_3 l0_3.length c0_3) := (bw5 BK293.out 3).trans rfl; have hfz60_0 := bw7 BK293.out 0; have hfz60_1 := bw7 BK293.out 1; have hfz60_2 := bw7 BK293.out 2; have hfz60_3 := bw7 BK293.out 3) | ((with_reducible refine gate_callee (f := 59) rfl ?_); refine goesL_ (some 73) rfl rfl Tryz.func59 (by kernel_rfl) rfl #[.agg #[.int .i64 a0_0, .slice A0_1 l0_1.length c0_1, .slice A0_2 l0_2.length c0_2, .slice A0_3 l0_3.length c0_3]] rfl (by (try simp only [List.map_toArray, List.map_cons, List.map_nil]); first | done | rfl | (simp only [List.length_drop, List.length_take]; rfl)) ?_; (with_reducible refine (giroref35_Released.calls kj32 a0_0 _ _ l0_1 _ _ l0_2 _ _ l0_3 t308 _ ?side1 ?side2 ?side3 ?side4 ?side5 ?side6 A53.out).mono ?_); (case side1 => repeat (first | exact (Kd.C_below HR0_1.out HB.out) | (with_reducible refine Kd.C_alloc ?_ _) | (with_reducible refine Kd.C_drewN ?_ _) | (with_reducible refine Kd.C_drew ?_))); (case side2 => exact HC0_1.out); (case side3 => repeat (first | exact (Kd.C_below HR0_2.out HB.out) | (with_reducible refine Kd.C_alloc ?_ _) | (with_reducible refine Kd.C_drewN ?_ _) | (with_reducible refine Kd.C_drew ?_))); (case side4 => exact HC0_2.out); (case side5 => repeat (first | exact (Kd.C_below HR0_3.out HB.out) | (with_reducible refine Kd.C_alloc ?_ _) | (with_reducible refine Kd.C_drewN ?_ _) | (with_reducible refine Kd.C_drew ?_))); (case side6 => exact HC0_3.out); rintro e w61 ⟨v309, rfl, ho0, hb⟩; refine ⟨_, rfl, ?_⟩; have n0_ := Aside0.mk (Kd.R_below (by (with_reducible repeat (first | apply Kd.R_alloc | apply Kd.R_drewN | apply Kd.R_drew)); exact HO_6.out) hb); have n1_ := Aside0.mk (Kd.R_elder' (by (with_reducible repeat (first | apply Kd.R_alloc | apply Kd.R_drewN | apply Kd.R_drew)); exact HO_8.out) (Kd.R_base ho0) hb); have n2_ := Aside0.mk (Kd.R_below (by (with_reducible repeat (first | apply Kd.R_alloc | apply Kd.R_drewN | apply Kd.R_drew)); exact HO_9.out) hb); have n3_ := Aside0.mk (Kd.R_elder' (by (with_reducible repeat (first | apply Kd.R_alloc | apply Kd.R_drewN | apply Kd.R_drew)); exact HO_296000.out) (Kd.R_base ho0) hb); have n4_ := Aside0.mk (Kd.R_elder' (by (with_reducible repeat (first | apply Kd.R_alloc | apply Kd.R_drewN | apply Kd.R_drew)); exact HO_296001.out) (Kd.R_base ho0) hb); have n5_ := Aside0.mk (Kd.R_lower (Kd.R_new' (Kd.R_new' (Kd.R_new' ho0 (Kd.R_lt (by (with_reducible repeat (first | apply Kd.R_alloc | apply Kd.R_drewN | apply Kd.R_drew)); exact HO_8.out))) (Kd.R_lt (by (with_reducible repeat (first | apply Kd.R_alloc | apply Kd.R_drewN | apply Kd.R_drew)); exact HO_296000.out))) (Kd.R_lt (by (with_reducible repeat (first | apply Kd.R_alloc | apply Kd.R_drewN | apply Kd.R_drew)); exact HO_296001.out))) (bx3 (by repeat (first | (with_reducible first | exact HB.out | apply bw2 | apply bw1 | apply bw3 | refine bw4 ?_ GE293.out | refine bw4 ?_ GE294.out | refine bw4 ?_ GE295.out) | exact HB.out)))); have n6_ := Aside0.mk (bx1 (g := gb293) (o := .cells #[.int .i64 a0_0, .slice A0_1 l0_1.length c0_1, .slice A0_2 l0_2.length c0_2, .slice A0_3 l0_3.length c0_3] 49 (0, 0)) (by (with_reducible repeat (first | refine bw8 ?_ _ | refine bw9 ?_ | refine bw6 ?_ _)); exact BK293.out) hb); have n7_ := Aside0.mk (bx1 (g := gb294) (o := .cells #[.slice none 0 0, .slice none 0 0, .int .i64 0] 54 (0, 0)) (by (with_reducible repeat (first | refine bw8 ?_ _ | refine bw9 ?_ | refine bw6 ?_ _)); exact BK294.out) hb); have n8_ := Aside0.mk (bx1 (g := gb295) (o := .cells #[u296000, u296001, .int .i64 x296002_1] 54 (0, 0)) (by (with_reducible repeat (first | refine bw8 ?_ _ | refine bw9 ?_ | refine bw6 ?_ _)); exact BK295.out) hb); have n9_ := Aside0.mk (bx2 (by repeat (first | (with_reducible first | exact HB.out | apply bw2 | apply bw1 | apply bw3 | refine bw4 ?_ GE293.out | refine bw4 ?_ GE294.out | refine bw4 ?_ GE295.out) | exact HB.out)) hb); clear HO_6; clear HO_8; clear HO_9; clear HO_296000; clear HO_296001; clear BK293; clear BK294; clear BK295; clear HB; have HO_6 := n0_; have HO_8 := n1_; have HO_9 := n2_; have HO_296000 := n3_; have HO_296001 := n4_; have HO310 := n5_; have BK293 := n6_; have BK294 := n7_; have BK295 := n8_; have HB := n9_; clear n0_ n1_ n2_ n3_ n4_ n5_ n6_ n7_ n8_ n9_; (try clear hb); (try clear hb2); (try clear hk); (try clear hi); (try clear ho0); obtain ⟨Ao62, co62, eo62⟩ := Kd.R_slice HO310.out; subst eo62; have hcz63_0 : w61.cell? ⟨gb295, 0, none⟩ = some (u296000) := (bw5 BK295.out 0).trans rfl; have hcz63_1 : w61.cell? ⟨gb295, 1, none⟩ = some (u296001) := (bw5 BK295.out 1).trans rfl; have hcz63_2 : w61.cell? ⟨gb295, 2, none⟩ = some (.int .i64 x296002_1) := (bw5 BK295.out 2).trans rfl; have hfz63_0 := bw7 BK295.out 0; have hfz63_1 := bw7 BK295.out 1; have hfz63_2 := bw7 BK295.out 2))
             go_roundg kj32
             case measure => have := HK1.out; have := HJ18.out; have := HJ32.out; omega
             case rel => exact ⟨(true), (t299), (wrap64 (x7_1 + 1)), (t296), (t308), ((wrap64 (t302 + t303))), (.slice Ao26 t296.length co26), (.slice Ao62 t308.length co62), (by first | rfl | (simp; done) | (simp [*]; done)), (by first | rfl | (simp; done) | (simp [*]; done)), H', ⟨by have := HK1.out; have := HJ18.out; have := HJ32.out; omega⟩, ⟨by (with_reducible repeat (first | apply Kd.R_alloc | apply Kd.R_drewN | apply Kd.R_drew)); exact Kd.R_mono (Kd.R_far (p := ⟨gb295, 2, none⟩) (Kd.R_far (p := ⟨gb295, 1, none⟩) (Kd.R_far (p := ⟨gb295, 0, none⟩) (Kd.R_types HO_9.out BK295.out (by decide)) (fun _ hk => hk.2) (.slice Ao26 t296.length co26)) (fun _ hk => hk.2) (.slice Ao62 t308.length co62)) (fun _ hk => hk.2) (.int .i64 (wrap64 (t302 + t303)))) (fun _ hk => trivial)⟩, ⟨by (with_reducible repeat (first | apply Kd.R_alloc | apply Kd.R_drewN | apply Kd.R_drew)); exact Kd.R_mono (Kd.R_far (p := ⟨gb295, 2, none⟩) (Kd.R_far (p := ⟨gb295, 1, none⟩) (Kd.R_far (p := ⟨gb295, 0, none⟩) (Kd.R_types HO_8.out BK295.out (by decide)) (fun _ hk => hk.2) (.slice Ao26 t296.length co26)) (fun _ hk => hk.2) (.slice Ao62 t308.length co62)) (fun _ hk => hk.2) (.int .i64 (wrap64 (t302 + t303)))) (fun _ hk => hk.1.2)⟩, ⟨by (with_reducible repeat (first | apply Kd.R_alloc | apply Kd.R_drewN | apply Kd.R_drew)); exact Kd.R_mono (Kd.R_far (p := ⟨gb295, 2, none⟩) (Kd.R_far (p := ⟨gb295, 1, none⟩) (Kd.R_far (p := ⟨gb295, 0, none⟩) (Kd.R_types HO310.out BK295.out (by decide)) (fun _ hk => hk.2) (.slice Ao26 t296.length co26)) (fun _ hk => hk.2) (.slice Ao62 t308.length co62)) (fun _ hk => hk.2) (.int .i64 (wrap64 (t302 + t303)))) (fun _ hk => hk.1.1.1.2)⟩, ⟨by (with_reducible repeat (first | refine bw8 ?_ _ | refine bw9 ?_ | refine bw6 ?_ _)); refine blk_far ?_ NB293_295.out _; (with_reducible repeat (first | refine bw8 ?_ _ | refine bw9 ?_ | refine bw6 ?_ _)); refine blk_far ?_ NB293_295.out _; (with_reducible repeat (first | refine bw8 ?_ _ | refine bw9 ?_ | refine bw6 ?_ _)); refine blk_far ?_ NB293_295.out _; (with_reducible repeat (first | refine bw8 ?_ _ | refine bw9 ?_ | refine bw6 ?_ _)); exact BK293.out⟩, ⟨by (with_reducible repeat (first | refine bw8 ?_ _ | refine bw9 ?_ | refine bw6 ?_ _)); refine blk_far ?_ NB294_295.out _; (with_reducible repeat (first | refine bw8 ?_ _ | refine bw9 ?_ | refine bw6 ?_ _)); refine blk_far ?_ NB294_295.out _; (with_reducible repeat (first | refine bw8 ?_ _ | refine bw9 ?_ | refine bw6 ?_ _)); refine blk_far ?_ NB294_295.out _; (with_reducible repeat (first | refine bw8 ?_ _ | refine bw9 ?_ | refine bw6 ?_ _)); exact BK294.out⟩, ⟨by (with_reducible repeat (first | refine bw8 ?_ _ | refine bw9 ?_ | refine bw6 ?_ _)); refine blk_put (cs := #[.slice Ao26 t296.length co26, .slice Ao62 t308.length co62, .int .i64 x296002_1]) ?_ 2 _ rfl; (with_reducible repeat (first | refine bw8 ?_ _ | refine bw9 ?_ | refine bw6 ?_ _)); refine blk_put (cs := #[.slice Ao26 t296.length co26, u296001, .int .i64 x296002_1]) ?_ 1 _ rfl; (with_reducible repeat (first | refine bw8 ?_ _ | refine bw9 ?_ | refine bw6 ?_ _)); refine blk_put (cs := #[u296000, u296001, .int .i64 x296002_1]) ?_ 0 _ rfl; (with_reducible repeat (first | refine bw8 ?_ _ | refine bw9 ?_ | refine bw6 ?_ _)); exact BK295.out⟩, ⟨by repeat (first | (with_reducible first | exact HB.out | apply bw2 | apply bw1 | apply bw3 | refine bw4 ?_ GE293.out | refine bw4 ?_ GE294.out | refine bw4 ?_ GE295.out) | exact HB.out)⟩⟩
            ·replace c52 := Bool.eq_false_iff.mpr c52
             subst c52
             have H1 : (giroref35_Best.l0 kj32 x4_1 x6_1 (wrap64 (x7_1 + 1)) a0_0 l0_1 l0_2 l0_3 x296000_1 x296001_1 x296002_1) = some (r1, r2, r3, r4) := by rw [if_neg (show ¬ (false = true) by decide)] at H; exact H
             clear H
             have H := H1
             clear H1
             have H' := Aside0.mk H
             clear H
             have hnb64 := NB295_293.out
             have hnc64 := NB293_295.out
             have hnb65 := NB295_294.out
             have hnc65 := NB294_295.out
             have hcz66_0 : wc.cell? ⟨gb295, 0, none⟩ = some (u296000) := (bw5 BK295.out 0).trans rfl
             have hcz66_1 : wc.cell? ⟨gb295, 1, none⟩ = some (u296001) := (bw5 BK295.out 1).trans rfl
             have hcz66_2 : wc.cell? ⟨gb295, 2, none⟩ = some (.int .i64 x296002_1) := (bw5 BK295.out 2).trans rfl
             have hfz66_0 := bw7 BK295.out 0
             have hfz66_1 := bw7 BK295.out 1
             have hfz66_2 := bw7 BK295.out 2
             obtain ⟨Ao67, co67, eo67⟩ := Kd.R_slice HO_9.out
             subst eo67
             obtain ⟨Ao68, co68, eo68⟩ := Kd.R_slice HO_6.out
             subst eo68
             go_wp2_with (first | (go_at_call 63; (with_reducible refine (giroref35_less.calls kj32 _ _ t299 _ _ x6_1 false _ ?side1 ?side2 ?side3 ?side4 A51.out).mono ?_); (case side1 => repeat (first | exact (Kd.R_reads' HO_9.out).2.2 | (with_reducible refine Kd.C_alloc ?_ _) | (with_reducible refine Kd.C_drewN ?_ _) | (with_reducible refine Kd.C_drew ?_))); (case side2 => exact (Kd.R_reads' HO_9.out).2.1); (case side3 => repeat (first | exact (Kd.R_reads' HO_6.out).2.2 | (with_reducible refine Kd.C_alloc ?_ _) | (with_reducible refine Kd.C_drewN ?_ _) | (with_reducible refine Kd.C_drew ?_))); (case side4 => exact (Kd.R_reads' HO_6.out).2.1); rintro e w' ⟨rfl, ⟨nd, rfl⟩⟩))
             go_roundg kj32
             case measure => have := HK1.out; have := HJ18.out; have := HJ32.out; omega
             case rel => exact ⟨(x4_1), (x6_1), (wrap64 (x7_1 + 1)), (x296000_1), (x296001_1), (x296002_1), (u296000), (u296001), (by first | rfl | (simp; done) | (simp [*]; done)), (by first | rfl | (simp; done) | (simp [*]; done)), H', ⟨by have := HK1.out; have := HJ18.out; have := HJ32.out; omega⟩, ⟨by (with_reducible repeat (first | apply Kd.R_alloc | apply Kd.R_drewN | apply Kd.R_drew)); exact Kd.R_mono HO_6.out (fun _ hk => trivial)⟩, ⟨by (with_reducible repeat (first | apply Kd.R_alloc | apply Kd.R_drewN | apply Kd.R_drew)); exact Kd.R_mono HO_296000.out (fun _ hk => hk.2)⟩, ⟨by (with_reducible repeat (first | apply Kd.R_alloc | apply Kd.R_drewN | apply Kd.R_drew)); exact Kd.R_mono HO_296001.out (fun _ hk => hk.2)⟩, ⟨by (with_reducible repeat (first | refine bw8 ?_ _ | refine bw9 ?_ | refine bw6 ?_ _)); exact BK293.out⟩, ⟨by (with_reducible repeat (first | refine bw8 ?_ _ | refine bw9 ?_ | refine bw6 ?_ _)); exact BK294.out⟩, ⟨by (with_reducible repeat (first | refine bw8 ?_ _ | refine bw9 ?_ | refine bw6 ?_ _)); exact BK295.out⟩, ⟨by repeat (first | (with_reducible first | exact HB.out | apply bw2 | apply bw1 | apply bw3 | refine bw4 ?_ GE293.out | refine bw4 ?_ GE294.out | refine bw4 ?_ GE295.out) | exact HB.out)⟩⟩
           ·rw [if_neg c50] at H
            have c50b0 : ((wrap64 (t302 + t303)) == x296002_1) = false := beq_eq_false_iff_ne.mpr c50
            have c50b1 : ((wrap64 (t302 + t303)) != x296002_1) = true := bne_iff_ne.mpr c50
            have H' := Aside0.mk H
            clear H
            have hnb69 := NB295_293.out
            have hnc69 := NB293_295.out
            have hnb70 := NB295_294.out
            have hnc70 := NB294_295.out
            have hcz71_0 : wc.cell? ⟨gb295, 0, none⟩ = some (u296000) := (bw5 BK295.out 0).trans rfl
            have hcz71_1 : wc.cell? ⟨gb295, 1, none⟩ = some (u296001) := (bw5 BK295.out 1).trans rfl
            have hcz71_2 : wc.cell? ⟨gb295, 2, none⟩ = some (.int .i64 x296002_1) := (bw5 BK295.out 2).trans rfl
            have hfz71_0 := bw7 BK295.out 0
            have hfz71_1 := bw7 BK295.out 1
            have hfz71_2 := bw7 BK295.out 2
            go_wp2
            go_roundg kj32
            case measure => have := HK1.out; have := HJ18.out; have := HJ32.out; omega
            case rel => exact ⟨(x4_1), (x6_1), (wrap64 (x7_1 + 1)), (x296000_1), (x296001_1), (x296002_1), (u296000), (u296001), (by first | rfl | (simp; done) | (simp [*]; done)), (by first | rfl | (simp; done) | (simp [*]; done)), H', ⟨by have := HK1.out; have := HJ18.out; have := HJ32.out; omega⟩, ⟨by (with_reducible repeat (first | apply Kd.R_alloc | apply Kd.R_drewN | apply Kd.R_drew)); exact Kd.R_mono HO_6.out (fun _ hk => trivial)⟩, ⟨by (with_reducible repeat (first | apply Kd.R_alloc | apply Kd.R_drewN | apply Kd.R_drew)); exact Kd.R_mono HO_296000.out (fun _ hk => hk.2)⟩, ⟨by (with_reducible repeat (first | apply Kd.R_alloc | apply Kd.R_drewN | apply Kd.R_drew)); exact Kd.R_mono HO_296001.out (fun _ hk => hk.2)⟩, ⟨by (with_reducible repeat (first | refine bw8 ?_ _ | refine bw9 ?_ | refine bw6 ?_ _)); exact BK293.out⟩, ⟨by (with_reducible repeat (first | refine bw8 ?_ _ | refine bw9 ?_ | refine bw6 ?_ _)); exact BK294.out⟩, ⟨by (with_reducible repeat (first | refine bw8 ?_ _ | refine bw9 ?_ | refine bw6 ?_ _)); exact BK295.out⟩, ⟨by repeat (first | (with_reducible first | exact HB.out | apply bw2 | apply bw1 | apply bw3 | refine bw4 ?_ GE293.out | refine bw4 ?_ GE294.out | refine bw4 ?_ GE295.out) | exact HB.out)⟩⟩
         ·replace c39 := Bool.eq_false_iff.mpr c39
          subst c39
          have H1 : (if x11_18 = true then ((giroref35_Released.f kj32 a0_0 l0_1 l0_2 l0_3).bind fun t311 => (giroref35_Best.l0 kj32 true t299 (wrap64 (x7_1 + 1)) a0_0 l0_1 l0_2 l0_3 t296 t311 (wrap64 (t302 + t303)))) else (giroref35_Best.l0 kj32 x4_1 x6_1 (wrap64 (x7_1 + 1)) a0_0 l0_1 l0_2 l0_3 x296000_1 x296001_1 x296002_1)) = some (r1, r2, r3, r4) := by rw [if_neg (show ¬ (false = true) by decide)] at H; exact H
          clear H
          have H := H1
          clear H1
          by_cases c72 : x11_18 = true
          ·subst c72
           have H1 : ((giroref35_Released.f kj32 a0_0 l0_1 l0_2 l0_3).bind fun t311 => (giroref35_Best.l0 kj32 true t299 (wrap64 (x7_1 + 1)) a0_0 l0_1 l0_2 l0_3 t296 t311 (wrap64 (t302 + t303)))) = some (r1, r2, r3, r4) := by rw [if_pos rfl] at H; exact H
           clear H
           have H := H1
           clear H1
           replace H := Option.bind_eq_some_iff.mp H
           obtain ⟨t311, A730, H⟩ := H
           replace H : (giroref35_Best.l0 kj32 true t299 (wrap64 (x7_1 + 1)) a0_0 l0_1 l0_2 l0_3 t296 t311 (wrap64 (t302 + t303))) = some (r1, r2, r3, r4) := H
           have A73 := Aside0.mk A730
           clear A730
           have H' := Aside0.mk H
           clear H
           have hnb74 := NB293_294.out
           have hnc74 := NB294_293.out
           have hnb75 := NB293_295.out
           have hnc75 := NB295_293.out
           have hcz76_0 : wc.cell? ⟨gb293, 0, none⟩ = some (.int .i64 a0_0) := (bw5 BK293.out 0).trans rfl
           have hcz76_1 : wc.cell? ⟨gb293, 1, none⟩ = some (.slice A0_1 l0_1.length c0_1) := (bw5 BK293.out 1).trans rfl
           have hcz76_2 : wc.cell? ⟨gb293, 2, none⟩ = some (.slice A0_2 l0_2.length c0_2) := (bw5 BK293.out 2).trans rfl
           have hcz76_3 : wc.cell? ⟨gb293, 3, none⟩ = some (.slice A0_3 l0_3.length c0_3) := (bw5 BK293.out 3).trans rfl
           have hfz76_0 := bw7 BK293.out 0
           have hfz76_1 := bw7 BK293.out 1
           have hfz76_2 := bw7 BK293.out 2
           have hfz76_3 := bw7 BK293.out 3
           go_wp2_with (first | ((with_reducible refine gate_callee (f := 59) rfl ?_); refine goesL_ (some 73) rfl rfl Tryz.func59 (by kernel_rfl) rfl #[.agg #[.int .i64 a0_0, .slice A0_1 l0_1.length c0_1, .slice A0_2 l0_2.length c0_2, .slice A0_3 l0_3.length c0_3]] rfl (by (try simp only [List.map_toArray, List.map_cons, List.map_nil]); first | done | rfl | (simp only [List.length_drop, List.length_take]; rfl)) ?_; (with_reducible refine (giroref35_Released.calls kj32 a0_0 _ _ l0_1 _ _ l0_2 _ _ l0_3 t311 _ ?side1 ?side2 ?side3 ?side4 ?side5 ?side6 A73.out).mono ?_); (case side1 => repeat (first | exact (Kd.C_below HR0_1.out HB.out) | (with_reducible refine Kd.C_alloc ?_ _) | (with_reducible refine Kd.C_drewN ?_ _) | (with_reducible refine Kd.C_drew ?_))); (case side2 => exact HC0_1.out); (case side3 => repeat (first | exact (Kd.C_below HR0_2.out HB.out) | (with_reducible refine Kd.C_alloc ?_ _) | (with_reducible refine Kd.C_drewN ?_ _) | (with_reducible refine Kd.C_drew ?_))); (case side4 => exact HC0_2.out); (case side5 => repeat (first | exact (Kd.C_below HR0_3.out HB.out) | (with_reducible refine Kd.C_alloc ?_ _) | (with_reducible refine Kd.C_drewN ?_ _) | (with_reducible refine Kd.C_drew ?_))); (case side6 => exact HC0_3.out); rintro e w77 ⟨v312, rfl, ho0, hb⟩; refine ⟨_, rfl, ?_⟩; have n0_ := Aside0.mk (Kd.R_below (by (with_reducible repeat (first | apply Kd.R_alloc | apply Kd.R_drewN | apply Kd.R_drew)); exact HO_6.out) hb); have n1_ := Aside0.mk (Kd.R_elder' (by (with_reducible repeat (first | apply Kd.R_alloc | apply Kd.R_drewN | apply Kd.R_drew)); exact HO_8.out) (Kd.R_base ho0) hb); have n2_ := Aside0.mk (Kd.R_below (by (with_reducible repeat (first | apply Kd.R_alloc | apply Kd.R_drewN | apply Kd.R_drew)); exact HO_9.out) hb); have n3_ := Aside0.mk (Kd.R_elder' (by (with_reducible repeat (first | apply Kd.R_alloc | apply Kd.R_drewN | apply Kd.R_drew)); exact HO_296000.out) (Kd.R_base ho0) hb); have n4_ := Aside0.mk (Kd.R_elder' (by (with_reducible repeat (first | apply Kd.R_alloc | apply Kd.R_drewN | apply Kd.R_drew)); exact HO_296001.out) (Kd.R_base ho0) hb); have n5_ := Aside0.mk (Kd.R_lower (Kd.R_new' (Kd.R_new' (Kd.R_new' ho0 (Kd.R_lt (by (with_reducible repeat (first | apply Kd.R_alloc | apply Kd.R_drewN | apply Kd.R_drew)); exact HO_8.out))) (Kd.R_lt (by (with_reducible repeat (first | apply Kd.R_alloc | apply Kd.R_drewN | apply Kd.R_drew)); exact HO_296000.out))) (Kd.R_lt (by (with_reducible repeat (first | apply Kd.R_alloc | apply Kd.R_drewN | apply Kd.R_drew)); exact HO_296001.out))) (bx3 (by repeat (first | (with_reducible first | exact HB.out | apply bw2 | apply bw1 | apply bw3 | refine bw4 ?_ GE293.out | refine bw4 ?_ GE294.out | refine bw4 ?_ GE295.out) | exact HB.out)))); have n6_ := Aside0.mk (bx1 (g := gb293) (o := .cells #[.int .i64 a0_0, .slice A0_1 l0_1.length c0_1, .slice A0_2 l0_2.length c0_2, .slice A0_3 l0_3.length c0_3] 49 (0, 0)) (by (with_reducible repeat (first | refine bw8 ?_ _ | refine bw9 ?_ | refine bw6 ?_ _)); exact BK293.out) hb); have n7_ := Aside0.mk (bx1 (g := gb294) (o := .cells #[.slice none 0 0, .slice none 0 0, .int .i64 0] 54 (0, 0)) (by (with_reducible repeat (first | refine bw8 ?_ _ | refine bw9 ?_ | refine bw6 ?_ _)); exact BK294.out) hb); have n8_ := Aside0.mk (bx1 (g := gb295) (o := .cells #[u296000, u296001, .int .i64 x296002_1] 54 (0, 0)) (by (with_reducible repeat (first | refine bw8 ?_ _ | refine bw9 ?_ | refine bw6 ?_ _)); exact BK295.out) hb); have n9_ := Aside0.mk (bx2 (by repeat (first | (with_reducible first | exact HB.out | apply bw2 | apply bw1 | apply bw3 | refine bw4 ?_ GE293.out | refine bw4 ?_ GE294.out | refine bw4 ?_ GE295.out) | exact HB.out)) hb); clear HO_6; clear HO_8; clear HO_9; clear HO_296000; clear HO_296001; clear BK293; clear BK294; clear BK295; clear HB; have HO_6 := n0_; have HO_8 := n1_; have HO_9 := n2_; have HO_296000 := n3_; have HO_296001 := n4_; have HO313 := n5_; have BK293 := n6_; have BK294 := n7_; have BK295 := n8_; have HB := n9_; clear n0_ n1_ n2_ n3_ n4_ n5_ n6_ n7_ n8_ n9_; (try clear hb); (try clear hb2); (try clear hk); (try clear hi); (try clear ho0); obtain ⟨Ao78, co78, eo78⟩ := Kd.R_slice HO313.out; subst eo78; have hnb79 := NB295_294.out; have hnc79 := NB294_295.out; have hcz80_0 : w77.cell? ⟨gb295, 0, none⟩ = some (u296000) := (bw5 BK295.out 0).trans rfl; have hcz80_1 : w77.cell? ⟨gb295, 1, none⟩ = some (u296001) := (bw5 BK295.out 1).trans rfl; have hcz80_2 : w77.cell? ⟨gb295, 2, none⟩ = some (.int .i64 x296002_1) := (bw5 BK295.out 2).trans rfl; have hfz80_0 := bw7 BK295.out 0; have hfz80_1 := bw7 BK295.out 1; have hfz80_2 := bw7 BK295.out 2))
           go_roundg kj32
           case measure => have := HK1.out; have := HJ18.out; have := HJ32.out; omega
           case rel => exact ⟨(true), (t299), (wrap64 (x7_1 + 1)), (t296), (t311), ((wrap64 (t302 + t303))), (.slice Ao26 t296.length co26), (.slice Ao78 t311.length co78), (by first | rfl | (simp; done) | (simp [*]; done)), (by first | rfl | (simp; done) | (simp [*]; done)), H', ⟨by have := HK1.out; have := HJ18.out; have := HJ32.out; omega⟩, ⟨by (with_reducible repeat (first | apply Kd.R_alloc | apply Kd.R_drewN | apply Kd.R_drew)); exact Kd.R_mono (Kd.R_far (p := ⟨gb295, 2, none⟩) (Kd.R_far (p := ⟨gb295, 1, none⟩) (Kd.R_far (p := ⟨gb295, 0, none⟩) (Kd.R_types HO_9.out BK295.out (by decide)) (fun _ hk => hk.2) (.slice Ao26 t296.length co26)) (fun _ hk => hk.2) (.slice Ao78 t311.length co78)) (fun _ hk => hk.2) (.int .i64 (wrap64 (t302 + t303)))) (fun _ hk => trivial)⟩, ⟨by (with_reducible repeat (first | apply Kd.R_alloc | apply Kd.R_drewN | apply Kd.R_drew)); exact Kd.R_mono (Kd.R_far (p := ⟨gb295, 2, none⟩) (Kd.R_far (p := ⟨gb295, 1, none⟩) (Kd.R_far (p := ⟨gb295, 0, none⟩) (Kd.R_types HO_8.out BK295.out (by decide)) (fun _ hk => hk.2) (.slice Ao26 t296.length co26)) (fun _ hk => hk.2) (.slice Ao78 t311.length co78)) (fun _ hk => hk.2) (.int .i64 (wrap64 (t302 + t303)))) (fun _ hk => hk.1.2)⟩, ⟨by (with_reducible repeat (first | apply Kd.R_alloc | apply Kd.R_drewN | apply Kd.R_drew)); exact Kd.R_mono (Kd.R_far (p := ⟨gb295, 2, none⟩) (Kd.R_far (p := ⟨gb295, 1, none⟩) (Kd.R_far (p := ⟨gb295, 0, none⟩) (Kd.R_types HO313.out BK295.out (by decide)) (fun _ hk => hk.2) (.slice Ao26 t296.length co26)) (fun _ hk => hk.2) (.slice Ao78 t311.length co78)) (fun _ hk => hk.2) (.int .i64 (wrap64 (t302 + t303)))) (fun _ hk => hk.1.1.1.2)⟩, ⟨by (with_reducible repeat (first | refine bw8 ?_ _ | refine bw9 ?_ | refine bw6 ?_ _)); refine blk_far ?_ NB293_295.out _; (with_reducible repeat (first | refine bw8 ?_ _ | refine bw9 ?_ | refine bw6 ?_ _)); refine blk_far ?_ NB293_295.out _; (with_reducible repeat (first | refine bw8 ?_ _ | refine bw9 ?_ | refine bw6 ?_ _)); refine blk_far ?_ NB293_295.out _; (with_reducible repeat (first | refine bw8 ?_ _ | refine bw9 ?_ | refine bw6 ?_ _)); exact BK293.out⟩, ⟨by (with_reducible repeat (first | refine bw8 ?_ _ | refine bw9 ?_ | refine bw6 ?_ _)); refine blk_far ?_ NB294_295.out _; (with_reducible repeat (first | refine bw8 ?_ _ | refine bw9 ?_ | refine bw6 ?_ _)); refine blk_far ?_ NB294_295.out _; (with_reducible repeat (first | refine bw8 ?_ _ | refine bw9 ?_ | refine bw6 ?_ _)); refine blk_far ?_ NB294_295.out _; (with_reducible repeat (first | refine bw8 ?_ _ | refine bw9 ?_ | refine bw6 ?_ _)); exact BK294.out⟩, ⟨by (with_reducible repeat (first | refine bw8 ?_ _ | refine bw9 ?_ | refine bw6 ?_ _)); refine blk_put (cs := #[.slice Ao26 t296.length co26, .slice Ao78 t311.length co78, .int .i64 x296002_1]) ?_ 2 _ rfl; (with_reducible repeat (first | refine bw8 ?_ _ | refine bw9 ?_ | refine bw6 ?_ _)); refine blk_put (cs := #[.slice Ao26 t296.length co26, u296001, .int .i64 x296002_1]) ?_ 1 _ rfl; (with_reducible repeat (first | refine bw8 ?_ _ | refine bw9 ?_ | refine bw6 ?_ _)); refine blk_put (cs := #[u296000, u296001, .int .i64 x296002_1]) ?_ 0 _ rfl; (with_reducible repeat (first | refine bw8 ?_ _ | refine bw9 ?_ | refine bw6 ?_ _)); exact BK295.out⟩, ⟨by repeat (first | (with_reducible first | exact HB.out | apply bw2 | apply bw1 | apply bw3 | refine bw4 ?_ GE293.out | refine bw4 ?_ GE294.out | refine bw4 ?_ GE295.out) | exact HB.out)⟩⟩
          ·replace c72 := Bool.eq_false_iff.mpr c72
           subst c72
           have H1 : (giroref35_Best.l0 kj32 x4_1 x6_1 (wrap64 (x7_1 + 1)) a0_0 l0_1 l0_2 l0_3 x296000_1 x296001_1 x296002_1) = some (r1, r2, r3, r4) := by rw [if_neg (show ¬ (false = true) by decide)] at H; exact H
           clear H
           have H := H1
           clear H1
           have H' := Aside0.mk H
           clear H
           go_wp2
           go_roundg kj32
           case measure => have := HK1.out; have := HJ18.out; have := HJ32.out; omega
           case rel => exact ⟨(x4_1), (x6_1), (wrap64 (x7_1 + 1)), (x296000_1), (x296001_1), (x296002_1), (u296000), (u296001), (by first | rfl | (simp; done) | (simp [*]; done)), (by first | rfl | (simp; done) | (simp [*]; done)), H', ⟨by have := HK1.out; have := HJ18.out; have := HJ32.out; omega⟩, ⟨by (with_reducible repeat (first | apply Kd.R_alloc | apply Kd.R_drewN | apply Kd.R_drew)); exact Kd.R_mono HO_6.out (fun _ hk => trivial)⟩, ⟨by (with_reducible repeat (first | apply Kd.R_alloc | apply Kd.R_drewN | apply Kd.R_drew)); exact Kd.R_mono HO_296000.out (fun _ hk => hk.2)⟩, ⟨by (with_reducible repeat (first | apply Kd.R_alloc | apply Kd.R_drewN | apply Kd.R_drew)); exact Kd.R_mono HO_296001.out (fun _ hk => hk.2)⟩, ⟨by (with_reducible repeat (first | refine bw8 ?_ _ | refine bw9 ?_ | refine bw6 ?_ _)); exact BK293.out⟩, ⟨by (with_reducible repeat (first | refine bw8 ?_ _ | refine bw9 ?_ | refine bw6 ?_ _)); exact BK294.out⟩, ⟨by (with_reducible repeat (first | refine bw8 ?_ _ | refine bw9 ?_ | refine bw6 ?_ _)); exact BK295.out⟩, ⟨by repeat (first | (with_reducible first | exact HB.out | apply bw2 | apply bw1 | apply bw3 | refine bw4 ?_ GE293.out | refine bw4 ?_ GE294.out | refine bw4 ?_ GE295.out) | exact HB.out)⟩⟩
   ·rw [if_neg c6] at H
    have c6b0 : decide (x7_1 < (ji5)) = false := decide_eq_false c6
    clear c6
    simp only [Option.some.injEq, Prod.mk.injEq] at H
    obtain ⟨rfl, rfl, rfl, rfl⟩ := H
    have hnb81 := NB293_294.out
    have hnc81 := NB294_293.out
    have hnb82 := NB293_295.out
    have hnc82 := NB295_293.out
    have hcz83_0 : wr.cell? ⟨gb293, 0, none⟩ = some (.int .i64 a0_0) := (bw5 BK293.out 0).trans rfl
    have hcz83_1 : wr.cell? ⟨gb293, 1, none⟩ = some (.slice A0_1 l0_1.length c0_1) := (bw5 BK293.out 1).trans rfl
    have hcz83_2 : wr.cell? ⟨gb293, 2, none⟩ = some (.slice A0_2 l0_2.length c0_2) := (bw5 BK293.out 2).trans rfl
    have hcz83_3 : wr.cell? ⟨gb293, 3, none⟩ = some (.slice A0_3 l0_3.length c0_3) := (bw5 BK293.out 3).trans rfl
    have hfz83_0 := bw7 BK293.out 0
    have hfz83_1 := bw7 BK293.out 1
    have hfz83_2 := bw7 BK293.out 2
    have hfz83_3 := bw7 BK293.out 3
    have hnb84 := NB295_294.out
    have hnc84 := NB294_295.out
    have hcz85_0 : wr.cell? ⟨gb295, 0, none⟩ = some (u296000) := (bw5 BK295.out 0).trans rfl
    have hcz85_1 : wr.cell? ⟨gb295, 1, none⟩ = some (u296001) := (bw5 BK295.out 1).trans rfl
    have hcz85_2 : wr.cell? ⟨gb295, 2, none⟩ = some (.int .i64 x296002_1) := (bw5 BK295.out 2).trans rfl
    have hfz85_0 := bw7 BK295.out 0
    have hfz85_1 := bw7 BK295.out 1
    have hfz85_2 := bw7 BK295.out 2
    obtain ⟨Ao86, co86, eo86⟩ := Kd.R_slice HO_296000.out
    subst eo86
    have hcz87_0 : wr.cell? ⟨gb294, 0, none⟩ = some (.slice none 0 0) := (bw5 BK294.out 0).trans rfl
    have hcz87_1 : wr.cell? ⟨gb294, 1, none⟩ = some (.slice none 0 0) := (bw5 BK294.out 1).trans rfl
    have hcz87_2 : wr.cell? ⟨gb294, 2, none⟩ = some (.int .i64 0) := (bw5 BK294.out 2).trans rfl
    have hfz87_0 := bw7 BK294.out 0
    have hfz87_1 := bw7 BK294.out 1
    have hfz87_2 := bw7 BK294.out 2
    obtain ⟨Ao88, co88, eo88⟩ := Kd.R_slice HO_296001.out
    subst eo88
    go_wp2
    refine bodyPost_ret (results_ct rfl _ _ gb294 54 #[.slice Ao86 x296000_1.length co86, .slice Ao88 x296001_1.length co88, .int .i64 x296002_1] (0, 0) _ rfl (by (with_reducible repeat (first | refine bw8 ?_ _ | refine bw9 ?_ | refine bw6 ?_ _)); refine blk_put (cs := #[.slice Ao86 x296000_1.length co86, .slice Ao88 x296001_1.length co88, .int .i64 0]) ?_ 2 _ rfl; (with_reducible repeat (first | refine bw8 ?_ _ | refine bw9 ?_ | refine bw6 ?_ _)); refine blk_put (cs := #[.slice Ao86 x296000_1.length co86, .slice none 0 0, .int .i64 0]) ?_ 1 _ rfl; (with_reducible repeat (first | refine bw8 ?_ _ | refine bw9 ?_ | refine bw6 ?_ _)); refine blk_put (cs := #[.slice none 0 0, .slice none 0 0, .int .i64 0]) ?_ 0 _ rfl; (with_reducible repeat (first | refine bw8 ?_ _ | refine bw9 ?_ | refine bw6 ?_ _)); exact BK294.out) Tryz.underlying54 rfl (by kernel_rfl)) rfl ?_
    exact ⟨_, _, by first | rfl | (simp [errW_none, errW_some] <;> rfl) | (simp only [← hji5]; first | rfl | (simp [errW_none, errW_some] <;> rfl)) | (simp [*, errW_none, errW_some] <;> rfl), by (with_reducible repeat (first | apply Kd.R_alloc | apply Kd.R_drewN | apply Kd.R_drew)); exact Kd.R_mono (Kd.R_far (p := ⟨gb294, 2, none⟩) (Kd.R_far (p := ⟨gb294, 1, none⟩) (Kd.R_far (p := ⟨gb294, 0, none⟩) (Kd.R_types HO_296000.out BK294.out (by decide)) (fun _ hk => hk.2) (.slice Ao86 x296000_1.length co86)) (fun _ hk => hk.2) (.slice Ao88 x296001_1.length co88)) (fun _ hk => hk.2) (.int .i64 x296002_1)) (fun _ hk => hk.1), by (with_reducible repeat (first | apply Kd.R_alloc | apply Kd.R_drewN | apply Kd.R_drew)); exact Kd.R_mono (Kd.R_far (p := ⟨gb294, 2, none⟩) (Kd.R_far (p := ⟨gb294, 1, none⟩) (Kd.R_far (p := ⟨gb294, 0, none⟩) (Kd.R_types HO_296001.out BK294.out (by decide)) (fun _ hk => hk.2) (.slice Ao86 x296000_1.length co86)) (fun _ hk => hk.2) (.slice Ao88 x296001_1.length co88)) (fun _ hk => hk.2) (.int .i64 x296002_1)) (fun _ hk => hk.1), by repeat (first | (with_reducible first | exact HB.out | apply bw2 | apply bw1 | apply bw3 | refine bw4 ?_ GE293.out | refine bw4 ?_ GE294.out | refine bw4 ?_ GE295.out) | exact HB.out)⟩
end Go.Proofs.YtoanlppfdniiaaaGreatDoor.Q
end
