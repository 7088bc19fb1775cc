/- A part of the proof; no condition. -/
import Derived.Test.YtoanlppfdniiaaaGreatDoorX40
section
namespace Go.Proofs.YtoanlppfdniiaaaGreatDoor.Q
set_option linter.unusedVariables false
set_option linter.unusedSimpArgs false
open Go.RowKit Go.Proofs.YtoanlppfdniiaaaGreatDoorW.PrintWords Go.Proofs.YtoanlppfdniiaaaGreatDoorW.PrintLast Go.Proofs.YtoanlppfdniiaaaGreatDoorW.PrintMore
abbrev sA : ByteArray := ⟨#[85, 83, 48, 51, 55, 56, 51, 51, 49, 48, 48, 53]⟩
abbrev sB : ByteArray := ⟨#[68, 69, 48, 48, 48, 55, 49, 54, 52, 54, 48, 48]⟩
abbrev sC : ByteArray := ⟨#[85, 83, 53, 57, 52, 57, 49, 56, 49, 48, 52, 53]⟩
abbrev sD : ByteArray := ⟨#[71, 66, 48, 48, 48, 50, 54, 51, 52, 57, 52, 54]⟩
abbrev sE : ByteArray := ⟨#[70, 82, 48, 48, 48, 48, 49, 50, 48, 50, 55, 49]⟩
abbrev pA : S35 := ⟨sA, 6, 60⟩
abbrev pB : S35 := ⟨sB, 5, 50⟩
abbrev pC : S35 := ⟨sC, 3, 30⟩
abbrev pD : S35 := ⟨sD, 5, 55⟩
abbrev pE : S35 := ⟨sE, 7, 70⟩
section
set_option maxRecDepth 100000
theorem ex_chk : chk 100 [pA, pB] [sA] [pC, pD, pE] = 0 := by kernel_rfl
theorem ex_miss : missZ 100 [pA, pB] [sA] = 50 := by kernel_rfl
theorem ex_kept : keptZ [pA, pB] [sA] = 50 := by kernel_rfl
theorem ex_out : outOf [pA, pB] [sA] = [pA] := by kernel_rfl
theorem ex_ck : ckTo [pC, pD, pE] [pC, pD, pE].length = 0 := by kernel_rfl
theorem ex_srt : srt [pC, pD, pE] = [pE, pD, pC] := by
  refine (srt_unique (ck_parted ex_ck) (List.reverse_perm [pC, pD, pE]) ?_).symm
  intro i j hi hj hij
  have hj3 : j < 3 := hj
  unfold ahead35
  rcases (show (i = 0 ∧ j = 1) ∨ (i = 0 ∧ j = 2) ∨ (i = 1 ∧ j = 2) by omega) with ⟨rfl, rfl⟩ | ⟨rfl, rfl⟩ | ⟨rfl, rfl⟩ <;> simp
theorem ex_greedy : greedyOf 100 [pA, pB] [sA] [pC, pD, pE] = ([pE], [pA], 120, 0) := by
  unfold greedyOf
  rw [ex_chk, ex_miss, ex_srt, ex_out, ex_kept]
  kernel_rfl
theorem ex_best : bestOf 100 [pA, pB] [sA] [pC, pD, pE] = ([pD], [pA], 105, 0) := by
  unfold bestOf
  rw [ex_chk, ex_miss, ex_out, ex_kept]
  kernel_rfl
theorem ex_short : substitution_Shortfall.f 300 100 [pA, pB] [sA] [pC, pD, pE] = some (50, 0) := by
  rw [shortfall_some (by omega), if_pos ex_chk, ex_miss]
end
theorem C35_two {w : World} {g : Nat} {a b : S35} (h : w.heap[g]? = some (.cells #[.string a.f0, .int .i64 a.f1, .int .i64 a.f2, .string b.f0, .int .i64 b.f1, .int .i64 b.f2] 35 (0, 0))) : Kd.C k35 w (some ⟨g, 0, none⟩) 2 [a, b] := by
  refine ⟨rfl, by decide, fun _ => ⟨_, rfl, fun j p hp => ?_⟩⟩
  match j, hp with
  | 0, hp =>
    obtain rfl : a = p := by simpa using hp
    refine ⟨_, rfl, k35_mk w a, fun k u hu => ?_⟩
    rw [add_plain, blk_cell h]
    match k, hu with
    | 0, hu => exact hu
    | 1, hu => exact hu
    | 2, hu => exact hu
    | k + 3, hu => simp at hu
  | 1, hp =>
    obtain rfl : b = p := by simpa using hp
    refine ⟨_, rfl, k35_mk w b, fun k u hu => ?_⟩
    rw [add_plain, blk_cell h]
    match k, hu with
    | 0, hu => exact hu
    | 1, hu => exact hu
    | 2, hu => exact hu
    | k + 3, hu => simp at hu
  | j + 2, hp => simp at hp
theorem C35_three {w : World} {g : Nat} {a b c : S35} (h : w.heap[g]? = some (.cells #[.string a.f0, .int .i64 a.f1, .int .i64 a.f2, .string b.f0, .int .i64 b.f1, .int .i64 b.f2, .string c.f0, .int .i64 c.f1, .int .i64 c.f2] 35 (0, 0))) : Kd.C k35 w (some ⟨g, 0, none⟩) 3 [a, b, c] := by
  refine ⟨rfl, by decide, fun _ => ⟨_, rfl, fun j p hp => ?_⟩⟩
  match j, hp with
  | 0, hp =>
    obtain rfl : a = p := by simpa using hp
    refine ⟨_, rfl, k35_mk w a, fun k u hu => ?_⟩
    rw [add_plain, blk_cell h]
    match k, hu with
    | 0, hu => exact hu
    | 1, hu => exact hu
    | 2, hu => exact hu
    | k + 3, hu => simp at hu
  | 1, hp =>
    obtain rfl : b = p := by simpa using hp
    refine ⟨_, rfl, k35_mk w b, fun k u hu => ?_⟩
    rw [add_plain, blk_cell h]
    match k, hu with
    | 0, hu => exact hu
    | 1, hu => exact hu
    | 2, hu => exact hu
    | k + 3, hu => simp at hu
  | 2, hp =>
    obtain rfl : c = p := by simpa using hp
    refine ⟨_, rfl, k35_mk w c, fun k u hu => ?_⟩
    rw [add_plain, blk_cell h]
    match k, hu with
    | 0, hu => exact hu
    | 1, hu => exact hu
    | 2, hu => exact hu
    | k + 3, hu => simp at hu
  | j + 3, hp => simp at hp
theorem CS_one {W : World} {g : Nat} {s : ByteArray} {t : TypeId} (h : W.heap[g]? = some (.cells #[.string s] t (0, 0))) : Kd.C Kd.string W (some ⟨g, 0, none⟩) 1 [s] := by
  refine ⟨rfl, by decide, fun _ => ⟨_, rfl, fun j p hp => ?_⟩⟩
  match j, hp with
  | 0, hp =>
    obtain rfl : s = p := by simpa using hp
    refine ⟨[.string s], rfl, rfl, fun k u hu => ?_⟩
    rw [add_plain, blk_cell h]
    match k, hu with
    | 0, hu => exact hu
    | k + 1, hu => simp at hu
  | j + 1, hp => simp at hp
structure Ex (w W : World) : Prop where
  b : Below w.heap.size w W
  p : W.heap[w.heap.size]? = some (.cells #[.string pA.f0, .int .i64 pA.f1, .int .i64 pA.f2, .string pB.f0, .int .i64 pB.f1, .int .i64 pB.f2] 35 (0, 0))
  s : W.heap[w.heap.size + 1]? = some (.cells #[.string sA] 9 (0, 0))
  f : W.heap[w.heap.size + 1 + 1]? = some (.cells #[.string pC.f0, .int .i64 pC.f1, .int .i64 pC.f2, .string pD.f0, .int .i64 pD.f1, .int .i64 pD.f2, .string pE.f0, .int .i64 pE.f1, .int .i64 pE.f2] 35 (0, 0))
  r : W.heap[w.heap.size + 1 + 1 + 1]? = some (.cells #[.int .i64 100, .slice (some ⟨w.heap.size, 0, none⟩) 2 2, .slice (some ⟨w.heap.size + 1, 0, none⟩) 1 1, .slice (some ⟨w.heap.size + 1 + 1, 0, none⟩) 3 3] 25 (0, 0))
theorem Ex.step {w W W' : World} (h : Ex w W) (hb : Below W.heap.size W W') : Ex w W' := ⟨below_step h.b hb, blk_below h.p hb, blk_below h.s hb, blk_below h.f hb, blk_below h.r hb⟩
theorem Ex.made (w : World) : Ex w ((((w.alloc (.cells #[.string pA.f0, .int .i64 pA.f1, .int .i64 pA.f2, .string pB.f0, .int .i64 pB.f1, .int .i64 pB.f2] 35)).alloc (.cells #[.string sA] 9)).alloc (.cells #[.string pC.f0, .int .i64 pC.f1, .int .i64 pC.f2, .string pD.f0, .int .i64 pD.f1, .int .i64 pD.f2, .string pE.f0, .int .i64 pE.f1, .int .i64 pE.f2] 35)).alloc (.cells #[.int .i64 100, .slice (some ⟨w.heap.size, 0, none⟩) 2 2, .slice (some ⟨w.heap.size + 1, 0, none⟩) 1 1, .slice (some ⟨w.heap.size + 1 + 1, 0, none⟩) 3 3] 25)) := by
  have h1 := blk_new w (.cells #[.string pA.f0, .int .i64 pA.f1, .int .i64 pA.f2, .string pB.f0, .int .i64 pB.f1, .int .i64 pB.f2] 35)
  have h2 := blk_new (w.alloc (.cells #[.string pA.f0, .int .i64 pA.f1, .int .i64 pA.f2, .string pB.f0, .int .i64 pB.f1, .int .i64 pB.f2] 35)) (.cells #[.string sA] 9)
  have h3 := blk_new ((w.alloc (.cells #[.string pA.f0, .int .i64 pA.f1, .int .i64 pA.f2, .string pB.f0, .int .i64 pB.f1, .int .i64 pB.f2] 35)).alloc (.cells #[.string sA] 9)) (.cells #[.string pC.f0, .int .i64 pC.f1, .int .i64 pC.f2, .string pD.f0, .int .i64 pD.f1, .int .i64 pD.f2, .string pE.f0, .int .i64 pE.f1, .int .i64 pE.f2] 35)
  have h4 := blk_new (((w.alloc (.cells #[.string pA.f0, .int .i64 pA.f1, .int .i64 pA.f2, .string pB.f0, .int .i64 pB.f1, .int .i64 pB.f2] 35)).alloc (.cells #[.string sA] 9)).alloc (.cells #[.string pC.f0, .int .i64 pC.f1, .int .i64 pC.f2, .string pD.f0, .int .i64 pD.f1, .int .i64 pD.f2, .string pE.f0, .int .i64 pE.f1, .int .i64 pE.f2] 35)) (.cells #[.int .i64 100, .slice (some ⟨w.heap.size, 0, none⟩) 2 2, .slice (some ⟨w.heap.size + 1, 0, none⟩) 1 1, .slice (some ⟨w.heap.size + 1 + 1, 0, none⟩) 3 3] 25)
  rw [World.size_alloc] at h2
  rw [World.size_alloc, World.size_alloc] at h3
  rw [World.size_alloc, World.size_alloc, World.size_alloc] at h4
  exact ⟨below_alloc (below_alloc (below_alloc (below_alloc (Below.refl _ _) _) _) _) _, blk_alloc (blk_alloc (blk_alloc h1 _) _) _, blk_alloc (blk_alloc h2 _) _, blk_alloc h3 _, h4⟩
theorem Ex.short {w W : World} (h : Ex w W) : Calls Tryz.prog 28 #[.agg #[.int .i64 100, .slice (some ⟨w.heap.size, 0, none⟩) 2 2, .slice (some ⟨w.heap.size + 1, 0, none⟩) 1 1, .slice (some ⟨w.heap.size + 1 + 1, 0, none⟩) 3 3]] W fun e W' => e = .returned (.tuple #[.int .i64 50, .int .i64 0]) ∧ Ex w W' ∧ Below W.heap.size W W' :=
  (substitution_Shortfall.calls 300 100 _ 2 [pA, pB] _ 1 [sA] _ 3 [pC, pD, pE] 50 0 W (C35_two h.p) (by decide) (CS_one h.s) (by decide) (C35_three h.f) (by decide) ex_short).mono fun e W' hh => ⟨hh.1, h.step hh.2, hh.2⟩
def One (W : World) (v : Value) (p : S35) : Prop := ∃ ad c, v = .slice (some ad) 1 c ∧ W.cell? ad = some (.string p.f0)
theorem One.below {W W' : World} {v : Value} {p : S35} (h : One W v p) (hb : Below W.heap.size W W') : One W' v p := by
  obtain ⟨ad, c, h1, h2⟩ := h
  exact ⟨ad, c, h1, pw_cell_below hb h2⟩
theorem One.of {W : World} {v : Value} {p : S35} {B : Nat} {ok : Nat → Prop} (h : k35.R 35 W B ok v [p]) : One W v p := by
  obtain ⟨A, c, rfl, hc, hC⟩ := Kd.R_reads h
  obtain ⟨ad, rfl, h0, _, _⟩ := at_T35 hC 0 (by omega) (by simp)
  refine ⟨ad, c, rfl, ?_⟩
  have e : ad.add ((0 : Int).toNat * 3) = ad := by simp [Addr.add]
  rwa [e] at h0
theorem Ex.greedy {w W : World} (h : Ex w W) : Calls Tryz.prog 9 #[.agg #[.int .i64 100, .slice (some ⟨w.heap.size, 0, none⟩) 2 2, .slice (some ⟨w.heap.size + 1, 0, none⟩) 1 1, .slice (some ⟨w.heap.size + 1 + 1, 0, none⟩) 3 3]] W fun e W' => ∃ ad c A1 c1, e = .returned (.tuple #[.agg #[.slice (some ad) 1 c, .slice A1 1 c1, .int .i64 120], .int .i64 0]) ∧ W'.cell? ad = some (.string sE) ∧ Ex w W' ∧ Below W.heap.size W W' :=
  (substitution_Greedy.calls 100 _ 2 [pA, pB] _ 1 [sA] _ 3 [pC, pD, pE] [pE] [pA] 120 0 W (C35_two h.p) (by decide) (CS_one h.s) (by decide) (C35_three h.f) (by decide) (by rw [substitution_Greedy.f, ex_greedy])).mono fun e W' ⟨v0, v1, he, h0, h1, hb⟩ => by
    obtain ⟨ad, c, rfl, hc⟩ := One.of h0
    obtain ⟨A1, c1, rfl⟩ := Kd.R_slice h1
    exact ⟨ad, c, A1, c1, he, hc, h.step hb, hb⟩
theorem Ex.best {w W : World} (h : Ex w W) : Calls Tryz.prog 10 #[.agg #[.int .i64 100, .slice (some ⟨w.heap.size, 0, none⟩) 2 2, .slice (some ⟨w.heap.size + 1, 0, none⟩) 1 1, .slice (some ⟨w.heap.size + 1 + 1, 0, none⟩) 3 3]] W fun e W' => ∃ ad c A1 c1, e = .returned (.tuple #[.agg #[.slice (some ad) 1 c, .slice A1 1 c1, .int .i64 105], .int .i64 0]) ∧ W'.cell? ad = some (.string sD) ∧ Ex w W' ∧ Below W.heap.size W W' :=
  (substitution_Best.calls 100 _ 2 [pA, pB] _ 1 [sA] _ 3 [pC, pD, pE] [pD] [pA] 105 0 W (C35_two h.p) (by decide) (CS_one h.s) (by decide) (C35_three h.f) (by decide) (by rw [substitution_Best.f, ex_best])).mono fun e W' ⟨v0, v1, he, h0, h1, hb⟩ => by
    obtain ⟨ad, c, rfl, hc⟩ := One.of h0
    obtain ⟨A1, c1, rfl⟩ := Kd.R_slice h1
    exact ⟨ad, c, A1, c1, he, hc, h.step hb, hb⟩
def girolaw35_known.f : Option Bool := some true
set_option maxHeartbeats 4000000 in
set_option maxRecDepth 100000 in
theorem known_calls (w : World) : Calls Tryz.prog 17 #[] w fun e w' => e = .returned (.bool true) ∧ Below w.heap.size w w' := by
  have HM := Aside0.mk (Ex.made w)
  go_enter Tryz.func17, Tryz.ntmps17
  go_wp2_with fail
  refine (Ex.short HM.out).mono ?_
  rintro e W5 ⟨rfl, h5, hb5⟩
  have H5 := Aside0.mk h5
  have r0 := (blk_cell h5.r 0).trans (show _ = some (.int .i64 100) from rfl); have r1 := (blk_cell h5.r 1).trans (show _ = some (.slice (some ⟨w.heap.size, 0, none⟩) 2 2) from rfl); have r2 := (blk_cell h5.r 2).trans (show _ = some (.slice (some ⟨w.heap.size + 1, 0, none⟩) 1 1) from rfl); have r3 := (blk_cell h5.r 3).trans (show _ = some (.slice (some ⟨w.heap.size + 1 + 1, 0, none⟩) 3 3) from rfl)
  clear h5 hb5 HM
  go_wp2_with fail
  refine (Ex.greedy H5.out).mono ?_
  rintro e W6 ⟨ad, c, A1, c1, rfl, hx, h6, hb6⟩
  clear r0 r1 r2 r3
  have H7 := Aside0.mk (h6.step (below_alloc (Below.refl _ W6) (.cells #[.slice (some ad) 1 c, .slice A1 1 c1, .int .i64 120] 28)))
  have HN := Aside0.mk (blk_new W6 (.cells #[.slice (some ad) 1 c, .slice A1 1 c1, .int .i64 120] 28))
  have HX := Aside0.mk (pw_cell_below (below_alloc (Below.refl _ W6) (.cells #[.slice (some ad) 1 c, .slice A1 1 c1, .int .i64 120] 28)) hx)
  clear hx h6 hb6
  have r0 := (blk_cell H7.out.r 0).trans (show _ = some (.int .i64 100) from rfl); have r1 := (blk_cell H7.out.r 1).trans (show _ = some (.slice (some ⟨w.heap.size, 0, none⟩) 2 2) from rfl); have r2 := (blk_cell H7.out.r 2).trans (show _ = some (.slice (some ⟨w.heap.size + 1, 0, none⟩) 1 1) from rfl); have r3 := (blk_cell H7.out.r 3).trans (show _ = some (.slice (some ⟨w.heap.size + 1 + 1, 0, none⟩) 3 3) from rfl)
  go_wp2_with fail
  refine (Ex.best H7.out).mono ?_
  rintro e W8 ⟨ad2, c2, A2, c3, rfl, hx2, h8, hb8⟩
  clear r0 r1 r2 r3
  have HN8 := blk_below HN.out hb8
  have HX8 := pw_cell_below hb8 HX.out
  have hb9 := below_alloc (Below.refl _ W8) (.cells #[.slice (some ad2) 1 c2, .slice A2 1 c3, .int .i64 105] 28)
  have n0 := (blk_cell (blk_below HN8 hb9) 0).trans (show _ = some (.slice (some ad) 1 c) from rfl)
  have n2 := (blk_cell (blk_below HN8 hb9) 2).trans (show _ = some (.int .i64 120) from rfl)
  have m0 := (blk_cell (blk_new W8 (.cells #[.slice (some ad2) 1 c2, .slice A2 1 c3, .int .i64 105] 28)) 0).trans (show _ = some (.slice (some ad2) 1 c2) from rfl)
  have m2 := (blk_cell (blk_new W8 (.cells #[.slice (some ad2) 1 c2, .slice A2 1 c3, .int .i64 105] 28)) 2).trans (show _ = some (.int .i64 105) from rfl)
  have x0 := pw_cell_below hb9 HX8
  have x2 := pw_cell_below hb9 hx2
  have HB9 := Aside0.mk (below_step h8.b hb9)
  clear hb9 HN8 HX8 hb8 hx2 h8
  go_wp2_with fail
  go_ret
  exact ⟨rfl, HB9.out⟩
theorem girolaw35_known.calls (r : Bool) (w : World) (h : girolaw35_known.f = some r) : Calls Tryz.prog 17 #[] w fun e w' => e = .returned (.bool r) ∧ Below w.heap.size w w' := by
  obtain rfl := Option.some.inj h
  exact known_calls w
end Go.Proofs.YtoanlppfdniiaaaGreatDoor.Q
end
