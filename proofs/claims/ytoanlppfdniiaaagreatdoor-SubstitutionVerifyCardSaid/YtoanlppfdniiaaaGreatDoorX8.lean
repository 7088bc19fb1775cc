/- A part of the proof; no condition. -/
import Derived.Test.YtoanlppfdniiaaaGreatDoorX7
import Derived.Lib.Hide
import Derived.Deep.RegionHeld3
import Derived.Deep.QuietTactic
import Derived.BigQuiet
section
namespace Go.Proofs.YtoanlppfdniiaaaGreatDoor
open Go.RowKit Go.Proofs.YtoanlppfdniiaaaGreatDoorW.PrintWords Go.Proofs.YtoanlppfdniiaaaGreatDoorW.PrintLast Go.Proofs.YtoanlppfdniiaaaGreatDoorW.PrintMore
set_option linter.unusedVariables false
set_option linter.unusedSimpArgs false
theorem kinds_at0 (b : Nat) (w : World) : (Instr.index 166 (.agg #[.int .i64 12, .slice (some ⟨b + 1, 0, none⟩) 3 3, .int .i64 11, .func (Fn.func 113) #[] #[],
     .int .i64 4, .slice (some ⟨b + 1 + 1, 0, none⟩) 2 2, .int .i64 0, .nilFunc, .int .i64 1, .slice (some ⟨b + 1 + 1 + 1, 0, none⟩) 1 1, .int .i64 0, .nilFunc,
     .int .i64 20, .slice (some ⟨b + 1 + 1 + 1 + 1, 0, none⟩) 2 2, .int .i64 18, .func (Fn.func 115) #[] #[]]) (.int .i64 0)).run Tryz.prog w = .ok (.agg #[.int .i64 12, .slice (some ⟨b + 1, 0, none⟩) 3 3, .int .i64 11, .func (Fn.func 113) #[] #[]]) w := by kernel_rfl
theorem kinds_at1 (b : Nat) (w : World) : (Instr.index 166 (.agg #[.int .i64 12, .slice (some ⟨b + 1, 0, none⟩) 3 3, .int .i64 11, .func (Fn.func 113) #[] #[],
     .int .i64 4, .slice (some ⟨b + 1 + 1, 0, none⟩) 2 2, .int .i64 0, .nilFunc, .int .i64 1, .slice (some ⟨b + 1 + 1 + 1, 0, none⟩) 1 1, .int .i64 0, .nilFunc,
     .int .i64 20, .slice (some ⟨b + 1 + 1 + 1 + 1, 0, none⟩) 2 2, .int .i64 18, .func (Fn.func 115) #[] #[]]) (.int .i64 1)).run Tryz.prog w = .ok (.agg #[.int .i64 4, .slice (some ⟨b + 1 + 1, 0, none⟩) 2 2, .int .i64 0, .nilFunc]) w := by kernel_rfl
theorem kinds_at2 (b : Nat) (w : World) : (Instr.index 166 (.agg #[.int .i64 12, .slice (some ⟨b + 1, 0, none⟩) 3 3, .int .i64 11, .func (Fn.func 113) #[] #[],
     .int .i64 4, .slice (some ⟨b + 1 + 1, 0, none⟩) 2 2, .int .i64 0, .nilFunc, .int .i64 1, .slice (some ⟨b + 1 + 1 + 1, 0, none⟩) 1 1, .int .i64 0, .nilFunc,
     .int .i64 20, .slice (some ⟨b + 1 + 1 + 1 + 1, 0, none⟩) 2 2, .int .i64 18, .func (Fn.func 115) #[] #[]]) (.int .i64 2)).run Tryz.prog w = .ok (.agg #[.int .i64 1, .slice (some ⟨b + 1 + 1 + 1, 0, none⟩) 1 1, .int .i64 0, .nilFunc]) w := by kernel_rfl
theorem neq_nilnil (w : World) : (binOp .neq 163 .nilFunc .nilFunc).run Tryz.prog w = .ok (.bool false) w := by kernel_rfl
instance (f : Nat) : Decidable (fnOk f) := by unfold fnOk; infer_instance
def sp1 : List (Int × Nat) := [(1, 110), (7, 111)]
def sp2 : List (Int × Nat) := [(16, 114)]
def sp0 : List (Int × Nat) := [(2, 110), (9, 111), (1, 112)]
def luOk (s : ByteArray) : Bool := Lib.decDigits (luhnT ⟨(exU (s.data.toList.take 11)).toArray⟩) == (s.extract 11 s.size).toList
theorem neq_fnil (w : World) : (binOp .neq 163 (.func (Fn.func 113) #[] #[]) .nilFunc).run Tryz.prog w = .ok (.bool true) w := by kernel_rfl
theorem lu_bad {s : ByteArray} (hp : pfOk (cl sp0) 12 s = true) (h : (!Lib.decDigits (luhnT ⟨(exU (s.data.toList.take 11)).toArray⟩) == (s.extract 11 s.size).toList) = true) : ((18 : Int) == 0) = (pfOk (cl sp0) 12 s && luOk s) := by
  have e : luOk s = false := by unfold luOk; simpa using h
  rw [hp, e]; rfl
theorem lu_good {s : ByteArray} (hp : pfOk (cl sp0) 12 s = true) (h : (!Lib.decDigits (luhnT ⟨(exU (s.data.toList.take 11)).toArray⟩) == (s.extract 11 s.size).toList) = false) : ((0 : Int) == 0) = (pfOk (cl sp0) 12 s && luOk s) := by
  have e : luOk s = true := by unfold luOk; simpa using h
  rw [hp, e]; rfl
theorem pfOk_isin {s : ByteArray} (h : pfOk (cl sp0) 12 s = true) : s.size = 12 ∧ ∀ b ∈ (s.extract 0 11).data.toList, Id.an b.toNat = true := by
  simp only [pfOk, Bool.and_eq_true, decide_eq_true_eq] at h
  obtain ⟨⟨h1, h2⟩, h3⟩ := h
  have hl : (cl sp0).length = 12 := by decide
  rw [hl] at h1 h3
  have hsz : s.size = 12 := by omega
  refine ⟨hsz, ?_⟩
  have hc : ∀ i, i < 11 → Id.an (bt s (i : Nat)) = true := by
    have e : (cl sp0) = [110, 110, 111, 111, 111, 111, 111, 111, 111, 111, 111, 112] := by decide
    simp only [pfTo, hsz, e, Bool.and_eq_true, Bool.or_eq_true, decide_eq_true_eq] at h1
    intro i hi
    have hup : ∀ c, fnB 110 c = true → Id.an c = true := fun c hc => by simp [fnB] at hc; simp [Id.an, hc]
    have han : ∀ c, fnB 111 c = true → Id.an c = true := fun c hc => by simpa [fnB] using hc
    match i, hi with
    | 0, _ => exact hup _ (by simpa using h1.1.1.1.1.1.1.1.1.1.1.1.2)
    | 1, _ => exact hup _ (by simpa using h1.1.1.1.1.1.1.1.1.1.1.2)
    | 2, _ => exact han _ (by simpa using h1.1.1.1.1.1.1.1.1.1.2)
    | 3, _ => exact han _ (by simpa using h1.1.1.1.1.1.1.1.1.2)
    | 4, _ => exact han _ (by simpa using h1.1.1.1.1.1.1.1.2)
    | 5, _ => exact han _ (by simpa using h1.1.1.1.1.1.1.2)
    | 6, _ => exact han _ (by simpa using h1.1.1.1.1.1.2)
    | 7, _ => exact han _ (by simpa using h1.1.1.1.1.2)
    | 8, _ => exact han _ (by simpa using h1.1.1.1.2)
    | 9, _ => exact han _ (by simpa using h1.1.1.2)
    | 10, _ => exact han _ (by simpa using h1.1.2)
  intro b hb
  obtain ⟨i, hi, rfl⟩ := List.getElem_of_mem hb
  have hi' : i < 11 := by
    have e1 : (s.extract 0 11).data.toList.length = (s.extract 0 11).size := Array.length_toList
    rw [e1, ByteArray.size_extract] at hi; omega
  have := hc i hi'
  rw [← bt_at s i (by simpa using (show i < s.size by omega))] at this
  have e : (s.extract 0 11).data.toList[i] = s[((i : Nat) : Int).toNat]'(by simpa using (show i < s.size by omega)) := by
    simp [ByteArray.data_extract]; rfl
  rw [e]; exact this
set_option maxHeartbeats 2000000 in
set_option maxRecDepth 100000 in
theorem check1_calls (s : ByteArray) (w : World) :
    Calls Tryz.prog 80 #[.int .i64 1, .string s] w fun e w' => ∃ a n, e = .returned (.tuple #[.int .i64 a, .int .i64 n]) ∧ (n == 0) = pfOk (cl sp1) 4 s ∧ Below w.heap.size w w' := by
  go_enter Tryz.func80, Tryz.ntmps80
  go_wp2_with (go_at_call 100; refine (kinds_calls _).mono ?_; rintro e w1 ⟨b, hb0, rfl, hk0, hk1, hk2, hq⟩; have HB0 := Aside0.mk hb0; have HS1 := Aside0.mk (spans_of_blk (sp := sp1) hk1 (by intro i hi; match i, hi with | 0, _ => exact ⟨rfl, rfl⟩ | 1, _ => exact ⟨rfl, rfl⟩)); have HB := Aside0.mk hq; clear hb0 hk0 hk1 hk2 hq; have hix := kinds_at1 b)
  clear hix
  have hkb := blk_new w1 (.cells #[.int .i64 4, .slice (some ⟨b + 1 + 1, 0, none⟩) 2 2, .int .i64 0, .nilFunc] 165)
  have HB2 := Aside0.mk (below_alloc HB.out (.cells #[.int .i64 4, .slice (some ⟨b + 1 + 1, 0, none⟩) 2 2, .int .i64 0, .nilFunc] 165))
  have HS2 := Aside0.mk (HS1.out.below (below_alloc (Below.refl _ _) (.cells #[.int .i64 4, .slice (some ⟨b + 1 + 1, 0, none⟩) 2 2, .int .i64 0, .nilFunc] 165)))
  clear HB HS1
  generalize w1.alloc (.cells #[.int .i64 4, .slice (some ⟨b + 1 + 1, 0, none⟩) 2 2, .int .i64 0, .nilFunc] 165) = w2 at *
  generalize w1.heap.size = g at *
  have hg := Aside0.mk (blk_lt hkb)
  have h0 : w2.cell? ⟨g, 0, none⟩ = some (.int .i64 4) := blk_cell hkb 0
  have h1 : w2.cell? ⟨g, 1, none⟩ = some (.slice (some ⟨b + 1 + 1, 0, none⟩) 2 2) := blk_cell hkb 1
  have h2 : w2.cell? ⟨g, 2, none⟩ = some (.int .i64 0) := blk_cell hkb 2
  have h3 : w2.cell? ⟨g, 3, none⟩ = some .nilFunc := blk_cell hkb 3
  clear hkb
  go_region_held3 (fun w' => w'.cell? ⟨g, 0, none⟩ = some (.int .i64 4) ∧ w'.cell? ⟨g, 1, none⟩ = some (.slice (some ⟨b + 1 + 1, 0, none⟩) 2 2) ∧ w'.cell? ⟨g, 2, none⟩ = some (.int .i64 0) ∧ w'.cell? ⟨g, 3, none⟩ = some .nilFunc)
    (go_keep)
    (first
      | (go_at_call 102; refine (classes_calls sp1 (some ⟨b + 1 + 1, 0, none⟩) 4 0 .nilFunc _ ?a1 (by decide) (by decide)).mono ?_; (case a1 => exact HS2.out); rintro e w3 ⟨v, rfl, hR, hq⟩; obtain ⟨A, c, rfl, hc, hC⟩ := Kd.R_reads hR; have HC := Aside0.mk hC; have k0 : w3.cell? ⟨g, 0, none⟩ = some (.int .i64 4) := cell_later hq h0; have k1 : w3.cell? ⟨g, 1, none⟩ = some (.slice (some ⟨b + 1 + 1, 0, none⟩) 2 2) := cell_later hq h1; have k2 : w3.cell? ⟨g, 2, none⟩ = some (.int .i64 0) := cell_later hq h2; have k3 : w3.cell? ⟨g, 3, none⟩ = some .nilFunc := cell_later hq h3; have HQ3 := Aside0.mk (below_step HB2.out ⟨hq.os, hq.tape, hq.output, hq.size, hq.block⟩); clear hR hc hC hq h0 h1 h2 h3)
      | (go_at_call 101; refine (prefix_calls (cl sp1) A c 4 s _ ?b1 (by decide) (by decide)).mono ?_; (case b1 => exact HC.out); rintro e w4 ⟨a, n, rfl, hn, hq⟩; have m0 : w4.cell? ⟨g, 0, none⟩ = some (.int .i64 4) := cell_later hq k0; have m1 : w4.cell? ⟨g, 1, none⟩ = some (.slice (some ⟨b + 1 + 1, 0, none⟩) 2 2) := cell_later hq k1; have m2 : w4.cell? ⟨g, 2, none⟩ = some (.int .i64 0) := cell_later hq k2; have m3 : w4.cell? ⟨g, 3, none⟩ = some .nilFunc := cell_later hq k3; have HQ4 := Aside0.mk (below_step HQ3.out ⟨hq.os, hq.tape, hq.output, hq.size, hq.block⟩); have HN := Aside0.mk hn; clear hn hq k0 k1 k2 k3))
  by_cases hn : n = 0
  · subst hn
    have hnn := neq_nilnil
    go_wp2
    go_quiet (fail)
    go_wp2
    go_ret2
    exact ⟨_, _, rfl, HN.out, pw_below_drewN HQ4.out _⟩
  · have hb : (n != 0) = true := by simpa using hn
    go_wp2
    go_ret2
    exact ⟨_, _, rfl, HN.out, HQ4.out⟩
set_option maxHeartbeats 2000000 in
set_option maxRecDepth 100000 in
theorem check2_calls (s : ByteArray) (w : World) :
    Calls Tryz.prog 80 #[.int .i64 2, .string s] w fun e w' => ∃ a n, e = .returned (.tuple #[.int .i64 a, .int .i64 n]) ∧ (n == 0) = pfOk (cl sp2) 1 s ∧ Below w.heap.size w w' := by
  go_enter Tryz.func80, Tryz.ntmps80
  go_wp2_with (go_at_call 100; refine (kinds_calls _).mono ?_; rintro e w1 ⟨b, hb0, rfl, hk0, hk1, hk2, hq⟩; have HB0 := Aside0.mk hb0; have HS1 := Aside0.mk (spans_of_blk (sp := sp2) hk2 (by intro i hi; match i, hi with | 0, _ => exact ⟨rfl, rfl⟩)); have HB := Aside0.mk hq; clear hb0 hk0 hk1 hk2 hq; have hix := kinds_at2 b)
  clear hix
  have hkb := blk_new w1 (.cells #[.int .i64 1, .slice (some ⟨b + 1 + 1 + 1, 0, none⟩) 1 1, .int .i64 0, .nilFunc] 165)
  have HB2 := Aside0.mk (below_alloc HB.out (.cells #[.int .i64 1, .slice (some ⟨b + 1 + 1 + 1, 0, none⟩) 1 1, .int .i64 0, .nilFunc] 165))
  have HS2 := Aside0.mk (HS1.out.below (below_alloc (Below.refl _ _) (.cells #[.int .i64 1, .slice (some ⟨b + 1 + 1 + 1, 0, none⟩) 1 1, .int .i64 0, .nilFunc] 165)))
  clear HB HS1
  generalize w1.alloc (.cells #[.int .i64 1, .slice (some ⟨b + 1 + 1 + 1, 0, none⟩) 1 1, .int .i64 0, .nilFunc] 165) = w2 at *
  generalize w1.heap.size = g at *
  have hg := Aside0.mk (blk_lt hkb)
  have h0 : w2.cell? ⟨g, 0, none⟩ = some (.int .i64 1) := blk_cell hkb 0
  have h1 : w2.cell? ⟨g, 1, none⟩ = some (.slice (some ⟨b + 1 + 1 + 1, 0, none⟩) 1 1) := blk_cell hkb 1
  have h2 : w2.cell? ⟨g, 2, none⟩ = some (.int .i64 0) := blk_cell hkb 2
  have h3 : w2.cell? ⟨g, 3, none⟩ = some .nilFunc := blk_cell hkb 3
  clear hkb
  go_region_held3 (fun w' => w'.cell? ⟨g, 0, none⟩ = some (.int .i64 1) ∧ w'.cell? ⟨g, 1, none⟩ = some (.slice (some ⟨b + 1 + 1 + 1, 0, none⟩) 1 1) ∧ w'.cell? ⟨g, 2, none⟩ = some (.int .i64 0) ∧ w'.cell? ⟨g, 3, none⟩ = some .nilFunc)
    (go_keep)
    (first
      | (go_at_call 102; refine (classes_calls sp2 (some ⟨b + 1 + 1 + 1, 0, none⟩) 1 0 .nilFunc _ ?a1 (by decide) (by decide)).mono ?_; (case a1 => exact HS2.out); rintro e w3 ⟨v, rfl, hR, hq⟩; obtain ⟨A, c, rfl, hc, hC⟩ := Kd.R_reads hR; have HC := Aside0.mk hC; have k0 : w3.cell? ⟨g, 0, none⟩ = some (.int .i64 1) := cell_later hq h0; have k1 : w3.cell? ⟨g, 1, none⟩ = some (.slice (some ⟨b + 1 + 1 + 1, 0, none⟩) 1 1) := cell_later hq h1; have k2 : w3.cell? ⟨g, 2, none⟩ = some (.int .i64 0) := cell_later hq h2; have k3 : w3.cell? ⟨g, 3, none⟩ = some .nilFunc := cell_later hq h3; have HQ3 := Aside0.mk (below_step HB2.out ⟨hq.os, hq.tape, hq.output, hq.size, hq.block⟩); clear hR hc hC hq h0 h1 h2 h3)
      | (go_at_call 101; refine (prefix_calls (cl sp2) A c 1 s _ ?b1 (by decide) (by decide)).mono ?_; (case b1 => exact HC.out); rintro e w4 ⟨a, n, rfl, hn, hq⟩; have m0 : w4.cell? ⟨g, 0, none⟩ = some (.int .i64 1) := cell_later hq k0; have m1 : w4.cell? ⟨g, 1, none⟩ = some (.slice (some ⟨b + 1 + 1 + 1, 0, none⟩) 1 1) := cell_later hq k1; have m2 : w4.cell? ⟨g, 2, none⟩ = some (.int .i64 0) := cell_later hq k2; have m3 : w4.cell? ⟨g, 3, none⟩ = some .nilFunc := cell_later hq k3; have HQ4 := Aside0.mk (below_step HQ3.out ⟨hq.os, hq.tape, hq.output, hq.size, hq.block⟩); have HN := Aside0.mk hn; clear hn hq k0 k1 k2 k3))
  by_cases hn : n = 0
  · subst hn
    have hnn := neq_nilnil
    go_wp2
    go_quiet (fail)
    go_wp2
    go_ret2
    exact ⟨_, _, rfl, HN.out, pw_below_drewN HQ4.out _⟩
  · have hb : (n != 0) = true := by simpa using hn
    go_wp2
    go_ret2
    exact ⟨_, _, rfl, HN.out, HQ4.out⟩
set_option maxHeartbeats 2000000 in
set_option maxRecDepth 100000 in
theorem check0_calls (s : ByteArray) (w : World) :
    Calls Tryz.prog 80 #[.int .i64 0, .string s] w fun e w' => ∃ a n, e = .returned (.tuple #[.int .i64 a, .int .i64 n]) ∧ (n == 0) = (pfOk (cl sp0) 12 s && luOk s) ∧ Below w.heap.size w w' := by
  go_enter Tryz.func80, Tryz.ntmps80
  go_wp2_with (go_at_call 100; refine (kinds_calls _).mono ?_; rintro e w1 ⟨b, hb0, rfl, hk0, hk1, hk2, hq⟩; have HB0 := Aside0.mk hb0; have HS1 := Aside0.mk (spans_of_blk (sp := sp0) hk0 (by intro i hi; match i, hi with | 0, _ => exact ⟨rfl, rfl⟩ | 1, _ => exact ⟨rfl, rfl⟩ | 2, _ => exact ⟨rfl, rfl⟩)); have HB := Aside0.mk hq; clear hb0 hk0 hk1 hk2 hq; have hix := kinds_at0 b)
  clear hix
  have hkb := blk_new w1 (.cells #[.int .i64 12, .slice (some ⟨b + 1, 0, none⟩) 3 3, .int .i64 11, .func (Fn.func 113) #[] #[]] 165)
  have HB2 := Aside0.mk (below_alloc HB.out (.cells #[.int .i64 12, .slice (some ⟨b + 1, 0, none⟩) 3 3, .int .i64 11, .func (Fn.func 113) #[] #[]] 165))
  have HS2 := Aside0.mk (HS1.out.below (below_alloc (Below.refl _ _) (.cells #[.int .i64 12, .slice (some ⟨b + 1, 0, none⟩) 3 3, .int .i64 11, .func (Fn.func 113) #[] #[]] 165)))
  clear HB HS1
  generalize w1.alloc (.cells #[.int .i64 12, .slice (some ⟨b + 1, 0, none⟩) 3 3, .int .i64 11, .func (Fn.func 113) #[] #[]] 165) = w2 at *
  generalize w1.heap.size = g at *
  have hg := Aside0.mk (blk_lt hkb)
  have h0 : w2.cell? ⟨g, 0, none⟩ = some (.int .i64 12) := blk_cell hkb 0
  have h1 : w2.cell? ⟨g, 1, none⟩ = some (.slice (some ⟨b + 1, 0, none⟩) 3 3) := blk_cell hkb 1
  have h2 : w2.cell? ⟨g, 2, none⟩ = some (.int .i64 11) := blk_cell hkb 2
  have h3 : w2.cell? ⟨g, 3, none⟩ = some (.func (Fn.func 113) #[] #[]) := blk_cell hkb 3
  clear hkb
  go_region_held3 (fun w' => w'.cell? ⟨g, 0, none⟩ = some (.int .i64 12) ∧ w'.cell? ⟨g, 1, none⟩ = some (.slice (some ⟨b + 1, 0, none⟩) 3 3) ∧ w'.cell? ⟨g, 2, none⟩ = some (.int .i64 11) ∧ w'.cell? ⟨g, 3, none⟩ = some (.func (Fn.func 113) #[] #[]))
    (go_keep)
    (first
      | (go_at_call 102; refine (classes_calls sp0 (some ⟨b + 1, 0, none⟩) 12 11 (.func (Fn.func 113) #[] #[]) _ ?a1 (by decide) (by decide)).mono ?_; (case a1 => exact HS2.out); rintro e w3 ⟨v, rfl, hR, hq⟩; obtain ⟨A, c, rfl, hc, hC⟩ := Kd.R_reads hR; have HC := Aside0.mk hC; have k0 : w3.cell? ⟨g, 0, none⟩ = some (.int .i64 12) := cell_later hq h0; have k1 : w3.cell? ⟨g, 1, none⟩ = some (.slice (some ⟨b + 1, 0, none⟩) 3 3) := cell_later hq h1; have k2 : w3.cell? ⟨g, 2, none⟩ = some (.int .i64 11) := cell_later hq h2; have k3 : w3.cell? ⟨g, 3, none⟩ = some (.func (Fn.func 113) #[] #[]) := cell_later hq h3; have HQ3 := Aside0.mk (below_step HB2.out ⟨hq.os, hq.tape, hq.output, hq.size, hq.block⟩); clear hR hc hC hq h0 h1 h2 h3)
      | (go_at_call 101; refine (prefix_calls (cl sp0) A c 12 s _ ?b1 (by decide) (by decide)).mono ?_; (case b1 => exact HC.out); rintro e w4 ⟨a, n, rfl, hn, hq⟩; have m0 : w4.cell? ⟨g, 0, none⟩ = some (.int .i64 12) := cell_later hq k0; have m1 : w4.cell? ⟨g, 1, none⟩ = some (.slice (some ⟨b + 1, 0, none⟩) 3 3) := cell_later hq k1; have m2 : w4.cell? ⟨g, 2, none⟩ = some (.int .i64 11) := cell_later hq k2; have m3 : w4.cell? ⟨g, 3, none⟩ = some (.func (Fn.func 113) #[] #[]) := cell_later hq k3; have HQ4 := Aside0.mk (below_step HQ3.out ⟨hq.os, hq.tape, hq.output, hq.size, hq.block⟩); have HN := Aside0.mk hn; clear hn hq k0 k1 k2 k3))
  by_cases hn : n = 0
  · subst hn
    have hp : pfOk (cl sp0) 12 s = true := by rw [← HN.out]; rfl
    obtain ⟨hsz, han⟩ := pfOk_isin hp
    have HAN := Aside0.mk han
    have HE := Aside0.mk (show (s.extract 0 11).size ≤ 1000 from by rw [ByteArray.size_extract]; omega)
    have HP := Aside0.mk hp
    have hs12 : (s.size : Int) = 12 := by omega
    clear hp han
    have hnn := neq_fnil
    go_wp2
    have HSZ := Aside0.mk hsz
    clear hsz
    go_region_held3 (fun w' => w'.cell? ⟨g, 0, none⟩ = some (.int .i64 12) ∧ w'.cell? ⟨g, 1, none⟩ = some (.slice (some ⟨b + 1, 0, none⟩) 3 3) ∧ w'.cell? ⟨g, 2, none⟩ = some (.int .i64 11) ∧ w'.cell? ⟨g, 3, none⟩ = some (.func (Fn.func 113) #[] #[]))
      (go_keep)
      (first
        | (go_at_call 113; refine (luhn_calls (s.extract 0 11) _ ?c1 HAN.out).mono ?_; (case c1 => exact HE.out); rintro e w5 ⟨rfl, hq⟩; have k0 : w5.cell? ⟨g, 0, none⟩ = some (.int .i64 12) := cell_later hq m0; have k1 : w5.cell? ⟨g, 1, none⟩ = some (.slice (some ⟨b + 1, 0, none⟩) 3 3) := cell_later hq m1; have k2 : w5.cell? ⟨g, 2, none⟩ = some (.int .i64 11) := cell_later hq m2; have k3 : w5.cell? ⟨g, 3, none⟩ = some (.func (Fn.func 113) #[] #[]) := cell_later hq m3; have HQ5 := Aside0.mk (below_step HQ4.out ⟨hq.os, hq.tape, hq.output, hq.size, hq.block⟩); clear hq m0 m1 m2 m3))
    go_wp2
    · have h6 : (!Lib.decDigits (luhnT ⟨(exU (s.data.toList.take 11)).toArray⟩) == (s.extract 11 s.size).toList) = true := by assumption
      have HF := Aside0.mk (lu_bad HP.out h6)
      clear h6
      go_ret2
      exact ⟨_, _, rfl, HF.out, HQ5.out⟩
    · have h6 : (!Lib.decDigits (luhnT ⟨(exU (s.data.toList.take 11)).toArray⟩) == (s.extract 11 s.size).toList) = false := by assumption
      have HF := Aside0.mk (lu_good HP.out h6)
      clear h6
      go_ret2
      exact ⟨_, _, rfl, HF.out, HQ5.out⟩
  · have hb : (n != 0) = true := by simpa using hn
    have hq : (pfOk (cl sp0) 12 s && luOk s) = false := by rw [← HN.out, beq_eq_false_iff_ne.2 hn, Bool.false_and]
    have HQ := Aside0.mk (show (n == 0) = (pfOk (cl sp0) 12 s && luOk s) from by rw [hq]; exact beq_eq_false_iff_ne.2 hn)
    clear hq
    go_wp2
    go_ret2
    exact ⟨_, _, rfl, HQ.out, HQ4.out⟩
def vld (kind : Int) (s : ByteArray) : Bool := if kind = 0 then pfOk (cl sp0) 12 s && luOk s else if kind = 1 then pfOk (cl sp1) 4 s else pfOk (cl sp2) 1 s
theorem check_calls (kind : Int) (hk : kind = 0 ∨ kind = 1 ∨ kind = 2) (s : ByteArray) (w : World) :
    Calls Tryz.prog 80 #[.int .i64 kind, .string s] w fun e w' => ∃ a n, e = .returned (.tuple #[.int .i64 a, .int .i64 n]) ∧ (n == 0) = vld kind s ∧ Below w.heap.size w w' := by
  rcases hk with rfl | rfl | rfl
  · exact check0_calls s w
  · exact check1_calls s w
  · exact check2_calls s w
set_option maxHeartbeats 2000000 in
set_option maxRecDepth 100000 in
theorem valid_calls (kind : Int) (hk : kind = 0 ∨ kind = 1 ∨ kind = 2) (s : ByteArray) (w : World) :
    Calls Tryz.prog 48 #[.int .i64 kind, .string s] w fun e w' => e = .returned (.bool (vld kind s)) ∧ Below w.heap.size w w' := by
  have HC := Lib.hid (check_calls kind hk s)
  clear hk
  go_enter Tryz.func48, Tryz.ntmps48
  go_wp2_with (go_at_call 80; refine (HC.out _).mono ?_; rintro e w1 ⟨a, n, rfl, hn, hq⟩; have HN := Aside0.mk hn; have HQ := Aside0.mk hq; clear hn hq)
  go_ret
  exact ⟨ret_bool HN.out, HQ.out⟩
namespace Q
end Q
end Go.Proofs.YtoanlppfdniiaaaGreatDoor
end
