/- A part of the proof; no condition. -/
import Derived.Test.YtoanlppfdniiaaaGreatDoorX9
import Derived.Test.YtoanlppfdniiaaaGreatDoorX14
import Derived.Test.YtoanlppfdniiaaaGreatDoorX17
import Derived.Test.YtoanlppfdniiaaaGreatDoorX19
import Derived.Test.YtoanlppfdniiaaaGreatDoorX20
import Derived.Test.YtoanlppfdniiaaaGreatDoorX22
import Derived.Test.YtoanlppfdniiaaaGreatDoorX23
section
namespace Go.Proofs.YtoanlppfdniiaaaGreatDoor.Q
set_option linter.unusedVariables false
set_option linter.unusedSimpArgs false
open Go.RowKit Go.Proofs.YtoanlppfdniiaaaGreatDoorW.PrintWords Go.Proofs.YtoanlppfdniiaaaGreatDoorW.PrintLast Go.Proofs.YtoanlppfdniiaaaGreatDoorW.PrintMore
theorem pfTo_iff {fs : List Nat} {s : ByteArray} : ∀ {i : Nat}, pfTo fs s i = true ↔ ∀ j, j < i → j < s.size → fnB (fs.getD j 0) (bt s j) = true
  | 0 => by simp [pfTo]
  | i + 1 => by
    rw [pfTo, Bool.and_eq_true, pfTo_iff (i := i), Bool.or_eq_true, decide_eq_true_eq]
    constructor
    · rintro ⟨h1, h2⟩ j hj hs
      by_cases e : j = i
      · subst e; rcases h2 with h2 | h2
        · omega
        · exact h2
      · exact h1 j (by omega) hs
    · intro h
      refine ⟨fun j hj hs => h j (by omega) hs, ?_⟩
      by_cases e : s.size ≤ i
      · exact .inl e
      · exact .inr (h i (by omega) (by omega))
theorem may0_fn {j : Nat} (hj : j < 12) (c : Int) : mayB 0 (j : Int) c = fnB ((cl sp0).getD j 0) c := by
  have hc : cl sp0 = [110, 110, 111, 111, 111, 111, 111, 111, 111, 111, 111, 112] := by decide
  rw [hc]
  unfold mayB fnB
  rcases (show j = 0 ∨ j = 1 ∨ j = 2 ∨ j = 3 ∨ j = 4 ∨ j = 5 ∨ j = 6 ∨ j = 7 ∨ j = 8 ∨ j = 9 ∨ j = 10 ∨ j = 11 by omega) with rfl | rfl | rfl | rfl | rfl | rfl | rfl | rfl | rfl | rfl | rfl | rfl <;> simp [upB, dgB, Id.up, Id.dg, Id.an]
theorem luhnT_lt (t : ByteArray) : luhnT t < 10 := by unfold luhnT; omega
theorem luOk_iff {s : ByteArray} (hs : s.size = 12) (hd : Id.dg (bt s 11) = true) : luOk s = true ↔ (bt s 11 - 48) % 256 = luhnT ⟨(exU (s.extract 0 11).data.toList).toArray⟩ := by
  have e1 : (s.extract 0 11).data.toList = s.data.toList.take 11 := by simp
  have e2 : (s.extract 11 s.size).toList = [s[11]'(by omega)] := by
    have : s.data.toList.drop 11 = [s[11]'(by omega)] := by
      have hl : s.data.toList.length = 12 := by simpa using hs
      rw [List.drop_eq_getElem_cons (by omega), List.drop_of_length_le (by omega)]; rfl
    have e3 : (s.extract 11 s.size).toList = (s.extract 11 s.size).data.toList := by simp [ByteArray.toList_eq]
    rw [e3]; simp [hs, this]
  have h0 := luhnT_lt ⟨(exU (s.data.toList.take 11)).toArray⟩
  have hb := bt_get s 11 (by omega)
  unfold luOk
  rw [e1, e2, Lib.decDigits_one h0]
  generalize luhnT ⟨(exU (s.data.toList.take 11)).toArray⟩ = n at h0
  rw [show ((11 : Nat) : Int) = 11 from rfl] at hb
  rw [hb] at hd ⊢
  generalize s[11] = c at hd
  simp only [Id.dg, Bool.and_eq_true, decide_eq_true_eq] at hd
  have hc := c.toNat_lt
  simp only [beq_iff_eq, List.cons.injEq, and_true]
  rw [← UInt8.toNat_inj]
  simp
  omega
theorem ck05_isin (s : ByteArray) : ((ck05 0 12 12 s).2 == 0) = vld 0 s := by
  have hl : (cl sp0).length = 12 := by decide
  have hv : vld 0 s = (pfOk (cl sp0) 12 s && luOk s) := rfl
  rw [hv]
  by_cases h : ∀ j, j < min s.size 12 → mayB 0 j (bt s j) = true
  · rw [ck05_all h]
    have hp : pfTo (cl sp0) s (cl sp0).length = true := by
      rw [pfTo_iff, hl]; intro j h1 h2; rw [← may0_fn h1]; exact h j (by omega)
    unfold pfOk
    rw [hp, hl]
    by_cases h1 : s.size < 12
    · rw [if_pos h1]; simp; omega
    · rw [if_neg h1]
      by_cases h2 : 12 < s.size
      · rw [if_pos h2]; simp; omega
      · rw [if_neg h2]
        have hs : s.size = 12 := by omega
        have hd : Id.dg (bt s 11) = true := by
          have := h 11 (by omega)
          rw [may0_fn (by omega)] at this
          exact this
        have := luOk_iff hs hd
        rw [hs]
        by_cases h3 : (bt s 11 - 48) % 256 = luhnT ⟨(exU (s.extract 0 11).data.toList).toArray⟩
        · rw [if_neg (by simpa using h3), this.2 h3]; rfl
        · rw [if_pos (by simpa using h3), (by simpa using (mt this.1 h3) : luOk s = false)]; rfl
  · have hp : ¬ pfTo (cl sp0) s (cl sp0).length = true := by
      rw [pfTo_iff, hl]; intro hh; apply h; intro j hj; rw [may0_fn (by omega)]; exact hh j (by omega) (by omega)
    have e : (ck05 0 12 12 s).2 = 3 := by
      unfold ck05
      cases hf : (List.range (min s.size 12)).find? (fun i : Nat => !mayB 0 i (bt s i)) with
      | some i => rfl
      | none =>
        rw [List.find?_range_eq_none] at hf
        exact absurd (fun j hj => by simpa using hf j hj) h
    rw [e]
    unfold pfOk
    simp at hp
    simp [hp]
theorem isin_eq (s : ByteArray) : giroref35_isin.f s = some (vld 0 s) := by
  rw [giroref35_isin.f, show giroref05_Check.f 0 s = some (ck05 0 12 12 s) from rfl, Option.bind_some, ck05_isin]
def cv (p : S109) : S35 := ⟨p.f0, p.f1, p.f2⟩
def vc (p : S35) : S109 := ⟨p.f0, p.f1, p.f2⟩
theorem map_cv_vc (l : List S35) : (l.map vc).map cv = l := by rw [List.map_map]; exact List.map_id _
theorem rd109 {l : List S109} {i : Nat} (hi : i < l.length) : rd_T109 l (i : Int) = l[i] := by simp [rd_T109, List.getElem?_eq_getElem hi]
theorem rd35_cv (l : List S109) (i : Int) : rd_T35 (l.map cv) i = cv (rd_T109 l i) := by
  unfold rd_T35 rd_T109
  rw [List.getD_eq_getElem?_getD, List.getD_eq_getElem?_getD, List.getElem?_map]
  cases l[i.toNat]? <;> rfl
theorem w64b (n : Int) (h : -9223372036854775808 ≤ n ∧ n ≤ 9223372036854775807) : wrap64 n = n := by unfold wrap64; omega
theorem find_l0 {l : List S109} {s : ByteArray} (hl : l.length ≤ 4611686018427387904) : ∀ (n k i : Nat), i + n = l.length → n < k → fnd (l.map cv) s i = false → giroref35_find.l0 k l s i = some (fi (l.map cv) s)
  | 0, k + 1, i, h, hk, hf => by
    obtain rfl : i = l.length := by omega
    rw [giroref35_find.l0, if_neg (by omega), fi_none (by rwa [List.length_map])]
  | n + 1, k + 1, i, h, hk, hf => by
    have hi : i < l.length := by omega
    rw [giroref35_find.l0, if_pos (by omega), if_pos (by omega)]
    by_cases e : (rd_T109 l (i : Int)).f0.toList = s.toList
    · have he : sEq (rd_T35 (l.map cv) (i : Int)).f0 s = true := by rw [rd35_cv]; simpa [sEq, cv] using e
      rw [if_pos e, fi_at hf (by simpa using hi) he]
    · have he : sEq (rd_T35 (l.map cv) (i : Int)).f0 s = false := by rw [rd35_cv]; simpa [sEq, cv] using e
      rw [if_neg e, w64b _ (by omega)]
      exact find_l0 hl n k (i + 1) (by omega) (by omega) (by rw [fnd, hf, he]; rfl)
theorem rfind_some {l : List S109} {s : ByteArray} (hl : l.length ≤ 4611686018427387904) {k : Nat} (hk : l.length < k) : giroref35_find.f k l s = some (fi (l.map cv) s) :=
  find_l0 hl l.length k 0 (by omega) hk rfl
theorem fi_has {l : List S35} {s : ByteArray} : (0 ≤ fi l s) ↔ hasB (l.map (·.f0)) s = true := by
  unfold fi hasB
  rw [List.any_map, List.any_eq_true]
  cases h : l.findIdx? (fun p => sEq p.f0 s) with
  | none =>
    rw [List.findIdx?_eq_none_iff] at h
    constructor
    · intro hh; simp at hh
    · rintro ⟨x, hx, hs⟩; have := h x hx; simp [sEq] at this; simp at hs; exact absurd hs this
  | some i =>
    obtain ⟨hi, he, _⟩ := List.findIdx?_eq_some_iff_getElem.1 h
    constructor
    · intro _; exact ⟨l[i], List.getElem_mem hi, by simpa [sEq] using he⟩
    · intro _; exact Int.natCast_nonneg i
theorem ckP_fine {b : List S35} {q : S35} (hv : vld 0 q.f0 = true) (h1 : inR q.f1 1 = true) (h2 : inR q.f2 0 = true) : ckP b q = if hasB (b.map (·.f0)) q.f0 = true then 7 else 0 := by
  rw [ckP, if_neg (by rw [hv]; decide), if_neg (by rw [h1]; decide), if_neg (by rw [h2]; decide)]
theorem ckP_two {b : List S35} {q : S35} (hv : vld 0 q.f0 = true) (h : inR q.f1 1 = false ∨ inR q.f2 0 = false) : ckP b q = 2 := by
  rw [ckP, if_neg (by rw [hv]; decide)]
  by_cases h1 : inR q.f1 1 = false
  · rw [if_pos h1]
  · rw [if_neg h1, if_pos (h.resolve_left h1)]
theorem ckP_six {b : List S35} {q : S35} (hv : ¬ vld 0 q.f0 = true) : ckP b q = 6 := by
  rw [ckP, if_pos (by simpa using hv)]
theorem list_l0 {l : List S109} (hl : l.length ≤ 4096) : ∀ (n k i : Nat), i + n = l.length → 2 * n + l.length + 2 < k → ckTo (l.map cv) i = 0 → giroref35_list.l0 k l i = some (ckTo (l.map cv) l.length)
  | 0, k + 1, i, h, hk, hf => by
    obtain rfl : i = l.length := by omega
    rw [giroref35_list.l0, if_neg (by omega), hf]
  | n + 1, k + 2, i, h, hk, hf => by
    have hi : i < l.length := by omega
    have hi2 : i < (l.map cv).length := by simpa using hi
    have step : ckTo (l.map cv) (i + 1) = ckP ((l.map cv).take i) (cv (rd_T109 l i)) := by rw [ckTo, if_pos hf, rd35_cv]
    have ih := list_l0 hl n k (i + 1) (by omega) (by omega)
    have bad : ∀ c, ckP ((l.map cv).take i) (cv (rd_T109 l i)) = c → c ≠ 0 → ckTo (l.map cv) l.length = c := by
      intro c hc h0
      rw [ckTo_bad (i := i + 1) (by rw [step, hc]; exact h0) l.length (by omega), step, hc]
    rw [giroref35_list.l0, if_pos (by omega), if_pos (by omega), isin_eq, Option.bind_some]
    generalize hp : rd_T109 l (i : Int) = p at *
    have hj : ∀ b, (b = true → ckTo (l.map cv) l.length = 2) → (b = false → inR p.f1 1 = true ∧ inR p.f2 0 = true) → vld 0 p.f0 = true → giroref35_list.j1 (k + 1) l i b = some (ckTo (l.map cv) l.length) := by
      intro b hb1 hb2 hv
      rw [giroref35_list.j1]
      cases b with
      | true => rw [if_pos rfl, hb1 rfl]
      | false =>
        obtain ⟨h1, h2⟩ := hb2 rfl
        rw [if_neg (by simp), if_pos (by omega), if_pos (by omega), if_pos (by omega), hp, rfind_some (by rw [List.length_take]; omega) (by rw [List.length_take, Int.toNat_natCast]; omega), Option.bind_some, Int.toNat_natCast, List.map_take]
        have hcase : ckP ((l.map cv).take i) (cv p) = if hasB (((l.map cv).take i).map (·.f0)) p.f0 = true then 7 else 0 := ckP_fine (q := cv p) hv h1 h2
        by_cases hh : hasB (((l.map cv).take i).map (·.f0)) p.f0 = true
        · rw [if_pos (fi_has.2 hh), bad 7 (by rw [hcase, if_pos hh]) (by decide)]
        · rw [if_neg (fun h => hh (fi_has.1 h)), w64b _ (by omega)]
          exact ih (by rw [step, hcase, if_neg hh])
    by_cases hv : vld 0 p.f0 = true
    · rw [if_pos hv]
      have out2 : (inR p.f1 1 = false ∨ inR p.f2 0 = false) → ckTo (l.map cv) l.length = 2 := by
        intro h
        exact bad 2 (ckP_two (q := cv p) hv h) (by decide)
      have n1 : ∀ x : Int, inR p.f1 1 = decide (1 ≤ p.f1 ∧ p.f1 ≤ 1000000000000000) := fun _ => by simp [inR]
      have n2 : ∀ x : Int, inR p.f2 0 = decide (0 ≤ p.f2 ∧ p.f2 ≤ 1000000000000000) := fun _ => by simp [inR]
      have n1 := n1 0
      have n2 := n2 0
      split
      · exact hj true (fun _ => out2 (.inl (by rw [n1]; simp; omega))) (by simp) hv
      · split
        · exact hj true (fun _ => out2 (.inl (by rw [n1]; simp; omega))) (by simp) hv
        · split
          · exact hj true (fun _ => out2 (.inr (by rw [n2]; simp; omega))) (by simp) hv
          · refine hj _ (fun h => out2 (.inr (by rw [n2]; simp at h ⊢; omega))) (fun h => ⟨by rw [n1]; simp; omega, by rw [n2]; simp at h ⊢; omega⟩) hv
    · rw [if_neg hv, bad 6 (ckP_six (q := cv p) hv) (by decide)]
theorem rlist_some {l : List S109} (hl : l.length ≤ 4096) {k : Nat} (hk : 3 * l.length + 2 < k) : giroref35_list.f k l = some (ckTo (l.map cv) l.length) :=
  list_l0 hl l.length k 0 (by omega) (by omega) rfl
theorem rsum_l0 {l : List S109} (hf : Fine (l.map cv)) (hl : l.length ≤ 4096) : ∀ (n k i : Nat) (acc : Int), i + n = l.length → n < k → acc = sumZ ((l.map cv).take i) → giroref35_Sum.l0 k l acc i = some (sumZ (l.map cv))
  | 0, k + 1, i, acc, h, hk, ha => by
    obtain rfl : i = l.length := by omega
    rw [giroref35_Sum.l0, if_neg (by omega), ha, List.take_of_length_le (by simp)]
  | n + 1, k + 1, i, acc, h, hk, ha => by
    have hi : i < l.length := by omega
    have hi2 : i < (l.map cv).length := by simpa using hi
    have hs : sumZ ((l.map cv).take (i + 1)) = acc + (rd_T109 l i).f2 := by
      rw [List.take_succ_eq_append_getElem hi2, sumZ_append, ha, rd109 hi, List.getElem_map]; simp [sumZ, cv]
    have hb := sumZ_nonneg (l := (l.map cv).take (i + 1)) (fun p hp => hf p (List.mem_of_mem_take hp))
    have hlen : ((l.map cv).take (i + 1)).length ≤ 4096 := by rw [List.length_take]; omega
    simp only [MaxZ] at hb
    rw [giroref35_Sum.l0, if_pos (by omega), if_pos (by omega), ← hs, w64b _ (by omega), w64b _ (by omega)]
    exact rsum_l0 hf hl n k (i + 1) _ (by omega) (by omega) rfl
theorem rsum_some {l : List S109} (hf : Fine (l.map cv)) (hl : l.length ≤ 4096) {k : Nat} (hk : l.length < k) : giroref35_Sum.f k l = some (sumZ (l.map cv)) :=
  rsum_l0 hf hl l.length k 0 0 (by omega) hk (by simp [sumZ])
end Go.Proofs.YtoanlppfdniiaaaGreatDoor.Q
end
