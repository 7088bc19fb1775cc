/- A part of the proof; no condition. -/
import Derived.Test.YtoanlppfdniiaaaGreatDoorX33
import Derived.Test.YtoanlppfdniiaaaGreatDoorX27
import Derived.Test.YtoanlppfdniiaaaGreatDoorX40
section
namespace Go.Proofs.YtoanlppfdniiaaaGreatDoor.Q
set_option linter.unusedVariables false
set_option linter.unusedSimpArgs false
open Go.RowKit Go.Proofs.YtoanlppfdniiaaaGreatDoorW.PrintWords Go.Proofs.YtoanlppfdniiaaaGreatDoorW.PrintLast Go.Proofs.YtoanlppfdniiaaaGreatDoorW.PrintMore
open SelMath (Inc sel sel_mem sel_sorted tails_ext Inc_mono)
theorem sels_sel' (N : Nat) : sels N = sel N := by
  rw [sels, sel, tails_ext (tails := tails) (fun _ _ => rfl) (fun _ _ _ => rfl)]
  simp
theorem best_good' (F : List S35) (m : Int) : ∃ o, SelMath.Good (fun x => sumZ (pickOf F x)) m (sel F.length) o ∧ bestSel F m (sels F.length) = (match o with | none => ([], false) | some x => (pickOf F x, true)) := by
  have hw : weigh F m = SelMath.weigh (pickOf F) sumZ m := rfl
  have := SelMath.fold_all (P := pickOf F) (V := sumZ) (m := m) (fun x => by simp [pickOf]) (sel_sorted F.length)
  rw [sels_sel', bestSel, hw]
  rcases this with ⟨h1, h2⟩ | ⟨x, h1, h2⟩
  · exact ⟨none, fun y hy => Int.not_le.1 (h2 y hy), h1⟩
  · exact ⟨some x, h1, h2⟩
theorem sumZ_cons (p : S35) (t : List S35) : sumZ (p :: t) = p.f2 + sumZ t := by simp [sumZ]
theorem sumZ_perm {a b : List S35} (h : a.Perm b) : sumZ a = sumZ b := by
  induction h with
  | nil => rfl
  | cons x _ ih => rw [sumZ_cons, sumZ_cons, ih]
  | swap x y l => simp only [sumZ_cons]; omega
  | trans _ _ ih1 ih2 => rw [ih1, ih2]
theorem sublist_top {S T : List S35} (h : T.Sublist S) : S.Pairwise (fun a b => b.f2 ≤ a.f2) → sumZ T ≤ sumZ (S.take T.length) := by
  induction h with
  | slnil => intro _; simp
  | @cons l₁ l₂ a h ih =>
    intro hs
    rw [List.pairwise_cons] at hs
    have ih := ih hs.2
    have hl := h.length_le
    cases hn : l₁.length with
    | zero => simp [List.length_eq_zero_iff.1 hn, sumZ]
    | succ n =>
      rw [hn] at ih hl
      rw [List.take_succ_cons]
      have hlt : n < l₂.length := by omega
      rw [List.take_succ_eq_append_getElem hlt, sumZ_append] at ih
      have := hs.1 l₂[n] (List.getElem_mem hlt)
      simp only [sumZ_cons, show sumZ [] = 0 from rfl] at ih ⊢
      omega
  | @cons_cons l₁ l₂ a h ih =>
    intro hs
    rw [List.pairwise_cons] at hs
    have ih := ih hs.2
    simp only [List.length_cons, List.take_succ_cons, sumZ_cons]
    omega
theorem srt_perm (F : List S35) : (srt F).Perm F := List.mergeSort_perm F leB
theorem srt_down (F : List S35) : (srt F).Pairwise (fun a b => b.f2 ≤ a.f2) := by
  refine (List.pairwise_mergeSort leB_trans leB_total F).imp ?_
  intro a b h
  unfold leB at h
  apply Classical.byContradiction
  intro hn
  rw [(lt35 b a).2 (.inl (by omega))] at h
  simp at h
theorem choice_top {F T : List S35} (h : T.Sublist F) : sumZ T ≤ sumZ ((srt F).take T.length) := by
  obtain ⟨T', h1, h2⟩ := List.exists_perm_sublist h (srt_perm F).symm
  rw [← sumZ_perm h1, ← h1.length_eq]
  exact sublist_top h2 (srt_down F)
theorem inc_sub {F : List S35} : ∀ {lo : Nat} {x : List Int}, Inc F.length lo x → (pickOf F x).Sublist (F.drop lo)
  | lo, [], _ => List.nil_sublist _
  | lo, j :: t, ⟨m, h1, h2, h3, h4⟩ => by
    subst h1
    have ih := inc_sub h4
    have e : pickOf F (((m : Nat) : Int) :: t) = F[m] :: pickOf F t := by simp only [pickOf, List.map_cons, rd35 h3]
    rw [e]
    have hd : F.drop m = F[m] :: F.drop (m + 1) := List.drop_eq_getElem_cons h3
    have : (F.drop m).Sublist (F.drop lo) := by
      rw [show m = lo + (m - lo) by omega, ← List.drop_drop]
      exact List.drop_sublist _ _
    refine List.Sublist.trans ?_ this
    rw [hd]
    exact ih.cons_cons _
theorem sub_inc {F : List S35} : ∀ {T L : List S35}, T.Sublist L → ∀ A : List S35, A ++ L = F → ∃ x, Inc F.length A.length x ∧ pickOf F x = T := by
  intro T L h
  induction h with
  | slnil => exact fun A _ => ⟨[], trivial, rfl⟩
  | @cons l₁ l₂ a h ih =>
    intro A e
    obtain ⟨x, h1, h2⟩ := ih (A ++ [a]) (by simpa using e)
    exact ⟨x, Inc_mono (by simp) h1, h2⟩
  | @cons_cons l₁ l₂ a h ih =>
    intro A e
    obtain ⟨x, h1, h2⟩ := ih (A ++ [a]) (by simpa using e)
    have hlt : A.length < F.length := by rw [← e]; simp
    refine ⟨((A.length : Nat) : Int) :: x, ⟨A.length, rfl, Nat.le_refl _, hlt, by simpa using h1⟩, ?_⟩
    have e2 : F[A.length] = a := by subst e; simp
    simp only [pickOf, List.map_cons, rd35 hlt, e2]
    rw [← h2]; rfl
theorem front_sel (F : List S35) (k : Nat) : ∃ x ∈ sel F.length, x.length = ((srt F).take k).length ∧ sumZ (pickOf F x) = sumZ ((srt F).take k) := by
  obtain ⟨T, h1, h2⟩ := List.exists_perm_sublist (List.take_sublist k (srt F)) (srt_perm F)
  obtain ⟨x, h3, h4⟩ := sub_inc (F := F) h2 [] rfl
  refine ⟨x, (sel_mem x).2 (by simpa using h3), ?_, ?_⟩
  · rw [← h1.length_eq, ← h4]; simp [pickOf]
  · rw [h4, sumZ_perm h1]
theorem grd_shape : ∀ (S : List S35) (m : Int), ∃ n, n ≤ S.length ∧ grd S m = (S.take n, m - sumZ (S.take n)) ∧ (∀ j, j < n → 0 < m - sumZ (S.take j)) ∧ (n = S.length ∨ m - sumZ (S.take n) ≤ 0)
  | [], m => ⟨0, by simp, by simp [grd, sumZ], fun j hj => by omega, .inl rfl⟩
  | p :: t, m => by
    by_cases h0 : m ≤ 0
    · exact ⟨0, by simp, by rw [grd, if_pos h0]; simp [sumZ], fun j hj => by omega, .inr (by simp [sumZ]; exact h0)⟩
    · obtain ⟨n, h1, h2, h3, h4⟩ := grd_shape t (m - p.f2)
      have e : ∀ j, m - sumZ ((p :: t).take (j + 1)) = (m - p.f2) - sumZ (t.take j) := fun j => by simp [sumZ]; omega
      refine ⟨n + 1, by simpa using h1, ?_, ?_, ?_⟩
      · rw [grd, if_neg h0, h2, e]; rfl
      · intro j hj
        cases j with
        | zero => simp [sumZ]; omega
        | succ j => rw [e]; exact h3 j (by omega)
      · rw [e]
        rcases h4 with h4 | h4
        · exact .inl (by simpa using h4)
        · exact .inr h4
theorem greedy_best {F : List S35} (hF : Fine F) (m : Int) :
    (0 < (grd (srt F) m).2 ∧ bestSel F m (sels F.length) = ([], false) ∧ 0 < m) ∨
    (¬ 0 < (grd (srt F) m).2 ∧ ∃ x, bestSel F m (sels F.length) = (pickOf F x, true) ∧ Inc F.length 0 x ∧ m ≤ sumZ (pickOf F x) ∧ (grd (srt F) m).1.length = (pickOf F x).length ∧ sumZ (pickOf F x) ≤ sumZ (grd (srt F) m).1 ∧ m ≤ sumZ (grd (srt F) m).1 ∧ (0 < m ∨ (grd (srt F) m).1.length = 0)) := by
  obtain ⟨n, h1, h2, h3, h4⟩ := grd_shape (srt F) m
  have hS : Fine (srt F) := fun p hp => hF p ((srt_perm F).mem_iff.1 hp)
  have hlen : (srt F).length = F.length := (srt_perm F).length_eq
  have htn : ∀ k, 0 ≤ sumZ ((srt F).take k) := fun k => (sumZ_nonneg fun p hp => hS p (List.mem_of_mem_take hp)).1
  obtain ⟨o, hg, hb⟩ := best_good' F m
  rw [h2]
  simp only []
  have hpl : ∀ x : List Int, (pickOf F x).length = x.length := fun x => by simp [pickOf]
  have hch : ∀ y ∈ sel F.length, sumZ (pickOf F y) ≤ sumZ ((srt F).take y.length) := by
    intro y hy
    have := choice_top (by simpa using inc_sub ((sel_mem y).1 hy) : (pickOf F y).Sublist F)
    rwa [hpl] at this
  have hmono : ∀ a b, a ≤ b → sumZ ((srt F).take a) ≤ sumZ ((srt F).take b) := by
    intro a b hab
    have e : (srt F).take b = (srt F).take a ++ ((srt F).drop a).take (b - a) := by
      rw [show b = a + (b - a) by omega, List.take_add, show a + (b - a) - a = b - a by omega]
    rw [e, sumZ_append]
    have := (sumZ_nonneg (l := ((srt F).drop a).take (b - a)) fun p hp => hS p (List.mem_of_mem_drop (List.mem_of_mem_take hp))).1
    omega
  by_cases c : 0 < m - sumZ ((srt F).take n)
  · left
    have hn : n = (srt F).length := h4.resolve_right (by omega)
    refine ⟨c, ?_, by have := htn n; omega⟩
    cases o with
    | none => exact hb
    | some x =>
      have hx := hg.1
      have hm := hg.2.1
      have h5 := hch x hx
      have hxl : x.length ≤ n := by
        have := (inc_sub ((sel_mem x).1 hx)).length_le
        rw [hpl, List.drop_zero] at this
        omega
      have := hmono x.length n hxl
      simp only [] at hm
      omega
  · right
    refine ⟨c, ?_⟩
    obtain ⟨y, hy, hyl, hys⟩ := front_sel F n
    rw [List.length_take, Nat.min_eq_left h1] at hyl
    cases o with
    | none =>
      have := hg y hy
      simp only [] at this
      omega
    | some x =>
      have hx := hg.1
      have hm := hg.2.1
      simp only [] at hm
      have hb2 := hg.2.2 y hy (by show m ≤ sumZ (pickOf F y); omega)
      have hge : n ≤ x.length := by
        apply Classical.byContradiction
        intro hlt
        have := h3 x.length (by omega)
        have := hch x hx
        omega
      have hle : x.length ≤ n ∧ sumZ (pickOf F x) ≤ sumZ ((srt F).take n) := by
        rcases hb2 with e | e | ⟨e, e2 | ⟨e2, _⟩⟩
        · subst e; exact ⟨by omega, by omega⟩
        · omega
        · exact ⟨by omega, by simp only [] at e2; omega⟩
        · exact ⟨by omega, by simp only [] at e2; omega⟩
      refine ⟨x, hb, (sel_mem x).1 hx, hm, by rw [hpl, List.length_take]; omega, hle.2, by omega, ?_⟩
      by_cases h0 : 0 < m
      · exact .inl h0
      · right
        rw [List.length_take]
        have : n = 0 := by
          apply Classical.byContradiction
          intro hn
          have := h3 0 (by omega)
          simp [sumZ] at this
          omega
        omega
end Go.Proofs.YtoanlppfdniiaaaGreatDoor.Q
end
