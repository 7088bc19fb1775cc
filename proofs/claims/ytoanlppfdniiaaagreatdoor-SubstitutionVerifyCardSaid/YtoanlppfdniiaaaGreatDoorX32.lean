/- A part of the proof; no condition. -/
import Derived.Test.YtoanlppfdniiaaaGreatDoorX25
import Derived.Test.YtoanlppfdniiaaaGreatDoorX27
import Derived.Test.YtoanlppfdniiaaaGreatDoorX30
import Derived.Test.YtoanlppfdniiaaaGreatDoorX31
section
namespace Go.Proofs.YtoanlppfdniiaaaGreatDoor.Q
set_option linter.unusedVariables false
set_option linter.unusedSimpArgs false
open Go.RowKit Go.Proofs.YtoanlppfdniiaaaGreatDoorW.PrintWords Go.Proofs.YtoanlppfdniiaaaGreatDoorW.PrintLast Go.Proofs.YtoanlppfdniiaaaGreatDoorW.PrintMore
def eqP (p q : S35) : Bool := p.f0.toList == q.f0.toList && (p.f1 == q.f1 && (p.f2 == q.f2))
theorem eqP_iff {p q : S35} : eqP p q = true ↔ p.f0.toList = q.f0.toList ∧ p.f1 = q.f1 ∧ p.f2 = q.f2 := by simp [eqP]
theorem eqP_refl (p : S35) : eqP p p = true := eqP_iff.2 ⟨rfl, rfl, rfl⟩
theorem eqP_ne {p q : S35} : ((!(p.f0.toList == q.f0.toList)) || ((!(p.f1 == q.f1)) || (!(p.f2 == q.f2)))) = !eqP p q := by
  unfold eqP; cases (p.f0.toList == q.f0.toList) <;> cases (p.f1 == q.f1) <;> cases (p.f2 == q.f2) <;> rfl
def cont (l : List S35) (p : S35) : Bool := l.any (eqP p)
theorem cont_iff {l : List S35} {p : S35} : cont l p = true ↔ ∃ i, ∃ h : i < l.length, eqP p l[i] = true := by
  unfold cont
  rw [List.any_eq_true]
  constructor
  · rintro ⟨x, hx, he⟩
    obtain ⟨i, h, rfl⟩ := List.getElem_of_mem hx
    exact ⟨i, h, he⟩
  · rintro ⟨i, h, he⟩
    exact ⟨_, List.getElem_mem h, he⟩
theorem idx86_l0 {l : List S35} {p : S35} (hl : l.length ≤ 4096) : ∀ (n k i : Nat), i + n = l.length → n < k → (∀ j (h : j < l.length), j < i → eqP p l[j] = false) →
    ∃ r, substitution_Position_86.l0 k l l.length i p.f0 p.f1 p.f2 = some r ∧ (decide (r ≥ 0)) = cont l p
  | 0, k + 1, i, h, hk, hf => by
    obtain rfl : i = l.length := by omega
    refine ⟨-1, by rw [substitution_Position_86.l0, if_neg (by omega)], ?_⟩
    have : cont l p = false := by
      rw [Bool.eq_false_iff]
      intro hc
      obtain ⟨j, hj, he⟩ := cont_iff.1 hc
      rw [hf j hj hj] at he; cases he
    rw [this]; rfl
  | n + 1, k + 1, i, h, hk, hf => by
    have hi : i < l.length := by omega
    have ei : (p.f0.toList == l[i].f0.toList && (p.f1 == l[i].f1 && (p.f2 == l[i].f2))) = eqP p l[i] := rfl
    rw [substitution_Position_86.l0, if_pos (by omega), if_pos (by omega), if_pos (by omega), rd35 hi, ei]
    by_cases e : eqP p l[i] = true
    · rw [if_pos e]
      refine ⟨i, rfl, ?_⟩
      rw [cont_iff.2 ⟨i, hi, e⟩]; simp
    · rw [if_neg e, w64b _ (by omega)]
      refine idx86_l0 hl n k (i + 1) (by omega) (by omega) (fun j hj hji => ?_)
      by_cases e2 : j = i
      · subst e2; simpa using e
      · exact hf j hj (by omega)
theorem cont_some {l : List S35} {p : S35} (hl : l.length ≤ 4096) {k : Nat} (hk : l.length < k) : substitution_Position_64.f k l p.f0 p.f1 p.f2 = some (cont l p) := by
  obtain ⟨r, h1, h2⟩ := idx86_l0 (p := p) hl l.length k 0 (by omega) hk (fun j _ hj => by omega)
  have h1 : substitution_Position_86.l0 k l (l.length : Int) 0 p.f0 p.f1 p.f2 = some r := h1
  rw [substitution_Position_64.f, substitution_Position_86.f, h1, Option.bind_some, h2]
def eqL : List S35 → List S35 → Bool
  | [], [] => true
  | a :: s, b :: t => eqP a b && eqL s t
  | _, _ => false
theorem eqL_refl : ∀ l, eqL l l = true
  | [] => rfl
  | a :: s => by rw [eqL, eqP_refl, eqL_refl s]; rfl
theorem eqL_len : ∀ {a b : List S35}, a.length ≠ b.length → eqL a b = false
  | [], [], h => absurd rfl h
  | [], _ :: _, _ => rfl
  | _ :: _, [], _ => rfl
  | _ :: s, _ :: t, h => by rw [eqL, eqL_len (a := s) (b := t) (by simpa using h)]; simp
theorem eql65_l0 {a b : List S35} (hl : a.length ≤ 4096) (he : a.length = b.length) : ∀ (n k i : Nat), i + n = a.length → n < k → substitution_Position_65.l0 k a b a.length i = some (eqL (a.drop i) (b.drop i))
  | 0, k + 1, i, h, hk => by
    obtain rfl : i = a.length := by omega
    rw [substitution_Position_65.l0, if_neg (by omega), List.drop_of_length_le (Nat.le_refl _), List.drop_of_length_le (by omega)]; rfl
  | n + 1, k + 1, i, h, hk => by
    have hi : i < a.length := by omega
    have hj : i < b.length := by omega
    rw [substitution_Position_65.l0, if_pos (by omega), if_pos (by omega), if_pos (by omega), if_pos (by omega), rd35 hi, rd35 hj, eqP_ne, List.drop_eq_getElem_cons hi, List.drop_eq_getElem_cons hj, eqL]
    cases e : eqP a[i] b[i] with
    | true => rw [if_neg (by simp), w64b _ (by omega), Bool.true_and]; exact eql65_l0 hl he n k (i + 1) (by omega) (by omega)
    | false => rw [if_pos (by simp), Bool.false_and]
theorem eql_some {a b : List S35} (hl : a.length ≤ 4096) {k : Nat} (hk : a.length < k) : substitution_Position_65.f k a b = some (eqL a b) := by
  rw [substitution_Position_65.f]
  by_cases he : a.length = b.length
  · rw [if_pos (by omega)]; exact eql65_l0 hl he a.length k 0 (by omega) hk
  · rw [if_neg (by omega), eqL_len he]
theorem sameL_l0 {a b : List S109} (hl : a.length ≤ 4096) (he : a.length = b.length) : ∀ (n k i : Nat), i + n = a.length → n < k → giroref35_SameList.l0 k a b i = some (eqL ((a.map cv).drop i) ((b.map cv).drop i))
  | 0, k + 1, i, h, hk => by
    obtain rfl : i = a.length := by omega
    rw [giroref35_SameList.l0, if_neg (by omega), List.drop_of_length_le (by simp), List.drop_of_length_le (by simp; omega)]; rfl
  | n + 1, k + 1, i, h, hk => by
    have hi : i < a.length := by omega
    have hj : i < b.length := by omega
    have ee : ((!(a[i].f0.toList == b[i].f0.toList)) || ((!(a[i].f1 == b[i].f1)) || (!(a[i].f2 == b[i].f2)))) = !eqP (cv a[i]) (cv b[i]) := eqP_ne (p := cv a[i]) (q := cv b[i])
    have hda : (a.map cv).drop i = cv a[i] :: (a.map cv).drop (i + 1) := by rw [List.drop_eq_getElem_cons (by simpa using hi), List.getElem_map]
    have hdb : (b.map cv).drop i = cv b[i] :: (b.map cv).drop (i + 1) := by rw [List.drop_eq_getElem_cons (by simpa using hj), List.getElem_map]
    rw [giroref35_SameList.l0, if_pos (by omega), if_pos (by omega), if_pos (by omega), rd109 hi, rd109 hj, ee, hda, hdb, eqL]
    cases e : eqP (cv a[i]) (cv b[i]) with
    | true => rw [if_neg (by simp), w64b _ (by omega), Bool.true_and]; exact sameL_l0 hl he n k (i + 1) (by omega) (by omega)
    | false => rw [if_pos (by simp), Bool.false_and]
theorem sameL_some {a b : List S109} (hl : a.length ≤ 4096) {k : Nat} (hk : a.length < k) : giroref35_SameList.f k a b = some (eqL (a.map cv) (b.map cv)) := by
  rw [giroref35_SameList.f]
  by_cases he : a.length = b.length
  · rw [if_pos (by omega)]; exact sameL_l0 hl he a.length k 0 (by omega) hk
  · rw [if_neg (by omega), eqL_len (by simpa using he)]
def chkPl (F pl : List S35) : Nat → Nat → Int
  | 0, _ => 0
  | n + 1, i => if cont F (rd_T35 pl i) = true then (if cont (pl.take i) (rd_T35 pl i) = true then 7 else chkPl F pl n (i + 1)) else 9
def pick (c t : Int) : Int := if c ≠ 0 then c else t
theorem pick_zero (t : Int) : pick 0 t = t := if_neg (by decide)
theorem pick_nz {c : Int} (t : Int) (h : c ≠ 0) : pick c t = c := if_pos h
def tailV (req : Int) (P : List S35) (wd : List ByteArray) (pl rl : List S35) (v : Int) : Int :=
  if (!eqL rl (outOf P wd) || v != keptZ P wd + sumZ pl) = true then 17 else if v < req then 25 else 0
def vfy (req : Int) (P : List S35) (wd : List ByteArray) (F pl rl : List S35) (v : Int) : Int :=
  pick (chkPl F pl pl.length 0) (tailV req P wd pl rl v)
theorem cont_fine {F : List S35} (hF : Fine F) {p : S35} (h : cont F p = true) : 0 ≤ p.f2 ∧ p.f2 ≤ MaxZ := by
  obtain ⟨i, hi, he⟩ := cont_iff.1 h
  rw [(eqP_iff.1 he).2.2]
  exact hF _ (List.getElem_mem hi)
section
variable {req : Int} {P : List S35} {wd : List ByteArray} {F : List S35}
theorem pv_tail (h : Passed req P wd F) {pl rl : List S35} {v : Int} (hl : pl.length ≤ 256) (hr : rl.length ≤ 256) (h0 : ∀ j (hj : j < pl.length), cont F pl[j] = true) {k : Nat} (hk : 5000 < k) :
    ((substitution_Request_withdrawn.f k req P wd F).bind fun t380 => ((substitution_Position_65.f k rl t380).bind fun t383 => (if t383 = true then ((substitution_Request_kept.f k req P wd F).bind fun t384 => ((substitution_sum.f k pl).bind fun t385 => (substitution_Verify.j1 k (v != (wrap64 (t384 + t385))) req P wd F pl rl v))) else (substitution_Verify.j1 k true req P wd F pl rl v)))) = some (tailV req P wd pl rl v) := by
  have hfp : Fine pl := fun p hp => by
    obtain ⟨j, hj, rfl⟩ := List.getElem_of_mem hp
    exact cont_fine h.fineFree (h0 j hj)
  have hs := sumZ_nonneg hfp
  have hkr := h.keptR
  have hlens := h.lens
  simp only [MaxZ] at hs hkr
  obtain ⟨k, rfl⟩ : ∃ m, k = m + 1 := ⟨k - 1, by omega⟩
  rw [withdrawn_some (by omega) (by omega), Option.bind_some, eql_some (by omega) (by omega), Option.bind_some]
  unfold tailV
  cases e : eqL rl (outOf P wd) with
  | false => rw [if_neg (by simp), substitution_Verify.j1, if_pos rfl]; simp
  | true =>
    rw [if_pos rfl, kept_some h (by omega), Option.bind_some, sum_some hfp (by omega) (by omega), Option.bind_some, w64b _ (by omega), substitution_Verify.j1]
    simp only [Bool.not_true, Bool.false_or]
    split
    · rfl
    · split <;> rfl
theorem pv_l0 (h : Passed req P wd F) {pl rl : List S35} {v : Int} (hl : pl.length ≤ 256) (hr : rl.length ≤ 256) : ∀ (n k i : Nat), i + n = pl.length → n + 6000 < k → (∀ j (hj : j < pl.length), j < i → cont F pl[j] = true) →
    substitution_Verify.l0 k pl pl.length i req P wd F pl rl v = some (pick (chkPl F pl n i) (tailV req P wd pl rl v))
  | 0, k + 1, i, hi, hk, hp => by
    obtain rfl : i = pl.length := by omega
    rw [substitution_Verify.l0, if_neg (by omega), pv_tail h hl hr (fun j hj => hp j hj hj) (by omega), chkPl, pick_zero]
  | n + 1, k + 1, i, hi, hk, hp => by
    have hlt : i < pl.length := by omega
    have hlens := h.lens
    have hti : (pl.take i).length ≤ 4096 := by rw [List.length_take]; omega
    rw [substitution_Verify.l0, if_pos (by omega), if_pos (by omega), if_pos (by omega), cont_some (by omega) (by omega), Option.bind_some, chkPl]
    cases e : cont F (rd_T35 pl i) with
    | false => rw [if_neg (by decide), if_neg (by decide), pick_nz _ (by decide)]
    | true =>
      rw [if_pos rfl, if_pos rfl, if_pos (by omega), Int.toNat_natCast, cont_some hti (by omega), Option.bind_some]
      cases e2 : cont (pl.take i) (rd_T35 pl i) with
      | true => rw [if_pos rfl, if_pos rfl, pick_nz _ (by decide)]
      | false =>
        rw [if_neg (by decide), if_neg (by decide), w64b _ (by omega)]
        exact pv_l0 h hl hr n k (i + 1) (by omega) (by omega) (fun j hj hji => by
          by_cases e3 : j = i
          · subst e3; rwa [rd35 hlt] at e
          · exact hp j hj (by omega))
theorem pverify_some (h : Passed req P wd F) (hc : chk req P wd F = 0) {pl rl : List S35} {v : Int} (hl : pl.length ≤ 256) (hr : rl.length ≤ 256) {k : Nat} (hk : 7000 < k) : substitution_Verify.f k req P wd F pl rl v = some (vfy req P wd F pl rl v) := by
  rw [substitution_Verify.f, substitution_Check.f, Option.bind_some, if_pos hc, vfy]
  exact pv_l0 h hl hr pl.length k 0 (by omega) (by omega) (fun j _ hj => by omega)
end
section
variable {req : Int} {pool : List S109} {wd : List ByteArray} {free : List S109}
theorem fi_name {l : List S35} {s : ByteArray} (h : 0 ≤ fi l s) : ∃ i, ∃ hi : i < l.length, fi l s = i ∧ l[i].f0.toList = s.toList := by
  unfold fi at *
  cases e : l.findIdx? (fun p => sEq p.f0 s) with
  | none => rw [e] at h; simp at h
  | some i =>
    obtain ⟨hi, he, _⟩ := List.findIdx?_eq_some_iff_getElem.1 e
    exact ⟨i, hi, rfl, by simpa [sEq] using he⟩
theorem fi_some {l : List S35} {s : ByteArray} {i : Nat} (hi : i < l.length) (h : l[i].f0.toList = s.toList) : 0 ≤ fi l s :=
  fi_has.2 (by unfold hasB; rw [List.any_map, List.any_eq_true]; exact ⟨l[i], List.getElem_mem hi, by simpa using h⟩)
theorem apart2 {F : List S35} (h : ckTo F F.length = 0) {i j : Nat} (hi : i < F.length) (hj : j < F.length) (he : F[i].f0.toList = F[j].f0.toList) : i = j := by
  rcases Nat.lt_trichotomy i j with h1 | h1 | h1
  · exact absurd he (ck_apart h i j hi hj h1)
  · exact h1
  · exact absurd he.symm (ck_apart h j i hj hi h1)
theorem cont_fi {F : List S35} (hF : ckTo F F.length = 0) (p : S35) : cont F p = true ↔ 0 ≤ fi F p.f0 ∧ eqP (rd_T35 F (fi F p.f0)) p = true := by
  constructor
  · intro h
    obtain ⟨i, hi, he⟩ := cont_iff.1 h
    have he := eqP_iff.1 he
    have h0 := fi_some hi he.1.symm
    obtain ⟨j, hj, ej, en⟩ := fi_name h0
    refine ⟨h0, ?_⟩
    have : i = j := apart2 hF hi hj (he.1.symm.trans en.symm)
    subst this
    rw [ej, rd35 hi]
    exact eqP_iff.2 ⟨he.1.symm, he.2.1.symm, he.2.2.symm⟩
  · rintro ⟨h0, he⟩
    obtain ⟨j, hj, ej, en⟩ := fi_name h0
    rw [ej, rd35 hj] at he
    have he := eqP_iff.1 he
    exact cont_iff.2 ⟨j, hj, eqP_iff.2 ⟨he.1.symm, he.2.1.symm, he.2.2.symm⟩⟩
theorem cont_take {F pl : List S35} (hF : ckTo F F.length = 0) {i : Nat} (hi : i < pl.length) (hp : ∀ j (hj : j < pl.length), j ≤ i → cont F pl[j] = true) : cont (pl.take i) pl[i] = true ↔ 0 ≤ fi (pl.take i) pl[i].f0 := by
  constructor
  · intro h
    obtain ⟨j, hj, he⟩ := cont_iff.1 h
    exact fi_some hj (eqP_iff.1 he).1.symm
  · intro h
    obtain ⟨j, hj, ej, en⟩ := fi_name h
    have hj' := hj
    rw [List.length_take] at hj'
    rw [List.getElem_take] at en
    obtain ⟨a, ha, ea⟩ := cont_iff.1 (hp j (by omega) (by omega))
    obtain ⟨b, hb, eb⟩ := cont_iff.1 (hp i hi (Nat.le_refl _))
    have ea := eqP_iff.1 ea
    have eb := eqP_iff.1 eb
    have : a = b := apart2 hF ha hb (ea.1.symm.trans (en.trans eb.1))
    subst this
    refine cont_iff.2 ⟨j, hj, ?_⟩
    rw [List.getElem_take]
    exact eqP_iff.2 ⟨en.symm, eb.2.1.trans ea.2.1.symm, eb.2.2.trans ea.2.2.symm⟩
theorem rv_l0 (h : Passed req (pool.map cv) wd (free.map cv)) {pl rl : List S109} {v : Int} (hl : pl.length ≤ 256) (hr : rl.length ≤ 256) : ∀ (n k i : Nat), i + n = pl.length → 2 * n + 6000 < k → (∀ j (hj : j < (pl.map cv).length), j < i → cont (free.map cv) (pl.map cv)[j] = true) →
    giroref35_Verify.l0 k i req pool wd free pl rl v = some (pick (chkPl (free.map cv) (pl.map cv) n i) (tailV req (pool.map cv) wd (pl.map cv) (rl.map cv) v))
  | 0, k + 2, i, hi, hk, hp => by
    obtain rfl : i = pl.length := by omega
    have hfp : Fine (pl.map cv) := fun p hp' => by
      obtain ⟨j, hj, rfl⟩ := List.getElem_of_mem hp'
      exact cont_fine h.fineFree (hp j hj (by simpa using hj))
    have hs := sumZ_nonneg hfp
    have hkr := h.keptR
    simp only [MaxZ, List.length_map] at hs hkr
    rw [giroref35_Verify.l0, if_neg (by omega), released_some h (by omega), Option.bind_some, sameL_some (by omega) (by omega), Option.bind_some, relR_cv, chkPl, pick_zero]
    unfold tailV
    cases e : eqL (rl.map cv) (outOf (pool.map cv) wd) with
    | false => rw [if_neg (by simp), giroref35_Verify.j2, if_pos rfl]; simp
    | true =>
      rw [if_pos rfl, rkept_some h (by omega), Option.bind_some, rsum_some hfp (by omega) (by omega), Option.bind_some, w64b _ (by omega), giroref35_Verify.j2]
      simp only [Bool.not_true, Bool.false_or]
      split
      · rfl
      · split <;> rfl
  | n + 1, k + 2, i, hi, hk, hp => by
    have hlt : i < pl.length := by omega
    have hltc : i < (pl.map cv).length := by simpa using hlt
    have hlens := h.lens
    simp only [List.length_map] at hlens
    have hti : (pl.take i).length ≤ 4611686018427387904 := by rw [List.length_take]; omega
    have hF := h.ckFree
    have hcf := cont_fi hF (pl.map cv)[i]
    have ex : (pl.map cv)[i] = cv pl[i] := List.getElem_map _
    have hfl := fi_lt (free.map cv) pl[i].f0
    rw [List.length_map] at hfl
    rw [giroref35_Verify.l0, if_pos (by omega), if_pos (by omega), rd109 hlt, rfind_some (by omega) (by omega), Option.bind_some, chkPl, rd35 hltc]
    rw [ex] at hcf ⊢
    have hcf : cont (free.map cv) (cv pl[i]) = true ↔ 0 ≤ fi (free.map cv) pl[i].f0 ∧ eqP (rd_T35 (free.map cv) (fi (free.map cv) pl[i].f0)) (cv pl[i]) = true := hcf
    have go9 : giroref35_Verify.j1 (k + 1) i true req pool wd free pl rl v = some 9 := by rw [giroref35_Verify.j1, if_pos rfl]
    by_cases c1 : fi (free.map cv) pl[i].f0 < 0
    · have hn : ¬ cont (free.map cv) (cv pl[i]) = true := fun hh => by have := (hcf.1 hh).1; omega
      rw [if_pos c1, go9, if_neg hn, pick_nz _ (by decide)]
    · rw [if_neg c1, if_pos (by omega), if_pos hfl]
      have ee : ((!((rd_T109 free (fi (free.map cv) pl[i].f0)).f0.toList == pl[i].f0.toList)) || ((!((rd_T109 free (fi (free.map cv) pl[i].f0)).f1 == pl[i].f1)) || (!((rd_T109 free (fi (free.map cv) pl[i].f0)).f2 == pl[i].f2)))) = !eqP (rd_T35 (free.map cv) (fi (free.map cv) pl[i].f0)) (cv pl[i]) := by
        rw [rd35_cv]; exact eqP_ne (p := cv (rd_T109 free (fi (free.map cv) pl[i].f0))) (q := cv pl[i])
      rw [ee]
      cases e : eqP (rd_T35 (free.map cv) (fi (free.map cv) pl[i].f0)) (cv pl[i]) with
      | false =>
        have hn : ¬ cont (free.map cv) (cv pl[i]) = true := fun hh => by have := (hcf.1 hh).2; rw [e] at this; cases this
        rw [Bool.not_false, go9, if_neg hn, pick_nz _ (by decide)]
      | true =>
        have hy : cont (free.map cv) (cv pl[i]) = true := hcf.2 ⟨by omega, e⟩
        have hct := cont_take (pl := pl.map cv) hF hltc (fun j hj hji => by
          by_cases e3 : j = i
          · subst e3; rw [ex]; exact hy
          · exact hp j hj (by omega))
        rw [ex] at hct
        have hct : cont ((pl.map cv).take i) (cv pl[i]) = true ↔ 0 ≤ fi ((pl.map cv).take i) pl[i].f0 := hct
        rw [Bool.not_true, giroref35_Verify.j1, if_neg (by simp), if_pos (by omega), if_pos (by omega), if_pos (by omega), Int.toNat_natCast, rd109 hlt, rfind_some hti (by rw [List.length_take]; omega), Option.bind_some, if_pos hy, List.map_take]
        by_cases c2 : 0 ≤ fi ((pl.map cv).take i) pl[i].f0
        · rw [if_pos c2, if_pos (hct.2 c2), pick_nz _ (by decide)]
        · rw [if_neg (by omega), if_neg (fun hh => c2 (hct.1 hh)), w64b _ (by omega)]
          exact rv_l0 h hl hr n k (i + 1) (by omega) (by omega) (fun j hj hji => by
            by_cases e3 : j = i
            · subst e3; rw [ex]; exact hy
            · exact hp j hj (by omega))
theorem rverify_some (h : Passed req (pool.map cv) wd (free.map cv)) {pl rl : List S109} {v : Int} (hl : pl.length ≤ 256) (hr : rl.length ≤ 256) {k : Nat} (hk : 7000 < k) : giroref35_Verify.f k req pool wd free pl rl v = some (vfy req (pool.map cv) wd (free.map cv) (pl.map cv) (rl.map cv) v) := by
  have := rv_l0 (v := v) h hl hr pl.length k 0 (by omega) (by omega) (fun j _ hj => by omega)
  rw [giroref35_Verify.f, vfy, List.length_map]
  exact this
end
theorem chkPl_ok {F pl : List S35} (hm : ∀ p ∈ pl, p ∈ F) (ha : (pl.map (·.f0.toList)).Nodup) : ∀ (n i : Nat), i + n = pl.length → chkPl F pl n i = 0
  | 0, i, h => rfl
  | n + 1, i, h => by
    have hi : i < pl.length := by omega
    have h1 : cont F pl[i] = true := by
      obtain ⟨j, hj, e⟩ := List.getElem_of_mem (hm _ (List.getElem_mem hi))
      exact cont_iff.2 ⟨j, hj, by rw [e]; exact eqP_refl _⟩
    have h2 : ¬ cont (pl.take i) pl[i] = true := by
      intro hh
      obtain ⟨j, hj, he⟩ := cont_iff.1 hh
      have hj' := hj
      rw [List.length_take] at hj'
      rw [List.getElem_take] at he
      have he := (eqP_iff.1 he).1
      rw [List.nodup_iff_pairwise_ne, List.pairwise_map, List.pairwise_iff_getElem] at ha
      exact ha j i (by omega) hi (by omega) he.symm
    rw [chkPl, rd35 hi, if_pos h1, if_neg h2]
    exact chkPl_ok hm ha n (i + 1) (by omega)
theorem vfy_ok {req : Int} {P F pl : List S35} {wd : List ByteArray} (hm : ∀ p ∈ pl, p ∈ F) (ha : (pl.map (·.f0.toList)).Nodup) (hv : req ≤ keptZ P wd + sumZ pl) : vfy req P wd F pl (outOf P wd) (keptZ P wd + sumZ pl) = 0 := by
  rw [vfy, chkPl_ok hm ha pl.length 0 (by omega), pick_zero, tailV, eqL_refl, if_neg (by simp), if_neg (by omega)]
end Go.Proofs.YtoanlppfdniiaaaGreatDoor.Q
end
