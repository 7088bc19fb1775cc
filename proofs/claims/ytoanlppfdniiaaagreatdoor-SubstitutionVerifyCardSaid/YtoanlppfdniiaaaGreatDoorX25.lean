/- A part of the proof; no condition. -/
import Derived.Test.YtoanlppfdniiaaaGreatDoorX24
section
namespace Go.Proofs.YtoanlppfdniiaaaGreatDoor.Q
set_option linter.unusedVariables false
set_option linter.unusedSimpArgs false
open Go.RowKit Go.Proofs.YtoanlppfdniiaaaGreatDoorW.PrintWords Go.Proofs.YtoanlppfdniiaaaGreatDoorW.PrintLast Go.Proofs.YtoanlppfdniiaaaGreatDoorW.PrintMore
theorem hasB_snoc {l : List ByteArray} {s t : ByteArray} : hasB (l ++ [t]) s = (hasB l s || (t.toList == s.toList)) := by simp [hasB]
theorem rdOf_at {l : List ByteArray} {i : Nat} (h : i < l.length) : rdOf ByteArray.empty l (i : Int) = l[i] := by simp [rdOf, List.getElem?_eq_getElem h]
section
variable {req : Int} {pool : List S109} {wd : List ByteArray} {free : List S109}
def endOf (req : Int) (pool free : List S109) : Int := if MaxZ < sumZ (pool.map cv) + sumZ (free.map cv) then 12 else if sumZ (pool.map cv) < req then 25 else 0
theorem rck_l (hp : Fine (pool.map cv)) (hf : Fine (free.map cv)) (hlp : pool.length ≤ 256) (hlw : wd.length ≤ 256) (hlf : free.length ≤ 256) : ∀ (n i : Nat), i + n = wd.length → wdTo (pool.map cv) (free.map cv) wd i = 0 →
    (∀ k, 600 * n + 600 < k → giroref35_Check.l0 k i req pool wd free = some (if wdTo (pool.map cv) (free.map cv) wd wd.length ≠ 0 then wdTo (pool.map cv) (free.map cv) wd wd.length else endOf req pool free))
  | 0, i, h, hw, k, hk => by
    obtain ⟨k, rfl⟩ : ∃ m, k = m + 1 := ⟨k - 1, by omega⟩
    obtain rfl : i = wd.length := by omega
    have h1 := sumZ_nonneg hp
    have h2 := sumZ_nonneg hf
    simp only [MaxZ, List.length_map] at h1 h2
    rw [giroref35_Check.l0, if_neg (by omega), rsum_some hp (by omega) (by omega), Option.bind_some, rsum_some hf (by omega) (by omega), Option.bind_some, w64b _ (by omega), if_neg (show ¬ wdTo (pool.map cv) (free.map cv) wd wd.length ≠ 0 by simp [hw]), endOf]
    unfold MaxZ
    by_cases h3 : 1000000000000000 < sumZ (pool.map cv) + sumZ (free.map cv)
    · rw [if_pos (by omega), if_pos h3]
    · rw [if_neg (by omega), if_neg h3, Option.bind_some]
      split <;> rfl
  | n + 1, i, h, hw, k, hk => by
    obtain ⟨k, rfl⟩ : ∃ m, k = m + 1 := ⟨k - 1, by omega⟩
    have hi : i < wd.length := by omega
    have step : wdTo (pool.map cv) (free.map cv) wd (i + 1) = wdP (pool.map cv) (free.map cv) (wd.take i) wd[i] := by rw [wdTo, if_pos hw, rdOf_at hi]
    have bad : ∀ c, wdP (pool.map cv) (free.map cv) (wd.take i) wd[i] = c → c ≠ 0 → wdTo (pool.map cv) (free.map cv) wd wd.length = c := by
      intro c hc h0
      rw [wdTo_bad (i := i + 1) (by rw [step, hc]; exact h0) wd.length (by omega), step, hc]
    have ih := rck_l hp hf hlp hlw hlf n (i + 1) (by omega)
    rw [giroref35_Check.l0, if_pos (by omega), if_pos (by omega), rdOf_at hi, rfind_some (by omega) (by omega), Option.bind_some]
    by_cases h9 : fi (pool.map cv) wd[i] < 0
    · rw [if_pos h9, bad 9 (by rw [wdP, if_pos h9]) (by decide), if_pos (by decide)]
    · rw [if_neg h9]

      have inner : ∀ (m j : Nat), j + m = i → hasB (wd.take j) wd[i] = false → ∀ k, 600 * n + 900 + m < k → giroref35_Check.l1 k i j req pool wd free = some (if wdTo (pool.map cv) (free.map cv) wd wd.length ≠ 0 then wdTo (pool.map cv) (free.map cv) wd wd.length else endOf req pool free) := by
        intro m
        induction m with
        | zero =>
          intro j hj hb k hk
          obtain ⟨k, rfl⟩ : ∃ m, k = m + 1 := ⟨k - 1, by omega⟩
          obtain rfl : j = i := by omega
          rw [giroref35_Check.l1, if_neg (by omega), if_pos (by omega), if_pos (by omega), rdOf_at hi, rfind_some (by omega) (by omega), Option.bind_some]
          by_cases h7 : 0 ≤ fi (free.map cv) wd[j]
          · rw [if_pos h7, bad 7 (by rw [wdP, if_neg h9, if_pos h7]) (by decide), if_pos (by decide)]
          · rw [if_neg h7, w64b _ (by omega)]
            exact ih (by rw [step, wdP, if_neg h9, if_neg h7, if_neg (by simp [hb])]) k (by omega)
        | succ m ihm =>
          intro j hj hb k hk
          obtain ⟨k, rfl⟩ : ∃ m, k = m + 1 := ⟨k - 1, by omega⟩
          have hjl : j < wd.length := by omega
          have ht : wd.take (j + 1) = wd.take j ++ [wd[j]] := List.take_succ_eq_append_getElem hjl
          rw [giroref35_Check.l1, if_pos (by omega), if_pos (by omega), if_pos (by omega), if_pos (by omega), if_pos (by omega), rdOf_at hi, rdOf_at hjl]
          by_cases e : wd[j].toList = wd[i].toList
          · have hh : hasB (wd.take i) wd[i] = true := by
              unfold hasB
              rw [List.any_eq_true]
              exact ⟨wd[j], List.mem_take_iff_getElem.2 ⟨j, by omega, rfl⟩, by simpa using e⟩
            have h7 : wdP (pool.map cv) (free.map cv) (wd.take i) wd[i] = 7 := by
              rw [wdP, if_neg h9]
              split
              · rfl
              · first | rfl | rw [if_pos hh]
            rw [if_pos e, bad 7 h7 (by decide), if_pos (by decide)]
          · rw [if_neg e, w64b _ (by omega)]
            exact ihm (j + 1) (by omega) (by rw [ht, hasB_snoc, hb]; simpa using e) k (by omega)
      exact inner i 0 (by omega) (by simp [hasB]) k (by omega)
theorem rcheck_some {k : Nat} (hk : 600 * wd.length + 2000 < k) : giroref35_Check.f k req pool wd free = some (chk req (pool.map cv) wd (free.map cv)) := by
  obtain ⟨k, rfl⟩ : ∃ m, k = m + 2 := ⟨k - 2, by omega⟩
  have j1t : giroref35_Check.j1 (k + 1) true req pool wd free = some 8 := by rw [giroref35_Check.j1, if_pos rfl]
  have hc : chk req (pool.map cv) wd (free.map cv) = if inR req 0 = false then 2 else if 256 < pool.length ∨ 256 < wd.length ∨ 256 < free.length then 8 else if ckTo (pool.map cv) pool.length ≠ 0 then ckTo (pool.map cv) pool.length
      else if ckTo (free.map cv) free.length ≠ 0 then ckTo (free.map cv) free.length else if wdTo (pool.map cv) (free.map cv) wd wd.length ≠ 0 then wdTo (pool.map cv) (free.map cv) wd wd.length else endOf req pool free := by
    unfold chk endOf
    simp only [List.length_map]
  have n1 : inR req 0 = decide (0 ≤ req ∧ req ≤ 1000000000000000) := by simp [inR]
  rw [giroref35_Check.f, hc]
  have main : ∀ b, (b = true ↔ inR req 0 = false) → giroref35_Check.j0 (k + 2) b req pool wd free = some (if inR req 0 = false then 2 else if 256 < pool.length ∨ 256 < wd.length ∨ 256 < free.length then 8 else if ckTo (pool.map cv) pool.length ≠ 0 then ckTo (pool.map cv) pool.length
      else if ckTo (free.map cv) free.length ≠ 0 then ckTo (free.map cv) free.length else if wdTo (pool.map cv) (free.map cv) wd wd.length ≠ 0 then wdTo (pool.map cv) (free.map cv) wd wd.length else endOf req pool free) := by
    intro b hb
    rw [giroref35_Check.j0]
    by_cases h : b = true
    · rw [if_pos h, if_pos (hb.1 h)]
    · rw [if_neg h, if_neg (mt hb.2 h)]
      by_cases h1 : 256 < pool.length
      · rw [if_pos (by omega), if_pos (.inl h1), j1t]
      · rw [if_neg (by omega)]
        by_cases h2 : 256 < wd.length
        · rw [if_pos (by omega), if_pos (.inr (.inl h2)), j1t]
        · rw [if_neg (by omega)]
          by_cases h3 : 256 < free.length
          · rw [if_pos (.inr (.inr h3)), show decide ((free.length : Int) > 256) = true by simp; omega, j1t]
          · rw [if_neg (by omega), show decide ((free.length : Int) > 256) = false by simp; omega, giroref35_Check.j1, if_neg (by simp), rlist_some (by omega) (by omega), Option.bind_some]
            by_cases h4 : ckTo (pool.map cv) pool.length = 0
            · rw [if_pos h4, if_neg (by simpa using h4), rlist_some (by omega) (by omega), Option.bind_some]
              by_cases h5 : ckTo (free.map cv) free.length = 0
              · rw [if_pos h5, if_neg (by simpa using h5)]
                have hp : Fine (pool.map cv) := by
                  have := fine_of_ck (l := pool.map cv) (i := pool.length) (by simp) h4
                  rwa [List.take_of_length_le (by simp)] at this
                have hf : Fine (free.map cv) := by
                  have := fine_of_ck (l := free.map cv) (i := free.length) (by simp) h5
                  rwa [List.take_of_length_le (by simp)] at this
                exact rck_l hp hf (by omega) (by omega) (by omega) wd.length 0 (by omega) rfl k (by omega)
              · rw [if_neg h5, if_pos h5]
            · rw [if_neg h4, if_pos h4]
  split
  · exact main true (by rw [n1]; simp; omega)
  · exact main _ (by rw [n1]; simp; omega)
def relR (pool : List S109) (wd : List ByteArray) : List S109 := (outOf (pool.map cv) wd).map vc
theorem relR_cv : (relR pool wd).map cv = outOf (pool.map cv) wd := map_cv_vc _
theorem released_l0 (h : Passed req (pool.map cv) wd (free.map cv)) : ∀ (n k i : Nat), i + n = wd.length → 300 + n < k → giroref35_Released.l0 k (relR pool (wd.take i)) i req pool wd free = some (relR pool wd)
  | 0, k + 1, i, hi, hk => by
    obtain rfl : i = wd.length := by omega
    rw [giroref35_Released.l0, if_neg (by omega), List.take_length]
  | n + 1, k + 1, i, hi, hk => by
    have hl := h.lens
    simp only [List.length_map] at hl
    have hlt : i < wd.length := by omega
    have h0 := h.found wd[i] (List.getElem_mem hlt)
    have h1 := fi_lt (pool.map cv) wd[i]
    rw [List.length_map] at h1
    have hs : relR pool (wd.take (i + 1)) = relR pool (wd.take i) ++ [(⟨(rd_T109 pool (fi (pool.map cv) wd[i])).f0, (rd_T109 pool (fi (pool.map cv) wd[i])).f1, (rd_T109 pool (fi (pool.map cv) wd[i])).f2⟩ : S109)] := by
      rw [List.take_succ_eq_append_getElem hlt]
      simp only [relR, outOf, List.map_append, List.map_cons, List.map_nil]
      congr 2
      rw [got, if_neg (by omega), rd35_cv]; rfl
    have hlen : (relR pool (wd.take i)).length ≤ 256 := by simp [relR, outOf]; omega
    have ih := released_l0 h n k (i + 1) (by omega) (by omega)
    rw [hs] at ih
    rw [giroref35_Released.l0, if_pos (by omega), if_pos (by omega), rdOf_at hlt, rfind_some (by omega) (by omega), Option.bind_some, if_pos h0, if_pos h1, if_pos (by omega), w64b _ (by omega)]
    exact ih
theorem released_some (h : Passed req (pool.map cv) wd (free.map cv)) {k : Nat} (hk : 600 < k) : giroref35_Released.f k req pool wd free = some (relR pool wd) :=
  released_l0 h wd.length k 0 (by omega) (by have := h.lens; omega)
theorem rkept_some (h : Passed req (pool.map cv) wd (free.map cv)) {k : Nat} (hk : 600 < k) : giroref35_Kept.f k req pool wd free = some (keptZ (pool.map cv) wd) := by
  have hl := h.lens
  have h1 := h.sumOut
  have h2 := h.sumPool
  simp only [MaxZ] at h1 h2
  simp only [List.length_map] at hl
  have hf : Fine ((relR pool wd).map cv) := by rw [relR_cv]; exact h.fineOut
  have hrl : (relR pool wd).length ≤ 256 := by simp [relR, outOf]; omega
  rw [giroref35_Kept.f, rsum_some h.finePool (by omega) (by omega), Option.bind_some, released_some h hk, Option.bind_some, rsum_some hf (by omega) (by omega), Option.bind_some, relR_cv, w64b _ (by omega)]
  rfl
end
theorem glist_l0 {l : List S109} (hl : l.length ≤ 4096) : ∀ (n k i : Nat), i + n = l.length → n < k → girolaw35_list.l0 k l ((l.map cv).take i) i = some (l.map cv)
  | 0, k + 1, i, h, hk => by
    obtain rfl : i = l.length := by omega
    rw [girolaw35_list.l0, if_neg (by omega), List.take_of_length_le (by simp)]
  | n + 1, k + 1, i, h, hk => by
    have hi : i < l.length := by omega
    have ht : (l.map cv).take (i + 1) = (l.map cv).take i ++ [(⟨(rd_T109 l i).f0, (rd_T109 l i).f1, (rd_T109 l i).f2⟩ : S35)] := by
      rw [List.take_succ_eq_append_getElem (by simpa using hi), rd109 hi, List.getElem_map]; rfl
    have ih := glist_l0 hl n k (i + 1) (by omega) (by omega)
    rw [ht] at ih
    rw [girolaw35_list.l0, if_pos (by omega), if_pos (by omega), if_pos (by rw [List.length_take]; omega), w64b _ (by omega)]
    exact ih
theorem glist_some {l : List S109} (hl : l.length ≤ 4096) {k : Nat} (hk : l.length < k) : girolaw35_list.f k l = some (l.map cv) := glist_l0 hl l.length k 0 (by omega) hk
theorem gof_some {req : Int} {pool free : List S109} {wd : List ByteArray} (h1 : pool.length ≤ 4096) (h2 : wd.length ≤ 4096) (h3 : free.length ≤ 4096) {k : Nat} (hk : 4096 < k) : girolaw35_of.f k req pool wd free = some (req, pool.map cv, wd, free.map cv) := by
  rw [girolaw35_of.f, glist_some h1 (by omega), Option.bind_some, Option.bind_some, if_pos (by simp; omega), glist_some h3 (by omega), Option.bind_some]
  rfl
end Go.Proofs.YtoanlppfdniiaaaGreatDoor.Q
end
