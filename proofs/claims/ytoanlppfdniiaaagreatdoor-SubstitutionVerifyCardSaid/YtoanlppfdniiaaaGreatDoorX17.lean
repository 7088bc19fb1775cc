/- A part of the proof; no condition. -/
import Derived.Test.YtoanlppfdniiaaaGreatDoorX14
import Derived.Test.YtoanlppfdniiaaaGreatDoorX15
import Derived.Test.YtoanlppfdniiaaaGreatDoorX16
section
namespace Go.Proofs.YtoanlppfdniiaaaGreatDoor.Q
set_option linter.unusedVariables false
set_option linter.unusedSimpArgs false
open Go.RowKit Go.Proofs.YtoanlppfdniiaaaGreatDoorW.PrintWords Go.Proofs.YtoanlppfdniiaaaGreatDoorW.PrintLast Go.Proofs.YtoanlppfdniiaaaGreatDoorW.PrintMore
def got (pool : List S35) (s : ByteArray) : S35 := if fi pool s < 0 then z35 else rd_T35 pool (fi pool s)
def outOf (pool : List S35) (wd : List ByteArray) : List S35 := wd.map (got pool)
def keptZ (pool : List S35) (wd : List ByteArray) : Int := sumZ pool - sumZ (outOf pool wd)
theorem find_got (pool : List S35) (s : ByteArray) : ∃ b, substitution_find.f pool s = some ((got pool s).f0, (got pool s).f1, (got pool s).f2, b) := by
  unfold substitution_find.f got
  by_cases h : fi pool s < 0
  · exact ⟨false, by rw [if_pos h, if_pos h]; rfl⟩
  · exact ⟨true, by rw [if_neg h, if_neg h]⟩
theorem withdrawn_l0 {req : Int} {pool : List S35} {wd : List ByteArray} {free : List S35} (hl : wd.length ≤ 4096) : ∀ (n k i : Nat), i + n = wd.length → n < k → substitution_Request_withdrawn.l0 k (outOf pool (wd.take i)) wd wd.length i req pool wd free = some (outOf pool wd)
  | 0, k + 1, i, h, hk => by
    obtain rfl : i = wd.length := by omega
    rw [substitution_Request_withdrawn.l0, if_neg (by omega), List.take_length]
  | n + 1, k + 1, i, h, hk => by
    have hi : i < wd.length := by omega
    have he : rdOf ByteArray.empty wd i = wd[i] := by simp [rdOf, List.getElem?_eq_getElem hi]
    obtain ⟨b, hb⟩ := find_got pool wd[i]
    have hs : outOf pool (wd.take (i + 1)) = outOf pool (wd.take i) ++ [got pool wd[i]] := by
      rw [List.take_succ_eq_append_getElem hi]; simp only [outOf, List.map_append, List.map_cons, List.map_nil]
    have ih := withdrawn_l0 (req := req) (pool := pool) (free := free) hl n k (i + 1) (by omega) (by omega)
    rw [hs] at ih
    rw [substitution_Request_withdrawn.l0, if_pos (by omega), if_pos (by omega), if_pos (by omega), he, hb, Option.bind_some, if_pos (by simp [outOf]; omega), wrap64_in' _ (by omega)]
    exact ih
theorem withdrawn_some {req : Int} {pool : List S35} {wd : List ByteArray} {free : List S35} (hl : wd.length ≤ 4096) {k : Nat} (hk : wd.length < k) : substitution_Request_withdrawn.f k req pool wd free = some (outOf pool wd) :=
  withdrawn_l0 hl wd.length k 0 (by omega) hk
theorem got_mem {pool : List S35} {s : ByteArray} (h : 0 ≤ fi pool s) : got pool s ∈ pool := by
  have hlt := fi_lt pool s
  rw [got, if_neg (by omega)]
  have e : fi pool s = ((fi pool s).toNat : Int) := by omega
  rw [e]
  have : (fi pool s).toNat < pool.length := by omega
  unfold rd_T35
  rw [Int.toNat_natCast, List.getD_eq_getElem?_getD, List.getElem?_eq_getElem this]
  exact List.getElem_mem this
structure Passed (req : Int) (pool : List S35) (wd : List ByteArray) (free : List S35) : Prop where
  req0 : 0 ≤ req
  req1 : req ≤ MaxZ
  lens : pool.length ≤ 256 ∧ wd.length ≤ 256 ∧ free.length ≤ 256
  ckPool : ckTo pool pool.length = 0
  ckFree : ckTo free free.length = 0
  ckWd : wdTo pool free wd wd.length = 0
  sums : sumZ pool + sumZ free ≤ MaxZ
  cover : req ≤ sumZ pool
theorem passed {req : Int} {pool : List S35} {wd : List ByteArray} {free : List S35} (h : chk req pool wd free = 0) : Passed req pool wd free := by
  unfold chk at h
  split at h
  · omega
  · rename_i h1
    have h1 := inR_iff.1 (by simpa using h1)
    split at h
    · omega
    · split at h
      · exact absurd h (by assumption)
      · split at h
        · exact absurd h (by assumption)
        · split at h
          · exact absurd h (by assumption)
          · split at h
            · omega
            · split at h
              · omega
              · refine ⟨h1.1, h1.2, by omega, ?_, ?_, ?_, by omega, by omega⟩ <;> (rename_i h2 h3 h4 h5 h6; first | simpa using h2 | simpa using h3 | simpa using h4)
variable {req : Int} {pool : List S35} {wd : List ByteArray} {free : List S35}
theorem Passed.finePool (h : Passed req pool wd free) : Fine pool := by have := fine_of_ck (Nat.le_refl _) h.ckPool; rwa [List.take_length] at this
theorem Passed.fineFree (h : Passed req pool wd free) : Fine free := by have := fine_of_ck (Nat.le_refl _) h.ckFree; rwa [List.take_length] at this
theorem wd_each : ∀ {i : Nat}, i ≤ wd.length → wdTo pool free wd i = 0 → ∀ j (hj : j < wd.length), j < i → wdP pool free (wd.take j) wd[j] = 0
  | i + 1, hi, h, j, hj, hji => by
    have h0 : wdTo pool free wd i = 0 := by
      by_cases e : wdTo pool free wd i = 0
      · exact e
      · rw [wdTo, if_neg e] at h; exact h
    by_cases e : j = i
    · subst e
      rw [wdTo, if_pos h0] at h
      have he : rdOf ByteArray.empty wd j = wd[j] := by simp [rdOf, List.getElem?_eq_getElem hj]
      rwa [he] at h
    · exact wd_each (by omega) h0 j hj (by omega)
theorem Passed.found (h : Passed req pool wd free) : ∀ s ∈ wd, 0 ≤ fi pool s := by
  intro s hs
  obtain ⟨j, hj, rfl⟩ := List.getElem_of_mem hs
  have := wd_each (Nat.le_refl _) h.ckWd j hj hj
  unfold wdP at this
  split at this
  · omega
  · omega
theorem Passed.fineOut (h : Passed req pool wd free) : Fine (outOf pool wd) := by
  intro p hp
  obtain ⟨s, hs, rfl⟩ := List.mem_map.1 hp
  exact h.finePool _ (got_mem (h.found s hs))
theorem outOf_length : (outOf pool wd).length = wd.length := by simp [outOf]
theorem Passed.sumOut (h : Passed req pool wd free) : 0 ≤ sumZ (outOf pool wd) ∧ sumZ (outOf pool wd) ≤ 256 * MaxZ := by
  have := sumZ_nonneg h.fineOut
  have hl := h.lens
  rw [outOf_length] at this
  simp only [MaxZ] at *
  omega
theorem Passed.sumPool (h : Passed req pool wd free) : 0 ≤ sumZ pool ∧ sumZ pool ≤ MaxZ := by
  have h1 := sumZ_nonneg h.finePool
  have h2 := sumZ_nonneg h.fineFree
  have := h.sums
  simp only [MaxZ] at *
  omega
theorem kept_some (h : Passed req pool wd free) {k : Nat} (hk : 256 < k) : substitution_Request_kept.f k req pool wd free = some (keptZ pool wd) := by
  have hl := h.lens
  have h1 := h.sumOut
  have h2 := h.sumPool
  simp only [MaxZ] at h1 h2
  rw [substitution_Request_kept.f, sum_some h.finePool (by omega) (by omega), Option.bind_some, withdrawn_some (by omega) (by omega), Option.bind_some, sum_some h.fineOut (by rw [outOf_length]; omega) (by rw [outOf_length]; omega), Option.bind_some, wrap64_in' _ (by omega)]
  rfl
theorem Passed.keptR (h : Passed req pool wd free) : -(256 * MaxZ) ≤ keptZ pool wd ∧ keptZ pool wd ≤ MaxZ := by
  have h1 := h.sumOut
  have h2 := h.sumPool
  unfold keptZ
  simp only [MaxZ] at *
  omega
def missZ (req : Int) (pool : List S35) (wd : List ByteArray) : Int := mx 0 (req - keptZ pool wd)
theorem shortfall_some {k : Nat} (hk : 256 < k) : substitution_Shortfall.f k req pool wd free = if chk req pool wd free = 0 then some (missZ req pool wd, 0) else some (0, chk req pool wd free) := by
  rw [substitution_Shortfall.f, substitution_Check.f, Option.bind_some]
  by_cases h : chk req pool wd free = 0
  · have hp := passed h
    have hr := hp.keptR
    have h0 := hp.req0
    have h1 := hp.req1
    simp only [MaxZ] at hr h1
    rw [if_pos h, if_pos h, kept_some hp hk, Option.bind_some, wrap64_in' _ (by omega)]
    rfl
  · rw [if_neg h, if_neg h]
theorem plan_some (h : Passed req pool wd free) {l : List S35} (hf : Fine l) (hl : l.length ≤ 256) {k : Nat} (hk : 256 < k) : substitution_Request_plan.f k req pool wd free l = some (l, outOf pool wd, keptZ pool wd + sumZ l) := by
  have hr := h.keptR
  have hs := sumZ_nonneg hf
  have hw := h.lens
  simp only [MaxZ] at hr hs
  rw [substitution_Request_plan.f, withdrawn_some (by omega) (by omega), Option.bind_some, kept_some h hk, Option.bind_some, sum_some hf (by omega) (by omega), Option.bind_some, wrap64_in' _ (by omega)]
end Go.Proofs.YtoanlppfdniiaaaGreatDoor.Q
end
