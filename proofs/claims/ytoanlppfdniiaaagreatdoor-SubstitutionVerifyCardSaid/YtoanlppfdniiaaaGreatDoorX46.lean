/- A part of the proof; no condition. -/
import Derived.Test.YtoanlppfdniiaaaGreatDoorX45
section
namespace Go.Proofs.YtoanlppfdniiaaaGreatDoor.Q
set_option linter.unusedVariables false
set_option linter.unusedSimpArgs false
open Go.RowKit Go.Proofs.YtoanlppfdniiaaaGreatDoorW.PrintWords Go.Proofs.YtoanlppfdniiaaaGreatDoorW.PrintLast Go.Proofs.YtoanlppfdniiaaaGreatDoorW.PrintMore
section
variable {req : Int} {pool : List S109} {wd : List ByteArray} {free : List S109}
theorem of_more {k : Nat} {t : Int × List S35 × List ByteArray × List S35} (h : girolaw35_of.f k req pool wd free = some t) : ∀ n, girolaw35_of.f (k + n) req pool wd free = some t
  | 0 => h
  | n + 1 => girolaw35_of.mono _ _ _ _ _ _ (of_more h n)
theorem few_lens (h : girolaw35_few.f req pool wd free = some true) : pool.length ≤ 12 ∧ wd.length ≤ 12 ∧ free.length ≤ 12 := by
  rw [few_someV] at h
  have := Option.some.inj h
  simp only [Bool.and_eq_true, decide_eq_true_eq] at this
  exact ⟨this.1.1, this.1.2, this.2⟩
theorem of_is {k : Nat} {t : Int × List S35 × List ByteArray × List S35} (hf : girolaw35_few.f req pool wd free = some true) (h : girolaw35_of.f k req pool wd free = some t) : t = (req, pool.map cv, wd, free.map cv) := by
  have hl := few_lens hf
  have h1 := of_more h 5000
  rw [gof_some (by omega) (by omega) (by omega) (by omega)] at h1
  exact (Option.some.inj h1).symm
theorem ok_ {k : Nat} {t1 : Int} {t2 t4 : List S35} {t3 : List ByteArray} {x y : List S35} {z e : Int} (hf : girolaw35_few.f req pool wd free = some true) (h1 : girolaw35_of.f k req pool wd free = some (t1, t2, t3, t4)) (h2 : substitution_Greedy.f t1 t2 t3 t4 = some (x, y, z, e)) : e = (greedyOf req (pool.map cv) wd (free.map cv)).2.2.2 := by
  cases of_is hf h1
  rw [substitution_Greedy.f] at h2
  rw [Option.some.inj h2]
theorem mix_ {k k' : Nat} {t1 u1 : Int} {t2 t4 u2 u4 : List S35} {t3 u3 : List ByteArray} {x y x' y' : List S35} {z e z' e' : Int} (hf : girolaw35_few.f req pool wd free = some true) (h1 : girolaw35_of.f k req pool wd free = some (t1, t2, t3, t4)) (h2 : substitution_Greedy.f t1 t2 t3 t4 = some (x, y, z, e))
    (h3 : girolaw35_of.f k' req pool wd free = some (u1, u2, u3, u4)) (h4 : substitution_Best.f u1 u2 u3 u4 = some (x', y', z', e')) : (e == 0) = (e' == 0) := by
  have he := ok_ hf h1 h2
  cases of_is hf h3
  rw [substitution_Best.f] at h4
  have he' : e' = (bestOf req (pool.map cv) wd (free.map cv)).2.2.2 := by rw [Option.some.inj h4]
  have hl := few_lens hf
  rw [he, he', greedyOf, bestOf]
  by_cases hc : chk req (pool.map cv) wd (free.map cv) ≠ 0
  · rw [if_pos hc, if_pos hc]
  · have h := passed (by simpa using hc : chk req (pool.map cv) wd (free.map cv) = 0)
    rw [if_neg hc, if_neg hc, if_neg (show ¬ 12 < (free.map cv).length by rw [List.length_map]; omega)]
    rcases greedy_best h.fineFree (missZ req (pool.map cv) wd) with ⟨h0, hb, hm⟩ | ⟨h0, x, hb, _⟩
    · rw [if_pos h0, hb, if_pos rfl]
    · rw [if_neg h0, hb, if_neg (show ¬ (pickOf (free.map cv) x, true).2 = false by simp)]
end
end Go.Proofs.YtoanlppfdniiaaaGreatDoor.Q
end
