/- A part of the proof, joined by a program of this session out of its texts; no condition. -/
import Derived.Test.YtoanlppfdniiaaaDoorU28
import Derived.Test.YtoanlppfdniiaaaDoorU33
import Derived.Test.YtoanlppfdniiaaaDoorU34
import Derived.Test.YtoanlppfdniiaaaDoorU36
section
namespace Go.Proofs.YtoanlppfdniiaaaDoor.Q
set_option linter.unusedVariables false
set_option linter.unusedSimpArgs false
open Go.RowKit Go.Proofs.YtoanlppfdniiaaaDoorW.PrintWords Go.Proofs.YtoanlppfdniiaaaDoorW.PrintLast Go.Proofs.YtoanlppfdniiaaaDoorW.PrintMore
theorem known_some : girolaw35_known.f = some true := rfl
theorem few_some (req : Int) (pool : List S44) (wd : List ByteArray) (free : List S44) : girolaw35_few.f req pool wd free = some (decide (pool.length ≤ 12) && decide (wd.length ≤ 12) && decide (free.length ≤ 12)) := by
  unfold girolaw35_few.f
  by_cases h1 : pool.length ≤ 12
  · rw [if_pos (by omega)]
    by_cases h2 : wd.length ≤ 12
    · rw [if_pos (by omega)]; simp [h1, h2]; omega
    · rw [if_neg (by omega)]; simp [h2]
  · rw [if_neg (by omega)]; simp [h1]
theorem min_pure (req : Int) (pool : List S44) (wd : List ByteArray) (free : List S44) : girolaw35_SubstitutionMinimum.f 200000 req pool wd free = some true := by
  have jt : girolaw35_SubstitutionMinimum.j0 200000 true req pool wd free = some true := by
    rw [show (200000 : Nat) = 199999 + 1 from rfl, girolaw35_SubstitutionMinimum.j0, if_pos rfl, known_some]; rfl
  rw [girolaw35_SubstitutionMinimum.f, known_some, Option.bind_some, if_pos rfl, few_some, Option.bind_some]
  split
  · rename_i hf
    simp only [Bool.and_eq_true, decide_eq_true_eq] at hf
    rw [rcheck_some (by omega), Option.bind_some]
    by_cases hc : chk req (pool.map cv) wd (free.map cv) = 0
    · have h := passed hc
      rw [hc, show ((0 : Int) != 0) = false from rfl, show (200000 : Nat) = 199998 + 1 + 1 from rfl, girolaw35_SubstitutionMinimum.j0, if_neg (by simp), gof_some (by omega) (by omega) (by omega) (by omega), Option.bind_some]
      simp only []
      have hsf := shortfall_some (req := req) (pool := pool.map cv) (wd := wd) (free := free.map cv) (k := 199998 + 1) (by omega)
      rw [if_pos hc] at hsf
      have h12 : ¬ 12 < (free.map cv).length := by rw [List.length_map]; omega
      have hcn : ¬ chk req (pool.map cv) wd (free.map cv) ≠ 0 := by simpa using hc
      rcases greedy_best h.fineFree (missZ req (pool.map cv) wd) with ⟨h0, hb, hm⟩ | ⟨h0, x, hb, hx, hmx, hlen, hval, hmg, hz⟩
      · have eg : substitution_Greedy.f req (pool.map cv) wd (free.map cv) = some ([], [], 0, 25) := by rw [substitution_Greedy.f, greedyOf, if_neg hcn, if_pos h0]
        have eb : substitution_Best.f req (pool.map cv) wd (free.map cv) = some ([], [], 0, 25) := by rw [substitution_Best.f, bestOf, if_neg hcn, if_neg h12, hb, if_pos rfl]
        simp only [eg, eb, hsf, Option.bind_some, if_pos]
        rw [girolaw35_SubstitutionMinimum.j1, if_neg (by decide), if_neg (by decide), if_pos rfl, decide_eq_true (show missZ req (pool.map cv) wd > 0 from hm)]
      · have eg : substitution_Greedy.f req (pool.map cv) wd (free.map cv) = some ((grd (srt (free.map cv)) (missZ req (pool.map cv) wd)).1, outOf (pool.map cv) wd, keptZ (pool.map cv) wd + sumZ (grd (srt (free.map cv)) (missZ req (pool.map cv) wd)).1, 0) := by rw [substitution_Greedy.f, greedyOf, if_neg hcn, if_neg h0]
        have eb : substitution_Best.f req (pool.map cv) wd (free.map cv) = some (pickOf (free.map cv) x, outOf (pool.map cv) wd, keptZ (pool.map cv) wd + sumZ (pickOf (free.map cv) x), 0) := by
          rw [substitution_Best.f, bestOf, if_neg hcn, if_neg h12, hb, if_neg (show ¬ (pickOf (free.map cv) x, true).2 = false by simp)]
        simp only [eg, eb, hsf, Option.bind_some, if_pos]
        rw [girolaw35_SubstitutionMinimum.j1, if_neg (by decide), if_pos rfl, if_pos (by omega), if_pos (by omega)]
        split
        · rfl
        · rename_i hn
          have hl0 : (grd (srt (free.map cv)) (missZ req (pool.map cv) wd)).1.length = 0 := hz.resolve_left hn
          rw [hl0]; rfl
    · rw [show (chk req (pool.map cv) wd (free.map cv) != 0) = true by simpa using hc]
      exact jt
  · exact jt
end Go.Proofs.YtoanlppfdniiaaaDoor.Q
end
