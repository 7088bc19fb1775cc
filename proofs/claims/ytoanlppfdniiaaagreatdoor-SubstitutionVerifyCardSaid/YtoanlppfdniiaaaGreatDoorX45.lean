/- A part of the proof; no condition. -/
import Derived.Test.YtoanlppfdniiaaaGreatDoorX32
import Derived.Test.YtoanlppfdniiaaaGreatDoorX41
import Derived.Test.YtoanlppfdniiaaaGreatDoorX42
import Derived.Test.YtoanlppfdniiaaaGreatDoorX44
section
namespace Go.Proofs.YtoanlppfdniiaaaGreatDoor.Q
set_option linter.unusedVariables false
set_option linter.unusedSimpArgs false
open Go.RowKit Go.Proofs.YtoanlppfdniiaaaGreatDoorW.PrintWords Go.Proofs.YtoanlppfdniiaaaGreatDoorW.PrintLast Go.Proofs.YtoanlppfdniiaaaGreatDoorW.PrintMore
theorem known_someV : girolaw35_known.f = some true := rfl
theorem few_someV (req : Int) (pool : List S109) (wd : List ByteArray) (free : List S109) : girolaw35_few.f req pool wd free = some (decide (pool.length ≤ 12) && decide (wd.length ≤ 12) && decide (free.length ≤ 12)) := by
  unfold girolaw35_few.f
  by_cases h1 : pool.length ≤ 12
  · rw [if_pos (by omega)]
    by_cases h2 : wd.length ≤ 12
    · rw [if_pos (by omega)]; simp [h1, h2]; omega
    · rw [if_neg (by omega)]; simp [h2]
  · rw [if_neg (by omega)]; simp [h1]
theorem gplan_some {a b : List S109} {v : Int} (h1 : a.length ≤ 4096) (h2 : b.length ≤ 4096) {k : Nat} (hk : 4096 < k) : girolaw35_plan.f k a b v = some (a.map cv, b.map cv, v) := by
  rw [girolaw35_plan.f, glist_some h1 (by omega), Option.bind_some, glist_some h2 (by omega), Option.bind_some]
theorem nodup_of_ck {F : List S35} (h : ckTo F F.length = 0) : (F.map (·.f0.toList)).Nodup := by
  rw [List.nodup_iff_pairwise_ne, List.pairwise_map, List.pairwise_iff_getElem]
  exact fun i j hi hj hij => ck_apart h i j hi hj hij
theorem grd_sub (F : List S35) (m : Int) : ∃ n, (grd (srt F) m).1 = (srt F).take n := by
  obtain ⟨n, _, h, _⟩ := grd_shape (srt F) m
  exact ⟨n, by rw [h]⟩
theorem verify_pure (req : Int) (pool : List S109) (wd : List ByteArray) (free : List S109) (pl rl : List S109) (v : Int) : girolaw35_SubstitutionVerify.f 200000 req pool wd free pl rl v = some true := by
  have jt : girolaw35_SubstitutionVerify.j0 200000 true req pool wd free pl rl v = some true := by
    rw [show (200000 : Nat) = 199999 + 1 from rfl, girolaw35_SubstitutionVerify.j0, if_pos rfl, known_someV]; rfl
  rw [girolaw35_SubstitutionVerify.f, known_someV, Option.bind_some, if_pos rfl, few_someV, Option.bind_some]
  by_cases hf : (decide (pool.length ≤ 12) && decide (wd.length ≤ 12) && decide (free.length ≤ 12)) = true
  · rw [if_pos hf]
    simp only [Bool.and_eq_true, decide_eq_true_eq] at hf
    by_cases hl1 : pl.length > 14
    · rw [if_pos (by omega)]; exact jt
    · rw [if_neg (by omega)]
      by_cases hl2 : rl.length > 14
      · rw [if_pos (by omega)]; exact jt
      · rw [if_neg (by omega), rcheck_some (by omega), Option.bind_some]
        by_cases hc : chk req (pool.map cv) wd (free.map cv) = 0
        · have h := passed hc
          have hlens := h.lens
          simp only [List.length_map] at hlens
          rw [hc, show ((0 : Int) != 0) = false from rfl, show (200000 : Nat) = 199999 + 1 from rfl, girolaw35_SubstitutionVerify.j0, if_neg (by simp)]
          have eof := gof_some (req := req) (pool := pool) (free := free) (wd := wd) (by omega) (by omega) (by omega) (show 4096 < 199999 by omega)
          have epl := gplan_some (v := v) (show pl.length ≤ 4096 by omega) (show rl.length ≤ 4096 by omega) (show 4096 < 199999 by omega)
          have epv := pverify_some (v := v) h hc (pl := pl.map cv) (rl := rl.map cv) (by rw [List.length_map]; omega) (by rw [List.length_map]; omega) (show 7000 < 199999 by omega)
          have erv := rverify_some (v := v) h (pl := pl) (rl := rl) (by omega) (by omega) (show 7000 < 199999 by omega)
          have h12 : ¬ 12 < (free.map cv).length := by rw [List.length_map]; omega
          have hcn : ¬ chk req (pool.map cv) wd (free.map cv) ≠ 0 := by simpa using hc
          have hnd := nodup_of_ck h.ckFree
          have hol : (outOf (pool.map cv) wd).length ≤ 256 := by rw [outOf_length]; omega
          have hm : missZ req (pool.map cv) wd = mx 0 (req - keptZ (pool.map cv) wd) := rfl
          have hmx : ∀ s, missZ req (pool.map cv) wd ≤ s → req ≤ keptZ (pool.map cv) wd + s := fun s hs => by rw [hm] at hs; unfold mx at hs; split at hs <;> omega
          rcases greedy_best h.fineFree (missZ req (pool.map cv) wd) with ⟨h0, hb, hm⟩ | ⟨h0, x, hb, hx, hmx1, hlen, hval, hmg, hz⟩
          · have eg : substitution_Greedy.f req (pool.map cv) wd (free.map cv) = some ([], [], 0, 25) := by rw [substitution_Greedy.f, greedyOf, if_neg hcn, if_pos h0]
            have eb : substitution_Best.f req (pool.map cv) wd (free.map cv) = some ([], [], 0, 25) := by rw [substitution_Best.f, bestOf, if_neg hcn, if_neg h12, hb, if_pos rfl]
            simp only [eof, epl, epv, erv, eg, eb, Option.bind_some, if_pos]
            rw [if_neg (by decide), if_neg (by decide)]
          · have eg : substitution_Greedy.f req (pool.map cv) wd (free.map cv) = some ((grd (srt (free.map cv)) (missZ req (pool.map cv) wd)).1, outOf (pool.map cv) wd, keptZ (pool.map cv) wd + sumZ (grd (srt (free.map cv)) (missZ req (pool.map cv) wd)).1, 0) := by rw [substitution_Greedy.f, greedyOf, if_neg hcn, if_neg h0]
            have eb : substitution_Best.f req (pool.map cv) wd (free.map cv) = some (pickOf (free.map cv) x, outOf (pool.map cv) wd, keptZ (pool.map cv) wd + sumZ (pickOf (free.map cv) x), 0) := by
              rw [substitution_Best.f, bestOf, if_neg hcn, if_neg h12, hb, if_neg (show ¬ (pickOf (free.map cv) x, true).2 = false by simp)]
            have hsub : (pickOf (free.map cv) x).Sublist (free.map cv) := by simpa using inc_sub hx
            have hpn : ((pickOf (free.map cv) x).map (·.f0.toList)).Nodup := (hsub.map _).nodup hnd
            have hpm : ∀ p ∈ pickOf (free.map cv) x, p ∈ free.map cv := fun p hp => hsub.subset hp
            have hpl := hsub.length_le
            rw [List.length_map] at hpl
            obtain ⟨n, hn⟩ := grd_sub (free.map cv) (missZ req (pool.map cv) wd)
            have hgn : ((grd (srt (free.map cv)) (missZ req (pool.map cv) wd)).1.map (·.f0.toList)).Nodup := by
              rw [hn]
              exact ((List.take_sublist n _).map _).nodup (((srt_perm (free.map cv)).map _).nodup_iff.2 hnd)
            have hgm : ∀ p ∈ (grd (srt (free.map cv)) (missZ req (pool.map cv) wd)).1, p ∈ free.map cv := fun p hp => by
              rw [hn] at hp
              exact (srt_perm (free.map cv)).mem_iff.1 (List.mem_of_mem_take hp)
            have ev1 := pverify_some (v := keptZ (pool.map cv) wd + sumZ (grd (srt (free.map cv)) (missZ req (pool.map cv) wd)).1) h hc (pl := (grd (srt (free.map cv)) (missZ req (pool.map cv) wd)).1) (rl := outOf (pool.map cv) wd) (by omega) hol (show 7000 < 199999 by omega)
            have ev2 := pverify_some (v := keptZ (pool.map cv) wd + sumZ (pickOf (free.map cv) x)) h hc (pl := pickOf (free.map cv) x) (rl := outOf (pool.map cv) wd) (by omega) hol (show 7000 < 199999 by omega)
            rw [vfy_ok hgm hgn (hmx _ hmg)] at ev1
            rw [vfy_ok hpm hpn (hmx _ hmx1)] at ev2
            simp only [eof, epl, epv, erv, eg, eb, ev1, ev2, Option.bind_some, if_pos]
            rfl
        · rw [show (chk req (pool.map cv) wd (free.map cv) != 0) = true by simpa using hc]
          exact jt
  · rw [if_neg hf]; exact jt
end Go.Proofs.YtoanlppfdniiaaaGreatDoor.Q
end
