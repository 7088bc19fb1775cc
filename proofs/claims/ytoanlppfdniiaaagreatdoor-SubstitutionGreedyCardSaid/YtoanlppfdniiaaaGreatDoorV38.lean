/- A part of the proof, joined by a program of this session out of its texts; no condition. -/
import Derived.Test.YtoanlppfdniiaaaGreatDoorV25
import Derived.Test.YtoanlppfdniiaaaGreatDoorV27
import Derived.Test.YtoanlppfdniiaaaGreatDoorV28
import Derived.Test.YtoanlppfdniiaaaGreatDoorV37
section
namespace Go.Proofs.YtoanlppfdniiaaaGreatDoor.Q
set_option linter.unusedVariables false
set_option linter.unusedSimpArgs false
open Go.RowKit Go.Proofs.YtoanlppfdniiaaaGreatDoorW.PrintWords Go.Proofs.YtoanlppfdniiaaaGreatDoorW.PrintLast Go.Proofs.YtoanlppfdniiaaaGreatDoorW.PrintMore
theorem ahead_trans {a b c : S35} (h : ahead35 a b) (k : ahead35 b c) : ahead35 a c := (lt35 a c).1 (swo35.trans _ _ _ ((lt35 a b).2 h) ((lt35 b c).2 k))
theorem ahead_irrefl (a : S35) : ¬ ahead35 a a := fun h => by have := (lt35 a a).2 h; rw [swo35.irrefl] at this; simp at this
theorem ahead_or {a b : S35} (hn : a.f0.toList ≠ b.f0.toList) : ahead35 a b ∨ ahead35 b a := by
  unfold ahead35
  rcases Int.lt_trichotomy a.f2 b.f2 with h | h | h
  · exact .inr (.inl h)
  · by_cases h1 : a.f0.toList < b.f0.toList
    · exact .inl (.inr ⟨h.symm, h1⟩)
    · exact .inr (.inr ⟨h, by
        rcases List.le_iff_lt_or_eq.1 (List.not_lt.1 h1) with h2 | h2
        · exact h2
        · exact absurd h2.symm hn⟩)
  · exact .inl (.inl h)
def Apart (l : List S35) : Prop := ∀ i j (hi : i < l.length) (hj : j < l.length), i ≠ j → l[i].f0.toList ≠ l[j].f0.toList
theorem apart_of_ck {l : List S35} (h : ckTo l l.length = 0) : Apart l := fun i j hi hj hij => by
  rcases Nat.lt_or_gt_of_ne hij with h1 | h1
  · exact ck_apart h i j hi hj h1
  · exact (ck_apart h j i hj hi h1).symm
theorem apart_nodup {l : List S35} : Apart l ↔ (l.map (·.f0.toList)).Nodup := by
  rw [List.nodup_iff_pairwise_ne, List.pairwise_map, List.pairwise_iff_getElem]
  constructor
  · exact fun h i j hi hj hij => h i j hi hj (by omega)
  · intro h i j hi hj hij
    rcases Nat.lt_or_gt_of_ne hij with h1 | h1
    · exact h i j hi hj h1
    · exact (h j i hj hi h1).symm
section
variable {F : List S35}
theorem srt_apart (h : Apart F) : Apart (srt F) := by
  rw [apart_nodup] at *
  exact (List.Perm.nodup_iff ((List.mergeSort_perm F leB).map _)).2 h
theorem srt_sorted (h : Apart F) : (srt F).Pairwise ahead35 := by
  have hs := List.pairwise_mergeSort leB_trans leB_total F
  have ha := srt_apart h
  rw [List.pairwise_iff_getElem] at hs ⊢
  intro i j hi hj hij
  have h1 := hs i j hi hj hij
  rcases ahead_or (ha i j hi hj (by omega)) with k | k
  · exact k
  · have := (lt35 _ _).2 k
    have h1 : leB (srt F)[i] (srt F)[j] = true := h1
    unfold leB at h1
    rw [this] at h1; simp at h1
theorem srt_len : (srt F).length = F.length := (List.mergeSort_perm F leB).length_eq
theorem srt_mem {p : S35} : p ∈ srt F ↔ p ∈ F := (List.mergeSort_perm F leB).mem_iff
theorem next_of (h : Apart F) {i : Nat} (hi : i < (srt F).length) {p : S35} (hp : p ∈ F) (hn : p ∉ (srt F).take i) (hb : ∀ q ∈ F, q ∉ (srt F).take i → q = p ∨ ahead35 p q) : p = (srt F)[i] := by
  have hs := srt_sorted h
  rw [List.pairwise_iff_getElem] at hs
  have hq : (srt F)[i] ∉ (srt F).take i := by
    intro hm
    obtain ⟨j, hj, e⟩ := List.mem_take_iff_getElem.1 hm
    have := hs j i (by omega) hi (by omega)
    rw [e] at this
    exact ahead_irrefl _ this
  rcases hb _ (srt_mem.1 (List.getElem_mem hi)) hq with e | e
  · exact e.symm
  · obtain ⟨j, hj, rfl⟩ := List.getElem_of_mem (srt_mem.2 hp)
    by_cases hji : j < i
    · exact absurd (List.mem_take_iff_getElem.2 ⟨j, by omega, rfl⟩) hn
    · by_cases e2 : j = i
      · subst e2; rfl
      · exact absurd (ahead_trans e (hs i j hi hj (by omega))) (ahead_irrefl _)
end
section
variable {req : Int} {pool : List S109} {wd : List ByteArray} {free : List S109}
def Pick (free : List S109) (U : List Bool) (j : Nat) (b : Int) : Prop :=
  (b = -1 ∧ ∀ c, c < j → U.getD c false = true) ∨
  ∃ m : Nat, b = m ∧ m < j ∧ U.getD m false = false ∧ ∀ c, c < j → U.getD c false = false → c = m ∨ ahead35 (cv (rd_T109 free m)) (cv (rd_T109 free c))
theorem pick_loop (ha : Apart (free.map cv)) (hl : free.length ≤ 4096) {U : List Bool} (hU : U.length = free.length) (a b : List S109) (v : Int) : ∀ (m j : Nat) (p : Int), j + m = free.length → Pick free U j p →
    ∃ q, Pick free U free.length q ∧ ∀ k, giroref35_Greedy.l1 (k + m) U p j req pool wd free a b v = giroref35_Greedy.l1 k U q free.length req pool wd free a b v
  | 0, j, p, h, hp => by
    obtain rfl : j = free.length := by omega
    exact ⟨p, hp, fun k => rfl⟩
  | m + 1, j, p, h, hp => by
    have hj : j < free.length := by omega
    have hUj : rdOf false U (j : Int) = U.getD j false := by simp [rdOf, List.getD_eq_getElem?_getD]
    have go : ∀ p', Pick free U (j + 1) p' → (∀ k, giroref35_Greedy.l1 (k + 1) U p j req pool wd free a b v = giroref35_Greedy.l1 k U p' (wrap64 ((j : Int) + 1)) req pool wd free a b v) →
        ∃ q, Pick free U free.length q ∧ ∀ k, giroref35_Greedy.l1 (k + (m + 1)) U p j req pool wd free a b v = giroref35_Greedy.l1 k U q free.length req pool wd free a b v := by
      intro p' hp' hstep
      obtain ⟨q, hq, hk⟩ := pick_loop ha hl hU a b v m (j + 1) p' (by omega) hp'
      refine ⟨q, hq, fun k => ?_⟩
      rw [show k + (m + 1) = (k + m) + 1 by omega, hstep, w64b _ (by omega), ← hk k]
      rfl
    have base : ∀ k, giroref35_Greedy.l1 (k + 1) U p j req pool wd free a b v = if U.getD j false = true then giroref35_Greedy.l1 k U p (wrap64 ((j : Int) + 1)) req pool wd free a b v else (if p < 0 then (giroref35_Greedy.l1 k U j (wrap64 ((j : Int) + 1)) req pool wd free a b v) else (if 0 ≤ p then (if p < (free.length : Int) then (if ((rd_T109 free j).f2) > ((rd_T109 free p).f2) then (giroref35_Greedy.l1 k U j (wrap64 ((j : Int) + 1)) req pool wd free a b v) else (if ((rd_T109 free j).f2) = ((rd_T109 free p).f2) then (if (Op.bytesLess (((rd_T109 free j).f0).toList) (((rd_T109 free p).f0).toList)) = true then (giroref35_Greedy.l1 k U j (wrap64 ((j : Int) + 1)) req pool wd free a b v) else (giroref35_Greedy.l1 k U p (wrap64 ((j : Int) + 1)) req pool wd free a b v)) else (giroref35_Greedy.l1 k U p (wrap64 ((j : Int) + 1)) req pool wd free a b v))) else (none)) else (none))) := by
      intro k
      rw [giroref35_Greedy.l1, if_pos (by omega), if_pos (by omega), if_pos (by omega), hUj]
    have keep : ∀ m' : Nat, p = (m' : Int) → m' < j → U.getD m' false = false → (∀ c, c < j → U.getD c false = false → c = m' ∨ ahead35 (cv (rd_T109 free m')) (cv (rd_T109 free c))) → (U.getD j false = false → ahead35 (cv (rd_T109 free m')) (cv (rd_T109 free j))) → Pick free U (j + 1) p := by
      intro m' h1 h2 h3 h4 h5
      refine .inr ⟨m', h1, by omega, h3, fun c hc hu => ?_⟩
      by_cases e : c = j
      · subst e; exact .inr (h5 hu)
      · exact h4 c (by omega) hu
    by_cases hu : U.getD j false = true
    · refine go p ?_ (fun k => by rw [base, if_pos hu])
      rcases hp with ⟨h1, h2⟩ | ⟨m', h1, h2, h3, h4⟩
      · refine .inl ⟨h1, fun c hc => ?_⟩
        by_cases e : c = j
        · subst e; exact hu
        · exact h2 c (by omega)
      · exact keep m' h1 h2 h3 h4 (fun h => by rw [hu] at h; cases h)
    · have hu' : U.getD j false = false := by simpa using hu
      rcases hp with ⟨rfl, h2⟩ | ⟨m', rfl, h2, h3, h4⟩
      · refine go j ?_ (fun k => by rw [base, if_neg hu, if_pos (by decide)])
        refine .inr ⟨j, rfl, by omega, hu', fun c hc hcu => ?_⟩
        by_cases e : c = j
        · exact .inl e
        · rw [h2 c (by omega)] at hcu; cases hcu
      · have hne : (cv (rd_T109 free m')).f0.toList ≠ (cv (rd_T109 free j)).f0.toList := by
          have := ha m' j (by rw [List.length_map]; omega) (by rw [List.length_map]; omega) (by omega)
          rw [List.getElem_map, List.getElem_map, ← rd109, ← rd109] at this
          exact this
        have turn : ahead35 (cv (rd_T109 free j)) (cv (rd_T109 free m')) → Pick free U (j + 1) j := by
          intro hah
          refine .inr ⟨j, rfl, by omega, hu', fun c hc hcu => ?_⟩
          by_cases e : c = j
          · exact .inl e
          · rcases h4 c (by omega) hcu with rfl | h5
            · exact .inr hah
            · exact .inr (ahead_trans hah h5)
        have nturn : ¬ ahead35 (cv (rd_T109 free j)) (cv (rd_T109 free m')) → Pick free U (j + 1) m' := fun hah => keep m' rfl h2 h3 h4 (fun _ => (ahead_or hne).resolve_right hah)
        by_cases c1 : (rd_T109 free (j : Int)).f2 > (rd_T109 free (m' : Int)).f2
        · exact go j (turn (.inl c1)) (fun k => by rw [base, if_neg hu, if_neg (by omega), if_pos (by omega), if_pos (by omega), if_pos c1])
        · by_cases c2 : (rd_T109 free (j : Int)).f2 = (rd_T109 free (m' : Int)).f2
          · by_cases c3 : Op.bytesLess ((rd_T109 free (j : Int)).f0.toList) ((rd_T109 free (m' : Int)).f0.toList) = true
            · exact go j (turn (.inr ⟨c2.symm, (bless_iff _ _).1 c3⟩)) (fun k => by rw [base, if_neg hu, if_neg (by omega), if_pos (by omega), if_pos (by omega), if_neg c1, if_pos c2, if_pos c3])
            · refine go m' (nturn ?_) (fun k => by rw [base, if_neg hu, if_neg (by omega), if_pos (by omega), if_pos (by omega), if_neg c1, if_pos c2, if_neg c3])
              rintro (h5 | ⟨_, h5⟩)
              · exact c1 h5
              · exact c3 ((bless_iff _ _).2 h5)
          · refine go m' (nturn ?_) (fun k => by rw [base, if_neg hu, if_neg (by omega), if_pos (by omega), if_pos (by omega), if_neg c1, if_neg c2])
            rintro (h5 | ⟨h5, _⟩)
            · exact c1 h5
            · exact c2 h5.symm
def Used (free : List S109) (U : List Bool) (i : Nat) : Prop := U.length = free.length ∧ ∀ c (hc : c < free.length), U.getD c false = true ↔ cv free[c] ∈ (srt (free.map cv)).take i
def refGreedyOf (req : Int) (pool : List S109) (wd : List ByteArray) (free : List S109) : List S109 × List S109 × Int × Bool :=
  if 0 < (grd (srt (free.map cv)) (missZ req (pool.map cv) wd)).2 then ([], [], 0, false)
  else ((grd (srt (free.map cv)) (missZ req (pool.map cv) wd)).1.map vc, relR pool wd, keptZ (pool.map cv) wd + sumZ (grd (srt (free.map cv)) (missZ req (pool.map cv) wd)).1, true)
set_option maxRecDepth 100000 in
theorem greedy_outer (h : Passed req (pool.map cv) wd (free.map cv)) : ∀ (r i : Nat), i + r = free.length → ∀ U, Used free U i → (∀ j, j < i → 0 < missZ req (pool.map cv) wd - sumZ ((srt (free.map cv)).take j)) →
    ∀ k, 300 * r + 300 < k → giroref35_Greedy.l0 k U req pool wd free (((srt (free.map cv)).take i).map vc) (relR pool wd) (keptZ (pool.map cv) wd + sumZ ((srt (free.map cv)).take i)) = some (refGreedyOf req pool wd free) := by
  intro r
  induction r with
  | zero =>
    intro i hi U hU hpos k hk
    have hlen : (srt (free.map cv)).length = free.length := by rw [srt_len, List.length_map]
    have hl := h.lens
    simp only [List.length_map] at hl
    have hF : Fine (srt (free.map cv)) := fun p hp => h.fineFree p (srt_mem.1 hp)
    have hs := sumZ_nonneg (l := (srt (free.map cv)).take i) (fun p hp => hF p (List.mem_of_mem_take hp))
    have hm : missZ req (pool.map cv) wd = mx 0 (req - keptZ (pool.map cv) wd) := rfl
    obtain ⟨k, rfl⟩ : ∃ m, k = m + 1 := ⟨k - 1, by omega⟩
    rw [giroref35_Greedy.l0]
    by_cases hv : keptZ (pool.map cv) wd + sumZ ((srt (free.map cv)).take i) < req
    · rw [if_pos hv]
      have hg := grd_stop (srt (free.map cv)) (missZ req (pool.map cv) wd) i (by omega) hpos (.inl (by omega))
      have h0 : 0 < missZ req (pool.map cv) wd - sumZ ((srt (free.map cv)).take i) := by rw [hm]; unfold mx; split <;> omega
      obtain ⟨q, hq, hstep⟩ := pick_loop (req := req) (pool := pool) (wd := wd) (apart_of_ck h.ckFree) (by omega) hU.1 (((srt (free.map cv)).take i).map vc) (relR pool wd) (keptZ (pool.map cv) wd + sumZ ((srt (free.map cv)).take i)) free.length 0 (-1) (by omega) (.inl ⟨rfl, fun c hc => by omega⟩)
      obtain ⟨k, rfl⟩ : ∃ m, k = (m + 1) + free.length := ⟨k - 1 - free.length, by omega⟩
      have := hstep (k + 1)
      simp only [Int.natCast_zero] at this
      rw [this]
      have hq1 : q = -1 := by
        rcases hq with ⟨h1, _⟩ | ⟨m, _, h2, h3, _⟩
        · exact h1
        · have := (hU.2 m h2).2 (by
            rw [List.take_of_length_le (by omega)]
            exact srt_mem.2 (List.mem_map.2 ⟨_, List.getElem_mem h2, rfl⟩))
          rw [h3] at this; cases this
      subst hq1
      rw [giroref35_Greedy.l1, if_neg (by omega), if_pos (by decide), refGreedyOf, hg, if_pos h0]
    · rw [if_neg hv]
      have h0 : missZ req (pool.map cv) wd - sumZ ((srt (free.map cv)).take i) ≤ 0 := by rw [hm]; unfold mx; split <;> omega
      have hg := grd_stop (srt (free.map cv)) (missZ req (pool.map cv) wd) i (by omega) hpos (.inr h0)
      rw [refGreedyOf, hg, if_neg (by simp only []; omega)]
  | succ r ih =>
    intro i hi U hU hpos k hk
    have hlen : (srt (free.map cv)).length = free.length := by rw [srt_len, List.length_map]
    have hl := h.lens
    simp only [List.length_map] at hl
    have hF : Fine (srt (free.map cv)) := fun p hp => h.fineFree p (srt_mem.1 hp)
    have hs := sumZ_nonneg (l := (srt (free.map cv)).take i) (fun p hp => hF p (List.mem_of_mem_take hp))
    have hm : missZ req (pool.map cv) wd = mx 0 (req - keptZ (pool.map cv) wd) := rfl
    have hilt : i < (srt (free.map cv)).length := by omega
    obtain ⟨k, rfl⟩ : ∃ m, k = m + 1 := ⟨k - 1, by omega⟩
    rw [giroref35_Greedy.l0]
    by_cases hv : keptZ (pool.map cv) wd + sumZ ((srt (free.map cv)).take i) < req
    · rw [if_pos hv]
      have h0 : 0 < missZ req (pool.map cv) wd - sumZ ((srt (free.map cv)).take i) := by rw [hm]; unfold mx; split <;> omega
      have hap := apart_of_ck h.ckFree
      obtain ⟨q, hq, hstep⟩ := pick_loop (req := req) (pool := pool) (wd := wd) hap (by omega) hU.1 (((srt (free.map cv)).take i).map vc) (relR pool wd) (keptZ (pool.map cv) wd + sumZ ((srt (free.map cv)).take i)) free.length 0 (-1) (by omega) (.inl ⟨rfl, fun c hc => by omega⟩)
      obtain ⟨k, rfl⟩ : ∃ m, k = (m + 1) + free.length := ⟨k - 1 - free.length, by omega⟩
      have := hstep (k + 1)
      simp only [Int.natCast_zero] at this
      rw [this]
      have hk' : 300 * r + 300 < k := by omega

      have hnin : (srt (free.map cv))[i] ∉ (srt (free.map cv)).take i := by
        have hss := srt_sorted hap
        rw [List.pairwise_iff_getElem] at hss
        intro hmm
        obtain ⟨j, hj, e⟩ := List.mem_take_iff_getElem.1 hmm
        have := hss j i (by omega) hilt (by omega)
        rw [e] at this
        exact ahead_irrefl _ this
      obtain ⟨c0, hc0, e0⟩ : ∃ c, ∃ hc : c < free.length, cv free[c] = (srt (free.map cv))[i] := by
        obtain ⟨c, hc, e⟩ := List.getElem_of_mem (srt_mem.1 (List.getElem_mem hilt))
        rw [List.getElem_map] at e
        exact ⟨c, by simpa using hc, e⟩
      rcases hq with ⟨_, hall⟩ | ⟨m, rfl, hml, hmu, hmb⟩
      · exact absurd ((hU.2 c0 hc0).1 (hall c0 hc0)) (by rw [e0]; exact hnin)
      · have hmn : cv free[m] ∉ (srt (free.map cv)).take i := fun hmm => by rw [(hU.2 m hml).2 hmm] at hmu; cases hmu
        have hnext : cv free[m] = (srt (free.map cv))[i] := by
          refine next_of hap hilt (List.mem_map.2 ⟨_, List.getElem_mem hml, rfl⟩) hmn ?_
          intro p hp hpn
          obtain ⟨x, hx, rfl⟩ := List.mem_map.1 hp
          obtain ⟨c, hc, rfl⟩ := List.getElem_of_mem hx
          have hcu : U.getD c false = false := by
            cases hh : U.getD c false with
            | false => rfl
            | true => exact absurd ((hU.2 c hc).1 hh) hpn
          rcases hmb c hc hcu with rfl | h5
          · exact .inl rfl
          · rw [rd109 hml, rd109 hc] at h5; exact .inr h5
        have htk : (srt (free.map cv)).take (i + 1) = (srt (free.map cv)).take i ++ [cv free[m]] := by
          rw [List.take_succ_eq_append_getElem hilt, hnext]
        have hp2 := h.fineFree (cv free[m]) (List.mem_map.2 ⟨_, List.getElem_mem hml, rfl⟩)
        have hsum : sumZ ((srt (free.map cv)).take (i + 1)) = sumZ ((srt (free.map cv)).take i) + (cv free[m]).f2 := by rw [htk, sumZ_append]; simp [sumZ]
        have hfe : (cv free[m]).f2 = free[m].f2 := rfl
        have hkr := h.keptR
        have htl : ((srt (free.map cv)).take i).length ≤ 256 := by rw [List.length_take]; omega
        simp only [MaxZ] at hkr hp2 hs
        rw [giroref35_Greedy.l1, if_neg (by omega), if_neg (by omega), if_pos (by omega), if_pos (by rw [hU.1]; omega), if_pos (by omega), if_pos (by rw [List.length_map]; omega), rd109 hml, Int.toNat_natCast, w64b _ (by show _ ≤ _ ∧ keptZ (pool.map cv) wd + sumZ ((srt (free.map cv)).take i) + (cv free[m]).f2 ≤ _; omega)]
        have e1 : ((srt (free.map cv)).take i).map vc ++ [(⟨free[m].f0, free[m].f1, free[m].f2⟩ : S109)] = ((srt (free.map cv)).take (i + 1)).map vc := by
          rw [htk, List.map_append]; rfl
        have e2 : keptZ (pool.map cv) wd + sumZ ((srt (free.map cv)).take i) + free[m].f2 = keptZ (pool.map cv) wd + sumZ ((srt (free.map cv)).take (i + 1)) := by rw [hsum, hfe]; omega
        rw [e1, e2]
        refine ih (i + 1) (by omega) (U.set m true) ⟨by rw [List.length_set]; exact hU.1, fun c hc => ?_⟩ ?_ k hk'
        · rw [htk, List.mem_append, List.mem_singleton, ← hU.2 c hc]
          by_cases e : c = m
          · subst e
            have : (U.set c true).getD c false = true := by simp [List.getD_eq_getElem?_getD, hU.1, hc]
            exact ⟨fun _ => .inr rfl, fun _ => this⟩
          · have : (U.set m true).getD c false = U.getD c false := by simp [List.getD_eq_getElem?_getD, List.getElem?_set, Ne.symm e]
            rw [this]
            constructor
            · exact .inl
            · rintro (h5 | h5)
              · exact h5
              · have hne := hap c m (by simpa using hc) (by simpa using hml) e
                rw [List.getElem_map, List.getElem_map, h5] at hne
                exact absurd rfl hne
        · intro j hj
          by_cases e : j = i
          · subst e; exact h0
          · exact hpos j (by omega)
    · rw [if_neg hv]
      have h0 : missZ req (pool.map cv) wd - sumZ ((srt (free.map cv)).take i) ≤ 0 := by rw [hm]; unfold mx; split <;> omega
      have hg := grd_stop (srt (free.map cv)) (missZ req (pool.map cv) wd) i (by omega) hpos (.inr h0)
      rw [refGreedyOf, hg, if_neg (by simp only []; omega)]
theorem refGreedy_some (h : Passed req (pool.map cv) wd (free.map cv)) {k : Nat} (hk : 100000 < k) : giroref35_Greedy.f k req pool wd free = some (refGreedyOf req pool wd free) := by
  have hl := h.lens
  simp only [List.length_map] at hl
  have := greedy_outer h free.length 0 (by omega) (List.replicate free.length false) ⟨by simp, fun c hc => by simp [List.getD_eq_getElem?_getD, hc]⟩ (fun j hj => by omega) k (by omega)
  simp only [List.take_zero, List.map_nil, show sumZ [] = 0 from rfl, Int.add_zero] at this
  rw [giroref35_Greedy.f, released_some h (by omega), Option.bind_some, rkept_some h (by omega), Option.bind_some, if_pos (by omega), if_pos (by omega), Int.toNat_natCast, this]
end
theorem grd_len : ∀ (S : List S35) (m : Int), (grd S m).1.length ≤ S.length
  | [], m => by simp [grd]
  | p :: t, m => by
    rw [grd]
    split
    · simp
    · have := grd_len t (m - p.f2); simp only [List.length_cons]; omega
theorem known_some : girolaw35_known.f = some true := rfl
theorem greedy_pure (req : Int) (pool : List S109) (wd : List ByteArray) (free : List S109) : girolaw35_SubstitutionGreedy.f 200000 req pool wd free = some true := by
  have jt : girolaw35_SubstitutionGreedy.j0 200000 true req pool wd free = some true := by
    rw [show (200000 : Nat) = 199999 + 1 from rfl, girolaw35_SubstitutionGreedy.j0, if_pos rfl, known_some]; rfl
  rw [girolaw35_SubstitutionGreedy.f, known_some, Option.bind_some, if_pos rfl]
  have hfew : girolaw35_few.f req pool wd free = some (decide (pool.length ≤ 12) && decide (wd.length ≤ 12) && decide (free.length ≤ 12)) := by
    unfold girolaw35_few.f
    by_cases h1 : pool.length ≤ 12
    · rw [if_pos (by omega)]
      by_cases h2 : wd.length ≤ 12
      · rw [if_pos (by omega)]; simp [h1, h2]; omega
      · rw [if_neg (by omega)]; simp [h2]
    · rw [if_neg (by omega)]; simp [h1]
  rw [hfew, Option.bind_some]
  split
  · rename_i hf
    simp only [Bool.and_eq_true, decide_eq_true_eq] at hf
    rw [rcheck_some (by omega), Option.bind_some]
    by_cases hc : chk req (pool.map cv) wd (free.map cv) = 0
    · have h := passed hc
      rw [hc, show ((0 : Int) != 0) = false from rfl, show (200000 : Nat) = 199999 + 1 from rfl, girolaw35_SubstitutionGreedy.j0, if_neg (by simp), gof_some (by omega) (by omega) (by omega) (by omega), Option.bind_some]
      simp only []
      have hg := grd_len (srt (free.map cv)) (missZ req (pool.map cv) wd)
      rw [srt_len, List.length_map] at hg
      by_cases h0 : 0 < (grd (srt (free.map cv)) (missZ req (pool.map cv) wd)).2
      · have eg : substitution_Greedy.f req (pool.map cv) wd (free.map cv) = some ([], [], 0, 25) := by rw [substitution_Greedy.f, greedyOf, if_neg (show ¬ chk req (pool.map cv) wd (free.map cv) ≠ 0 by simpa using hc), if_pos h0]
        have er : refGreedyOf req pool wd free = ([], [], 0, false) := by rw [refGreedyOf, if_pos h0]
        rw [eg, Option.bind_some, refGreedy_some h (by omega), er, Option.bind_some]
        simp only []
        rw [if_pos (by decide), if_neg (by decide), if_pos trivial, gto_some (by simp) (by simp) (by omega), Option.bind_some]
        simp only [List.map_nil]
        rw [same_refl (by simp) (by simp) (by omega)]
        rfl
      · have eg : substitution_Greedy.f req (pool.map cv) wd (free.map cv) = some ((grd (srt (free.map cv)) (missZ req (pool.map cv) wd)).1, outOf (pool.map cv) wd, keptZ (pool.map cv) wd + sumZ (grd (srt (free.map cv)) (missZ req (pool.map cv) wd)).1, 0) := by rw [substitution_Greedy.f, greedyOf, if_neg (show ¬ chk req (pool.map cv) wd (free.map cv) ≠ 0 by simpa using hc), if_neg h0]
        have er : refGreedyOf req pool wd free = ((grd (srt (free.map cv)) (missZ req (pool.map cv) wd)).1.map vc, relR pool wd, keptZ (pool.map cv) wd + sumZ (grd (srt (free.map cv)) (missZ req (pool.map cv) wd)).1, true) := by rw [refGreedyOf, if_neg h0]
        have hol : (outOf (pool.map cv) wd).length ≤ 4096 := by rw [outOf_length]; omega
        rw [eg, Option.bind_some, refGreedy_some h (by omega), er, Option.bind_some]
        simp only []
        rw [if_pos (by decide), if_pos trivial, gto_some (by omega) hol (by omega), Option.bind_some]
        simp only []
        rw [show (outOf (pool.map cv) wd).map vc = relR pool wd from rfl, same_refl (by simp; omega) (by simp [relR, outOf]; omega) (by omega)]
        rfl
    · rw [show (chk req (pool.map cv) wd (free.map cv) != 0) = true by simpa using hc]
      exact jt
  · exact jt
end Go.Proofs.YtoanlppfdniiaaaGreatDoor.Q
end
