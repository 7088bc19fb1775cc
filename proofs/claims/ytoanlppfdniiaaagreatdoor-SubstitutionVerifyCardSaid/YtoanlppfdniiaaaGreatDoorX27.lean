/- A part of the proof; no condition. -/
import Derived.Test.YtoanlppfdniiaaaGreatDoorX17
import Derived.Test.YtoanlppfdniiaaaGreatDoorX26
section
namespace Go.Proofs.YtoanlppfdniiaaaGreatDoor.Q
set_option linter.unusedVariables false
set_option linter.unusedSimpArgs false
open Go.RowKit Go.Proofs.YtoanlppfdniiaaaGreatDoorW.PrintWords Go.Proofs.YtoanlppfdniiaaaGreatDoorW.PrintLast Go.Proofs.YtoanlppfdniiaaaGreatDoorW.PrintMore
theorem heap35 : Kd.Heap k35 := Kd.heap_iso _ (Kd.heap_pair Kd.heap_string (Kd.heap_pair (Kd.heap_int _) (Kd.heap_int _)))
theorem below_two {B B' : Nat} {w w1 w2 : World} (h : Below B w w1) (k : Below B' w1 w2) (hB : B ≤ B') : Below B w w2 :=
  ⟨k.os.trans h.os, k.tape.trans h.tape, k.output.trans h.output, Nat.le_trans h.size k.size, fun i hi => (k.block i (by omega)).trans (h.block i hi)⟩
theorem w64_ (n : Int) (h : -9223372036854775808 ≤ n ∧ n ≤ 9223372036854775807) : wrap64 n = n := by unfold wrap64; omega
def leB (x y : S35) : Bool := !ltOf cf35 y x
def srt (l : List S35) : List S35 := l.mergeSort leB
theorem leB_trans (a b c : S35) (h1 : leB a b = true) (h2 : leB b c = true) : leB a c = true := by
  unfold leB at *
  simp only [Bool.not_eq_true'] at *
  exact swo35.ntrans _ _ _ h2 h1
theorem leB_total (a b : S35) : (leB a b || leB b a) = true := by
  unfold leB
  by_cases h : ltOf cf35 b a = true
  · have : ltOf cf35 a b = false := by
      by_cases h2 : ltOf cf35 a b = true
      · have := swo35.trans _ _ _ h h2
        rw [swo35.irrefl] at this; simp at this
      · simpa using h2
    simp [this]
  · simp at h; simp [h]
def Parted (l : List S35) : Prop := ∀ a ∈ l, ∀ b ∈ l, a.f0.toList = b.f0.toList → a = b
theorem srt_unique {l l' : List S35} (hd : Parted l) (hp : l'.Perm l) (hs : ∀ i j (hi : i < l'.length) (hj : j < l'.length), i < j → ¬ ahead35 l'[j] l'[i]) : l' = srt l := by
  refine List.Perm.eq_of_pairwise (le := fun a b => leB a b = true) ?_ ?_ (List.pairwise_mergeSort leB_trans leB_total l) (hp.trans (List.mergeSort_perm l leB).symm)
  · intro a b ha hb h1 h2
    have ha' := hp.mem_iff.1 ha
    have hb' := (List.mergeSort_perm l leB).mem_iff.1 hb
    unfold leB at h1 h2
    simp only [Bool.not_eq_true'] at h1 h2
    have h1 := (mt (lt35 b a).2) (by simp [h1])
    have h2 := (mt (lt35 a b).2) (by simp [h2])
    unfold ahead35 at h1 h2
    rw [not_or] at h1 h2
    have e : a.f2 = b.f2 := by omega
    refine hd a ha' b hb' (List.le_antisymm (List.not_lt.1 fun h => h1.2 ⟨e, h⟩) (List.not_lt.1 fun h => h2.2 ⟨e.symm, h⟩))
  · rw [List.pairwise_iff_getElem]
    intro i j hi hj hij
    have := hs i j hi hj hij
    rw [← lt35] at this
    unfold leB
    simpa using this
theorem ck_each {l : List S35} : ∀ {i : Nat}, i ≤ l.length → ckTo l i = 0 → ∀ j (hj : j < l.length), j < i → ckP (l.take j) l[j] = 0
  | i + 1, hi, h, j, hj, hji => by
    have h0 : ckTo l i = 0 := by
      by_cases e : ckTo l i = 0
      · exact e
      · rw [ckTo, if_neg e] at h; exact h
    by_cases e : j = i
    · subst e
      rw [ckTo, if_pos h0, rd35 hj] at h
      exact h
    · exact ck_each (by omega) h0 j hj (by omega)
theorem ck_apart {l : List S35} (h : ckTo l l.length = 0) : ∀ i j (hi : i < l.length) (hj : j < l.length), i < j → l[i].f0.toList ≠ l[j].f0.toList := by
  intro i j hi hj hij he
  have h1 := ck_each (Nat.le_refl _) h j hj hj
  unfold ckP at h1
  split at h1
  · omega
  · split at h1
    · omega
    · split at h1
      · omega
      · split at h1
        · omega
        · rename_i h5
          apply h5
          unfold hasB
          rw [List.any_eq_true]
          refine ⟨l[i].f0, List.mem_map.2 ⟨l[i], ?_, rfl⟩, by simpa using he⟩
          rw [List.mem_take_iff_getElem]
          exact ⟨i, by omega, rfl⟩
theorem ck_parted {l : List S35} (h : ckTo l l.length = 0) : Parted l := by
  intro a ha b hb he
  obtain ⟨i, hi, rfl⟩ := List.getElem_of_mem ha
  obtain ⟨j, hj, rfl⟩ := List.getElem_of_mem hb
  rcases Nat.lt_trichotomy i j with h1 | h1 | h1
  · exact absurd he (ck_apart h i j hi hj h1)
  · subst h1; rfl
  · exact absurd he.symm (ck_apart h j i hj hi h1)
def grd : List S35 → Int → List S35 × Int
  | [], m => ([], m)
  | p :: t, m => if m ≤ 0 then ([], m) else (p :: (grd t (m - p.f2)).1, (grd t (m - p.f2)).2)
theorem grd_stop : ∀ (S : List S35) (m : Int) (i : Nat), i ≤ S.length → (∀ j, j < i → 0 < m - sumZ (S.take j)) → (i = S.length ∨ m - sumZ (S.take i) ≤ 0) → grd S m = (S.take i, m - sumZ (S.take i))
  | [], m, 0, _, _, _ => by simp [grd, sumZ]
  | p :: t, m, 0, _, _, h => by
    rcases h with h | h
    · simp at h
    · simp [sumZ] at h; rw [grd, if_pos h]; simp [sumZ]
  | p :: t, m, i + 1, hi, hp, h => by
    have h0 := hp 0 (by omega)
    have h0 : ¬ m ≤ 0 := by simp [sumZ] at h0; omega
    have e : ∀ j, m - sumZ ((p :: t).take (j + 1)) = (m - p.f2) - sumZ (t.take j) := fun j => by simp [sumZ]; omega
    have := grd_stop t (m - p.f2) i (by simpa using hi) (fun j hj => by rw [← e]; exact hp (j + 1) (by omega)) (by rw [← e]; rcases h with h | h; exact .inl (by simpa using h); exact .inr h)
    rw [grd, if_neg h0, this, ← e]
    rfl
def greedyOf (req : Int) (pool : List S35) (wd : List ByteArray) (free : List S35) : List S35 × List S35 × Int × Int :=
  if chk req pool wd free ≠ 0 then ([], [], 0, chk req pool wd free)
  else if 0 < (grd (srt free) (missZ req pool wd)).2 then ([], [], 0, 25)
  else ((grd (srt free) (missZ req pool wd)).1, outOf pool wd, keptZ pool wd + sumZ (grd (srt free) (missZ req pool wd)).1, 0)
def substitution_Greedy.f (a0_0 : Int) (l0_1 : List S35) (l0_2 : List ByteArray) (l0_3 : List S35) : Option (List S35 × List S35 × Int × Int) := some (greedyOf a0_0 l0_1 l0_2 l0_3)
theorem size28 : (Tryz.prog.info? 28).map (·.size) = some 3 := by kernel_rfl
set_option maxHeartbeats 4000000 in
set_option maxRecDepth 100000 in
theorem substitution_Greedy.calls (a0_0 : Int) (A0_1 : Option Addr) (c0_1 : Nat) (l0_1 : List (S35)) (A0_2 : Option Addr) (c0_2 : Nat) (l0_2 : List ByteArray) (A0_3 : Option Addr) (c0_3 : Nat) (l0_3 : List (S35)) (r1 r2 : List S35) (r3 r4 : Int) (w : World) (hr0_1 : Kd.C k35 w A0_1 l0_1.length l0_1) (hc0_1 : l0_1.length ≤ c0_1) (hr0_2 : Kd.C Kd.string w A0_2 l0_2.length l0_2) (hc0_2 : l0_2.length ≤ c0_2) (hr0_3 : Kd.C k35 w A0_3 l0_3.length l0_3) (hc0_3 : l0_3.length ≤ c0_3) (h : substitution_Greedy.f a0_0 l0_1 l0_2 l0_3 = some (r1, r2, r3, r4)) :
    Calls Tryz.prog 9 #[.agg #[.int .i64 a0_0, .slice A0_1 l0_1.length c0_1, .slice A0_2 l0_2.length c0_2, .slice A0_3 l0_3.length c0_3]] w fun e w' => ∃ v0_ v1_ : Value, e = .returned (.tuple #[.agg #[v0_, v1_, .int .i64 r3], .int .i64 r4]) ∧ Kd.R k35 35 w' w.heap.size (fun k_ => some k_ ≠ (v1_ : Value).ownBlock) v0_ r1 ∧ Kd.R k35 35 w' w.heap.size (fun k_ => some k_ ≠ (v0_ : Value).ownBlock) v1_ r2 ∧ Below w.heap.size w w' := by
  have HR1 := Aside0.mk hr0_1
  have HR2 := Aside0.mk hr0_2
  have HR3 := Aside0.mk hr0_3
  have HC1 := Aside0.mk hc0_1
  have HC2 := Aside0.mk hc0_2
  have HC3 := Aside0.mk hc0_3
  have V := fun r1 r2 wq (hb : Below w.heap.size w wq) h => substitution_Shortfall.calls 300 a0_0 A0_1 c0_1 l0_1 A0_2 c0_2 l0_2 A0_3 c0_3 l0_3 r1 r2 wq (Kd.C_below HR1.out hb) hc0_1 (Kd.C_below HR2.out hb) hc0_2 (Kd.C_below HR3.out hb) hc0_3 h
  rw [shortfall_some (by omega)] at V
  have h := Option.some.inj h
  unfold greedyOf at h
  clear hr0_1 hr0_2 hr0_3 hc0_1 hc0_2 hc0_3
  by_cases d1 : chk a0_0 l0_1 l0_2 l0_3 = 0
  · rw [if_neg (by simpa using d1)] at h
    rw [if_pos d1] at V
    have HP := Aside0.mk (passed d1)
    have V := fun wq hb => V _ _ wq hb rfl
    clear d1
    obtain ⟨S, hS⟩ : ∃ S, S = srt l0_3 := ⟨_, rfl⟩
    obtain ⟨m, hm⟩ : ∃ m, m = missZ a0_0 l0_1 l0_2 := ⟨_, rfl⟩
    rw [← hS, ← hm] at h
    rw [← hm] at V
    have HS := Aside0.mk hS
    have HH := Aside0.mk h
    have HSL : Aside0 (S.length ≤ 256 ∧ S.Perm l0_3) := ⟨by
      have hp : S.Perm l0_3 := hS ▸ List.mergeSort_perm l0_3 leB
      have := HP.out.lens
      exact ⟨by rw [hp.length_eq]; omega, hp⟩⟩
    have HSF : Aside0 (Fine S) := ⟨fun p hp => HP.out.fineFree p (HSL.out.2.mem_iff.1 hp)⟩
    have HM : Aside0 (0 ≤ m ∧ m ≤ 257 * MaxZ) := ⟨by
      have h1 := HP.out.keptR
      have h2 := HP.out.req1
      rw [hm]; unfold missZ mx; simp only [MaxZ] at *; split <;> omega⟩
    have hl3 := HP.out.lens.2.2
    have VC := fun wq (hb : Below w.heap.size w wq) => clone_calls A0_3 c0_3 l0_3 wq (Kd.C_below HR3.out hb) (by omega)
    clear hS hm h
    go_enter Tryz.func9, Tryz.ntmps9
    go_wp2_with (first | ((with_reducible refine gate_dst (N := 1) rfl ?_); refine box_event ?hg (N := 1) ?hd (cs := #[.int .i64 a0_0, .slice A0_1 l0_1.length c0_1, .slice A0_2 l0_2.length c0_2, .slice A0_3 l0_3.length c0_3]) (t := 25) ?hr ?_; (case hd => rfl); (case hg => rfl); (case hr => first | (go_simp; done) | (go_simp; rfl)); intro gb hg w1 hbox hb; have HB1 := Aside0.mk hb; have HX1 := Aside0.mk hbox; have HG1 := Aside0.mk (show w.heap.size ≤ gb by rw [hg]; exact Nat.le_refl _); clear hb hbox hg) | ((with_reducible refine gate_dst (N := 2) rfl ?_); refine box_event ?hg (N := 2) ?hd (cs := #[.slice none 0 0, .slice none 0 0, .int .i64 0]) (t := 28) ?hr ?_; (case hd => rfl); (case hg => rfl); (case hr => first | (go_simp; done) | (go_simp; rfl)); intro g2 hg w2 hbox hb; have HB2 := Aside0.mk (below_step HB1.out hb); have HX2 := Aside0.mk (blk_below HX1.out hb); have HY2 := Aside0.mk hbox; have HG2 := Aside0.mk (show w.heap.size ≤ g2 by rw [hg]; exact HB1.out.size); have HN := Aside0.mk (show gb ≠ g2 by rw [hg]; exact Nat.ne_of_lt (blk_lt HX1.out)); clear hb hbox hg; have hz0 := (blk_cell HX2.out 0).trans (show _ = some (.int .i64 a0_0) from rfl); have hz1 := (blk_cell HX2.out 1).trans (show _ = some (.slice A0_1 l0_1.length c0_1) from rfl); have hz2 := (blk_cell HX2.out 2).trans (show _ = some (.slice A0_2 l0_2.length c0_2) from rfl); have hz3 := (blk_cell HX2.out 3).trans (show _ = some (.slice A0_3 l0_3.length c0_3) from rfl)) | (go_at_call 28; (with_reducible refine (V _ ?hb).mono ?_); (case hb => exact HB2.out); rintro e w3 ⟨rfl, hq⟩; have HB3 := Aside0.mk (below_step HB2.out hq); have HX3 := Aside0.mk (blk_below HX2.out hq); have HY3 := Aside0.mk (blk_below HY2.out hq); clear hq; have hw0 := (blk_cell HX3.out 0).trans (show _ = some (.int .i64 a0_0) from rfl); have hw1 := (blk_cell HX3.out 1).trans (show _ = some (.slice A0_1 l0_1.length c0_1) from rfl); have hw2 := (blk_cell HX3.out 2).trans (show _ = some (.slice A0_2 l0_2.length c0_2) from rfl); have hw3 := (blk_cell HX3.out 3).trans (show _ = some (.slice A0_3 l0_3.length c0_3) from rfl); have hy0 := (blk_cell HY3.out 0).trans (show _ = some (.slice none 0 0) from rfl); have fhy0 := blk_frozen HY3.out 0; have hy1 := (blk_cell HY3.out 1).trans (show _ = some (.slice none 0 0) from rfl); have fhy1 := blk_frozen HY3.out 1; have hy2 := (blk_cell HY3.out 2).trans (show _ = some (.int .i64 0) from rfl); have fhy2 := blk_frozen HY3.out 2) | (go_at_call 33; (with_reducible refine (VC _ ?hb).mono ?_); (case hb => exact HB3.out); rintro e w4 ⟨v4, rfl, ho, hq⟩; have HO4 := Aside0.mk ho; have HL3 := Aside0.mk hq.size; have HB4 := Aside0.mk (below_step HB3.out hq); have HX4 := Aside0.mk (blk_below HX3.out hq); have HY4 := Aside0.mk (blk_below HY3.out hq); clear ho hq) | (go_at_call 34; (refine (sorted_calls w3.heap.size v4 l0_3 w4 (by omega) ?hR ?hB).mono ?_); (case hR => exact HO4.out); (case hB => exact HL3.out); rintro e w5 ⟨rfl, l', A, c, rfl, hlc, hp, hs, hC, hq⟩; have HB5 := Aside0.mk (below_two HB4.out hq HB3.out.size); have HX5 := Aside0.mk ((hq.block gb (blk_lt HX3.out)).trans HX4.out); have HY5 := Aside0.mk ((hq.block g2 (blk_lt HY3.out)).trans HY4.out); have hl' := (srt_unique (ck_parted HP.out.ckFree) hp hs).trans HS.out.symm; have HC := Aside0.mk hC; clear hq hC hp hs))
    replace hl' := hl'.symm
    subst hl'
    have HBW := Aside0.mk HB5.out
    have HF5 : Aside0 (w.heap.size ≤ w5.heap.size ∧ gb < w5.heap.size ∧ g2 < w5.heap.size) := ⟨HB5.out.size, blk_lt HX5.out, blk_lt HY5.out⟩
    have HCL := Aside0.mk hlc
    clear hlc
    go_loopg [4, 7, 26] S.length (fun kq v4 v7 v26 w' => ∃ i : Nat, v26 = .int .i64 i ∧ v4 = .int .i64 (m - sumZ (S.take i)) ∧ Aside0 (i + kq = S.length) ∧ Aside0 (∀ j, j < i → 0 < m - sumZ (S.take j)) ∧ Aside0 (k35.R 35 w' w5.heap.size (fun k => w.heap.size ≤ k ∧ k ≠ gb ∧ k ≠ g2) v7 (S.take i)) ∧ Aside0 (Below w5.heap.size w5 w'))
    case atStart => exact ⟨0, rfl, by simp [sumZ], ⟨by omega⟩, ⟨by omega⟩, ⟨Kd.R_nil _ _ _ _ _⟩, ⟨Below.refl _ _⟩⟩
    case round =>
      obtain ⟨i, rfl, rfl, HI, HPOS, HO, HB⟩ := hrel
      have hk := HI.out
      obtain ⟨x, hx⟩ : ∃ x, x = m - sumZ (S.take i) := ⟨_, rfl⟩
      rw [← hx]
      have HXX := Aside0.mk hx
      have hbnd := sumZ_nonneg (l := S.take i) (fun p hp => HSF.out p (List.mem_of_mem_take hp))
      have hlt2 : (S.take i).length ≤ 256 := by have := HSL.out.1; rw [List.length_take]; omega
      have hmm := HM.out
      have hx0 : -257000000000000000 ≤ x ∧ x ≤ 257000000000000000 := by simp only [MaxZ] at hbnd hmm; omega
      clear hx hbnd hmm
      have HXr := Aside0.mk (blk_below HX5.out HB.out)
      have HYr := Aside0.mk (blk_below HY5.out HB.out)
      have HBr := Aside0.mk (below_two HBW.out HB.out HF5.out.1)
      by_cases hle : x ≤ 0
      · have HG : Aside0 (grd S m = (S.take i, x)) := ⟨by rw [HXX.out]; exact grd_stop S m i (by omega) HPOS.out (.inr (by rw [← HXX.out]; exact hle))⟩
        have hgt : ¬ x > 0 := by omega
        have HH2 : Aside0 ((S.take i, outOf l0_1 l0_2, keptZ l0_1 l0_2 + sumZ (S.take i), (0 : Int)) = (r1, r2, r3, r4)) := ⟨by have := HH.out; rw [HG.out] at this; rw [if_neg (by simpa using hle)] at this; exact this⟩
        by_cases hlt : i < S.length
        · have c1 : decide ((i : Int) < S.length) = true := by simpa using hlt
          obtain ⟨ad, rfl, hx0, hx1, hx2⟩ := at_T35 HC.out (i : Int) (by omega) (by omega)
          replace hx0 := cell_later HB.out hx0
          replace hx1 := cell_later HB.out hx1
          replace hx2 := cell_later HB.out hx2
          simp only [Int.toNat_natCast] at hx0 hx1 hx2
          obtain ⟨p, hp⟩ : ∃ p, p = rd_T35 S i := ⟨_, rfl⟩
          rw [← hp] at hx0 hx1 hx2
          have HPE := Aside0.mk hp
          clear hp
          have VP := fun wq (hb : Below wr.heap.size wr wq) => substitution_Request_plan.calls 300 a0_0 A0_1 c0_1 l0_1 A0_2 c0_2 l0_2 A0_3 c0_3 l0_3 (fun k => w.heap.size ≤ k ∧ k ≠ gb ∧ k ≠ g2) u7 (S.take i) _ _ _ w wq (below_step HBr.out hb) (Kd.C_kept_came heap35 HR1.out (below_step HBr.out hb) (fun k hk => hk.1)) HC1.out (Kd.C_kept_came Kd.heap_string HR2.out (below_step HBr.out hb) (fun k hk => hk.1)) HC2.out (Kd.C_kept_came heap35 HR3.out (below_step HBr.out hb) (fun k hk => hk.1)) HC3.out (Kd.R_below (Kd.R_lower HO.out HF5.out.1) hb) (plan_some HP.out (fun p hp => HSF.out p (List.mem_of_mem_take hp)) hlt2 (by omega))
          have hzr0 := (blk_cell HXr.out 0).trans (show _ = some (.int .i64 a0_0) from rfl); have hzr1 := (blk_cell HXr.out 1).trans (show _ = some (.slice A0_1 l0_1.length c0_1) from rfl); have hzr2 := (blk_cell HXr.out 2).trans (show _ = some (.slice A0_2 l0_2.length c0_2) from rfl); have hzr3 := (blk_cell HXr.out 3).trans (show _ = some (.slice A0_3 l0_3.length c0_3) from rfl)
          have hza0 := fun o => (blk_cell (blk_alloc HXr.out o) 0).trans (show _ = some (.int .i64 a0_0) from rfl); have hza1 := fun o => (blk_cell (blk_alloc HXr.out o) 1).trans (show _ = some (.slice A0_1 l0_1.length c0_1) from rfl); have hza2 := fun o => (blk_cell (blk_alloc HXr.out o) 2).trans (show _ = some (.slice A0_2 l0_2.length c0_2) from rfl); have hza3 := fun o => (blk_cell (blk_alloc HXr.out o) 3).trans (show _ = some (.slice A0_3 l0_3.length c0_3) from rfl)
          have hh := HH2.out
          cases hh
          go_wp2_with (first | (go_at_call 39; (refine (VP _ ?hb).mono ?_); (case hb => first | exact below_alloc (Below.refl _ _) _ | exact Below.refl _ _); rintro e w6 ⟨v0, v1, rfl, h0, h1, hb, hk⟩; obtain ⟨Aa, na, ca, rfl⟩ := (show ∃ A n c, v0 = .slice A n c from (Kd.R_slice h0).elim fun A h => h.elim fun c h => ⟨A, _, c, h⟩); obtain ⟨Ab, nb, cb, rfl⟩ := (show ∃ A n c, v1 = .slice A n c from (Kd.R_slice h1).elim fun A h => h.elim fun c h => ⟨A, _, c, h⟩); have HY6 := Aside0.mk (blk_kept (blk_alloc HYr.out _) hk (fun h => h.2.2 rfl)); have H0 := Aside0.mk h0; have H1 := Aside0.mk h1; have HB6 := Aside0.mk hb; clear h0 h1 hb hk; have hyy0 := (blk_cell HY6.out 0).trans (show _ = some (.slice none 0 0) from rfl); have fhyy0 := blk_frozen HY6.out 0; have hyy1 := (blk_cell HY6.out 1).trans (show _ = some (.slice none 0 0) from rfl); have fhyy1 := blk_frozen HY6.out 1; have hyy2 := (blk_cell HY6.out 2).trans (show _ = some (.int .i64 0) from rfl); have fhyy2 := blk_frozen HY6.out 2))
          have HY := HY6.out
          refine bodyPost_ret (results_row2 rfl _ _ g2 28 #[.slice Aa na ca, .slice Ab nb cb, .int .i64 (keptZ l0_1 l0_2 + sumZ (S.take i))] (0, 0) _ rfl (blk_put (blk_put (blk_put HY 0 _ rfl) 1 _ rfl) 2 _ rfl) Tryz.underlying28 rfl size28) rfl ?_
          exact ⟨_, _, rfl, Kd.R_mono (Kd.R_far (p := ⟨g2, 2, none⟩) (Kd.R_far (p := ⟨g2, 1, none⟩) (Kd.R_far (p := ⟨g2, 0, none⟩) (Kd.R_types H0.out HY (by decide)) (fun _ hk => hk.2) _) (fun _ hk => hk.2) _) (fun _ hk => hk.2) _) (fun _ hk => hk.1.2), Kd.R_mono (Kd.R_far (p := ⟨g2, 2, none⟩) (Kd.R_far (p := ⟨g2, 1, none⟩) (Kd.R_far (p := ⟨g2, 0, none⟩) (Kd.R_types H1.out HY (by decide)) (fun _ hk => hk.2) _) (fun _ hk => hk.2) _) (fun _ hk => hk.2) _) (fun _ hk => hk.1.2), below_set (below_set (below_set HB6.out HG2.out) HG2.out) HG2.out⟩
        · have c1 : decide ((i : Int) < S.length) = false := by simpa using hlt
          have VP := fun wq (hb : Below wr.heap.size wr wq) => substitution_Request_plan.calls 300 a0_0 A0_1 c0_1 l0_1 A0_2 c0_2 l0_2 A0_3 c0_3 l0_3 (fun k => w.heap.size ≤ k ∧ k ≠ gb ∧ k ≠ g2) u7 (S.take i) _ _ _ w wq (below_step HBr.out hb) (Kd.C_kept_came heap35 HR1.out (below_step HBr.out hb) (fun k hk => hk.1)) HC1.out (Kd.C_kept_came Kd.heap_string HR2.out (below_step HBr.out hb) (fun k hk => hk.1)) HC2.out (Kd.C_kept_came heap35 HR3.out (below_step HBr.out hb) (fun k hk => hk.1)) HC3.out (Kd.R_below (Kd.R_lower HO.out HF5.out.1) hb) (plan_some HP.out (fun p hp => HSF.out p (List.mem_of_mem_take hp)) hlt2 (by omega))
          have hzr0 := (blk_cell HXr.out 0).trans (show _ = some (.int .i64 a0_0) from rfl); have hzr1 := (blk_cell HXr.out 1).trans (show _ = some (.slice A0_1 l0_1.length c0_1) from rfl); have hzr2 := (blk_cell HXr.out 2).trans (show _ = some (.slice A0_2 l0_2.length c0_2) from rfl); have hzr3 := (blk_cell HXr.out 3).trans (show _ = some (.slice A0_3 l0_3.length c0_3) from rfl)
          have hh := HH2.out
          cases hh
          go_wp2_with (first | (go_at_call 39; (refine (VP _ ?hb).mono ?_); (case hb => first | exact below_alloc (Below.refl _ _) _ | exact Below.refl _ _); rintro e w6 ⟨v0, v1, rfl, h0, h1, hb, hk⟩; obtain ⟨Aa, na, ca, rfl⟩ := (show ∃ A n c, v0 = .slice A n c from (Kd.R_slice h0).elim fun A h => h.elim fun c h => ⟨A, _, c, h⟩); obtain ⟨Ab, nb, cb, rfl⟩ := (show ∃ A n c, v1 = .slice A n c from (Kd.R_slice h1).elim fun A h => h.elim fun c h => ⟨A, _, c, h⟩); have HY6 := Aside0.mk (blk_kept (HYr.out) hk (fun h => h.2.2 rfl)); have H0 := Aside0.mk h0; have H1 := Aside0.mk h1; have HB6 := Aside0.mk hb; clear h0 h1 hb hk; have hyy0 := (blk_cell HY6.out 0).trans (show _ = some (.slice none 0 0) from rfl); have fhyy0 := blk_frozen HY6.out 0; have hyy1 := (blk_cell HY6.out 1).trans (show _ = some (.slice none 0 0) from rfl); have fhyy1 := blk_frozen HY6.out 1; have hyy2 := (blk_cell HY6.out 2).trans (show _ = some (.int .i64 0) from rfl); have fhyy2 := blk_frozen HY6.out 2))
          have HY := HY6.out
          refine bodyPost_ret (results_row2 rfl _ _ g2 28 #[.slice Aa na ca, .slice Ab nb cb, .int .i64 (keptZ l0_1 l0_2 + sumZ (S.take i))] (0, 0) _ rfl (blk_put (blk_put (blk_put HY 0 _ rfl) 1 _ rfl) 2 _ rfl) Tryz.underlying28 rfl size28) rfl ?_
          exact ⟨_, _, rfl, Kd.R_mono (Kd.R_far (p := ⟨g2, 2, none⟩) (Kd.R_far (p := ⟨g2, 1, none⟩) (Kd.R_far (p := ⟨g2, 0, none⟩) (Kd.R_types H0.out HY (by decide)) (fun _ hk => hk.2) _) (fun _ hk => hk.2) _) (fun _ hk => hk.2) _) (fun _ hk => hk.1.2), Kd.R_mono (Kd.R_far (p := ⟨g2, 2, none⟩) (Kd.R_far (p := ⟨g2, 1, none⟩) (Kd.R_far (p := ⟨g2, 0, none⟩) (Kd.R_types H1.out HY (by decide)) (fun _ hk => hk.2) _) (fun _ hk => hk.2) _) (fun _ hk => hk.2) _) (fun _ hk => hk.1.2), below_set (below_set (below_set HB6.out HG2.out) HG2.out) HG2.out⟩
      · by_cases hlt : i < S.length
        · have c1 : decide ((i : Int) < S.length) = true := by simpa using hlt
          obtain ⟨ad, rfl, hx0, hx1, hx2⟩ := at_T35 HC.out (i : Int) (by omega) (by omega)
          replace hx0 := cell_later HB.out hx0
          replace hx1 := cell_later HB.out hx1
          replace hx2 := cell_later HB.out hx2
          simp only [Int.toNat_natCast] at hx0 hx1 hx2
          obtain ⟨p, hp⟩ : ∃ p, p = rd_T35 S i := ⟨_, rfl⟩
          rw [← hp] at hx0 hx1 hx2
          have HPE := Aside0.mk hp
          clear hp
          have hza0 := fun o => (blk_cell (blk_alloc HXr.out o) 0).trans (show _ = some (.int .i64 a0_0) from rfl)
          have hps : sumZ (S.take (i + 1)) = sumZ (S.take i) + p.f2 := by
            rw [List.take_succ_eq_append_getElem hlt, sumZ_append, HPE.out, rd35 hlt]; simp [sumZ]
          have htk : S.take (i + 1) = S.take i ++ [p] := by rw [List.take_succ_eq_append_getElem hlt, HPE.out, rd35 hlt]
          have hp2 : 0 ≤ p.f2 ∧ p.f2 ≤ MaxZ := by rw [HPE.out, rd35 hlt]; exact HSF.out _ (List.getElem_mem hlt)
          simp only [MaxZ] at hp2
          have hw1 : wrap64 (x - p.f2) = x - p.f2 := w64_ _ (by omega)
          have hw2 : IntKind.i64.wrap (x - p.f2) = x - p.f2 := by rw [i64_w, hw1]
          have HTK := Aside0.mk htk
          have HPS := Aside0.mk hps
          have hS256 := HSL.out.1
          have HFR : Aside0 (∀ k, (wr.alloc (.cells #[.string p.f0, .int .i64 p.f1, .int .i64 p.f2] 35)).heap.size ≤ k → w.heap.size ≤ k ∧ k ≠ gb ∧ k ≠ g2) := ⟨fun k hk => by
            have h1 := HF5.out
            have h2 := HB.out.size
            rw [World.size_alloc] at hk
            exact ⟨by omega, by omega, by omega⟩⟩
          have HSZ := Aside0.mk (show w5.heap.size ≤ (wr.alloc (.cells #[.string p.f0, .int .i64 p.f1, .int .i64 p.f2] 35)).heap.size by rw [World.size_alloc]; have := HB.out.size; omega)
          have HLN := Aside0.mk hlt2
          clear htk hps hp2 hlt2
          have hlx : ¬ x ≤ 0 := hle
          go_wp2_with (first | ((with_reducible refine gate_builtin (b := .append) (xs := #[.tmp 32, .tmp 34]) rfl ?_); at_builtin; refine Kd.R_append k35 (w0 := w5) w5.heap.size rfl (.tmp 32) (.tmp 34) 22 35 _ 32 rfl Tryz.underlying22 info35 rfl (by decide) (by omega) u7 (S.take i) p [.string p.f0, .int .i64 p.f1, .int .i64 p.f2] (fun k => w.heap.size ≤ k ∧ k ≠ gb ∧ k ≠ g2) (fun _ => False) rfl ?hx ?aP (fun _ hk => hk.elim) ?aF ?aO ?aB ?aS ?aL ?_; (case hx => (rw [World.size_alloc]; rfl)); (case aP => exact k35_mkM _ _ _ _); (case aF => exact HFR.out); (case aO => exact Kd.R_alloc HO.out _); (case aB => exact HB.out.alloc HB.out.size _); (case aS => exact HSZ.out); (case aL => have := HLN.out; omega); intro v6 w6 ho hb hg hat; have HO6 := Aside0.mk ho; have HB6 := Aside0.mk hb; have HC6 := Aside0.mk (blk_grown (blk_new wr _) hg (fun e => absurd (Kd.R_lt HO.out _ e.symm) (Nat.lt_irrefl _))); clear ho hb hg hat; have hd2 := blk_cell HC6.out 2))
          go_roundg (gk - 1)
          case measure => omega
          case rel => exact ⟨i + 1, by go_num, by rw [HPS.out, HXX.out]; first | rfl | (congr 1; omega), ⟨by omega⟩, ⟨fun j hj => by
            by_cases e : j = i
            · subst e; rw [← HXX.out]; omega
            · exact HPOS.out j (by omega)⟩, ⟨by rw [HTK.out]; exact HO6.out⟩, HB6⟩
        · have c1 : decide ((i : Int) < S.length) = false := by simpa using hlt
          have HG : Aside0 (grd S m = (S.take i, x)) := ⟨by rw [HXX.out]; exact grd_stop S m i (by omega) HPOS.out (.inl (by omega))⟩
          have HH2 : Aside0 (([], [], (0 : Int), (25 : Int)) = (r1, r2, r3, r4)) := ⟨by have := HH.out; rw [HG.out] at this; rw [if_pos (by simp only []; omega)] at this; exact this⟩
          have hh := HH2.out
          cases hh
          have hyr0 := (blk_cell HYr.out 0).trans (show _ = some (.slice none 0 0) from rfl); have fhyr0 := blk_frozen HYr.out 0; have hyr1 := (blk_cell HYr.out 1).trans (show _ = some (.slice none 0 0) from rfl); have fhyr1 := blk_frozen HYr.out 1; have hyr2 := (blk_cell HYr.out 2).trans (show _ = some (.int .i64 0) from rfl); have fhyr2 := blk_frozen HYr.out 2
          go_wp2
          have HY := HYr.out
          refine bodyPost_ret (results_row2 rfl _ _ g2 28 #[.slice none 0 0, .slice none 0 0, .int .i64 0] (0, 0) _ rfl (blk_put (blk_put (blk_put HY 0 _ rfl) 1 _ rfl) 2 _ rfl) Tryz.underlying28 rfl size28) rfl ?_
          exact ⟨_, _, rfl, Kd.R_nil _ _ _ _ _, Kd.R_nil _ _ _ _ _, below_set (below_set (below_set HBr.out HG2.out) HG2.out) HG2.out⟩
  · rw [if_pos d1] at h
    rw [if_neg d1] at V
    generalize chk a0_0 l0_1 l0_2 l0_3 = e at d1 h V
    have V := fun wq hb => V _ _ wq hb rfl
    have d1' : (e != 0) = true := by simpa using d1
    cases h
    go_enter Tryz.func9, Tryz.ntmps9
    go_wp2_with (first | ((with_reducible refine gate_dst (N := 1) rfl ?_); refine box_event ?hg (N := 1) ?hd (cs := #[.int .i64 a0_0, .slice A0_1 l0_1.length c0_1, .slice A0_2 l0_2.length c0_2, .slice A0_3 l0_3.length c0_3]) (t := 25) ?hr ?_; (case hd => rfl); (case hg => rfl); (case hr => first | (go_simp; done) | (go_simp; rfl)); intro gb hg w1 hbox hb; have HB1 := Aside0.mk hb; have HX1 := Aside0.mk hbox; have HG1 := Aside0.mk (show w.heap.size ≤ gb by rw [hg]; exact Nat.le_refl _); clear hb hbox hg) | ((with_reducible refine gate_dst (N := 2) rfl ?_); refine box_event ?hg (N := 2) ?hd (cs := #[.slice none 0 0, .slice none 0 0, .int .i64 0]) (t := 28) ?hr ?_; (case hd => rfl); (case hg => rfl); (case hr => first | (go_simp; done) | (go_simp; rfl)); intro g2 hg w2 hbox hb; have HB2 := Aside0.mk (below_step HB1.out hb); have HX2 := Aside0.mk (blk_below HX1.out hb); have HY2 := Aside0.mk hbox; have HG2 := Aside0.mk (show w.heap.size ≤ g2 by rw [hg]; exact HB1.out.size); have HN := Aside0.mk (show gb ≠ g2 by rw [hg]; exact Nat.ne_of_lt (blk_lt HX1.out)); clear hb hbox hg; have hz0 := (blk_cell HX2.out 0).trans (show _ = some (.int .i64 a0_0) from rfl); have hz1 := (blk_cell HX2.out 1).trans (show _ = some (.slice A0_1 l0_1.length c0_1) from rfl); have hz2 := (blk_cell HX2.out 2).trans (show _ = some (.slice A0_2 l0_2.length c0_2) from rfl); have hz3 := (blk_cell HX2.out 3).trans (show _ = some (.slice A0_3 l0_3.length c0_3) from rfl)) | (go_at_call 28; (with_reducible refine (V _ ?hb).mono ?_); (case hb => exact HB2.out); rintro e w3 ⟨rfl, hq⟩; have HB3 := Aside0.mk (below_step HB2.out hq); have HX3 := Aside0.mk (blk_below HX2.out hq); have HY3 := Aside0.mk (blk_below HY2.out hq); clear hq; have hw0 := (blk_cell HX3.out 0).trans (show _ = some (.int .i64 a0_0) from rfl); have hw1 := (blk_cell HX3.out 1).trans (show _ = some (.slice A0_1 l0_1.length c0_1) from rfl); have hw2 := (blk_cell HX3.out 2).trans (show _ = some (.slice A0_2 l0_2.length c0_2) from rfl); have hw3 := (blk_cell HX3.out 3).trans (show _ = some (.slice A0_3 l0_3.length c0_3) from rfl); have hy0 := (blk_cell HY3.out 0).trans (show _ = some (.slice none 0 0) from rfl); have fhy0 := blk_frozen HY3.out 0; have hy1 := (blk_cell HY3.out 1).trans (show _ = some (.slice none 0 0) from rfl); have fhy1 := blk_frozen HY3.out 1; have hy2 := (blk_cell HY3.out 2).trans (show _ = some (.int .i64 0) from rfl); have fhy2 := blk_frozen HY3.out 2))
    have HY := HY3.out
    refine bodyPost_ret (results_row2 rfl _ _ g2 28 #[.slice none 0 0, .slice none 0 0, .int .i64 0] (0, 0) _ rfl (blk_put (blk_put (blk_put HY 0 _ rfl) 1 _ rfl) 2 _ rfl) Tryz.underlying28 rfl size28) rfl ?_
    exact ⟨_, _, rfl, Kd.R_nil _ _ _ _ _, Kd.R_nil _ _ _ _ _, below_set (below_set (below_set HB3.out HG2.out) HG2.out) HG2.out⟩
end Go.Proofs.YtoanlppfdniiaaaGreatDoor.Q
end
