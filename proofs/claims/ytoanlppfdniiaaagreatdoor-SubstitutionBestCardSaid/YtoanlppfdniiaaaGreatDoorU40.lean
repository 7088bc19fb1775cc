/- A part of the proof, joined by a program of this session out of its texts; no condition. -/
import Derived.Test.YtoanlppfdniiaaaGreatDoorU4
import Derived.Test.YtoanlppfdniiaaaGreatDoorU26
import Derived.Test.YtoanlppfdniiaaaGreatDoorU35
import Derived.Test.YtoanlppfdniiaaaGreatDoorU37
import Derived.Test.YtoanlppfdniiaaaGreatDoorU39
section
namespace Go.Proofs.YtoanlppfdniiaaaGreatDoor.Q
set_option linter.unusedVariables false
set_option linter.unusedSimpArgs false
open Go.RowKit Go.Proofs.YtoanlppfdniiaaaGreatDoorW.PrintWords Go.Proofs.YtoanlppfdniiaaaGreatDoorW.PrintLast Go.Proofs.YtoanlppfdniiaaaGreatDoorW.PrintMore
open SelMath (Inc lexLt lexLt_dec ext sel sel_mem sel_sorted tails_ext Ahead Top bitIdx bitIdx_inc bit_mem idxFrom)
theorem bit_all : ((List.range 1024).all fun b => (List.range 10).all fun i => decide (Go.bits .and .i64 (shr .i64 (b : Nat) (i : Nat)) 1 = 1) == b.testBit i) = true := by kernel_rfl
theorem shl_all : ((List.range 11).all fun n => decide (shl .i64 1 (n : Nat) = ((2 ^ n : Nat) : Int))) = true := by kernel_rfl
theorem bit_one {b i : Nat} (hb : b < 1024) (hi : i < 10) : (Go.bits .and .i64 (shr .i64 (b : Int) (i : Int)) 1 = 1) ↔ b.testBit i = true := by
  have h := List.all_eq_true.1 (List.all_eq_true.1 bit_all b (List.mem_range.2 hb)) i (List.mem_range.2 hi)
  simp only [beq_iff_eq] at h
  rw [← h, decide_eq_true_eq]
theorem shl_one {n : Nat} (hn : n ≤ 10) : shl .i64 1 (n : Int) = ((2 ^ n : Nat) : Int) := by
  have h := List.all_eq_true.1 shl_all n (List.mem_range.2 (by omega))
  simpa using h
theorem sels_sel (N : Nat) : sels N = sel N := by
  rw [sels, sel, tails_ext (tails := tails) (fun _ _ => rfl) (fun _ _ _ => rfl)]
  simp
theorem idxFrom_snoc (p : Nat → Bool) : ∀ n lo, idxFrom p lo (n + 1) = idxFrom p lo n ++ (if p (lo + n) = true then [((lo + n : Nat) : Int)] else [])
  | 0, lo => by simp [idxFrom]
  | n + 1, lo => by
    rw [idxFrom, idxFrom_snoc p n (lo + 1), show lo + 1 + n = lo + (n + 1) by omega, idxFrom]
    split <;> simp
def at109 (free : List S109) (x : List Int) : List S109 := x.map (rd_T109 free)
theorem at109_cv (free : List S109) (x : List Int) : (at109 free x).map cv = pickOf (free.map cv) x := by
  simp only [at109, pickOf, List.map_map]
  exact List.map_congr_left fun i _ => (rd35_cv free i).symm
def valOf (free : List S109) (x : List Int) : Int := sumZ (pickOf (free.map cv) x)
section
variable {req : Int} {pool : List S109} {wd : List ByteArray} {free : List S109}
theorem idxFrom_len (p : Nat → Bool) : ∀ n lo, (idxFrom p lo n).length ≤ n
  | 0, _ => by simp [idxFrom]
  | n + 1, lo => by
    have := idxFrom_len p n (lo + 1)
    rw [idxFrom]; split <;> simp <;> omega
theorem chosen_l0 {b : Nat} (hb : b < 1024) (hl : free.length ≤ 10) : ∀ (n k i : Nat), i + n = free.length → n < k → giroref35_chosen.l0 k b (at109 free (idxFrom b.testBit 0 i)) (idxFrom b.testBit 0 i) i req pool wd free = some (at109 free (bitIdx free.length b), bitIdx free.length b)
  | 0, k + 1, i, h, hk => by
    obtain rfl : i = free.length := by omega
    rw [giroref35_chosen.l0, if_neg (by omega)]
    rfl
  | n + 1, k + 1, i, h, hk => by
    have hi : i < free.length := by omega
    have ih := chosen_l0 hb hl n k (i + 1) (by omega) (by omega)
    have hlen := idxFrom_len b.testBit i 0
    have hlen2 : (at109 free (idxFrom b.testBit 0 i)).length ≤ i := by simp [at109]; exact hlen
    rw [idxFrom_snoc, Nat.zero_add] at ih
    rw [giroref35_chosen.l0, if_pos (by omega), if_pos (by omega)]
    by_cases hbit : b.testBit i = true
    · rw [if_pos ((bit_one hb (by omega)).2 hbit), if_pos (by omega), if_pos (by omega), w64b _ (by omega)]
      rw [if_pos hbit] at ih
      have e : at109 free (idxFrom b.testBit 0 i ++ [((i : Nat) : Int)]) = at109 free (idxFrom b.testBit 0 i) ++ [(⟨(rd_T109 free i).f0, (rd_T109 free i).f1, (rd_T109 free i).f2⟩ : S109)] := by simp [at109]
      rw [e] at ih
      exact ih
    · rw [if_neg (fun h => hbit ((bit_one hb (by omega)).1 h)), w64b _ (by omega)]
      rw [if_neg hbit, List.append_nil] at ih
      exact ih
theorem chosen_some {b : Nat} (hb : b < 1024) (hl : free.length ≤ 10) {k : Nat} (hk : 10 < k) : giroref35_chosen.f k req pool wd free b = some (at109 free (bitIdx free.length b), bitIdx free.length b) :=
  chosen_l0 hb hl free.length k 0 (by omega) (by omega)
theorem less_l0 {a c : List Int} (hl : a.length ≤ 4096) (he : a.length = c.length) : ∀ (n k i : Nat), i + n = a.length → n < k → giroref35_less.l0 k a c i = some (decide (lexLt (a.drop i) (c.drop i)))
  | 0, k + 1, i, h, hk => by
    obtain rfl : i = a.length := by omega
    rw [giroref35_less.l0, if_neg (by omega), List.drop_of_length_le (Nat.le_refl _), decide_eq_false (fun h => h : ¬ lexLt [] (c.drop a.length))]
  | n + 1, k + 1, i, h, hk => by
    have hi : i < a.length := by omega
    have hi2 : i < c.length := by omega
    have r1 : rd a (i : Int) = a[i] := by simp [rd, List.getElem?_eq_getElem hi]
    have r2 : rd c (i : Int) = c[i] := by simp [rd, List.getElem?_eq_getElem hi2]
    rw [giroref35_less.l0, if_pos (by omega), if_pos (by omega), if_pos (by omega), r1, r2, List.drop_eq_getElem_cons hi, List.drop_eq_getElem_cons hi2]
    by_cases e : a[i] = c[i]
    · rw [if_pos e, w64b _ (by omega)]
      have ih := less_l0 hl he n k (i + 1) (by omega) (by omega)
      rw [show ((i : Int) + 1) = ((i + 1 : Nat) : Int) by omega, ih]
      congr 1
      simp [lexLt, e]
    · rw [if_neg e]
      congr 1
      simp [lexLt, e]
theorem less_some {a c : List Int} (hl : a.length ≤ 4096) (he : a.length = c.length) {k : Nat} (hk : a.length < k) : giroref35_less.f k a c = some (decide (lexLt a c)) :=
  less_l0 hl he a.length k 0 (by omega) hk
structure Held (req : Int) (pool : List S109) (wd : List ByteArray) (free : List S109) (o : Option (List Int)) (fd : Bool) (wh : List Int) (p r : List S109) (v : Int) : Prop where
  no : o = none → fd = false ∧ wh = [] ∧ p = [] ∧ r = [] ∧ v = 0
  yes : ∀ x, o = some x → fd = true ∧ wh = x ∧ p = at109 free x ∧ r = relR pool wd ∧ v = keptZ (pool.map cv) wd + valOf free x
theorem inc_len {N : Nat} : ∀ {lo : Nat} {x : List Int}, Inc N lo x → x.length + lo ≤ N ∨ x = []
  | _, [], _ => .inr rfl
  | lo, j :: t, ⟨m, h1, h2, h3, h4⟩ => by
    left
    rcases inc_len h4 with h5 | h5
    · simp only [List.length_cons]; omega
    · subst h5; simp only [List.length_cons, List.length_nil]; omega
theorem inc_le {N : Nat} {x : List Int} (h : Inc N 0 x) : x.length ≤ N := by
  rcases inc_len h with h | h
  · omega
  · subst h; simp
theorem inc_lt {N : Nat} : ∀ {lo : Nat} {x : List Int}, Inc N lo x → ∀ j ∈ x, 0 ≤ j ∧ j < N
  | lo, k :: t, ⟨m, h1, h2, h3, h4⟩, j, hj => by
    rcases List.mem_cons.1 hj with rfl | hj
    · omega
    · exact inc_lt h4 j hj
theorem pick_fine {F : List S35} (hF : Fine F) {x : List Int} (hx : Inc F.length 0 x) : Fine (pickOf F x) := by
  intro p hp
  obtain ⟨j, hj, rfl⟩ := List.mem_map.1 hp
  have hv := inc_lt hx j hj
  have e : j = ((j.toNat : Nat) : Int) := by omega
  rw [e, rd35 (by omega)]
  exact hF _ (List.getElem_mem _)
theorem search (h : Passed req (pool.map cv) wd (free.map cv)) (hl : free.length ≤ 10) : ∀ (n b : Nat), b + n = 2 ^ free.length → ∀ (o : Option (List Int)), SelMath.Good (valOf free) (missZ req (pool.map cv) wd) ((List.range b).map (bitIdx free.length)) o →
    ∀ fd wh p r v, Held req pool wd free o fd wh p r v → ∀ k, 3 * n + 1000 < k →
      ∃ o', SelMath.Good (valOf free) (missZ req (pool.map cv) wd) ((List.range (2 ^ free.length)).map (bitIdx free.length)) o' ∧ ∃ fd' wh' p' r' v', Held req pool wd free o' fd' wh' p' r' v' ∧ giroref35_Best.l0 k fd wh b req pool wd free p r v = some (p', r', v', fd') := by
  intro n
  induction n with
  | zero =>
    intro b hb o hg fd wh p r v hh k hk
    obtain ⟨k, rfl⟩ : ∃ m, k = m + 1 := ⟨k - 1, by omega⟩
    obtain rfl : b = 2 ^ free.length := by omega
    refine ⟨o, hg, fd, wh, p, r, v, hh, ?_⟩
    rw [giroref35_Best.l0, shl_one hl, if_neg (by omega)]
  | succ n ih =>
    intro b hb o hg fd wh p r v hh k hk
    obtain ⟨k, rfl⟩ : ∃ m, k = m + 3 := ⟨k - 3, by omega⟩
    have hp10 : 2 ^ free.length ≤ 1024 := Nat.pow_le_pow_right (by omega) hl
    have hlens := h.lens
    simp only [List.length_map] at hlens
    obtain ⟨x, hx⟩ : ∃ x, x = bitIdx free.length b := ⟨_, rfl⟩
    have hinc : Inc (free.map cv).length 0 x := by rw [hx, List.length_map]; exact bitIdx_inc _ _
    have hxl : x.length ≤ 10 := by have := inc_le hinc; rw [List.length_map] at this; omega
    have hfine : Fine (pickOf (free.map cv) x) := pick_fine h.fineFree hinc
    have hval := sumZ_nonneg hfine
    have hpl : (pickOf (free.map cv) x).length ≤ 10 := by simp [pickOf]; exact hxl
    have hal : (at109 free x).length = x.length := by simp [at109]
    have hkr := h.keptR
    have hr0 := h.req0
    have hr1 := h.req1
    simp only [MaxZ] at hval hkr hr1
    have hsum : giroref35_Sum.f (k + 2) (at109 free x) = some (valOf free x) := by
      have := rsum_some (l := at109 free x) (by rw [at109_cv]; exact hfine) (by omega) (k := k + 2) (by omega)
      rw [this, at109_cv]; rfl
    have hv0 : 0 ≤ valOf free x ∧ valOf free x ≤ 10000000000000000 := by unfold valOf; omega
    have hm : missZ req (pool.map cv) wd = mx 0 (req - keptZ (pool.map cv) wd) := rfl
    have hcmp : keptZ (pool.map cv) wd + valOf free x < req ↔ valOf free x < missZ req (pool.map cv) wd := by rw [hm]; unfold mx; split <;> omega
    have hrange : (List.range (b + 1)).map (bitIdx free.length) = (List.range b).map (bitIdx free.length) ++ [x] := by rw [List.range_succ, List.map_append, hx]; rfl
    have next : ∀ o1 fd1 wh1 p1 r1 v1, SelMath.Good (valOf free) (missZ req (pool.map cv) wd) ((List.range b).map (bitIdx free.length) ++ [x]) o1 → Held req pool wd free o1 fd1 wh1 p1 r1 v1 → ∀ k', 3 * n + 1000 < k' → ∃ o', SelMath.Good (valOf free) (missZ req (pool.map cv) wd) ((List.range (2 ^ free.length)).map (bitIdx free.length)) o' ∧ ∃ fd' wh' p' r' v', Held req pool wd free o' fd' wh' p' r' v' ∧ giroref35_Best.l0 k' fd1 wh1 (wrap64 ((b : Int) + 1)) req pool wd free p1 r1 v1 = some (p', r', v', fd') := by
      intro o1 fd1 wh1 p1 r1 v1 hg1 hh1 k' hk'
      rw [w64b _ (by omega)]
      exact ih (b + 1) (by omega) o1 (by rw [hrange]; exact hg1) fd1 wh1 p1 r1 v1 hh1 k' hk'
    have turned : Held req pool wd free (some x) true x (at109 free x) (relR pool wd) (keptZ (pool.map cv) wd + valOf free x) := ⟨fun h => (by cases h), fun y hy => (by cases hy; exact ⟨rfl, rfl, rfl, rfl, rfl⟩)⟩
    rw [giroref35_Best.l0, shl_one hl, if_pos (by omega), chosen_some (by omega) hl (by omega), Option.bind_some]
    simp only []
    rw [← hx, rkept_some h (by omega), Option.bind_some, hsum, Option.bind_some, w64b (keptZ (pool.map cv) wd + valOf free x) (by omega)]
    by_cases c1 : keptZ (pool.map cv) wd + valOf free x < req
    · rw [if_pos c1]
      exact next o fd wh p r v (hg.skip (hcmp.1 c1)) hh (k + 2) (by omega)
    · rw [if_neg c1]
      have c1' : ¬ valOf free x < missZ req (pool.map cv) wd := fun hq => c1 (hcmp.2 hq)
      cases o with
      | none =>
        obtain ⟨rfl, rfl, rfl, rfl, rfl⟩ := hh.no rfl
        rw [if_neg (by simp), giroref35_Best.j1, if_neg (by simp), giroref35_Best.j2, if_neg (by simp), if_pos rfl, released_some h (by omega), Option.bind_some]
        exact next _ _ _ _ _ _ (hg.first c1') turned k (by omega)
      | some y =>
        obtain ⟨rfl, e1, rfl, rfl, rfl⟩ := hh.yes y rfl
        replace e1 := e1.symm
        subst e1
        have hyl : (at109 free y).length = y.length := by simp [at109]
        rw [if_pos rfl, giroref35_Best.j1, if_pos rfl, giroref35_Best.j2]
        by_cases c2 : x.length = y.length
        · rw [if_pos (by rw [beq_iff_eq]; omega)]
          by_cases c3 : valOf free x < valOf free y
          · rw [if_pos (by omega), released_some h (by omega), Option.bind_some]
            exact next _ _ _ _ _ _ (hg.turn c1' (.inr ⟨c2, .inl c3⟩)) turned k (by omega)
          · rw [if_neg (by omega)]
            by_cases c4 : valOf free x = valOf free y
            · rw [if_pos (by omega), less_some (by omega) c2 (by omega), Option.bind_some]
              by_cases c5 : lexLt x y
              · rw [decide_eq_true c5, if_pos rfl, released_some h (by omega), Option.bind_some]
                exact next _ _ _ _ _ _ (hg.turn c1' (.inr ⟨c2, .inr ⟨c4, c5⟩⟩)) turned k (by omega)
              · rw [decide_eq_false c5, if_neg (by simp)]
                refine next _ _ _ _ _ _ (hg.keep ?_) hh k (by omega)
                rintro (h5 | ⟨_, h5 | ⟨_, h5⟩⟩)
                · omega
                · omega
                · exact c5 h5
            · rw [if_neg (by omega)]
              refine next _ _ _ _ _ _ (hg.keep ?_) hh k (by omega)
              rintro (h5 | ⟨_, h5 | ⟨h5, _⟩⟩)
              · omega
              · omega
              · omega
        · rw [if_neg (by rw [beq_iff_eq]; omega)]
          by_cases c3 : x.length < y.length
          · rw [if_pos (decide_eq_true (by omega)), released_some h (by omega), Option.bind_some]
            exact next _ _ _ _ _ _ (hg.turn c1' (.inl c3)) turned k (by omega)
          · rw [if_neg (by simp; omega)]
            refine next _ _ _ _ _ _ (hg.keep ?_) hh k (by omega)
            rintro (h5 | ⟨h5, _⟩)
            · omega
            · omega
theorem best_good (F : List S35) (m : Int) : ∃ o, SelMath.Good (fun x => sumZ (pickOf F x)) m (sel F.length) o ∧ bestSel F m (sels F.length) = (match o with | none => ([], false) | some x => (pickOf F x, true)) := by
  have hw : weigh F m = SelMath.weigh (pickOf F) sumZ m := rfl
  have := SelMath.fold_all (P := pickOf F) (V := sumZ) (m := m) (fun x => by simp [pickOf]) (sel_sorted F.length)
  rw [sels_sel, bestSel, hw]
  rcases this with ⟨h1, h2⟩ | ⟨x, h1, h2⟩
  · exact ⟨none, fun y hy => Int.not_le.1 (h2 y hy), h1⟩
  · exact ⟨some x, h1, h2⟩
theorem refBest_some (h : Passed req (pool.map cv) wd (free.map cv)) (hl : free.length ≤ 10) {k : Nat} (hk : 5000 < k) : ∃ o, bestSel (free.map cv) (missZ req (pool.map cv) wd) (sels (free.map cv).length) = (match o with | none => ([], false) | some x => (pickOf (free.map cv) x, true)) ∧ (∀ x, o = some x → x.length ≤ 10) ∧
    giroref35_Best.f k req pool wd free = some (match o with | none => ([], [], 0, false) | some x => (at109 free x, relR pool wd, keptZ (pool.map cv) wd + valOf free x, true)) := by
  obtain ⟨o, hg, hb⟩ := best_good (free.map cv) (missZ req (pool.map cv) wd)
  have hp10 : 2 ^ free.length ≤ 1024 := Nat.pow_le_pow_right (by omega) hl
  obtain ⟨o', hg', fd, wh, p, r, v, hh, hf⟩ := search h hl (2 ^ free.length) 0 (by omega) none (fun y hy => by simp at hy) false [] [] [] 0 ⟨fun _ => ⟨rfl, rfl, rfl, rfl, rfl⟩, fun x hx => (by cases hx)⟩ k (by omega)
  have e : o = o' := by
    refine SelMath.Good.same (fun x => ?_) hg hg'
    rw [List.length_map]
    exact bit_mem free.length x
  subst e
  refine ⟨o, hb, fun x hx => ?_, ?_⟩
  · subst hx
    have := (sel_mem x).1 hg.1
    have := inc_le this
    rw [List.length_map] at this
    omega
  · rw [giroref35_Best.f]
    have hf' : giroref35_Best.l0 k false [] 0 req pool wd free [] [] 0 = some (p, r, v, fd) := hf
    rw [hf']
    cases o with
    | none => obtain ⟨rfl, rfl, rfl, rfl, rfl⟩ := hh.no rfl; rfl
    | some x => obtain ⟨rfl, e1, rfl, rfl, rfl⟩ := hh.yes x rfl; rfl
end
theorem known_someB : girolaw35_known.f = some true := rfl
theorem best_pure (req : Int) (pool : List S109) (wd : List ByteArray) (free : List S109) : girolaw35_SubstitutionBest.f 200000 req pool wd free = some true := by
  have jt : girolaw35_SubstitutionBest.j0 200000 true req pool wd free = some true := by
    rw [show (200000 : Nat) = 199999 + 1 from rfl, girolaw35_SubstitutionBest.j0, if_pos rfl, known_someB]; rfl
  rw [girolaw35_SubstitutionBest.f, known_someB, Option.bind_some, if_pos rfl]
  have hfew : girolaw35_few.f req pool wd free = some (decide (pool.length ≤ 12) && decide (wd.length ≤ 12) && decide (free.length ≤ 12)) := by
    unfold girolaw35_few.f
    by_cases h1 : pool.length ≤ 12
    · rw [if_pos (by omega)]
      by_cases h2 : wd.length ≤ 12
      · rw [if_pos (by omega)]; simp [h1, h2]; omega
      · rw [if_neg (by omega)]; simp [h2]
    · rw [if_neg (by omega)]; simp [h1]
  rw [hfew, Option.bind_some]
  split
  · rename_i hf
    simp only [Bool.and_eq_true, decide_eq_true_eq] at hf
    by_cases h10 : free.length ≤ 10
    · rw [if_neg (by omega), rcheck_some (by omega), Option.bind_some]
      by_cases hc : chk req (pool.map cv) wd (free.map cv) = 0
      · have h := passed hc
        rw [hc, show ((0 : Int) != 0) = false from rfl, show (200000 : Nat) = 199999 + 1 from rfl, girolaw35_SubstitutionBest.j0, if_neg (by simp), gof_some (by omega) (by omega) (by omega) (by omega), Option.bind_some]
        simp only []
        obtain ⟨o, hb, hol, hr⟩ := refBest_some h h10 (k := 199999) (by omega)
        cases o with
        | none =>
          simp only [] at hb hr
          have eg : substitution_Best.f req (pool.map cv) wd (free.map cv) = some ([], [], 0, 25) := by
            rw [substitution_Best.f, bestOf, if_neg (show ¬ chk req (pool.map cv) wd (free.map cv) ≠ 0 by simpa using hc), if_neg (show ¬ 12 < (free.map cv).length by rw [List.length_map]; omega), hb, if_pos rfl]
          rw [eg, Option.bind_some, hr, Option.bind_some]
          simp only []
          rw [if_pos (by decide), if_neg (by decide), if_pos trivial, gto_some (by simp) (by simp) (by omega), Option.bind_some]
          simp only [List.map_nil]
          rw [same_refl (by simp) (by simp) (by omega)]
          rfl
        | some x =>
          simp only [] at hb hr
          have hx := hol x rfl
          have eg : substitution_Best.f req (pool.map cv) wd (free.map cv) = some (pickOf (free.map cv) x, outOf (pool.map cv) wd, keptZ (pool.map cv) wd + sumZ (pickOf (free.map cv) x), 0) := by
            rw [substitution_Best.f, bestOf, if_neg (show ¬ chk req (pool.map cv) wd (free.map cv) ≠ 0 by simpa using hc), if_neg (show ¬ 12 < (free.map cv).length by rw [List.length_map]; omega), hb, if_neg (show ¬ (pickOf (free.map cv) x, true).2 = false by simp)]
          have hpl : (pickOf (free.map cv) x).length ≤ 4096 := by simp [pickOf]; omega
          have hol : (outOf (pool.map cv) wd).length ≤ 4096 := by rw [outOf_length]; omega
          rw [eg, Option.bind_some, hr, Option.bind_some]
          simp only []
          rw [if_pos (by decide), if_pos trivial, gto_some hpl hol (by omega), Option.bind_some]
          simp only []
          rw [show (outOf (pool.map cv) wd).map vc = relR pool wd from rfl, ← at109_cv, map_vc_cv, show valOf free x = sumZ ((at109 free x).map cv) by rw [at109_cv]; rfl, same_refl (by simp [at109]; omega) (by simp [relR, outOf]; omega) (by omega)]
          rfl
      · rw [show (chk req (pool.map cv) wd (free.map cv) != 0) = true by simpa using hc]
        exact jt
    · rw [if_pos (by omega)]
      exact jt
  · exact jt
end Go.Proofs.YtoanlppfdniiaaaGreatDoor.Q
end
