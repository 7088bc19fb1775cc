/- A part of the proof; no condition. -/
import Derived.Test.YtoanlppfdniiaaaGreatDoorX12
import Derived.Test.YtoanlppfdniiaaaGreatDoorX13
section
namespace Go.Proofs.YtoanlppfdniiaaaGreatDoor.Q
set_option linter.unusedVariables false
set_option linter.unusedSimpArgs false
open Go.RowKit Go.Proofs.YtoanlppfdniiaaaGreatDoorW.PrintWords Go.Proofs.YtoanlppfdniiaaaGreatDoorW.PrintLast Go.Proofs.YtoanlppfdniiaaaGreatDoorW.PrintMore
theorem wrap64_in' (n : Int) (h : -9223372036854775808 ≤ n ∧ n ≤ 9223372036854775807) : wrap64 n = n := by unfold wrap64; omega
def MaxZ : Int := 1000000000000000
def sumZ (l : List S35) : Int := (l.map (·.f2)).sum
def Fine (l : List S35) : Prop := ∀ p ∈ l, 0 ≤ p.f2 ∧ p.f2 ≤ MaxZ
theorem sumZ_nonneg {l : List S35} (h : Fine l) : 0 ≤ sumZ l ∧ sumZ l ≤ l.length * MaxZ := by
  induction l with
  | nil => simp [sumZ]
  | cons p t ih =>
    have h1 := h p (by simp)
    have h2 := ih (fun q hq => h q (by simp [hq]))
    simp only [sumZ, List.map_cons, List.sum_cons, List.length_cons, MaxZ] at *
    omega
theorem sumZ_append (a b : List S35) : sumZ (a ++ b) = sumZ a + sumZ b := by simp [sumZ]
theorem sum_l0 {l : List S35} (hf : Fine l) (hl : l.length ≤ 4096) : ∀ (n k i : Nat) (acc : Int), i + n = l.length → n < k → acc = sumZ (l.take i) → substitution_sum.l0 k acc l l.length i = some (sumZ l)
  | 0, k + 1, i, acc, h, hk, ha => by
    obtain rfl : i = l.length := by omega
    rw [substitution_sum.l0, if_neg (by omega), ha, List.take_length]
  | n + 1, k + 1, i, acc, h, hk, ha => by
    have hi : i < l.length := by omega
    have hs : sumZ (l.take (i + 1)) = acc + (rd_T35 l i).f2 := by
      rw [List.take_succ_eq_append_getElem hi, sumZ_append, ha, (rd35_at hi).2.2]; simp [sumZ]
    have hb := sumZ_nonneg (l := l.take (i + 1)) (fun p hp => hf p (List.mem_of_mem_take hp))
    have hlen : (l.take (i + 1)).length ≤ 4096 := by rw [List.length_take]; omega
    simp only [MaxZ] at hb
    rw [substitution_sum.l0, if_pos (by omega), if_pos (by omega), if_pos (by omega), ← hs, wrap64_in' _ (by omega), wrap64_in' _ (by omega)]
    exact sum_l0 hf hl n k (i + 1) _ (by omega) (by omega) rfl
theorem sum_some {l : List S35} (hf : Fine l) (hl : l.length ≤ 4096) {k : Nat} (hk : l.length < k) : substitution_sum.f k l = some (sumZ l) :=
  sum_l0 hf hl l.length k 0 0 (by omega) hk (by simp [sumZ])
theorem index_l0 {l : List ByteArray} {s : ByteArray} (hl : l.length ≤ 4611686018427387904) : ∀ (n k i : Nat), i + n = l.length → n < k → ∃ r, slices_Index_string_string.l0 k l s l.length i = some r ∧ decide (r ≥ 0) = hasB (l.drop i) s
  | 0, k + 1, i, h, hk => by
    obtain rfl : i = l.length := by omega
    exact ⟨-1, by rw [slices_Index_string_string.l0, if_neg (by omega)], by simp [hasB]⟩
  | n + 1, k + 1, i, h, hk => by
    have hi : i < l.length := by omega
    have he : (rdOf ByteArray.empty l i) = l[i] := by simp [rdOf, List.getElem?_eq_getElem hi]
    rw [slices_Index_string_string.l0, if_pos (by omega), if_pos (by omega), if_pos (by omega), he, List.drop_eq_getElem_cons hi]
    by_cases hs : s.toList = l[i].toList
    · rw [if_pos hs]; exact ⟨i, rfl, by simp only [hasB, List.any_cons, hs, beq_self_eq_true, Bool.true_or]; simp⟩
    · rw [if_neg hs, wrap64_in' _ (by omega)]
      obtain ⟨r, h1, h2⟩ := index_l0 hl n k (i + 1) (by omega) (by omega)
      refine ⟨r, h1, h2.trans ?_⟩
      have hs' : (l[i].toList == s.toList) = false := by simpa using fun h => hs h.symm
      simp only [hasB, List.any_cons, hs', Bool.false_or]
theorem contains_some {l : List ByteArray} {s : ByteArray} (hl : l.length ≤ 4611686018427387904) {k : Nat} (hk : l.length < k) : slices_Contains_string_string.f k l s = some (hasB l s) := by
  obtain ⟨r, h1, h2⟩ := index_l0 (s := s) hl l.length k 0 (by omega) hk
  have h1' : slices_Index_string_string.f k l s = some r := h1
  rw [slices_Contains_string_string.f, h1']
  simpa using h2
theorem inR_iff {n low : Int} : inR n low = true ↔ low ≤ n ∧ n ≤ MaxZ := by simp [inR, MaxZ]
theorem fine_of_ck {l : List S35} : ∀ {i : Nat}, i ≤ l.length → ckTo l i = 0 → Fine (l.take i)
  | 0, _, _ => by intro p hp; simp at hp
  | i + 1, hi, h => by
    have h0 : ckTo l i = 0 := by
      by_cases e : ckTo l i = 0
      · exact e
      · rw [ckTo, if_neg e] at h; exact h
    rw [ckTo, if_pos h0] at h
    rw [List.take_succ_eq_append_getElem (by omega)]
    intro p hp
    rcases List.mem_append.1 hp with hp | hp
    · exact fine_of_ck (by omega) h0 p hp
    · obtain rfl : p = l[i] := by simpa using hp
      rw [← (rd35_at (by omega)).2.2]
      unfold ckP at h
      split at h
      · omega
      · split at h
        · omega
        · split at h
          · omega
          · rename_i h3; exact inR_iff.1 (by simpa using h3)
def wdP (pool free : List S35) (before : List ByteArray) (s : ByteArray) : Int :=
  if fi pool s < 0 then 9 else if 0 ≤ fi free s then 7 else if hasB before s = true then 7 else 0
def wdTo (pool free : List S35) (l : List ByteArray) : Nat → Int
  | 0 => 0
  | k + 1 => if wdTo pool free l k = 0 then wdP pool free (l.take k) (rdOf ByteArray.empty l k) else wdTo pool free l k
theorem wdTo_bad {pool free : List S35} {l : List ByteArray} {i : Nat} (h : wdTo pool free l i ≠ 0) : ∀ j, i ≤ j → wdTo pool free l j = wdTo pool free l i
  | 0, hj => by obtain rfl : i = 0 := by omega
                rfl
  | j + 1, hj => by
    by_cases e : i = j + 1
    · rw [e]
    · have := wdTo_bad h j (by omega)
      rw [wdTo, if_neg (by rw [this]; exact h), this]
def chk (req : Int) (pool : List S35) (wd : List ByteArray) (free : List S35) : Int :=
  if inR req 0 = false then 2
  else if 256 < pool.length ∨ 256 < wd.length ∨ 256 < free.length then 8
  else if ckTo pool pool.length ≠ 0 then ckTo pool pool.length
  else if ckTo free free.length ≠ 0 then ckTo free free.length
  else if wdTo pool free wd wd.length ≠ 0 then wdTo pool free wd wd.length
  else if MaxZ < sumZ pool + sumZ free then 12
  else if sumZ pool < req then 25
  else 0
theorem idx0 (A B : Option Addr) (n c m d : Nat) (w : World) : (Instr.index 119 (.agg #[.slice A n c, .slice B m d]) (.int .i64 0)).run Tryz.prog w = .ok (.slice A n c) w := by kernel_rfl
theorem idx1 (A B : Option Addr) (n c m d : Nat) (w : World) : (Instr.index 119 (.agg #[.slice A n c, .slice B m d]) (.int .i64 1)).run Tryz.prog w = .ok (.slice B m d) w := by kernel_rfl
theorem max_mx (ats : Array TypeId) (ty : TypeId) (k k' k'' : IntKind) (x y z : Int) : Builtin.max_ ats ty #[.int k x, .int k' y, .int k'' z] = pure (.int k (mx (mx x y) z)) := by
  simp only [max_three, max2_int, pure_bind, mx]; rfl
attribute [local go_sem high] max_mx
def substitution_Check.f (a0_0 : Int) (l0_1 : List S35) (l0_2 : List ByteArray) (l0_3 : List S35) : Option Int := some (chk a0_0 l0_1 l0_2 l0_3)
set_option maxHeartbeats 4000000 in
set_option maxRecDepth 100000 in
theorem substitution_Check.calls (a0_0 : Int) (A0_1 : Option Addr) (c0_1 : Nat) (l0_1 : List (S35)) (A0_2 : Option Addr) (c0_2 : Nat) (l0_2 : List ByteArray) (A0_3 : Option Addr) (c0_3 : Nat) (l0_3 : List (S35)) (r : Int) (w : World) (hr0_1 : Kd.C k35 w A0_1 l0_1.length l0_1) (hc0_1 : l0_1.length ≤ c0_1) (hr0_2 : Kd.C Kd.string w A0_2 l0_2.length l0_2) (hc0_2 : l0_2.length ≤ c0_2) (hr0_3 : Kd.C k35 w A0_3 l0_3.length l0_3) (hc0_3 : l0_3.length ≤ c0_3) (h : substitution_Check.f a0_0 l0_1 l0_2 l0_3 = some r) :
    Calls Tryz.prog 29 #[.agg #[.int .i64 a0_0, .slice A0_1 l0_1.length c0_1, .slice A0_2 l0_2.length c0_2, .slice A0_3 l0_3.length c0_3]] w fun e w' => e = .returned (.int .i64 r) ∧ Below w.heap.size w w' := by
  have HR1 := Aside0.mk hr0_1
  have HR2 := Aside0.mk hr0_2
  have HR3 := Aside0.mk hr0_3
  have HC1 := Aside0.mk hc0_1
  have HC2 := Aside0.mk hc0_2
  have HC3 := Aside0.mk hc0_3
  have h := Option.some.inj h
  rw [chk] at h
  have W1 := fun w => within_calls a0_0 0 w
  obtain ⟨n1, hn1⟩ : ∃ n, n = l0_1.length := ⟨_, rfl⟩
  obtain ⟨n2, hn2⟩ : ∃ n, n = l0_2.length := ⟨_, rfl⟩
  obtain ⟨n3, hn3⟩ : ∃ n, n = l0_3.length := ⟨_, rfl⟩
  clear hr0_1 hr0_2 hr0_3 hc0_1 hc0_2 hc0_3
  by_cases d1 : inR a0_0 0 = true
  · rw [d1] at W1
    rw [if_neg (by simp [d1])] at h
    clear d1
    by_cases d2 : 256 < l0_1.length ∨ 256 < l0_2.length ∨ 256 < l0_3.length
    · rw [if_pos d2] at h
      subst h
      have c2 : decide (256 < mx (mx (l0_1.length : Int) (l0_2.length : Int)) (l0_3.length : Int)) = true := by
        have : (256 < mx (mx (l0_1.length : Int) (l0_2.length : Int)) (l0_3.length : Int)) := by unfold mx; split <;> split <;> omega
        simpa using this
      clear d2
      go_enter Tryz.func29, Tryz.ntmps29
      go_wp2_with (first | ((with_reducible refine gate_dst (N := 1) rfl ?_); refine box_event ?hg (N := 1) ?hd (cs := #[.int .i64 a0_0, .slice A0_1 l0_1.length c0_1, .slice A0_2 l0_2.length c0_2, .slice A0_3 l0_3.length c0_3]) (t := 25) ?hr ?_; (case hd => rfl); (case hg => rfl); (case hr => first | (go_simp; done) | (go_simp; rfl)); intro gb hg w1 hbox hb; have HB := Aside0.mk hb; have HX := Aside0.mk hbox; have HG := Aside0.mk (show w.heap.size ≤ gb by rw [hg]; exact Nat.le_refl _); clear hb hbox hg; have hz0 := (blk_cell HX.out 0).trans (show _ = some (.int .i64 a0_0) from rfl); have hz1 := (blk_cell HX.out 1).trans (show _ = some (.slice A0_1 l0_1.length c0_1) from rfl); have hz2 := (blk_cell HX.out 2).trans (show _ = some (.slice A0_2 l0_2.length c0_2) from rfl); have hz3 := (blk_cell HX.out 3).trans (show _ = some (.slice A0_3 l0_3.length c0_3) from rfl)) | (go_at_call 50; (with_reducible refine (W1 _).mono ?_); rintro e w6 ⟨rfl, rfl⟩))
      go_ret
      exact ⟨ret_int rfl, HB.out⟩
    · rw [if_neg d2] at h
      have c2 : decide (256 < mx (mx (l0_1.length : Int) (l0_2.length : Int)) (l0_3.length : Int)) = false := by
        have : ¬ (256 < mx (mx (l0_1.length : Int) (l0_2.length : Int)) (l0_3.length : Int)) := by unfold mx; split <;> split <;> omega
        simpa using this
      have HH := Aside0.mk h
      have LL := Aside0.mk (show l0_1.length ≤ 256 ∧ l0_2.length ≤ 256 ∧ l0_3.length ≤ 256 by omega)
      clear h d2
      have ix0 := idx0 A0_1 A0_3 l0_1.length c0_1 l0_3.length c0_3
      have ix1 := idx1 A0_1 A0_3 l0_1.length c0_1 l0_3.length c0_3
      go_enter Tryz.func29, Tryz.ntmps29
      go_wp2_with (first | ((with_reducible refine gate_dst (N := 1) rfl ?_); refine box_event ?hg (N := 1) ?hd (cs := #[.int .i64 a0_0, .slice A0_1 l0_1.length c0_1, .slice A0_2 l0_2.length c0_2, .slice A0_3 l0_3.length c0_3]) (t := 25) ?hr ?_; (case hd => rfl); (case hg => rfl); (case hr => first | (go_simp; done) | (go_simp; rfl)); intro gb hg w1 hbox hb; have HB := Aside0.mk hb; have HX := Aside0.mk hbox; have HG := Aside0.mk (show w.heap.size ≤ gb by rw [hg]; exact Nat.le_refl _); clear hb hbox hg; have hz0 := (blk_cell HX.out 0).trans (show _ = some (.int .i64 a0_0) from rfl); have hz1 := (blk_cell HX.out 1).trans (show _ = some (.slice A0_1 l0_1.length c0_1) from rfl); have hz2 := (blk_cell HX.out 2).trans (show _ = some (.slice A0_2 l0_2.length c0_2) from rfl); have hz3 := (blk_cell HX.out 3).trans (show _ = some (.slice A0_3 l0_3.length c0_3) from rfl)) | (go_at_call 50; (with_reducible refine (W1 _).mono ?_); rintro e w6 ⟨rfl, rfl⟩))
      go_loopg [32] 2 (fun kq v32 w' => ∃ i : Int, v32 = .int .i64 i ∧ Aside0 (i + kq = 2 ∧ 0 ≤ i) ∧ Aside0 ((0 < i → ckTo l0_1 l0_1.length = 0) ∧ (1 < i → ckTo l0_3 l0_3.length = 0)) ∧ Aside0 (Below w.heap.size w w') ∧ Aside0 (w'.heap[gb]? = some (.cells #[.int .i64 a0_0, .slice A0_1 l0_1.length c0_1, .slice A0_2 l0_2.length c0_2, .slice A0_3 l0_3.length c0_3] 25 (0, 0))))
      case atStart => exact ⟨0, rfl, ⟨by omega, by omega⟩, ⟨by omega, by omega⟩, HB, HX⟩
      case round =>
        clear HB HX hz0 hz1 hz2 hz3
        obtain ⟨i, rfl, HK, HP, HB, HX⟩ := hrel
        have hk := HK.out
        rcases (show i = 0 ∨ i = 1 ∨ i = 2 by omega) with rfl | rfl | rfl
        · have V := fun r h => substitution_checkList.calls A0_1 c0_1 l0_1 r wr (Kd.C_below HR1.out HB.out) HC1.out h
          by_cases e1 : ckTo l0_1 l0_1.length = 0
          · have V := V 0 (by rw [substitution_checkList.f, e1])
            have E1 := Aside0.mk e1
            clear e1
            go_wp2_with (go_at_call 68; refine V.mono ?_; rintro e w5 ⟨rfl, hq⟩; have HB5 := Aside0.mk (below_step HB.out hq); have HX5 := Aside0.mk (blk_below HX.out hq); clear hq)
            go_roundg (gk - 1)
            case measure => omega
            case rel => exact ⟨1, by go_num, ⟨by omega⟩, ⟨fun _ => E1.out, by omega⟩, HB5, HX5⟩
          · have V := V _ rfl
            obtain ⟨x, hx⟩ : ∃ x, x = ckTo l0_1 l0_1.length := ⟨_, rfl⟩
            rw [← hx] at V e1
            have hr : r = x := by rw [← HH.out, if_pos (by rw [← hx]; exact e1), hx]
            subst hr
            clear hx
            go_wp2_with (go_at_call 68; refine V.mono ?_; rintro e w5 ⟨rfl, hq⟩; have HB5 := Aside0.mk (below_step HB.out hq); clear hq)
            go_ret
            exact ⟨ret_int rfl, HB5.out⟩
        · have V := fun r h => substitution_checkList.calls A0_3 c0_3 l0_3 r wr (Kd.C_below HR3.out HB.out) HC3.out h
          by_cases e1 : ckTo l0_3 l0_3.length = 0
          · have V := V 0 (by rw [substitution_checkList.f, e1])
            have E1 := Aside0.mk e1
            clear e1
            go_wp2_with (go_at_call 68; refine V.mono ?_; rintro e w5 ⟨rfl, hq⟩; have HB5 := Aside0.mk (below_step HB.out hq); have HX5 := Aside0.mk (blk_below HX.out hq); clear hq)
            go_roundg (gk - 1)
            case measure => omega
            case rel => exact ⟨2, by go_num, ⟨by omega⟩, ⟨fun _ => HP.out.1 (by omega), fun _ => E1.out⟩, HB5, HX5⟩
          · have V := V _ rfl
            obtain ⟨x, hx⟩ : ∃ x, x = ckTo l0_3 l0_3.length := ⟨_, rfl⟩
            rw [← hx] at V e1
            have hr : r = x := by rw [← HH.out, if_neg (by rw [HP.out.1 (by omega)]; decide), if_pos (by rw [← hx]; exact e1), hx]
            subst hr
            clear hx
            go_wp2_with (go_at_call 68; refine V.mono ?_; rintro e w5 ⟨rfl, hq⟩; have HB5 := Aside0.mk (below_step HB.out hq); clear hq)
            go_ret
            exact ⟨ret_int rfl, HB5.out⟩
        · have hz0 := (blk_cell HX.out 0).trans (show _ = some (.int .i64 a0_0) from rfl); have hz1 := (blk_cell HX.out 1).trans (show _ = some (.slice A0_1 l0_1.length c0_1) from rfl); have hz2 := (blk_cell HX.out 2).trans (show _ = some (.slice A0_2 l0_2.length c0_2) from rfl); have hz3 := (blk_cell HX.out 3).trans (show _ = some (.slice A0_3 l0_3.length c0_3) from rfl)
          have E1 := HP.out.1 (by omega)
          have E3 := HP.out.2 (by omega)
          have HH2 := HH.out
          rw [if_neg (by rw [E1]; decide), if_neg (by rw [E3]; decide)] at HH2
          have HH := Aside0.mk HH2
          have F1 : Aside0 (Fine l0_1) := ⟨by have := fine_of_ck (Nat.le_refl _) E1; rwa [List.take_length] at this⟩
          have F3 : Aside0 (Fine l0_3) := ⟨by have := fine_of_ck (Nat.le_refl _) E3; rwa [List.take_length] at this⟩
          clear HH2 E1 E3
          go_wp2
          go_loopg [44] l0_2.length (fun kq v44 w' => ∃ i : Nat, v44 = .int .i64 i ∧ Aside0 (i + kq = l0_2.length) ∧ Aside0 (wdTo l0_1 l0_3 l0_2 i = 0) ∧ Aside0 (Below w.heap.size w w') ∧ Aside0 (w'.heap[gb]? = some (.cells #[.int .i64 a0_0, .slice A0_1 l0_1.length c0_1, .slice A0_2 l0_2.length c0_2, .slice A0_3 l0_3.length c0_3] 25 (0, 0))))
          case atStart => exact ⟨0, rfl, ⟨by omega⟩, ⟨rfl⟩, HB, HX⟩
          case round =>
            clear HB HX hz0 hz1 hz2 hz3
            obtain ⟨i, rfl, HK, HP, HB, HX⟩ := hrel
            have hk := HK.out
            have hz0 := (blk_cell HX.out 0).trans (show _ = some (.int .i64 a0_0) from rfl); have hz1 := (blk_cell HX.out 1).trans (show _ = some (.slice A0_1 l0_1.length c0_1) from rfl); have hz2 := (blk_cell HX.out 2).trans (show _ = some (.slice A0_2 l0_2.length c0_2) from rfl); have hz3 := (blk_cell HX.out 3).trans (show _ = some (.slice A0_3 l0_3.length c0_3) from rfl)
            have hl2 := LL.out.2.1
            by_cases hlt : i < l0_2.length
            · have c1 : decide ((i : Int) < l0_2.length) = true := by simpa using hlt
              obtain ⟨ad, hA, hx⟩ : ∃ ad, A0_2 = some ad ∧ w.cell? (ad.add i) = some (.string (rdOf ByteArray.empty l0_2 i)) := by
                obtain ⟨ad, h1, h2⟩ := ReadsOf.at_ (d := ByteArray.empty) (Kd.reads_of_C (h1 := fun _ => rfl) HR2.out) (i : Int) (by omega) (by omega)
                exact ⟨ad, h1, by simpa using h2⟩
              subst hA
              replace hx := (HB.out.cell (World.block_lt_of_cell? w _ hx)).trans hx
              have hsn : wdTo l0_1 l0_3 l0_2 (i + 1) = wdP l0_1 l0_3 (l0_2.take i) (rdOf ByteArray.empty l0_2 i) := by rw [wdTo, if_pos HP.out]
              obtain ⟨s, hs⟩ : ∃ s, s = rdOf ByteArray.empty l0_2 i := ⟨_, rfl⟩
              rw [← hs] at hsn hx
              clear hs
              have HSN := Aside0.mk hsn
              have HBAD := Aside0.mk (fun (h : wdTo l0_1 l0_3 l0_2 (i + 1) ≠ 0) => wdTo_bad h l0_2.length (by omega))
              clear hsn
              have V1 := fun r1 r2 r3 r4 wq (hb : Below w.heap.size w wq) h => substitution_find.calls A0_1 c0_1 l0_1 s r1 r2 r3 r4 wq (Kd.C_below HR1.out hb) HC1.out h
              have V2 := fun r1 r2 r3 r4 wq (hb : Below w.heap.size w wq) h => substitution_find.calls A0_3 c0_3 l0_3 s r1 r2 r3 r4 wq (Kd.C_below HR3.out hb) HC3.out h
              by_cases e1 : fi l0_1 s < 0
              · have V1 := fun wq hb => V1 _ _ _ _ wq hb (by rw [substitution_find.f, if_pos e1])
                have e1 : wdTo l0_1 l0_3 l0_2 (i + 1) = 9 := by rw [HSN.out, wdP, if_pos e1]
                have hr : r = 9 := by
                  have e2 := HBAD.out (by rw [e1]; decide)
                  rw [← HH.out, if_pos (by rw [e2, e1]; decide), e2, e1]
                subst hr
                clear e1 HSN HBAD V2
                go_wp2_with (go_at_call 69; refine (V1 _ ?hb).mono ?_; (case hb => exact HB.out); rintro e w5 ⟨rfl, hq⟩; have HB5 := Aside0.mk (below_step HB.out hq); clear hq)
                go_ret
                exact ⟨ret_int rfl, below_alloc HB5.out _⟩
              · have E1 := Aside0.mk e1
                obtain ⟨q, hq⟩ : ∃ q, q = rd_T35 l0_1 (fi l0_1 s) := ⟨_, rfl⟩
                have V1 := fun wq hb => V1 q.f0 q.f1 q.f2 true wq hb (by rw [substitution_find.f, if_neg e1, hq])
                obtain ⟨q0, q1, q2⟩ := q
                dsimp only at V1
                clear hq e1
                by_cases e2 : fi l0_3 s < 0
                · have E2 := Aside0.mk e2
                  have V2 := fun wq hb => V2 _ _ _ _ wq hb (by rw [substitution_find.f, if_pos e2])
                  clear e2
                  have hti : (l0_2.take i).length = i := by rw [List.length_take]; omega
                  have V3 : ∀ wq, Below w.heap.size w wq → Calls Tryz.prog 70 #[.slice (some ad) i c0_2, .string s] wq fun e w' => e = .returned (.bool (hasB (l0_2.take i) s)) ∧ Drawn0 wq w' := fun wq hb => by
                    have := slices_Contains_string_string.calls (i + 1) (some ad) c0_2 (l0_2.take i) s _ wq (Kd.C_take (Kd.C_below HR2.out hb) (by omega)) (by have := HC2.out; omega) (contains_some (by have := LL.out; omega) (by omega))
                    rw [hti] at this
                    exact this
                  have hcap : i ≤ c0_2 := by have := HC2.out; omega
                  clear hti
                  by_cases e3 : hasB (l0_2.take i) s = true
                  · have HE : Aside0 (wdTo l0_1 l0_3 l0_2 (i + 1) = 7) := ⟨by rw [HSN.out, wdP, if_neg E1.out, if_neg (by have := E2.out; omega), if_pos e3]⟩
                    have hr : r = 7 := by
                      have e2 := HBAD.out (by rw [HE.out]; decide)
                      rw [← HH.out, if_pos (by rw [e2, HE.out]; decide), e2, HE.out]
                    subst hr
                    rw [e3] at V3
                    clear e3 HSN HBAD
                    go_wp2_with (first | (go_at_call 69; (with_reducible refine (V1 _ ?hb).mono ?_); (case hb => exact HB.out); rintro e w5 ⟨rfl, hq⟩; have HB5 := Aside0.mk (below_step HB.out hq); have HX5 := Aside0.mk (blk_below HX.out hq); clear hq; have hz0a := fun o => (blk_cell (blk_alloc HX5.out o) 0).trans (show _ = some (.int .i64 a0_0) from rfl); have hz1a := fun o => (blk_cell (blk_alloc HX5.out o) 1).trans (show _ = some (.slice A0_1 l0_1.length c0_1) from rfl); have hz2a := fun o => (blk_cell (blk_alloc HX5.out o) 2).trans (show _ = some (.slice (some ad) l0_2.length c0_2) from rfl); have hz3a := fun o => (blk_cell (blk_alloc HX5.out o) 3).trans (show _ = some (.slice A0_3 l0_3.length c0_3) from rfl)) | (go_at_call 69; (with_reducible refine (V2 _ ?hb).mono ?_); (case hb => exact below_alloc HB5.out _); rintro e w6 ⟨rfl, hq⟩; have HB6 := Aside0.mk (below_step (below_alloc HB5.out _) hq); have HX6 := Aside0.mk (blk_below (blk_alloc HX5.out _) hq); clear hq; have hz0b := fun o => (blk_cell (blk_alloc HX6.out o) 0).trans (show _ = some (.int .i64 a0_0) from rfl); have hz1b := fun o => (blk_cell (blk_alloc HX6.out o) 1).trans (show _ = some (.slice A0_1 l0_1.length c0_1) from rfl); have hz2b := fun o => (blk_cell (blk_alloc HX6.out o) 2).trans (show _ = some (.slice (some ad) l0_2.length c0_2) from rfl); have hz3b := fun o => (blk_cell (blk_alloc HX6.out o) 3).trans (show _ = some (.slice A0_3 l0_3.length c0_3) from rfl)) | (go_at_call 70; (with_reducible refine (V3 _ ?hb).mono ?_); (case hb => exact below_alloc HB6.out _); rintro e w7 ⟨rfl, hq⟩; have HB7 := Aside0.mk (below_step (below_alloc HB6.out _) hq.below); have HX7 := Aside0.mk (blk_below (blk_alloc HX6.out _) hq.below); clear hq))
                    go_ret
                    exact ⟨ret_int rfl, HB7.out⟩
                  · have e3 : hasB (l0_2.take i) s = false := by simpa using e3
                    have HE : Aside0 (wdTo l0_1 l0_3 l0_2 (i + 1) = 0) := ⟨by rw [HSN.out, wdP, if_neg E1.out, if_neg (by have := E2.out; omega), if_neg (by rw [e3]; decide)]⟩
                    rw [e3] at V3
                    clear e3 HSN HBAD
                    go_wp2_with (first | (go_at_call 69; (with_reducible refine (V1 _ ?hb).mono ?_); (case hb => exact HB.out); rintro e w5 ⟨rfl, hq⟩; have HB5 := Aside0.mk (below_step HB.out hq); have HX5 := Aside0.mk (blk_below HX.out hq); clear hq; have hz0a := fun o => (blk_cell (blk_alloc HX5.out o) 0).trans (show _ = some (.int .i64 a0_0) from rfl); have hz1a := fun o => (blk_cell (blk_alloc HX5.out o) 1).trans (show _ = some (.slice A0_1 l0_1.length c0_1) from rfl); have hz2a := fun o => (blk_cell (blk_alloc HX5.out o) 2).trans (show _ = some (.slice (some ad) l0_2.length c0_2) from rfl); have hz3a := fun o => (blk_cell (blk_alloc HX5.out o) 3).trans (show _ = some (.slice A0_3 l0_3.length c0_3) from rfl)) | (go_at_call 69; (with_reducible refine (V2 _ ?hb).mono ?_); (case hb => exact below_alloc HB5.out _); rintro e w6 ⟨rfl, hq⟩; have HB6 := Aside0.mk (below_step (below_alloc HB5.out _) hq); have HX6 := Aside0.mk (blk_below (blk_alloc HX5.out _) hq); clear hq; have hz0b := fun o => (blk_cell (blk_alloc HX6.out o) 0).trans (show _ = some (.int .i64 a0_0) from rfl); have hz1b := fun o => (blk_cell (blk_alloc HX6.out o) 1).trans (show _ = some (.slice A0_1 l0_1.length c0_1) from rfl); have hz2b := fun o => (blk_cell (blk_alloc HX6.out o) 2).trans (show _ = some (.slice (some ad) l0_2.length c0_2) from rfl); have hz3b := fun o => (blk_cell (blk_alloc HX6.out o) 3).trans (show _ = some (.slice A0_3 l0_3.length c0_3) from rfl)) | (go_at_call 70; (with_reducible refine (V3 _ ?hb).mono ?_); (case hb => exact below_alloc HB6.out _); rintro e w7 ⟨rfl, hq⟩; have HB7 := Aside0.mk (below_step (below_alloc HB6.out _) hq.below); have HX7 := Aside0.mk (blk_below (blk_alloc HX6.out _) hq.below); clear hq))
                    go_roundg (gk - 1)
                    case measure => omega
                    case rel => exact ⟨i + 1, by go_num, ⟨by omega⟩, HE, HB7, HX7⟩
                · obtain ⟨q, hq⟩ : ∃ q, q = rd_T35 l0_3 (fi l0_3 s) := ⟨_, rfl⟩
                  have V2 := fun wq hb => V2 q.f0 q.f1 q.f2 true wq hb (by rw [substitution_find.f, if_neg e2, hq])
                  have HE : Aside0 (wdTo l0_1 l0_3 l0_2 (i + 1) = 7) := ⟨by rw [HSN.out, wdP, if_neg E1.out, if_pos (by omega)]⟩
                  have hr : r = 7 := by
                    have e2 := HBAD.out (by rw [HE.out]; decide)
                    rw [← HH.out, if_pos (by rw [e2, HE.out]; decide), e2, HE.out]
                  subst hr
                  obtain ⟨p0, p1, p2⟩ := q
                  dsimp only at V2
                  clear hq e2 HSN HBAD
                  go_wp2_with (first | (go_at_call 69; (with_reducible refine (V1 _ ?hb).mono ?_); (case hb => exact HB.out); rintro e w5 ⟨rfl, hq⟩; have HB5 := Aside0.mk (below_step HB.out hq); have HX5 := Aside0.mk (blk_below HX.out hq); clear hq; have hz0a := fun o => (blk_cell (blk_alloc HX5.out o) 0).trans (show _ = some (.int .i64 a0_0) from rfl); have hz1a := fun o => (blk_cell (blk_alloc HX5.out o) 1).trans (show _ = some (.slice A0_1 l0_1.length c0_1) from rfl); have hz2a := fun o => (blk_cell (blk_alloc HX5.out o) 2).trans (show _ = some (.slice (some ad) l0_2.length c0_2) from rfl); have hz3a := fun o => (blk_cell (blk_alloc HX5.out o) 3).trans (show _ = some (.slice A0_3 l0_3.length c0_3) from rfl)) | (go_at_call 69; (with_reducible refine (V2 _ ?hb).mono ?_); (case hb => exact below_alloc HB5.out _); rintro e w6 ⟨rfl, hq⟩; have HB6 := Aside0.mk (below_step (below_alloc HB5.out _) hq); have HX6 := Aside0.mk (blk_below (blk_alloc HX5.out _) hq); clear hq; have hz0b := fun o => (blk_cell (blk_alloc HX6.out o) 0).trans (show _ = some (.int .i64 a0_0) from rfl); have hz1b := fun o => (blk_cell (blk_alloc HX6.out o) 1).trans (show _ = some (.slice A0_1 l0_1.length c0_1) from rfl); have hz2b := fun o => (blk_cell (blk_alloc HX6.out o) 2).trans (show _ = some (.slice (some ad) l0_2.length c0_2) from rfl); have hz3b := fun o => (blk_cell (blk_alloc HX6.out o) 3).trans (show _ = some (.slice A0_3 l0_3.length c0_3) from rfl)))
                  go_ret
                  exact ⟨ret_int rfl, below_alloc HB6.out _⟩
            · have c1 : decide ((i : Int) < l0_2.length) = false := by simpa using hlt
              have hi : i = l0_2.length := by omega
              have HH2 := HH.out
              rw [if_neg (by rw [← hi, HP.out]; decide)] at HH2
              have HH := Aside0.mk HH2
              have S1 := fun wq (hb : Below w.heap.size w wq) => substitution_sum.calls (l0_1.length + 1) A0_1 c0_1 l0_1 _ wq (Kd.C_below HR1.out hb) HC1.out (sum_some F1.out (by have := LL.out; omega) (by omega))
              have S3 := fun wq (hb : Below w.heap.size w wq) => substitution_sum.calls (l0_3.length + 1) A0_3 c0_3 l0_3 _ wq (Kd.C_below HR3.out hb) HC3.out (sum_some F3.out (by have := LL.out; omega) (by omega))
              have b1 := sumZ_nonneg F1.out
              have b3 := sumZ_nonneg F3.out
              have hl := LL.out
              simp only [MaxZ] at b1 b3
              obtain ⟨s1, hs1⟩ : ∃ s1, s1 = sumZ l0_1 := ⟨_, rfl⟩
              obtain ⟨s3, hs3⟩ : ∃ s3, s3 = sumZ l0_3 := ⟨_, rfl⟩
              rw [← hs1] at HH2 S1 b1
              rw [← hs3] at HH2 S3 b3
              have g1 : 0 ≤ s1 ∧ s1 ≤ 256000000000000000 := by omega
              have g3 : 0 ≤ s3 ∧ s3 ≤ 256000000000000000 := by omega
              clear b1 b3 hs1 hs3 hl hi HP
              go_wp2
              have hw0 : wrap64 (s1 + s3) = s1 + s3 := wrap64_in' _ (by omega)
              have hw : IntKind.i64.wrap (s1 + s3) = s1 + s3 := by rw [i64_w, hw0]
              go_region_held3 (fun w' => w'.cell? ⟨gb, 0, none⟩ = some (.int .i64 a0_0) ∧ w'.cell? ⟨gb, 1, none⟩ = some (.slice A0_1 l0_1.length c0_1) ∧ w'.cell? ⟨gb, 2, none⟩ = some (.slice A0_2 l0_2.length c0_2) ∧ w'.cell? ⟨gb, 3, none⟩ = some (.slice A0_3 l0_3.length c0_3))
                (go_keep)
                (first
                  | (go_at_call 41; (with_reducible refine (S1 _ ?hb).mono ?_); (case hb => exact ⟨HB.out.os, HB.out.tape, HB.out.output, HB.out.size, HB.out.block⟩); rintro e w5 ⟨rfl, hq⟩; have k0 : w5.cell? ⟨gb, 0, none⟩ = some (.int .i64 a0_0) := cell_later hq hz0; have k1 : w5.cell? ⟨gb, 1, none⟩ = some (.slice A0_1 l0_1.length c0_1) := cell_later hq hz1; have k2 : w5.cell? ⟨gb, 2, none⟩ = some (.slice A0_2 l0_2.length c0_2) := cell_later hq hz2; have k3 : w5.cell? ⟨gb, 3, none⟩ = some (.slice A0_3 l0_3.length c0_3) := cell_later hq hz3; have HB5 := Aside0.mk (below_step HB.out ⟨hq.os, hq.tape, hq.output, hq.size, hq.block⟩); clear hq hz0 hz1 hz2 hz3)
                  | (go_at_call 41; (with_reducible refine (S3 _ ?hb).mono ?_); (case hb => exact ⟨HB5.out.os, HB5.out.tape, HB5.out.output, HB5.out.size, HB5.out.block⟩); rintro e w6 ⟨rfl, hq⟩; have m0 : w6.cell? ⟨gb, 0, none⟩ = some (.int .i64 a0_0) := cell_later hq k0; have m1 : w6.cell? ⟨gb, 1, none⟩ = some (.slice A0_1 l0_1.length c0_1) := cell_later hq k1; have m2 : w6.cell? ⟨gb, 2, none⟩ = some (.slice A0_2 l0_2.length c0_2) := cell_later hq k2; have m3 : w6.cell? ⟨gb, 3, none⟩ = some (.slice A0_3 l0_3.length c0_3) := cell_later hq k3; have HB6 := Aside0.mk (below_step HB5.out ⟨hq.os, hq.tape, hq.output, hq.size, hq.block⟩); clear hq k0 k1 k2 k3))
              by_cases d3 : MaxZ < s1 + s3
              · rw [if_pos d3] at HH2
                subst HH2
                have d3 : 1000000000000000 < s1 + s3 := d3
                go_wp2
                go_ret
                exact ⟨ret_int rfl, HB6.out⟩
              · rw [if_neg d3] at HH2
                have d3 : decide (1000000000000000 < IntKind.i64.wrap (s1 + s3)) = false := by rw [hw]; simpa [MaxZ] using d3
                go_wp2
                go_region_held3 (fun w' => w'.cell? ⟨gb, 0, none⟩ = some (.int .i64 a0_0) ∧ w'.cell? ⟨gb, 1, none⟩ = some (.slice A0_1 l0_1.length c0_1) ∧ w'.cell? ⟨gb, 2, none⟩ = some (.slice A0_2 l0_2.length c0_2) ∧ w'.cell? ⟨gb, 3, none⟩ = some (.slice A0_3 l0_3.length c0_3))
                  (go_keep)
                  (first
                    | (go_at_call 41; (with_reducible refine (S1 _ ?hb).mono ?_); (case hb => exact ⟨HB6.out.os, HB6.out.tape, HB6.out.output, HB6.out.size, HB6.out.block⟩); rintro e w7 ⟨rfl, hq⟩; have n0 : w7.cell? ⟨gb, 0, none⟩ = some (.int .i64 a0_0) := cell_later hq m0; have n1 : w7.cell? ⟨gb, 1, none⟩ = some (.slice A0_1 l0_1.length c0_1) := cell_later hq m1; have n2 : w7.cell? ⟨gb, 2, none⟩ = some (.slice A0_2 l0_2.length c0_2) := cell_later hq m2; have n3 : w7.cell? ⟨gb, 3, none⟩ = some (.slice A0_3 l0_3.length c0_3) := cell_later hq m3; have HB7 := Aside0.mk (below_step HB6.out ⟨hq.os, hq.tape, hq.output, hq.size, hq.block⟩); clear hq m0 m1 m2 m3))
                by_cases d4 : s1 < a0_0
                · rw [if_pos d4] at HH2
                  subst HH2
                  have d4 : decide (s1 < a0_0) = true := by simpa using d4
                  go_wp2
                  go_ret
                  exact ⟨ret_int rfl, HB7.out⟩
                · rw [if_neg d4] at HH2
                  subst HH2
                  have d4 : decide (s1 < a0_0) = false := by simpa using d4
                  go_wp2
                  go_ret
                  exact ⟨ret_int rfl, HB7.out⟩
  · have d1 : inR a0_0 0 = false := by simpa using d1
    rw [if_pos d1] at h
    rw [d1] at W1
    subst h
    clear d1
    go_enter Tryz.func29, Tryz.ntmps29
    go_wp2_with (first | ((with_reducible refine gate_dst (N := 1) rfl ?_); refine box_event ?hg (N := 1) ?hd (cs := #[.int .i64 a0_0, .slice A0_1 l0_1.length c0_1, .slice A0_2 l0_2.length c0_2, .slice A0_3 l0_3.length c0_3]) (t := 25) ?hr ?_; (case hd => rfl); (case hg => rfl); (case hr => first | (go_simp; done) | (go_simp; rfl)); intro gb hg w1 hbox hb; have HB := Aside0.mk hb; have HX := Aside0.mk hbox; have HG := Aside0.mk (show w.heap.size ≤ gb by rw [hg]; exact Nat.le_refl _); clear hb hbox hg; have hz0 := (blk_cell HX.out 0).trans (show _ = some (.int .i64 a0_0) from rfl); have hz1 := (blk_cell HX.out 1).trans (show _ = some (.slice A0_1 l0_1.length c0_1) from rfl); have hz2 := (blk_cell HX.out 2).trans (show _ = some (.slice A0_2 l0_2.length c0_2) from rfl); have hz3 := (blk_cell HX.out 3).trans (show _ = some (.slice A0_3 l0_3.length c0_3) from rfl)) | (go_at_call 50; (with_reducible refine (W1 _).mono ?_); rintro e w6 ⟨rfl, rfl⟩))
    go_ret
    exact ⟨ret_int rfl, HB.out⟩
end Go.Proofs.YtoanlppfdniiaaaGreatDoor.Q
end
