/- A part of the proof; no condition. -/
import Derived.Test.YtoanlppfdniiaaaGreatDoorX8
import Derived.Test.YtoanlppfdniiaaaGreatDoorX10
import Derived.Test.YtoanlppfdniiaaaGreatDoorX1
section
namespace Go.Proofs.YtoanlppfdniiaaaGreatDoor.Q
set_option linter.unusedVariables false
set_option linter.unusedSimpArgs false
open Go.RowKit Go.Proofs.YtoanlppfdniiaaaGreatDoorW.PrintWords Go.Proofs.YtoanlppfdniiaaaGreatDoorW.PrintLast Go.Proofs.YtoanlppfdniiaaaGreatDoorW.PrintMore
def inR (n low : Int) : Bool := decide (low ≤ n) && decide (n ≤ 1000000000000000)
theorem within_calls (n low : Int) (w : World) : Calls Tryz.prog 50 #[.int .i64 n, .int .i64 low] w fun e w' => e = .returned (.bool (inR n low)) ∧ w' = w := by
  by_cases h1 : n ≥ low
  · go_enter Tryz.func50, Tryz.ntmps50
    go_wp2
    go_ret
    exact ⟨ret_bool (by simp [inR]; omega), rfl⟩
  · go_enter Tryz.func50, Tryz.ntmps50
    go_wp2
    go_ret
    exact ⟨ret_bool (by simp [inR]; omega), rfl⟩
theorem ret_int {a b : Int} (h : a = b) : Ending.returned (.int .i64 a) = .returned (.int .i64 b) := by rw [h]
def ckP (before : List S35) (p : S35) : Int :=
  if vld 0 p.f0 = false then 6 else if inR p.f1 1 = false then 2 else if inR p.f2 0 = false then 2 else if hasB (before.map (·.f0)) p.f0 = true then 7 else 0
def ckTo (l : List S35) : Nat → Int
  | 0 => 0
  | k + 1 => if ckTo l k = 0 then ckP (l.take k) (rd_T35 l k) else ckTo l k
theorem ckTo_bad {l : List S35} {i : Nat} (h : ckTo l i ≠ 0) : ∀ j, i ≤ j → ckTo l j = ckTo l i
  | 0, hj => by obtain rfl : i = 0 := by omega
                rfl
  | j + 1, hj => by
    by_cases e : i = j + 1
    · rw [e]
    · have := ckTo_bad h j (by omega)
      rw [ckTo, if_neg (by rw [this]; exact h), this]
def substitution_checkList.f (l0 : List S35) : Option Int := some (ckTo l0 l0.length)
theorem vld0_size {s : ByteArray} (h : vld 0 s = true) : s.size = 12 := by
  have : (pfOk (cl sp0) 12 s && luOk s) = true := h
  rw [Bool.and_eq_true] at this
  exact (pfOk_isin this.1).1
set_option maxHeartbeats 4000000 in
set_option maxRecDepth 100000 in
theorem substitution_checkList.calls (A0 : Option Addr) (c0 : Nat) (l0 : List (S35)) (r : Int) (w : World) (hr0 : Kd.C k35 w A0 l0.length l0) (hc0 : l0.length ≤ c0) (h : substitution_checkList.f l0 = some r) :
    Calls Tryz.prog 68 #[.slice A0 l0.length c0] w fun e w' => e = .returned (.int .i64 r) ∧ Below w.heap.size w w' := by
  have HR := Aside0.mk hr0
  have hL : l0.length ≤ 9223372036854775807 := hr0.2.1
  obtain rfl := Option.some.inj h
  clear hr0 h hc0
  have hmm := @run_makeMap Tryz.prog
  have HM := Aside0.mk (IsSet.made w)
  go_enter Tryz.func68, Tryz.ntmps68
  go_wp2
  clear hmm
  go_loopg [9] l0.length (fun kq v9 w' => ∃ i : Nat, v9 = .int .i64 i ∧ Aside0 (i + kq = l0.length) ∧ Aside0 (ckTo l0 i = 0) ∧ Aside0 (IsSet w' w.heap.size ((l0.take i).map (·.f0))) ∧ Aside0 (Below w.heap.size w w'))
  case atStart => exact ⟨0, rfl, ⟨by omega⟩, ⟨rfl⟩, HM, ⟨below_alloc (Below.refl _ _) _⟩⟩
  case round =>
    clear HM
    obtain ⟨i, rfl, HK, HP, HS, HB⟩ := hrel
    have hk := HK.out
    by_cases hlt : i < l0.length
    · have c1 : decide ((i : Int) < l0.length) = true := by simpa using hlt
      obtain ⟨ad, rfl, hx0, hx1, hx2⟩ := at_T35 HR.out (i : Int) (by omega) (by omega)
      replace hx0 := (HB.out.cell (World.block_lt_of_cell? w _ hx0)).trans hx0
      replace hx1 := (HB.out.cell (World.block_lt_of_cell? w _ hx1)).trans hx1
      replace hx2 := (HB.out.cell (World.block_lt_of_cell? w _ hx2)).trans hx2
      simp only [Int.toNat_natCast] at hx0 hx1 hx2
      have hsn : ckTo l0 (i + 1) = ckP (l0.take i) (rd_T35 l0 i) := by rw [ckTo, if_pos HP.out]
      obtain ⟨p, hp⟩ : ∃ p, p = rd_T35 l0 i := ⟨_, rfl⟩
      have htk : (l0.take (i + 1)).map (·.f0) = (l0.take i).map (·.f0) ++ [p.f0] := by
        rw [List.take_succ_eq_append_getElem hlt, List.map_append, hp]; simp [rd_T35, List.getElem?_eq_getElem hlt]
      rw [← hp] at hsn hx0 hx1 hx2
      have HSN := Aside0.mk hsn
      have HTK := Aside0.mk htk
      have HBAD := Aside0.mk (fun (h : ckTo l0 (i + 1) ≠ 0) => ckTo_bad h l0.length (by omega))
      clear hp hsn htk
      by_cases d1 : vld 0 p.f0 = true
      · have D1 := Aside0.mk d1
        clear d1
        have V := fun w => valid_calls 0 (.inl rfl) p.f0 w
        rw [D1.out] at V
        have hns : (vld 0 p.f0 = false) = False := by simp [D1.out]
        have HSZ := Aside0.mk (show p.f0.size ≤ maxLen from by rw [vld0_size D1.out]; decide)
        have HSN1 := Aside0.mk (show ckTo l0 (i + 1) = (if inR p.f1 1 = false then 2 else if inR p.f2 0 = false then 2 else if hasB ((l0.take i).map (·.f0)) p.f0 = true then 7 else 0) from by rw [HSN.out, ckP, if_neg (by simp [D1.out])])
        clear HSN hns D1
        by_cases d2 : inR p.f1 1 = true
        · by_cases d3 : inR p.f2 0 = true
          · by_cases d4 : hasB ((l0.take i).map (·.f0)) p.f0 = true
            · have e1 := HSN1.out
              rw [if_neg (by simp [d2]), if_neg (by simp [d3]), if_pos d4] at e1
              have W1 := fun w => within_calls p.f1 1 w
              have W2 := fun w => within_calls p.f2 0 w
              rw [d2] at W1
              rw [d3] at W2
              have E1 := Aside0.mk e1
              have D4 := Aside0.mk d4
              clear d2 d3 d4 e1 HSN1
              go_wp2_with (first | (go_at_call 48; refine (V _).mono ?_; rintro e w5 ⟨rfl, hq⟩; have HQ := Aside0.mk hq; have HS5 := Aside0.mk ((HS.out.below (below_alloc (Below.refl _ _) _)).below hq); have hc0 : w5.cell? ⟨wr.heap.size, 0, none⟩ = some (.string p.f0) := cell_later hq (blk_cell (blk_new wr _) 0); have hc1 : w5.cell? ⟨wr.heap.size, 1, none⟩ = some (.int .i64 p.f1) := cell_later hq (blk_cell (blk_new wr _) 1); have hc2 : w5.cell? ⟨wr.heap.size, 2, none⟩ = some (.int .i64 p.f2) := cell_later hq (blk_cell (blk_new wr _) 2); clear hq) | (go_at_call 50; first | ((with_reducible refine (W1 _).mono ?_); rintro e w6 ⟨rfl, rfl⟩) | ((with_reducible refine (W2 _).mono ?_); rintro e w6 ⟨rfl, rfl⟩)) | (at_lookup; refine wpList_set_look rfl (.tmp 30) (.tmp 32) 146 rfl Tryz.underlying146 w.heap.size ((l0.take i).map (·.f0)) p.f0 rfl rfl HSZ.out ?hs ?_; (case hs => exact HS5.out); rw [D4.out]))
              go_ret
              exact ⟨ret_int (by rw [HBAD.out (by rw [E1.out]; decide), E1.out]), below_step (below_alloc HB.out _) HQ.out⟩
            · have d4 : hasB ((l0.take i).map (·.f0)) p.f0 = false := by simpa using d4
              have e1 := HSN1.out
              rw [if_neg (by simp [d2]), if_neg (by simp [d3]), if_neg (by rw [d4]; decide)] at e1
              have W1 := fun w => within_calls p.f1 1 w
              have W2 := fun w => within_calls p.f2 0 w
              rw [d2] at W1
              rw [d3] at W2
              have E1 := Aside0.mk e1
              have D4 := Aside0.mk d4
              clear d2 d3 d4 e1 HSN1
              go_wp2_with (first | (go_at_call 48; refine (V _).mono ?_; rintro e w5 ⟨rfl, hq⟩; have HQ := Aside0.mk hq; have HS5 := Aside0.mk ((HS.out.below (below_alloc (Below.refl _ _) _)).below hq); have hc0 : w5.cell? ⟨wr.heap.size, 0, none⟩ = some (.string p.f0) := cell_later hq (blk_cell (blk_new wr _) 0); have hc1 : w5.cell? ⟨wr.heap.size, 1, none⟩ = some (.int .i64 p.f1) := cell_later hq (blk_cell (blk_new wr _) 1); have hc2 : w5.cell? ⟨wr.heap.size, 2, none⟩ = some (.int .i64 p.f2) := cell_later hq (blk_cell (blk_new wr _) 2); clear hq) | (go_at_call 50; first | ((with_reducible refine (W1 _).mono ?_); rintro e w6 ⟨rfl, rfl⟩) | ((with_reducible refine (W2 _).mono ?_); rintro e w6 ⟨rfl, rfl⟩)) | (at_lookup; refine wpList_set_look rfl (.tmp 30) (.tmp 32) 146 rfl Tryz.underlying146 w.heap.size ((l0.take i).map (·.f0)) p.f0 rfl rfl HSZ.out ?hs ?_; (case hs => exact HS5.out); rw [D4.out]) | (at_mapUpdate; refine wpList_set_put rfl (.tmp 34) (.tmp 36) (.const (.bool true)) 146 rfl Tryz.underlying146 w.heap.size ((l0.take i).map (·.f0)) p.f0 rfl rfl rfl HSZ.out ?hs ?hl ?_; (case hs => exact HS5.out); (case hl => rw [List.length_map, List.length_take]; unfold maxLen; omega); intro w7 hs7 hg7; have HS7 := Aside0.mk hs7; have HB7 := Aside0.mk ((below_step (below_alloc HB.out _) HQ.out).grown hg7 (below_step (below_alloc HB.out _) HQ.out).size (fun k hk => by cases hk; exact Nat.le_refl _)); clear hs7 hg7))
              go_roundg (gk - 1)
              case measure => omega
              case rel => exact ⟨i + 1, by go_num, ⟨by omega⟩, E1, ⟨by rw [HTK.out]; exact HS7.out⟩, HB7⟩
          · have d3 : inR p.f2 0 = false := by simpa using d3
            have e1 := HSN1.out
            rw [if_neg (by simp [d2]), if_pos d3] at e1
            have W1 := fun w => within_calls p.f1 1 w
            have W2 := fun w => within_calls p.f2 0 w
            rw [d2] at W1
            rw [d3] at W2
            have E1 := Aside0.mk e1
            clear d2 d3 e1 HSN1
            go_wp2_with (first | (go_at_call 48; refine (V _).mono ?_; rintro e w5 ⟨rfl, hq⟩; have HQ := Aside0.mk hq; have hc0 : w5.cell? ⟨wr.heap.size, 0, none⟩ = some (.string p.f0) := cell_later hq (blk_cell (blk_new wr _) 0); have hc1 : w5.cell? ⟨wr.heap.size, 1, none⟩ = some (.int .i64 p.f1) := cell_later hq (blk_cell (blk_new wr _) 1); have hc2 : w5.cell? ⟨wr.heap.size, 2, none⟩ = some (.int .i64 p.f2) := cell_later hq (blk_cell (blk_new wr _) 2); clear hq) | (go_at_call 50; first | ((with_reducible refine (W1 _).mono ?_); rintro e w6 ⟨rfl, rfl⟩) | ((with_reducible refine (W2 _).mono ?_); rintro e w6 ⟨rfl, rfl⟩)))
            go_ret
            exact ⟨ret_int (by rw [HBAD.out (by rw [E1.out]; decide), E1.out]), below_step (below_alloc HB.out _) HQ.out⟩
        · have d2 : inR p.f1 1 = false := by simpa using d2
          have e1 := HSN1.out
          rw [if_pos d2] at e1
          have W1 := fun w => within_calls p.f1 1 w
          have W2 := fun w => within_calls p.f2 0 w
          rw [d2] at W1
          have E1 := Aside0.mk e1
          clear d2 e1 HSN1
          go_wp2_with (first | (go_at_call 48; refine (V _).mono ?_; rintro e w5 ⟨rfl, hq⟩; have HQ := Aside0.mk hq; have HS5 := Aside0.mk ((HS.out.below (below_alloc (Below.refl _ _) _)).below hq); have hc0 : w5.cell? ⟨wr.heap.size, 0, none⟩ = some (.string p.f0) := cell_later hq (blk_cell (blk_new wr _) 0); have hc1 : w5.cell? ⟨wr.heap.size, 1, none⟩ = some (.int .i64 p.f1) := cell_later hq (blk_cell (blk_new wr _) 1); have hc2 : w5.cell? ⟨wr.heap.size, 2, none⟩ = some (.int .i64 p.f2) := cell_later hq (blk_cell (blk_new wr _) 2); clear hq) | (go_at_call 50; first | ((with_reducible refine (W1 _).mono ?_); rintro e w6 ⟨rfl, rfl⟩) | ((with_reducible refine (W2 _).mono ?_); rintro e w6 ⟨rfl, rfl⟩)))
          go_ret
          exact ⟨ret_int (by rw [HBAD.out (by rw [E1.out]; decide), E1.out]), below_step (below_alloc HB.out _) HQ.out⟩
      · have d1 : vld 0 p.f0 = false := by simpa using d1
        have D1 := Aside0.mk d1
        clear d1
        have V := fun w => valid_calls 0 (.inl rfl) p.f0 w
        rw [D1.out] at V
        go_wp2_with (go_at_call 48; refine (V _).mono ?_; rintro e w5 ⟨rfl, hq⟩; have HQ := Aside0.mk hq; clear hq)
        go_ret
        have e1 : ckTo l0 (i + 1) = 6 := by rw [HSN.out, ckP, if_pos D1.out]
        exact ⟨ret_int (by rw [HBAD.out (by rw [e1]; decide), e1]), below_step (below_alloc HB.out _) HQ.out⟩
    · have c1 : decide ((i : Int) < l0.length) = false := by simpa using hlt
      have hi : i = l0.length := by omega
      have HF := Aside0.mk (show ckTo l0 l0.length = 0 from hi ▸ HP.out)
      clear hi
      go_wp2
      go_ret
      exact ⟨ret_int HF.out.symm, HB.out⟩
end Go.Proofs.YtoanlppfdniiaaaGreatDoor.Q
end
