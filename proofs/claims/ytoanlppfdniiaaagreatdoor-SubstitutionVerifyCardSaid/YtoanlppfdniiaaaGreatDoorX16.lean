/- A part of the proof; no condition. -/
import Derived.Test.YtoanlppfdniiaaaGreatDoorX1
import Derived.Laws.Cover1
import Derived.Shelf.SlSortCmp.WholeK
section
namespace Go.Proofs.YtoanlppfdniiaaaGreatDoor.Q
set_option linter.unusedVariables false
set_option linter.unusedSimpArgs false
open Go.RowKit Go.Proofs.YtoanlppfdniiaaaGreatDoorW.PrintWords Go.Proofs.YtoanlppfdniiaaaGreatDoorW.PrintLast Go.Proofs.YtoanlppfdniiaaaGreatDoorW.PrintMore
theorem ri_ {a b : Int} (h : a = b) : Ending.returned (.int .i64 a) = .returned (.int .i64 b) := by rw [h]
theorem nan73 (a : Int) (w : World) : Calls Tryz.prog 73 #[.int .i64 a] w fun e w' => e = .returned (.bool false) ∧ w' = w := by
  go_enter Tryz.func73, Tryz.ntmps73
  go_wp2
  go_ret
  exact ⟨by simp, rfl⟩
theorem nan74 (a : ByteArray) (w : World) : Calls Tryz.prog 74 #[.string a] w fun e w' => e = .returned (.bool false) ∧ w' = w := by
  go_enter Tryz.func74, Tryz.ntmps74
  go_wp2
  go_ret
  exact ⟨by simp, rfl⟩
def cmpI (a b : Int) : Int := if a < b then -1 else if b < a then 1 else 0
theorem cmpI_calls (a b : Int) (w : World) : Calls Tryz.prog 37 #[.int .i64 a, .int .i64 b] w fun e w' => e = .returned (.int .i64 (cmpI a b)) ∧ w' = w := by
  have H := Aside0.mk (show cmpI a b = _ from rfl)
  unfold cmpI at H
  by_cases h1 : a < b
  · go_enter Tryz.func37, Tryz.ntmps37
    go_wp2_with (go_at_call 73; refine (nan73 _ _).mono ?_; rintro e w' ⟨rfl, rfl⟩)
    go_ret
    exact ⟨ri_ (by simp [cmpI, h1]), rfl⟩
  · by_cases h2 : b < a
    · go_enter Tryz.func37, Tryz.ntmps37
      go_wp2_with (go_at_call 73; refine (nan73 _ _).mono ?_; rintro e w' ⟨rfl, rfl⟩)
      go_ret
      exact ⟨ri_ (by simp [cmpI, h1, h2]), rfl⟩
    · go_enter Tryz.func37, Tryz.ntmps37
      go_wp2_with (go_at_call 73; refine (nan73 _ _).mono ?_; rintro e w' ⟨rfl, rfl⟩)
      go_ret
      exact ⟨ri_ (by rw [cmpI, if_neg (by omega), if_neg (by omega)]), rfl⟩
def bless (a b : ByteArray) : Bool := Op.bytesLess a.toList b.toList
def cmpS (a b : ByteArray) : Int := if bless a b = true then -1 else if a.toList = b.toList then 0 else 1
theorem cmpS_calls (a b : ByteArray) (w : World) : Calls Tryz.prog 38 #[.string a, .string b] w fun e w' => e = .returned (.int .i64 (cmpS a b)) ∧ w' = w := by
  by_cases h1 : Op.bytesLess a.toList b.toList = true
  · go_enter Tryz.func38, Tryz.ntmps38
    go_wp2_with (go_at_call 74; refine (nan74 _ _).mono ?_; rintro e w' ⟨rfl, rfl⟩)
    go_ret
    exact ⟨ri_ (by rw [cmpS, if_pos (show bless a b = true from h1)]), rfl⟩
  · have h1' : Op.bytesLess a.toList b.toList = false := by simpa using h1
    by_cases h2 : a.toList = b.toList
    · have h2' : (a.toList == b.toList) = true := by simpa using h2
      have e : cmpS a b = 0 := by rw [cmpS, if_neg (show ¬ bless a b = true from h1), if_pos h2]
      have E := Aside0.mk e
      clear h1 e h2
      go_enter Tryz.func38, Tryz.ntmps38
      go_wp2_with (go_at_call 74; refine (nan74 _ _).mono ?_; rintro e w' ⟨rfl, rfl⟩)
      go_ret
      exact ⟨ri_ E.out.symm, rfl⟩
    · have h2' : (a.toList == b.toList) = false := by simpa using h2
      have e : cmpS a b = 1 := by rw [cmpS, if_neg (show ¬ bless a b = true from h1), if_neg h2]
      have E := Aside0.mk e
      clear h1 e h2
      go_enter Tryz.func38, Tryz.ntmps38
      go_wp2_with (go_at_call 74; refine (nan74 _ _).mono ?_; rintro e w' ⟨rfl, rfl⟩)
      go_ret
      exact ⟨ri_ E.out.symm, rfl⟩
theorem or_calls (a b : Int) (g : Nat) (w : World) (h0 : w.cell? ⟨g, 0, none⟩ = some (.int .i64 a)) (h1 : w.cell? ⟨g, 1, none⟩ = some (.int .i64 b)) : Calls Tryz.prog 36 #[.slice (some ⟨g, 0, none⟩) 2 2] w fun e w' => e = .returned (.int .i64 (if a = 0 then b else a)) ∧ w' = w := by
  have H0 := Aside0.mk h0
  have H1 := Aside0.mk h1
  clear h0 h1
  obtain ⟨r, hr⟩ : ∃ r, r = (if a = 0 then b else a) := ⟨_, rfl⟩
  rw [← hr]
  have HR := Aside0.mk hr
  clear hr
  go_enter Tryz.func36, Tryz.ntmps36
  go_wp2
  go_loopg [8] 2 (fun kq v8 w' => ∃ i : Int, v8 = .int .i64 i ∧ Aside0 (i + kq = 2 ∧ 0 ≤ i) ∧ Aside0 ((0 < i → a = 0) ∧ (1 < i → b = 0)) ∧ w' = w)
  case atStart => exact ⟨0, rfl, ⟨by omega, by omega⟩, ⟨by omega, by omega⟩, rfl⟩
  case round =>
    obtain ⟨i, rfl, HK, HP, rfl⟩ := hrel
    have hk := HK.out
    rcases (show i = 0 ∨ i = 1 ∨ i = 2 by omega) with rfl | rfl | rfl
    · have h0 := H0.out
      by_cases ha : a = 0
      · subst ha
        go_wp2
        go_roundg (gk - 1)
        case measure => omega
        case rel => exact ⟨1, by go_num, ⟨by omega, by omega⟩, ⟨by simp, by omega⟩, rfl⟩
      · have ha' : (a != 0) = true := by simpa using ha
        have E := Aside0.mk (show r = a from HR.out.trans (if_neg ha))
        clear ha
        go_wp2
        go_ret
        exact ⟨ri_ E.out.symm, rfl⟩
    · have h1 := H1.out
      have ha := HP.out.1 (by omega)
      have E := Aside0.mk (show r = b from HR.out.trans (if_pos ha))
      clear ha
      by_cases hb : b = 0
      · subst hb
        go_wp2
        go_roundg (gk - 1)
        case measure => omega
        case rel => exact ⟨2, by go_num, ⟨by omega, by omega⟩, ⟨fun _ => HP.out.1 (by omega), by simp⟩, rfl⟩
      · have hb' : (b != 0) = true := by simpa using hb
        clear hb
        go_wp2
        go_ret
        exact ⟨ri_ E.out.symm, rfl⟩
    · have ha := HP.out.1 (by omega)
      have hb := HP.out.2 (by omega)
      have E := Aside0.mk (show r = 0 by rw [HR.out, if_pos ha, hb])
      clear ha hb
      go_wp2
      go_ret
      exact ⟨ri_ E.out.symm, rfl⟩
def cf35 (x y : S35) : Int := if cmpI y.f2 x.f2 = 0 then cmpS x.f0 y.f0 else cmpI y.f2 x.f2
set_option maxHeartbeats 4000000 in
set_option maxRecDepth 100000 in
theorem by_calls (x y : S35) (W : World) : Calls Tryz.prog 35 #[.agg #[.string x.f0, .int .i64 x.f1, .int .i64 x.f2], .agg #[.string y.f0, .int .i64 y.f1, .int .i64 y.f2]] W fun e w' => e = .returned (.int .i64 (cf35 x y)) ∧ ∃ q os', w' = Go.Sort.grow (W.drewN q) os' := by
  have C1 := cmpI_calls y.f2 x.f2
  have C2 := cmpS_calls x.f0 y.f0
  have C3 := or_calls (cmpI y.f2 x.f2) (cmpS x.f0 y.f0)
  rw [show (if cmpI y.f2 x.f2 = 0 then cmpS x.f0 y.f0 else cmpI y.f2 x.f2) = cf35 x y from rfl] at C3
  generalize cmpI y.f2 x.f2 = c1 at C1 C3
  generalize cmpS x.f0 y.f0 = c2 at C2 C3
  generalize cf35 x y = r at C3 ⊢
  obtain ⟨x0, x1, x2⟩ := x
  obtain ⟨y0, y1, y2⟩ := y
  dsimp only at C1 C2 ⊢
  go_enter Tryz.func35, Tryz.ntmps35
  go_wp2
  have b1 : ((W.alloc (.cells #[.string x0, .int .i64 x1, .int .i64 x2] 35)).alloc (.cells #[.string y0, .int .i64 y1, .int .i64 y2] 35)).heap[W.heap.size]? = some (.cells #[.string x0, .int .i64 x1, .int .i64 x2] 35 (0, 0)) := blk_alloc (blk_new _ _) _
  have b2 : ((W.alloc (.cells #[.string x0, .int .i64 x1, .int .i64 x2] 35)).alloc (.cells #[.string y0, .int .i64 y1, .int .i64 y2] 35)).heap[W.heap.size + 1]? = some (.cells #[.string y0, .int .i64 y1, .int .i64 y2] 35 (0, 0)) := by
    have := blk_new (W.alloc (.cells #[.string x0, .int .i64 x1, .int .i64 x2] 35)) (.cells #[.string y0, .int .i64 y1, .int .i64 y2] 35)
    rwa [World.size_alloc] at this
  have HG : Aside0 (∃ os, ((W.alloc (.cells #[.string x0, .int .i64 x1, .int .i64 x2] 35)).alloc (.cells #[.string y0, .int .i64 y1, .int .i64 y2] 35)) = Go.Sort.grow (W.drewN 0) os) := ⟨⟨_, by rw [Go.Sort.alloc_eq_grow, Go.Sort.alloc_eq_grow, Go.Sort.grow_grow]; rfl⟩⟩
  generalize (W.alloc (.cells #[.string x0, .int .i64 x1, .int .i64 x2] 35)).alloc (.cells #[.string y0, .int .i64 y1, .int .i64 y2] 35) = W2 at *
  generalize W.heap.size = g at *
  have k0 : W2.cell? ⟨g, 0, none⟩ = some (.string x0) := blk_cell b1 0
  have k2 : W2.cell? ⟨g, 2, none⟩ = some (.int .i64 x2) := blk_cell b1 2
  have m0 : W2.cell? ⟨g + 1, 0, none⟩ = some (.string y0) := blk_cell b2 0
  have m2 : W2.cell? ⟨g + 1, 2, none⟩ = some (.int .i64 y2) := blk_cell b2 2
  clear b1 b2
  go_region_held3 (fun w' => w'.cell? ⟨g, 0, none⟩ = some (.string x0) ∧ w'.cell? ⟨g, 2, none⟩ = some (.int .i64 x2) ∧ w'.cell? ⟨g + 1, 0, none⟩ = some (.string y0) ∧ w'.cell? ⟨g + 1, 2, none⟩ = some (.int .i64 y2))
    (go_keep)
    (first
      | (go_at_call 37; refine (C1 _).mono ?_; rintro e w3 ⟨rfl, rfl⟩)
      | (go_at_call 38; refine (C2 _).mono ?_; rintro e w4 ⟨rfl, rfl⟩)
      | (go_at_call 36; refine (C3 _ _ ?h0 ?h1).mono ?_; (case h0 => exact blk_cell (blk_new _ _) 0); (case h1 => exact blk_cell (blk_new _ _) 1); rintro e w5 ⟨rfl, rfl⟩))

  go_wp2
  obtain ⟨os, hg⟩ := HG.out
  go_ret
  exact ⟨ri_ rfl, 1, os ++ #[.cells #[.int .i64 c1, .int .i64 c2] 3], by rw [hg, Go.Sort.alloc_eq_grow, Go.Sort.grow_grow]; rfl⟩
end Go.Proofs.YtoanlppfdniiaaaGreatDoor.Q
end
