/- A part of the proof; no condition. -/
import Derived.Test.YtoanlppfdniiaaaGreatDoorX11
section
namespace Go.Proofs.YtoanlppfdniiaaaGreatDoor.Q
set_option linter.unusedVariables false
set_option linter.unusedSimpArgs false
open Go.RowKit Go.Proofs.YtoanlppfdniiaaaGreatDoorW.PrintWords Go.Proofs.YtoanlppfdniiaaaGreatDoorW.PrintLast Go.Proofs.YtoanlppfdniiaaaGreatDoorW.PrintMore
theorem results_row2 {P : Program} {fn : Func} {p u : Tmp} {ty : TypeId} (h : fn.results = #[.cell p ty, .tmp u]) (tmps : Array Value) (w : World) (g : Nat) (t : TypeId) (cs : Array Value) (fr : Nat × Nat) (d : TypeDesc)
    (hp : tmps.getD p undef = .pointer (some ⟨g, 0, none⟩)) (hg : w.heap[g]? = some (.cells cs t fr))
    (hu : P.underlying ty = some d) (hd : (match d with | .struct _ | .array _ _ => true | _ => false) = true) (hi : (P.info? ty).map (·.size) = some cs.size) :
    (results fn tmps).run P w = .ok (.tuple #[.agg cs, tmps.getD u undef]) w := by
  have hp' : tmps[p]?.getD undef = .pointer (some ⟨g, 0, none⟩) := by simpa using hp
  rw [results_cell_tmp h, hp]
  simp [asAddr, run_loadVar_row w g t ty cs fr d hg hu hd hi, Result.andThen]
theorem size35 : (Tryz.prog.info? 35).map (·.size) = some 3 := by kernel_rfl
def sEq (a b : ByteArray) : Bool := a.toList == b.toList
theorem same_calls (a : ByteArray) (q v : Int) (s : ByteArray) (b : Addr) (w : World) (hb : w.cell? b = some (.string s)) :
    Calls Tryz.prog 88 #[.agg #[.string a, .int .i64 q, .int .i64 v], .pointer (some b)] w fun e w' => e = .returned (.bool (sEq a s)) ∧ Below w.heap.size w w' := by
  have hb1 : (w.alloc (.cells #[.string a, .int .i64 q, .int .i64 v] 35)).cell? b = some (.string s) :=
    ((below_alloc (Below.refl _ _) _ : Below w.heap.size w _).cell (World.block_lt_of_cell? w _ hb)).trans hb
  go_enter Tryz.func88, Tryz.ntmps88
  go_wp2
  go_ret
  exact ⟨ret_bool rfl, below_alloc (Below.refl _ _) _⟩
def fnd (l : List S35) (s : ByteArray) : Nat → Bool
  | 0 => false
  | i + 1 => fnd l s i || sEq (rd_T35 l i).f0 s
def fi (l : List S35) (s : ByteArray) : Int := match l.findIdx? (fun p => sEq p.f0 s) with | some i => (i : Int) | none => -1
theorem rd35_at {l : List S35} {i : Nat} (hi : i < l.length) : (rd_T35 l (i : Int)).f0 = l[i].f0 ∧ (rd_T35 l (i : Int)).f1 = l[i].f1 ∧ (rd_T35 l (i : Int)).f2 = l[i].f2 := by
  simp [rd_T35, List.getElem?_eq_getElem hi]
theorem fnd_all {l : List S35} {s : ByteArray} : ∀ {i : Nat}, fnd l s i = false → ∀ j (hj : j < l.length), j < i → sEq l[j].f0 s = false
  | i + 1, h, j, hj, hji => by
    rw [fnd, Bool.or_eq_false_iff] at h
    by_cases e : j = i
    · subst e; rw [← (rd35_at hj).1]; exact h.2
    · exact fnd_all h.1 j hj (by omega)
theorem fi_at {l : List S35} {s : ByteArray} {i : Nat} (h : fnd l s i = false) (hi : i < l.length) (he : sEq (rd_T35 l i).f0 s = true) : fi l s = i := by
  rw [(rd35_at hi).1] at he
  have : l.findIdx? (fun p => sEq p.f0 s) = some i := by
    rw [List.findIdx?_eq_some_iff_getElem]
    exact ⟨hi, he, fun j hj => by simp [fnd_all h j (by omega) hj]⟩
  rw [fi, this]
theorem fi_none {l : List S35} {s : ByteArray} (h : fnd l s l.length = false) : fi l s = -1 := by
  have : l.findIdx? (fun p => sEq p.f0 s) = none := by
    rw [List.findIdx?_eq_none_iff]
    intro x hx
    obtain ⟨j, hj, rfl⟩ := List.getElem_of_mem hx
    simpa using fnd_all h j hj hj
  rw [fi, this]
theorem fi_lt (l : List S35) (s : ByteArray) : fi l s < l.length := by
  rw [fi]
  cases h : l.findIdx? (fun p => sEq p.f0 s) with
  | none => simp only []; omega
  | some i =>
    rw [List.findIdx?_eq_some_iff_getElem] at h
    obtain ⟨hi, _⟩ := h
    simp only []; omega
theorem index_calls (A0 : Option Addr) (c0 : Nat) (l0 : List S35) (s : ByteArray) (b : Addr) (w : World) (hr0 : Kd.C k35 w A0 l0.length l0) (hb : w.cell? b = some (.string s)) :
    Calls Tryz.prog 87 #[.slice A0 l0.length c0, .func (Fn.func 88) #[] #[.pointer (some b)]] w fun e w' => e = .returned (.int .i64 (fi l0 s)) ∧ Below w.heap.size w w' := by
  have HR := Aside0.mk hr0
  have HBX := Aside0.mk hb
  have hL : l0.length ≤ 9223372036854775807 := hr0.2.1
  clear hr0 hb
  go_enter Tryz.func87, Tryz.ntmps87
  go_wp2
  go_loopg [8] l0.length (fun kq v8 w' => ∃ i : Nat, v8 = .int .i64 i ∧ Aside0 (i + kq = l0.length) ∧ Aside0 (fnd l0 s i = false) ∧ Aside0 (Below w.heap.size w w'))
  case atStart => exact ⟨0, rfl, ⟨by omega⟩, ⟨rfl⟩, ⟨Below.refl _ _⟩⟩
  case round =>
    obtain ⟨i, rfl, HK, HP, HB⟩ := hrel
    have hk := HK.out
    by_cases hlt : i < l0.length
    · have c1 : decide ((i : Int) < l0.length) = true := by simpa using hlt
      obtain ⟨ad, rfl, hx0, hx1, hx2⟩ := at_T35 HR.out (i : Int) (by omega) (by omega)
      replace hx0 := (HB.out.cell (World.block_lt_of_cell? w _ hx0)).trans hx0
      replace hx1 := (HB.out.cell (World.block_lt_of_cell? w _ hx1)).trans hx1
      replace hx2 := (HB.out.cell (World.block_lt_of_cell? w _ hx2)).trans hx2
      simp only [Int.toNat_natCast] at hx0 hx1 hx2
      have hsn : fnd l0 s (i + 1) = (fnd l0 s i || sEq (rd_T35 l0 i).f0 s) := rfl
      rw [HP.out, Bool.false_or] at hsn
      have HAT := Aside0.mk (fun he => fi_at HP.out hlt he)
      obtain ⟨p, hp⟩ : ∃ p, p = rd_T35 l0 i := ⟨_, rfl⟩
      rw [← hp] at hsn hx0 hx1 hx2 HAT
      clear hp
      have V := same_calls p.f0 p.f1 p.f2 s b wr ((HB.out.cell (World.block_lt_of_cell? w _ HBX.out)).trans HBX.out)
      by_cases d1 : sEq p.f0 s = true
      · rw [d1] at V
        have HF := Aside0.mk (HAT.out d1)
        clear HAT hsn d1
        go_wp2_with (go_at_call 88; refine V.mono ?_; rintro e w5 ⟨rfl, hq⟩; have HQ := Aside0.mk hq; clear hq)
        go_ret
        exact ⟨ret_int HF.out.symm, below_step HB.out HQ.out⟩
      · have d1 : sEq p.f0 s = false := by simpa using d1
        rw [d1] at V hsn
        have HSN := Aside0.mk hsn
        clear HAT hsn d1
        go_wp2_with (go_at_call 88; refine V.mono ?_; rintro e w5 ⟨rfl, hq⟩; have HQ := Aside0.mk hq; clear hq)
        go_roundg (gk - 1)
        case measure => omega
        case rel => exact ⟨i + 1, by go_num, ⟨by omega⟩, HSN, ⟨below_step HB.out HQ.out⟩⟩
    · have c1 : decide ((i : Int) < l0.length) = false := by simpa using hlt
      have hi : i = l0.length := by omega
      have HF := Aside0.mk (show fi l0 s = -1 from fi_none (hi ▸ HP.out))
      clear hi
      go_wp2
      go_ret
      exact ⟨ret_int HF.out.symm, HB.out⟩
def substitution_find.f (l0 : List S35) (s : ByteArray) : Option (ByteArray × Int × Int × Bool) :=
  some (if fi l0 s < 0 then (ByteArray.empty, 0, 0, false) else ((rd_T35 l0 (fi l0 s)).f0, (rd_T35 l0 (fi l0 s)).f1, (rd_T35 l0 (fi l0 s)).f2, true))
theorem substitution_find.calls (A0 : Option Addr) (c0 : Nat) (l0 : List S35) (s : ByteArray) (r1 : ByteArray) (r2 r3 : Int) (r4 : Bool) (w : World) (hr0 : Kd.C k35 w A0 l0.length l0) (hc0 : l0.length ≤ c0) (h : substitution_find.f l0 s = some (r1, r2, r3, r4)) :
    Calls Tryz.prog 69 #[.slice A0 l0.length c0, .string s] w fun e w' => e = .returned (.tuple #[.agg #[.string r1, .int .i64 r2, .int .i64 r3], .bool r4]) ∧ Below w.heap.size w w' := by
  have HR := Aside0.mk hr0
  have hL : l0.length ≤ 9223372036854775807 := hr0.2.1
  have h := Option.some.inj h
  clear hr0
  have V : ∀ wA : World, Below w.heap.size w wA → wA.cell? ⟨w.heap.size, 0, none⟩ = some (.string s) → Calls Tryz.prog 87 #[.slice A0 l0.length c0, .func (Fn.func 88) #[] #[.pointer (some ⟨w.heap.size, 0, none⟩)]] wA fun e w' => e = .returned (.int .i64 (fi l0 s)) ∧ Below wA.heap.size wA w' :=
    fun wA hb hc => index_calls A0 c0 l0 s ⟨w.heap.size, 0, none⟩ wA (Kd.C_below HR.out hb) hc
  by_cases hf : fi l0 s < 0
  · rw [if_pos hf] at h
    have c1 : decide (fi l0 s < 0) = true := by simpa using hf
    have h : (ByteArray.empty, (0 : Int), (0 : Int), false) = (r1, r2, r3, r4) := h
    cases h
    go_enter Tryz.func69, Tryz.ntmps69
    go_wp2_with (go_at_call 87; refine (V _ ?g1 ?g2).mono ?_; (case g1 => exact below_alloc (below_alloc (Below.refl _ _) _) _); (case g2 => exact blk_cell (blk_alloc (blk_new _ _) _) 0); rintro e w5 ⟨rfl, hq⟩; have HQ := Aside0.mk (below_step (below_alloc (below_alloc (Below.refl _ _) _) _) hq); have HZ := blk_below (blk_new _ _) hq; clear hq; simp only [World.size_alloc] at HZ; have hz0 := blk_cell HZ 0; have hz1 := blk_cell HZ 1; have hz2 := blk_cell HZ 2; have hf0 := blk_frozen HZ 0; have hf1 := blk_frozen HZ 1; have hf2 := blk_frozen HZ 2; replace HZ := Aside0.mk HZ)
    have HW := HZ.out
    refine bodyPost_ret (results_row2 rfl _ _ (w.heap.size + 1) 35 #[.string .empty, .int .i64 0, .int .i64 0] (0, 0) _ rfl (blk_put (blk_put (blk_put HW 0 _ rfl) 1 _ rfl) 2 _ rfl) Tryz.underlying35 rfl size35) rfl ?_
    exact ⟨rfl, below_set (below_set (below_set HQ.out (by omega)) (by omega)) (by omega)⟩
  · rw [if_neg hf] at h
    have c1 : decide (fi l0 s < 0) = false := by simpa using hf
    have hlt : fi l0 s < l0.length := fi_lt l0 s
    obtain ⟨ad, rfl, hx0, hx1, hx2⟩ := at_T35 HR.out (fi l0 s) (by omega) hlt
    obtain ⟨p, hp⟩ : ∃ p, p = rd_T35 l0 (fi l0 s) := ⟨_, rfl⟩
    rw [← hp] at h hx0 hx1 hx2
    clear hp
    have h : (p.f0, p.f1, p.f2, true) = (r1, r2, r3, r4) := h
    cases h
    go_enter Tryz.func69, Tryz.ntmps69
    go_wp2_with (go_at_call 87; refine (V _ ?g1 ?g2).mono ?_; (case g1 => exact below_alloc (below_alloc (Below.refl _ _) _) _); (case g2 => exact blk_cell (blk_alloc (blk_new _ _) _) 0); rintro e w5 ⟨rfl, hq⟩; have HQ := Aside0.mk (below_step (below_alloc (below_alloc (Below.refl _ _) _) _) hq); have HZ := blk_below (blk_new _ _) hq; clear hq; simp only [World.size_alloc] at HZ; have hz0 := blk_cell HZ 0; have hz1 := blk_cell HZ 1; have hz2 := blk_cell HZ 2; have hf0 := blk_frozen HZ 0; have hf1 := blk_frozen HZ 1; have hf2 := blk_frozen HZ 2; replace HZ := Aside0.mk HZ ; have hx0 := cell_later HQ.out hx0;  have hx1 := cell_later HQ.out hx1;  have hx2 := cell_later HQ.out hx2)
    have HW := HZ.out
    refine bodyPost_ret (results_row2 rfl _ _ (w.heap.size + 1) 35 #[.string p.f0, .int .i64 p.f1, .int .i64 p.f2] (0, 0) _ rfl (blk_put (blk_put (blk_put HW 0 _ rfl) 1 _ rfl) 2 _ rfl) Tryz.underlying35 rfl size35) rfl ?_
    exact ⟨rfl, below_set (below_set (below_set HQ.out (by omega)) (by omega)) (by omega)⟩
end Go.Proofs.YtoanlppfdniiaaaGreatDoor.Q
end
