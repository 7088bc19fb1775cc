/- A part of the proof; no condition. -/
import Derived.Test.YtoanlppfdniiaaaGreatDoorX6
import Derived.Test.YtoanlppfdniiaaaGreatDoorX0
import Derived.WalkSpells
import Derived.Laws.EntriesVeiled
import Derived.WalkLawsBesides
import Derived.Deep.LoopGhost
import Derived.Lib.Strings
import Derived.Lib.Slices
import Derived.Lib.Walk
import Derived.Lib.Builder
import Derived.Lib.AppendStr
import Derived.Lib.ItoaNum
import Derived.Laws.Externs
import Derived.Laws.IdiomCopy
import Derived.Laws.BitsLemmas
section
namespace Go.Proofs.YtoanlppfdniiaaaGreatDoor
open Go.RowKit Go.Proofs.YtoanlppfdniiaaaGreatDoorW.PrintWords Go.Proofs.YtoanlppfdniiaaaGreatDoorW.PrintLast Go.Proofs.YtoanlppfdniiaaaGreatDoorW.PrintMore
set_option linter.unusedVariables false
set_option linter.unusedSimpArgs false
def fnV (f : Nat) : Value := .func (Fn.func f) #[] #[]
def kFn : Kd Nat := Kd.scalar fnV (fun _ => rfl)
namespace Id
def up (c : Int) : Bool := decide (65 ≤ c) && decide (c ≤ 90)
def dg (c : Int) : Bool := decide (48 ≤ c) && decide (c ≤ 57)
def an (c : Int) : Bool := up c || dg c
def rf (c : Int) : Bool := an c || decide (c = 45)
end Id
theorem ret_bool {a b : Bool} (h : a = b) : Ending.returned (.bool a) = .returned (.bool b) := by rw [h]
theorem letter_calls (c : Int) (w : World) : Calls Tryz.prog 110 #[.int .u8 c] w fun e w' => e = .returned (.bool (Id.up c)) ∧ w' = w := by
  by_cases h1 : c ≥ 65
  · go_enter Tryz.func110, Tryz.ntmps110
    go_wp2
    go_ret
    exact ⟨ret_bool (by simp [Id.up]; omega), rfl⟩
  · go_enter Tryz.func110, Tryz.ntmps110
    go_wp2
    go_ret
    exact ⟨ret_bool (by simp [Id.up]; omega), rfl⟩
theorem digit_calls (c : Int) (w : World) : Calls Tryz.prog 112 #[.int .u8 c] w fun e w' => e = .returned (.bool (Id.dg c)) ∧ w' = w := by
  by_cases h1 : c ≥ 48
  · go_enter Tryz.func112, Tryz.ntmps112
    go_wp2
    go_ret
    exact ⟨ret_bool (by simp [Id.dg]; omega), rfl⟩
  · go_enter Tryz.func112, Tryz.ntmps112
    go_wp2
    go_ret
    exact ⟨ret_bool (by simp [Id.dg]; omega), rfl⟩
theorem alnum_calls (c : Int) (w : World) : Calls Tryz.prog 111 #[.int .u8 c] w fun e w' => e = .returned (.bool (Id.an c)) ∧ w' = w := by
  by_cases h1 : Id.up c = true
  · have e1 : Id.an c = true := by simp [Id.an, h1]
    rw [e1]
    have L := (letter_calls c w); rw [h1] at L
    clear h1 e1
    go_enter Tryz.func111, Tryz.ntmps111
    go_wp2_with (go_at_call 110; refine L.mono ?_; rintro e w' ⟨rfl, rfl⟩)
    go_ret
    exact ⟨rfl, rfl⟩
  · have h1 : Id.up c = false := by simpa using h1
    have e1 : Id.an c = Id.dg c := by simp [Id.an, h1]
    rw [e1]
    have L := (letter_calls c w); rw [h1] at L
    clear h1 e1
    go_enter Tryz.func111, Tryz.ntmps111
    go_wp2_with (first | (go_at_call 110; refine L.mono ?_; rintro e w' ⟨rfl, rfl⟩) | (go_at_call 112; refine (digit_calls _ _).mono ?_; rintro e w' ⟨rfl, rfl⟩))
    go_ret
    exact ⟨rfl, rfl⟩
theorem refch_calls (c : Int) (w : World) : Calls Tryz.prog 114 #[.int .u8 c] w fun e w' => e = .returned (.bool (Id.rf c)) ∧ w' = w := by
  by_cases h1 : Id.an c = true
  · have e1 : Id.rf c = true := by simp [Id.rf, h1]
    rw [e1]
    have L := (alnum_calls c w); rw [h1] at L
    clear h1 e1
    go_enter Tryz.func114, Tryz.ntmps114
    go_wp2_with (go_at_call 111; refine L.mono ?_; rintro e w' ⟨rfl, rfl⟩)
    go_ret
    exact ⟨rfl, rfl⟩
  · have h1 : Id.an c = false := by simpa using h1
    have e1 : Id.rf c = (c == 45) := by simp [Id.rf, h1]; rfl
    rw [e1]
    have L := (alnum_calls c w); rw [h1] at L
    clear h1 e1
    go_enter Tryz.func114, Tryz.ntmps114
    go_wp2_with (first | (go_at_call 111; refine L.mono ?_; rintro e w' ⟨rfl, rfl⟩))
    go_ret
    exact ⟨rfl, rfl⟩
def fnB (f : Nat) (c : Int) : Bool := if f = 110 then Id.up c else if f = 111 then Id.an c else if f = 112 then Id.dg c else Id.rf c
def fnOk (f : Nat) : Prop := f = 110 ∨ f = 111 ∨ f = 112 ∨ f = 114
theorem fn_calls (f : Nat) (hf : fnOk f) (c : Int) (w : World) : Calls Tryz.prog f #[.int .u8 c] w fun e w' => e = .returned (.bool (fnB f c)) ∧ w' = w := by
  rcases hf with rfl | rfl | rfl | rfl
  · exact letter_calls c w
  · exact alnum_calls c w
  · exact digit_calls c w
  · exact refch_calls c w
def pfTo (fs : List Nat) (s : ByteArray) : Nat → Bool
  | 0 => true
  | k + 1 => pfTo fs s k && (decide (s.size ≤ k) || fnB (fs.getD k 0) (bt s k))
def pfOk (fs : List Nat) (sh : Int) (s : ByteArray) : Bool := pfTo fs s fs.length && decide (sh ≤ s.size) && decide (s.size ≤ fs.length)
theorem pfTo_mono {fs : List Nat} {s : ByteArray} {i : Nat} (h : pfTo fs s i = false) : ∀ j, i ≤ j → pfTo fs s j = false
  | 0, hj => by obtain rfl : i = 0 := by omega
                exact h
  | j + 1, hj => by
    by_cases e : i = j + 1
    · subst e; exact h
    · simp [pfTo, pfTo_mono h j (by omega)]
theorem pfOk_bad {fs : List Nat} {sh : Int} {s : ByteArray} {i : Nat} (hi : i + 1 ≤ fs.length) (h : pfTo fs s (i + 1) = (true && (false || false))) : pfOk fs sh s = false := by
  simp [pfOk, pfTo_mono (by simpa using h) fs.length hi]
set_option maxHeartbeats 8000000 in
set_option maxRecDepth 100000 in
theorem prefix_calls (fs : List Nat) (A : Option Addr) (c0 : Nat) (sh : Int) (s : ByteArray) (w : World) (hr : kFn.C w A fs.length fs) (hf : ∀ f ∈ fs, fnOk f) (hl : fs.length ≤ 1000) :
    Calls Tryz.prog 101 #[.slice A fs.length c0, .int .i64 sh, .string s] w fun e w' => ∃ a n, e = .returned (.tuple #[.int .i64 a, .int .i64 n]) ∧ (n == 0) = pfOk fs sh s ∧ Below w.heap.size w w' := by
  have HR := Aside0.mk hr
  have HF := Aside0.mk hf
  clear hr hf
  go_enter Tryz.func101, Tryz.ntmps101
  go_wp2
  go_loopg [12] fs.length (fun kq v12 w' => ∃ i : Nat, v12 = .int .i64 i ∧ Aside0 (i + kq = fs.length) ∧ Aside0 (pfTo fs s i = true) ∧ Aside0 (Below w.heap.size w w'))
  case atStart => exact ⟨0, rfl, ⟨by omega⟩, ⟨rfl⟩, ⟨Below.refl _ _⟩⟩
  case round =>
    obtain ⟨i, rfl, HK, HP, HB⟩ := hrel
    have hk := HK.out
    by_cases hlt : i < fs.length
    · have c1 : decide ((i : Int) < fs.length) = true := by simpa using hlt
      obtain ⟨ad, rfl, hx⟩ : ∃ ad, A = some ad ∧ w.cell? (ad.add i) = some (.func (Fn.func (fs.getD i 0)) #[] #[]) := by
        obtain ⟨ad, h1, h2⟩ := ReadsOf.at_ (Kd.reads_of_C (enc := fnV) (d := 0) (h1 := fun _ => rfl) HR.out) (i : Int) (by omega) (by omega)
        exact ⟨ad, h1, by simpa [rdOf, fnV] using h2⟩
      replace hx := (HB.out.cell (World.block_lt_of_cell? w _ hx)).trans hx
      have hfk : fnOk (fs.getD i 0) := by rw [List.getD_eq_getElem?_getD, List.getElem?_eq_getElem hlt]; exact HF.out _ (List.getElem_mem hlt)
      have hsn : pfTo fs s (i + 1) = (pfTo fs s i && (decide (s.size ≤ i) || fnB (fs.getD i 0) (bt s i))) := rfl
      rw [HP.out] at hsn
      obtain ⟨f, hff⟩ : ∃ f, f = fs.getD i 0 := ⟨_, rfl⟩
      rw [← hff] at hx hfk hsn
      have HSN := Aside0.mk hsn
      have HFK := Aside0.mk hfk
      clear hff hsn hfk
      by_cases hs1 : i < s.size
      · have c2 : decide ((i : Int) < s.size) = true := by simpa using hs1
        have hx4 : ((s[i]'hs1).toNat : Int) = bt s i := bt_at s (i : Int) (by simpa using hs1)
        have c3 : decide (s.size ≤ i) = false := by simpa using hs1
        replace HSN := HSN.out
        rw [c3] at HSN
        clear c3
        by_cases hb : fnB f (bt s i) = true
        · have L := fn_calls f HFK.out (bt s i) wr
          rw [hb] at L HSN
          replace HSN := Aside0.mk HSN
          clear hb
          have hfk := HFK.out
          clear HFK
          rcases hfk with rfl | rfl | rfl | rfl
          all_goals
            go_wp2_with (first | (go_at_call 110; refine L.mono ?_; rintro e w' ⟨rfl, rfl⟩) | (go_at_call 111; refine L.mono ?_; rintro e w' ⟨rfl, rfl⟩) | (go_at_call 112; refine L.mono ?_; rintro e w' ⟨rfl, rfl⟩) | (go_at_call 114; refine L.mono ?_; rintro e w' ⟨rfl, rfl⟩))
            go_roundg (gk - 1)
            case measure => omega
            case rel => exact ⟨i + 1, by go_num, ⟨by omega⟩, ⟨by rw [HSN.out]; rfl⟩, HB⟩
        · have hb : fnB f (bt s i) = false := by simpa using hb
          have L := fn_calls f HFK.out (bt s i) wr
          rw [hb] at L HSN
          replace HSN := Aside0.mk HSN
          clear hb
          have hfk := HFK.out
          clear HFK
          rcases hfk with rfl | rfl | rfl | rfl
          all_goals
            go_wp2_with (first | (go_at_call 110; refine L.mono ?_; rintro e w' ⟨rfl, rfl⟩) | (go_at_call 111; refine L.mono ?_; rintro e w' ⟨rfl, rfl⟩) | (go_at_call 112; refine L.mono ?_; rintro e w' ⟨rfl, rfl⟩) | (go_at_call 114; refine L.mono ?_; rintro e w' ⟨rfl, rfl⟩))
            go_ret2
            exact ⟨_, _, rfl, (pfOk_bad (by omega) HSN.out).symm, HB.out⟩
      · have c2 : decide ((i : Int) < s.size) = false := by simpa using hs1
        have c3 : decide (s.size ≤ i) = true := by simpa using hs1
        replace HSN := HSN.out
        rw [c3] at HSN
        replace HSN := Aside0.mk HSN
        clear c3 HFK
        go_wp2
        go_roundg (gk - 1)
        case measure => omega
        case rel => exact ⟨i + 1, by go_num, ⟨by omega⟩, ⟨by rw [HSN.out]; rfl⟩, HB⟩
    · have c1 : decide ((i : Int) < fs.length) = false := by simpa using hlt
      obtain rfl : i = fs.length := by omega
      by_cases h2 : (s.size : Int) < sh
      · have c2 : decide ((s.size : Int) < sh) = true := by simpa using h2
        go_wp2
        go_ret2
        exact ⟨_, _, rfl, by simp [pfOk, HP.out]; omega, HB.out⟩
      · have c2 : decide ((s.size : Int) < sh) = false := by simpa using h2
        by_cases h3 : fs.length < s.size
        · have c3 : decide ((fs.length : Int) < s.size) = true := by simpa using h3
          go_wp2
          go_ret2
          exact ⟨_, _, rfl, by simp [pfOk, HP.out]; omega, HB.out⟩
        · have c3 : decide ((fs.length : Int) < s.size) = false := by simpa using h3
          go_wp2
          go_ret2
          exact ⟨_, _, rfl, by simp [pfOk, HP.out]; omega, HB.out⟩
theorem info180 : (Tryz.prog.info? 180).map (fun i => (i.zero, i.size, i.bytes)) = some (some .nilFunc, 1, 8) := by kernel_rfl
def cl (sp : List (Int × Nat)) : List Nat := sp.flatMap fun p => List.replicate p.1.toNat p.2
theorem cl_snoc (sp : List (Int × Nat)) (i : Nat) (h : i < sp.length) : cl (sp.take (i + 1)) = cl (sp.take i) ++ List.replicate (sp.getD i (0, 0)).1.toNat (sp.getD i (0, 0)).2 := by
  rw [List.take_succ_eq_append_getElem h, cl, List.flatMap_append]; simp [cl, List.getD_eq_getElem?_getD, List.getElem?_eq_getElem h]
theorem cl_len (sp : List (Int × Nat)) (h : ∀ p ∈ sp, 0 ≤ p.1 ∧ p.1 ≤ 100) : (cl sp).length ≤ 100 * sp.length := by
  induction sp with
  | nil => simp [cl]
  | cons p l ih =>
    have h1 := ih (fun q hq => h q (List.mem_cons_of_mem _ hq))
    have h2 := h p List.mem_cons_self
    have e : (cl (p :: l)).length = p.1.toNat + (cl l).length := by simp [cl]
    rw [e, List.length_cons]; omega
def IsSpans (w : World) (A : Option Addr) (sp : List (Int × Nat)) : Prop := ∀ i, i < sp.length → ∃ ad, A = some ad ∧ w.cell? (ad.add (i * 2)) = some (.int .i64 (sp.getD i (0, 0)).1) ∧ w.cell? ⟨(ad.add (i * 2)).block, (ad.add (i * 2)).off + 1, none⟩ = some (.func (Fn.func (sp.getD i (0, 0)).2) #[] #[])
set_option maxHeartbeats 400000 in
set_option maxRecDepth 100000 in
theorem classes_calls (sp : List (Int × Nat)) (A : Option Addr) (sh bd : Int) (fv : Value) (w : World) (hs : IsSpans w A sp) (hl : sp.length ≤ 100) (hp : ∀ p ∈ sp, 0 ≤ p.1 ∧ p.1 ≤ 100) :
    Calls Tryz.prog 102 #[.agg #[.int .i64 sh, .slice A sp.length sp.length, .int .i64 bd, fv]] w fun e w' => ∃ v, e = .returned v ∧ kFn.R 180 w' w.heap.size (fun _ => True) v (cl sp) ∧ Below w.heap.size w w' := by
  have HS := Aside0.mk hs
  have HP := Aside0.mk hp
  clear hs hp
  go_enter Tryz.func102, Tryz.ntmps102
  go_wp2
  go_loopg [3, 9] sp.length (fun kq v3 v9 w' => ∃ i : Nat, v9 = .int .i64 i ∧ Aside0 (i + kq = sp.length) ∧ Aside0 (kFn.R 180 w' w.heap.size (fun _ => True) v3 (cl (sp.take i))) ∧ Aside0 (Below w.heap.size w w'))
  case atStart => exact ⟨0, rfl, ⟨by omega⟩, ⟨Kd.R_nil _ _ _ _ _⟩, ⟨below_alloc (Below.refl _ _) _⟩⟩
  case round =>
    obtain ⟨i, rfl, HK, HO, HB⟩ := hrel
    have := HK.out
    by_cases hlt : i < sp.length
    · have c1 : decide ((i : Int) < sp.length) = true := by simpa using hlt
      obtain ⟨ad, rfl, hx0, hx1⟩ := HS.out i hlt
      have hsn := cl_snoc sp i hlt
      have hpi := HP.out (sp.getD i (0, 0)) (by rw [List.getD_eq_getElem?_getD, List.getElem?_eq_getElem hlt]; exact List.getElem_mem hlt)
      replace hx0 := (HB.out.cell (World.block_lt_of_cell? w _ hx0)).trans hx0
      replace hx1 := (HB.out.cell (World.block_lt_of_cell? w _ hx1)).trans hx1
      obtain ⟨nn, ff, hnf⟩ : ∃ nn ff, sp.getD i (0, 0) = (nn, ff) := ⟨_, _, rfl⟩
      rw [hnf] at hx0 hx1 hsn hpi
      have HSN := Aside0.mk hsn
      have hn0 : 0 ≤ nn := hpi.1
      have hn1 : nn ≤ 100 := hpi.2
      clear hnf hsn hpi
      dsimp only at hx0 hx1
      obtain ⟨wo, rfl⟩ : ∃ wo : World, wo = wr := ⟨_, rfl⟩
      obtain ⟨g0, rfl⟩ : ∃ g0 : Nat, g0 = gk := ⟨_, rfl⟩
      go_wp2
      go_loopg [3, 15] nn.toNat (fun kq v3 v15 w' => ∃ j : Nat, v15 = .int .i64 j ∧ Aside0 (j + kq = nn.toNat) ∧ Aside0 (kFn.R 180 w' w.heap.size (fun _ => True) v3 (cl (sp.take i) ++ List.replicate j ff)) ∧ Aside0 (Below w.heap.size w w') ∧ Aside0 (w'.heap[wo.heap.size]? = some (.cells #[.int .i64 nn, .func (Fn.func ff) #[] #[]] 182 (0, 0))))
      case atStart => exact ⟨0, rfl, ⟨by omega⟩, ⟨by simpa using Kd.R_alloc HO.out _⟩, ⟨below_alloc HB.out _⟩, ⟨blk_new _ _⟩⟩
      case round =>
        obtain ⟨j, rfl, HK2, HO2, HB2, HC⟩ := hrel
        have hk2 := HK2.out
        by_cases hj : (j : Int) < nn
        · have c2 : decide ((j : Int) < nn) = true := by simpa using hj
          have LIM : Aside0 (((cl (sp.take i) ++ List.replicate j ff).length + 1) * 8 ≤ 140737488355328) := ⟨by
            have h1 := cl_len (sp.take i) (fun p hp => HP.out p (List.mem_of_mem_take hp))
            have h2 : (sp.take i).length ≤ 100 := by rw [List.length_take]; omega
            rw [List.length_append, List.length_replicate]; omega⟩
          have hc0 := blk_cell HC.out 0
          have hc1 := blk_cell HC.out 1
          go_wp2_with (first | ((with_reducible refine gate_builtin (b := .append) (xs := #[.tmp 17, .tmp 20]) rfl ?_); at_builtin; refine Kd.R_append kFn (w0 := w) w.heap.size rfl (.tmp 17) (.tmp 20) 169 180 .nilFunc 8 rfl Tryz.underlying169 info180 rfl (by decide) (by omega) u3 (cl (sp.take i) ++ List.replicate j ff) ff [.func (Fn.func ff) #[] #[]] (fun _ => True) (fun _ => False) rfl rfl ?aP (fun _ hk => hk.elim) ?aF ?aO ?aB ?aS ?aL ?_; (case aP => exact rfl); (case aF => exact (fun _ _ => trivial)); (case aO => exact HO2.out); (case aB => exact HB2.out); (case aS => exact HB2.out.size); (case aL => exact LIM.out); intro v5 w5 ho hb hg hat; have HO5 := Aside0.mk ho; have HB5 := Aside0.mk hb; have HC5 := Aside0.mk (blk_grown HC.out hg (Kd.R_ne HO2.out HC.out (by decide))); clear ho hb hg hat HO2 HB2 HC))
          go_roundg (gk - 1)
          case measure => omega
          case rel => exact ⟨j + 1, by go_num, ⟨by omega⟩, ⟨by rw [List.replicate_succ', ← List.append_assoc]; exact HO5.out⟩, HB5, HC5⟩
        · have c2 : decide ((j : Int) < nn) = false := by simpa using hj
          obtain rfl : nn.toNat = j := by omega
          go_wp2
          go_roundg (g0 - 1)
          case measure => omega
          case rel => exact ⟨i + 1, by go_num, ⟨by omega⟩, ⟨by rw [HSN.out]; exact HO2.out⟩, HB2⟩
    · have c1 : decide ((i : Int) < sp.length) = false := by simpa using hlt
      obtain rfl : i = sp.length := by omega
      go_wp2
      go_ret
      exact ⟨_, rfl, by simpa using HO.out, HB.out⟩
theorem kinds_calls (w : World) : Calls Tryz.prog 100 #[] w fun e w' => ∃ b, b = w.heap.size ∧ e = .returned (.agg #[.int .i64 12, .slice (some ⟨b + 1, 0, none⟩) 3 3, .int .i64 11, .func (Fn.func 113) #[] #[],
     .int .i64 4, .slice (some ⟨b + 1 + 1, 0, none⟩) 2 2, .int .i64 0, .nilFunc, .int .i64 1, .slice (some ⟨b + 1 + 1 + 1, 0, none⟩) 1 1, .int .i64 0, .nilFunc,
     .int .i64 20, .slice (some ⟨b + 1 + 1 + 1 + 1, 0, none⟩) 2 2, .int .i64 18, .func (Fn.func 115) #[] #[]]) ∧
     w'.heap[b + 1]? = some (.cells #[.int .i64 2, .func (Fn.func 110) #[] #[], .int .i64 9, .func (Fn.func 111) #[] #[], .int .i64 1, .func (Fn.func 112) #[] #[]] 182 (0, 0)) ∧
     w'.heap[b + 1 + 1]? = some (.cells #[.int .i64 1, .func (Fn.func 110) #[] #[], .int .i64 7, .func (Fn.func 111) #[] #[]] 182 (0, 0)) ∧
     w'.heap[b + 1 + 1 + 1]? = some (.cells #[.int .i64 16, .func (Fn.func 114) #[] #[]] 182 (0, 0)) ∧ Below w.heap.size w w' := by
  go_enter Tryz.func100, Tryz.ntmps100
  go_wp2
  refine bodyPost_ret (v := .agg #[.int .i64 12, .slice (some ⟨w.heap.size + 1, 0, none⟩) 3 3, .int .i64 11, .func (Fn.func 113) #[] #[],
     .int .i64 4, .slice (some ⟨w.heap.size + 1 + 1, 0, none⟩) 2 2, .int .i64 0, .nilFunc, .int .i64 1, .slice (some ⟨w.heap.size + 1 + 1 + 1, 0, none⟩) 1 1, .int .i64 0, .nilFunc,
     .int .i64 20, .slice (some ⟨w.heap.size + 1 + 1 + 1 + 1, 0, none⟩) 2 2, .int .i64 18, .func (Fn.func 115) #[] #[]]) (by simp [results, Tryz.results100, go_sem]) rfl ?_
  refine ⟨_, rfl, rfl, ?_, ?_, ?_, ?_⟩
  · exact blk_alloc (blk_alloc (blk_alloc (by simpa using blk_new (w.alloc _) _) _) _) _
  · exact blk_alloc (blk_alloc (by simpa using blk_new ((w.alloc _).alloc _) _) _) _
  · exact blk_alloc (by simpa using blk_new (((w.alloc _).alloc _).alloc _) _) _
  · exact below_alloc (below_alloc (below_alloc (below_alloc (below_alloc (Below.refl _ _) _) _) _) _) _
theorem spans_of_blk {w : World} {b : Nat} {t : TypeId} {sp : List (Int × Nat)} {cs : Array Value} (h : w.heap[b]? = some (.cells cs t (0, 0))) (hc : ∀ i, i < sp.length → cs[i * 2]? = some (.int .i64 (sp.getD i (0, 0)).1) ∧ cs[i * 2 + 1]? = some (.func (Fn.func (sp.getD i (0, 0)).2) #[] #[])) : IsSpans w (some ⟨b, 0, none⟩) sp := by
  intro i hi
  have ha : ∀ j, (⟨b, 0, none⟩ : Addr).add j = ⟨b, j, none⟩ := fun j => add_plain b j
  exact ⟨_, rfl, by rw [ha, blk_cell h]; exact (hc i hi).1, by rw [ha, blk_cell h]; exact (hc i hi).2⟩
theorem IsSpans.below {w w1 : World} {A : Option Addr} {sp : List (Int × Nat)} (h : IsSpans w A sp) (hb : Below w.heap.size w w1) : IsSpans w1 A sp := fun i hi => by
  obtain ⟨ad, e, h0, h1⟩ := h i hi
  exact ⟨ad, e, pw_cell_below hb h0, pw_cell_below hb h1⟩
theorem sizeBuilder : (Tryz.prog.info? 193).map (·.size) = some 2 := by kernel_rfl
theorem liesBuilder : liesAt Tryz.prog Tryz.prog.depth 193 (2 / Tryz.prog.cellsOf 193) 0 193 1 = true := by kernel_rfl
theorem infoByte : (Tryz.prog.info? 5).map (fun i => (i.zero, i.size, i.bytes)) = some (some (.int .u8 0), 1, 1) := by kernel_rfl
set_option maxHeartbeats 1000000 in
set_option maxRecDepth 100000 in

theorem copyCheck_used (b : Nat) (w : World) (h0 : w.cell? ⟨b, 0, none⟩ = some (.pointer (some ⟨b, 0, none⟩))) :
    Calls Tryz.prog 131 #[.pointer (some ⟨b, 0, none⟩)] w fun e w' => e = .returned (.tuple #[]) ∧ w' = w := by
  obtain ⟨j, hj, _⟩ := Option.map_eq_some_iff.1 sizeBuilder
  go_enter Tryz.func131, Tryz.ntmps131
  go_wp2
  rw [Lib.run_neq_ptr_same w _ Tryz.underlying191 hj]
  go_wp2
  go_end0
  exact ⟨rfl, rfl⟩
set_option maxHeartbeats 1000000 in
set_option maxRecDepth 100000 in

theorem copyCheck_fresh (b : Nat) (w : World) (h0 : w.cell? ⟨b, 0, none⟩ = some (.pointer none)) (hsh : w.shape? b = some (193, 2)) (hfz : w.frozen? ⟨b, 0, none⟩ = false) :
    Calls Tryz.prog 131 #[.pointer (some ⟨b, 0, none⟩)] w fun e w' => e = .returned (.tuple #[]) ∧ w' = w.setCell ⟨b, 0, none⟩ (.pointer (some ⟨b, 0, none⟩)) := by
  obtain ⟨j, hj, hjs⟩ := Option.map_eq_some_iff.1 sizeBuilder
  go_enter Tryz.func131, Tryz.ntmps131
  go_wp2
  rw [Lib.run_to_unsafe w ⟨b, 0, none⟩ Tryz.underlying191 Tryz.underlying202 hj (by rw [hjs]; decide) hsh (Nat.zero_lt_succ 1)]
  simp only [Result.andThen]
  rw [Oper.upon_value]
  go_wp2
  rw [run_callFunc_extern Tryz.func133 (by kernel_rfl) (by kernel_rfl) (by kernel_rfl) (e := Extern.AbiNoEscape.same) (by kernel_rfl)]
  rw [Lib.run_noEscape]
  simp only [Result.andThen]
  rw [Oper.upon_value]
  go_wp2
  rw [Lib.run_from_unsafe w ⟨b, 0, none⟩ Tryz.underlying202 Tryz.underlying191 hj hsh liesBuilder]
  simp only [Result.andThen]
  rw [Oper.upon_value]
  go_wp2
  go_end0
  exact ⟨rfl, rfl⟩
theorem copyCheck_calls (B b : Nat) (bs : List Value) (w : World) (h : Lib.IsBuilder 193 5 B b bs w) :
    Calls Tryz.prog 131 #[.pointer (some ⟨b, 0, none⟩)] w fun e w' => e = .returned (.tuple #[]) ∧ (Lib.BuilderAt 193 5 B b (.pointer (some ⟨b, 0, none⟩)) bs w' ∧ Below B w w') := by
  rcases h with h | h
  · refine (copyCheck_fresh b w h.cell0 h.shape h.frozen0).mono ?_
    rintro e w' ⟨rfl, rfl⟩
    exact ⟨rfl, h.used _, (Below.refl B w).setCell (p := ⟨b, 0, none⟩) h.1 _⟩
  · refine (copyCheck_used b w h.cell0).mono ?_
    rintro e w' ⟨rfl, rfl⟩
    exact ⟨rfl, h, Below.refl B _⟩
set_option maxHeartbeats 2000000 in
set_option maxRecDepth 100000 in

theorem WriteByte_calls (B b : Nat) (bs : List Value) (c : Int) (w : World) (h : Lib.IsBuilder 193 5 B b bs w) (hlen : bs.length + 1 ≤ 140737488355328) (hBw : B ≤ w.heap.size) :
    Calls Tryz.prog 127 #[.pointer (some ⟨b, 0, none⟩), .int .u8 c] w fun e w' => e = .returned .nilIface ∧ (Lib.BuilderAt 193 5 B b (.pointer (some ⟨b, 0, none⟩)) (bs ++ [.int .u8 c]) w' ∧ Below B w w') := by
  obtain ⟨i0, hi, hz0, hz1, hz2⟩ := info_parts infoByte
  go_enter Tryz.func127, Tryz.ntmps127
  go_wp2_with (go_at_call 131; refine (copyCheck_calls B b bs _ h).mono ?_)
  rintro e w1 ⟨rfl, h1, hb1⟩
  obtain ⟨hB, v, hbk, hown, hne⟩ := h1
  have c0 : w1.cell? ⟨b, 0, none⟩ = some (.pointer (some ⟨b, 0, none⟩)) := by rw [Lib.cell_of_heap hbk]; rfl
  have c1 : w1.cell? ⟨b, 1, none⟩ = some v := by rw [Lib.cell_of_heap hbk]; rfl
  go_wp2_with (at_builtin; refine wpList_append_own _ rfl _ _ 190 rfl B 5 i0 (.int .u8 0) 1 1 Tryz.underlying190 hi hz0 hz1 hz2 rfl (by decide) _ _ _ rfl (hown.alloc _) ⟨w1.heap.size, 0, none⟩ 1 1 [.int .u8 c] rfl rfl ?c1 ?c2 ?c3 ?c4 ?c5 ?_)
  case c1 =>
    intro j u hj
    match j, hj with
    | 0, hj => simp at hj; subst hj; simp [Addr.add]
  case c2 => intro u hu; simp at hu; subst hu; rfl
  case c3 => unfold maxLen; omega
  case c4 => omega
  case c5 => have := hb1.size; simp; omega
  intro v' w2 hown' hgrow _
  have hlt : b < w1.heap.size := by
    rcases Nat.lt_or_ge b w1.heap.size with h' | h'
    · exact h'
    · simp [Array.getElem?_eq_none h'] at hbk
  have hb2 : w2.heap[b]? = some (.cells #[.pointer (some ⟨b, 0, none⟩), v] 193 (0, 0)) := by
    rw [hgrow.block b (by simp; omega) (fun e => hne e.symm), Lib.alloc_old w1 _ b hlt]
    exact hbk
  have d0 : w2.cell? ⟨b, 0, none⟩ = some (.pointer (some ⟨b, 0, none⟩)) := by rw [Lib.cell_of_heap hb2]; rfl
  have d1 : w2.cell? ⟨b, 1, none⟩ = some v := by rw [Lib.cell_of_heap hb2]; rfl
  have f1 : w2.frozen? ⟨b, 1, none⟩ = false := Lib.frozen_of_heap hb2 1
  obtain ⟨g, cap, rfl⟩ : ∃ g cap, v' = .slice (some ⟨g, 0, none⟩) (bs.length + 1) cap := by
    rcases hown'.2 with ⟨_, h0⟩ | ⟨g, cap, cur, hv, _⟩
    · omega
    · exact ⟨g, cap, hv⟩
  go_wp2
  go_ret
  refine ⟨rfl, ?_, ?_⟩
  · exact Lib.BuilderAt.put (T := 193) (e := 5) hB hb2 (bs' := bs ++ [.int .u8 c]) (by simpa using hown') (by decide)
  · exact ((hb1.alloc (by have := hb1.size; omega) _).grown hgrow (by have := hb1.size; simp; omega) (fun k hk => (hown.lt k hk).1)).setCell (p := ⟨b, 1, none⟩) hB _
set_option maxHeartbeats 2000000 in
set_option maxRecDepth 100000 in

theorem WriteString_calls (B b : Nat) (bs : List Value) (s : ByteArray) (w : World) (h : Lib.IsBuilder 193 5 B b bs w) (hlen : bs.length + s.size ≤ 140737488355328) (hBw : B ≤ w.heap.size) :
    Calls Tryz.prog 128 #[.pointer (some ⟨b, 0, none⟩), .string s] w fun e w' => e = .returned (.tuple #[.int .i64 s.size, .nilIface]) ∧ (Lib.BuilderAt 193 5 B b (.pointer (some ⟨b, 0, none⟩)) (bs ++ Lib.strCells s) w' ∧ Below B w w') := by
  obtain ⟨i0, hi, hz0, hz1, hz2⟩ := info_parts infoByte
  go_enter Tryz.func128, Tryz.ntmps128
  go_wp2_with (go_at_call 131; refine (copyCheck_calls B b bs _ h).mono ?_)
  rintro e w1 ⟨rfl, h1, hb1⟩
  obtain ⟨hB, v, hbk, hown, hne⟩ := h1
  have c0 : w1.cell? ⟨b, 0, none⟩ = some (.pointer (some ⟨b, 0, none⟩)) := by rw [Lib.cell_of_heap hbk]; rfl
  have c1 : w1.cell? ⟨b, 1, none⟩ = some v := by rw [Lib.cell_of_heap hbk]; rfl
  go_wp2_with (at_builtin; refine Lib.wpList_append_own_string _ rfl _ _ 190 9 rfl B 5 i0 Tryz.underlying190 Tryz.underlying9 hi hz0 hz1 hz2 _ _ _ rfl hown s rfl ?c3 ?c4 ?c5 ?_)
  case c3 => unfold maxLen; omega
  case c4 => omega
  case c5 => have := hb1.size; omega
  intro v' w2 hown' hgrow _
  have hlt : b < w1.heap.size := by
    rcases Nat.lt_or_ge b w1.heap.size with h' | h'
    · exact h'
    · simp [Array.getElem?_eq_none h'] at hbk
  have hb2 : w2.heap[b]? = some (.cells #[.pointer (some ⟨b, 0, none⟩), v] 193 (0, 0)) := by
    rw [hgrow.block b hlt (fun e => hne e.symm)]
    exact hbk
  have d0 : w2.cell? ⟨b, 0, none⟩ = some (.pointer (some ⟨b, 0, none⟩)) := by rw [Lib.cell_of_heap hb2]; rfl
  have d1 : w2.cell? ⟨b, 1, none⟩ = some v := by rw [Lib.cell_of_heap hb2]; rfl
  have f1 : w2.frozen? ⟨b, 1, none⟩ = false := Lib.frozen_of_heap hb2 1
  obtain ⟨ao, n', cap, rfl⟩ : ∃ ao n' cap, v' = .slice ao n' cap := by
    rcases hown'.2 with ⟨hv, _⟩ | ⟨g, cap, cur, hv, _⟩
    · exact ⟨_, _, _, hv⟩
    · exact ⟨_, _, _, hv⟩
  go_wp2
  go_ret2
  refine ⟨rfl, ?_, ?_⟩
  · exact Lib.BuilderAt.put (T := 193) (e := 5) hB hb2 (bs' := bs ++ Lib.strCells s) (by simpa [Lib.strCells_length] using hown') (by decide)
  · exact (hb1.grown hgrow (by have := hb1.size; omega) (fun k hk => (hown.lt k hk).1)).setCell (p := ⟨b, 1, none⟩) hB _
def exc (b : UInt8) : List UInt8 := if Id.dg b.toNat then [b] else Lib.decDigits (b.toNat - 55)
def exU (l : List UInt8) : List UInt8 := l.flatMap exc
theorem exU_snoc (s : ByteArray) (i : Nat) (h : i < s.size) : exU (s.data.toList.take (i + 1)) = exU (s.data.toList.take i) ++ exc (s[i]'h) := by
  rw [List.take_succ_eq_append_getElem (by simpa using h), exU, List.flatMap_append]; simp [exU]; rfl
theorem byteCells_append (a b : List UInt8) : Lib.byteCells (a ++ b) = Lib.byteCells a ++ Lib.byteCells b := by simp [Lib.byteCells]
theorem exc_len (b : UInt8) (h : Id.an b.toNat = true) : (exc b).length ≤ 2 := by
  unfold exc
  split
  · simp
  · rename_i hd
    simp [Id.an, Id.up, hd] at h
    rw [Lib.decDigits_two (by omega) (by omega)]; simp
theorem exU_len (l : List UInt8) (h : ∀ b ∈ l, Id.an b.toNat = true) : (exU l).length ≤ 2 * l.length := by
  induction l with
  | nil => simp [exU]
  | cons b r ih =>
    have h1 := ih (fun x hx => h x (List.mem_cons_of_mem _ hx))
    have h2 := exc_len b (h b List.mem_cons_self)
    have e : (exU (b :: r)).length = (exc b).length + (exU r).length := by simp [exU]
    rw [e, List.length_cons]; omega
set_option maxHeartbeats 2000000 in
set_option maxRecDepth 100000 in
theorem expand_calls (s : ByteArray) (w : World) (hs : s.size ≤ 1000) (han : ∀ b ∈ s.data.toList, Id.an b.toNat = true) :
    Calls Tryz.prog 122 #[.string s] w fun e w' => e = .returned (.string ⟨(exU s.data.toList).toArray⟩) ∧ Below w.heap.size w w' := by
  have HAN := Aside0.mk han
  clear han
  have HI := Aside0.mk (Lib.fresh_isBuilder 193 5 w)
  go_enter Tryz.func122, Tryz.ntmps122
  go_wp2
  go_loopg [7] s.size (fun kq v7 w' => ∃ i : Nat, v7 = .int .i64 i ∧ Aside0 (i + kq = s.size) ∧ Aside0 (Lib.IsBuilder 193 5 w.heap.size w.heap.size (Lib.byteCells (exU (s.data.toList.take i))) w') ∧ Aside0 (Below w.heap.size w w'))
  case atStart => exact ⟨0, rfl, ⟨by omega⟩, ⟨by simpa [exU, Lib.byteCells] using HI.out⟩, ⟨below_alloc (Below.refl _ _) _⟩⟩
  case round =>
    clear HI
    obtain ⟨i, rfl, HK, HI, HB⟩ := hrel
    have hk := HK.out
    by_cases hlt : i < s.size
    · have c1 : decide ((i : Int) < s.size) = true := by simpa using hlt
      have hsn := exU_snoc s i hlt
      have hmem : s[i]'hlt ∈ s.data.toList := by
        have : s[i]'hlt = s.data.toList[i]'(by simpa using hlt) := rfl
        rw [this]; exact List.getElem_mem _
      have hu := HAN.out _ hmem
      have hle := exU_len (s.data.toList.take i) (fun b hb => HAN.out b (List.mem_of_mem_take hb))
      have hle2 : (s.data.toList.take i).length ≤ i := List.length_take_le _ _
      have HLE : Aside0 ((exU (s.data.toList.take i)).length ≤ 2000) := ⟨by omega⟩
      obtain ⟨u, huu⟩ : ∃ u, u = s[i]'hlt := ⟨_, rfl⟩
      rw [← huu] at hsn hu
      have hx4 : ((s[i]'hlt).toNat : Int) = (u.toNat : Int) := by rw [huu]
      have HSN := Aside0.mk hsn
      have HU := Aside0.mk hu
      clear hsn hu hmem hle hle2 huu
      by_cases hd : Id.dg u.toNat = true
      · have L := fun w => digit_calls u.toNat w
        rw [hd] at L
        have HD := Aside0.mk hd
        clear hd
        go_wp2_with (first | (go_at_call 112; refine (L _).mono ?_; rintro e w' ⟨rfl, rfl⟩) | (go_at_call 127; refine (WriteByte_calls w.heap.size w.heap.size (Lib.byteCells (exU (s.data.toList.take i))) u.toNat _ HI.out ?aL ?aB).mono ?_; (case aL => have := HLE.out; simp [Lib.byteCells]; omega); (case aB => exact HB.out.size); rintro e w5 ⟨rfl, hb5, hq5⟩; have HI5 := Aside0.mk hb5; have HB5 := Aside0.mk hq5; clear hb5 hq5))
        go_roundg (gk - 1)
        case measure => omega
        case rel => exact ⟨i + 1, by go_num, ⟨by omega⟩, ⟨.inr (by rw [HSN.out, byteCells_append, exc, if_pos HD.out]; exact HI5.out)⟩, ⟨HB.out.trans HB5.out⟩⟩
      · have hd : Id.dg u.toNat = false := by simpa using hd
        have hup := HU.out
        rw [Id.an, hd, Bool.or_false] at hup
        simp only [Id.up, Bool.and_eq_true, decide_eq_true_eq] at hup
        have L := fun w => digit_calls u.toNat w
        rw [hd] at L
        have hexc : exc u = Lib.decDigits (u.toNat - 55) := by rw [exc, hd]; rfl
        rw [hexc] at HSN
        have HD := Aside0.mk (show (Lib.decDigits (u.toNat - 55)).length = 2 from by rw [Lib.decDigits_two (by omega) (by omega)]; rfl)
        have b1 : 65 ≤ (u.toNat : Int) := hup.1
        have b2 : (u.toNat : Int) ≤ 90 := hup.2
        have hsz : (⟨(Lib.decDigits (u.toNat - 55)).toArray⟩ : ByteArray).size = 2 := by rw [show (⟨(Lib.decDigits (u.toNat - 55)).toArray⟩ : ByteArray).size = (Lib.decDigits (u.toNat - 55)).length from by simp [ByteArray.size]]; exact HD.out
        have HSZ := Aside0.mk hsz
        clear hd hup hexc hsz
        go_wp2_with (first | (go_at_call 112; refine (L _).mono ?_; rintro e w' ⟨rfl, rfl⟩))
        rw [show ((u.toNat : Int) - 65 + 10) = ((u.toNat - 55 : Nat) : Int) from by omega]
        refine (Tryz.strconv_Itoa_small (u.toNat - 55) (by omega) _).mono ?_
        rintro e w' ⟨rfl, rfl⟩
        go_wp2_with (go_at_call 128; refine (WriteString_calls w.heap.size w.heap.size (Lib.byteCells (exU (s.data.toList.take i))) _ _ HI.out ?aL ?aB).mono ?_; (case aL => have := HLE.out; have := HSZ.out; simp [Lib.byteCells]; omega); (case aB => exact HB.out.size); rintro e w5 ⟨rfl, hb5, hq5⟩; have HI5 := Aside0.mk hb5; have HB5 := Aside0.mk hq5; clear hb5 hq5)
        go_roundg (gk - 1)
        case measure => omega
        case rel => exact ⟨i + 1, by go_num, ⟨by omega⟩, ⟨.inr (by rw [HSN.out, byteCells_append]; exact HI5.out)⟩, ⟨HB.out.trans HB5.out⟩⟩
    · have c1 : decide ((i : Int) < s.size) = false := by simpa using hlt
      have hall : s.data.toList.take i = s.data.toList := List.take_of_length_le (by simp; omega)
      have HA := Aside0.mk hall
      clear hall
      go_wp2_with (go_at_call 129; refine (Tryz.Builder_String_any w.heap.size w.heap.size (exU (s.data.toList.take i)) _ HI.out HB.out.size).mono ?_; rintro e w5 ⟨rfl, hq5⟩; have HB5 := Aside0.mk hq5; clear hq5)
      go_ret
      exact ⟨congrArg (fun l => Ending.returned (.string ⟨(exU l).toArray⟩)) HA.out, HB.out.trans HB5.out⟩
theorem exc_digit (b : UInt8) (h : Id.an b.toNat = true) : ∀ c ∈ exc b, Id.dg c.toNat = true := by
  unfold exc
  split
  · rename_i hd; intro c hc; rw [List.mem_singleton.1 hc]; exact hd
  · rename_i hd
    simp [Id.an, Id.up, hd] at h
    rw [Lib.decDigits_two (by omega) (by omega)]
    intro c hc
    simp only [List.mem_cons, List.not_mem_nil, or_false] at hc
    rcases hc with rfl | rfl <;> simp [Id.dg, UInt8.toNat_ofNat'] <;> omega
theorem exU_digit (l : List UInt8) (h : ∀ b ∈ l, Id.an b.toNat = true) : ∀ c ∈ exU l, Id.dg c.toNat = true := by
  intro c hc
  obtain ⟨b, hb, hcb⟩ := List.mem_flatMap.1 hc
  exact exc_digit b (h b hb) c hcb
def lterm (i : Nat) (d : Int) : Int := if i % 2 = 0 then (2 * d) / 10 + (2 * d) % 10 else d / 10 + d % 10
def lpart (t : ByteArray) : Nat → Int
  | 0 => 0
  | k + 1 => lpart t k + lterm k (bt t ((t.size : Int) - 1 - k) - 48)
def luhnT (t : ByteArray) : Nat := ((10 - lpart t t.size % 10) % 10).toNat
theorem lterm_range (i : Nat) (d : Int) (h0 : 0 ≤ d) (h1 : d ≤ 9) : 0 ≤ lterm i d ∧ lterm i d ≤ 18 := by
  unfold lterm; split <;> omega
set_option maxHeartbeats 2000000 in
set_option maxRecDepth 100000 in
theorem luhn_calls (s : ByteArray) (w : World) (hs : s.size ≤ 1000) (han : ∀ b ∈ s.data.toList, Id.an b.toNat = true) :
    Calls Tryz.prog 113 #[.string s] w fun e w' => e = .returned (.string ⟨(Lib.decDigits (luhnT ⟨(exU s.data.toList).toArray⟩)).toArray⟩) ∧ Below w.heap.size w w' := by
  have E := expand_calls s w hs han
  have hd := exU_digit _ han
  have hl := exU_len _ han
  obtain ⟨t, ht⟩ : ∃ t : ByteArray, t = ⟨(exU s.data.toList).toArray⟩ := ⟨_, rfl⟩
  have hts : t.size ≤ 2000 := by rw [ht]; simp [ByteArray.size]; simp at hl; omega
  have htd : ∀ i : Nat, i < t.size → 48 ≤ bt t i ∧ bt t i ≤ 57 := by
    intro i hi
    have hm : t[i]'hi ∈ exU s.data.toList := by
      subst ht
      simp [ByteArray.size] at hi
      show (exU s.data.toList).toArray[i] ∈ _
      simp
    have := hd _ hm
    rw [← bt_at t i hi]
    simpa [Id.dg] using this
  rw [← ht] at E ⊢
  have HTD := Aside0.mk htd
  have HE := Lib.hid E
  clear hd hl htd ht E han
  go_enter Tryz.func113, Tryz.ntmps113
  go_wp2_with (go_at_call 122; refine (HE.out).mono ?_; rintro e w5 ⟨rfl, hq5⟩; have HB5 := Aside0.mk hq5; clear hq5)
  go_loopg [4, 11] t.size (fun kq v4 v11 w' => ∃ i : Nat, v4 = .int .i64 (lpart t i) ∧ v11 = .int .i64 i ∧ Aside0 (i + kq = t.size) ∧ Aside0 (0 ≤ lpart t i ∧ lpart t i ≤ 18 * i) ∧ Aside0 (Below w.heap.size w w'))
  case atStart => exact ⟨0, rfl, rfl, ⟨by omega⟩, ⟨by simp [lpart]⟩, HB5⟩
  case round =>
    obtain ⟨i, rfl, rfl, HK, HP, HB⟩ := hrel
    have hk := HK.out
    by_cases hlt : i < t.size
    · have c1 : decide ((i : Int) < t.size) = true := by simpa using hlt
      obtain ⟨hp0, hp1⟩ := HP.out
      have hn : t.size - 1 - i < t.size := by omega
      obtain ⟨d, hd⟩ : ∃ d : Int, d = bt t ((t.size : Int) - 1 - i) := ⟨_, rfl⟩
      have hx4 : ((t[t.size - 1 - i]'hn).toNat : Int) = d := by
        rw [hd, show ((t.size : Int) - 1 - i) = ((t.size - 1 - i : Nat) : Int) from by omega]; exact bt_at t ((t.size - 1 - i : Nat) : Int) (by simpa using hn)
      have hb : 48 ≤ d ∧ d ≤ 57 := by
        rw [hd, show ((t.size : Int) - 1 - i) = ((t.size - 1 - i : Nat) : Int) from by omega]; exact HTD.out _ hn
      obtain ⟨hb0, hb1⟩ := hb
      have hsn : lpart t (i + 1) = lpart t i + lterm i (d - 48) := by rw [hd]; rfl
      have hr := lterm_range i (d - 48) (by omega) (by omega)
      have HSN := Aside0.mk hsn
      have HR := Aside0.mk hr
      clear hsn hr hd HP
      go_wp2
      all_goals
        go_roundg (gk - 1)
        case measure => omega
        case rel =>
          refine ⟨i + 1, ?_, by go_num, ⟨by omega⟩, ⟨?_⟩, HB⟩
          · rw [HSN.out, lterm]
            first | rw [if_pos (by have := ‹((i : Int) % 2 == 0) = true›; simp at this; omega)] | rw [if_neg (by have := ‹((i : Int) % 2 == 0) = false›; simp at this; omega)]
            try go_num
          · have := HR.out; rw [HSN.out]; omega
    · have c1 : decide ((i : Int) < t.size) = false := by simpa using hlt
      obtain ⟨hp0, hp1⟩ := HP.out
      have hi : i = t.size := by omega
      have HL := Aside0.mk (show luhnT t = ((10 - lpart t i % 10) % 10).toNat from by rw [hi]; rfl)
      clear hi HP
      go_wp2_with fail
      rw [show (-(lpart t i % 10) % 10) = (((10 - lpart t i % 10) % 10).toNat : Int) from by omega]
      refine (Tryz.strconv_Itoa_small _ (by omega) _).mono ?_
      rintro e w' ⟨rfl, rfl⟩
      go_wp2
      go_ret
      exact ⟨congrArg (fun n : Nat => Ending.returned (.string ⟨(Lib.decDigits n).toArray⟩)) (by rw [HL.out]; omega), HB.out⟩
end Go.Proofs.YtoanlppfdniiaaaGreatDoor
end
