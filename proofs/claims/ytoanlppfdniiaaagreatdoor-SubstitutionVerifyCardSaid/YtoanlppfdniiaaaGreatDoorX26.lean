/- A part of the proof; no condition. -/
import Derived.Test.YtoanlppfdniiaaaGreatDoorX16
import Derived.Ground.SlsfProg
import Derived.Ground.SlgnProg
import Derived.Shelf.SlicesE.Clone
import Derived.Shelf.SlSortCmp.NoneTotal
section
namespace Go.Proofs
open Go.Shelf
def Tryz.sortPos_ren : Go.Shelf.Ren := ⟨fun | 6 => 34 | 15 => 72 | 14 => 71 | 28 => 98 | 29 => 99 | 20 => 90 | 21 => 91 | 22 => 92 | 23 => 93 | 24 => 94 | 25 => 95 | 26 => 96 | 27 => 97 | 46 => 105 | 47 => 106 | 48 => 107 | 49 => 108 | 50 => 109 | 57 => 121 | n => n, fun | 22 => 22 | 24 => 35 | 25 => 75 | 3 => 3 | 39 => 126 | 0 => 0 | 53 => 159 | 55 => 161 | 4 => 4 | 46 => 152 | 45 => 151 | 50 => 156 | 5 => 5 | 9 => 9 | 66 => 173 | 70 => 177 | 76 => 187 | 77 => 171 | n => n, fun | n => n⟩
theorem Tryz.sortPos : Go.Proofs.SlLaysF0.n6 Tryz.prog Tryz.sortPos_ren := {
  mixed := by kernel_rfl
  f6 := ⟨Tryz.f34.name, by decide, Tryz.func34.trans (congrArg some (by kernel_rfl))⟩
  f14 := ⟨Tryz.f71.name, by decide, Tryz.func71.trans (congrArg some (by kernel_rfl))⟩
  f15 := Tryz.func72.trans (congrArg some (by kernel_rfl))
  f20 := ⟨Tryz.f90.name, by decide, Tryz.func90.trans (congrArg some (by kernel_rfl))⟩
  f21 := ⟨Tryz.f91.name, by decide, Tryz.func91.trans (congrArg some (by kernel_rfl))⟩
  f22 := ⟨Tryz.f92.name, by decide, Tryz.func92.trans (congrArg some (by kernel_rfl))⟩
  f23 := ⟨Tryz.f93.name, by decide, Tryz.func93.trans (congrArg some (by kernel_rfl))⟩
  f24 := ⟨Tryz.f94.name, by decide, Tryz.func94.trans (congrArg some (by kernel_rfl))⟩
  f25 := ⟨Tryz.f95.name, by decide, Tryz.func95.trans (congrArg some (by kernel_rfl))⟩
  f26 := ⟨Tryz.f96.name, by decide, Tryz.func96.trans (congrArg some (by kernel_rfl))⟩
  f27 := ⟨Tryz.f97.name, by decide, Tryz.func97.trans (congrArg some (by kernel_rfl))⟩
  f28 := Tryz.func98.trans (congrArg some (by kernel_rfl))
  f29 := Tryz.func99.trans (congrArg some (by kernel_rfl))
  f46 := ⟨Tryz.f105.name, by decide, Tryz.func105.trans (congrArg some (by kernel_rfl))⟩
  f47 := Tryz.func106.trans (congrArg some (by kernel_rfl))
  f48 := Tryz.func107.trans (congrArg some (by kernel_rfl))
  f49 := ⟨Tryz.f108.name, by decide, Tryz.func108.trans (congrArg some (by kernel_rfl))⟩
  f50 := ⟨Tryz.f109.name, by decide, Tryz.func109.trans (congrArg some (by kernel_rfl))⟩
  f57 := ⟨Tryz.f121.name, by decide, Tryz.func121.trans (congrArg some (by kernel_rfl))⟩
  t0 := Tryz.underlying0
  a0 := Tryz.isAgg0
  z0 := Tryz.sizeOf0
  v0 := Tryz.zeroValue0
  t3 := Tryz.underlying3
  a3 := Tryz.isAgg3
  z3 := Tryz.sizeOf3
  v3 := Tryz.zeroValue3
  t4 := Tryz.underlying4
  a4 := Tryz.isAgg4
  z4 := Tryz.sizeOf4
  v4 := Tryz.zeroValue4
  t5 := Tryz.underlying5
  a5 := Tryz.isAgg5
  z5 := Tryz.sizeOf5
  v5 := Tryz.zeroValue5
  t9 := Tryz.underlying9
  a9 := Tryz.isAgg9
  z9 := Tryz.sizeOf9
  v9 := Tryz.zeroValue9
  t22 := Tryz.underlying22
  a22 := Tryz.isAgg22
  z22 := Tryz.sizeOf22
  v22 := Tryz.zeroValue22
  t25 := Tryz.underlying75
  a25 := Tryz.isAgg75
  z25 := Tryz.sizeOf75
  v25 := Tryz.zeroValue75
  t39 := Tryz.underlying126
  a39 := Tryz.isAgg126
  z39 := Tryz.sizeOf126
  v39 := Tryz.zeroValue126
  t45 := Tryz.underlying151
  a45 := Tryz.isAgg151
  z45 := Tryz.sizeOf151
  v45 := Tryz.zeroValue151
  t46 := Tryz.underlying152
  a46 := Tryz.isAgg152
  z46 := Tryz.sizeOf152
  v46 := Tryz.zeroValue152
  t50 := Tryz.underlying156
  a50 := Tryz.isAgg156
  z50 := Tryz.sizeOf156
  v50 := Tryz.zeroValue156
  t53 := Tryz.underlying159
  a53 := Tryz.isAgg159
  z53 := Tryz.sizeOf159
  v53 := Tryz.zeroValue159
  t55 := Tryz.underlying161
  a55 := Tryz.isAgg161
  z55 := Tryz.sizeOf161
  v55 := Tryz.zeroValue161
  t66 := Tryz.underlying173
  a66 := Tryz.isAgg173
  z66 := Tryz.sizeOf173
  v66 := Tryz.zeroValue173
  t70 := Tryz.underlying177
  a70 := Tryz.isAgg177
  z70 := Tryz.sizeOf177
  v70 := Tryz.zeroValue177
  t76 := Tryz.underlying187
  a76 := Tryz.isAgg187
  z76 := Tryz.sizeOf187
  v76 := Tryz.zeroValue187
  t77 := Tryz.underlying171
  a77 := Tryz.isAgg171
  z77 := Tryz.sizeOf171
  v77 := Tryz.zeroValue171 }
end Go.Proofs
namespace Go.Proofs.YtoanlppfdniiaaaGreatDoor.Q
set_option linter.unusedVariables false
set_option linter.unusedSimpArgs false
open Go.RowKit Go.Proofs.YtoanlppfdniiaaaGreatDoorW.PrintWords Go.Proofs.YtoanlppfdniiaaaGreatDoorW.PrintLast Go.Proofs.YtoanlppfdniiaaaGreatDoorW.PrintMore
open Go.Sort (SWO PermIn SortedIn grow HoldsK putRowK holdsK_grow holdsK_putRowK holdsK_ahead size_flatK get_flatK)
instance : Inhabited S35 := ⟨z35⟩
theorem isAgg35 : ∀ w, (isAgg 35).run Tryz.prog w = .ok true w := fun w => by kernel_rfl
theorem sizeOf35 : ∀ w, (Go.sizeOf 35).run Tryz.prog w = .ok 3 w := fun w => by kernel_rfl
def enc35 (x : S35) : List Value := [.string x.f0, .int .i64 x.f1, .int .i64 x.f2]
theorem enc35_one (x : S35) : ∀ v ∈ enc35 x, v.oneCell' = true := by
  intro v hv
  simp [enc35] at hv
  rcases hv with rfl | rfl | rfl <;> rfl
theorem bless_iff (a b : ByteArray) : bless a b = true ↔ a.toList < b.toList := by
  unfold bless; rw [bytesLess_eq]; simp
def ahead35 (x y : S35) : Prop := y.f2 < x.f2 ∨ (y.f2 = x.f2 ∧ x.f0.toList < y.f0.toList)
theorem lt35 (x y : S35) : ltOf cf35 x y = true ↔ ahead35 x y := by
  unfold ltOf cf35 cmpI cmpS ahead35
  by_cases h1 : y.f2 < x.f2
  · simp [h1]
  · by_cases h2 : x.f2 < y.f2
    · simp [h1, h2]; intro e; omega
    · have e : y.f2 = x.f2 := by omega
      simp only [h1, h2, if_false, if_true, false_or, e, true_and, decide_eq_true_eq]
      by_cases h3 : bless x.f0 y.f0 = true
      · simp [h3, (bless_iff _ _).1 h3]
      · have h3' := mt (bless_iff x.f0 y.f0).2 h3
        simp only [h3, h3']
        by_cases h4 : x.f0.toList = y.f0.toList <;> simp [h4]
theorem swo35 : SWO (ltOf cf35) where
  irrefl x := by
    rw [← Bool.not_eq_true, lt35]
    rintro (h | ⟨_, h⟩)
    · omega
    · exact List.lt_irrefl _ h
  trans x y z h1 h2 := by
    rw [lt35] at *
    rcases h1 with h1 | ⟨e1, h1⟩ <;> rcases h2 with h2 | ⟨e2, h2⟩
    · exact .inl (by omega)
    · exact .inl (by omega)
    · exact .inl (by omega)
    · exact .inr ⟨by omega, List.lt_trans h1 h2⟩
  ntrans x y z h1 h2 := by
    rw [← Bool.not_eq_true, lt35] at *
    unfold ahead35 at *
    rw [not_or] at *
    refine ⟨by omega, ?_⟩
    rintro ⟨e, h⟩
    have e1 : y.f2 = x.f2 := by omega
    have e2 : z.f2 = y.f2 := by omega
    have k1 : ¬ x.f0.toList < y.f0.toList := fun h => h1.2 ⟨e1, h⟩
    have k2 : ¬ y.f0.toList < z.f0.toList := fun h => h2.2 ⟨e2, h⟩
    have : z.f0.toList ≤ x.f0.toList := List.le_trans (List.not_lt.1 k2) (List.not_lt.1 k1)
    exact (List.not_lt.2 this) h
theorem HoldsK.of_cells {w : World} {g : Nat} {l : List S35} (h : ∀ i (hi : i < l.length) (c : Nat), c < 3 → w.cell? ⟨g, i * 3 + c, none⟩ = some (enc35 l[i])[c]!) (hf : ∀ j, w.frozen? ⟨g, j, none⟩ = false) : HoldsK enc35 3 w g 0 l.toArray := by
  intro j hj
  rw [size_flatK] at hj
  have hj' : j / 3 < l.length := by simp at hj; omega
  rw [get_flatK _ _ _ _ hj]
  have e : l.toArray[j / 3]! = l[j / 3] := by rw [getElem!_pos _ _ (by simpa using hj')]; simp
  refine ⟨?_, hf _⟩
  have := h (j / 3) hj' (j % 3) (by omega)
  rw [show j / 3 * 3 + j % 3 = j by omega] at this
  rw [Nat.zero_add, this, e]
  rfl
theorem below_sorted {B : Nat} {w W : World} {g n : Nat} {d : Array S35} {os : Array Obj} (h : Below B w W) (hB : B ≤ W.heap.size) (hg : B ≤ g) : Below B w (sortWorldK enc35 3 W g 0 n d os) := by
  unfold sortWorldK putRowK Go.Sort.putRow Go.Sort.mapBlock Go.Sort.grow
  refine ⟨h.os, h.tape, h.output, ?_, ?_⟩
  · have := h.size
    simp [Go.Sort.ahead]; omega
  · intro k hk
    rw [← h.block k hk]
    show ((Array.modify _ _ _) ++ os)[k]? = _
    have hks : k < W.heap.size := by omega
    rw [Array.getElem?_append_left (by simpa [Go.Sort.ahead] using hks), Array.getElem?_modify, if_neg (by omega)]
    rfl
theorem cmpLays35 (g size : Nat) (w : World) : CmpLays Tryz.prog 35 #[] enc35 3 cf35 g 0 size w :=
  fun _ _ _ _ x y => by_calls x y _
def HeldAt (w : World) (g : Nat) (l : List S35) : Prop := ∀ i, i < l.length → w.cell? ⟨g, i * 3, none⟩ = some (.string (rd_T35 l i).f0) ∧ w.cell? ⟨g, i * 3 + 1, none⟩ = some (.int .i64 (rd_T35 l i).f1) ∧ w.cell? ⟨g, i * 3 + 2, none⟩ = some (.int .i64 (rd_T35 l i).f2)
theorem rd35 {l : List S35} {i : Nat} (hi : i < l.length) : rd_T35 l (i : Int) = l[i] := by simp [rd_T35, List.getElem?_eq_getElem hi]
theorem HeldAt.of_holds {w : World} {g : Nat} {d : Array S35} (h : HoldsK enc35 3 w g 0 d) : HeldAt w g d.toList := by
  intro i hi
  have hi' : i < d.size := by simpa using hi
  have e : d[i]! = d.toList[i] := by rw [getElem!_pos d i hi']; simp
  rw [rd35 hi]
  have h0 := (HoldsK.cell (c := 0) h hi' (by decide)).1
  have h1 := (HoldsK.cell (c := 1) h hi' (by decide)).1
  have h2 := (HoldsK.cell (c := 2) h hi' (by decide)).1
  rw [e] at h0 h1 h2
  rw [Nat.zero_add] at h0 h1 h2
  exact ⟨h0, h1, h2⟩
set_option maxHeartbeats 1000000 in
set_option maxRecDepth 100000 in
theorem sort_calls (B : Nat) (g c : Nat) (l : List S35) (w : World) (hl : l.length < 4611686018427387904) (hH : HoldsK enc35 3 w g 0 l.toArray) (hg : g < w.heap.size) (hB : B ≤ g) :
    Calls Tryz.prog 34 #[.slice (some ⟨g, 0, none⟩) l.length c, .func (Fn.func 35) #[] #[]] w fun e w' => e = .returned (.tuple #[]) ∧ ∃ l' : List S35, l'.length = l.length ∧ l'.Perm l ∧ (∀ i j (hi : i < l'.length) (hj : j < l'.length), i < j → ¬ ahead35 l'[j] l'[i]) ∧ HeldAt w' g l' ∧ Below B w w' := by
  have eg : ∀ args w, (callFunc 35 args).run Tryz.prog w = .ok (.enter 35 args) w := enters_of Tryz.func35 (by kernel_rfl) rfl
  have hcon := AnyQ.slices_SortFunc Tryz.sortPos 3 isAgg35 sizeOf35 enc35 (fun _ => rfl) enc35_one cf35 swo35 35 #[] g 0 c l.toArray w eg (cmpLays35 g l.toArray.size w) hH hg (by simpa using hl)
  change Calls Tryz.prog 34 _ _ _ at hcon
  rw [List.size_toArray] at hcon
  refine hcon.mono ?_
  rintro e w' ⟨rfl, d', n, os, ⟨hs, _, hp⟩, hsrt, rfl⟩
  have hs : d'.size = l.length := by simpa using hs
  have hlen : d'.toList.length = l.length := by simpa using hs
  refine ⟨rfl, d'.toList, hlen, ?_, ?_, ?_, ?_⟩
  · have e1 : d'.extract 0 l.length = d' := by rw [← hs]; simp
    have e2 : l.toArray.extract 0 l.length = l.toArray := by simp
    rw [e1, e2] at hp
    exact hp
  · intro i j hi hj hij
    have := hsrt i j (Nat.zero_le _) hij (by omega)
    rw [← lt35]
    rw [getElem!_pos _ _ (by omega), getElem!_pos _ _ (by omega)] at this
    simpa using this
  · refine HeldAt.of_holds ?_
    unfold sortWorldK
    refine holdsK_grow enc35 3 _ os g 0 d' ?_ (holdsK_putRowK enc35 3 (Go.Sort.ahead w n) g 0 l.toArray d' (holdsK_ahead enc35 3 w n g 0 l.toArray hH) (by rw [hs]; simp))
    show g < (putRowK enc35 3 (Go.Sort.ahead w n) g 0 d').heap.size
    unfold putRowK
    rw [Go.Sort.size_putRow]
    exact hg
  · exact below_sorted (Below.refl _ _) (by omega) hB
theorem R35_empty (w : World) : k35.R 35 (w.alloc (.cells #[] 35)) w.heap.size (fun _ => True) (.slice (some ⟨w.heap.size, 0, none⟩) 0 0) [] :=
  ⟨fun _ _ => trivial, [], ⟨rfl, .inr ⟨w.heap.size, 0, #[], rfl, Nat.le_refl _, blk_new _ _, Nat.le_refl _, by decide, rfl, rfl⟩⟩, Reps.none _ _⟩
set_option maxRecDepth 100000 in
theorem clone_calls (A0 : Option Addr) (c0 : Nat) (l : List S35) (w : World) (hr : Kd.C k35 w A0 l.length l) (hl : l.length ≤ 4096) :
    Calls Tryz.prog 33 #[.slice A0 l.length c0] w fun e w' => ∃ v, e = .returned v ∧ k35.R 35 w' w.heap.size (fun _ => True) v l ∧ Below w.heap.size w w' := by
  have HR := Aside0.mk hr
  clear hr
  by_cases h0 : A0 = none
  · subst h0
    have hl0 : l = [] := by
      cases l with
      | nil => rfl
      | cons x t => obtain ⟨ad, hA, _⟩ := HR.out.2.2 (by simp); simp at hA
    subst hl0
    have q22 : ∀ (w : World) (a : Option Addr) (n c n' c' : Nat), (binOp .eql 22 (.slice a n c) (.slice none n' c')).run Tryz.prog w = .ok (.bool a.isNone) w := fun w a n c n' c' => Lib.run_eql_slice_nil w _ _ a n c n' c' Tryz.underlying22
    go_enter Tryz.func33, Tryz.ntmps33
    go_wp2
    go_ret
    exact ⟨_, rfl, Kd.R_nil _ _ _ _ _, Below.refl _ _⟩
  · obtain ⟨ad, rfl⟩ := Option.ne_none_iff_exists'.1 h0
    clear h0
    have H0 := Aside0.mk (R35_empty w)
    have q22 : ∀ (w : World) (a : Option Addr) (n c n' c' : Nat), (binOp .eql 22 (.slice a n c) (.slice none n' c')).run Tryz.prog w = .ok (.bool a.isNone) w := fun w a n c n' c' => Lib.run_eql_slice_nil w _ _ a n c n' c' Tryz.underlying22
    go_enter Tryz.func33, Tryz.ntmps33
    go_wp2_with (first | ((with_reducible refine gate_builtin (b := .append) (xs := #[.tmp 5, .tmp 6]) rfl ?_); at_builtin; refine Kd.R_append_rows k35 (w0 := w) w.heap.size rfl (.tmp 5) (.tmp 6) 22 35 _ 32 rfl Tryz.underlying22 info35 rfl (by decide) (by omega) (.slice (some ⟨w.heap.size, 0, none⟩) 0 0) [] l _ _ _ (fun _ => True) (fun _ => False) rfl rfl ?aO ?aR (fun x cs h => h) (fun _ h => h.elim) ?aF ?aB ?aS ?aL ?_; (case aR => exact Kd.C_alloc HR.out _); (case aF => exact (fun _ _ => trivial)); (case aO => exact H0.out); (case aB => exact below_alloc (Below.refl _ _) _); (case aS => exact (below_alloc (Below.refl _ _) _ : Below w.heap.size w _).size); (case aL => (simp only [List.length_nil]; omega)); intro v1 w1 ho hb hg hat; have HO := Aside0.mk ho; have HB := Aside0.mk hb; clear ho hb hg hat))
    go_ret
    exact ⟨_, rfl, HO.out, HB.out⟩
theorem C_of_held {w : World} {g : Nat} {l : List S35} (h : HeldAt w g l) (hl : l.length ≤ 9223372036854775807) : Kd.C k35 w (some ⟨g, 0, none⟩) l.length l := by
  refine ⟨rfl, hl, fun _ => ⟨_, rfl, fun j p hp => ?_⟩⟩
  obtain ⟨hj, rfl⟩ := List.getElem?_eq_some_iff.1 hp
  obtain ⟨h0, h1, h2⟩ := h j hj
  rw [rd35 hj] at h0 h1 h2
  refine ⟨enc35 l[j], rfl, k35_mk w _, fun i u hu => ?_⟩
  rw [add_plain]
  have hi : i < 3 := by have := (List.getElem?_eq_some_iff.1 hu).1; simpa [enc35] using this
  have : i = 0 ∨ i = 1 ∨ i = 2 := by omega
  rcases this with rfl | rfl | rfl <;> (simp [enc35] at hu; subst hu; first | exact h0 | exact h1 | exact h2)
theorem holds_of_R {w : World} {B g n c : Nat} {l : List S35} (h : k35.R 35 w B (fun _ => True) (.slice (some ⟨g, 0, none⟩) n c) l) : n = l.length ∧ B ≤ g ∧ g < w.heap.size ∧ HoldsK enc35 3 w g 0 l.toArray := by
  obtain ⟨h1, h2, hC⟩ := Kd.R_reads' h
  obtain ⟨_, inner, ⟨_, hown⟩, _⟩ := h
  rcases hown with ⟨hv, _⟩ | ⟨g', cap', cur, hv, hB, hg, _⟩
  · simp at hv
  · simp only [Value.slice.injEq, Option.some.injEq, Addr.mk.injEq, and_true, true_and] at hv
    obtain ⟨rfl, rfl, rfl⟩ := hv
    refine ⟨h1, hB, blk_lt hg, HoldsK.of_cells (fun i hi c hc => ?_) (fun j => blk_frozen hg j)⟩
    obtain ⟨ad, hA, hcell⟩ := hC.2.2 (by omega)
    obtain rfl := Option.some.inj hA
    obtain ⟨cs, hcl, hK, hcs⟩ := hcell i l[i] (List.getElem?_eq_getElem hi)
    obtain rfl := k35_open hK
    have := hcs c (enc35 l[i])[c]! (by
      have : c = 0 ∨ c = 1 ∨ c = 2 := by omega
      rcases this with rfl | rfl | rfl <;> rfl)
    rwa [add_plain] at this
theorem sorted_calls (B : Nat) (v : Value) (l : List S35) (w : World) (hl : l.length ≤ 4096) (hR : k35.R 35 w B (fun _ => True) v l) (hB : B ≤ w.heap.size) :
    Calls Tryz.prog 34 #[v, .func (Fn.func 35) #[] #[]] w fun e w' => e = .returned (.tuple #[]) ∧ ∃ (l' : List S35) (A : Option Addr) (c : Nat), v = .slice A l'.length c ∧ l'.length ≤ c ∧ l'.Perm l ∧ (∀ i j (hi : i < l'.length) (hj : j < l'.length), i < j → ¬ ahead35 l'[j] l'[i]) ∧ Kd.C k35 w' A l'.length l' ∧ Below B w w' := by
  obtain ⟨A, c, rfl, hc, hC⟩ := Kd.R_reads hR
  have hown := hR.2
  obtain ⟨inner, ⟨_, hown⟩, _⟩ := hown
  rcases hown with ⟨hv, hn⟩ | ⟨g, cap', cur, hv, hBg, hg, _⟩
  · simp only [Value.slice.injEq] at hv
    obtain ⟨rfl, _, rfl⟩ := hv
    have hl0 := List.eq_nil_of_length_eq_zero hn
    subst hl0
    have := AnyF.slices_SortFunc_none { Tryz.sortPos with } none 0 (.func (Fn.func 35) #[] #[]) w
    refine this.mono ?_
    rintro e w' ⟨rfl, rfl⟩
    exact ⟨rfl, [], none, 0, rfl, Nat.le_refl _, List.Perm.refl _, fun i j hi => by simp at hi, hC, Below.refl _ _⟩
  · simp only [Value.slice.injEq] at hv
    obtain ⟨rfl, _, rfl⟩ := hv
    obtain ⟨_, hBg, hlt, hH⟩ := holds_of_R hR
    refine (sort_calls B g c l w (by omega) hH hlt hBg).mono ?_
    rintro e w' ⟨rfl, l', hlen, hp, hs, hA, hb⟩
    exact ⟨rfl, l', _, c, by rw [hlen], by omega, hp, hs, C_of_held hA (by omega), hb⟩
end Go.Proofs.YtoanlppfdniiaaaGreatDoor.Q
end
