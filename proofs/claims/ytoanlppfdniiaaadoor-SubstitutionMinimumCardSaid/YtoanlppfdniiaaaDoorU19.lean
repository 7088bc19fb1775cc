/- A part of the proof, joined by a program of this session out of its texts; no condition. -/
import Derived.Test.YtoanlppfdniiaaaDoorU17
import Derived.Ground.SlsfProg
import Derived.Ground.SlgnProg
import Derived.Shelf.SlicesE.Clone
import Derived.Shelf.SlSortCmp.NoneTotal
section
namespace Go.Proofs
open Go.Shelf
def Tryd.sortPos_ren : Go.Shelf.Ren := ⟨fun | 6 => 24 | 15 => 51 | 14 => 50 | 28 => 75 | 29 => 76 | 20 => 67 | 21 => 68 | 22 => 69 | 23 => 70 | 24 => 71 | 25 => 72 | 26 => 73 | 27 => 74 | 46 => 81 | 47 => 82 | 48 => 83 | 49 => 84 | 50 => 85 | 57 => 92 | n => n, fun | 22 => 29 | 24 => 52 | 25 => 74 | 3 => 3 | 39 => 102 | 0 => 0 | 53 => 129 | 55 => 131 | 4 => 4 | 46 => 122 | 45 => 121 | 50 => 126 | 5 => 5 | 9 => 9 | 66 => 142 | 70 => 146 | 76 => 151 | 77 => 59 | n => n, fun | n => n⟩
theorem Tryd.sortPos : Go.Proofs.SlLaysF0.n6 Tryd.prog Tryd.sortPos_ren := {
  mixed := by kernel_rfl
  f6 := ⟨Tryd.f24.name, by decide, Tryd.func24.trans (congrArg some (by kernel_rfl))⟩
  f14 := ⟨Tryd.f50.name, by decide, Tryd.func50.trans (congrArg some (by kernel_rfl))⟩
  f15 := Tryd.func51.trans (congrArg some (by kernel_rfl))
  f20 := ⟨Tryd.f67.name, by decide, Tryd.func67.trans (congrArg some (by kernel_rfl))⟩
  f21 := ⟨Tryd.f68.name, by decide, Tryd.func68.trans (congrArg some (by kernel_rfl))⟩
  f22 := ⟨Tryd.f69.name, by decide, Tryd.func69.trans (congrArg some (by kernel_rfl))⟩
  f23 := ⟨Tryd.f70.name, by decide, Tryd.func70.trans (congrArg some (by kernel_rfl))⟩
  f24 := ⟨Tryd.f71.name, by decide, Tryd.func71.trans (congrArg some (by kernel_rfl))⟩
  f25 := ⟨Tryd.f72.name, by decide, Tryd.func72.trans (congrArg some (by kernel_rfl))⟩
  f26 := ⟨Tryd.f73.name, by decide, Tryd.func73.trans (congrArg some (by kernel_rfl))⟩
  f27 := ⟨Tryd.f74.name, by decide, Tryd.func74.trans (congrArg some (by kernel_rfl))⟩
  f28 := Tryd.func75.trans (congrArg some (by kernel_rfl))
  f29 := Tryd.func76.trans (congrArg some (by kernel_rfl))
  f46 := ⟨Tryd.f81.name, by decide, Tryd.func81.trans (congrArg some (by kernel_rfl))⟩
  f47 := Tryd.func82.trans (congrArg some (by kernel_rfl))
  f48 := Tryd.func83.trans (congrArg some (by kernel_rfl))
  f49 := ⟨Tryd.f84.name, by decide, Tryd.func84.trans (congrArg some (by kernel_rfl))⟩
  f50 := ⟨Tryd.f85.name, by decide, Tryd.func85.trans (congrArg some (by kernel_rfl))⟩
  f57 := ⟨Tryd.f92.name, by decide, Tryd.func92.trans (congrArg some (by kernel_rfl))⟩
  t0 := Tryd.underlying0
  a0 := Tryd.isAgg0
  z0 := Tryd.sizeOf0
  v0 := Tryd.zeroValue0
  t3 := Tryd.underlying3
  a3 := Tryd.isAgg3
  z3 := Tryd.sizeOf3
  v3 := Tryd.zeroValue3
  t4 := Tryd.underlying4
  a4 := Tryd.isAgg4
  z4 := Tryd.sizeOf4
  v4 := Tryd.zeroValue4
  t5 := Tryd.underlying5
  a5 := Tryd.isAgg5
  z5 := Tryd.sizeOf5
  v5 := Tryd.zeroValue5
  t9 := Tryd.underlying9
  a9 := Tryd.isAgg9
  z9 := Tryd.sizeOf9
  v9 := Tryd.zeroValue9
  t22 := Tryd.underlying29
  a22 := Tryd.isAgg29
  z22 := Tryd.sizeOf29
  v22 := Tryd.zeroValue29
  t25 := Tryd.underlying74
  a25 := Tryd.isAgg74
  z25 := Tryd.sizeOf74
  v25 := Tryd.zeroValue74
  t39 := Tryd.underlying102
  a39 := Tryd.isAgg102
  z39 := Tryd.sizeOf102
  v39 := Tryd.zeroValue102
  t45 := Tryd.underlying121
  a45 := Tryd.isAgg121
  z45 := Tryd.sizeOf121
  v45 := Tryd.zeroValue121
  t46 := Tryd.underlying122
  a46 := Tryd.isAgg122
  z46 := Tryd.sizeOf122
  v46 := Tryd.zeroValue122
  t50 := Tryd.underlying126
  a50 := Tryd.isAgg126
  z50 := Tryd.sizeOf126
  v50 := Tryd.zeroValue126
  t53 := Tryd.underlying129
  a53 := Tryd.isAgg129
  z53 := Tryd.sizeOf129
  v53 := Tryd.zeroValue129
  t55 := Tryd.underlying131
  a55 := Tryd.isAgg131
  z55 := Tryd.sizeOf131
  v55 := Tryd.zeroValue131
  t66 := Tryd.underlying142
  a66 := Tryd.isAgg142
  z66 := Tryd.sizeOf142
  v66 := Tryd.zeroValue142
  t70 := Tryd.underlying146
  a70 := Tryd.isAgg146
  z70 := Tryd.sizeOf146
  v70 := Tryd.zeroValue146
  t76 := Tryd.underlying151
  a76 := Tryd.isAgg151
  z76 := Tryd.sizeOf151
  v76 := Tryd.zeroValue151
  t77 := Tryd.underlying59
  a77 := Tryd.isAgg59
  z77 := Tryd.sizeOf59
  v77 := Tryd.zeroValue59 }
end Go.Proofs
namespace Go.Proofs.YtoanlppfdniiaaaDoor.Q
set_option linter.unusedVariables false
set_option linter.unusedSimpArgs false
open Go.RowKit Go.Proofs.YtoanlppfdniiaaaDoorW.PrintWords Go.Proofs.YtoanlppfdniiaaaDoorW.PrintLast Go.Proofs.YtoanlppfdniiaaaDoorW.PrintMore
open Go.Sort (SWO PermIn SortedIn grow HoldsK putRowK holdsK_grow holdsK_putRowK holdsK_ahead size_flatK get_flatK)
instance : Inhabited S52 := ⟨z52⟩
theorem isAgg52 : ∀ w, (isAgg 35).run Tryd.prog w = .ok true w := fun w => by kernel_rfl
theorem sizeOf52 : ∀ w, (Go.sizeOf 52).run Tryd.prog w = .ok 3 w := fun w => by kernel_rfl
def enc52 (x : S52) : List Value := [.string x.f0, .int .i64 x.f1, .int .i64 x.f2]
theorem enc52_one (x : S52) : ∀ v ∈ enc52 x, v.oneCell' = true := by
  intro v hv
  simp [enc52] at hv
  rcases hv with rfl | rfl | rfl <;> rfl
theorem bless_iff (a b : ByteArray) : bless a b = true ↔ a.toList < b.toList := by
  unfold bless; rw [bytesLess_eq]; simp
def ahead52 (x y : S52) : Prop := y.f2 < x.f2 ∨ (y.f2 = x.f2 ∧ x.f0.toList < y.f0.toList)
theorem lt52 (x y : S52) : ltOf cf52 x y = true ↔ ahead52 x y := by
  unfold ltOf cf52 cmpI cmpS ahead52
  by_cases h1 : y.f2 < x.f2
  · simp [h1]
  · by_cases h2 : x.f2 < y.f2
    · simp [h1, h2]; intro e; omega
    · have e : y.f2 = x.f2 := by omega
      simp only [h1, h2, if_false, if_true, false_or, e, true_and, decide_eq_true_eq]
      by_cases h3 : bless x.f0 y.f0 = true
      · simp [h3, (bless_iff _ _).1 h3]
      · have h3' := mt (bless_iff x.f0 y.f0).2 h3
        simp only [h3, h3']
        by_cases h4 : x.f0.toList = y.f0.toList <;> simp [h4]
theorem swo52 : SWO (ltOf cf52) where
  irrefl x := by
    rw [← Bool.not_eq_true, lt52]
    rintro (h | ⟨_, h⟩)
    · omega
    · exact List.lt_irrefl _ h
  trans x y z h1 h2 := by
    rw [lt52] at *
    rcases h1 with h1 | ⟨e1, h1⟩ <;> rcases h2 with h2 | ⟨e2, h2⟩
    · exact .inl (by omega)
    · exact .inl (by omega)
    · exact .inl (by omega)
    · exact .inr ⟨by omega, List.lt_trans h1 h2⟩
  ntrans x y z h1 h2 := by
    rw [← Bool.not_eq_true, lt52] at *
    unfold ahead52 at *
    rw [not_or] at *
    refine ⟨by omega, ?_⟩
    rintro ⟨e, h⟩
    have e1 : y.f2 = x.f2 := by omega
    have e2 : z.f2 = y.f2 := by omega
    have k1 : ¬ x.f0.toList < y.f0.toList := fun h => h1.2 ⟨e1, h⟩
    have k2 : ¬ y.f0.toList < z.f0.toList := fun h => h2.2 ⟨e2, h⟩
    have : z.f0.toList ≤ x.f0.toList := List.le_trans (List.not_lt.1 k2) (List.not_lt.1 k1)
    exact (List.not_lt.2 this) h
theorem HoldsK.of_cells {w : World} {g : Nat} {l : List S52} (h : ∀ i (hi : i < l.length) (c : Nat), c < 3 → w.cell? ⟨g, i * 3 + c, none⟩ = some (enc52 l[i])[c]!) (hf : ∀ j, w.frozen? ⟨g, j, none⟩ = false) : HoldsK enc52 3 w g 0 l.toArray := by
  intro j hj
  rw [size_flatK] at hj
  have hj' : j / 3 < l.length := by simp at hj; omega
  rw [get_flatK _ _ _ _ hj]
  have e : l.toArray[j / 3]! = l[j / 3] := by rw [getElem!_pos _ _ (by simpa using hj')]; simp
  refine ⟨?_, hf _⟩
  have := h (j / 3) hj' (j % 3) (by omega)
  rw [show j / 3 * 3 + j % 3 = j by omega] at this
  rw [Nat.zero_add, this, e]
  rfl
theorem below_sorted {B : Nat} {w W : World} {g n : Nat} {d : Array S52} {os : Array Obj} (h : Below B w W) (hB : B ≤ W.heap.size) (hg : B ≤ g) : Below B w (sortWorldK enc52 3 W g 0 n d os) := by
  unfold sortWorldK putRowK Go.Sort.putRow Go.Sort.mapBlock Go.Sort.grow
  refine ⟨h.os, h.tape, h.output, ?_, ?_⟩
  · have := h.size
    simp [Go.Sort.ahead]; omega
  · intro k hk
    rw [← h.block k hk]
    show ((Array.modify _ _ _) ++ os)[k]? = _
    have hks : k < W.heap.size := by omega
    rw [Array.getElem?_append_left (by simpa [Go.Sort.ahead] using hks), Array.getElem?_modify, if_neg (by omega)]
    rfl
theorem cmpLays35 (g size : Nat) (w : World) : CmpLays Tryd.prog 25 #[] enc52 3 cf52 g 0 size w :=
  fun _ _ _ _ x y => by_calls x y _
def HeldAt (w : World) (g : Nat) (l : List S52) : Prop := ∀ i, i < l.length → w.cell? ⟨g, i * 3, none⟩ = some (.string (rd_T52 l i).f0) ∧ w.cell? ⟨g, i * 3 + 1, none⟩ = some (.int .i64 (rd_T52 l i).f1) ∧ w.cell? ⟨g, i * 3 + 2, none⟩ = some (.int .i64 (rd_T52 l i).f2)
theorem rd52 {l : List S52} {i : Nat} (hi : i < l.length) : rd_T52 l (i : Int) = l[i] := by simp [rd_T52, List.getElem?_eq_getElem hi]
theorem HeldAt.of_holds {w : World} {g : Nat} {d : Array S52} (h : HoldsK enc52 3 w g 0 d) : HeldAt w g d.toList := by
  intro i hi
  have hi' : i < d.size := by simpa using hi
  have e : d[i]! = d.toList[i] := by rw [getElem!_pos d i hi']; simp
  rw [rd52 hi]
  have h0 := (HoldsK.cell (c := 0) h hi' (by decide)).1
  have h1 := (HoldsK.cell (c := 1) h hi' (by decide)).1
  have h2 := (HoldsK.cell (c := 2) h hi' (by decide)).1
  rw [e] at h0 h1 h2
  rw [Nat.zero_add] at h0 h1 h2
  exact ⟨h0, h1, h2⟩
set_option maxHeartbeats 1000000 in
set_option maxRecDepth 100000 in
theorem sort_calls (B : Nat) (g c : Nat) (l : List S52) (w : World) (hl : l.length < 4611686018427387904) (hH : HoldsK enc52 3 w g 0 l.toArray) (hg : g < w.heap.size) (hB : B ≤ g) :
    Calls Tryd.prog 24 #[.slice (some ⟨g, 0, none⟩) l.length c, .func (Fn.func 25) #[] #[]] w fun e w' => e = .returned (.tuple #[]) ∧ ∃ l' : List S52, l'.length = l.length ∧ l'.Perm l ∧ (∀ i j (hi : i < l'.length) (hj : j < l'.length), i < j → ¬ ahead52 l'[j] l'[i]) ∧ HeldAt w' g l' ∧ Below B w w' := by
  have eg : ∀ args w, (callFunc 25 args).run Tryd.prog w = .ok (.enter 25 args) w := enters_of Tryd.func25 (by kernel_rfl) rfl
  have hcon := AnyQ.slices_SortFunc Tryd.sortPos 3 isAgg52 sizeOf52 enc52 (fun _ => rfl) enc52_one cf52 swo52 25 #[] g 0 c l.toArray w eg (cmpLays35 g l.toArray.size w) hH hg (by simpa using hl)
  change Calls Tryd.prog 24 _ _ _ at hcon
  rw [List.size_toArray] at hcon
  refine hcon.mono ?_
  rintro e w' ⟨rfl, d', n, os, ⟨hs, _, hp⟩, hsrt, rfl⟩
  have hs : d'.size = l.length := by simpa using hs
  have hlen : d'.toList.length = l.length := by simpa using hs
  refine ⟨rfl, d'.toList, hlen, ?_, ?_, ?_, ?_⟩
  · have e1 : d'.extract 0 l.length = d' := by rw [← hs]; simp
    have e2 : l.toArray.extract 0 l.length = l.toArray := by simp
    rw [e1, e2] at hp
    exact hp
  · intro i j hi hj hij
    have := hsrt i j (Nat.zero_le _) hij (by omega)
    rw [← lt52]
    rw [getElem!_pos _ _ (by omega), getElem!_pos _ _ (by omega)] at this
    simpa using this
  · refine HeldAt.of_holds ?_
    unfold sortWorldK
    refine holdsK_grow enc52 3 _ os g 0 d' ?_ (holdsK_putRowK enc52 3 (Go.Sort.ahead w n) g 0 l.toArray d' (holdsK_ahead enc52 3 w n g 0 l.toArray hH) (by rw [hs]; simp))
    show g < (putRowK enc52 3 (Go.Sort.ahead w n) g 0 d').heap.size
    unfold putRowK
    rw [Go.Sort.size_putRow]
    exact hg
  · exact below_sorted (Below.refl _ _) (by omega) hB
theorem R52_empty (w : World) : k52.R 52 (w.alloc (.cells #[] 52)) w.heap.size (fun _ => True) (.slice (some ⟨w.heap.size, 0, none⟩) 0 0) [] :=
  ⟨fun _ _ => trivial, [], ⟨rfl, .inr ⟨w.heap.size, 0, #[], rfl, Nat.le_refl _, blk_new _ _, Nat.le_refl _, by decide, rfl, rfl⟩⟩, Reps.none _ _⟩
set_option maxRecDepth 100000 in
theorem clone_calls (A0 : Option Addr) (c0 : Nat) (l : List S52) (w : World) (hr : Kd.C k52 w A0 l.length l) (hl : l.length ≤ 4096) :
    Calls Tryd.prog 23 #[.slice A0 l.length c0] w fun e w' => ∃ v, e = .returned v ∧ k52.R 52 w' w.heap.size (fun _ => True) v l ∧ Below w.heap.size w w' := by
  have HR := Aside0.mk hr
  clear hr
  by_cases h0 : A0 = none
  · subst h0
    have hl0 : l = [] := by
      cases l with
      | nil => rfl
      | cons x t => obtain ⟨ad, hA, _⟩ := HR.out.2.2 (by simp); simp at hA
    subst hl0
    have q22 : ∀ (w : World) (a : Option Addr) (n c n' c' : Nat), (binOp .eql 29 (.slice a n c) (.slice none n' c')).run Tryd.prog w = .ok (.bool a.isNone) w := fun w a n c n' c' => Lib.run_eql_slice_nil w _ _ a n c n' c' Tryd.underlying29
    go_enter Tryd.func23, Tryd.ntmps23
    go_wp2
    go_ret
    exact ⟨_, rfl, Kd.R_nil _ _ _ _ _, Below.refl _ _⟩
  · obtain ⟨ad, rfl⟩ := Option.ne_none_iff_exists'.1 h0
    clear h0
    have H0 := Aside0.mk (R52_empty w)
    have q22 : ∀ (w : World) (a : Option Addr) (n c n' c' : Nat), (binOp .eql 29 (.slice a n c) (.slice none n' c')).run Tryd.prog w = .ok (.bool a.isNone) w := fun w a n c n' c' => Lib.run_eql_slice_nil w _ _ a n c n' c' Tryd.underlying29
    go_enter Tryd.func23, Tryd.ntmps23
    go_wp2_with (first | ((with_reducible refine gate_builtin (b := .append) (xs := #[.tmp 5, .tmp 6]) rfl ?_); at_builtin; refine Kd.R_append_rows k52 (w0 := w) w.heap.size rfl (.tmp 5) (.tmp 6) 29 52 _ 32 rfl Tryd.underlying29 info52 rfl (by decide) (by omega) (.slice (some ⟨w.heap.size, 0, none⟩) 0 0) [] l _ _ _ (fun _ => True) (fun _ => False) rfl rfl ?aO ?aR (fun x cs h => h) (fun _ h => h.elim) ?aF ?aB ?aS ?aL ?_; (case aR => exact Kd.C_alloc HR.out _); (case aF => exact (fun _ _ => trivial)); (case aO => exact H0.out); (case aB => exact below_alloc (Below.refl _ _) _); (case aS => exact (below_alloc (Below.refl _ _) _ : Below w.heap.size w _).size); (case aL => (simp only [List.length_nil]; omega)); intro v1 w1 ho hb hg hat; have HO := Aside0.mk ho; have HB := Aside0.mk hb; clear ho hb hg hat))
    go_ret
    exact ⟨_, rfl, HO.out, HB.out⟩
theorem C_of_held {w : World} {g : Nat} {l : List S52} (h : HeldAt w g l) (hl : l.length ≤ 9223372036854775807) : Kd.C k52 w (some ⟨g, 0, none⟩) l.length l := by
  refine ⟨rfl, hl, fun _ => ⟨_, rfl, fun j p hp => ?_⟩⟩
  obtain ⟨hj, rfl⟩ := List.getElem?_eq_some_iff.1 hp
  obtain ⟨h0, h1, h2⟩ := h j hj
  rw [rd52 hj] at h0 h1 h2
  refine ⟨enc52 l[j], rfl, k52_mk w _, fun i u hu => ?_⟩
  rw [add_plain]
  have hi : i < 3 := by have := (List.getElem?_eq_some_iff.1 hu).1; simpa [enc52] using this
  have : i = 0 ∨ i = 1 ∨ i = 2 := by omega
  rcases this with rfl | rfl | rfl <;> (simp [enc52] at hu; subst hu; first | exact h0 | exact h1 | exact h2)
theorem holds_of_R {w : World} {B g n c : Nat} {l : List S52} (h : k52.R 52 w B (fun _ => True) (.slice (some ⟨g, 0, none⟩) n c) l) : n = l.length ∧ B ≤ g ∧ g < w.heap.size ∧ HoldsK enc52 3 w g 0 l.toArray := by
  obtain ⟨h1, h2, hC⟩ := Kd.R_reads' h
  obtain ⟨_, inner, ⟨_, hown⟩, _⟩ := h
  rcases hown with ⟨hv, _⟩ | ⟨g', cap', cur, hv, hB, hg, _⟩
  · simp at hv
  · simp only [Value.slice.injEq, Option.some.injEq, Addr.mk.injEq, and_true, true_and] at hv
    obtain ⟨rfl, rfl, rfl⟩ := hv
    refine ⟨h1, hB, blk_lt hg, HoldsK.of_cells (fun i hi c hc => ?_) (fun j => blk_frozen hg j)⟩
    obtain ⟨ad, hA, hcell⟩ := hC.2.2 (by omega)
    obtain rfl := Option.some.inj hA
    obtain ⟨cs, hcl, hK, hcs⟩ := hcell i l[i] (List.getElem?_eq_getElem hi)
    obtain rfl := k52_open hK
    have := hcs c (enc52 l[i])[c]! (by
      have : c = 0 ∨ c = 1 ∨ c = 2 := by omega
      rcases this with rfl | rfl | rfl <;> rfl)
    rwa [add_plain] at this
theorem sorted_calls (B : Nat) (v : Value) (l : List S52) (w : World) (hl : l.length ≤ 4096) (hR : k52.R 52 w B (fun _ => True) v l) (hB : B ≤ w.heap.size) :
    Calls Tryd.prog 24 #[v, .func (Fn.func 25) #[] #[]] w fun e w' => e = .returned (.tuple #[]) ∧ ∃ (l' : List S52) (A : Option Addr) (c : Nat), v = .slice A l'.length c ∧ l'.length ≤ c ∧ l'.Perm l ∧ (∀ i j (hi : i < l'.length) (hj : j < l'.length), i < j → ¬ ahead52 l'[j] l'[i]) ∧ Kd.C k52 w' A l'.length l' ∧ Below B w w' := by
  obtain ⟨A, c, rfl, hc, hC⟩ := Kd.R_reads hR
  have hown := hR.2
  obtain ⟨inner, ⟨_, hown⟩, _⟩ := hown
  rcases hown with ⟨hv, hn⟩ | ⟨g, cap', cur, hv, hBg, hg, _⟩
  · simp only [Value.slice.injEq] at hv
    obtain ⟨rfl, _, rfl⟩ := hv
    have hl0 := List.eq_nil_of_length_eq_zero hn
    subst hl0
    have := AnyF.slices_SortFunc_none { Tryd.sortPos with } none 0 (.func (Fn.func 25) #[] #[]) w
    refine this.mono ?_
    rintro e w' ⟨rfl, rfl⟩
    exact ⟨rfl, [], none, 0, rfl, Nat.le_refl _, List.Perm.refl _, fun i j hi => by simp at hi, hC, Below.refl _ _⟩
  · simp only [Value.slice.injEq] at hv
    obtain ⟨rfl, _, rfl⟩ := hv
    obtain ⟨_, hBg, hlt, hH⟩ := holds_of_R hR
    refine (sort_calls B g c l w (by omega) hH hlt hBg).mono ?_
    rintro e w' ⟨rfl, l', hlen, hp, hs, hA, hb⟩
    exact ⟨rfl, l', _, c, by rw [hlen], by omega, hp, hs, C_of_held hA (by omega), hb⟩
end Go.Proofs.YtoanlppfdniiaaaDoor.Q
end
