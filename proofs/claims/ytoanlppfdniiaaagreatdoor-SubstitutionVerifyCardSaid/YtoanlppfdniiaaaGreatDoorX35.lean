/- A part of the proof; no condition. -/
import Derived.Test.YtoanlppfdniiaaaGreatDoorX34
import Derived.Test.YtoanlppfdniiaaaGreatDoorX1
import Derived.Laws.EntriesVeiled
import Derived.Test.YtoanlppfdniiaaaGreatDoorX26
section
namespace Go.Proofs.YtoanlppfdniiaaaGreatDoor.Q
set_option linter.unusedVariables false
set_option linter.unusedSimpArgs false
open Go.RowKit Go.Proofs.YtoanlppfdniiaaaGreatDoorW.PrintWords Go.Proofs.YtoanlppfdniiaaaGreatDoorW.PrintLast Go.Proofs.YtoanlppfdniiaaaGreatDoorW.PrintMore
attribute [local go_sem] Oper.semAt_some
def tails (n : Nat) : Nat → List Int → List (List Int)
  | 0, _ => []
  | r + 1, idx => ((idx ++ [((n - (r + 1) : Nat) : Int)]) :: tails n r (idx ++ [((n - (r + 1) : Nat) : Int)])) ++ tails n r idx
def ArgI (N : Nat) (S : Nat → Prop) (x : Value × List Int) (W : World) : Prop := ∃ A c, x.1 = .slice A x.2.length c ∧ x.2.length ≤ c ∧ Kd.C (Kd.int .i64) W A x.2.length x.2 ∧ (∀ ad, A = some ad → ¬ S ad.block) ∧ x.2.length ≤ N ∧ ∀ j ∈ x.2, 0 ≤ j ∧ j < N
theorem cell_keptC {S : Nat → Prop} {W W' : World} {a : Addr} {v : Value} (h : W.cell? a = some v) (hk : KeptC S W W') (hs : ¬ S a.block) : W'.cell? a = some v := by
  unfold World.cell? at h ⊢
  cases ho : W.heap[a.block]? with
  | none => rw [ho] at h; simp at h
  | some o =>
    rw [ho] at h
    cases o with
    | cells c t fr => rw [hk.2 _ _ hs ho rfl]; exact h
    | _ => simp at h
theorem C_keptC {S : Nat → Prop} {W W' : World} {A : Option Addr} {n : Nat} {xs : List Int} (h : Kd.C (Kd.int .i64) W A n xs) (hk : KeptC S W W') (hs : ∀ ad, A = some ad → ¬ S ad.block) : Kd.C (Kd.int .i64) W' A n xs := by
  refine ⟨h.1, h.2.1, fun hn => ?_⟩
  obtain ⟨ad, rfl, hc⟩ := h.2.2 hn
  refine ⟨ad, rfl, fun j p hp => ?_⟩
  obtain ⟨c, h1, h2, h3⟩ := hc j p hp
  exact ⟨c, h1, h2, fun i u hu => cell_keptC (h3 i u hu) hk (by have := hs ad rfl; unfold Addr.add; split <;> exact this)⟩
theorem blk_keptC {S : Nat → Prop} {W W' : World} {g : Nat} {cs : Array Value} {t : TypeId} (h : W.heap[g]? = some (.cells cs t (0, 0))) (hk : KeptC S W W') (hs : ¬ S g) : W'.heap[g]? = some (.cells cs t (0, 0)) := hk.2 _ _ hs h rfl
theorem info3_ : (Tryz.prog.info? 3).map (fun i => (i.zero, i.size, i.bytes)) = some (some (.int .i64 0), 1, 8) := by kernel_rfl
theorem C_one {W : World} {g : Nat} {i : Int} {t : TypeId} (h : W.heap[g]? = some (.cells #[.int .i64 i] t (0, 0))) : Kd.C (Kd.int .i64) W (some ⟨g, 0, none⟩) 1 [i] := by
  refine ⟨rfl, by decide, fun _ => ⟨_, rfl, fun j p hp => ?_⟩⟩
  match j, hp with
  | 0, hp =>
    obtain rfl : i = p := by simpa using hp
    refine ⟨[.int .i64 i], rfl, rfl, fun k u hu => ?_⟩
    match k, hu with
    | 0, hu => rw [add_plain]; rw [blk_cell h]; exact hu
  | j + 1, hp => simp at hp
set_option maxRecDepth 100000 in
theorem cloneI_calls (A0 : Option Addr) (c0 : Nat) (l : List Int) (w : World) (hr : Kd.C (Kd.int .i64) w A0 l.length l) (hl : l.length ≤ 4096) :
    Calls Tryz.prog 77 #[.slice A0 l.length c0] w fun e w' => ∃ v, e = .returned v ∧ (Kd.int .i64).R 3 w' w.heap.size (fun _ => True) v l ∧ Below w.heap.size w w' := by
  have HR := Aside0.mk hr
  clear hr
  by_cases h0 : A0 = none
  · subst h0
    have hl0 : l = [] := by
      cases l with
      | nil => rfl
      | cons x t => obtain ⟨ad, hA, _⟩ := HR.out.2.2 (by simp); simp at hA
    subst hl0
    have q22 : ∀ (w : World) (a : Option Addr) (n c n' c' : Nat), (binOp .eql 80 (.slice a n c) (.slice none n' c')).run Tryz.prog w = .ok (.bool a.isNone) w := fun w a n c n' c' => Lib.run_eql_slice_nil w _ _ a n c n' c' Tryz.underlying80
    go_enter Tryz.func77, Tryz.ntmps77
    go_wp2
    go_ret
    exact ⟨_, rfl, Kd.R_nil _ _ _ _ _, Below.refl _ _⟩
  · obtain ⟨ad, rfl⟩ := Option.ne_none_iff_exists'.1 h0
    clear h0
    have H0 : Aside0 ((Kd.int .i64).R 3 (w.alloc (.cells #[] 3)) w.heap.size (fun _ => True) (.slice (some ⟨w.heap.size, 0, none⟩) 0 0) []) :=
      ⟨⟨fun _ _ => trivial, [], ⟨rfl, .inr ⟨w.heap.size, 0, #[], rfl, Nat.le_refl _, blk_new _ _, Nat.le_refl _, by decide, rfl, rfl⟩⟩, Reps.none _ _⟩⟩
    have q22 : ∀ (w : World) (a : Option Addr) (n c n' c' : Nat), (binOp .eql 80 (.slice a n c) (.slice none n' c')).run Tryz.prog w = .ok (.bool a.isNone) w := fun w a n c n' c' => Lib.run_eql_slice_nil w _ _ a n c n' c' Tryz.underlying80
    go_enter Tryz.func77, Tryz.ntmps77
    go_wp2_with (first | ((with_reducible refine gate_builtin (b := .append) (xs := #[.tmp 5, .tmp 6]) rfl ?_); at_builtin; refine Kd.R_append_rows (Kd.int .i64) (w0 := w) w.heap.size rfl (.tmp 5) (.tmp 6) 80 3 (.int .i64 0) 8 rfl Tryz.underlying80 info3_ rfl (by decide) (by omega) (.slice (some ⟨w.heap.size, 0, none⟩) 0 0) [] l _ _ _ (fun _ => True) (fun _ => False) rfl rfl ?aO ?aR (fun x cs h => h) (fun _ h => h.elim) ?aF ?aB ?aS ?aL ?_; (case aR => exact Kd.C_alloc HR.out _); (case aF => exact (fun _ _ => trivial)); (case aO => exact H0.out); (case aB => exact below_alloc (Below.refl _ _) _); (case aS => exact (below_alloc (Below.refl _ _) _ : Below w.heap.size w _).size); (case aL => (simp only [List.length_nil]; omega)); intro v1 w1 ho hb hg hat; have HO := Aside0.mk ho; have HB := Aside0.mk hb; clear ho hb hg hat))
    go_ret
    exact ⟨_, rfl, HO.out, HB.out⟩
structure Boxes (l N b1 b2 b3 : Nat) (W : World) : Prop where
  n : W.heap[b1]? = some (.cells #[.int .i64 N] 3 (0, 0))
  y : W.heap[b2]? = some (.cells #[.func (.yield l) #[] #[]] 129 (0, 0))
  w : W.heap[b3]? = some (.cells #[.func (.func 76) #[] #[.pointer (some ⟨b2, 0, none⟩), .pointer (some ⟨b1, 0, none⟩), .pointer (some ⟨b3, 0, none⟩)]] 130 (0, 0))
theorem Boxes.below {l N b1 b2 b3 : Nat} {W W' : World} (h : Boxes l N b1 b2 b3 W) (hb : Below W.heap.size W W') : Boxes l N b1 b2 b3 W' := ⟨blk_below h.n hb, blk_below h.y hb, blk_below h.w hb⟩
theorem Boxes.kept {l N b1 b2 b3 : Nat} {W W' : World} {S : Nat → Prop} (hS : ¬ S b1 ∧ ¬ S b2 ∧ ¬ S b3) (h : Boxes l N b1 b2 b3 W) (hk : KeptC S W W') : Boxes l N b1 b2 b3 W' := ⟨blk_keptC h.n hk hS.1, blk_keptC h.y hk hS.2.1, blk_keptC h.w hk hS.2.2⟩
theorem Boxes.at3 {l N b1 b2 b3 : Nat} {W : World} (h : Boxes l N b1 b2 b3 W) : W.cell? ⟨b3, 0, none⟩ = some (.func (.func 76) #[] #[.pointer (some ⟨b2, 0, none⟩), .pointer (some ⟨b1, 0, none⟩), .pointer (some ⟨b3, 0, none⟩)]) := blk_cell h.w 0
theorem ArgI.of_R {N : Nat} {S : Nat → Prop} {n0 B : Nat} (hS : ∀ k, S k → k < n0) (hB : n0 ≤ B) {v : Value} {xs : List Int} {W W' : World} (h : (Kd.int .i64).R 3 W B (fun _ => True) v xs) (hb : Below W.heap.size W W') (hl : xs.length ≤ N) (hv : ∀ j ∈ xs, 0 ≤ j ∧ j < N) : ArgI N S (v, xs) W' := by
  obtain ⟨A, c, rfl, hc, hC⟩ := Kd.R_reads h
  refine ⟨A, c, rfl, hc, Kd.C_below hC hb, fun ad hA hs => ?_, hl, hv⟩
  have h1 := hS _ hs
  obtain ⟨_, inner, ⟨_, hown⟩, _⟩ := h
  rcases hown with ⟨hv, _⟩ | ⟨g, cap, cur, hv, hg, _⟩
  · simp only [Value.slice.injEq] at hv; rw [hv.1] at hA; cases hA
  · simp only [Value.slice.injEq] at hv; rw [hv.1] at hA; cases hA; simp at h1; omega
set_option maxHeartbeats 4000000 in
set_option maxRecDepth 100000 in
theorem walk_run (l N b1 b2 b3 : Nat) (hN : N ≤ 4096) (S : Nat → Prop) (hS : ¬ S b1 ∧ ¬ S b2 ∧ ¬ S b3) (n0 : Nat) (hS0 : ∀ k, S k → k < n0) (J : List (Value × List Int) → World → Prop)
    (hJ : ∀ s A B, J s A → Below A.heap.size A B → J s B)
    (hY : ∀ m pre x W1, J pre W1 → ArgI N S x W1 → YieldAt Fence.wide m Tryz.prog l #[x.1] W1 fun e W' => e = .returned (.bool true) ∧ J (pre ++ [x]) W' ∧ KeptC S W1 W') :
    ∀ (r : Nat) (k : Nat) (v : Value) (idx : List Int) (pre : List (Value × List Int)) (W : World), n0 ≤ W.heap.size → k + r = N → idx.length ≤ k → Boxes l N b1 b2 b3 W → ArgI N S (v, idx) W → J pre W →
      Calls Tryz.prog 76 #[v, .int .i64 k, .pointer (some ⟨b2, 0, none⟩), .pointer (some ⟨b1, 0, none⟩), .pointer (some ⟨b3, 0, none⟩)] W fun e W' =>
        e = .returned (.bool true) ∧ ∃ ys, ys.map (·.2) = idx :: tails N r idx ∧ J (pre ++ ys) W' ∧ KeptC S W W' := by
  intro r
  induction r using Nat.strongRecOn with
  | _ r ih =>
  intro k v idx pre W hn0 hk hix hB hA hJ0
  have IH := Aside0.mk ih
  have HB0 := Aside0.mk hB
  have HA0 := Aside0.mk hA
  clear ih
  have y0 := blk_cell hB.y 0
  obtain ⟨fn, tmps, assign, body, hy, hR⟩ := hY 0 pre (v, idx) W hJ0 hA
  obtain ⟨A, c, hv, hc, hC, hAS, hAL, hAV⟩ := hA
  dsimp only at hy hv hC hc
  subst hv
  have HC := Aside0.mk hC
  have HAV := Aside0.mk hAV
  clear hAV hAL
  have HJ := Aside0.mk hJ
  clear hC hJ
  refine (callsIn_wide (n := 1)).1 ?_
  refine callsIn_of_wp Tryz.func76 rfl trivial ?_ rfl
  simp only [Tryz.ntmps76, List.size_toArray, List.length_cons, List.length_nil, Nat.reduceAdd, Nat.reduceSub, Array.replicate_succ, Array.replicate_zero, List.push_toArray, List.append_toArray, List.nil_append, List.cons_append]
  clear hB
  gi_wp2_with (first | ((try refine ⟨fun h => (by cases h), ?_⟩); refine hR.mono ?_; clear hR; rintro e W2 ⟨rfl, hJ2, hk2⟩; have HJ2 := Aside0.mk hJ2; have HK2 := Aside0.mk hk2; clear hJ2 hk2))
  refine wpIn_wide.2 ?_
  clear y0 hy
  go_loopg [8] r (fun kq v8 w' => ∃ i : Nat, v8 = .int .i64 i ∧ Aside0 (k ≤ i ∧ i + kq = N) ∧ Aside0 (∃ ys D, ys.map (·.2) = idx :: D ∧ D ++ tails N kq idx = tails N r idx ∧ J (pre ++ ys) w' ∧ KeptC S W w'))
  case atStart => exact ⟨k, rfl, ⟨by omega, by omega⟩, ⟨[(_, idx)], [], rfl, rfl, HJ2.out, HK2.out⟩⟩
  case round =>
    obtain ⟨i, rfl, HI, HR⟩ := hrel
    have hi1 := HI.out
    obtain ⟨ys, D, hys, hD, hJr, hKr⟩ := HR.out
    have HYS := Aside0.mk hys
    have HD := Aside0.mk hD
    have HJr := Aside0.mk hJr
    have HKr := Aside0.mk hKr
    have HCr := Aside0.mk (C_keptC HC.out hKr hAS)
    have HN0 : Aside0 (n0 ≤ wr.heap.size) := ⟨Nat.le_trans hn0 hKr.1⟩
    have HBr : Aside0 (Boxes l N b1 b2 b3 wr) := ⟨⟨blk_keptC HB0.out.n hKr hS.1, blk_keptC HB0.out.y hKr hS.2.1, blk_keptC HB0.out.w hKr hS.2.2⟩⟩
    clear hys hD hJr hKr HR
    have hn := blk_cell HBr.out.n 0
    have hw3 := blk_cell HBr.out.w 0
    by_cases hlt : i < N
    · have c1 : decide ((i : Int) < N) = true := by simpa using hlt
      obtain ⟨g', rfl⟩ : ∃ g', gk = g' + 1 := ⟨gk - 1, by omega⟩
      have hix2 : idx.length ≤ 4096 := by omega
      have VC := fun wq (hb : Below wr.heap.size wr wq) => cloneI_calls A c idx wq (Kd.C_below HCr.out hb) hix2
      have hw64 : wrap64 ((i : Int) + 1) = ((i + 1 : Nat) : Int) := by unfold wrap64; omega
      have HLI : Aside0 ((idx.length + 1) * 8 ≤ 140737488355328) := ⟨by omega⟩
      have HIH := fun (v : Value) (pre : List (Value × List Int)) (W : World) (h : n0 ≤ W.heap.size) => IH.out g' (by omega) (i + 1) v (idx ++ [(i : Int)]) pre W h (by omega) (by simp; omega)
      have hwr : IntKind.i64.wrap ((i : Int) + 1) = ((i + 1 : Nat) : Int) := by rw [i64_w, hw64]
      rw [show (((i + 1 : Nat) : Int)) = (i : Int) + 1 by omega] at HIH
      clear hi1
      go_wp2
      go_region_held3 (fun w' => w'.cell? ⟨b3, 0, none⟩ = some (.func (.func 76) #[] #[.pointer (some ⟨b2, 0, none⟩), .pointer (some ⟨b1, 0, none⟩), .pointer (some ⟨b3, 0, none⟩)]))
        (go_keep)
        (first
          | (go_at_call 77; (with_reducible refine (VC _ ?hb).mono ?_); (case hb => repeat (first | (with_reducible first | exact Below.refl _ _ | apply below_alloc | apply pw_below_drewN | apply below_drew1) | exact Below.refl _ _)); rintro e w5 ⟨v5, rfl, ho, hq⟩; have HQ5 := Aside0.mk hq; have HB5 : Aside0 (Below wr.heap.size wr w5) := ⟨below_step (by repeat (first | (with_reducible first | exact Below.refl _ _ | apply below_alloc | apply pw_below_drewN | apply below_drew1) | exact Below.refl _ _)) hq⟩; have HO5 := Aside0.mk (Kd.R_lower (base' := wr.heap.size) ho (by first | exact Nat.le_refl _ | (show wr.heap.size ≤ (World.alloc _ _).heap.size; rw [World.size_alloc]; omega))); have kw3 := (HBr.out.below HB5.out).at3; clear hq ho)
          | (go_at_call 76; (with_reducible refine (HIH v6 (pre ++ ys) _ ?h0 ?h1 ?h2 ?h3).mono ?_); (case h0 => exact Nat.le_trans HN0.out HB6.out.size); (case h1 => exact HBr.out.below (by repeat (first | (with_reducible first | exact HB6.out | apply below_alloc | apply pw_below_drewN | apply below_drew1) | exact HB6.out))); (case h2 => exact ArgI.of_R hS0 HN0.out HO6.out (by repeat (first | (with_reducible first | exact Below.refl _ _ | apply below_alloc | apply pw_below_drewN | apply below_drew1) | exact Below.refl _ _)) (by have := HI.out; simp; omega) (by intro j hj; rcases List.mem_append.1 hj with hj | hj; exact HAV.out j hj; (obtain rfl : j = (i : Int) := by simpa using hj); have := HI.out; omega)); (case h3 => exact HJ.out _ _ _ HJr.out (by repeat (first | (with_reducible first | exact HB6.out | apply below_alloc | apply pw_below_drewN | apply below_drew1) | exact HB6.out))); rintro e w8 ⟨rfl, ys2, hys2, hJ8, hk8⟩; have HYS8 := Aside0.mk hys2; have HJ8 := Aside0.mk hJ8; have HK8 : Aside0 (KeptC S wr w8) := ⟨(KeptC.below (by repeat (first | (with_reducible first | exact HB6.out | apply below_alloc | apply pw_below_drewN | apply below_drew1) | exact HB6.out))).trans hk8⟩; have kw8 := (HBr.out.kept hS HK8.out).at3; clear hys2 hJ8 hk8)
          | (refine Kd.R_append_rows_step (Kd.int .i64) (w0 := wr) wr.heap.size (by rfl) (.tmp 21) (.tmp 23) 80 3 (.int .i64 0) 8 rfl Tryz.underlying80 info3_ rfl (by decide) (by omega) v5 idx [(i : Int)] _ _ _ (fun _ => True) (fun _ => False) (by rfl) (by rfl) ?aO ?aR (fun x cs h => h) (fun _ h => h.elim) ?aF ?aB ?aS ?aL ?_; (case aR => first | exact C_one (blk_new _ _) | exact C_one ((HQ5.out.block wr.heap.size (by show wr.heap.size < (World.alloc _ _).heap.size; rw [World.size_alloc]; omega)).trans (blk_new wr _))); (case aF => exact (fun _ _ => trivial)); (case aO => ((with_reducible repeat (first | apply Kd.R_alloc | apply Kd.R_drewN | apply Kd.R_drew)); exact HO5.out)); (case aB => repeat (first | (with_reducible first | exact HB5.out | apply below_alloc | apply pw_below_drewN | apply below_drew1) | exact HB5.out)); (case aS => exact Nat.le_trans HB5.out.size (by first | exact Nat.le_refl _ | (simp; done) | (show _ ≤ (World.alloc _ _).heap.size; rw [World.size_alloc]; omega))); (case aL => exact HLI.out); intro v6 w6 ho hb hg hat; have HO6 := Aside0.mk ho; have HB6 := Aside0.mk hb; have kw6 := (HBr.out.below hb).at3; clear ho hb hg hat))
      all_goals
        go_wp2
        go_roundg g'
        case measure => omega
        case rel => exact ⟨i + 1, by first | go_num | (have := HI.out; go_num), ⟨by have := HI.out; omega, by have := HI.out; omega⟩, ⟨ys ++ ys2, D ++ ((idx ++ [(i : Int)]) :: tails N g' (idx ++ [(i : Int)])), by rw [List.map_append, HYS.out, HYS8.out]; rfl, by
          have h1 := HD.out
          rw [tails, show N - (g' + 1) = i by have := HI.out; omega] at h1
          rw [List.append_assoc]; exact h1, by rw [← List.append_assoc]; exact HJ8.out, HKr.out.trans HK8.out⟩⟩
    · have c1 : decide ((i : Int) < N) = false := by simpa using hlt
      obtain rfl : gk = 0 := by omega
      go_wp2
      gi_wp2
      go_ret
      refine ⟨rfl, ys, ?_, HJr.out, HKr.out⟩
      rw [HYS.out]
      have := HD.out
      simp only [tails, List.append_nil] at this
      rw [this]
end Go.Proofs.YtoanlppfdniiaaaGreatDoor.Q
end
