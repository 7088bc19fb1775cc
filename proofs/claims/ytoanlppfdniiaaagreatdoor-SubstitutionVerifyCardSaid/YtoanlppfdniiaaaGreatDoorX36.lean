/- A part of the proof; no condition. -/
import Derived.Test.YtoanlppfdniiaaaGreatDoorX35
section
namespace Go.Proofs.YtoanlppfdniiaaaGreatDoor.Q
set_option linter.unusedVariables false
set_option linter.unusedSimpArgs false
open Go.RowKit Go.Proofs.YtoanlppfdniiaaaGreatDoorW.PrintWords Go.Proofs.YtoanlppfdniiaaaGreatDoorW.PrintLast Go.Proofs.YtoanlppfdniiaaaGreatDoorW.PrintMore
theorem selections_calls (n : Int) (w : World) : Calls Tryz.prog 40 #[.int .i64 n] w fun e w' => e = .returned (.func (.func 75) #[] #[.pointer (some ⟨w.heap.size, 0, none⟩)]) ∧ w' = w.alloc (.cells #[.int .i64 n] 3) := by
  go_enter Tryz.func40, Tryz.ntmps40
  go_wp2
  go_ret
  exact ⟨rfl, rfl⟩
def sels (N : Nat) : List (List Int) := [] :: tails N N []
set_option maxHeartbeats 4000000 in
set_option maxRecDepth 100000 in
theorem sel1_calls (l N b1 : Nat) (hN : N ≤ 4096) (S : Nat → Prop) (hS1 : ¬ S b1) (n0 : Nat) (hS0 : ∀ k, S k → k < n0) (J : List (Value × List Int) → World → Prop)
    (hJ : ∀ s A B, J s A → Below A.heap.size A B → J s B)
    (hY : ∀ m pre x W1, J pre W1 → ArgI N S x W1 → YieldAt Fence.wide m Tryz.prog l #[x.1] W1 fun e W' => e = .returned (.bool true) ∧ J (pre ++ [x]) W' ∧ KeptC S W1 W')
    (W : World) (hn0 : n0 ≤ W.heap.size) (h1 : W.heap[b1]? = some (.cells #[.int .i64 N] 3 (0, 0))) (hJ0 : J [] W) :
    Calls Tryz.prog 75 #[.func (.yield l) #[] #[], .pointer (some ⟨b1, 0, none⟩)] W fun e W' => (∃ v, e = .returned v) ∧ ∃ xs, xs.map (·.2) = sels N ∧ J xs W' := by
  have H1 := Aside0.mk h1
  have HJ := Aside0.mk hJ
  have HN := Aside0.mk hN
  clear h1 hJ
  have V := fun (W' : World) (b2 b3 : Nat) (h2 : ¬ S b2) (h3 : ¬ S b3) (hn : n0 ≤ W'.heap.size) (hB : Boxes l N b1 b2 b3 W') (hJ' : J [] W') => walk_run l N b1 b2 b3 hN S ⟨hS1, h2, h3⟩ n0 hS0 J HJ.out hY N 0 (.slice none 0 0) [] [] W' hn (by omega) (by simp) hB ⟨none, 0, rfl, Nat.le_refl _, Kd.C_nil _ _, fun ad h => (by cases h), Nat.zero_le _, fun j hj => (by simp at hj)⟩ hJ'
  go_enter Tryz.func75, Tryz.ntmps75
  have g2 : ¬ S W.heap.size := fun h => by have := hS0 _ h; omega
  have g3 : ¬ S (W.heap.size + 1) := fun h => by have := hS0 _ h; omega
  have HJ0 := Aside0.mk (hJ0)
  clear hJ0
  go_wp2_with (go_at_call 76; (refine (V _ W.heap.size (W.heap.size + 1) g2 g3 ?h0 ?hB ?hJ).mono ?_); (case h0 => exact Nat.le_trans hn0 (by simp [World.size_alloc]; omega)); (case hB => exact ⟨blk_alloc (blk_alloc H1.out _) _, blk_alloc (blk_new _ _) _, by have := blk_new (W.alloc (.cells #[.func (.yield l) #[] #[]] 129)) (.cells #[.func (.func 76) #[] #[.pointer (some ⟨W.heap.size, 0, none⟩), .pointer (some ⟨b1, 0, none⟩), .pointer (some ⟨W.heap.size + 1, 0, none⟩)]] 130); rwa [World.size_alloc] at this⟩); (case hJ => exact HJ.out _ _ _ HJ0.out (below_alloc (below_alloc (Below.refl _ _) _) _)); rintro e w5 ⟨rfl, ys, hys, hJ5, hk⟩; have HY5 := Aside0.mk hys; have HJ5 := Aside0.mk hJ5; clear hys hJ5 hk)
  go_end0
  exact ⟨⟨_, rfl⟩, ys, HY5.out, by simpa using HJ5.out⟩
end Go.Proofs.YtoanlppfdniiaaaGreatDoor.Q
end
