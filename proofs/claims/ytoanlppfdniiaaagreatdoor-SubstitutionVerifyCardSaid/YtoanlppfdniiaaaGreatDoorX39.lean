/- A part of the proof; no condition. -/
import Derived.Test.YtoanlppfdniiaaaGreatDoorX37
section
namespace Go.Proofs.YtoanlppfdniiaaaGreatDoor.Q
set_option linter.unusedVariables false
set_option linter.unusedSimpArgs false
open Go.RowKit Go.Proofs.YtoanlppfdniiaaaGreatDoorW.PrintWords Go.Proofs.YtoanlppfdniiaaaGreatDoorW.PrintLast Go.Proofs.YtoanlppfdniiaaaGreatDoorW.PrintMore
theorem R35_set {W : World} {e B : Nat} {ok : Nat → Prop} {v : Value} {xs : List S35} (h : k35.R e W B ok v xs) (p : Addr) (u : Value) (hp : p.block < B) : k35.R e (W.setCell p u) B ok v xs := by
  obtain ⟨h1, inner, ⟨hlen, hown⟩, hr⟩ := h
  refine ⟨h1, inner, ⟨hlen, ?_⟩, hr.1, fun j q hq => M35_any (hr.2 j q hq)⟩
  rcases hown with h | ⟨g, cap, cur, hv, hB, hg, h4⟩
  · exact .inl h
  · exact .inr ⟨g, cap, cur, hv, hB, blk_far hg (by omega) u, h4⟩
theorem size_set (w : World) (p : Addr) (u : Value) : (w.setCell p u).heap.size = w.heap.size := by
  simp [World.setCell]
theorem keptB_set {S : Nat → Prop} {W W' : World} (h : KeptB S W W') (p : Addr) (u : Value) (hp : S p.block) : KeptB S W (W'.setCell p u) :=
  ⟨by rw [size_set]; exact h.1, fun k hk hs => (Below.heap_setCell W' p u k (fun e => hs (e ▸ hp))).trans (h.2 k hk hs)⟩
theorem chosen_put {w W8 W wr w5 : World} {b : Nat} {v vb fbv : Value} {xs : List S35} (HB : Below W.heap.size W wr) (HQ : Below wr.heap.size wr w5)
    (h6 : wr.heap[b + 1]? = some (.cells #[vb] 22 (0, 0))) (h7 : wr.heap[b + 2]? = some (.cells #[fbv] 4 (0, 0))) (hlt : b + 2 < W8.heap.size) (h8 : W8.heap.size ≤ W.heap.size)
    (hR : k35.R 35 wr W.heap.size (fun _ => True) v xs) (h4 : KeptC (fun k => k = b + 1 ∨ k = b + 2) W8 W) (h5 : Below w.heap.size w W) (hw : w.heap.size ≤ b) :
    KeptB (fun k => k = b + 1 ∨ k = b + 2) W ((w5.setCell ⟨b + 1, 0, none⟩ v).setCell ⟨b + 2, 0, none⟩ (.bool true)) ∧
    ((w5.setCell ⟨b + 1, 0, none⟩ v).setCell ⟨b + 2, 0, none⟩ (.bool true)).heap[b + 1]? = some (.cells #[v] 22 (0, 0)) ∧
    ((w5.setCell ⟨b + 1, 0, none⟩ v).setCell ⟨b + 2, 0, none⟩ (.bool true)).heap[b + 2]? = some (.cells #[.bool true] 4 (0, 0)) ∧
    k35.R 35 ((w5.setCell ⟨b + 1, 0, none⟩ v).setCell ⟨b + 2, 0, none⟩ (.bool true)) W8.heap.size (fun _ => True) v xs ∧
    KeptC (fun k => k = b + 1 ∨ k = b + 2) W8 ((w5.setCell ⟨b + 1, 0, none⟩ v).setCell ⟨b + 2, 0, none⟩ (.bool true)) ∧
    Below w.heap.size w ((w5.setCell ⟨b + 1, 0, none⟩ v).setCell ⟨b + 2, 0, none⟩ (.bool true)) := by
  have hb5 : Below W.heap.size W w5 := below_step HB HQ
  have hk : KeptB (fun k => k = b + 1 ∨ k = b + 2) W w5 := ⟨hb5.size, fun k hk _ => hb5.block k hk⟩
  have hk2 := keptB_set (keptB_set hk ⟨b + 1, 0, none⟩ v (.inl rfl)) ⟨b + 2, 0, none⟩ (.bool true) (.inr rfl)
  refine ⟨hk2, blk_far (blk_put (blk_below h6 HQ) 0 v rfl) (by show b + 1 ≠ b + 2; omega) _, blk_put (blk_far (blk_below h7 HQ) (by show b + 2 ≠ b + 1; omega) _) 0 _ rfl, ?_, h4.trans hk2.c, below_set (below_set (below_step h5 hb5) (by omega)) (by omega)⟩
  exact Kd.R_lower (R35_set (R35_set (Kd.R_below hR HQ) _ _ (by show b + 1 < W.heap.size; omega)) _ _ (by show b + 2 < W.heap.size; omega)) h8
end Go.Proofs.YtoanlppfdniiaaaGreatDoor.Q
end
