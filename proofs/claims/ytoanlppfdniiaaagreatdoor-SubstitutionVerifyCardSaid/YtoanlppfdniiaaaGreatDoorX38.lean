/- A part of the proof; no condition. -/
import Derived.Test.YtoanlppfdniiaaaGreatDoorX34
import Derived.Lib.QuietBelow
import Derived.OrdersIn
import Derived.Orders
section
namespace Go.Proofs.YtoanlppfdniiaaaGreatDoor
open Go Go.RowKit Go.Sort
set_option linter.unusedVariables false
variable {P : Program} {ops : Array Oper} {Q : Exit → Act → World → Prop} {md : Region.Mode}
def Plain (Q : Exit → Act → World → Prop) : Exit → Act → World → Prop := fun e a w => e = .normal ∧ Q .normal a w
theorem plain_letsOut : ¬ LetsOut (Plain Q) := by rintro ⟨a, w, h, _⟩; cases h
def NoDefer (ops : Array Oper) : Prop := ∀ (i : Nat) (o : Oper), ops[i]? = some o → ∀ c, o.op ≠ .defer c
def noDeferB (ops : Array Oper) : Bool := ops.all fun o => match o.op with | .defer _ => false | _ => true
theorem noDefer_of (h : noDeferB ops = true) : NoDefer ops := by
  intro i o ho c hc
  unfold noDeferB at h
  rw [Array.all_eq_true'] at h
  have := h o (Array.mem_of_getElem? ho)
  rw [hc] at this
  simp at this
theorem rowsIn_wide {n : Nat} {row : String} {args : Array Value} {w : World} {R : Value → World → Prop} (h : Rows P row args w R) : RowsIn Fence.wide n P row args w R :=
  fun c cs _ => let ⟨v, w', r, s⟩ := h c cs; ⟨v, w', r, stepsIn_wide.2 s⟩
theorem oper_round {o : Oper} {n r : Nat} {a : Act} {w : World} {K K' : Act → World → Prop} (ho : ∀ c, o.op ≠ .defer c) (h : ∀ a w, K a w → K' a w) (hh : o.wp P a w K (Plain Q)) : o.wpIn (Fence.wide.inRound r) n P a w K' Q := by
  refine ⟨fun _ _ => trivial, ?_⟩
  rw [show Oper.semAt (Fence.wide.inRound r).round a.eval o = execOp a.eval o from Oper.semAt_eq _ _ _ ho]
  unfold Oper.wp at hh
  generalize (execOp a.eval o).run P w = res at hh
  cases res with
  | ok x w' =>
    cases x <;> simp only [Oper.uponIn, Oper.upon] at hh ⊢ <;>
      first
        | exact h _ _ hh
        | (refine ⟨fun hd => (by cases hd), CallsIn.inRound r (callsIn_wide.2 (hh.mono ?_))⟩; intro e w'' he; cases e with
            | returned v => exact h _ _ he
            | panicked c => exact absurd he.1 (by simp)
            | outgrown => exact absurd he plain_letsOut)
        | (refine ⟨fun hd => (by cases hd), ?_⟩; exact (show RowsIn Fence.wide (n - 1) P _ _ _ _ from rowsIn_wide (hh.mono (fun _ _ he => h _ _ he))))
        | exact hh.elim
  | halt x w' =>
    cases x <;> simp only [Oper.uponIn, Oper.upon] at hh ⊢ <;> first | exact hh.elim | exact absurd hh.1 (by simp)
theorem op_round {n r i : Nat} {a : Act} {w : World} {K K' : Act → World → Prop} (hnd : NoDefer ops) (h : ∀ a w, K a w → K' a w) (hh : wpOp P ops (Plain Q) i K a w) : wpOpIn (Fence.wide.inRound r) n P ops Q i K' a w := by
  unfold wpOp at hh
  unfold wpOpIn
  cases ho : ops[i]? with
  | none => simp only [ho] at hh ⊢; exact h _ _ hh
  | some o =>
    simp only [ho] at hh ⊢
    by_cases hw : Region.wanted o (yielded ops a.tmps) = true
    · rw [if_pos hw] at hh ⊢
      rcases hh with hh | hh
      · exact oper_round (hnd i o ho) h hh
      · exact absurd hh.2 plain_letsOut
    · rw [if_neg hw] at hh ⊢
      exact ⟨fun _ _ => trivial, h _ _ hh⟩
theorem any_round {n r : Nat} (hnd : NoDefer ops) : ∀ (fuel : Nat) (listed : Array Bool) (a : Act) (w : World), wpAny P md ops (Plain Q) fuel listed a w → wpAnyIn (Fence.wide.inRound r) n P md ops Q fuel listed a w
  | 0, _, _, _, h => ⟨h.1, h.2.2⟩
  | fuel + 1, _, _, _, h => ⟨fun h0 => (h.1 h0).2, fun i hi => op_round hnd (fun a' w' h' => any_round hnd fuel _ a' w' h') (h.2 i hi)⟩
theorem region_round {n r id : Nat} {a : Act} {w : World} (hnd : NoDefer ops) (hm : P.follows .mixedOrders = true)
    (h : wpAny P .any ops (Plain Q) ops.size (Array.replicate ops.size false) a { w with drawn := w.drawn + 1 }) : (Code.region id ops true).wpIn (Fence.wide.inRound r) n P Q a w :=
  wpIn_region_any hm (any_round hnd _ _ _ _ h)
theorem region_quiet_round {n r id : Nat} {a : Act} {w : World} {l : List Oper} (hnd : NoDefer l.toArray) (hm : P.follows .mixedOrders = true) (hB : Region.lexB .any l.toArray = true)
    (h : wpQuiet P l.toArray (fun w' => ∃ p : Regrown, w' = grow (redrawn w p.d) p.os) (fun a' => ∀ w', (∃ p : Regrown, w' = grow (redrawn w p.d) p.os) → Q .normal a' w') l a) : (Code.region id l.toArray true).wpIn (Fence.wide.inRound r) n P Q a w := by
  refine region_round hnd hm ?_
  simp only [Region.lexB, Bool.and_eq_true] at hB
  have hC : (fun w' => ∃ p : Regrown, w' = grow (redrawn w p.d) p.os) { w with drawn := w.drawn + 1 } := ⟨⟨w.drawn + 1, #[]⟩, by rw [grow_empty]; rfl⟩
  refine wpAny_of_quiet (Q := fun a' => ∀ w', (∃ p : Regrown, w' = grow (redrawn w p.d) p.os) → Q .normal a' w') (fun _ w' hw' h => ⟨rfl, h w' hw'⟩) _ _ _ _ hC ?_
  have := wpAnyQ_lex (C := fun w' => ∃ p : Regrown, w' = grow (redrawn w p.d) p.os) (md := .any) hB.1 l 0 (Array.replicate l.toArray.size false) a (by simp) (by simpa using hB.2) (by simpa using h)
  simpa using this
end Go.Proofs.YtoanlppfdniiaaaGreatDoor
end
