/- A part of the proof; no condition. -/
import Derived.Test.YtoanlppfdniiaaaGreatDoorProg
import Derived.Test.YtoanlppfdniiaaaGreatDoorX0
import Derived.Maps.Own
import Derived.Maps.OwnOps
import Derived.Maps.OwnSet
import Derived.Maps.Keyed
import Derived.StringKeys
import Derived.Lib.Strings
section
namespace Go.Proofs.YtoanlppfdniiaaaGreatDoor
set_option linter.unusedVariables false
open Go.RowKit Go.Maps
def hasB (l : List ByteArray) (s : ByteArray) : Bool := l.any fun t => t.toList == s.toList
theorem bytes_eq {s t : ByteArray} : s.data.toList = t.data.toList ↔ s = t := by
  constructor
  · intro h; cases s; cases t; rw [ByteArray.mk.injEq]; exact Array.toList_inj.1 h
  · rintro rfl; rfl
def IsSet (w : World) (b : Nat) (seen : List ByteArray) : Prop :=
  ∃ (n : Nat) (D : DataW Unit), w.ownsMap Tryz.prog 9 (plainElem Tryz.prog 4) b n D ∧ n ≤ seen.length ∧ ∀ s : ByteArray, D.atKey (.string s.data.toList) (.lit (.bool false)) = .lit (.bool (hasB seen s))
theorem IsSet.lt {w : World} {b : Nat} {seen : List ByteArray} (h : IsSet w b seen) : b < w.heap.size := by
  obtain ⟨n, D, h1, _⟩ := h; exact h1.lt
theorem IsSet.made (w : World) : IsSet (w.alloc (.map #[] 0)) w.heap.size [] := ⟨0, _, World.ownsMap_made _ _ _ _, Nat.le_refl _, fun s => rfl⟩
theorem IsSet.kept {w w' : World} {b : Nat} {seen : List ByteArray} {row : Option Nat} (h : IsSet w b seen) (hg : w.grownBy w' row) (hne : some b ≠ row) : IsSet w' b seen := by
  obtain ⟨n, D, h1, h2⟩ := h; exact ⟨n, D, h1.kept hg hne, h2⟩
theorem IsSet.below {w w' : World} {b : Nat} {seen : List ByteArray} (h : IsSet w b seen) (hb : Below w.heap.size w w') : IsSet w' b seen := h.kept (row := none) ⟨hb.os, hb.tape, hb.output, hb.size, fun k hk _ => hb.block k hk⟩ (by simp)
theorem plainElem_bool_inv {v : Value} {z : DataW Unit × List MemPlace} (h : plainElem Tryz.prog 4 v = some z) : ∃ x, v = .bool x ∧ z = (.lit (.bool x), []) := by
  have e := Tryz.underlying4
  cases v with
  | bool x => exact ⟨x, rfl, by rw [plainElem_bool e x] at h; exact (Option.some.inj h).symm⟩
  | _ => simp only [plainElem, e] at h; cases h
theorem zero4 (w : World) : (zeroValue 4).run Tryz.prog w = .ok (.bool false) w := by kernel_rfl
theorem IsSet.look {w : World} {b : Nat} {seen : List ByteArray} {t : TypeId} (h : IsSet w b seen) (ht : Tryz.prog.underlying t = some (.map 9 4)) (s : ByteArray) (hs : s.size ≤ maxLen) :
    (Instr.lookup t (.map (some b)) (.string s) false).run Tryz.prog w = .ok (.bool (hasB seen s)) w := by
  obtain ⟨n, D, h1, _, h3⟩ := h
  obtain ⟨v, ps, hrun, hv⟩ := h1.lookup (string_keyed Tryz.underlying9) ht (zero4 w) (plainElem_bool Tryz.underlying4 false) (WideMaps.keyOf_string_mk Tryz.underlying9 hs)
  obtain ⟨x, rfl, hz⟩ := plainElem_bool_inv hv
  rw [h3 s] at hz
  simp at hz
  rw [hrun, hz.1]
section
variable {ops : Array Oper} {rest : List Oper} {o : Oper} {a : Act} {Q : Exit → Act → World → Prop} {w : World}
theorem wpList_set_look (hg : o.guard = none) (m x : Operand) (t : TypeId) (hop : o.op = Op.lookup t m x false) (ht : Tryz.prog.underlying t = some (.map 9 4)) (b : Nat) (seen : List ByteArray) (s : ByteArray)
    (hm : a.eval m = .map (some b)) (hx : a.eval x = .string s) (hs : s.size ≤ maxLen) (h : IsSet w b seen) (hK : wpList Tryz.prog ops Q rest (a.put o.dst (.bool (hasB seen s))) w) : wpList Tryz.prog ops Q (o :: rest) a w := by
  refine wpList_plain hg fun K' hK' => ?_
  unfold Oper.wp
  simp [execOp, hop, hm, hx, h.look ht s hs, Result.andThen]
  exact hK' _ _ hK
theorem wpList_set_put (hg : o.guard = none) (m x v : Operand) (t : TypeId) (hop : o.op = Op.mapUpdate t m x v) (ht : Tryz.prog.underlying t = some (.map 9 4)) (b : Nat) (seen : List ByteArray) (s : ByteArray)
    (hm : a.eval m = .map (some b)) (hx : a.eval x = .string s) (hv : a.eval v = .bool true) (hs : s.size ≤ maxLen) (h : IsSet w b seen) (hl : seen.length < maxLen)
    (hK : ∀ w', IsSet w' b (seen ++ [s]) → w.grownBy w' (some b) → wpList Tryz.prog ops Q rest (a.put o.dst undef) w') : wpList Tryz.prog ops Q (o :: rest) a w := by
  obtain ⟨n, D, h1, h2, h3⟩ := h
  refine wpList_mapUpdate_own w hg m x v t hop 9 4 (string_keyed Tryz.underlying9) ht (plainElem Tryz.prog 4) b n D hm h1 (by omega) (.string s) (.bool true) (.string s.data.toList) hx hv (WideMaps.keyOf_string_mk Tryz.underlying9 hs) (.lit (.bool true)) [] (plainElem_bool Tryz.underlying4 true) ?_
  intro w' o1 o2
  refine hK w' ⟨n + 1, _, o1, by simp; omega, fun s' => ?_⟩ o2
  by_cases e : s' = s
  · subst e
    rw [atKey_put_same h1.isMap (by trivial)]
    simp [hasB]
  · have hne : s'.data.toList ≠ s.data.toList := fun hh => e (bytes_eq.1 hh)
    rw [atKey_put_other (by intro hh; exact hne (by injection hh)), h3 s']
    have : (s.toList == s'.toList) = false := by
      rw [Lib.toList_data, Lib.toList_data]; exact beq_eq_false_iff_ne.2 (fun hh => hne hh.symm)
    simp [hasB, this]
end
end Go.Proofs.YtoanlppfdniiaaaGreatDoor
end
