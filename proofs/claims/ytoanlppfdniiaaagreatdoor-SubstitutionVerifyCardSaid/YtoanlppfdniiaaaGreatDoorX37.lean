/- A part of the proof; no condition. -/
import Derived.Test.YtoanlppfdniiaaaGreatDoorX27
import Derived.Test.YtoanlppfdniiaaaGreatDoorX36
section
namespace Go.Proofs.YtoanlppfdniiaaaGreatDoor.Q
set_option linter.unusedVariables false
set_option linter.unusedSimpArgs false
open Go.RowKit Go.Proofs.YtoanlppfdniiaaaGreatDoorW.PrintWords Go.Proofs.YtoanlppfdniiaaaGreatDoorW.PrintLast Go.Proofs.YtoanlppfdniiaaaGreatDoorW.PrintMore
theorem M35_any {w w' : World} {b b' : Nat} {ok ok' : Nat → Prop} {x : S35} {cs : List Value} (h : k35.M w b ok x cs) : k35.M w' b' ok' x cs := by
  obtain rfl := k35_openM h
  exact k35_mkM _ _ _ _
theorem put_other {W : World} {l g : Nat} {o o' u : Obj} (h : W.heap[l]? = some o) (ho : o.isCells = false) (hg : W.heap[g]? = some u) (hu : u.isCells = true) : (W.putObj l o').heap[g]? = some u := by
  by_cases e : g = l
  · subst e; rw [h] at hg; cases hg; rw [ho] at hu; cases hu
  · exact (World.putObj_heap_other e).trans hg
theorem R35_put {W : World} {e B : Nat} {ok : Nat → Prop} {v : Value} {xs : List S35} {l : Nat} {o o' : Obj} (h : k35.R e W B ok v xs) (hl : W.heap[l]? = some o) (ho : o.isCells = false) : k35.R e (W.putObj l o') B ok v xs := by
  obtain ⟨h1, inner, ⟨hlen, hown⟩, hr⟩ := h
  refine ⟨h1, inner, ⟨hlen, ?_⟩, hr.1, fun j p hp => M35_any (hr.2 j p hp)⟩
  rcases hown with h | ⟨g, cap, cur, hv, hB, hg, h4⟩
  · exact .inl h
  · exact .inr ⟨g, cap, cur, hv, hB, put_other hl ho hg rfl, h4⟩
theorem Cint_put {W : World} {A : Option Addr} {n : Nat} {xs : List Int} {l : Nat} {o o' : Obj} (h : Kd.C (Kd.int .i64) W A n xs) (hl : W.heap[l]? = some o) (ho : o.isCells = false) : Kd.C (Kd.int .i64) (W.putObj l o') A n xs := by
  refine ⟨h.1, h.2.1, fun hn => ?_⟩
  obtain ⟨ad, rfl, hc⟩ := h.2.2 hn
  refine ⟨ad, rfl, fun j p hp => ?_⟩
  obtain ⟨c, h1, h2, h3⟩ := hc j p hp
  exact ⟨c, h1, h2, fun i u hu => cell_keptC (S := fun _ => False) (h3 i u hu) (KeptC.put W o' hl ho) (fun h => h)⟩
theorem ArgI.put {N : Nat} {S : Nat → Prop} {x : Value × List Int} {W : World} {l : Nat} {o o' : Obj} (h : ArgI N S x W) (hl : W.heap[l]? = some o) (ho : o.isCells = false) : ArgI N S x (W.putObj l o') := by
  obtain ⟨A, c, h1, h2, h3, h4⟩ := h
  exact ⟨A, c, h1, h2, Cint_put h3 hl ho, h4⟩
theorem below_put {B : Nat} {w W : World} {l : Nat} {o' : Obj} (h : Below B w W) (hl : B ≤ l) (hlt : l < W.heap.size) : Below B w (W.putObj l o') := by
  refine ⟨h.os, h.tape, h.output, by simpa [World.putObj] using h.size, fun k hk => ?_⟩
  rw [World.putObj_heap_other (by omega)]
  exact h.block k hk
theorem R35_append_in {F : Fence} {n : Nat} {ops : Array Oper} {rest : List Oper} {o : Oper} {a : Act} {Q : Exit → Act → World → Prop} {w0 W : World} (base : Nat) (hgd : o.guard = none) (s x : Operand)
    (ho : o.op = .call { callee := .builtin .append, args := #[s, x], argTypes := #[22, 22] }) (v : Value) (xs : List S35) (p : S35) (hs : a.eval s = v) (hx : a.eval x = .slice (some ⟨W.heap.size, 0, none⟩) 1 1)
    (HO : k35.R 35 W base (fun _ => True) v xs) (HB : Below base w0 W) (hbase : base ≤ W.heap.size) (hl : xs.length ≤ 4096)
    (h : ∀ v1 w1, k35.R 35 w1 base (fun _ => True) v1 (xs ++ [p]) → Below base w0 w1 → W.grownBy w1 v.ownBlock → wpListIn F n Tryz.prog ops Q rest (a.put o.dst v1) w1) :
    wpListIn F n Tryz.prog ops Q (o :: rest) a (W.alloc (.cells #[.string p.f0, .int .i64 p.f1, .int .i64 p.f2] 35)) := by
  obtain ⟨_, inner, hown, hr⟩ := HO
  obtain ⟨i0, hi, hzz⟩ := Option.map_eq_some_iff.1 info35
  simp only [Prod.mk.injEq] at hzz
  obtain ⟨hz0, hz1, hz2⟩ := hzz
  refine wpListIn_append_own (W.alloc (.cells #[.string p.f0, .int .i64 p.f1, .int .i64 p.f2] 35)) hgd s x 22 ho base 35 i0 _ 3 32 Tryz.underlying22 hi hz0 hz1 hz2 rfl (by decide) v xs.length inner hs (hown.alloc _) ⟨W.heap.size, 0, none⟩ 1 1 (enc35 p) hx rfl
    (by simpa [enc35] using World.news_of_block (cs := #[.string p.f0, .int .i64 p.f1, .int .i64 p.f2]) (t := 35) (fr := (0, 0)) (heap_alloc_new W _)) (enc35_one p) (by simp only [maxLen]; omega) (by omega) (by rw [World.size_alloc]; omega) ?_
  intro v1 w1 hown1 hg _
  refine h v1 w1 ⟨fun _ _ => trivial, inner ++ enc35 p, by rw [List.length_append, List.length_singleton]; exact hown1, ?_⟩ ((HB.alloc hbase _).grown hg (by rw [World.size_alloc]; omega) (own_base hown)) (World.grownBy.trans (World.grownBy_alloc W _ _) hg)
  exact Reps.snoc ⟨hr.1, fun j q hq => M35_any (hr.2 j q hq)⟩ (k35_mkM _ _ _ _) rfl
end Go.Proofs.YtoanlppfdniiaaaGreatDoor.Q
end
