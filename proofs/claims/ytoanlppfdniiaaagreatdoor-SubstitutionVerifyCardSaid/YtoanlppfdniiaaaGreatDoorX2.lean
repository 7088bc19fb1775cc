/- A part of the proof; no condition. -/
import Derived.Test.YtoanlppfdniiaaaGreatDoorX1
import Derived.Test.YtoanlppfdniiaaaGreatDoorRows
import Derived.Deep.Slices
import Derived.Deep.Fields
import Derived.ChangeSame
import Derived.Lib.SmallJoins
import Derived.SliceStrings
import Derived.ChangeBook
import Derived.ChangeStays
import Derived.Below
import Derived.WalkKit
import Derived.ProofKit
import Derived.OpenShut
import Derived.Deep.DeepHandedRow
section
namespace Go.Proofs.YtoanlppfdniiaaaGreatDoor.Q
set_option linter.unusedVariables false
set_option linter.unusedSimpArgs false
open Go.Joins Go.ChangeShapes Go.WideShapes Go.RowKit Go.Deep Go.Proofs.YtoanlppfdniiaaaGreatDoorW.PrintWords Go.Proofs.YtoanlppfdniiaaaGreatDoorW.PrintLast Go.Proofs.YtoanlppfdniiaaaGreatDoorW.PrintMore
section
variable {H : Type} {enc : TypeId × Value → H} {P : Program} {w : World} {base : Nat} {spare : Nat → Bool} {held : Bool}
theorem open_slice_fields {t e : TypeId} {fs : Array Field} {fuel : Nat} {cs : List Value} {x : DataW H × List MemPlace} (ht : P.underlying t = some (.slice e)) (he : P.underlying e = some (.struct fs))
    (hone : oneCellFields P fs = true) (hC : P.cellsOf e = fs.size) (h : DataW.trod enc P w base spare held fuel t cs = some x) :
    (cs = [.slice none 0 0] ∧ x = (.nil, [])) ∨
    ∃ (a : Addr) (len cap m : Nat) (D : Nat → DataW H) (Pl : Nat → List MemPlace), cs = [.slice (some a) len cap] ∧ base ≤ a.block ∧ len ≤ cap ∧ cap ≤ maxLen ∧ m = (if spare a.block then cap else len) ∧
      x = (.slice ((List.range len).map D) ((List.range (m - len)).map fun j => D (len + j)), MemPlace.row a (m * fs.size) ++ (List.range m).flatMap Pl) ∧
      ∀ i, i < m → ∃ (ys : List (DataW H × List MemPlace)) (n : Nat), D i = .agg (ys.map (·.1)) ∧ Pl i = ys.flatMap (·.2) ∧ ys.length = fs.size ∧
        ∀ (j : Nat) (f : Field), fs[j]? = some f → ∃ (v : Value) (y : DataW H × List MemPlace), w.cell? (a.add (i * fs.size + j)) = some v ∧ ys[j]? = some y ∧ DataW.trod enc P w base spare held n f.type [v] = some y := by
  rcases open_slice ht h with h0 | ⟨a, len, cap, m, n, D, Pl, hcs, hb, hl, hm, hmm, hx, hi⟩
  · exact .inl h0
  · refine .inr ⟨a, len, cap, m, D, Pl, hcs, hb, hl, hm, hmm, by rw [hC] at hx; exact hx, fun i him => ?_⟩
    obtain ⟨cs', hc, ht'⟩ := hi i him
    rw [hC] at hc
    obtain ⟨ys, n', hn', hy, hlen, hyl, hf⟩ := DataW.trod_struct he ht'
    obtain ⟨_, hcl, hat⟩ := World.cells?_some hc
    simp only [Prod.mk.injEq] at hy
    refine ⟨ys, n', hy.1, hy.2, hyl, fun j f hj => ?_⟩
    obtain ⟨ho, hk⟩ := hone_of hone j f hj
    have hjl : j < fs.size := (Array.getElem?_eq_some_iff.1 hj).1
    have hcell := hat j hjl
    have hv : cs'[j]? = some (cs'[j]'(by omega)) := List.getElem?_eq_getElem (by omega)
    have h1 := hf j f hj
    rw [ho, hk] at h1
    have hone' : (cs'.drop j).take 1 = [cs'[j]'(by omega)] := by
      rw [List.drop_eq_getElem_cons (by omega)]
      rfl
    rw [hone'] at h1
    have hys : ys[j]? = some (ys[j]'(by omega)) := List.getElem?_eq_getElem (by omega)
    refine ⟨_, _, ?_, hys, h1.trans hys⟩
    rw [← Go.Deep.add_add, hcell, hv]
end
theorem list_of {β : Type} {p : Nat → β → Prop} : ∀ n, (∀ i, i < n → ∃ b, p i b) → ∃ l : List β, l.length = n ∧ ∀ i b, l[i]? = some b → p i b
  | 0, _ => ⟨[], rfl, fun i b h => by simp at h⟩
  | n + 1, h => by
    obtain ⟨l, hl, hp⟩ := list_of n (fun i hi => h i (by omega))
    obtain ⟨b, hb⟩ := h n (by omega)
    refine ⟨l ++ [b], by simp [hl], fun i c hc => ?_⟩
    by_cases e : i < n
    · rw [List.getElem?_append_left (by omega)] at hc; exact hp i c hc
    · have hi : i < n + 1 := by have := (List.getElem?_eq_some_iff.1 hc).1; simp [hl] at this; omega
      obtain rfl : i = n := by omega
      rw [List.getElem?_append_right (by omega), hl, Nat.sub_self] at hc
      simp at hc; subst hc; exact hb
def InP (W : World) (v : Value) : Prop := ∃ A c l, v = .slice A (l : List S109).length c ∧ Kd.C k109 W A l.length l ∧ l.length ≤ c
def InS (W : World) (v : Value) : Prop := ∃ A c l, v = .slice A (l : List ByteArray).length c ∧ Kd.C Kd.string W A l.length l ∧ l.length ≤ c
section
variable {H : Type} {enc : TypeId × Value → H} {W : World} {sp : Nat → Bool} {n : Nat} {v : Value} {y : DataW H × List MemPlace}
theorem und109 : ∃ fs, Tryz.prog.underlying 109 = some (.struct fs) ∧ oneCellFields Tryz.prog fs = true ∧ fs.size = 3 ∧ Tryz.prog.cellsOf 109 = 3 ∧ (fs[0]?.map (·.type)) = some 9 ∧ (fs[1]?.map (·.type)) = some 2 ∧ (fs[2]?.map (·.type)) = some 2 :=
  ⟨_, Tryz.underlying109, by kernel_rfl, by kernel_rfl, by kernel_rfl, by kernel_rfl, by kernel_rfl, by kernel_rfl⟩
theorem inP (h : DataW.trod enc Tryz.prog W 0 sp true n 47 [v] = some y) : InP W v := by
  obtain ⟨fs, he, hone, hsz, hC, h0, h1, h2⟩ := und109
  rcases open_slice_fields Tryz.underlying47 he hone (hC.trans hsz.symm) h with ⟨hv, _⟩ | ⟨a, len, cap, m, D, Pl, hv, _, hl, hm, hmm, _, hi⟩
  · obtain rfl : v = .slice none 0 0 := by simpa using hv
    exact ⟨none, 0, [], rfl, Kd.C_nil _ _, Nat.le_refl _⟩
  · obtain rfl : v = .slice (some a) len cap := by simpa using hv
    have hlm : len ≤ m := by rw [hmm]; split <;> omega
    obtain ⟨l, hll, hp⟩ := list_of (p := fun i (p : S109) => W.cell? (a.add (i * 3 + 0)) = some (.string p.f0) ∧ W.cell? (a.add (i * 3 + 1)) = some (.int .i64 p.f1) ∧ W.cell? (a.add (i * 3 + 2)) = some (.int .i64 p.f2)) len (fun i hi' => by
      obtain ⟨ys, n', _, _, _, hf⟩ := hi i (by omega)
      rw [hsz] at hf
      obtain ⟨f0, e0, t0⟩ := Option.map_eq_some_iff.1 h0
      obtain ⟨f1, e1, t1⟩ := Option.map_eq_some_iff.1 h1
      obtain ⟨f2, e2, t2⟩ := Option.map_eq_some_iff.1 h2
      obtain ⟨v0, y0, c0, _, r0⟩ := hf 0 f0 e0
      obtain ⟨v1, y1, c1, _, r1⟩ := hf 1 f1 e1
      obtain ⟨v2, y2, c2, _, r2⟩ := hf 2 f2 e2
      rw [t0] at r0
      rw [t1] at r1
      rw [t2] at r2
      obtain ⟨s, hs, _⟩ := DataW.trod_string Tryz.underlying9 r0
      obtain ⟨a1, ha1, _⟩ := DataW.trod_int Tryz.underlying2 r1
      obtain ⟨a2, ha2, _⟩ := DataW.trod_int Tryz.underlying2 r2
      obtain rfl : v0 = .string s := by simpa using hs
      obtain rfl : v1 = .int .i64 a1 := by simpa using ha1
      obtain rfl : v2 = .int .i64 a2 := by simpa using ha2
      exact ⟨⟨s, a1, a2⟩, c0, c1, c2⟩)
    subst hll
    refine ⟨some a, cap, l, rfl, ⟨rfl, by unfold maxLen at hm; omega, fun _ => ⟨a, rfl, fun j p hp' => ?_⟩⟩, hl⟩
    obtain ⟨c0, c1, c2⟩ := hp j p hp'
    refine ⟨_, rfl, k109_mk W p, fun k u hu => ?_⟩
    match k, hu with
    | 0, hu => obtain rfl := Option.some.inj hu; exact c0
    | 1, hu => obtain rfl := Option.some.inj hu; exact c1
    | 2, hu => obtain rfl := Option.some.inj hu; exact c2
    | k + 3, hu => simp at hu
theorem inS (h : DataW.trod enc Tryz.prog W 0 sp true n 23 [v] = some y) : InS W v := by
  rcases open_strings Tryz.underlying23 Tryz.underlying9 (by kernel_rfl) h with ⟨hv, _⟩ | ⟨a, len, cap, ss, hv, _, hl, hm, hss, _, hc, _⟩
  · obtain rfl : v = .slice none 0 0 := by simpa using hv
    exact ⟨none, 0, [], rfl, Kd.C_nil _ _, Nat.le_refl _⟩
  · obtain rfl : v = .slice (some a) len cap := by simpa using hv
    have hlm : len ≤ ss.length := by rw [hss]; split <;> omega
    have htl : (ss.take len).length = len := by rw [List.length_take]; omega
    refine ⟨some a, cap, ss.take len, by rw [htl], ⟨rfl, by unfold maxLen at hm; omega, fun _ => ⟨a, rfl, fun j p hp => ?_⟩⟩, by omega⟩
    have hj : j < len := by have := (List.getElem?_eq_some_iff.1 hp).1; omega
    rw [List.getElem?_take_of_lt hj] at hp
    refine ⟨[.string p], rfl, rfl, fun k u hu => ?_⟩
    match k, hu with
    | 0, hu =>
      obtain rfl := Option.some.inj hu
      have := hc j (by omega)
      rw [List.getD_eq_getElem?_getD, hp] at this
      show W.cell? (a.add (j * 1 + 0)) = _
      simpa using this
    | k + 1, hu => simp at hu
set_option maxRecDepth 100000 in
theorem openR {r : Reach} {b0 : Nat} {d : DataW H} {p : List MemPlace} (hv : Value.okWide Tryz.prog W r b0 49 v) (h : DataW.Trod enc Tryz.prog W 0 sp true 49 v d p) :
    ∃ a0 v1 v2 v3, v = .agg #[.int .i64 a0, v1, v2, v3] ∧ InP W v1 ∧ InS W v2 ∧ InP W v3 := by
  obtain ⟨v0, v1, v2, v3, y0, y1, y2, y3, n, rfl, _, _, h0, h1, h2, h3⟩ := open_agg4 Tryz.underlying49 (by kernel_rfl) (by kernel_rfl) hv h
  obtain ⟨a0, ha, _⟩ := DataW.trod_int Tryz.underlying2 h0
  obtain rfl : v0 = .int .i64 a0 := by simpa using ha
  exact ⟨a0, v1, v2, v3, rfl, inP h1, inS h2, inP h3⟩
end
end Go.Proofs.YtoanlppfdniiaaaGreatDoor.Q
end
