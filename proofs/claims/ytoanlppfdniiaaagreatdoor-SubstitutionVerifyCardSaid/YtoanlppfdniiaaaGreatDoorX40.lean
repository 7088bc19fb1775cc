/- A part of the proof; no condition. -/
import Derived.Test.YtoanlppfdniiaaaGreatDoorX27
import Derived.Test.YtoanlppfdniiaaaGreatDoorX36
import Derived.Test.YtoanlppfdniiaaaGreatDoorX37
import Derived.Test.YtoanlppfdniiaaaGreatDoorX38
import Derived.Test.YtoanlppfdniiaaaGreatDoorX39
import Derived.BigQuiet
section
namespace Go.Proofs.YtoanlppfdniiaaaGreatDoor.Q
set_option linter.unusedVariables false
set_option linter.unusedSimpArgs false
open Go.RowKit Go.Proofs.YtoanlppfdniiaaaGreatDoorW.PrintWords Go.Proofs.YtoanlppfdniiaaaGreatDoorW.PrintLast Go.Proofs.YtoanlppfdniiaaaGreatDoorW.PrintMore
attribute [local go_sem] Oper.semAt_some
def pickOf (free : List S35) (idx : List Int) : List S35 := idx.map (rd_T35 free)
def weigh (free : List S35) (m : Int) (b : List S35 × Bool) (idx : List Int) : List S35 × Bool :=
  if sumZ (pickOf free idx) < m then b
  else if b.2 = false ∨ (pickOf free idx).length < b.1.length ∨ ((pickOf free idx).length = b.1.length ∧ sumZ (pickOf free idx) < sumZ b.1) then (pickOf free idx, true) else b
def bestSel (free : List S35) (m : Int) (L : List (List Int)) : List S35 × Bool := L.foldl (weigh free m) ([], false)
def bestOf (req : Int) (pool : List S35) (wd : List ByteArray) (free : List S35) : List S35 × List S35 × Int × Int :=
  if chk req pool wd free ≠ 0 then ([], [], 0, chk req pool wd free)
  else if 12 < free.length then ([], [], 0, 8)
  else if (bestSel free (missZ req pool wd) (sels free.length)).2 = false then ([], [], 0, 25)
  else ((bestSel free (missZ req pool wd) (sels free.length)).1, outOf pool wd, keptZ pool wd + sumZ (bestSel free (missZ req pool wd) (sels free.length)).1, 0)
def substitution_Best.f (a0_0 : Int) (l0_1 : List S35) (l0_2 : List ByteArray) (l0_3 : List S35) : Option (List S35 × List S35 × Int × Int) := some (bestOf a0_0 l0_1 l0_2 l0_3)
theorem R35_ok {W : World} {e B : Nat} {ok ok' : Nat → Prop} {v : Value} {xs : List S35} (h : k35.R e W B ok v xs) (hok : ∀ k, B ≤ k → (∃ c t fr, W.heap[k]? = some (.cells c t fr)) → ok' k) : k35.R e W B ok' v xs := by
  obtain ⟨h1, inner, ⟨hlen, hown⟩, hr⟩ := h
  refine ⟨fun k hk => ?_, inner, ⟨hlen, hown⟩, hr.1, fun j q hq => M35_any (hr.2 j q hq)⟩
  rcases hown with ⟨hv, _⟩ | ⟨g, cap, cur, hv, hB, hg, _⟩
  · rw [hv] at hk; simp [Value.ownBlock] at hk
  · rw [hv] at hk; simp [Value.ownBlock] at hk; subst hk; exact hok g hB ⟨_, _, _, hg⟩
theorem marks_ret {P : Program} {fn : Func} {tmps : Array Value} {W : World} {R : Ending → World → Prop} {n D : Nat} {v : Value} (hK : W.heap[D]? = some (.deferred (some [])))
    (hr : (results fn tmps).run P (W.putObj D (.deferred none)) = .ok v (W.putObj D (.deferred none))) (h : R (.returned v) (W.putObj D (.deferred none))) : bodyPostM Fence.wide n P fn R .ret ⟨tmps, [{ target := .collected D, args := #[] }]⟩ W :=
  ⟨by simp, .inl ⟨D, _, rfl, run_takeDeferred hK, v, hr, h⟩⟩
set_option maxHeartbeats 4000000 in
set_option maxRecDepth 100000 in
theorem substitution_Best.calls (a0_0 : Int) (A0_1 : Option Addr) (c0_1 : Nat) (l0_1 : List (S35)) (A0_2 : Option Addr) (c0_2 : Nat) (l0_2 : List ByteArray) (A0_3 : Option Addr) (c0_3 : Nat) (l0_3 : List (S35)) (r1 r2 : List S35) (r3 r4 : Int) (w : World) (hr0_1 : Kd.C k35 w A0_1 l0_1.length l0_1) (hc0_1 : l0_1.length ≤ c0_1) (hr0_2 : Kd.C Kd.string w A0_2 l0_2.length l0_2) (hc0_2 : l0_2.length ≤ c0_2) (hr0_3 : Kd.C k35 w A0_3 l0_3.length l0_3) (hc0_3 : l0_3.length ≤ c0_3) (h : substitution_Best.f a0_0 l0_1 l0_2 l0_3 = some (r1, r2, r3, r4)) :
    Calls Tryz.prog 10 #[.agg #[.int .i64 a0_0, .slice A0_1 l0_1.length c0_1, .slice A0_2 l0_2.length c0_2, .slice A0_3 l0_3.length c0_3]] w fun e w' => ∃ v0_ v1_ : Value, e = .returned (.tuple #[.agg #[v0_, v1_, .int .i64 r3], .int .i64 r4]) ∧ Kd.R k35 35 w' w.heap.size (fun k_ => some k_ ≠ (v1_ : Value).ownBlock) v0_ r1 ∧ Kd.R k35 35 w' w.heap.size (fun k_ => some k_ ≠ (v0_ : Value).ownBlock) v1_ r2 ∧ Below w.heap.size w w' := by
  have HR1 := Aside0.mk hr0_1
  have HR2 := Aside0.mk hr0_2
  have HR3 := Aside0.mk hr0_3
  have HC1 := Aside0.mk hc0_1
  have HC2 := Aside0.mk hc0_2
  have HC3 := Aside0.mk hc0_3
  have V := fun r1 r2 wq (hb : Below w.heap.size w wq) h => substitution_Shortfall.calls 300 a0_0 A0_1 c0_1 l0_1 A0_2 c0_2 l0_2 A0_3 c0_3 l0_3 r1 r2 wq (Kd.C_below HR1.out hb) hc0_1 (Kd.C_below HR2.out hb) hc0_2 (Kd.C_below HR3.out hb) hc0_3 h
  rw [shortfall_some (by omega)] at V
  have h := Option.some.inj h
  unfold bestOf at h
  clear hr0_1 hr0_2 hr0_3 hc0_1 hc0_2 hc0_3
  by_cases d1 : chk a0_0 l0_1 l0_2 l0_3 = 0
  · rw [if_neg (by simpa using d1)] at h
    rw [if_pos d1] at V
    have HP := Aside0.mk (passed d1)
    have V := fun wq hb => V _ _ wq hb rfl
    clear d1
    by_cases d2 : 12 < l0_3.length
    · rw [if_pos d2] at h
      cases h
      have c2 : decide ((l0_3.length : Int) > 12) = true := by simp; omega
      go_enter Tryz.func10, Tryz.ntmps10
      go_wp2_with (first | ((with_reducible refine gate_dst (N := 1) rfl ?_); refine box_event ?hg (N := 1) ?hd (cs := #[.int .i64 a0_0, .slice A0_1 l0_1.length c0_1, .slice A0_2 l0_2.length c0_2, .slice A0_3 l0_3.length c0_3]) (t := 25) ?hr ?_; (case hd => rfl); (case hg => rfl); (case hr => first | (go_simp; done) | (go_simp; rfl)); intro gb hg w1 hbox hb; have HB1 := Aside0.mk hb; have HX1 := Aside0.mk hbox; have HG1 := Aside0.mk (show w.heap.size ≤ gb by rw [hg]; exact Nat.le_refl _); clear hb hbox hg) | ((with_reducible refine gate_dst (N := 2) rfl ?_); refine box_event ?hg (N := 2) ?hd (cs := #[.slice none 0 0, .slice none 0 0, .int .i64 0]) (t := 28) ?hr ?_; (case hd => rfl); (case hg => rfl); (case hr => first | (go_simp; done) | (go_simp; rfl)); intro g2 hg w2 hbox hb; have HB2 := Aside0.mk (below_step HB1.out hb); have HX2 := Aside0.mk (blk_below HX1.out hb); have HY2 := Aside0.mk hbox; have HG2 := Aside0.mk (show w.heap.size ≤ g2 by rw [hg]; exact HB1.out.size); have HN := Aside0.mk (show gb ≠ g2 by rw [hg]; exact Nat.ne_of_lt (blk_lt HX1.out)); clear hb hbox hg; have hz0 := (blk_cell HX2.out 0).trans (show _ = some (.int .i64 a0_0) from rfl); have hz1 := (blk_cell HX2.out 1).trans (show _ = some (.slice A0_1 l0_1.length c0_1) from rfl); have hz2 := (blk_cell HX2.out 2).trans (show _ = some (.slice A0_2 l0_2.length c0_2) from rfl); have hz3 := (blk_cell HX2.out 3).trans (show _ = some (.slice A0_3 l0_3.length c0_3) from rfl)) | (go_at_call 28; (with_reducible refine (V _ ?hb).mono ?_); (case hb => exact HB2.out); rintro e w3 ⟨rfl, hq⟩; have HB3 := Aside0.mk (below_step HB2.out hq); have HX3 := Aside0.mk (blk_below HX2.out hq); have HY3 := Aside0.mk (blk_below HY2.out hq); clear hq; have hza0 := fun o => (blk_cell (blk_alloc HX3.out o) 0).trans (show _ = some (.int .i64 a0_0) from rfl); have hza1 := fun o => (blk_cell (blk_alloc HX3.out o) 1).trans (show _ = some (.slice A0_1 l0_1.length c0_1) from rfl); have hza2 := fun o => (blk_cell (blk_alloc HX3.out o) 2).trans (show _ = some (.slice A0_2 l0_2.length c0_2) from rfl); have hza3 := fun o => (blk_cell (blk_alloc HX3.out o) 3).trans (show _ = some (.slice A0_3 l0_3.length c0_3) from rfl); have hzc0 := fun o p q => (blk_cell (blk_alloc (blk_alloc (blk_alloc HX3.out o) p) q) 0).trans (show _ = some (.int .i64 a0_0) from rfl); have hzc1 := fun o p q => (blk_cell (blk_alloc (blk_alloc (blk_alloc HX3.out o) p) q) 1).trans (show _ = some (.slice A0_1 l0_1.length c0_1) from rfl); have hzc2 := fun o p q => (blk_cell (blk_alloc (blk_alloc (blk_alloc HX3.out o) p) q) 2).trans (show _ = some (.slice A0_2 l0_2.length c0_2) from rfl); have hzc3 := fun o p q => (blk_cell (blk_alloc (blk_alloc (blk_alloc HX3.out o) p) q) 3).trans (show _ = some (.slice A0_3 l0_3.length c0_3) from rfl); have hya0 := fun o => (blk_cell (blk_alloc HY3.out o) 0).trans (show _ = some (.slice none 0 0) from rfl); have fya0 := fun o => blk_frozen (blk_alloc HY3.out o) 0; have hya1 := fun o => (blk_cell (blk_alloc HY3.out o) 1).trans (show _ = some (.slice none 0 0) from rfl); have fya1 := fun o => blk_frozen (blk_alloc HY3.out o) 1; have hya2 := fun o => (blk_cell (blk_alloc HY3.out o) 2).trans (show _ = some (.int .i64 0) from rfl); have fya2 := fun o => blk_frozen (blk_alloc HY3.out o) 2))
      have HY := blk_alloc HY3.out (.cells #[.int .i64 (missZ a0_0 l0_1 l0_2)] 2)
      refine bodyPost_ret (results_row2 rfl _ _ g2 28 #[.slice none 0 0, .slice none 0 0, .int .i64 0] (0, 0) _ rfl (blk_put (blk_put (blk_put HY 0 _ rfl) 1 _ rfl) 2 _ rfl) Tryz.underlying28 rfl size28) rfl ?_
      exact ⟨_, _, rfl, Kd.R_nil _ _ _ _ _, Kd.R_nil _ _ _ _ _, below_set (below_set (below_set (below_alloc HB3.out _) HG2.out) HG2.out) HG2.out⟩
    · rw [if_neg d2] at h
      have c2 : decide ((l0_3.length : Int) > 12) = false := by simp; omega
      obtain ⟨m, hm⟩ : ∃ m, m = missZ a0_0 l0_1 l0_2 := ⟨_, rfl⟩
      rw [← hm] at h V
      have HM := Aside0.mk hm
      have HH := Aside0.mk h
      clear hm h
      refine (callsIn_wide (n := 10)).1 (callsIn_of_wp_marks Tryz.func10 rfl trivial (wpIn_wide.2 ?_) rfl)
      simp only [Tryz.ntmps10, List.size_toArray, List.length_cons, List.length_nil, Nat.reduceAdd, Nat.reduceSub, Array.replicate_succ, Array.replicate_zero, List.push_toArray, List.append_toArray, List.nil_append, List.cons_append]
      go_wp2_with (first | ((with_reducible refine gate_dst (N := 1) rfl ?_); refine box_event ?hg (N := 1) ?hd (cs := #[.int .i64 a0_0, .slice A0_1 l0_1.length c0_1, .slice A0_2 l0_2.length c0_2, .slice A0_3 l0_3.length c0_3]) (t := 25) ?hr ?_; (case hd => rfl); (case hg => rfl); (case hr => first | (go_simp; done) | (go_simp; rfl)); intro gb hg w1 hbox hb; have HB1 := Aside0.mk hb; have HX1 := Aside0.mk hbox; have HG1 := Aside0.mk (show w.heap.size ≤ gb by rw [hg]; exact Nat.le_refl _); clear hb hbox hg) | ((with_reducible refine gate_dst (N := 2) rfl ?_); refine box_event ?hg (N := 2) ?hd (cs := #[.slice none 0 0, .slice none 0 0, .int .i64 0]) (t := 28) ?hr ?_; (case hd => rfl); (case hg => rfl); (case hr => first | (go_simp; done) | (go_simp; rfl)); intro g2 hg w2 hbox hb; have HB2 := Aside0.mk (below_step HB1.out hb); have HX2 := Aside0.mk (blk_below HX1.out hb); have HY2 := Aside0.mk hbox; have HG2 := Aside0.mk (show w.heap.size ≤ g2 by rw [hg]; exact HB1.out.size); have HN := Aside0.mk (show gb ≠ g2 by rw [hg]; exact Nat.ne_of_lt (blk_lt HX1.out)); clear hb hbox hg; have hz0 := (blk_cell HX2.out 0).trans (show _ = some (.int .i64 a0_0) from rfl); have hz1 := (blk_cell HX2.out 1).trans (show _ = some (.slice A0_1 l0_1.length c0_1) from rfl); have hz2 := (blk_cell HX2.out 2).trans (show _ = some (.slice A0_2 l0_2.length c0_2) from rfl); have hz3 := (blk_cell HX2.out 3).trans (show _ = some (.slice A0_3 l0_3.length c0_3) from rfl)) | (go_at_call 28; (with_reducible refine (V _ ?hb).mono ?_); (case hb => exact HB2.out); rintro e w3 ⟨rfl, hq⟩; have HB3 := Aside0.mk (below_step HB2.out hq); have HX3 := Aside0.mk (blk_below HX2.out hq); have HY3 := Aside0.mk (blk_below HY2.out hq); clear hq; have hza0 := fun o => (blk_cell (blk_alloc HX3.out o) 0).trans (show _ = some (.int .i64 a0_0) from rfl); have hza1 := fun o => (blk_cell (blk_alloc HX3.out o) 1).trans (show _ = some (.slice A0_1 l0_1.length c0_1) from rfl); have hza2 := fun o => (blk_cell (blk_alloc HX3.out o) 2).trans (show _ = some (.slice A0_2 l0_2.length c0_2) from rfl); have hza3 := fun o => (blk_cell (blk_alloc HX3.out o) 3).trans (show _ = some (.slice A0_3 l0_3.length c0_3) from rfl); have hzc0 := fun o p q => (blk_cell (blk_alloc (blk_alloc (blk_alloc HX3.out o) p) q) 0).trans (show _ = some (.int .i64 a0_0) from rfl); have hzc1 := fun o p q => (blk_cell (blk_alloc (blk_alloc (blk_alloc HX3.out o) p) q) 1).trans (show _ = some (.slice A0_1 l0_1.length c0_1) from rfl); have hzc2 := fun o p q => (blk_cell (blk_alloc (blk_alloc (blk_alloc HX3.out o) p) q) 2).trans (show _ = some (.slice A0_2 l0_2.length c0_2) from rfl); have hzc3 := fun o p q => (blk_cell (blk_alloc (blk_alloc (blk_alloc HX3.out o) p) q) 3).trans (show _ = some (.slice A0_3 l0_3.length c0_3) from rfl); have hya0 := fun o => (blk_cell (blk_alloc HY3.out o) 0).trans (show _ = some (.slice none 0 0) from rfl); have fya0 := fun o => blk_frozen (blk_alloc HY3.out o) 0; have hya1 := fun o => (blk_cell (blk_alloc HY3.out o) 1).trans (show _ = some (.slice none 0 0) from rfl); have fya1 := fun o => blk_frozen (blk_alloc HY3.out o) 1; have hya2 := fun o => (blk_cell (blk_alloc HY3.out o) 2).trans (show _ = some (.int .i64 0) from rfl); have fya2 := fun o => blk_frozen (blk_alloc HY3.out o) 2) | (go_at_call 40; refine (selections_calls _ _).mono ?_; rintro e w5 ⟨rfl, rfl⟩))
      have hlen : l0_3.length ≤ 12 := by omega
      obtain ⟨W8, hW8⟩ : ∃ W8, W8 = ((((w3.alloc (.cells #[.int .i64 m] 2)).alloc (.cells #[.slice none 0 0] 22)).alloc (.cells #[.bool false] 4)).alloc (.cells #[.int .i64 (l0_3.length : Int)] 3)) := ⟨_, rfl⟩
      rw [← hW8]
      have hb38 : Below w3.heap.size w3 W8 := by rw [hW8]; exact below_alloc (below_alloc (below_alloc (below_alloc (Below.refl _ _) _) _) _) _
      have HB8 := Aside0.mk (below_step HB3.out hb38)
      have HX8 := Aside0.mk (blk_below HX3.out hb38)
      have HY8 := Aside0.mk (blk_below HY3.out hb38)
      have hsz : W8.heap.size = w3.heap.size + 4 := by rw [hW8]; simp [World.size_alloc]
      have HB4 : Aside0 (W8.heap[w3.heap.size]? = some (.cells #[.int .i64 m] 2 (0, 0))) := ⟨by rw [hW8]; exact blk_alloc (blk_alloc (blk_alloc (blk_new _ _) _) _) _⟩
      have HB6 : Aside0 (W8.heap[w3.heap.size + 1]? = some (.cells #[.slice none 0 0] 22 (0, 0))) := ⟨by
        rw [hW8]; refine blk_alloc (blk_alloc ?_ _) _
        have := blk_new (w3.alloc (.cells #[.int .i64 m] 2)) (.cells #[.slice none 0 0] 22); rwa [World.size_alloc] at this⟩
      have HB7 : Aside0 (W8.heap[w3.heap.size + 2]? = some (.cells #[.bool false] 4 (0, 0))) := ⟨by
        rw [hW8]; refine blk_alloc ?_ _
        have := blk_new ((w3.alloc (.cells #[.int .i64 m] 2)).alloc (.cells #[.slice none 0 0] 22)) (.cells #[.bool false] 4); rwa [World.size_alloc, World.size_alloc] at this⟩
      have HBN : Aside0 (W8.heap[w3.heap.size + 3]? = some (.cells #[.int .i64 (l0_3.length : Int)] 3 (0, 0))) := ⟨by
        rw [hW8]
        have := blk_new (((w3.alloc (.cells #[.int .i64 m] 2)).alloc (.cells #[.slice none 0 0] 22)).alloc (.cells #[.bool false] 4)) (.cells #[.int .i64 (l0_3.length : Int)] 3); rwa [World.size_alloc, World.size_alloc, World.size_alloc] at this⟩
      clear hW8 hb38
      refine wpIn_wide.1 (range_all (F := Fence.wide) (n := 9) (α := Value × List Int) rfl rfl (gf := 75) (lb := #[.pointer (some ⟨w3.heap.size + 3, 0, none⟩)]) rfl trivial (enters_of Tryz.func75 (by kernel_rfl) rfl) (fun x => #[x.1]) (fun _ => rfl)
        (ArgI l0_3.length (fun k => k = w3.heap.size + 1 ∨ k = w3.heap.size + 2)) (fun k => k = w3.heap.size + 1 ∨ k = w3.heap.size + 2) (by omega) (fun xs => xs.map (·.2) = sels l0_3.length)
        (fun pre W => ∃ vb, W.heap[w3.heap.size + 1]? = some (.cells #[vb] 22 (0, 0)) ∧ W.heap[w3.heap.size + 2]? = some (.cells #[.bool (bestSel l0_3 m (pre.map (·.2))).2] 4 (0, 0)) ∧ k35.R 35 W W8.heap.size (fun _ => True) vb (bestSel l0_3 m (pre.map (·.2))).1 ∧ KeptC (fun k => k = w3.heap.size + 1 ∨ k = w3.heap.size + 2) W8 W ∧ Below w.heap.size w W ∧ Fine (bestSel l0_3 m (pre.map (·.2))).1 ∧ (bestSel l0_3 m (pre.map (·.2))).1.length ≤ 12)
        ?hI ?hIp ?hAp ?h0 ?hseq ?a1 ?assign ?body ?done)
      case assign =>
        intro l x W K hK
        gi_wp2
        exact hK
      case hI =>
        rintro s A B ⟨vb, h1, h2, h3, h4, h5, h6⟩ hb
        exact ⟨vb, blk_below h1 hb, blk_below h2 hb, Kd.R_below h3 hb, h4.trans (KeptC.below hb), below_step h5 hb, h6⟩
      case hIp =>
        rintro s A l o o' ⟨vb, h1, h2, h3, h4, h5, h6⟩ hl ho hle
        exact ⟨vb, put_other hl ho h1 rfl, put_other hl ho h2 rfl, R35_put h3 hl ho, h4.trans (KeptC.put A o' hl ho), below_put h5 (Nat.le_trans HB8.out.size hle) (Array.getElem?_eq_some_iff.1 hl).1, h6⟩
      case hAp => exact fun x A l o o' h hl ho => h.put hl ho
      case h0 => exact ⟨_, HB6.out, HB7.out, Kd.R_nil _ _ _ _ _, KeptC.refl _ _, HB8.out, (fun p hp => by simp [bestSel] at hp), by simp [bestSel]⟩
      case hseq =>
        intro l J W hW hJ hY hJ0
        exact callsIn_wide.2 (sel1_calls l l0_3.length (w3.heap.size + 3) (by omega) _ (by omega) W8.heap.size (by omega) J hJ hY W hW.size (blk_below HBN.out hW) hJ0)
      case done =>
        rintro D xs W hD hxs ⟨vb, h1, h2, h3, h4, h5, h6, h7⟩ hDef
        rw [hxs] at h2 h3 h6 h7
        have HK := Aside0.mk hDef
        have HXd := Aside0.mk (blk_keptC HX8.out h4 (by have := blk_lt HX3.out; omega))
        have HYd := Aside0.mk (blk_keptC HY8.out h4 (by have := blk_lt HY3.out; omega))
        have H1 := Aside0.mk h1
        have H2 := Aside0.mk h2
        have H3 := Aside0.mk h3
        have H5 := Aside0.mk h5
        have H6 := Aside0.mk h6
        have H7 := Aside0.mk h7
        have HDD : Aside0 (w.heap.size ≤ D ∧ gb < W8.heap.size ∧ g2 < W8.heap.size) := ⟨Nat.le_trans HB8.out.size hD, blk_lt HX8.out, blk_lt HY8.out⟩
        clear h1 h2 h3 h4 h5 h6 h7 hDef hD hxs
        obtain ⟨bl, hbl⟩ : ∃ b, b = bestSel l0_3 m (sels l0_3.length) := ⟨_, rfl⟩
        obtain ⟨bl, fb⟩ := bl
        have HBL := Aside0.mk hbl
        clear hbl
        have hzr0 := (blk_cell HXd.out 0).trans (show _ = some (.int .i64 a0_0) from rfl); have hzr1 := (blk_cell HXd.out 1).trans (show _ = some (.slice A0_1 l0_1.length c0_1) from rfl); have hzr2 := (blk_cell HXd.out 2).trans (show _ = some (.slice A0_2 l0_2.length c0_2) from rfl); have hzr3 := (blk_cell HXd.out 3).trans (show _ = some (.slice A0_3 l0_3.length c0_3) from rfl)
        have hyr0 := (blk_cell HYd.out 0).trans (show _ = some (.slice none 0 0) from rfl); have fhyr0 := blk_frozen HYd.out 0; have hyr1 := (blk_cell HYd.out 1).trans (show _ = some (.slice none 0 0) from rfl); have fhyr1 := blk_frozen HYd.out 1; have hyr2 := (blk_cell HYd.out 2).trans (show _ = some (.int .i64 0) from rfl); have fhyr2 := blk_frozen HYd.out 2
        cases fb
        · have hh := HH.out
          rw [← HBL.out, if_pos rfl] at hh
          have k7 := (blk_cell H2.out 0).trans (show _ = some (.bool false) from by rw [← HBL.out]; rfl)
          cases hh
          go_wp2
          have HY := HYd.out
          have HK2 : (((W.setCell ⟨g2, 0, none⟩ (.slice none 0 0)).setCell ⟨g2, 1, none⟩ (.slice none 0 0)).setCell ⟨g2, 2, none⟩ (.int .i64 0)).heap[D]? = some (.deferred (some [])) := by
            have hne : D ≠ g2 := fun e => by have := HK.out; rw [e, HY] at this; cases this
            rw [Below.heap_setCell _ _ _ _ hne, Below.heap_setCell _ _ _ _ hne, Below.heap_setCell _ _ _ _ hne]; exact HK.out
          have HYp := put_other (o' := .deferred none) HK2 rfl (blk_put (blk_put (blk_put HY 0 _ rfl) 1 _ rfl) 2 _ rfl) rfl
          refine marks_ret HK2 (results_row2 rfl _ _ g2 28 #[.slice none 0 0, .slice none 0 0, .int .i64 0] (0, 0) _ rfl HYp Tryz.underlying28 rfl size28) ?_
          exact ⟨_, _, rfl, Kd.R_nil _ _ _ _ _, Kd.R_nil _ _ _ _ _, below_put (below_set (below_set (below_set H5.out HG2.out) HG2.out) HG2.out) HDD.out.1 (Array.getElem?_eq_some_iff.1 HK2).1⟩
        · have hh := HH.out
          rw [← HBL.out, if_neg (show ¬ (bl, true).2 = false from (by simp))] at hh
          have k7 := (blk_cell H2.out 0).trans (show _ = some (.bool true) from by rw [← HBL.out]; rfl)
          have k6 := (blk_cell H1.out 0).trans (show _ = some vb from rfl)
          have hf6 : Fine bl := by have := H6.out; rw [← HBL.out] at this; exact this
          have hf7 : bl.length ≤ 12 := by have := H7.out; rw [← HBL.out] at this; exact this
          have HR : Aside0 (k35.R 35 W w.heap.size (fun k => w.heap.size ≤ k ∧ k ≠ gb ∧ k ≠ g2 ∧ k ≠ D) vb bl) := ⟨by
            have := H3.out; rw [← HBL.out] at this
            exact Kd.R_lower (R35_ok this (fun k hk hc => ⟨Nat.le_trans HB8.out.size hk, by have := HDD.out; omega, by have := HDD.out; omega, fun e => by obtain ⟨_, _, _, hc⟩ := hc; rw [e, HK.out] at hc; cases hc⟩)) HB8.out.size⟩
          have VP := fun wq (hb : Below W.heap.size W wq) => substitution_Request_plan.calls 300 a0_0 A0_1 c0_1 l0_1 A0_2 c0_2 l0_2 A0_3 c0_3 l0_3 (fun k => w.heap.size ≤ k ∧ k ≠ gb ∧ k ≠ g2 ∧ k ≠ D) vb bl _ _ _ w wq (below_step H5.out hb) (Kd.C_kept_came heap35 HR1.out (below_step H5.out hb) (fun k hk => hk.1)) HC1.out (Kd.C_kept_came Kd.heap_string HR2.out (below_step H5.out hb) (fun k hk => hk.1)) HC2.out (Kd.C_kept_came heap35 HR3.out (below_step H5.out hb) (fun k hk => hk.1)) HC3.out (Kd.R_below HR.out hb) (plan_some HP.out hf6 (by omega) (by omega))
          cases hh
          clear hf6 hf7
          go_wp2_with (first | (go_at_call 39; (refine (VP _ ?hb).mono ?_); (case hb => first | exact below_alloc (Below.refl _ _) _ | exact Below.refl _ _); rintro e w6 ⟨v0, v1, rfl, h0, h1, hb, hk⟩; obtain ⟨Aa, na, ca, rfl⟩ := (show ∃ A n c, v0 = .slice A n c from (Kd.R_slice h0).elim fun A h => h.elim fun c h => ⟨A, _, c, h⟩); obtain ⟨Ab, nb, cb, rfl⟩ := (show ∃ A n c, v1 = .slice A n c from (Kd.R_slice h1).elim fun A h => h.elim fun c h => ⟨A, _, c, h⟩); have HY6 := Aside0.mk (blk_kept (HYd.out) hk (fun h => h.2.2.1 rfl)); have H0 := Aside0.mk h0; have H1 := Aside0.mk h1; have HB6 := Aside0.mk hb; have HKK := Aside0.mk hk; clear h0 h1 hb hk; have hyy0 := (blk_cell HY6.out 0).trans (show _ = some (.slice none 0 0) from rfl); have fhyy0 := blk_frozen HY6.out 0; have hyy1 := (blk_cell HY6.out 1).trans (show _ = some (.slice none 0 0) from rfl); have fhyy1 := blk_frozen HY6.out 1; have hyy2 := (blk_cell HY6.out 2).trans (show _ = some (.int .i64 0) from rfl); have fhyy2 := blk_frozen HY6.out 2))
          have HY := HY6.out
          have hKD := blk_kept HK.out HKK.out (fun h => h.2.2.2 rfl)
          have hne : D ≠ g2 := fun e => by have := hKD; rw [e, HY] at this; cases this
          have HK2 : (((w6.setCell ⟨g2, 0, none⟩ (.slice Aa na ca)).setCell ⟨g2, 1, none⟩ (.slice Ab nb cb)).setCell ⟨g2, 2, none⟩ (.int .i64 (keptZ l0_1 l0_2 + sumZ bl))).heap[D]? = some (.deferred (some [])) := by
            rw [Below.heap_setCell _ _ _ _ hne, Below.heap_setCell _ _ _ _ hne, Below.heap_setCell _ _ _ _ hne]; exact hKD
          have HYp := put_other (o' := .deferred none) HK2 rfl (blk_put (blk_put (blk_put HY 0 _ rfl) 1 _ rfl) 2 _ rfl) rfl
          refine marks_ret HK2 (results_row2 rfl _ _ g2 28 #[.slice Aa na ca, .slice Ab nb cb, .int .i64 (keptZ l0_1 l0_2 + sumZ bl)] (0, 0) _ rfl HYp Tryz.underlying28 rfl size28) ?_
          exact ⟨_, _, rfl, R35_put (Kd.R_mono (Kd.R_far (p := ⟨g2, 2, none⟩) (Kd.R_far (p := ⟨g2, 1, none⟩) (Kd.R_far (p := ⟨g2, 0, none⟩) (Kd.R_types H0.out HY (by decide)) (fun _ hk => hk.2) _) (fun _ hk => hk.2) _) (fun _ hk => hk.2) _) (fun _ hk => hk.1.2)) HK2 rfl, R35_put (Kd.R_mono (Kd.R_far (p := ⟨g2, 2, none⟩) (Kd.R_far (p := ⟨g2, 1, none⟩) (Kd.R_far (p := ⟨g2, 0, none⟩) (Kd.R_types H1.out HY (by decide)) (fun _ hk => hk.2) _) (fun _ hk => hk.2) _) (fun _ hk => hk.2) _) (fun _ hk => hk.1.2)) HK2 rfl, below_put (below_set (below_set (below_set HB6.out HG2.out) HG2.out) HG2.out) HDD.out.1 (Array.getElem?_eq_some_iff.1 HK2).1⟩
      case body =>
        rintro l pre ⟨v, idx⟩ W ⟨vb, h1, h2, h3, h4, h5, h6, h7⟩ ⟨A, c, hv, hc, hC, hAS, hAL, hAV⟩
        dsimp only at hv hc hC hAL hAV
        have HAV := Aside0.mk hAV
        subst hv
        have H1 := Aside0.mk h1
        have H2 := Aside0.mk h2
        have H3 := Aside0.mk h3
        have H4 := Aside0.mk h4
        have H5 := Aside0.mk h5
        have H6 := Aside0.mk h6
        have H7 := Aside0.mk h7
        have HCI := Aside0.mk hC
        have hIL : idx.length ≤ 9223372036854775807 := hC.2.1
        clear h1 h2 h3 h4 h5 h6 h7 hC
        gi_wp2
        gi_loopw [9, 33] (fun v9 v33 W' => ∃ i : Nat, v33 = .int .i64 i ∧ i ≤ idx.length ∧ k35.R 35 W' W.heap.size (fun _ => True) v9 (pickOf l0_3 (idx.take i)) ∧ Below W.heap.size W W') (fun v9 v33 W' => match v33 with | .int _ i => (idx.length - i).toNat | _ => 0)
        case atStart => exact ⟨0, rfl, by omega, Kd.R_nil _ _ _ _ _, Below.refl _ _⟩
        case round =>
          obtain ⟨i, rfl, hi, hR, hB⟩ := hrel
          have HRr := Aside0.mk hR
          have HBr := Aside0.mk hB
          clear hR hB
          by_cases hlt : i < idx.length
          · have c1 : decide ((i : Int) < idx.length) = true := by simpa using hlt
            obtain ⟨ad, hA, hx⟩ : ∃ ad, A = some ad ∧ W.cell? (ad.add i) = some (.int .i64 (idx.getD i 0)) := by
              obtain ⟨ad, h1, h2⟩ := ReadsOf.at_ (d := (0 : Int)) (Kd.reads_of_C (h1 := fun _ => rfl) HCI.out) (i : Int) (by omega) (by omega)
              exact ⟨ad, h1, by simpa [rdOf] using h2⟩
            subst hA
            replace hx := pw_cell_below HBr.out hx
            have hj := HAV.out (idx.getD i 0) (by rw [List.getD_eq_getElem?_getD, List.getElem?_eq_getElem hlt]; exact List.getElem_mem hlt)
            obtain ⟨j, hjj⟩ : ∃ j, j = idx.getD i 0 := ⟨_, rfl⟩
            rw [← hjj] at hx hj
            have HJE := Aside0.mk hjj
            clear hjj
            obtain ⟨ad3, hA3, q0, q1, q2⟩ := at_T35 HR3.out j hj.1 hj.2
            subst hA3
            have HBW := Aside0.mk (below_step H5.out HBr.out)
            replace q0 := pw_cell_below HBW.out q0
            replace q1 := pw_cell_below HBW.out q1
            replace q2 := pw_cell_below HBW.out q2
            have HXr := Aside0.mk (blk_below (blk_keptC HX8.out H4.out (by have := blk_lt HX3.out; omega)) HBr.out)
            have hx3 := (blk_cell HXr.out 3).trans (show _ = some (.slice (some ad3) l0_3.length c0_3) from rfl)
            obtain ⟨p, hp⟩ : ∃ p, p = rd_T35 l0_3 j := ⟨_, rfl⟩
            rw [← hp] at q0 q1 q2
            have HPE := Aside0.mk hp
            clear hp
            have htk : pickOf l0_3 (idx.take (i + 1)) = pickOf l0_3 (idx.take i) ++ [p] := by
              rw [List.take_succ_eq_append_getElem hlt, pickOf, List.map_append, HPE.out, HJE.out]; simp [pickOf, List.getElem?_eq_getElem hlt]
            have HTK := Aside0.mk htk
            have hpl : (pickOf l0_3 (idx.take i)).length ≤ 4096 := by simp [pickOf]; omega
            have HPL := Aside0.mk hpl
            clear htk hpl
            gi_wp2_with (gi_at_builtin; refine R35_append_in (w0 := W) W.heap.size rfl (.tmp 37) (.tmp 43) rfl u9 (pickOf l0_3 (idx.take i)) p rfl rfl HRr.out HBr.out HBr.out.size HPL.out ?_; intro v6 w6 ho hb hg; have HO6 := Aside0.mk ho; have HB6 := Aside0.mk hb; clear ho hb hg)
            refine ⟨⟨i + 1, by simp, by omega, by rw [HTK.out]; exact HO6.out, HB6.out⟩, ?_⟩
            simp
            omega
          · have c1 : decide ((i : Int) < idx.length) = false := by simpa using hlt
            have hil : idx.take i = idx := List.take_of_length_le (by omega)
            obtain ⟨Ac, cc, hu9, hcc, hCc⟩ := Kd.R_reads HRr.out
            rw [hil] at hu9 hcc hCc
            subst hu9
            have HRc : Aside0 (k35.R 35 wr W.heap.size (fun _ => True) (.slice Ac (pickOf l0_3 idx).length cc) (pickOf l0_3 idx)) := ⟨by have := HRr.out; rwa [hil] at this⟩
            have hfine : Fine (pickOf l0_3 idx) := fun p hp => by
              obtain ⟨j, hj, rfl⟩ := List.mem_map.1 hp
              have hv := HAV.out j hj
              have e : j = ((j.toNat : Nat) : Int) := by omega
              rw [e, rd35 (by omega)]
              exact HP.out.fineFree _ (List.getElem_mem _)
            have SC := fun wq (hb : Below wr.heap.size wr wq) => substitution_sum.calls 5000 Ac cc (pickOf l0_3 idx) _ wq (Kd.C_below hCc hb) hcc (sum_some hfine (by simp [pickOf]; omega) (by simp [pickOf]; omega))
            have HB4r : Aside0 (wr.heap[w3.heap.size]? = some (.cells #[.int .i64 m] 2 (0, 0))) := ⟨blk_below (blk_keptC HB4.out H4.out (by omega)) HBr.out⟩
            have h40 := (blk_cell HB4r.out 0).trans (show _ = some (.int .i64 m) from rfl)
            clear hCc
            have HBS := Aside0.mk (show bestSel l0_3 m ((pre ++ [(Value.slice (some ⟨0, 0, none⟩) 0 0, idx)]).map (·.2)) = weigh l0_3 m (bestSel l0_3 m (pre.map (·.2))) idx by simp [bestSel, List.foldl_append])
            have hpl : (pickOf l0_3 idx).length ≤ 12 := by simp [pickOf]; omega
            have HFP := Aside0.mk hfine
            have HPL := Aside0.mk hpl
            clear hfine
            obtain ⟨sv, hsv⟩ : ∃ s, s = sumZ (pickOf l0_3 idx) := ⟨_, rfl⟩
            rw [← hsv] at SC
            have HSV := Aside0.mk hsv
            clear hsv
            have cS := fun (d : Nat) (os : Array Obj) => Calls.regrown_of (w := wr) (d := d) (os := os) (SC _ (below_regrown wr d os))
            have k4 := cell_regrown h40
            obtain ⟨bl, hbl⟩ : ∃ b, b = bestSel l0_3 m (pre.map (·.2)) := ⟨_, rfl⟩
            have HBL := Aside0.mk hbl
            have hwg : bestSel l0_3 m (List.map (fun x => x.snd) pre ++ [idx]) = weigh l0_3 m bl idx := by rw [hbl]; simp [bestSel, List.foldl_append]
            have HWG := Aside0.mk hwg
            clear hwg
            by_cases hsm : sv < m
            · have hsm' : decide (sv < m) = true := by simpa using hsm
              have HWS := Aside0.mk (show weigh l0_3 m bl idx = bl by rw [weigh, ← HSV.out, if_pos hsm])
              gi_wp2
              refine region_quiet_round (noDefer_of (by kernel_rfl)) (by kernel_rfl) (by kernel_rfl) ?_
              repeat (go_big_quiet_step (((with_reducible exact cS _ _))))
              refine wpQuiet_nil ?_
              intro _ hw'
              obtain ⟨⟨dq, osq⟩, hw''⟩ := hw'
              subst hw''
              have HQ5 := Aside0.mk (below_regrown wr dq osq)
              generalize Go.Sort.grow (redrawn wr dq) osq = w5 at HQ5
              gi_wp2
              have HB5 : Below W.heap.size W w5 := below_step HBr.out HQ5.out
              rw [HWG.out, HWS.out, HBL.out]
              exact ⟨⟨HB5.size, fun k hk _ => HB5.block k hk⟩, _, blk_below H1.out HB5, blk_below H2.out HB5, by rw [← hsz]; exact Kd.R_below H3.out HB5, H4.out.trans (KeptC.below HB5), below_step H5.out HB5, H6.out, H7.out⟩
            · have hsm' : decide (sv < m) = false := by simpa using hsm
              obtain ⟨fb, hfb⟩ : ∃ f, f = bl.2 := ⟨_, rfl⟩
              obtain ⟨Ab, cb, hvb, hcb, hCb⟩ := Kd.R_reads H3.out
              rw [← hbl] at hvb hcb hCb
              subst hvb
              have HV6 : Aside0 (wr.heap[w3.heap.size + 1]? = some (.cells #[.slice Ab bl.1.length cb] 22 (0, 0))) := ⟨blk_below H1.out HBr.out⟩
              have HV7 : Aside0 (wr.heap[w3.heap.size + 2]? = some (.cells #[.bool fb] 4 (0, 0))) := ⟨by rw [hfb, hbl]; exact blk_below H2.out HBr.out⟩
              have hfb6 : Fine bl.1 := by rw [hbl]; exact H6.out
              have hfb7 : bl.1.length ≤ 12 := by rw [hbl]; exact H7.out
              have HF6 := Aside0.mk hfb6
              have HWB : Aside0 (weigh l0_3 m bl idx = if fb = false ∨ (pickOf l0_3 idx).length < bl.1.length ∨ ((pickOf l0_3 idx).length = bl.1.length ∧ sv < sumZ bl.1) then (pickOf l0_3 idx, true) else bl) := ⟨by
                rw [weigh, ← HSV.out, if_neg hsm, hfb]⟩
              have SB := fun wq (hb : Below wr.heap.size wr wq) => substitution_sum.calls 5000 Ab cb bl.1 _ wq (Kd.C_below (Kd.C_below hCb HBr.out) hb) hcb (sum_some hfb6 (by omega) (by omega))
              obtain ⟨sb, hsb⟩ : ∃ s, s = sumZ bl.1 := ⟨_, rfl⟩
              rw [← hsb] at SB HWB
              have cB := fun (d : Nat) (os : Array Obj) => Calls.regrown_of (w := wr) (d := d) (os := os) (SB _ (below_regrown wr d os))
              have k6 := cell_regrown ((blk_cell HV6.out 0).trans (show _ = some (.slice Ab bl.1.length cb) from rfl))
              have k7 := cell_regrown ((blk_cell HV7.out 0).trans (show _ = some (.bool fb) from rfl))
              have HHL := Aside0.mk (show (wr.heap[w3.heap.size + 1]?) = _ from HV6.out)
              have HFB := Aside0.mk hfb
              have HRB := Aside0.mk (by have := H3.out; rw [← hbl] at this; exact this)
              clear hbl hfb hCb hfb6 hsm
              cases hfbv : fb
              · subst hfbv
                have HWT := HWB.out.trans (if_pos (.inl rfl))
                gi_wp2
                refine region_quiet_round (noDefer_of (by kernel_rfl)) (by kernel_rfl) (by kernel_rfl) ?_
                repeat (go_big_quiet_step (((with_reducible first | exact cS _ _ | exact cB _ _))))
                refine wpQuiet_nil ?_
                intro _ hw'
                obtain ⟨⟨dq, osq⟩, hw''⟩ := hw'
                subst hw''
                have HQ5 := Aside0.mk (below_regrown wr dq osq)
                generalize Go.Sort.grow (redrawn wr dq) osq = w5 at HQ5
                have HV6 := Aside0.mk (blk_below HV6.out HQ5.out)
                have HV7 := Aside0.mk (blk_below HV7.out HQ5.out)
                have HBr := Aside0.mk (below_step HBr.out HQ5.out)
                have HRc := Aside0.mk (Kd.R_below HRc.out HQ5.out)
                have cS := fun (d : Nat) (os : Array Obj) => Calls.regrown_of (w := w5) (d := d) (os := os) (SC _ (below_step HQ5.out (below_regrown w5 d os)))
                have cB := fun (d : Nat) (os : Array Obj) => Calls.regrown_of (w := w5) (d := d) (os := os) (SB _ (below_step HQ5.out (below_regrown w5 d os)))
                have k6 := cell_regrown ((blk_cell HV6.out 0).trans (show _ = some (.slice Ab bl.1.length cb) from rfl))
                have k7 := cell_regrown ((blk_cell HV7.out 0).trans (show _ = some (.bool false) from rfl))
                clear k4
                gi_wp2
                refine region_quiet_round (noDefer_of (by kernel_rfl)) (by kernel_rfl) (by kernel_rfl) ?_
                repeat (go_big_quiet_step (((with_reducible first | exact cS _ _ | exact cB _ _))))
                refine wpQuiet_nil ?_
                intro _ hw'
                obtain ⟨⟨dq, osq⟩, hw''⟩ := hw'
                subst hw''
                have HQ6 := Aside0.mk (below_regrown w5 dq osq)
                generalize Go.Sort.grow (redrawn w5 dq) osq = w6 at HQ6
                have z6 := (blk_cell (blk_below HV6.out HQ6.out) 0).trans (show _ = some (.slice Ab bl.1.length cb) from rfl)
                have f6 := blk_frozen (blk_below HV6.out HQ6.out) 0
                have z7 := (blk_cell (blk_below HV7.out HQ6.out) 0).trans (show _ = some (.bool false) from rfl)
                have f7 := blk_frozen (blk_below HV7.out HQ6.out) 0
                gi_wp2
                have HCP := chosen_put HBr.out HQ6.out HV6.out HV7.out (by omega) H4.out.1 HRc.out H4.out H5.out HB3.out.size
                refine ⟨HCP.1, _, HCP.2.1, ?_⟩
                rw [HWG.out, HWT]
                exact ⟨HCP.2.2.1, by rw [← hsz]; exact HCP.2.2.2.1, HCP.2.2.2.2.1, HCP.2.2.2.2.2, HFP.out, HPL.out⟩
              · subst hfbv
                by_cases hc1 : (pickOf l0_3 idx).length < bl.1.length
                · have HWT := HWB.out.trans (if_pos (.inr (.inl hc1)))
                  have c1' : decide (((pickOf l0_3 idx).length : Int) < bl.1.length) = true := by simpa using hc1
                  have c1'' : decide ((pickOf l0_3 idx).length < bl.1.length) = true := by simpa using hc1
                  gi_wp2
                  refine region_quiet_round (noDefer_of (by kernel_rfl)) (by kernel_rfl) (by kernel_rfl) ?_
                  repeat (go_big_quiet_step (((with_reducible first | exact cS _ _ | exact cB _ _))))
                  refine wpQuiet_nil ?_
                  intro _ hw'
                  obtain ⟨⟨dq, osq⟩, hw''⟩ := hw'
                  subst hw''
                  have HQ5 := Aside0.mk (below_regrown wr dq osq)
                  generalize Go.Sort.grow (redrawn wr dq) osq = w5 at HQ5
                  have HV6 := Aside0.mk (blk_below HV6.out HQ5.out)
                  have HV7 := Aside0.mk (blk_below HV7.out HQ5.out)
                  have HBr := Aside0.mk (below_step HBr.out HQ5.out)
                  have HRc := Aside0.mk (Kd.R_below HRc.out HQ5.out)
                  have cS := fun (d : Nat) (os : Array Obj) => Calls.regrown_of (w := w5) (d := d) (os := os) (SC _ (below_step HQ5.out (below_regrown w5 d os)))
                  have cB := fun (d : Nat) (os : Array Obj) => Calls.regrown_of (w := w5) (d := d) (os := os) (SB _ (below_step HQ5.out (below_regrown w5 d os)))
                  have k6 := cell_regrown ((blk_cell HV6.out 0).trans (show _ = some (.slice Ab bl.1.length cb) from rfl))
                  have k7 := cell_regrown ((blk_cell HV7.out 0).trans (show _ = some (.bool true) from rfl))
                  clear k4
                  gi_wp2
                  refine region_quiet_round (noDefer_of (by kernel_rfl)) (by kernel_rfl) (by kernel_rfl) ?_
                  repeat (go_big_quiet_step (((with_reducible first | exact cS _ _ | exact cB _ _))))
                  refine wpQuiet_nil ?_
                  intro _ hw'
                  obtain ⟨⟨dq, osq⟩, hw''⟩ := hw'
                  subst hw''
                  have HQ6 := Aside0.mk (below_regrown w5 dq osq)
                  generalize Go.Sort.grow (redrawn w5 dq) osq = w6 at HQ6
                  have z6 := (blk_cell (blk_below HV6.out HQ6.out) 0).trans (show _ = some (.slice Ab bl.1.length cb) from rfl)
                  have f6 := blk_frozen (blk_below HV6.out HQ6.out) 0
                  have z7 := (blk_cell (blk_below HV7.out HQ6.out) 0).trans (show _ = some (.bool true) from rfl)
                  have f7 := blk_frozen (blk_below HV7.out HQ6.out) 0
                  gi_wp2
                  have HCP := chosen_put HBr.out HQ6.out HV6.out HV7.out (by omega) H4.out.1 HRc.out H4.out H5.out HB3.out.size
                  refine ⟨HCP.1, _, HCP.2.1, ?_⟩
                  rw [HWG.out, HWT]
                  exact ⟨HCP.2.2.1, by rw [← hsz]; exact HCP.2.2.2.1, HCP.2.2.2.2.1, HCP.2.2.2.2.2, HFP.out, HPL.out⟩
                · have c1' : decide (((pickOf l0_3 idx).length : Int) < bl.1.length) = false := by simpa using hc1
                  have c1'' : decide ((pickOf l0_3 idx).length < bl.1.length) = false := by simpa using hc1
                  by_cases hc2 : (pickOf l0_3 idx).length = bl.1.length
                  · have c2' : (((pickOf l0_3 idx).length : Int) == (bl.1.length : Int)) = true := by rw [beq_iff_eq]; omega
                    have c2'' : ((pickOf l0_3 idx).length == bl.1.length) = true := by simpa using hc2
                    by_cases hc3 : sv < sb
                    · have HWT := HWB.out.trans (if_pos (.inr (.inr ⟨hc2, hc3⟩)))
                      have c3' : decide (sv < sb) = true := by simpa using hc3
                      have HC2 := Aside0.mk hc2
                      clear hc2
                      gi_wp2
                      refine region_quiet_round (noDefer_of (by kernel_rfl)) (by kernel_rfl) (by kernel_rfl) ?_
                      repeat (go_big_quiet_step (((with_reducible first | exact cS _ _ | exact cB _ _))))
                      refine wpQuiet_nil ?_
                      intro _ hw'
                      obtain ⟨⟨dq, osq⟩, hw''⟩ := hw'
                      subst hw''
                      have HQ5 := Aside0.mk (below_regrown wr dq osq)
                      generalize Go.Sort.grow (redrawn wr dq) osq = w5 at HQ5
                      have HV6 := Aside0.mk (blk_below HV6.out HQ5.out)
                      have HV7 := Aside0.mk (blk_below HV7.out HQ5.out)
                      have HBr := Aside0.mk (below_step HBr.out HQ5.out)
                      have HRc := Aside0.mk (Kd.R_below HRc.out HQ5.out)
                      have cS := fun (d : Nat) (os : Array Obj) => Calls.regrown_of (w := w5) (d := d) (os := os) (SC _ (below_step HQ5.out (below_regrown w5 d os)))
                      have cB := fun (d : Nat) (os : Array Obj) => Calls.regrown_of (w := w5) (d := d) (os := os) (SB _ (below_step HQ5.out (below_regrown w5 d os)))
                      have k6 := cell_regrown ((blk_cell HV6.out 0).trans (show _ = some (.slice Ab bl.1.length cb) from rfl))
                      have k7 := cell_regrown ((blk_cell HV7.out 0).trans (show _ = some (.bool true) from rfl))
                      clear k4
                      gi_wp2
                      refine region_quiet_round (noDefer_of (by kernel_rfl)) (by kernel_rfl) (by kernel_rfl) ?_
                      repeat (go_big_quiet_step (((with_reducible first | exact cS _ _ | exact cB _ _))))
                      refine wpQuiet_nil ?_
                      intro _ hw'
                      obtain ⟨⟨dq, osq⟩, hw''⟩ := hw'
                      subst hw''
                      have HQ6 := Aside0.mk (below_regrown w5 dq osq)
                      generalize Go.Sort.grow (redrawn w5 dq) osq = w6 at HQ6
                      have z6 := (blk_cell (blk_below HV6.out HQ6.out) 0).trans (show _ = some (.slice Ab bl.1.length cb) from rfl)
                      have f6 := blk_frozen (blk_below HV6.out HQ6.out) 0
                      have z7 := (blk_cell (blk_below HV7.out HQ6.out) 0).trans (show _ = some (.bool true) from rfl)
                      have f7 := blk_frozen (blk_below HV7.out HQ6.out) 0
                      gi_wp2
                      have HCP := chosen_put HBr.out HQ6.out HV6.out HV7.out (by omega) H4.out.1 HRc.out H4.out H5.out HB3.out.size
                      refine ⟨HCP.1, _, HCP.2.1, ?_⟩
                      rw [HWG.out, HWT]
                      exact ⟨HCP.2.2.1, by rw [← hsz]; exact HCP.2.2.2.1, HCP.2.2.2.2.1, HCP.2.2.2.2.2, HFP.out, HPL.out⟩
                    · have HWT := HWB.out.trans (if_neg (by simp [hc1, hc2, hc3]))
                      have c3' : decide (sv < sb) = false := by simpa using hc3
                      have HC2 := Aside0.mk hc2
                      clear hc2
                      gi_wp2
                      refine region_quiet_round (noDefer_of (by kernel_rfl)) (by kernel_rfl) (by kernel_rfl) ?_
                      repeat (go_big_quiet_step (((with_reducible first | exact cS _ _ | exact cB _ _))))
                      refine wpQuiet_nil ?_
                      intro _ hw'
                      obtain ⟨⟨dq, osq⟩, hw''⟩ := hw'
                      subst hw''
                      have HQ5 := Aside0.mk (below_regrown wr dq osq)
                      generalize Go.Sort.grow (redrawn wr dq) osq = w5 at HQ5
                      have HV6 := Aside0.mk (blk_below HV6.out HQ5.out)
                      have HV7 := Aside0.mk (blk_below HV7.out HQ5.out)
                      have HBr := Aside0.mk (below_step HBr.out HQ5.out)
                      have HRc := Aside0.mk (Kd.R_below HRc.out HQ5.out)
                      have cS := fun (d : Nat) (os : Array Obj) => Calls.regrown_of (w := w5) (d := d) (os := os) (SC _ (below_step HQ5.out (below_regrown w5 d os)))
                      have cB := fun (d : Nat) (os : Array Obj) => Calls.regrown_of (w := w5) (d := d) (os := os) (SB _ (below_step HQ5.out (below_regrown w5 d os)))
                      have k6 := cell_regrown ((blk_cell HV6.out 0).trans (show _ = some (.slice Ab bl.1.length cb) from rfl))
                      have k7 := cell_regrown ((blk_cell HV7.out 0).trans (show _ = some (.bool true) from rfl))
                      clear k4
                      gi_wp2
                      refine region_quiet_round (noDefer_of (by kernel_rfl)) (by kernel_rfl) (by kernel_rfl) ?_
                      repeat (go_big_quiet_step (((with_reducible first | exact cS _ _ | exact cB _ _))))
                      refine wpQuiet_nil ?_
                      intro _ hw'
                      obtain ⟨⟨dq, osq⟩, hw''⟩ := hw'
                      subst hw''
                      have HQ6 := Aside0.mk (below_regrown w5 dq osq)
                      generalize Go.Sort.grow (redrawn w5 dq) osq = w6 at HQ6
                      have z6 := (blk_cell (blk_below HV6.out HQ6.out) 0).trans (show _ = some (.slice Ab bl.1.length cb) from rfl)
                      have f6 := blk_frozen (blk_below HV6.out HQ6.out) 0
                      have z7 := (blk_cell (blk_below HV7.out HQ6.out) 0).trans (show _ = some (.bool true) from rfl)
                      have f7 := blk_frozen (blk_below HV7.out HQ6.out) 0
                      gi_wp2
                      have HB5 : Below W.heap.size W w6 := below_step HBr.out HQ6.out
                      rw [HWG.out, HWT]
                      exact ⟨⟨HB5.size, fun k hk _ => HB5.block k hk⟩, _, blk_below HV6.out HQ6.out, by rw [← HFB.out]; exact blk_below HV7.out HQ6.out, by rw [← hsz]; exact Kd.R_below HRB.out HB5, H4.out.trans (KeptC.below HB5), below_step H5.out HB5, HF6.out, hfb7⟩
                  · have HWT := HWB.out.trans (if_neg (by simp [hc1, hc2]))
                    have c2' : (((pickOf l0_3 idx).length : Int) == (bl.1.length : Int)) = false := by rw [beq_eq_false_iff_ne]; omega
                    have c2'' : ((pickOf l0_3 idx).length == bl.1.length) = false := by rw [beq_eq_false_iff_ne]; omega
                    gi_wp2
                    refine region_quiet_round (noDefer_of (by kernel_rfl)) (by kernel_rfl) (by kernel_rfl) ?_
                    repeat (go_big_quiet_step (((with_reducible first | exact cS _ _ | exact cB _ _))))
                    refine wpQuiet_nil ?_
                    intro _ hw'
                    obtain ⟨⟨dq, osq⟩, hw''⟩ := hw'
                    subst hw''
                    have HQ5 := Aside0.mk (below_regrown wr dq osq)
                    generalize Go.Sort.grow (redrawn wr dq) osq = w5 at HQ5
                    have HV6 := Aside0.mk (blk_below HV6.out HQ5.out)
                    have HV7 := Aside0.mk (blk_below HV7.out HQ5.out)
                    have HBr := Aside0.mk (below_step HBr.out HQ5.out)
                    have HRc := Aside0.mk (Kd.R_below HRc.out HQ5.out)
                    have cS := fun (d : Nat) (os : Array Obj) => Calls.regrown_of (w := w5) (d := d) (os := os) (SC _ (below_step HQ5.out (below_regrown w5 d os)))
                    have cB := fun (d : Nat) (os : Array Obj) => Calls.regrown_of (w := w5) (d := d) (os := os) (SB _ (below_step HQ5.out (below_regrown w5 d os)))
                    have k6 := cell_regrown ((blk_cell HV6.out 0).trans (show _ = some (.slice Ab bl.1.length cb) from rfl))
                    have k7 := cell_regrown ((blk_cell HV7.out 0).trans (show _ = some (.bool true) from rfl))
                    clear k4
                    gi_wp2
                    refine region_quiet_round (noDefer_of (by kernel_rfl)) (by kernel_rfl) (by kernel_rfl) ?_
                    repeat (go_big_quiet_step (((with_reducible first | exact cS _ _ | exact cB _ _))))
                    refine wpQuiet_nil ?_
                    intro _ hw'
                    obtain ⟨⟨dq, osq⟩, hw''⟩ := hw'
                    subst hw''
                    have HQ6 := Aside0.mk (below_regrown w5 dq osq)
                    generalize Go.Sort.grow (redrawn w5 dq) osq = w6 at HQ6
                    have z6 := (blk_cell (blk_below HV6.out HQ6.out) 0).trans (show _ = some (.slice Ab bl.1.length cb) from rfl)
                    have f6 := blk_frozen (blk_below HV6.out HQ6.out) 0
                    have z7 := (blk_cell (blk_below HV7.out HQ6.out) 0).trans (show _ = some (.bool true) from rfl)
                    have f7 := blk_frozen (blk_below HV7.out HQ6.out) 0
                    gi_wp2
                    have HB5 : Below W.heap.size W w6 := below_step HBr.out HQ6.out
                    rw [HWG.out, HWT]
                    exact ⟨⟨HB5.size, fun k hk _ => HB5.block k hk⟩, _, blk_below HV6.out HQ6.out, by rw [← HFB.out]; exact blk_below HV7.out HQ6.out, by rw [← hsz]; exact Kd.R_below HRB.out HB5, H4.out.trans (KeptC.below HB5), below_step H5.out HB5, HF6.out, hfb7⟩
  · rw [if_pos d1] at h
    rw [if_neg d1] at V
    generalize chk a0_0 l0_1 l0_2 l0_3 = e at d1 h V
    have V := fun wq hb => V _ _ wq hb rfl
    have d1' : (e != 0) = true := by simpa using d1
    cases h
    go_enter Tryz.func10, Tryz.ntmps10
    go_wp2_with (first | ((with_reducible refine gate_dst (N := 1) rfl ?_); refine box_event ?hg (N := 1) ?hd (cs := #[.int .i64 a0_0, .slice A0_1 l0_1.length c0_1, .slice A0_2 l0_2.length c0_2, .slice A0_3 l0_3.length c0_3]) (t := 25) ?hr ?_; (case hd => rfl); (case hg => rfl); (case hr => first | (go_simp; done) | (go_simp; rfl)); intro gb hg w1 hbox hb; have HB1 := Aside0.mk hb; have HX1 := Aside0.mk hbox; have HG1 := Aside0.mk (show w.heap.size ≤ gb by rw [hg]; exact Nat.le_refl _); clear hb hbox hg) | ((with_reducible refine gate_dst (N := 2) rfl ?_); refine box_event ?hg (N := 2) ?hd (cs := #[.slice none 0 0, .slice none 0 0, .int .i64 0]) (t := 28) ?hr ?_; (case hd => rfl); (case hg => rfl); (case hr => first | (go_simp; done) | (go_simp; rfl)); intro g2 hg w2 hbox hb; have HB2 := Aside0.mk (below_step HB1.out hb); have HX2 := Aside0.mk (blk_below HX1.out hb); have HY2 := Aside0.mk hbox; have HG2 := Aside0.mk (show w.heap.size ≤ g2 by rw [hg]; exact HB1.out.size); have HN := Aside0.mk (show gb ≠ g2 by rw [hg]; exact Nat.ne_of_lt (blk_lt HX1.out)); clear hb hbox hg; have hz0 := (blk_cell HX2.out 0).trans (show _ = some (.int .i64 a0_0) from rfl); have hz1 := (blk_cell HX2.out 1).trans (show _ = some (.slice A0_1 l0_1.length c0_1) from rfl); have hz2 := (blk_cell HX2.out 2).trans (show _ = some (.slice A0_2 l0_2.length c0_2) from rfl); have hz3 := (blk_cell HX2.out 3).trans (show _ = some (.slice A0_3 l0_3.length c0_3) from rfl)) | (go_at_call 28; (with_reducible refine (V _ ?hb).mono ?_); (case hb => exact HB2.out); rintro e w3 ⟨rfl, hq⟩; have HB3 := Aside0.mk (below_step HB2.out hq); have HX3 := Aside0.mk (blk_below HX2.out hq); have HY3 := Aside0.mk (blk_below HY2.out hq); clear hq; have hza0 := fun o => (blk_cell (blk_alloc HX3.out o) 0).trans (show _ = some (.int .i64 a0_0) from rfl); have hza1 := fun o => (blk_cell (blk_alloc HX3.out o) 1).trans (show _ = some (.slice A0_1 l0_1.length c0_1) from rfl); have hza2 := fun o => (blk_cell (blk_alloc HX3.out o) 2).trans (show _ = some (.slice A0_2 l0_2.length c0_2) from rfl); have hza3 := fun o => (blk_cell (blk_alloc HX3.out o) 3).trans (show _ = some (.slice A0_3 l0_3.length c0_3) from rfl); have hzc0 := fun o p q => (blk_cell (blk_alloc (blk_alloc (blk_alloc HX3.out o) p) q) 0).trans (show _ = some (.int .i64 a0_0) from rfl); have hzc1 := fun o p q => (blk_cell (blk_alloc (blk_alloc (blk_alloc HX3.out o) p) q) 1).trans (show _ = some (.slice A0_1 l0_1.length c0_1) from rfl); have hzc2 := fun o p q => (blk_cell (blk_alloc (blk_alloc (blk_alloc HX3.out o) p) q) 2).trans (show _ = some (.slice A0_2 l0_2.length c0_2) from rfl); have hzc3 := fun o p q => (blk_cell (blk_alloc (blk_alloc (blk_alloc HX3.out o) p) q) 3).trans (show _ = some (.slice A0_3 l0_3.length c0_3) from rfl); have hya0 := fun o => (blk_cell (blk_alloc HY3.out o) 0).trans (show _ = some (.slice none 0 0) from rfl); have fya0 := fun o => blk_frozen (blk_alloc HY3.out o) 0; have hya1 := fun o => (blk_cell (blk_alloc HY3.out o) 1).trans (show _ = some (.slice none 0 0) from rfl); have fya1 := fun o => blk_frozen (blk_alloc HY3.out o) 1; have hya2 := fun o => (blk_cell (blk_alloc HY3.out o) 2).trans (show _ = some (.int .i64 0) from rfl); have fya2 := fun o => blk_frozen (blk_alloc HY3.out o) 2))
    have HY := blk_alloc HY3.out (.cells #[.int .i64 0] 2)
    refine bodyPost_ret (results_row2 rfl _ _ g2 28 #[.slice none 0 0, .slice none 0 0, .int .i64 0] (0, 0) _ rfl (blk_put (blk_put (blk_put HY 0 _ rfl) 1 _ rfl) 2 _ rfl) Tryz.underlying28 rfl size28) rfl ?_
    exact ⟨_, _, rfl, Kd.R_nil _ _ _ _ _, Kd.R_nil _ _ _ _ _, below_set (below_set (below_set (below_alloc HB3.out _) HG2.out) HG2.out) HG2.out⟩
end Go.Proofs.YtoanlppfdniiaaaGreatDoor.Q
end
