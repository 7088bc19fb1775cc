/- A part of the proof; no condition. -/
import Derived.Test.YtoanlppfdniiaaaGreatDoorProg
section
namespace Go.Proofs.YtoanlppfdniiaaaGreatDoor.SelMath
def Inc (N : Nat) : Nat → List Int → Prop
  | _, [] => True
  | lo, j :: t => ∃ k : Nat, j = k ∧ lo ≤ k ∧ k < N ∧ Inc N (k + 1) t
def lexLt : List Int → List Int → Prop
  | [], _ => False
  | _ :: _, [] => False
  | a :: s, b :: t => a < b ∨ (a = b ∧ lexLt s t)
instance lexLt_dec : ∀ a b, Decidable (lexLt a b)
  | [], _ => .isFalse (fun h => h)
  | _ :: _, [] => .isFalse (fun h => h)
  | a :: s, b :: t => by
    have := lexLt_dec s t
    unfold lexLt
    exact inferInstance
theorem lexLt_trans : ∀ {a b c : List Int}, lexLt a b → lexLt b c → lexLt a c
  | _ :: _, _ :: _, _ :: _, h1, h2 => by
    unfold lexLt at *
    rcases h1 with h1 | ⟨rfl, h1⟩
    · rcases h2 with h2 | ⟨rfl, h2⟩
      · exact .inl (by omega)
      · exact .inl h1
    · rcases h2 with h2 | ⟨rfl, h2⟩
      · exact .inl h2
      · exact .inr ⟨rfl, lexLt_trans h1 h2⟩
theorem lexLt_irrefl : ∀ a : List Int, ¬ lexLt a a
  | [], h => h
  | a :: s, h => by
    unfold lexLt at h
    rcases h with h | ⟨_, h⟩
    · omega
    · exact lexLt_irrefl s h
def ext (n : Nat) : Nat → List (List Int)
  | 0 => []
  | r + 1 => ([((n - (r + 1) : Nat) : Int)] :: (ext n r).map (((n - (r + 1) : Nat) : Int) :: ·)) ++ ext n r
theorem Inc_mono {N : Nat} : ∀ {lo lo' : Nat} {x : List Int}, lo' ≤ lo → Inc N lo x → Inc N lo' x
  | _, _, [], _, _ => trivial
  | lo, lo', j :: t, h, ⟨k, h1, h2, h3, h4⟩ => ⟨k, h1, by omega, h3, h4⟩
theorem ext_mem {n : Nat} : ∀ {r : Nat}, r ≤ n → ∀ x, x ∈ ext n r ↔ x ≠ [] ∧ Inc n (n - r) x
  | 0, hr, x => by
    simp only [ext, List.not_mem_nil, false_iff, not_and]
    intro hx h
    cases x with
    | nil => exact hx rfl
    | cons j t => obtain ⟨k, _, h2, h3, _⟩ := h; omega
  | r + 1, hr, x => by
    have ih := ext_mem (n := n) (r := r) (by omega)
    simp only [ext, List.cons_append, List.mem_cons, List.mem_append, List.mem_map]
    constructor
    · rintro (rfl | ⟨y, hy, rfl⟩ | h)
      · exact ⟨by simp, _, rfl, by omega, by omega, trivial⟩
      · exact ⟨by simp, _, rfl, by omega, by omega, by have := ((ih y).1 hy).2; rwa [show n - (r + 1) + 1 = n - r by omega]⟩
      · have := (ih x).1 h
        exact ⟨this.1, Inc_mono (by omega) this.2⟩
    · rintro ⟨hx, h⟩
      cases x with
      | nil => exact absurd rfl hx
      | cons j t =>
        obtain ⟨k, rfl, h2, h3, h4⟩ := h
        by_cases e : k = n - (r + 1)
        · subst e
          cases t with
          | nil => exact .inl rfl
          | cons a s => exact .inr (.inl ⟨a :: s, (ih _).2 ⟨by simp, by rwa [show n - (r + 1) + 1 = n - r by omega] at h4⟩, rfl⟩)
        · exact .inr (.inr ((ih _).2 ⟨by simp, k, rfl, by omega, h3, h4⟩))
def Fore (a b : List Int) : Prop := a.length = b.length → lexLt a b
theorem ext_sorted {n : Nat} : ∀ {r : Nat}, r ≤ n → (ext n r).Pairwise Fore
  | 0, _ => List.Pairwise.nil
  | r + 1, hr => by
    have ih := ext_sorted (n := n) (r := r) (by omega)
    have hm := ext_mem (n := n) (r := r) (by omega)
    have hh : ∀ y ∈ ext n r, ∃ (k : Nat) (t : List Int), y = (k : Int) :: t ∧ n - (r + 1) < k := by
      intro y hy
      obtain ⟨h1, h2⟩ := (hm y).1 hy
      cases y with
      | nil => exact absurd rfl h1
      | cons j t => obtain ⟨k, rfl, h3, h4, _⟩ := h2; exact ⟨k, t, rfl, by omega⟩
    simp only [ext, List.cons_append]
    rw [List.pairwise_cons]
    refine ⟨?_, List.pairwise_append.2 ⟨?_, ih, ?_⟩⟩
    · intro y hy hl
      rcases List.mem_append.1 hy with hy | hy
      · obtain ⟨z, hz, rfl⟩ := List.mem_map.1 hy
        have := ((hm z).1 hz).1
        cases z with
        | nil => exact absurd rfl this
        | cons _ _ => simp at hl
      · obtain ⟨k, t, rfl, hk⟩ := hh y hy
        exact .inl (by omega)
    · rw [List.pairwise_map]
      refine ih.imp ?_
      intro a b h hl
      exact .inr ⟨rfl, h (by simpa using hl)⟩
    · intro a ha b hb hl
      obtain ⟨z, hz, rfl⟩ := List.mem_map.1 ha
      obtain ⟨k, t, rfl, hk⟩ := hh b hb
      exact .inl (by omega)
def sel (N : Nat) : List (List Int) := [] :: ext N N
theorem sel_mem {N : Nat} (x : List Int) : x ∈ sel N ↔ Inc N 0 x := by
  unfold sel
  rw [List.mem_cons, ext_mem (Nat.le_refl _)]
  constructor
  · rintro (rfl | ⟨_, h⟩)
    · trivial
    · rwa [Nat.sub_self] at h
  · intro h
    by_cases e : x = []
    · exact .inl e
    · exact .inr ⟨e, by rwa [Nat.sub_self]⟩
theorem sel_sorted (N : Nat) : (sel N).Pairwise Fore := by
  unfold sel
  rw [List.pairwise_cons]
  refine ⟨fun y hy hl => ?_, ext_sorted (Nat.le_refl _)⟩
  have := ((ext_mem (Nat.le_refl _) y).1 hy).1
  cases y with
  | nil => exact absurd rfl this
  | cons _ _ => simp at hl
theorem tails_ext {tails : Nat → Nat → List Int → List (List Int)} (h0 : ∀ n idx, tails n 0 idx = []) (h1 : ∀ n r idx, tails n (r + 1) idx = ((idx ++ [((n - (r + 1) : Nat) : Int)]) :: tails n r (idx ++ [((n - (r + 1) : Nat) : Int)])) ++ tails n r idx) (n : Nat) :
    ∀ (r : Nat) (idx : List Int), tails n r idx = (ext n r).map (idx ++ ·)
  | 0, idx => by rw [h0]; rfl
  | r + 1, idx => by
    rw [h1, tails_ext h0 h1 n r, tails_ext h0 h1 n r, ext]
    simp [List.map_append, List.map_map, Function.comp_def]
def Ahead (S : List Int → Int) (a b : List Int) : Prop := a.length < b.length ∨ (a.length = b.length ∧ (S a < S b ∨ (S a = S b ∧ lexLt a b)))
theorem Ahead.asymm {S : List Int → Int} {a b : List Int} (h : Ahead S a b) (k : Ahead S b a) : False := by
  unfold Ahead at h k
  rcases h with h | ⟨h0, h | ⟨h, hl⟩⟩
  · omega
  · omega
  · rcases k with k | ⟨_, k | ⟨k, kl⟩⟩
    · omega
    · omega
    · exact lexLt_irrefl _ (lexLt_trans hl kl)
theorem Ahead.trans {S : List Int → Int} {a b c : List Int} (h : Ahead S a b) (k : Ahead S b c) : Ahead S a c := by
  unfold Ahead at *
  rcases h with h | ⟨h0, h | ⟨h, hl⟩⟩
  · left; omega
  · rcases k with k | ⟨k0, k | ⟨k, kl⟩⟩
    · left; omega
    · right; exact ⟨by omega, .inl (by omega)⟩
    · right; exact ⟨by omega, .inl (by omega)⟩
  · rcases k with k | ⟨k0, k | ⟨k, kl⟩⟩
    · left; omega
    · right; exact ⟨by omega, .inl (by omega)⟩
    · right; exact ⟨by omega, .inr ⟨by omega, lexLt_trans hl kl⟩⟩
def Top (S : List Int → Int) (m : Int) (L : List (List Int)) (x : List Int) : Prop := x ∈ L ∧ m ≤ S x ∧ ∀ y ∈ L, m ≤ S y → y = x ∨ Ahead S x y
theorem Top.unique {S : List Int → Int} {m : Int} {L L' : List (List Int)} (hL : ∀ x, x ∈ L ↔ x ∈ L') {x x' : List Int} (h : Top S m L x) (h' : Top S m L' x') : x = x' := by
  rcases h.2.2 x' ((hL _).2 h'.1) h'.2.1 with e | e
  · exact e.symm
  · rcases h'.2.2 x ((hL _).1 h.1) h.2.1 with k | k
    · exact k
    · exact (e.asymm k).elim
variable {β : Type}
def weigh (P : List Int → List β) (V : List β → Int) (m : Int) (b : List β × Bool) (idx : List Int) : List β × Bool :=
  if V (P idx) < m then b
  else if b.2 = false ∨ (P idx).length < b.1.length ∨ ((P idx).length = b.1.length ∧ V (P idx) < V b.1) then (P idx, true) else b
theorem fold_top {P : List Int → List β} {V : List β → Int} {m : Int} (hP : ∀ x, (P x).length = x.length) {L : List (List Int)} (hs : L.Pairwise Fore) :
    ∀ n, n ≤ L.length → ((L.take n).foldl (weigh P V m) ([], false) = ([], false) ∧ ∀ y ∈ L.take n, ¬ m ≤ V (P y)) ∨
      (∃ x, Top (fun x => V (P x)) m (L.take n) x ∧ (L.take n).foldl (weigh P V m) ([], false) = (P x, true))
  | 0, _ => .inl ⟨rfl, by simp⟩
  | n + 1, hn => by
    have hlt : n < L.length := by omega
    have ht : L.take (n + 1) = L.take n ++ [L[n]] := List.take_succ_eq_append_getElem hlt
    have hf : ∀ y ∈ L.take n, Fore y L[n] := by
      intro y hy
      obtain ⟨i, hi, rfl⟩ := List.mem_take_iff_getElem.1 hy
      exact List.pairwise_iff_getElem.1 hs i n (by omega) hlt (by omega)
    rw [ht, List.foldl_append]
    generalize L[n] = z at hf
    simp only [List.foldl_cons, List.foldl_nil]
    rcases fold_top hP hs n (by omega) with ⟨h1, h2⟩ | ⟨x, ⟨hx, hm, hb⟩, h2⟩
    · rw [h1]
      by_cases hz : V (P z) < m
      · left
        rw [weigh, if_pos hz]
        refine ⟨rfl, fun y hy => ?_⟩
        rcases List.mem_append.1 hy with hy | hy
        · exact h2 y hy
        · obtain rfl := List.mem_singleton.1 hy; omega
      · right
        rw [weigh, if_neg hz, if_pos (.inl rfl)]
        refine ⟨z, ⟨by simp, Int.not_lt.1 hz, fun y hy hy2 => ?_⟩, rfl⟩
        rcases List.mem_append.1 hy with hy | hy
        · exact absurd hy2 (h2 y hy)
        · exact .inl (List.mem_singleton.1 hy)
    · right
      rw [h2]
      by_cases hz : V (P z) < m
      · rw [weigh, if_pos hz]
        refine ⟨x, ⟨List.mem_append_left _ hx, hm, fun y hy hy2 => ?_⟩, rfl⟩
        rcases List.mem_append.1 hy with hy | hy
        · exact hb y hy hy2
        · obtain rfl := List.mem_singleton.1 hy; exact absurd hz (Int.not_lt.2 hy2)
      · rw [weigh, if_neg hz]
        by_cases hc : (P z).length < (P x).length ∨ ((P z).length = (P x).length ∧ V (P z) < V (P x))
        · rw [if_pos (.inr hc)]
          have hzx : Ahead (fun x => V (P x)) z x := by
            rw [hP, hP] at hc
            rcases hc with h | h
            · exact .inl h
            · exact .inr ⟨h.1, .inl h.2⟩
          refine ⟨z, ⟨by simp, Int.not_lt.1 hz, fun y hy hy2 => ?_⟩, rfl⟩
          rcases List.mem_append.1 hy with hy | hy
          · rcases hb y hy hy2 with rfl | h
            · exact .inr hzx
            · exact .inr (hzx.trans h)
          · exact .inl (List.mem_singleton.1 hy)
        · rw [if_neg (by simpa using hc)]
          refine ⟨x, ⟨List.mem_append_left _ hx, hm, fun y hy hy2 => ?_⟩, rfl⟩
          rcases List.mem_append.1 hy with hy | hy
          · exact hb y hy hy2
          · obtain rfl := List.mem_singleton.1 hy
            right
            rw [hP, hP] at hc
            unfold Ahead
            rw [not_or, not_and] at hc
            by_cases e : x.length = y.length
            · right
              refine ⟨e, ?_⟩
              have h3 := hc.2 e.symm
              rcases Int.lt_trichotomy (V (P x)) (V (P y)) with h | h | h
              · exact .inl h
              · exact .inr ⟨h, hf x hx e⟩
              · omega
            · left; omega
theorem fold_all {P : List Int → List β} {V : List β → Int} {m : Int} (hP : ∀ x, (P x).length = x.length) {L : List (List Int)} (hs : L.Pairwise Fore) :
    (L.foldl (weigh P V m) ([], false) = ([], false) ∧ ∀ y ∈ L, ¬ m ≤ V (P y)) ∨ (∃ x, Top (fun x => V (P x)) m L x ∧ L.foldl (weigh P V m) ([], false) = (P x, true)) := by
  have := fold_top (V := V) (m := m) hP hs L.length (Nat.le_refl _)
  rwa [List.take_length] at this
def Good (V : List Int → Int) (m : Int) (pre : List (List Int)) : Option (List Int) → Prop
  | none => ∀ y ∈ pre, V y < m
  | some x => Top V m pre x
theorem Good.skip {V : List Int → Int} {m : Int} {pre : List (List Int)} {b : Option (List Int)} (h : Good V m pre b) {y : List Int} (hy : V y < m) : Good V m (pre ++ [y]) b := by
  cases b with
  | none =>
    intro z hz
    rcases List.mem_append.1 hz with hz | hz
    · exact h z hz
    · rw [List.mem_singleton.1 hz]; exact hy
  | some x =>
    refine ⟨List.mem_append_left _ h.1, h.2.1, fun z hz hz2 => ?_⟩
    rcases List.mem_append.1 hz with hz | hz
    · exact h.2.2 z hz hz2
    · rw [List.mem_singleton.1 hz] at hz2; omega
theorem Good.first {V : List Int → Int} {m : Int} {pre : List (List Int)} (h : Good V m pre none) {y : List Int} (hy : ¬ V y < m) : Good V m (pre ++ [y]) (some y) := by
  refine ⟨by simp, Int.not_lt.1 hy, fun z hz hz2 => ?_⟩
  rcases List.mem_append.1 hz with hz | hz
  · have := h z hz; omega
  · exact .inl (List.mem_singleton.1 hz)
theorem Good.same {V : List Int → Int} {m : Int} {L L' : List (List Int)} (hL : ∀ x, x ∈ L ↔ x ∈ L') {b b' : Option (List Int)} (h : Good V m L b) (h' : Good V m L' b') : b = b' := by
  cases b with
  | none =>
    cases b' with
    | none => rfl
    | some x' => have := h x' ((hL _).2 h'.1); have := h'.2.1; omega
  | some x =>
    cases b' with
    | none => have := h' x ((hL _).1 h.1); have := h.2.1; omega
    | some x' => rw [Top.unique hL h h']
end Go.Proofs.YtoanlppfdniiaaaGreatDoor.SelMath
end
