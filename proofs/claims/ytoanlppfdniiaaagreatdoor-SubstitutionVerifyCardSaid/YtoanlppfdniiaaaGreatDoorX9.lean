/- A part of the proof; no condition. -/
import Derived.Test.YtoanlppfdniiaaaGreatDoorX4
import Derived.Test.YtoanlppfdniiaaaGreatDoorX5
import Derived.Test.YtoanlppfdniiaaaGreatDoorX8
section
namespace Go.Proofs.YtoanlppfdniiaaaGreatDoor.Q
set_option linter.unusedVariables false
set_option linter.unusedSimpArgs false
open Go.RowKit Go.Proofs.YtoanlppfdniiaaaGreatDoorW.PrintWords Go.Proofs.YtoanlppfdniiaaaGreatDoorW.PrintLast Go.Proofs.YtoanlppfdniiaaaGreatDoorW.PrintMore
theorem w64 (n : Int) (h : -9223372036854775808 ≤ n ∧ n ≤ 9223372036854775807) : wrap64 n = n := by unfold wrap64; omega
def dv (l : List UInt8) : List Int := l.map fun d => (d.toNat : Int) - 48
theorem exc_vals (b : UInt8) (h : Id.an b.toNat = true) : dv (exc b) = if Id.dg b.toNat = true then [((b.toNat : Int) - 48) % 256] else [(((b.toNat : Int) - 65) % 256 + 10) / 10, (((b.toNat : Int) - 65) % 256 + 10) % 10] := by
  unfold exc
  by_cases hd : Id.dg b.toNat = true
  · rw [if_pos hd, if_pos hd]
    simp [Id.dg] at hd
    simp [dv]; omega
  · rw [if_neg hd, if_neg hd]
    simp [Id.an, Id.up, hd] at h
    rw [Lib.decDigits_two (by omega) (by omega)]
    simp [dv, UInt8.toNat_ofNat']
    omega
theorem digit_some (c : Int) : giroref05_digit.f c = some (Id.dg c) := by
  unfold giroref05_digit.f Id.dg
  by_cases h : c ≥ 48
  · rw [if_pos h]; simp; omega
  · rw [if_neg h]; simp; omega
theorem bt_get (s : ByteArray) (i : Nat) (h : i < s.size) : bt s i = ((s[i]'h).toNat : Int) := (bt_at s (i : Int) (by simpa using h)).symm
theorem expand_l0 {s : ByteArray} (hs : s.size ≤ 1000) (han : ∀ b ∈ s.data.toList, Id.an b.toNat = true) : ∀ (n k i : Nat), i + n = s.size → n < k → giroref05_Expand.l0 k s (dv (exU (s.data.toList.take i))) i = some (dv (exU s.data.toList))
  | 0, k + 1, i, h, hk => by
    obtain rfl : i = s.size := by omega
    rw [giroref05_Expand.l0, if_neg (by omega), List.take_of_length_le (by simp)]
  | n + 1, k + 1, i, h, hk => by
    have hi : i < s.size := by omega
    have hb := han (s[i]'hi) (by simp [ByteArray.getElem_eq_getElem_data])
    have hsn := exU_snoc s i hi
    have hl : (dv (exU (s.data.toList.take i))).length ≤ 2000 := by
      have := exU_len (s.data.toList.take i) (fun b hb => han b (List.mem_of_mem_take hb))
      have h2 : (s.data.toList.take i).length ≤ 1000 := by rw [List.length_take]; simp; omega
      simp only [dv, List.length_map]; omega
    have hv := exc_vals (s[i]'hi) hb
    have hx : dv (exU (s.data.toList.take (i + 1))) = dv (exU (s.data.toList.take i)) ++ dv (exc (s[i]'hi)) := by rw [hsn]; simp [dv]
    rw [giroref05_Expand.l0, if_pos (by omega), if_pos (by omega), digit_some, Option.bind_some, bt_get s i hi, w64 _ (by omega)]
    by_cases hd : Id.dg (s[i]'hi).toNat = true
    · rw [if_pos hd] at hv
      rw [if_pos hd, if_pos (by omega), ← hv, ← hx]
      exact expand_l0 hs han n k (i + 1) (by omega) (by omega)
    · rw [if_neg hd] at hv
      rw [if_neg hd, Option.bind_some, if_pos (by simp only [List.length_cons, List.length_nil]; omega), ← hv, ← hx]
      exact expand_l0 hs han n k (i + 1) (by omega) (by omega)
theorem expand_some {s : ByteArray} (hs : s.size ≤ 1000) (han : ∀ b ∈ s.data.toList, Id.an b.toNat = true) {k : Nat} (hk : s.size < k) : giroref05_Expand.f k s = some (dv (exU s.data.toList)) :=
  expand_l0 hs han s.size k 0 (by omega) hk
theorem luhn_l0 {U : List UInt8} (hl : U.length ≤ 2000) (hd : ∀ c ∈ U, Id.dg c.toNat = true) : ∀ (n k i : Nat), i + n = U.length → n < k → 0 ≤ lpart ⟨U.toArray⟩ i → lpart ⟨U.toArray⟩ i ≤ 18 * i → giroref05_Luhn.l0 k (dv U) (lpart ⟨U.toArray⟩ i) i = some (luhnT ⟨U.toArray⟩ : Int)
  | 0, k + 1, i, h, hk, h0, h1 => by
    obtain rfl : i = U.length := by omega
    have e : (⟨U.toArray⟩ : ByteArray).size = U.length := by simp [ByteArray.size]
    rw [giroref05_Luhn.l0, if_neg (by simp [dv])]
    rw [luhnT, e, Int.tmod_eq_emod_of_nonneg h0, w64 _ (by omega), Int.tmod_eq_emod_of_nonneg (by omega)]
    simp; omega
  | n + 1, k + 1, i, h, hk, h0, h1 => by
    have hi : i < U.length := by omega
    have e : (⟨U.toArray⟩ : ByteArray).size = U.length := by simp [ByteArray.size]
    have hlen : (dv U).length = U.length := by simp [dv]
    have hj : U.length - 1 - i < U.length := by omega
    have hdj := hd U[U.length - 1 - i] (List.getElem_mem hj)
    have hbt : bt ⟨U.toArray⟩ (((⟨U.toArray⟩ : ByteArray).size : Int) - 1 - i) = (U[U.length - 1 - i].toNat : Int) := by
      rw [e, show ((U.length : Int) - 1 - i) = ((U.length - 1 - i : Nat) : Int) by omega, bt_get _ _ (by rw [e]; exact hj)]
      rfl
    have hrd : rd (dv U) ((U.length : Int) - 1 - i) = (U[U.length - 1 - i].toNat : Int) - 48 := by
      rw [show ((U.length : Int) - 1 - i) = ((U.length - 1 - i : Nat) : Int) by omega]
      simp [rd, dv, List.getElem?_eq_getElem hj]
    generalize hc : U[U.length - 1 - i].toNat = c at hdj hbt hrd
    have hc1 : 48 ≤ c ∧ c ≤ 57 := by simp [Id.dg] at hdj; omega
    have hst : lpart ⟨U.toArray⟩ (i + 1) = lpart ⟨U.toArray⟩ i + lterm i ((c : Int) - 48) := by rw [lpart, hbt]
    have hr := lterm_range i ((c : Int) - 48) (by omega) (by omega)
    have ih := luhn_l0 hl hd n k (i + 1) (by omega) (by omega) (by omega) (by omega)
    rw [hst] at ih
    rw [giroref05_Luhn.l0, hlen, if_pos (by omega), w64 ((U.length : Int) - 1) (by omega), w64 ((U.length : Int) - 1 - i) (by omega), if_pos (by omega), if_pos (by omega), hrd, w64 ((i : Int) + 1) (by omega)]
    by_cases h2 : i % 2 = 0
    · rw [if_pos (by rw [Int.tmod_eq_emod_of_nonneg (by omega)]; omega)]
      rw [lterm, if_pos h2] at ih hr
      rw [w64 (2 * ((c : Int) - 48)) (by omega), Int.tmod_eq_emod_of_nonneg (by omega), Int.tdiv_eq_ediv_of_nonneg (by omega), w64 (2 * ((c : Int) - 48) / 10) (by omega), w64 (lpart ⟨U.toArray⟩ i + 2 * ((c : Int) - 48) / 10) (by omega), w64 _ (by omega), Int.add_assoc]
      exact ih
    · rw [if_neg (by rw [Int.tmod_eq_emod_of_nonneg (by omega)]; omega)]
      rw [lterm, if_neg h2] at ih hr
      rw [Int.tmod_eq_emod_of_nonneg (by omega), Int.tdiv_eq_ediv_of_nonneg (by omega), w64 (((c : Int) - 48) / 10) (by omega), w64 (lpart ⟨U.toArray⟩ i + ((c : Int) - 48) / 10) (by omega), w64 _ (by omega), Int.add_assoc]
      exact ih
theorem luhn_some {s : ByteArray} (hs : s.size ≤ 1000) (han : ∀ b ∈ s.data.toList, Id.an b.toNat = true) {k : Nat} (hk : 2 * s.size < k) : giroref05_Luhn.f k s = some (luhnT ⟨(exU s.data.toList).toArray⟩ : Int) := by
  have hl := exU_len _ han
  have hl2 : s.data.toList.length = s.size := by simp
  rw [giroref05_Luhn.f, expand_some hs han (by omega), Option.bind_some]
  exact luhn_l0 (by omega) (exU_digit _ han) _ k 0 (Nat.zero_add _) (by omega) (by simp [lpart]) (by simp [lpart])
def ck05 (k : Int) (lo hi : Nat) (s : ByteArray) : Int × Int :=
  match (List.range (min s.size hi)).find? (fun i : Nat => !mayB k i (bt s i)) with
  | some i => ((i : Int), 3)
  | none => if s.size < lo then ((s.size : Int), 4) else if hi < s.size then ((hi : Int), 5)
    else if (k == 0 && decide ((bt s 11 - 48) % 256 ≠ luhnT ⟨(exU (s.extract 0 11).data.toList).toArray⟩)) = true then (11, 18) else (0, 0)
def giroref05_Check.f (a0 : Int) (a1 : ByteArray) : Option (Int × Int) :=
  if a0 = 0 then some (ck05 0 12 12 a1) else if a0 = 1 then some (ck05 1 4 8 a1) else none
theorem ck05_at {k : Int} {lo hi : Nat} {s : ByteArray} {i : Nat} (h : ∀ j, j < i → mayB k j (bt s j) = true) (h1 : i < s.size) (h2 : i < hi) (hb : mayB k i (bt s i) = false) : ck05 k lo hi s = ((i : Int), 3) := by
  have : (List.range (min s.size hi)).find? (fun i : Nat => !mayB k i (bt s i)) = some i := by
    rw [List.find?_range_eq_some]
    exact ⟨by simp [hb], by simp; omega, fun j hj => by simp [h j hj]⟩
  rw [ck05, this]
theorem ck05_all {k : Int} {lo hi : Nat} {s : ByteArray} (h : ∀ j, j < min s.size hi → mayB k j (bt s j) = true) : ck05 k lo hi s = if s.size < lo then ((s.size : Int), 4) else if hi < s.size then ((hi : Int), 5)
    else if (k == 0 && decide ((bt s 11 - 48) % 256 ≠ luhnT ⟨(exU (s.extract 0 11).data.toList).toArray⟩)) = true then (11, 18) else (0, 0) := by
  have : (List.range (min s.size hi)).find? (fun i : Nat => !mayB k i (bt s i)) = none := by
    rw [List.find?_range_eq_none]
    exact fun j hj => by simp [h j hj]
  rw [ck05, this]
theorem may_an {k i c : Int} (hk : k = 0 ∨ k = 1) (h : mayB k i c = true) : Id.an c = true := by
  rcases hk with rfl | rfl
  · simp [mayB, upB, dgB] at h
    simp [Id.an, Id.up, Id.dg]
    omega
  · simp [mayB, upB, dgB] at h
    simp [Id.an, Id.up, Id.dg]
    omega
set_option maxHeartbeats 4000000 in
set_option maxRecDepth 100000 in
theorem ck05_calls (k : Int) (lo hi : Nat) (s : ByteArray) (w : World) (hk : k = 0 ∧ lo = 12 ∧ hi = 12 ∨ k = 1 ∧ lo = 4 ∧ hi = 8) :
    Calls Tryz.prog 104 #[.int .i64 k, .string s] w fun e w' => e = .returned (.tuple #[.int .i64 (ck05 k lo hi s).1, .int .i64 (ck05 k lo hi s).2]) ∧ Below w.heap.size w w' := by
  have HK := Aside0.mk hk
  have k0 : decide (k < 0) = false := by simp; omega
  have k3 : decide (k > 3) = false := by simp; omega
  have k3' : (k == 3) = false := by simp; omega
  have hhi : hi ≤ 12 := by omega
  have L := fun w => giroref05_Lengths.calls k (lo : Int) (hi : Int) w (by rcases hk with ⟨rfl, rfl, rfl⟩ | ⟨rfl, rfl, rfl⟩ <;> rfl)
  have M := fun i c w => giroref05_may.calls k i c _ w rfl
  have HA := Aside0.mk (fun i h => ck05_at (k := k) (lo := lo) (hi := hi) (s := s) (i := i) h)
  have HN := Aside0.mk (ck05_all (k := k) (lo := lo) (hi := hi) (s := s))
  obtain ⟨n, hn⟩ : ∃ n, n = min s.size hi := ⟨_, rfl⟩
  have HNn := Aside0.mk hn
  clear hk hn
  generalize hrr : ck05 k lo hi s = r at HA HN
  clear hrr
  go_enter Tryz.func104, Tryz.ntmps104
  go_wp2_with (go_at_call 116; refine (L _).mono ?_; rintro e w1 ⟨rfl, hd⟩; have HB1 := Aside0.mk hd.below; clear hd)
  go_loopg [8] n (fun kq v8 w' => ∃ i : Nat, v8 = .int .i64 i ∧ Aside0 (i + kq = n) ∧ Aside0 (∀ j, j < i → mayB k j (bt s j) = true) ∧ Aside0 (Below w.heap.size w w'))
  case atStart => exact ⟨0, rfl, ⟨by omega⟩, ⟨by intro j hj; omega⟩, HB1⟩
  case round =>
    obtain ⟨i, rfl, HI, HP, HB⟩ := hrel
    have hi1 := HI.out
    have hn := HNn.out
    by_cases hs : i < s.size
    · by_cases hh : i < hi
      · have c1 : decide ((i : Int) < s.size) = true := by simpa using hs
        have c2 : decide ((i : Int) < hi) = true := by simpa using hh
        have hx := bt_at s (i : Int) (by simpa using hs)
        simp only [Int.toNat_natCast] at hx
        have M := M (i : Int) (bt s i)
        by_cases hm : mayB k i (bt s i) = true
        · have HM := Aside0.mk hm
          rw [hm] at M
          clear hm
          go_wp2_with (go_at_call 117; refine (M _).mono ?_; rintro e w2 ⟨rfl, hd⟩; have HB2 := Aside0.mk (below_step HB.out hd.below); clear hd)
          go_roundg (gk - 1)
          case measure => omega
          case rel => exact ⟨i + 1, by go_num, ⟨by omega⟩, ⟨fun j hj => by
            by_cases e : j = i
            · rw [e]; exact HM.out
            · exact HP.out j (by omega)⟩, HB2⟩
        · have hm : mayB k i (bt s i) = false := by simpa using hm
          have HR := HA.out i HP.out hs hh hm
          subst HR
          rw [hm] at M
          clear hm hn HA HN
          go_wp2_with (go_at_call 117; refine (M _).mono ?_; rintro e w2 ⟨rfl, hd⟩; have HB2 := Aside0.mk (below_step HB.out hd.below); clear hd)
          go_ret2
          exact ⟨rfl, HB2.out⟩
      · have c1 : decide ((i : Int) < s.size) = true := by simpa using hs
        have c2 : decide ((i : Int) < hi) = false := by simpa using hh
        have HR := HN.out (fun j hj => HP.out j (by omega))
        rw [if_neg (by have := HK.out; omega)] at HR
        by_cases hb : hi < s.size
        · rw [if_pos hb] at HR
          subst HR
          have c3 : ¬ ((s.size : Int) < lo) := by have := HK.out; omega
          clear hn HA HN
          go_wp2
          go_ret2
          exact ⟨rfl, HB.out⟩
        · omega
    · have c1 : decide ((i : Int) < s.size) = false := by simpa using hs
      have HR := HN.out (fun j hj => HP.out j (by omega))
      have hle : s.size ≤ hi := by omega
      by_cases hl : s.size < lo
      · rw [if_pos hl] at HR
        subst HR
        clear hn HA HN
        go_wp2
        go_ret2
        exact ⟨rfl, HB.out⟩
      · rw [if_neg hl, if_neg (by omega)] at HR
        have c3 : ¬ ((s.size : Int) < lo) := by omega
        have c4 : ¬ ((s.size : Int) > hi) := by omega
        rcases HK.out with ⟨rfl, rfl, rfl⟩ | ⟨rfl, rfl, rfl⟩
        · have h12 : s.size = 12 := by omega
          have han : ∀ b ∈ (s.extract 0 11).data.toList, Id.an b.toNat = true := by
            intro b hb
            obtain ⟨j, hj, rfl⟩ := List.getElem_of_mem hb
            have hj' : j < 11 := by simpa [h12] using hj
            have := HP.out j (by omega)
            have h2 := may_an (.inl rfl) this
            rw [bt_get s j (by omega)] at h2
            have e : (s.extract 0 11).data.toList[j] = s[j]'(by omega) := by
              simp [ByteArray.getElem_eq_getElem_data]
            rw [e]; exact h2
          have LU := fun w => giroref05_Luhn.calls 100 (s.extract 0 11) _ w (luhn_some (by simp; omega) han (by simp; omega))
          have hb11 : ((s[11]'(by omega)).toNat : Int) = bt s 11 := (bt_get s 11 (by omega)).symm
          have hr11 := bt_range s 11
          have hh11 : 11 < s.size := by omega
          have c5 : (s.size : Int) = 12 := by omega
          have hw1 : IntKind.u8.wrap (bt s 11 - 48) = (bt s 11 - 48) % 256 := by simp [IntKind.wrap, IntKind.bits, IntKind.signed]
          have hx0 : 0 ≤ (bt s 11 - 48) % 256 ∧ (bt s 11 - 48) % 256 ≤ 255 := by omega
          generalize hL : (luhnT ⟨(exU (s.extract 0 11).data.toList).toArray⟩ : Int) = L at LU HR
          generalize hX : (bt s 11 - 48) % 256 = X at hw1 hx0 HR
          have hw2 : IntKind.i64.wrap X = X := by rw [i64_w, w64 _ (by omega)]
          have hw3 : wrap64 X = X := w64 _ (by omega)
          have hw4 : IntKind.i64.wrap (IntKind.u8.wrap (((s[11]'(by omega)).toNat : Int) - 48)) = X := by rw [hb11, hw1, hw2]
          clear hL hX
          by_cases hq : X = L
          · rw [if_neg (by simp [hq])] at HR
            subst HR
            have hq2 : (X != L) = false := by simpa using hq
            have hq3 : (IntKind.i64.wrap (IntKind.u8.wrap (((s[11]'(by omega)).toNat : Int) - 48)) != L) = false := by rw [hw4]; exact hq2
            clear hw4 hw1 hw2 hw3 hb11 hq2
            clear hn HA HN hq
            go_wp2
            go_region_held3 (fun w' => True) (trivial) (first | (go_at_call 118; refine (LU _).mono ?_; rintro e w5 ⟨rfl, hq⟩; have HB5 := Aside0.mk (below_step HB.out ⟨hq.os, hq.tape, hq.output, hq.size, hq.block⟩); clear hq))
            all_goals (go_wp2; go_quiet (fail); go_wp2; go_ret2; exact ⟨rfl, pw_below_drewN HB5.out _⟩)
          · rw [if_pos (by simp [hq])] at HR
            subst HR
            have hq2 : (X != L) = true := by simpa using hq
            have hq3 : (IntKind.i64.wrap (IntKind.u8.wrap (((s[11]'(by omega)).toNat : Int) - 48)) != L) = true := by rw [hw4]; exact hq2
            clear hw4 hw1 hw2 hw3 hb11 hq2
            clear hn HA HN hq
            go_wp2
            go_region_held3 (fun w' => True) (trivial) (first | (go_at_call 118; refine (LU _).mono ?_; rintro e w5 ⟨rfl, hq⟩; have HB5 := Aside0.mk (below_step HB.out ⟨hq.os, hq.tape, hq.output, hq.size, hq.block⟩); clear hq))
            all_goals (go_wp2; go_ret2; exact ⟨rfl, HB5.out⟩)
        · rw [if_neg (by simp)] at HR
          subst HR
          clear hn HA HN
          go_wp2
          go_quiet (fail)
          go_wp2
          go_quiet (fail)
          go_wp2
          go_ret2
          exact ⟨rfl, pw_below_drewN HB.out _⟩
theorem giroref05_Check.calls (a0 : Int) (a1 : ByteArray) (r1 r2 : Int) (w : World) (h : giroref05_Check.f a0 a1 = some (r1, r2)) :
    Calls Tryz.prog 104 #[.int .i64 a0, .string a1] w fun e w' => e = .returned (.tuple #[.int .i64 r1, .int .i64 r2]) ∧ Below w.heap.size w w' := by
  unfold giroref05_Check.f at h
  by_cases h0 : a0 = 0
  · subst h0
    rw [if_pos rfl] at h
    have h := Option.some.inj h
    have := ck05_calls 0 12 12 a1 w (.inl ⟨rfl, rfl, rfl⟩)
    rwa [h] at this
  · rw [if_neg h0] at h
    by_cases h1 : a0 = 1
    · subst h1
      rw [if_pos rfl] at h
      have h := Option.some.inj h
      have := ck05_calls 1 4 8 a1 w (.inr ⟨rfl, rfl, rfl⟩)
      rwa [h] at this
    · rw [if_neg h1] at h
      cases h
end Go.Proofs.YtoanlppfdniiaaaGreatDoor.Q
end
