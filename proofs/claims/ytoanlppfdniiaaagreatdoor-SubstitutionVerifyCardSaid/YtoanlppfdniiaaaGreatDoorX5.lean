/- A part of the proof; no condition. -/
import Derived.Test.YtoanlppfdniiaaaGreatDoorX1
section
namespace Go.Proofs.YtoanlppfdniiaaaGreatDoor.Q
set_option linter.unusedVariables false
set_option linter.unusedSimpArgs false
open Go.RowKit Go.Proofs.YtoanlppfdniiaaaGreatDoorW.PrintWords Go.Proofs.YtoanlppfdniiaaaGreatDoorW.PrintLast Go.Proofs.YtoanlppfdniiaaaGreatDoorW.PrintMore
theorem rb_ {a b : Bool} (h : a = b) : Ending.returned (.bool a) = .returned (.bool b) := by rw [h]
def upB (c : Int) : Bool := decide (65 ≤ c) && decide (c ≤ 90)
def dgB (c : Int) : Bool := decide (48 ≤ c) && decide (c ≤ 57)
theorem rlet_calls (c : Int) (w : World) : Calls Tryz.prog 124 #[.int .u8 c] w fun e w' => e = .returned (.bool (upB c)) ∧ w' = w := by
  by_cases h1 : c ≥ 65
  · go_enter Tryz.func124, Tryz.ntmps124
    go_wp2
    go_ret
    exact ⟨rb_ (by simp [upB]; omega), rfl⟩
  · go_enter Tryz.func124, Tryz.ntmps124
    go_wp2
    go_ret
    exact ⟨rb_ (by simp [upB]; omega), rfl⟩
theorem rdig_calls (c : Int) (w : World) : Calls Tryz.prog 125 #[.int .u8 c] w fun e w' => e = .returned (.bool (dgB c)) ∧ w' = w := by
  by_cases h1 : c ≥ 48
  · go_enter Tryz.func125, Tryz.ntmps125
    go_wp2
    go_ret
    exact ⟨rb_ (by simp [dgB]; omega), rfl⟩
  · go_enter Tryz.func125, Tryz.ntmps125
    go_wp2
    go_ret
    exact ⟨rb_ (by simp [dgB]; omega), rfl⟩
def mayB (k i c : Int) : Bool :=
  if k = 0 then (decide (i < 2) && upB c) || (decide (i ≥ 2) && decide (i < 11) && (upB c || dgB c)) || (decide (i = 11) && dgB c)
  else if k = 1 then upB c || (decide (i > 0) && dgB c)
  else if k = 2 then upB c || dgB c || decide (c = 45)
  else dgB c || (decide (i < 18) && upB c)
def giroref05_may.f (a0 a1 a2 : Int) : Option Bool := some (mayB a0 a1 a2)
theorem giroref05_may.calls (a0 : Int) (a1 : Int) (a2 : Int) (r : Bool) (w : World) (h : giroref05_may.f a0 a1 a2 = some r) :
    Calls Tryz.prog 117 #[.int .i64 a0, .int .i64 a1, .int .u8 a2] w fun e w' => e = .returned (.bool r) ∧ Drawn0 w w' := by
  obtain rfl := Option.some.inj h
  have L := rlet_calls a2
  have D := rdig_calls a2
  have HM := Aside0.mk (show mayB a0 a1 a2 = _ from rfl)
  clear h
  generalize hl : upB a2 = l at L
  generalize hd : dgB a2 = d at D
  have HL := Aside0.mk hl
  have HD := Aside0.mk hd
  clear hl hd
  have KEY : ∀ (m : Bool), mayB a0 a1 a2 = m → (Ending.returned (.bool m)) = .returned (.bool (mayB a0 a1 a2)) := fun m h => by rw [h]
  by_cases k0 : a0 = 0
  · subst k0
    have e0 : mayB 0 a1 a2 = ((decide (a1 < 2) && l) || (decide (a1 ≥ 2) && decide (a1 < 11) && (l || d)) || (decide (a1 = 11) && d)) := by rw [mayB, if_pos rfl, HL.out, HD.out]
    by_cases i2 : a1 < 2
    · have E := Aside0.mk (show mayB 0 a1 a2 = l by rw [e0]; have h1 : ¬ a1 ≥ 2 := by omega
                                                    have h2 : ¬ a1 = 11 := by omega
                                                    simp [i2, h1, h2])
      clear e0 KEY
      cases l
      all_goals
        go_enter Tryz.func117, Tryz.ntmps117
        go_wp2_with (first | (go_at_call 124; refine (L _).mono ?_; rintro e w' ⟨rfl, rfl⟩) | (go_at_call 125; refine (D _).mono ?_; rintro e w' ⟨rfl, rfl⟩))
        go_ret
        exact ⟨rb_ (by first | (rw [E.out]; done) | (rw [E.out]; rfl) | (rw [E.out]; simp [i2]; done) | (rw [E.out]; simp; done)), by first | exact Drawn0.refl _ | assumption⟩
    · by_cases i11 : a1 < 11
      · have E := Aside0.mk (show mayB 0 a1 a2 = (l || d) by rw [e0]; have h1 : a1 ≥ 2 := by omega
                                                             have h2 : ¬ a1 = 11 := by omega
                                                             simp [i2, h1, h2, i11])
        clear e0 KEY
        have i2 : decide (a1 < 2) = false := by simpa using i2
        (cases l <;> cases d)
        all_goals
          go_enter Tryz.func117, Tryz.ntmps117
          go_wp2_with (first | (go_at_call 124; refine (L _).mono ?_; rintro e w' ⟨rfl, rfl⟩) | (go_at_call 125; refine (D _).mono ?_; rintro e w' ⟨rfl, rfl⟩))
          go_ret
          exact ⟨rb_ (by first | (rw [E.out]; done) | (rw [E.out]; rfl) | (rw [E.out]; simp [i2]; done) | (rw [E.out]; simp; done)), by first | exact Drawn0.refl _ | assumption⟩
      · by_cases e11 : a1 = 11
        · subst e11
          have E := Aside0.mk (show mayB 0 11 a2 = d by rw [e0]; simp)
          clear e0 KEY
          cases d
          all_goals
            go_enter Tryz.func117, Tryz.ntmps117
            go_wp2_with (first | (go_at_call 124; refine (L _).mono ?_; rintro e w' ⟨rfl, rfl⟩) | (go_at_call 125; refine (D _).mono ?_; rintro e w' ⟨rfl, rfl⟩))
            go_ret
            exact ⟨rb_ (by first | (rw [E.out]; done) | (rw [E.out]; rfl) | (rw [E.out]; simp [i2]; done) | (rw [E.out]; simp; done)), by first | exact Drawn0.refl _ | assumption⟩
        · have E := Aside0.mk (show mayB 0 a1 a2 = false by rw [e0]; simp [i2, i11, e11])
          have q1 : ¬ a1 < 2 := i2
          have q2 : (a1 == 11) = false := by simpa using e11
          have q3 : decide (a1 < 11) = false := by simpa using i11
          clear e0 KEY
          go_enter Tryz.func117, Tryz.ntmps117
          go_wp2_with (first | (go_at_call 124; refine (L _).mono ?_; rintro e w' ⟨rfl, rfl⟩) | (go_at_call 125; refine (D _).mono ?_; rintro e w' ⟨rfl, rfl⟩))
          go_ret
          exact ⟨rb_ (by first | (rw [E.out]; done) | (rw [E.out]; rfl) | (rw [E.out]; simp [i2]; done) | (rw [E.out]; simp; done)), by first | exact Drawn0.refl _ | assumption⟩
  · by_cases k1 : a0 = 1
    · subst k1
      have e0 : mayB 1 a1 a2 = (l || (decide (a1 > 0) && d)) := by rw [mayB, if_neg (by decide), if_pos rfl, HL.out, HD.out]
      have E := Aside0.mk e0
      clear e0 KEY k0
      by_cases i2 : a1 > 0
      all_goals (cases l <;> cases d)
      all_goals
        go_enter Tryz.func117, Tryz.ntmps117
        go_wp2_with (first | (go_at_call 124; refine (L _).mono ?_; rintro e w' ⟨rfl, rfl⟩) | (go_at_call 125; refine (D _).mono ?_; rintro e w' ⟨rfl, rfl⟩))
        go_ret
        exact ⟨rb_ (by first | (rw [E.out]; done) | (rw [E.out]; rfl) | (rw [E.out]; simp [i2]; done) | (rw [E.out]; simp; done)), by first | exact Drawn0.refl _ | assumption⟩
    · by_cases k2 : a0 = 2
      · subst k2
        have e0 : mayB 2 a1 a2 = (l || d || decide (a2 = 45)) := by rw [mayB, if_neg (by decide), if_neg (by decide), if_pos rfl, HL.out, HD.out]
        have E := Aside0.mk e0
        clear e0 KEY k0 k1
        (cases l <;> cases d)
        all_goals
          go_enter Tryz.func117, Tryz.ntmps117
          go_wp2_with (first | (go_at_call 124; refine (L _).mono ?_; rintro e w' ⟨rfl, rfl⟩) | (go_at_call 125; refine (D _).mono ?_; rintro e w' ⟨rfl, rfl⟩))
          go_ret
          exact ⟨rb_ (by first | (rw [E.out]; done) | (rw [E.out]; rfl) | (rw [E.out]; simp [i2]; done) | (rw [E.out]; simp; done)), by first | exact Drawn0.refl _ | assumption⟩
      · have e0 : mayB a0 a1 a2 = (d || (decide (a1 < 18) && l)) := by rw [mayB, if_neg k0, if_neg k1, if_neg k2, HL.out, HD.out]
        have E := Aside0.mk e0
        clear e0 KEY
        by_cases i2 : a1 < 18
        all_goals (cases l <;> cases d)
        all_goals
          go_enter Tryz.func117, Tryz.ntmps117
          go_wp2_with (first | (go_at_call 124; refine (L _).mono ?_; rintro e w' ⟨rfl, rfl⟩) | (go_at_call 125; refine (D _).mono ?_; rintro e w' ⟨rfl, rfl⟩))
          go_ret
          exact ⟨rb_ (by first | (rw [E.out]; done) | (rw [E.out]; rfl) | (rw [E.out]; simp [i2]; done) | (rw [E.out]; simp; done)), by first | exact Drawn0.refl _ | assumption⟩
end Go.Proofs.YtoanlppfdniiaaaGreatDoor.Q
end
