/- Proved here: what Go functions of this seat compute, or a law of it; no condition beyond the statement's own. Written for this claim by a program of this session (wip/myprint.py) over the kit's print.py. -/
import Derived.Test.YtpgmpdanplmpfaaPx0
namespace Go.Proofs.Ytpgmpdanplmpfaa.P
open Go.RowKit Go.Proofs.YtpgmpdanplmpfaaW.PrintWords Go.Proofs.YtpgmpdanplmpfaaW.PrintLast Go.Proofs.YtpgmpdanplmpfaaW.PrintMore
attribute [local go_sem] max2_int min2_int max_two min_two max_three min_three max_four min_four   -- for this text's walks alone
set_option linter.unusedVariables false
set_option linter.unusedSimpArgs false

/-! ### juratref11_lengths: function 33 -/
def juratref11_lengths.j0 : Nat → Int → Int → Int → Int → Bool → Option (Int)
  | 0, _, _, _, _, _ => none
  | k + 1, x0, x1, x3, x4, x20 => if x20 = true then (some 7) else (if x1 = 0 then (some 9) else (if x1 > (wrap64 (65535 - x0)) then (some 5) else (if (wrap64 (x0 + x1)) > (wrap64 (16777216 - x3)) then (some 13) else (if x1 > x4 then (some 4) else (some 0)))))
def juratref11_lengths.f (k : Nat) (a0 : Int) (a1 : Int) (a2 : ByteArray) (a3 : Int) (a4 : Int) : Option (Int) := if a0 > (a2.size : Int) then (some 3) else (if a1 = 0 then (juratref11_lengths.j0 k a0 a1 a3 a4 (a0 == 0)) else (juratref11_lengths.j0 k a0 a1 a3 a4 false))
theorem juratref11_lengths.mono_l : ∀ k, (∀ y0 y1 y2 y3 y4, LeO (juratref11_lengths.j0 k y0 y1 y2 y3 y4) (juratref11_lengths.j0 (k + 1) y0 y1 y2 y3 y4))
  | 0 => fun _ _ _ _ _ r h => by simp [juratref11_lengths.j0] at h
  | k + 1 => by
    have ih0 := juratref11_lengths.mono_l k
    · intro y0 y1 y2 y3 y4
      unfold juratref11_lengths.j0
      repeat' first
      | (with_reducible exact ih0 _ _ _ _ _)
      | (with_reducible exact LeO.refl _)
      | (with_reducible exact LeO.none _)
      | (with_reducible refine LeO.ite ?_ ?_)
      | (with_reducible refine LeO.bind ?_ (fun _ => ?_))
      | exact ih0 _ _ _ _ _
      | exact LeO.none _
      | refine LeO.ite ?_ ?_
      | refine LeO.bind ?_ (fun _ => ?_)
theorem juratref11_lengths.mono : ∀ a0 a1 a2 a3 a4 k, LeO (juratref11_lengths.f k a0 a1 a2 a3 a4) (juratref11_lengths.f (k + 1) a0 a1 a2 a3 a4) := by
  intro a0 a1 a2 a3 a4 k
  have ih0 := juratref11_lengths.mono_l k
  unfold juratref11_lengths.f
  repeat' first
      | (with_reducible exact ih0 _ _ _ _ _)
      | (with_reducible exact LeO.refl _)
      | (with_reducible exact LeO.none _)
      | (with_reducible refine LeO.ite ?_ ?_)
      | (with_reducible refine LeO.bind ?_ (fun _ => ?_))
      | exact ih0 _ _ _ _ _
      | exact LeO.none _
      | refine LeO.ite ?_ ?_
      | refine LeO.bind ?_ (fun _ => ?_)
set_option maxHeartbeats 8000000 in
set_option maxRecDepth 100000 in
theorem juratref11_lengths.calls (k : Nat) (a0 : Int) (a1 : Int) (a2 : ByteArray) (a3 : Int) (a4 : Int) (r : Int) (w : World) (h : juratref11_lengths.f k a0 a1 a2 a3 a4 = some r) :
    Calls Try.prog 33 #[.int .i64 a0, .int .i64 a1, .string a2, .int .i64 a3, .int .i64 a4] w fun e w' => e = .returned (.int .i64 r) ∧ Drawn0 w w' := by
  have H : (if a0 > (a2.size : Int) then (some 3) else (if a1 = 0 then (juratref11_lengths.j0 k a0 a1 a3 a4 (a0 == 0)) else (juratref11_lengths.j0 k a0 a1 a3 a4 false))) = some r := h
  clear h
  by_cases c6 : a0 > (a2.size : Int)
  · rw [if_pos c6] at H
    have c6b0 : decide ((a2.size : Int) < a0) = true := decide_eq_true c6
    clear c6
    obtain rfl := Option.some.inj H
    go_enter Try.func33, Try.ntmps33
    go_wp2
    go_ret
    exact ⟨by first | rfl | (simp; done) | (simp [*]; done), by repeat (first | exact Drawn0.refl _ | apply Drawn0.step)⟩
  · rw [if_neg c6] at H
    have c6b0 : decide ((a2.size : Int) < a0) = false := decide_eq_false c6
    clear c6
    have HC7 := Aside0.mk H
    clear H
    go_enter Try.func33, Try.ntmps33
    go_upto_region 3 with (fail)
    go_cut [20] (fun v20 wc => ∃ (kq : Nat) (x20_6 : Bool), v20 = .bool x20_6 ∧ Aside0 (juratref11_lengths.j0 kq a0 a1 a3 a4 x20_6 = some r) ∧ Aside0 (kq ≤ k) ∧ Drawn0 w wc)
    case first =>
      have H := HC7.out
      clear HC7
      by_cases c8 : a1 = 0
      · rw [if_pos c8] at H
        have c8b0 : (a1 == 0) = true := beq_iff_eq.mpr c8
        have c8b1 : (a1 != 0) = false := bne_eq_false_iff_eq.mpr c8
        clear c8
        (first | rw [c8b0] | rw [c8b1] | (simp only [i64_w, i32_w]; rw [c8b0]) | skip)
        have H' := Aside0.mk H
        clear H
        go_wp2
        go_meet
        case rel => exact ⟨_, ((a0 == 0)), (by first | rfl | exact isE_ _ | exact isE2_ _ | (simp; done) | (simp [*]; done)), H', ⟨by first | omega | exact Nat.le_refl _⟩, by repeat (first | exact Drawn0.refl _ | apply Drawn0.step)⟩
      · rw [if_neg c8] at H
        have c8b0 : (a1 == 0) = false := beq_eq_false_iff_ne.mpr c8
        have c8b1 : (a1 != 0) = true := bne_iff_ne.mpr c8
        (first | rw [c8b0] | rw [c8b1] | (simp only [i64_w, i32_w]; rw [c8b0]) | skip)
        have H' := Aside0.mk H
        clear H
        go_wp2
        go_meet
        case rel => exact ⟨_, (false), (by first | rfl | exact isE_ _ | exact isE2_ _ | (simp; done) | (simp [*]; done)), H', ⟨by first | omega | exact Nat.le_refl _⟩, by repeat (first | exact Drawn0.refl _ | apply Drawn0.step)⟩
    case rest =>
      clear HC7
      try clear p2
      try clear c3
      try clear c6
      try clear c6b0
      try clear c8
      try clear c8b0
      try clear c8b1
      obtain ⟨kq, x20_6, rfl, HA, HJ6, ⟨mc6, rfl⟩⟩ := hcut
      cases kq with
      | zero => exact absurd HA.out (by simp [juratref11_lengths.j0])
      | succ kj6 =>
        have H := HA.out
        clear HA
        simp only [juratref11_lengths.j0] at H
        by_cases c9 : x20_6 = true
        · subst c9
          have H1 : (some 7) = some r := by rw [if_pos rfl] at H; exact H
          clear H
          have H := H1
          clear H1
          obtain rfl := Option.some.inj H
          go_wp2
          go_ret
          exact ⟨by first | rfl | (simp; done) | (simp [*]; done), by repeat (first | exact Drawn0.refl _ | apply Drawn0.step)⟩
        · replace c9 := Bool.eq_false_iff.mpr c9
          subst c9
          have H1 : (if a1 = 0 then (some 9) else (if a1 > (wrap64 (65535 - a0)) then (some 5) else (if (wrap64 (a0 + a1)) > (wrap64 (16777216 - a3)) then (some 13) else (if a1 > a4 then (some 4) else (some 0))))) = some r := by rw [if_neg (show ¬ (false = true) by decide)] at H; exact H
          clear H
          have H := H1
          clear H1
          by_cases c10 : a1 = 0
          · rw [if_pos c10] at H
            have c10b0 : (a1 == 0) = true := beq_iff_eq.mpr c10
            have c10b1 : (a1 != 0) = false := bne_eq_false_iff_eq.mpr c10
            clear c10
            obtain rfl := Option.some.inj H
            go_wp2
            go_ret
            exact ⟨by first | rfl | (simp; done) | (simp [*]; done), by repeat (first | exact Drawn0.refl _ | apply Drawn0.step)⟩
          · rw [if_neg c10] at H
            have c10b0 : (a1 == 0) = false := beq_eq_false_iff_ne.mpr c10
            have c10b1 : (a1 != 0) = true := bne_iff_ne.mpr c10
            by_cases c11 : a1 > (wrap64 (65535 - a0))
            · rw [if_pos c11] at H
              have c11b0 : decide ((wrap64 (65535 - a0)) < a1) = true := decide_eq_true c11
              clear c11
              obtain rfl := Option.some.inj H
              go_wp2
              go_ret
              exact ⟨by first | rfl | (simp; done) | (simp [*]; done), by repeat (first | exact Drawn0.refl _ | apply Drawn0.step)⟩
            · rw [if_neg c11] at H
              have c11b0 : decide ((wrap64 (65535 - a0)) < a1) = false := decide_eq_false c11
              clear c11
              by_cases c12 : (wrap64 (a0 + a1)) > (wrap64 (16777216 - a3))
              · rw [if_pos c12] at H
                have c12b0 : decide ((wrap64 (16777216 - a3)) < (wrap64 (a0 + a1))) = true := decide_eq_true c12
                clear c12
                obtain rfl := Option.some.inj H
                go_wp2
                go_ret
                exact ⟨by first | rfl | (simp; done) | (simp [*]; done), by repeat (first | exact Drawn0.refl _ | apply Drawn0.step)⟩
              · rw [if_neg c12] at H
                have c12b0 : decide ((wrap64 (16777216 - a3)) < (wrap64 (a0 + a1))) = false := decide_eq_false c12
                clear c12
                by_cases c13 : a1 > a4
                · rw [if_pos c13] at H
                  have c13b0 : decide (a4 < a1) = true := decide_eq_true c13
                  clear c13
                  obtain rfl := Option.some.inj H
                  go_wp2
                  go_ret
                  exact ⟨by first | rfl | (simp; done) | (simp [*]; done), by repeat (first | exact Drawn0.refl _ | apply Drawn0.step)⟩
                · rw [if_neg c13] at H
                  have c13b0 : decide (a4 < a1) = false := decide_eq_false c13
                  clear c13
                  obtain rfl := Option.some.inj H
                  go_wp2
                  go_ret
                  exact ⟨by first | rfl | (simp; done) | (simp [*]; done), by repeat (first | exact Drawn0.refl _ | apply Drawn0.step)⟩

end Go.Proofs.Ytpgmpdanplmpfaa.P
