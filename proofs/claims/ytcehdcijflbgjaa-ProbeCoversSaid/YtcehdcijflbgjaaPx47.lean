/- Proved here: what Go functions of this seat compute, or a law of it; no condition beyond the statement's own. Written for this claim by a program of this session (wip/myprint.py) over the kit's print.py. -/
import Derived.Test.YtcehdcijflbgjaaPx0
import Derived.Test.YtcehdcijflbgjaaPx57
namespace Go.Proofs.Ytcehdcijflbgjaa.P
open Go.RowKit Go.Proofs.YtcehdcijflbgjaaW.PrintWords Go.Proofs.YtcehdcijflbgjaaW.PrintLast Go.Proofs.YtcehdcijflbgjaaW.PrintMore
attribute [local go_sem] max2_int min2_int max_two min_two max_three min_three max_four min_four   -- for this text's walks alone
set_option linter.unusedVariables false
set_option linter.unusedSimpArgs false

/-! ### affix_Compare: function 47 -/
def affix_Compare.j0 : Nat → ByteArray → ByteArray → Int → Bool → Option (Int)
  | 0, _, _, _, _ => none
  | k + 1, x0, x1, x5, x9 => if x9 = true then (some 0) else (if x5 = (x0.size : Int) then (some (-1)) else (if x5 < (x1.size : Int) then (if 0 ≤ x5 then (if x5 < (x0.size : Int) then (if (bt x0 x5) < (bt x1 x5) then (some (-1)) else (some 1)) else (none)) else (none)) else (some 1)))
def affix_Compare.f (k : Nat) (a0 : ByteArray) (a1 : ByteArray) : Option (Int) := (affix_Prefix.f k a0 a1).bind fun t102 => (if t102 = (a0.size : Int) then (affix_Compare.j0 k a0 a1 t102 (t102 == (a1.size : Int))) else (affix_Compare.j0 k a0 a1 t102 false))
theorem affix_Compare.mono_l : ∀ k, (∀ y0 y1 y2 y3, LeO (affix_Compare.j0 k y0 y1 y2 y3) (affix_Compare.j0 (k + 1) y0 y1 y2 y3))
  | 0 => fun _ _ _ _ r h => by simp [affix_Compare.j0] at h
  | k + 1 => by
    have ih0 := affix_Compare.mono_l k
    · intro y0 y1 y2 y3
      unfold affix_Compare.j0
      repeat' first
      | (with_reducible exact ih0 _ _ _ _)
      | (with_reducible exact affix_Prefix.mono _ _ _)
      | (with_reducible exact LeO.refl _)
      | (with_reducible exact LeO.none _)
      | (with_reducible refine LeO.ite ?_ ?_)
      | (with_reducible refine LeO.bind ?_ (fun _ => ?_))
      | exact ih0 _ _ _ _
      | exact affix_Prefix.mono _ _ _
      | exact LeO.none _
      | refine LeO.ite ?_ ?_
      | refine LeO.bind ?_ (fun _ => ?_)
theorem affix_Compare.mono : ∀ a0 a1 k, LeO (affix_Compare.f k a0 a1) (affix_Compare.f (k + 1) a0 a1) := by
  intro a0 a1 k
  have ih0 := affix_Compare.mono_l k
  unfold affix_Compare.f
  repeat' first
      | (with_reducible exact ih0 _ _ _ _)
      | (with_reducible exact affix_Prefix.mono _ _ _)
      | (with_reducible exact LeO.refl _)
      | (with_reducible exact LeO.none _)
      | (with_reducible refine LeO.ite ?_ ?_)
      | (with_reducible refine LeO.bind ?_ (fun _ => ?_))
      | exact ih0 _ _ _ _
      | exact affix_Prefix.mono _ _ _
      | exact LeO.none _
      | refine LeO.ite ?_ ?_
      | refine LeO.bind ?_ (fun _ => ?_)
set_option maxHeartbeats 8000000 in
set_option maxRecDepth 100000 in
theorem affix_Compare.calls (k : Nat) (a0 : ByteArray) (a1 : ByteArray) (r : Int) (w : World) (h : affix_Compare.f k a0 a1 = some r) :
    Calls Try.prog 47 #[.string a0, .string a1] w fun e w' => e = .returned (.int .i64 r) ∧ Drawn0 w w' := by
  have H : ((affix_Prefix.f k a0 a1).bind fun t102 => (if t102 = (a0.size : Int) then (affix_Compare.j0 k a0 a1 t102 (t102 == (a1.size : Int))) else (affix_Compare.j0 k a0 a1 t102 false))) = some r := h
  clear h
  replace H := Option.bind_eq_some_iff.mp H
  obtain ⟨t102, A30, H⟩ := H
  replace H : (if t102 = (a0.size : Int) then (affix_Compare.j0 k a0 a1 t102 (t102 == (a1.size : Int))) else (affix_Compare.j0 k a0 a1 t102 false)) = some r := H
  have A3 := Aside0.mk A30
  clear A30
  have HC4 := Aside0.mk H
  clear H
  go_enter Try.func47, Try.ntmps47
  go_upto_region 2 with (first | (go_at_call 57; (with_reducible refine (affix_Prefix.calls k a0 a1 t102 _ A3.out).mono ?_); rintro e w' ⟨rfl, ⟨nd, rfl⟩⟩; (try first | exact ⟨rfl, _, World.drewN_drewN _ _ _⟩ | exact ⟨rfl, _, Eq.trans (World.drewN_drewN _ _ _) (congrArg (World.drewN _) (Nat.add_assoc _ _ _))⟩)))
  repeat (go_quiet (first | (go_at_call 57; (with_reducible refine (affix_Prefix.calls k a0 a1 t102 _ A3.out).mono ?_); rintro e w' ⟨rfl, ⟨nd, rfl⟩⟩; (try first | exact ⟨rfl, _, World.drewN_drewN _ _ _⟩ | exact ⟨rfl, _, Eq.trans (World.drewN_drewN _ _ _) (congrArg (World.drewN _) (Nat.add_assoc _ _ _))⟩))); go_upto_region 2 with (first | (go_at_call 57; (with_reducible refine (affix_Prefix.calls k a0 a1 t102 _ A3.out).mono ?_); rintro e w' ⟨rfl, ⟨nd, rfl⟩⟩; (try first | exact ⟨rfl, _, World.drewN_drewN _ _ _⟩ | exact ⟨rfl, _, Eq.trans (World.drewN_drewN _ _ _) (congrArg (World.drewN _) (Nat.add_assoc _ _ _))⟩))))
  (try simp only [Act.put, List.setIfInBounds_toArray, List.set_cons_zero, List.set_cons_succ])
  go_cut [9] (fun v9 wc => ∃ (kq : Nat) (x9_3 : Bool), v9 = .bool x9_3 ∧ Aside0 (affix_Compare.j0 kq a0 a1 t102 x9_3 = some r) ∧ Aside0 (kq ≤ k) ∧ Drawn0 w wc)
  case first =>
    have H := HC4.out
    clear HC4
    by_cases c5 : t102 = (a0.size : Int)
    · rw [if_pos c5] at H
      have c5b0 : (t102 == (a0.size : Int)) = true := beq_iff_eq.mpr c5
      have c5b1 : (t102 != (a0.size : Int)) = false := bne_eq_false_iff_eq.mpr c5
      clear c5
      (first | rw [c5b0] | rw [c5b1] | (simp only [i64_w, i32_w]; rw [c5b0]) | skip)
      have H' := Aside0.mk H
      clear H
      go_wp2
      repeat (go_quiet (fail); try go_wp2)
      go_meet
      case rel => exact ⟨_, ((t102 == (a1.size : Int))), (by first | rfl | exact isE_ _ | exact isE2_ _ | (simp; done) | (simp [*]; done)), H', ⟨by first | omega | exact Nat.le_refl _⟩, by repeat (first | exact Drawn0.refl _ | apply Drawn0.step)⟩
    · rw [if_neg c5] at H
      have c5b0 : (t102 == (a0.size : Int)) = false := beq_eq_false_iff_ne.mpr c5
      have c5b1 : (t102 != (a0.size : Int)) = true := bne_iff_ne.mpr c5
      (first | rw [c5b0] | rw [c5b1] | (simp only [i64_w, i32_w]; rw [c5b0]) | skip)
      have H' := Aside0.mk H
      clear H
      go_wp2
      repeat (go_quiet (fail); try go_wp2)
      go_meet
      case rel => exact ⟨_, (false), (by first | rfl | exact isE_ _ | exact isE2_ _ | (simp; done) | (simp [*]; done)), H', ⟨by first | omega | exact Nat.le_refl _⟩, by repeat (first | exact Drawn0.refl _ | apply Drawn0.step)⟩
  case rest =>
    clear HC4
    try clear p2
    try clear c4
    try clear c5
    try clear c5b0
    try clear c5b1
    obtain ⟨kq, x9_3, rfl, HA, HJ3, ⟨mc3, rfl⟩⟩ := hcut
    cases kq with
    | zero => exact absurd HA.out (by simp [affix_Compare.j0])
    | succ kj3 =>
      have H := HA.out
      clear HA
      simp only [affix_Compare.j0] at H
      by_cases c6 : x9_3 = true
      · subst c6
        have H1 : (some 0) = some r := by rw [if_pos rfl] at H; exact H
        clear H
        have H := H1
        clear H1
        obtain rfl := Option.some.inj H
        go_wp2
        repeat (go_quiet (fail); try go_wp2)
        go_ret
        exact ⟨by first | rfl | (simp; done) | (simp [*]; done), by repeat (first | exact Drawn0.refl _ | apply Drawn0.step)⟩
      · replace c6 := Bool.eq_false_iff.mpr c6
        subst c6
        have H1 : (if t102 = (a0.size : Int) then (some (-1)) else (if t102 < (a1.size : Int) then (if 0 ≤ t102 then (if t102 < (a0.size : Int) then (if (bt a0 t102) < (bt a1 t102) then (some (-1)) else (some 1)) else (none)) else (none)) else (some 1))) = some r := by rw [if_neg (show ¬ (false = true) by decide)] at H; exact H
        clear H
        have H := H1
        clear H1
        by_cases c7 : t102 = (a0.size : Int)
        · rw [if_pos c7] at H
          have c7b0 : (t102 == (a0.size : Int)) = true := beq_iff_eq.mpr c7
          have c7b1 : (t102 != (a0.size : Int)) = false := bne_eq_false_iff_eq.mpr c7
          clear c7
          obtain rfl := Option.some.inj H
          go_wp2
          repeat (go_quiet (fail); try go_wp2)
          go_ret
          exact ⟨by first | rfl | (simp; done) | (simp [*]; done), by repeat (first | exact Drawn0.refl _ | apply Drawn0.step)⟩
        · rw [if_neg c7] at H
          have c7b0 : (t102 == (a0.size : Int)) = false := beq_eq_false_iff_ne.mpr c7
          have c7b1 : (t102 != (a0.size : Int)) = true := bne_iff_ne.mpr c7
          by_cases c8 : t102 < (a1.size : Int)
          · rw [if_pos c8] at H
            have c8b0 : decide (t102 < (a1.size : Int)) = true := decide_eq_true c8
            clear c8
            by_cases c9 : 0 ≤ t102
            · rw [if_pos c9] at H
              have c9b0 : decide (0 ≤ t102) = true := decide_eq_true c9
              clear c9
              by_cases c10 : t102 < (a0.size : Int)
              · rw [if_pos c10] at H
                have c10b0 : decide (t102 < (a0.size : Int)) = true := decide_eq_true c10
                clear c10
                by_cases c13 : (bt a0 t102) < (bt a1 t102)
                · rw [if_pos c13] at H
                  have c13b0 : decide ((bt a0 t102) < (bt a1 t102)) = true := decide_eq_true c13
                  clear c13
                  obtain rfl := Option.some.inj H
                  have p11 : 0 ≤ (t102 : Int) := of_decide_eq_true (by first | (with_reducible assumption) | assumption)
                  have q11 : t102 < (a0.size : Int) := of_decide_eq_true (by first | (with_reducible assumption) | assumption)
                  have hx11 := bt_at a0 t102
                  replace p11 := eq_true p11
                  replace q11 := eq_true q11
                  have p12 : 0 ≤ (t102 : Int) := of_decide_eq_true (by first | (with_reducible assumption) | assumption)
                  have q12 : t102 < (a1.size : Int) := of_decide_eq_true (by first | (with_reducible assumption) | assumption)
                  have hx12 := bt_at a1 t102
                  replace p12 := eq_true p12
                  replace q12 := eq_true q12
                  go_wp2
                  repeat (go_quiet (fail); try go_wp2)
                  go_ret
                  exact ⟨by first | rfl | (simp; done) | (simp [*]; done), by repeat (first | exact Drawn0.refl _ | apply Drawn0.step)⟩
                · rw [if_neg c13] at H
                  have c13b0 : decide ((bt a0 t102) < (bt a1 t102)) = false := decide_eq_false c13
                  clear c13
                  obtain rfl := Option.some.inj H
                  have p11 : 0 ≤ (t102 : Int) := of_decide_eq_true (by first | (with_reducible assumption) | assumption)
                  have q11 : t102 < (a0.size : Int) := of_decide_eq_true (by first | (with_reducible assumption) | assumption)
                  have hx11 := bt_at a0 t102
                  replace p11 := eq_true p11
                  replace q11 := eq_true q11
                  have p12 : 0 ≤ (t102 : Int) := of_decide_eq_true (by first | (with_reducible assumption) | assumption)
                  have q12 : t102 < (a1.size : Int) := of_decide_eq_true (by first | (with_reducible assumption) | assumption)
                  have hx12 := bt_at a1 t102
                  replace p12 := eq_true p12
                  replace q12 := eq_true q12
                  go_wp2
                  repeat (go_quiet (fail); try go_wp2)
                  go_ret
                  exact ⟨by first | rfl | (simp; done) | (simp [*]; done), by repeat (first | exact Drawn0.refl _ | apply Drawn0.step)⟩
              · rw [if_neg c10] at H
                exact absurd H (by simp)
            · rw [if_neg c9] at H
              exact absurd H (by simp)
          · rw [if_neg c8] at H
            have c8b0 : decide (t102 < (a1.size : Int)) = false := decide_eq_false c8
            clear c8
            obtain rfl := Option.some.inj H
            go_wp2
            repeat (go_quiet (fail); try go_wp2)
            go_ret
            exact ⟨by first | rfl | (simp; done) | (simp [*]; done), by repeat (first | exact Drawn0.refl _ | apply Drawn0.step)⟩

end Go.Proofs.Ytcehdcijflbgjaa.P
