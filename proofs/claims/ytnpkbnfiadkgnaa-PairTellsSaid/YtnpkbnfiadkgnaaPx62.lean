/- Proved here: what Go functions of this seat compute, or a law of it; no condition beyond the statement's own. Written for this claim by a program of this session (wip/myprint.py) over the kit's print.py. -/
import Derived.Test.YtnpkbnfiadkgnaaPx0
namespace Go.Proofs.Ytnpkbnfiadkgnaa.P
open Go.RowKit Go.Proofs.YtnpkbnfiadkgnaaW.PrintWords Go.Proofs.YtnpkbnfiadkgnaaW.PrintLast Go.Proofs.YtnpkbnfiadkgnaaW.PrintMore
attribute [local go_sem] max2_int min2_int max_two min_two max_three min_three max_four min_four   -- for this text's walks alone
set_option linter.unusedVariables false
set_option linter.unusedSimpArgs false

/-! ### juratref14_Has: function 62 -/
def juratref14_Has.l0 : Nat → List ByteArray → Int → Int → Int → Int → Option (Bool)
  | 0, _, _, _, _, _ => none
  | k + 1, x0, x1, x2, x3, x9 => if x9 < (x0.length : Int) then (if 0 ≤ x9 then (if (wrap64 (x3 + 1)) < ((rdOf ByteArray.empty x0 x9).size : Int) then (if 0 ≤ (wrap64 ((wrap64 (((rdOf ByteArray.empty x0 x9).size : Int) - 1)) - x3)) then (if (wrap64 ((wrap64 (((rdOf ByteArray.empty x0 x9).size : Int) - 1)) - x3)) < ((rdOf ByteArray.empty x0 x9).size : Int) then (if (bt (rdOf ByteArray.empty x0 x9) (wrap64 ((wrap64 (((rdOf ByteArray.empty x0 x9).size : Int) - 1)) - x3))) = x2 then (if 0 ≤ (wrap64 ((wrap64 (((rdOf ByteArray.empty x0 x9).size : Int) - 2)) - x3)) then (if (wrap64 ((wrap64 (((rdOf ByteArray.empty x0 x9).size : Int) - 2)) - x3)) < ((rdOf ByteArray.empty x0 x9).size : Int) then (if (bt (rdOf ByteArray.empty x0 x9) (wrap64 ((wrap64 (((rdOf ByteArray.empty x0 x9).size : Int) - 2)) - x3))) = x1 then (some true) else (juratref14_Has.l0 k x0 x1 x2 x3 (wrap64 (x9 + 1)))) else (none)) else (none)) else (juratref14_Has.l0 k x0 x1 x2 x3 (wrap64 (x9 + 1)))) else (none)) else (none)) else (juratref14_Has.l0 k x0 x1 x2 x3 (wrap64 (x9 + 1)))) else (none)) else (some false)
def juratref14_Has.f (k : Nat) (l0 : List ByteArray) (a1 : Int) (a2 : Int) (a3 : Int) : Option (Bool) := juratref14_Has.l0 k l0 a1 a2 a3 0
theorem juratref14_Has.mono_l : ∀ k, (∀ y0 y1 y2 y3 y4, LeO (juratref14_Has.l0 k y0 y1 y2 y3 y4) (juratref14_Has.l0 (k + 1) y0 y1 y2 y3 y4))
  | 0 => fun _ _ _ _ _ r h => by simp [juratref14_Has.l0] at h
  | k + 1 => by
    have ih0 := juratref14_Has.mono_l k
    · intro y0 y1 y2 y3 y4
      unfold juratref14_Has.l0
      repeat' first
      | (with_reducible exact ih0 _ _ _ _ _)
      | (with_reducible exact LeO.refl _)
      | (with_reducible exact LeO.none _)
      | (with_reducible refine LeO.ite ?_ ?_)
      | (with_reducible refine LeO.bind ?_ (fun _ => ?_))
      | exact ih0 _ _ _ _ _
      | exact LeO.none _
      | refine LeO.ite ?_ ?_
      | refine LeO.bind ?_ (fun _ => ?_)
theorem juratref14_Has.mono : ∀ a0 a1 a2 a3 k, LeO (juratref14_Has.f k a0 a1 a2 a3) (juratref14_Has.f (k + 1) a0 a1 a2 a3) := by
  intro a0 a1 a2 a3 k
  have ih0 := juratref14_Has.mono_l k
  unfold juratref14_Has.f
  repeat' first
      | (with_reducible exact ih0 _ _ _ _ _)
      | (with_reducible exact LeO.refl _)
      | (with_reducible exact LeO.none _)
      | (with_reducible refine LeO.ite ?_ ?_)
      | (with_reducible refine LeO.bind ?_ (fun _ => ?_))
      | exact ih0 _ _ _ _ _
      | exact LeO.none _
      | refine LeO.ite ?_ ?_
      | refine LeO.bind ?_ (fun _ => ?_)
set_option maxHeartbeats 8000000 in
set_option maxRecDepth 100000 in
theorem juratref14_Has.calls (k : Nat) (A0 : Option Addr) (c0 : Nat) (l0 : List ByteArray) (a1 : Int) (a2 : Int) (a3 : Int) (r : Bool) (w : World) (hr0 : Kd.C Kd.string w A0 l0.length l0) (hc0 : l0.length ≤ c0) (h : juratref14_Has.f k l0 a1 a2 a3 = some r) :
    Calls Try.prog 62 #[.slice A0 l0.length c0, .int .u8 a1, .int .u8 a2, .int .i64 a3] w fun e w' => e = .returned (.bool r) ∧ Drawn0 w w' := by
  have HR0 := Aside0.mk hr0
  have HC0 := Aside0.mk hc0
  clear hr0 hc0
  have H : (juratref14_Has.l0 k l0 a1 a2 a3 0) = some r := h
  clear h
  have H' := Aside0.mk H
  clear H
  go_enter Try.func62, Try.ntmps62
  go_wp2
  go_loopg [9] k (fun kq v9 w' => ∃ (x9_1 : Int), v9 = .int .i64 x9_1 ∧ Aside0 (juratref14_Has.l0 kq l0 a1 a2 a3 x9_1 = some r) ∧ Aside0 (kq ≤ k) ∧ Drawn0 w w')
  case atStart => exact ⟨(0), (by first | rfl | exact isE_ _ | exact isE2_ _ | (simp; done) | (simp [*]; done)), H', ⟨Nat.le_refl _⟩, by repeat (first | exact Drawn0.refl _ | apply Drawn0.step)⟩
  case round =>
    clear H'
    try clear p2
    obtain ⟨x9_1, rfl, HA, HK1, ⟨m1, rfl⟩⟩ := hrel
    cases gk with
    | zero => exact absurd HA.out (by simp [juratref14_Has.l0])
    | succ k1 =>
      have H := HA.out
      clear HA
      simp only [juratref14_Has.l0] at H
      by_cases c5 : x9_1 < (l0.length : Int)
      · rw [if_pos c5] at H
        have c5b0 : decide (x9_1 < (l0.length : Int)) = true := decide_eq_true c5
        clear c5
        by_cases c6 : 0 ≤ x9_1
        · rw [if_pos c6] at H
          have c6b0 : decide (0 ≤ x9_1) = true := decide_eq_true c6
          clear c6
          by_cases c7 : (wrap64 (a3 + 1)) < ((rdOf ByteArray.empty l0 x9_1).size : Int)
          · rw [if_pos c7] at H
            have c7b0 : decide ((wrap64 (a3 + 1)) < ((rdOf ByteArray.empty l0 x9_1).size : Int)) = true := decide_eq_true c7
            clear c7
            obtain ⟨ji8, hji8⟩ : ∃ j_ : Int, (wrap64 ((wrap64 (((rdOf ByteArray.empty l0 x9_1).size : Int) - 1)) - a3)) = j_ := ⟨_, rfl⟩
            replace H : (if 0 ≤ (ji8) then (if (ji8) < ((rdOf ByteArray.empty l0 x9_1).size : Int) then (if (bt (rdOf ByteArray.empty l0 x9_1) (ji8)) = a2 then (if 0 ≤ (wrap64 ((wrap64 (((rdOf ByteArray.empty l0 x9_1).size : Int) - 2)) - a3)) then (if (wrap64 ((wrap64 (((rdOf ByteArray.empty l0 x9_1).size : Int) - 2)) - a3)) < ((rdOf ByteArray.empty l0 x9_1).size : Int) then (if (bt (rdOf ByteArray.empty l0 x9_1) (wrap64 ((wrap64 (((rdOf ByteArray.empty l0 x9_1).size : Int) - 2)) - a3))) = a1 then (some true) else (juratref14_Has.l0 k1 l0 a1 a2 a3 (wrap64 (x9_1 + 1)))) else (none)) else (none)) else (juratref14_Has.l0 k1 l0 a1 a2 a3 (wrap64 (x9_1 + 1)))) else (none)) else (none)) = some r := by first | (rw [hji8] at H; exact H) | (simp only [hji8] at H ⊢; exact H)
            have hji8w : (IntKind.i64.wrap ((wrap64 (((rdOf ByteArray.empty l0 x9_1).size : Int) - 1)) - a3)) = ji8 := (i64_w _).trans hji8
            by_cases c9 : 0 ≤ (ji8)
            · rw [if_pos c9] at H
              have c9b0 : decide (0 ≤ (ji8)) = true := decide_eq_true c9
              clear c9
              by_cases c10 : (ji8) < ((rdOf ByteArray.empty l0 x9_1).size : Int)
              · rw [if_pos c10] at H
                have c10b0 : decide ((ji8) < ((rdOf ByteArray.empty l0 x9_1).size : Int)) = true := decide_eq_true c10
                clear c10
                by_cases c12 : (bt (rdOf ByteArray.empty l0 x9_1) (ji8)) = a2
                · rw [if_pos c12] at H
                  have c12b0 : ((bt (rdOf ByteArray.empty l0 x9_1) (ji8)) == a2) = true := beq_iff_eq.mpr c12
                  have c12b1 : ((bt (rdOf ByteArray.empty l0 x9_1) (ji8)) != a2) = false := bne_eq_false_iff_eq.mpr c12
                  clear c12
                  obtain ⟨ji13, hji13⟩ : ∃ j_ : Int, (wrap64 ((wrap64 (((rdOf ByteArray.empty l0 x9_1).size : Int) - 2)) - a3)) = j_ := ⟨_, rfl⟩
                  replace H : (if 0 ≤ (ji13) then (if (ji13) < ((rdOf ByteArray.empty l0 x9_1).size : Int) then (if (bt (rdOf ByteArray.empty l0 x9_1) (ji13)) = a1 then (some true) else (juratref14_Has.l0 k1 l0 a1 a2 a3 (wrap64 (x9_1 + 1)))) else (none)) else (none)) = some r := by first | (rw [hji13] at H; exact H) | (simp only [hji13] at H ⊢; exact H)
                  have hji13w : (IntKind.i64.wrap ((wrap64 (((rdOf ByteArray.empty l0 x9_1).size : Int) - 2)) - a3)) = ji13 := (i64_w _).trans hji13
                  by_cases c14 : 0 ≤ (ji13)
                  · rw [if_pos c14] at H
                    have c14b0 : decide (0 ≤ (ji13)) = true := decide_eq_true c14
                    clear c14
                    by_cases c15 : (ji13) < ((rdOf ByteArray.empty l0 x9_1).size : Int)
                    · rw [if_pos c15] at H
                      have c15b0 : decide ((ji13) < ((rdOf ByteArray.empty l0 x9_1).size : Int)) = true := decide_eq_true c15
                      clear c15
                      by_cases c17 : (bt (rdOf ByteArray.empty l0 x9_1) (ji13)) = a1
                      · rw [if_pos c17] at H
                        have c17b0 : ((bt (rdOf ByteArray.empty l0 x9_1) (ji13)) == a1) = true := beq_iff_eq.mpr c17
                        have c17b1 : ((bt (rdOf ByteArray.empty l0 x9_1) (ji13)) != a1) = false := bne_eq_false_iff_eq.mpr c17
                        clear c17
                        obtain rfl := Option.some.inj H
                        have p278 : 0 ≤ (x9_1 : Int) := of_decide_eq_true (by first | (with_reducible assumption) | assumption)
                        have q278 : x9_1 < (l0.length : Int) := of_decide_eq_true (by first | (with_reducible assumption) | assumption)
                        obtain ⟨ad278, e278, hx278_0⟩ := Kd.at_string HR0.out x9_1 p278 q278
                        cases e278
                        replace p278 := eq_true p278
                        replace q278 := eq_true q278
                        have p279 : 0 ≤ (x9_1 : Int) := of_decide_eq_true (by first | (with_reducible assumption) | assumption)
                        have q279 : x9_1 < (l0.length : Int) := of_decide_eq_true (by first | (with_reducible assumption) | assumption)
                        obtain ⟨ad279, e279, hx279_0⟩ := Kd.at_string HR0.out x9_1 p279 q279
                        obtain rfl : ad278 = ad279 := (by injection e279)
                        replace p279 := eq_true p279
                        replace q279 := eq_true q279
                        have p11 : 0 ≤ ((ji8) : Int) := of_decide_eq_true (by first | (with_reducible assumption) | assumption)
                        have q11 : (ji8) < ((rdOf ByteArray.empty l0 x9_1).size : Int) := of_decide_eq_true (by first | (with_reducible assumption) | assumption)
                        have hx11 := bt_at (rdOf ByteArray.empty l0 x9_1) (ji8)
                        replace p11 := eq_true p11
                        replace q11 := eq_true q11
                        have p280 : 0 ≤ (x9_1 : Int) := of_decide_eq_true (by first | (with_reducible assumption) | assumption)
                        have q280 : x9_1 < (l0.length : Int) := of_decide_eq_true (by first | (with_reducible assumption) | assumption)
                        obtain ⟨ad280, e280, hx280_0⟩ := Kd.at_string HR0.out x9_1 p280 q280
                        obtain rfl : ad278 = ad280 := (by injection e280)
                        replace p280 := eq_true p280
                        replace q280 := eq_true q280
                        have p16 : 0 ≤ ((ji13) : Int) := of_decide_eq_true (by first | (with_reducible assumption) | assumption)
                        have q16 : (ji13) < ((rdOf ByteArray.empty l0 x9_1).size : Int) := of_decide_eq_true (by first | (with_reducible assumption) | assumption)
                        have hx16 := bt_at (rdOf ByteArray.empty l0 x9_1) (ji13)
                        replace p16 := eq_true p16
                        replace q16 := eq_true q16
                        go_wp2
                        go_ret
                        exact ⟨by first | rfl | (simp; done) | (simp only [← hji8, ← hji13] <;> (first | rfl | simp)) | (simp [*]; done), by repeat (first | exact Drawn0.refl _ | apply Drawn0.step)⟩
                      · rw [if_neg c17] at H
                        have c17b0 : ((bt (rdOf ByteArray.empty l0 x9_1) (ji13)) == a1) = false := beq_eq_false_iff_ne.mpr c17
                        have c17b1 : ((bt (rdOf ByteArray.empty l0 x9_1) (ji13)) != a1) = true := bne_iff_ne.mpr c17
                        have H' := Aside0.mk H
                        clear H
                        have p278 : 0 ≤ (x9_1 : Int) := of_decide_eq_true (by first | (with_reducible assumption) | assumption)
                        have q278 : x9_1 < (l0.length : Int) := of_decide_eq_true (by first | (with_reducible assumption) | assumption)
                        obtain ⟨ad278, e278, hx278_0⟩ := Kd.at_string HR0.out x9_1 p278 q278
                        cases e278
                        replace p278 := eq_true p278
                        replace q278 := eq_true q278
                        have p279 : 0 ≤ (x9_1 : Int) := of_decide_eq_true (by first | (with_reducible assumption) | assumption)
                        have q279 : x9_1 < (l0.length : Int) := of_decide_eq_true (by first | (with_reducible assumption) | assumption)
                        obtain ⟨ad279, e279, hx279_0⟩ := Kd.at_string HR0.out x9_1 p279 q279
                        obtain rfl : ad278 = ad279 := (by injection e279)
                        replace p279 := eq_true p279
                        replace q279 := eq_true q279
                        have p11 : 0 ≤ ((ji8) : Int) := of_decide_eq_true (by first | (with_reducible assumption) | assumption)
                        have q11 : (ji8) < ((rdOf ByteArray.empty l0 x9_1).size : Int) := of_decide_eq_true (by first | (with_reducible assumption) | assumption)
                        have hx11 := bt_at (rdOf ByteArray.empty l0 x9_1) (ji8)
                        replace p11 := eq_true p11
                        replace q11 := eq_true q11
                        have p280 : 0 ≤ (x9_1 : Int) := of_decide_eq_true (by first | (with_reducible assumption) | assumption)
                        have q280 : x9_1 < (l0.length : Int) := of_decide_eq_true (by first | (with_reducible assumption) | assumption)
                        obtain ⟨ad280, e280, hx280_0⟩ := Kd.at_string HR0.out x9_1 p280 q280
                        obtain rfl : ad278 = ad280 := (by injection e280)
                        replace p280 := eq_true p280
                        replace q280 := eq_true q280
                        have p16 : 0 ≤ ((ji13) : Int) := of_decide_eq_true (by first | (with_reducible assumption) | assumption)
                        have q16 : (ji13) < ((rdOf ByteArray.empty l0 x9_1).size : Int) := of_decide_eq_true (by first | (with_reducible assumption) | assumption)
                        have hx16 := bt_at (rdOf ByteArray.empty l0 x9_1) (ji13)
                        replace p16 := eq_true p16
                        replace q16 := eq_true q16
                        go_wp2
                        go_roundg k1
                        case measure => have := HK1.out; omega
                        case rel => exact ⟨(wrap64 (x9_1 + 1)), (by first | rfl | exact isE_ _ | exact isE2_ _ | (simp; done) | (simp [*]; done)), H', ⟨by have := HK1.out; omega⟩, by repeat (first | exact Drawn0.refl _ | apply Drawn0.step)⟩
                    · rw [if_neg c15] at H
                      exact absurd H (by simp)
                  · rw [if_neg c14] at H
                    exact absurd H (by simp)
                · rw [if_neg c12] at H
                  have c12b0 : ((bt (rdOf ByteArray.empty l0 x9_1) (ji8)) == a2) = false := beq_eq_false_iff_ne.mpr c12
                  have c12b1 : ((bt (rdOf ByteArray.empty l0 x9_1) (ji8)) != a2) = true := bne_iff_ne.mpr c12
                  have H' := Aside0.mk H
                  clear H
                  have p278 : 0 ≤ (x9_1 : Int) := of_decide_eq_true (by first | (with_reducible assumption) | assumption)
                  have q278 : x9_1 < (l0.length : Int) := of_decide_eq_true (by first | (with_reducible assumption) | assumption)
                  obtain ⟨ad278, e278, hx278_0⟩ := Kd.at_string HR0.out x9_1 p278 q278
                  cases e278
                  replace p278 := eq_true p278
                  replace q278 := eq_true q278
                  have p279 : 0 ≤ (x9_1 : Int) := of_decide_eq_true (by first | (with_reducible assumption) | assumption)
                  have q279 : x9_1 < (l0.length : Int) := of_decide_eq_true (by first | (with_reducible assumption) | assumption)
                  obtain ⟨ad279, e279, hx279_0⟩ := Kd.at_string HR0.out x9_1 p279 q279
                  obtain rfl : ad278 = ad279 := (by injection e279)
                  replace p279 := eq_true p279
                  replace q279 := eq_true q279
                  have p11 : 0 ≤ ((ji8) : Int) := of_decide_eq_true (by first | (with_reducible assumption) | assumption)
                  have q11 : (ji8) < ((rdOf ByteArray.empty l0 x9_1).size : Int) := of_decide_eq_true (by first | (with_reducible assumption) | assumption)
                  have hx11 := bt_at (rdOf ByteArray.empty l0 x9_1) (ji8)
                  replace p11 := eq_true p11
                  replace q11 := eq_true q11
                  go_wp2
                  go_roundg k1
                  case measure => have := HK1.out; omega
                  case rel => exact ⟨(wrap64 (x9_1 + 1)), (by first | rfl | exact isE_ _ | exact isE2_ _ | (simp; done) | (simp [*]; done)), H', ⟨by have := HK1.out; omega⟩, by repeat (first | exact Drawn0.refl _ | apply Drawn0.step)⟩
              · rw [if_neg c10] at H
                exact absurd H (by simp)
            · rw [if_neg c9] at H
              exact absurd H (by simp)
          · rw [if_neg c7] at H
            have c7b0 : decide ((wrap64 (a3 + 1)) < ((rdOf ByteArray.empty l0 x9_1).size : Int)) = false := decide_eq_false c7
            clear c7
            have H' := Aside0.mk H
            clear H
            have p278 : 0 ≤ (x9_1 : Int) := of_decide_eq_true (by first | (with_reducible assumption) | assumption)
            have q278 : x9_1 < (l0.length : Int) := of_decide_eq_true (by first | (with_reducible assumption) | assumption)
            obtain ⟨ad278, e278, hx278_0⟩ := Kd.at_string HR0.out x9_1 p278 q278
            cases e278
            replace p278 := eq_true p278
            replace q278 := eq_true q278
            go_wp2
            go_roundg k1
            case measure => have := HK1.out; omega
            case rel => exact ⟨(wrap64 (x9_1 + 1)), (by first | rfl | exact isE_ _ | exact isE2_ _ | (simp; done) | (simp [*]; done)), H', ⟨by have := HK1.out; omega⟩, by repeat (first | exact Drawn0.refl _ | apply Drawn0.step)⟩
        · rw [if_neg c6] at H
          exact absurd H (by simp)
      · rw [if_neg c5] at H
        have c5b0 : decide (x9_1 < (l0.length : Int)) = false := decide_eq_false c5
        clear c5
        obtain rfl := Option.some.inj H
        go_wp2
        go_ret
        exact ⟨by first | rfl | (simp; done) | (simp [*]; done), by repeat (first | exact Drawn0.refl _ | apply Drawn0.step)⟩

end Go.Proofs.Ytnpkbnfiadkgnaa.P
