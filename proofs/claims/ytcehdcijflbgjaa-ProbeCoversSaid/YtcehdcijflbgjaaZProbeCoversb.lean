/- Proved here: the row of the law ProbeCovers, with texts that lead to it, merged by a program of this session (wip/merge.py), part 2 of 3; no condition beyond the statement's own. -/
import Derived.Test.YtcehdcijflbgjaaPx0
import Derived.Test.YtcehdcijflbgjaaBase
import Derived.Test.YtcehdcijflbgjaaPx14
import Derived.Test.YtcehdcijflbgjaaPx17
import Derived.Test.YtcehdcijflbgjaaZProbeCoversa
/- Proved here: what Go functions of this seat compute, or a law of it; no condition beyond the statement's own. Written for this claim by a program of this session (wip/myprint.py) over the kit's print.py. -/
namespace Go.Proofs.Ytcehdcijflbgjaa.P
open Go.RowKit Go.Proofs.YtcehdcijflbgjaaW.PrintWords Go.Proofs.YtcehdcijflbgjaaW.PrintLast Go.Proofs.YtcehdcijflbgjaaW.PrintMore
attribute [local go_sem] max2_int min2_int max_two min_two max_three min_three max_four min_four   -- for this text's walks alone
set_option linter.unusedVariables false
set_option linter.unusedSimpArgs false

/-! ### juratref14_Has: function 54 -/
def juratref14_Has.l0 : Nat → List ByteArray → Int → Int → Int → Int → Option (Bool)
  | 0, _, _, _, _, _ => none
  | k + 1, x0, x1, x2, x3, x9 => if x9 < (x0.length : Int) then (if 0 ≤ x9 then (if (wrap64 (x3 + 1)) < ((rdOf ByteArray.empty x0 x9).size : Int) then (if 0 ≤ (wrap64 ((wrap64 (((rdOf ByteArray.empty x0 x9).size : Int) - 1)) - x3)) then (if (wrap64 ((wrap64 (((rdOf ByteArray.empty x0 x9).size : Int) - 1)) - x3)) < ((rdOf ByteArray.empty x0 x9).size : Int) then (if (bt (rdOf ByteArray.empty x0 x9) (wrap64 ((wrap64 (((rdOf ByteArray.empty x0 x9).size : Int) - 1)) - x3))) = x2 then (if 0 ≤ (wrap64 ((wrap64 (((rdOf ByteArray.empty x0 x9).size : Int) - 2)) - x3)) then (if (wrap64 ((wrap64 (((rdOf ByteArray.empty x0 x9).size : Int) - 2)) - x3)) < ((rdOf ByteArray.empty x0 x9).size : Int) then (if (bt (rdOf ByteArray.empty x0 x9) (wrap64 ((wrap64 (((rdOf ByteArray.empty x0 x9).size : Int) - 2)) - x3))) = x1 then (some true) else (juratref14_Has.l0 k x0 x1 x2 x3 (wrap64 (x9 + 1)))) else (none)) else (none)) else (juratref14_Has.l0 k x0 x1 x2 x3 (wrap64 (x9 + 1)))) else (none)) else (none)) else (juratref14_Has.l0 k x0 x1 x2 x3 (wrap64 (x9 + 1)))) else (none)) else (some false)
def juratref14_Has.f (k : Nat) (l0 : List ByteArray) (a1 : Int) (a2 : Int) (a3 : Int) : Option (Bool) := juratref14_Has.l0 k l0 a1 a2 a3 0
theorem juratref14_Has.mono_l : ∀ k, (∀ y0 y1 y2 y3 y4, LeO (juratref14_Has.l0 k y0 y1 y2 y3 y4) (juratref14_Has.l0 (k + 1) y0 y1 y2 y3 y4))
  | 0 => fun _ _ _ _ _ r h => by simp [juratref14_Has.l0] at h
  | k + 1 => by
    have ih0 := juratref14_Has.mono_l k
    · intro y0 y1 y2 y3 y4
      unfold juratref14_Has.l0
      repeat' first
      | (with_reducible exact ih0 _ _ _ _ _)
      | (with_reducible exact LeO.refl _)
      | (with_reducible exact LeO.none _)
      | (with_reducible refine LeO.ite ?_ ?_)
      | (with_reducible refine LeO.bind ?_ (fun _ => ?_))
      | exact ih0 _ _ _ _ _
      | exact LeO.none _
      | refine LeO.ite ?_ ?_
      | refine LeO.bind ?_ (fun _ => ?_)
theorem juratref14_Has.mono : ∀ a0 a1 a2 a3 k, LeO (juratref14_Has.f k a0 a1 a2 a3) (juratref14_Has.f (k + 1) a0 a1 a2 a3) := by
  intro a0 a1 a2 a3 k
  have ih0 := juratref14_Has.mono_l k
  unfold juratref14_Has.f
  repeat' first
      | (with_reducible exact ih0 _ _ _ _ _)
      | (with_reducible exact LeO.refl _)
      | (with_reducible exact LeO.none _)
      | (with_reducible refine LeO.ite ?_ ?_)
      | (with_reducible refine LeO.bind ?_ (fun _ => ?_))
      | exact ih0 _ _ _ _ _
      | exact LeO.none _
      | refine LeO.ite ?_ ?_
      | refine LeO.bind ?_ (fun _ => ?_)
set_option maxHeartbeats 8000000 in
set_option maxRecDepth 100000 in
theorem juratref14_Has.calls (k : Nat) (A0 : Option Addr) (c0 : Nat) (l0 : List ByteArray) (a1 : Int) (a2 : Int) (a3 : Int) (r : Bool) (w : World) (hr0 : Kd.C Kd.string w A0 l0.length l0) (hc0 : l0.length ≤ c0) (h : juratref14_Has.f k l0 a1 a2 a3 = some r) :
    Calls Try.prog 54 #[.slice A0 l0.length c0, .int .u8 a1, .int .u8 a2, .int .i64 a3] w fun e w' => e = .returned (.bool r) ∧ Drawn0 w w' := by
  have HR0 := Aside0.mk hr0
  have HC0 := Aside0.mk hc0
  clear hr0 hc0
  have H : (juratref14_Has.l0 k l0 a1 a2 a3 0) = some r := h
  clear h
  have H' := Aside0.mk H
  clear H
  go_enter Try.func54, Try.ntmps54
  go_wp2
  go_loopg [9] k (fun kq v9 w' => ∃ (x9_1 : Int), v9 = .int .i64 x9_1 ∧ Aside0 (juratref14_Has.l0 kq l0 a1 a2 a3 x9_1 = some r) ∧ Aside0 (kq ≤ k) ∧ Drawn0 w w')
  case atStart => exact ⟨(0), (by first | rfl | exact isE_ _ | exact isE2_ _ | (simp; done) | (simp [*]; done)), H', ⟨Nat.le_refl _⟩, by repeat (first | exact Drawn0.refl _ | apply Drawn0.step)⟩
  case round =>
    clear H'
    try clear p2
    obtain ⟨x9_1, rfl, HA, HK1, ⟨m1, rfl⟩⟩ := hrel
    cases gk with
    | zero => exact absurd HA.out (by simp [juratref14_Has.l0])
    | succ k1 =>
      have H := HA.out
      clear HA
      simp only [juratref14_Has.l0] at H
      by_cases c5 : x9_1 < (l0.length : Int)
      · rw [if_pos c5] at H
        have c5b0 : decide (x9_1 < (l0.length : Int)) = true := decide_eq_true c5
        clear c5
        by_cases c6 : 0 ≤ x9_1
        · rw [if_pos c6] at H
          have c6b0 : decide (0 ≤ x9_1) = true := decide_eq_true c6
          clear c6
          by_cases c7 : (wrap64 (a3 + 1)) < ((rdOf ByteArray.empty l0 x9_1).size : Int)
          · rw [if_pos c7] at H
            have c7b0 : decide ((wrap64 (a3 + 1)) < ((rdOf ByteArray.empty l0 x9_1).size : Int)) = true := decide_eq_true c7
            clear c7
            obtain ⟨ji8, hji8⟩ : ∃ j_ : Int, (wrap64 ((wrap64 (((rdOf ByteArray.empty l0 x9_1).size : Int) - 1)) - a3)) = j_ := ⟨_, rfl⟩
            replace H : (if 0 ≤ (ji8) then (if (ji8) < ((rdOf ByteArray.empty l0 x9_1).size : Int) then (if (bt (rdOf ByteArray.empty l0 x9_1) (ji8)) = a2 then (if 0 ≤ (wrap64 ((wrap64 (((rdOf ByteArray.empty l0 x9_1).size : Int) - 2)) - a3)) then (if (wrap64 ((wrap64 (((rdOf ByteArray.empty l0 x9_1).size : Int) - 2)) - a3)) < ((rdOf ByteArray.empty l0 x9_1).size : Int) then (if (bt (rdOf ByteArray.empty l0 x9_1) (wrap64 ((wrap64 (((rdOf ByteArray.empty l0 x9_1).size : Int) - 2)) - a3))) = a1 then (some true) else (juratref14_Has.l0 k1 l0 a1 a2 a3 (wrap64 (x9_1 + 1)))) else (none)) else (none)) else (juratref14_Has.l0 k1 l0 a1 a2 a3 (wrap64 (x9_1 + 1)))) else (none)) else (none)) = some r := by first | (rw [hji8] at H; exact H) | (simp only [hji8] at H ⊢; exact H)
            have hji8w : (IntKind.i64.wrap ((wrap64 (((rdOf ByteArray.empty l0 x9_1).size : Int) - 1)) - a3)) = ji8 := (i64_w _).trans hji8
            by_cases c9 : 0 ≤ (ji8)
            · rw [if_pos c9] at H
              have c9b0 : decide (0 ≤ (ji8)) = true := decide_eq_true c9
              clear c9
              by_cases c10 : (ji8) < ((rdOf ByteArray.empty l0 x9_1).size : Int)
              · rw [if_pos c10] at H
                have c10b0 : decide ((ji8) < ((rdOf ByteArray.empty l0 x9_1).size : Int)) = true := decide_eq_true c10
                clear c10
                by_cases c12 : (bt (rdOf ByteArray.empty l0 x9_1) (ji8)) = a2
                · rw [if_pos c12] at H
                  have c12b0 : ((bt (rdOf ByteArray.empty l0 x9_1) (ji8)) == a2) = true := beq_iff_eq.mpr c12
                  have c12b1 : ((bt (rdOf ByteArray.empty l0 x9_1) (ji8)) != a2) = false := bne_eq_false_iff_eq.mpr c12
                  clear c12
                  obtain ⟨ji13, hji13⟩ : ∃ j_ : Int, (wrap64 ((wrap64 (((rdOf ByteArray.empty l0 x9_1).size : Int) - 2)) - a3)) = j_ := ⟨_, rfl⟩
                  replace H : (if 0 ≤ (ji13) then (if (ji13) < ((rdOf ByteArray.empty l0 x9_1).size : Int) then (if (bt (rdOf ByteArray.empty l0 x9_1) (ji13)) = a1 then (some true) else (juratref14_Has.l0 k1 l0 a1 a2 a3 (wrap64 (x9_1 + 1)))) else (none)) else (none)) = some r := by first | (rw [hji13] at H; exact H) | (simp only [hji13] at H ⊢; exact H)
                  have hji13w : (IntKind.i64.wrap ((wrap64 (((rdOf ByteArray.empty l0 x9_1).size : Int) - 2)) - a3)) = ji13 := (i64_w _).trans hji13
                  by_cases c14 : 0 ≤ (ji13)
                  · rw [if_pos c14] at H
                    have c14b0 : decide (0 ≤ (ji13)) = true := decide_eq_true c14
                    clear c14
                    by_cases c15 : (ji13) < ((rdOf ByteArray.empty l0 x9_1).size : Int)
                    · rw [if_pos c15] at H
                      have c15b0 : decide ((ji13) < ((rdOf ByteArray.empty l0 x9_1).size : Int)) = true := decide_eq_true c15
                      clear c15
                      by_cases c17 : (bt (rdOf ByteArray.empty l0 x9_1) (ji13)) = a1
                      · rw [if_pos c17] at H
                        have c17b0 : ((bt (rdOf ByteArray.empty l0 x9_1) (ji13)) == a1) = true := beq_iff_eq.mpr c17
                        have c17b1 : ((bt (rdOf ByteArray.empty l0 x9_1) (ji13)) != a1) = false := bne_eq_false_iff_eq.mpr c17
                        clear c17
                        obtain rfl := Option.some.inj H
                        have p190 : 0 ≤ (x9_1 : Int) := of_decide_eq_true (by first | (with_reducible assumption) | assumption)
                        have q190 : x9_1 < (l0.length : Int) := of_decide_eq_true (by first | (with_reducible assumption) | assumption)
                        obtain ⟨ad190, e190, hx190_0⟩ := Kd.at_string HR0.out x9_1 p190 q190
                        cases e190
                        replace p190 := eq_true p190
                        replace q190 := eq_true q190
                        have p191 : 0 ≤ (x9_1 : Int) := of_decide_eq_true (by first | (with_reducible assumption) | assumption)
                        have q191 : x9_1 < (l0.length : Int) := of_decide_eq_true (by first | (with_reducible assumption) | assumption)
                        obtain ⟨ad191, e191, hx191_0⟩ := Kd.at_string HR0.out x9_1 p191 q191
                        obtain rfl : ad190 = ad191 := (by injection e191)
                        replace p191 := eq_true p191
                        replace q191 := eq_true q191
                        have p11 : 0 ≤ ((ji8) : Int) := of_decide_eq_true (by first | (with_reducible assumption) | assumption)
                        have q11 : (ji8) < ((rdOf ByteArray.empty l0 x9_1).size : Int) := of_decide_eq_true (by first | (with_reducible assumption) | assumption)
                        have hx11 := bt_at (rdOf ByteArray.empty l0 x9_1) (ji8)
                        replace p11 := eq_true p11
                        replace q11 := eq_true q11
                        have p192 : 0 ≤ (x9_1 : Int) := of_decide_eq_true (by first | (with_reducible assumption) | assumption)
                        have q192 : x9_1 < (l0.length : Int) := of_decide_eq_true (by first | (with_reducible assumption) | assumption)
                        obtain ⟨ad192, e192, hx192_0⟩ := Kd.at_string HR0.out x9_1 p192 q192
                        obtain rfl : ad190 = ad192 := (by injection e192)
                        replace p192 := eq_true p192
                        replace q192 := eq_true q192
                        have p16 : 0 ≤ ((ji13) : Int) := of_decide_eq_true (by first | (with_reducible assumption) | assumption)
                        have q16 : (ji13) < ((rdOf ByteArray.empty l0 x9_1).size : Int) := of_decide_eq_true (by first | (with_reducible assumption) | assumption)
                        have hx16 := bt_at (rdOf ByteArray.empty l0 x9_1) (ji13)
                        replace p16 := eq_true p16
                        replace q16 := eq_true q16
                        go_wp2
                        go_ret
                        exact ⟨by first | rfl | (simp; done) | (simp only [← hji8, ← hji13] <;> (first | rfl | simp)) | (simp [*]; done), by repeat (first | exact Drawn0.refl _ | apply Drawn0.step)⟩
                      · rw [if_neg c17] at H
                        have c17b0 : ((bt (rdOf ByteArray.empty l0 x9_1) (ji13)) == a1) = false := beq_eq_false_iff_ne.mpr c17
                        have c17b1 : ((bt (rdOf ByteArray.empty l0 x9_1) (ji13)) != a1) = true := bne_iff_ne.mpr c17
                        have H' := Aside0.mk H
                        clear H
                        have p190 : 0 ≤ (x9_1 : Int) := of_decide_eq_true (by first | (with_reducible assumption) | assumption)
                        have q190 : x9_1 < (l0.length : Int) := of_decide_eq_true (by first | (with_reducible assumption) | assumption)
                        obtain ⟨ad190, e190, hx190_0⟩ := Kd.at_string HR0.out x9_1 p190 q190
                        cases e190
                        replace p190 := eq_true p190
                        replace q190 := eq_true q190
                        have p191 : 0 ≤ (x9_1 : Int) := of_decide_eq_true (by first | (with_reducible assumption) | assumption)
                        have q191 : x9_1 < (l0.length : Int) := of_decide_eq_true (by first | (with_reducible assumption) | assumption)
                        obtain ⟨ad191, e191, hx191_0⟩ := Kd.at_string HR0.out x9_1 p191 q191
                        obtain rfl : ad190 = ad191 := (by injection e191)
                        replace p191 := eq_true p191
                        replace q191 := eq_true q191
                        have p11 : 0 ≤ ((ji8) : Int) := of_decide_eq_true (by first | (with_reducible assumption) | assumption)
                        have q11 : (ji8) < ((rdOf ByteArray.empty l0 x9_1).size : Int) := of_decide_eq_true (by first | (with_reducible assumption) | assumption)
                        have hx11 := bt_at (rdOf ByteArray.empty l0 x9_1) (ji8)
                        replace p11 := eq_true p11
                        replace q11 := eq_true q11
                        have p192 : 0 ≤ (x9_1 : Int) := of_decide_eq_true (by first | (with_reducible assumption) | assumption)
                        have q192 : x9_1 < (l0.length : Int) := of_decide_eq_true (by first | (with_reducible assumption) | assumption)
                        obtain ⟨ad192, e192, hx192_0⟩ := Kd.at_string HR0.out x9_1 p192 q192
                        obtain rfl : ad190 = ad192 := (by injection e192)
                        replace p192 := eq_true p192
                        replace q192 := eq_true q192
                        have p16 : 0 ≤ ((ji13) : Int) := of_decide_eq_true (by first | (with_reducible assumption) | assumption)
                        have q16 : (ji13) < ((rdOf ByteArray.empty l0 x9_1).size : Int) := of_decide_eq_true (by first | (with_reducible assumption) | assumption)
                        have hx16 := bt_at (rdOf ByteArray.empty l0 x9_1) (ji13)
                        replace p16 := eq_true p16
                        replace q16 := eq_true q16
                        go_wp2
                        go_roundg k1
                        case measure => have := HK1.out; omega
                        case rel => exact ⟨(wrap64 (x9_1 + 1)), (by first | rfl | exact isE_ _ | exact isE2_ _ | (simp; done) | (simp [*]; done)), H', ⟨by have := HK1.out; omega⟩, by repeat (first | exact Drawn0.refl _ | apply Drawn0.step)⟩
                    · rw [if_neg c15] at H
                      exact absurd H (by simp)
                  · rw [if_neg c14] at H
                    exact absurd H (by simp)
                · rw [if_neg c12] at H
                  have c12b0 : ((bt (rdOf ByteArray.empty l0 x9_1) (ji8)) == a2) = false := beq_eq_false_iff_ne.mpr c12
                  have c12b1 : ((bt (rdOf ByteArray.empty l0 x9_1) (ji8)) != a2) = true := bne_iff_ne.mpr c12
                  have H' := Aside0.mk H
                  clear H
                  have p190 : 0 ≤ (x9_1 : Int) := of_decide_eq_true (by first | (with_reducible assumption) | assumption)
                  have q190 : x9_1 < (l0.length : Int) := of_decide_eq_true (by first | (with_reducible assumption) | assumption)
                  obtain ⟨ad190, e190, hx190_0⟩ := Kd.at_string HR0.out x9_1 p190 q190
                  cases e190
                  replace p190 := eq_true p190
                  replace q190 := eq_true q190
                  have p191 : 0 ≤ (x9_1 : Int) := of_decide_eq_true (by first | (with_reducible assumption) | assumption)
                  have q191 : x9_1 < (l0.length : Int) := of_decide_eq_true (by first | (with_reducible assumption) | assumption)
                  obtain ⟨ad191, e191, hx191_0⟩ := Kd.at_string HR0.out x9_1 p191 q191
                  obtain rfl : ad190 = ad191 := (by injection e191)
                  replace p191 := eq_true p191
                  replace q191 := eq_true q191
                  have p11 : 0 ≤ ((ji8) : Int) := of_decide_eq_true (by first | (with_reducible assumption) | assumption)
                  have q11 : (ji8) < ((rdOf ByteArray.empty l0 x9_1).size : Int) := of_decide_eq_true (by first | (with_reducible assumption) | assumption)
                  have hx11 := bt_at (rdOf ByteArray.empty l0 x9_1) (ji8)
                  replace p11 := eq_true p11
                  replace q11 := eq_true q11
                  go_wp2
                  go_roundg k1
                  case measure => have := HK1.out; omega
                  case rel => exact ⟨(wrap64 (x9_1 + 1)), (by first | rfl | exact isE_ _ | exact isE2_ _ | (simp; done) | (simp [*]; done)), H', ⟨by have := HK1.out; omega⟩, by repeat (first | exact Drawn0.refl _ | apply Drawn0.step)⟩
              · rw [if_neg c10] at H
                exact absurd H (by simp)
            · rw [if_neg c9] at H
              exact absurd H (by simp)
          · rw [if_neg c7] at H
            have c7b0 : decide ((wrap64 (a3 + 1)) < ((rdOf ByteArray.empty l0 x9_1).size : Int)) = false := decide_eq_false c7
            clear c7
            have H' := Aside0.mk H
            clear H
            have p190 : 0 ≤ (x9_1 : Int) := of_decide_eq_true (by first | (with_reducible assumption) | assumption)
            have q190 : x9_1 < (l0.length : Int) := of_decide_eq_true (by first | (with_reducible assumption) | assumption)
            obtain ⟨ad190, e190, hx190_0⟩ := Kd.at_string HR0.out x9_1 p190 q190
            cases e190
            replace p190 := eq_true p190
            replace q190 := eq_true q190
            go_wp2
            go_roundg k1
            case measure => have := HK1.out; omega
            case rel => exact ⟨(wrap64 (x9_1 + 1)), (by first | rfl | exact isE_ _ | exact isE2_ _ | (simp; done) | (simp [*]; done)), H', ⟨by have := HK1.out; omega⟩, by repeat (first | exact Drawn0.refl _ | apply Drawn0.step)⟩
        · rw [if_neg c6] at H
          exact absurd H (by simp)
      · rw [if_neg c5] at H
        have c5b0 : decide (x9_1 < (l0.length : Int)) = false := decide_eq_false c5
        clear c5
        obtain rfl := Option.some.inj H
        go_wp2
        go_ret
        exact ⟨by first | rfl | (simp; done) | (simp [*]; done), by repeat (first | exact Drawn0.refl _ | apply Drawn0.step)⟩

end Go.Proofs.Ytcehdcijflbgjaa.P

/- Proved here: what Go functions of this seat compute, or a law of it; no condition beyond the statement's own. Written for this claim by a program of this session (wip/myprint.py) over the kit's print.py. -/
namespace Go.Proofs.Ytcehdcijflbgjaa.P
open Go.RowKit Go.Proofs.YtcehdcijflbgjaaW.PrintWords Go.Proofs.YtcehdcijflbgjaaW.PrintLast Go.Proofs.YtcehdcijflbgjaaW.PrintMore
attribute [local go_sem] max2_int min2_int max_two min_two max_three min_three max_four min_four   -- for this text's walks alone
set_option linter.unusedVariables false
set_option linter.unusedSimpArgs false

/-! ### juratref14_Near: function 42 -/
def juratref14_Near.l0 : Nat → List ByteArray → Int → Int → Int → Option (Int)
  | 0, _, _, _, _ => none
  | k + 1, x0, x1, x2, x7 => (juratref14_Far.f k x0).bind fun t193 => (if x7 < t193 then ((juratref14_Has.f k x0 x1 x2 x7).bind fun t194 => (if t194 = true then (some x7) else (juratref14_Near.l0 k x0 x1 x2 (wrap64 (x7 + 1))))) else ((juratref14_Far.f k x0).bind fun t195 => (some t195)))
def juratref14_Near.f (k : Nat) (l0 : List ByteArray) (a1 : Int) (a2 : Int) : Option (Int) := juratref14_Near.l0 k l0 a1 a2 0
theorem juratref14_Near.mono_l : ∀ k, (∀ y0 y1 y2 y3, LeO (juratref14_Near.l0 k y0 y1 y2 y3) (juratref14_Near.l0 (k + 1) y0 y1 y2 y3))
  | 0 => fun _ _ _ _ r h => by simp [juratref14_Near.l0] at h
  | k + 1 => by
    have ih0 := juratref14_Near.mono_l k
    · intro y0 y1 y2 y3
      unfold juratref14_Near.l0
      repeat' first
      | (with_reducible exact ih0 _ _ _ _)
      | (with_reducible exact juratref14_Far.mono _ _)
      | (with_reducible exact juratref14_Has.mono _ _ _ _ _)
      | (with_reducible exact LeO.refl _)
      | (with_reducible exact LeO.none _)
      | (with_reducible refine LeO.ite ?_ ?_)
      | (with_reducible refine LeO.bind ?_ (fun _ => ?_))
      | exact ih0 _ _ _ _
      | exact juratref14_Far.mono _ _
      | exact juratref14_Has.mono _ _ _ _ _
      | exact LeO.none _
      | refine LeO.ite ?_ ?_
      | refine LeO.bind ?_ (fun _ => ?_)
theorem juratref14_Near.mono : ∀ a0 a1 a2 k, LeO (juratref14_Near.f k a0 a1 a2) (juratref14_Near.f (k + 1) a0 a1 a2) := by
  intro a0 a1 a2 k
  have ih0 := juratref14_Near.mono_l k
  unfold juratref14_Near.f
  repeat' first
      | (with_reducible exact ih0 _ _ _ _)
      | (with_reducible exact juratref14_Far.mono _ _)
      | (with_reducible exact juratref14_Has.mono _ _ _ _ _)
      | (with_reducible exact LeO.refl _)
      | (with_reducible exact LeO.none _)
      | (with_reducible refine LeO.ite ?_ ?_)
      | (with_reducible refine LeO.bind ?_ (fun _ => ?_))
      | exact ih0 _ _ _ _
      | exact juratref14_Far.mono _ _
      | exact juratref14_Has.mono _ _ _ _ _
      | exact LeO.none _
      | refine LeO.ite ?_ ?_
      | refine LeO.bind ?_ (fun _ => ?_)
set_option maxHeartbeats 8000000 in
set_option maxRecDepth 100000 in
theorem juratref14_Near.calls (k : Nat) (A0 : Option Addr) (c0 : Nat) (l0 : List ByteArray) (a1 : Int) (a2 : Int) (r : Int) (w : World) (hr0 : Kd.C Kd.string w A0 l0.length l0) (hc0 : l0.length ≤ c0) (h : juratref14_Near.f k l0 a1 a2 = some r) :
    Calls Try.prog 42 #[.slice A0 l0.length c0, .int .u8 a1, .int .u8 a2] w fun e w' => e = .returned (.int .i64 r) ∧ Drawn0 w w' := by
  have HR0 := Aside0.mk hr0
  have HC0 := Aside0.mk hc0
  clear hr0 hc0
  have H : (juratref14_Near.l0 k l0 a1 a2 0) = some r := h
  clear h
  have H' := Aside0.mk H
  clear H
  go_enter Try.func42, Try.ntmps42
  go_wp2
  go_loopg [7] k (fun kq v7 w' => ∃ (x7_1 : Int), v7 = .int .i64 x7_1 ∧ Aside0 (juratref14_Near.l0 kq l0 a1 a2 x7_1 = some r) ∧ Aside0 (kq ≤ k) ∧ Drawn0 w w')
  case atStart => exact ⟨(0), (by first | rfl | exact isE_ _ | exact isE2_ _ | (simp; done) | (simp [*]; done)), H', ⟨Nat.le_refl _⟩, by repeat (first | exact Drawn0.refl _ | apply Drawn0.step)⟩
  case round =>
    clear H'
    try clear p2
    obtain ⟨x7_1, rfl, HA, HK1, ⟨m1, rfl⟩⟩ := hrel
    cases gk with
    | zero => exact absurd HA.out (by simp [juratref14_Near.l0])
    | succ k1 =>
      have H := HA.out
      clear HA
      simp only [juratref14_Near.l0] at H
      replace H := Option.bind_eq_some_iff.mp H
      obtain ⟨t193, A40, H⟩ := H
      replace H : (if x7_1 < t193 then ((juratref14_Has.f k1 l0 a1 a2 x7_1).bind fun t194 => (if t194 = true then (some x7_1) else (juratref14_Near.l0 k1 l0 a1 a2 (wrap64 (x7_1 + 1))))) else ((juratref14_Far.f k1 l0).bind fun t195 => (some t195))) = some r := H
      have A4 := Aside0.mk A40
      clear A40
      by_cases c5 : x7_1 < t193
      · rw [if_pos c5] at H
        have c5b0 : decide (x7_1 < t193) = true := decide_eq_true c5
        clear c5
        replace H := Option.bind_eq_some_iff.mp H
        obtain ⟨t194, A60, H⟩ := H
        replace H : (if t194 = true then (some x7_1) else (juratref14_Near.l0 k1 l0 a1 a2 (wrap64 (x7_1 + 1)))) = some r := H
        have A6 := Aside0.mk A60
        clear A60
        by_cases c7 : t194 = true
        · subst c7
          have H1 : (some x7_1) = some r := by rw [if_pos rfl] at H; exact H
          clear H
          have H := H1
          clear H1
          obtain rfl := Option.some.inj H
          go_wp2_with (first | ((with_reducible refine gate_callee (f := 53) rfl ?_); refine goesL_ (some 10) rfl rfl Try.func53 (by kernel_rfl) rfl #[.slice A0 l0.length c0] rfl (by (try simp only [List.map_toArray, List.map_cons, List.map_nil]); first | done | rfl | (simp only [List.length_drop, List.length_take]; rfl)) ?_; (with_reducible refine (juratref14_Far.calls k1 _ _ l0 t193 _ ?side1 ?side2 A4.out).mono ?_); (case side1 => repeat (first | exact HR0.out | (with_reducible refine Kd.C_alloc ?_ _) | (with_reducible refine Kd.C_drewN ?_ _) | (with_reducible refine Kd.C_drew ?_))); (case side2 => exact HC0.out); rintro e w' ⟨rfl, ⟨nd, rfl⟩⟩; refine ⟨_, rfl, ?_⟩) | ((with_reducible refine gate_callee (f := 54) rfl ?_); refine goesL_ (some 18) rfl rfl Try.func54 (by kernel_rfl) rfl #[.slice A0 l0.length c0, .int .u8 a1, .int .u8 a2, .int .i64 x7_1] rfl (by (try simp only [List.map_toArray, List.map_cons, List.map_nil]); first | done | rfl | (simp only [List.length_drop, List.length_take]; rfl)) ?_; (with_reducible refine (juratref14_Has.calls k1 _ _ l0 a1 a2 x7_1 true _ ?side1 ?side2 A6.out).mono ?_); (case side1 => repeat (first | exact HR0.out | (with_reducible refine Kd.C_alloc ?_ _) | (with_reducible refine Kd.C_drewN ?_ _) | (with_reducible refine Kd.C_drew ?_))); (case side2 => exact HC0.out); rintro e w' ⟨rfl, ⟨nd, rfl⟩⟩; refine ⟨_, rfl, ?_⟩))
          go_ret
          exact ⟨by first | rfl | (simp; done) | (simp [*]; done), by repeat (first | exact Drawn0.refl _ | apply Drawn0.step)⟩
        · replace c7 := Bool.eq_false_iff.mpr c7
          subst c7
          have H1 : (juratref14_Near.l0 k1 l0 a1 a2 (wrap64 (x7_1 + 1))) = some r := by rw [if_neg (show ¬ (false = true) by decide)] at H; exact H
          clear H
          have H := H1
          clear H1
          have H' := Aside0.mk H
          clear H
          go_wp2_with (first | ((with_reducible refine gate_callee (f := 53) rfl ?_); refine goesL_ (some 10) rfl rfl Try.func53 (by kernel_rfl) rfl #[.slice A0 l0.length c0] rfl (by (try simp only [List.map_toArray, List.map_cons, List.map_nil]); first | done | rfl | (simp only [List.length_drop, List.length_take]; rfl)) ?_; (with_reducible refine (juratref14_Far.calls k1 _ _ l0 t193 _ ?side1 ?side2 A4.out).mono ?_); (case side1 => repeat (first | exact HR0.out | (with_reducible refine Kd.C_alloc ?_ _) | (with_reducible refine Kd.C_drewN ?_ _) | (with_reducible refine Kd.C_drew ?_))); (case side2 => exact HC0.out); rintro e w' ⟨rfl, ⟨nd, rfl⟩⟩; refine ⟨_, rfl, ?_⟩) | ((with_reducible refine gate_callee (f := 54) rfl ?_); refine goesL_ (some 18) rfl rfl Try.func54 (by kernel_rfl) rfl #[.slice A0 l0.length c0, .int .u8 a1, .int .u8 a2, .int .i64 x7_1] rfl (by (try simp only [List.map_toArray, List.map_cons, List.map_nil]); first | done | rfl | (simp only [List.length_drop, List.length_take]; rfl)) ?_; (with_reducible refine (juratref14_Has.calls k1 _ _ l0 a1 a2 x7_1 false _ ?side1 ?side2 A6.out).mono ?_); (case side1 => repeat (first | exact HR0.out | (with_reducible refine Kd.C_alloc ?_ _) | (with_reducible refine Kd.C_drewN ?_ _) | (with_reducible refine Kd.C_drew ?_))); (case side2 => exact HC0.out); rintro e w' ⟨rfl, ⟨nd, rfl⟩⟩; refine ⟨_, rfl, ?_⟩))
          go_roundg k1
          case measure => have := HK1.out; omega
          case rel => exact ⟨(wrap64 (x7_1 + 1)), (by first | rfl | exact isE_ _ | exact isE2_ _ | (simp; done) | (simp [*]; done)), H', ⟨by have := HK1.out; omega⟩, by repeat (first | exact Drawn0.refl _ | apply Drawn0.step)⟩
      · rw [if_neg c5] at H
        have c5b0 : decide (x7_1 < t193) = false := decide_eq_false c5
        clear c5
        replace H := Option.bind_eq_some_iff.mp H
        obtain ⟨t195, A80, H⟩ := H
        replace H : (some t195) = some r := H
        have A8 := Aside0.mk A80
        clear A80
        obtain rfl := Option.some.inj H
        go_wp2_with (first | ((with_reducible refine gate_callee (f := 53) rfl ?_); refine goesL_ (some 10) rfl rfl Try.func53 (by kernel_rfl) rfl #[.slice A0 l0.length c0] rfl (by (try simp only [List.map_toArray, List.map_cons, List.map_nil]); first | done | rfl | (simp only [List.length_drop, List.length_take]; rfl)) ?_; (with_reducible refine (juratref14_Far.calls k1 _ _ l0 t193 _ ?side1 ?side2 A4.out).mono ?_); (case side1 => repeat (first | exact HR0.out | (with_reducible refine Kd.C_alloc ?_ _) | (with_reducible refine Kd.C_drewN ?_ _) | (with_reducible refine Kd.C_drew ?_))); (case side2 => exact HC0.out); rintro e w' ⟨rfl, ⟨nd, rfl⟩⟩; refine ⟨_, rfl, ?_⟩) | ((with_reducible refine gate_callee (f := 53) rfl ?_); refine goesL_ (some 21) rfl rfl Try.func53 (by kernel_rfl) rfl #[.slice A0 l0.length c0] rfl (by (try simp only [List.map_toArray, List.map_cons, List.map_nil]); first | done | rfl | (simp only [List.length_drop, List.length_take]; rfl)) ?_; (with_reducible refine (juratref14_Far.calls k1 _ _ l0 t195 _ ?side1 ?side2 A8.out).mono ?_); (case side1 => repeat (first | exact HR0.out | (with_reducible refine Kd.C_alloc ?_ _) | (with_reducible refine Kd.C_drewN ?_ _) | (with_reducible refine Kd.C_drew ?_))); (case side2 => exact HC0.out); rintro e w' ⟨rfl, ⟨nd, rfl⟩⟩; refine ⟨_, rfl, ?_⟩))
        go_ret
        exact ⟨by first | rfl | (simp; done) | (simp [*]; done), by repeat (first | exact Drawn0.refl _ | apply Drawn0.step)⟩

end Go.Proofs.Ytcehdcijflbgjaa.P

/- That layer 14's reference and the table of pairs tell a pair's shift and how many pairs there are; no condition beyond the sizes that stand in each statement. -/
namespace Go.Proofs.Ytcehdcijflbgjaa.Base
open Go Go.RowKit Go.Maps Go.Proofs.YtcehdcijflbgjaaW.PrintWords Go.Proofs.YtcehdcijflbgjaaW.PrintMore Go.Proofs.Ytcehdcijflbgjaa.P
set_option linter.unusedVariables false

theorem minB_le16 (w : List ByteArray) (hs : ∀ s ∈ w, s.size ≤ 65535) : minB w ≤ 65535 := by
  cases w with
  | nil => simp [minB, leastB]
  | cons s w => have := min_le (w := s :: w) s List.mem_cons_self; have := hs s List.mem_cons_self; omega
theorem rfar_ev (w : List ByteArray) (hl : w.length ≤ 65535) (hs : ∀ s ∈ w, s.size ≤ 65535) : Ev (fun k => juratref14_Far.f k w) (((minB w - 1 : Nat)) : Int) := by
  have hm := minB_le16 w hs
  unfold juratref14_Far.f
  refine Ev.bind (rleast_ev w (by omega)) ?_
  by_cases h : (minB w : Int) = 0
  · refine Ev.congr (fun k => if_pos h) ?_
    rw [show minB w - 1 = 0 by omega]
    exact Ev.now _
  · refine Ev.congr (fun k => if_neg h) ?_
    rw [wrap_id (by omega) (by omega), show ((minB w : Int) - 1) = ((minB w - 1 : Nat) : Int) by omega]
    exact Ev.now _
/-- Has a text both bytes at a distance? -/
def hasP (l : List ByteArray) (x y : UInt8) (d : Nat) : Bool := l.any fun s => decide (d + 1 < s.size ∧ pB s d = y ∧ pB s (d + 1) = x)
theorem hasP_iff {l : List ByteArray} {x y : UInt8} {d : Nat} : hasP l x y d = true ↔ ∃ s ∈ l, d + 1 < s.size ∧ pB s d = y ∧ pB s (d + 1) = x := by
  unfold hasP; rw [List.any_eq_true]; simp
theorem bt_pB {s : ByteArray} {d : Nat} (h : d < s.size) : bt s ((s.size : Int) - 1 - d) = ((pB s d).toNat : Int) := by
  rw [bt_eq]; unfold pB; congr 3; omega
theorem rhas14_l0 (l : List ByteArray) (hl : l.length ≤ 9223372036854775806) (hs : ∀ s ∈ l, s.size ≤ 65535) (x y : UInt8) (d : Nat) (hd : d ≤ 65535) : ∀ (f i : Nat), i + f = l.length →
    Ev (fun k => juratref14_Has.l0 k l (x.toNat : Int) (y.toNat : Int) (d : Int) (i : Int)) (hasP (l.drop i) x y d) := by
  intro f
  induction f with
  | zero =>
    intro i hi
    refine Ev.ret fun k => ?_
    simp only [juratref14_Has.l0]
    rw [if_neg (by omega), List.drop_of_length_le (by omega)]
    rfl
  | succ f ih =>
    intro i hi
    have hdr := getD_drop l i ByteArray.empty (by omega)
    have hz := hs _ (getD_mem l i ByteArray.empty (by omega))
    have e : rdOf ByteArray.empty l (i : Int) = l.getD i ByteArray.empty := rfl
    have e2 : hasP (l.drop i) x y d = (decide (d + 1 < (l.getD i ByteArray.empty).size ∧ pB (l.getD i ByteArray.empty) d = y ∧ pB (l.getD i ByteArray.empty) (d + 1) = x) || hasP (l.drop (i + 1)) x y d) := by rw [hdr]; rfl
    rw [e2]
    have step : Ev (fun k => juratref14_Has.l0 k l (x.toNat : Int) (y.toNat : Int) (d : Int) (wrap64 ((i : Int) + 1))) (hasP (l.drop (i + 1)) x y d) := by
      rw [wrap_id (by omega) (by omega)]
      exact ih (i + 1) (by omega)
    generalize l.getD i ByteArray.empty = s at e hz
    by_cases h1 : d + 1 < s.size
    · have hb1 := bt_pB (s := s) (d := d) (by omega)
      have hb2 := bt_pB (s := s) (d := d + 1) (by omega)
      have w1 : wrap64 ((d : Int) + 1) = (d : Int) + 1 := wrap_id (by omega) (by omega)
      have w2 : wrap64 ((s.size : Int) - 1) = (s.size : Int) - 1 := wrap_id (by omega) (by omega)
      have w3 : wrap64 ((s.size : Int) - 1 - (d : Int)) = (s.size : Int) - 1 - (d : Int) := wrap_id (by omega) (by omega)
      have w4 : wrap64 ((s.size : Int) - 2) = (s.size : Int) - 2 := wrap_id (by omega) (by omega)
      have w5 : wrap64 ((s.size : Int) - 2 - (d : Int)) = (s.size : Int) - 1 - ((d + 1 : Nat) : Int) := (wrap_id (by omega) (by omega)).trans (by omega)
      by_cases h2 : pB s d = y
      · by_cases h3 : pB s (d + 1) = x
        · rw [decide_eq_true ⟨h1, h2, h3⟩, Bool.true_or]
          refine Ev.ret fun k => ?_
          simp only [juratref14_Has.l0]
          rw [if_pos (by omega), if_pos (by omega), e, w1, w2, w3, w4, w5, hb1, hb2, if_pos (by omega), if_pos (by omega), if_pos (by omega), if_pos (by rw [h2]), if_pos (by omega), if_pos (by omega), if_pos (by rw [h3])]
        · rw [decide_eq_false (fun h => h3 h.2.2), Bool.false_or]
          refine Ev.step (fun k => ?_) step
          simp only [juratref14_Has.l0]
          rw [if_pos (by omega), if_pos (by omega), e, w1, w2, w3, w4, w5, hb1, hb2, if_pos (by omega), if_pos (by omega), if_pos (by omega), if_pos (by rw [h2]), if_pos (by omega), if_pos (by omega), if_neg (fun hq => h3 (UInt8.toNat_inj.1 (by omega)))]
      · rw [decide_eq_false (fun h => h2 h.2.1), Bool.false_or]
        refine Ev.step (fun k => ?_) step
        simp only [juratref14_Has.l0]
        rw [if_pos (by omega), if_pos (by omega), e, w1, w2, w3, hb1, if_pos (by omega), if_pos (by omega), if_pos (by omega), if_neg (fun hq => h2 (UInt8.toNat_inj.1 (by omega)))]
    · rw [decide_eq_false (fun h => h1 h.1), Bool.false_or]
      refine Ev.step (fun k => ?_) step
      simp only [juratref14_Has.l0]
      rw [if_pos (by omega), if_pos (by omega), e, wrap_id (x := (d : Int) + 1) (by omega) (by omega), if_neg (by omega)]
theorem rhas14_ev (l : List ByteArray) (hl : l.length ≤ 9223372036854775806) (hs : ∀ s ∈ l, s.size ≤ 65535) (x y : UInt8) (d : Nat) (hd : d ≤ 65535) : Ev (fun k => juratref14_Has.f k l (x.toNat : Int) (y.toNat : Int) (d : Int)) (hasP l x y d) := rhas14_l0 l hl hs x y d hd l.length 0 (by omega)
theorem rnear_l0 (w : List ByteArray) (hl : w.length ≤ 65535) (hs : ∀ s ∈ w, s.size ≤ 65535) (x y : UInt8) : ∀ (f i : Nat), i + f = minB w - 1 → (∀ d, d < i → hasP w x y d = false) →
    Ev (fun k => juratref14_Near.l0 k w (x.toNat : Int) (y.toNat : Int) (i : Int)) (prN w x y) := by
  obtain ⟨h1, h2, h3, h4⟩ := prN_spec w x y
  have hmin := fun s hs => min_le (w := w) s hs
  have hm := minB_le16 w hs
  intro f
  induction f with
  | zero =>
    intro i hi hno
    refine Ev.step (f := fun k => (juratref14_Far.f k w).bind fun t281 => (if (i : Int) < t281 then ((juratref14_Has.f k w (x.toNat : Int) (y.toNat : Int) (i : Int)).bind fun t282 => (if t282 = true then (some (i : Int)) else (juratref14_Near.l0 k w (x.toNat : Int) (y.toNat : Int) (wrap64 ((i : Int) + 1))))) else ((juratref14_Far.f k w).bind fun t283 => (some t283)))) (fun k => rfl) ?_
    refine Ev.bind (rfar_ev w hl hs) (Ev.congr (fun k => if_neg (by omega)) ?_)
    have : prN w x y = ((minB w - 1 : Nat) : Int) := by
      rcases h4 with h4 | ⟨s, hs', d, hd, e1, e2, h4⟩
      · exact h4
      · have := hno d (by omega)
        rw [hasP_iff.2 ⟨s, hs', by have := hmin s hs'; omega, e2, e1⟩] at this
        cases this
    rw [this]
    exact Ev.bind (rfar_ev w hl hs) (Ev.now _)
  | succ f ih =>
    intro i hi hno
    refine Ev.step (f := fun k => (juratref14_Far.f k w).bind fun t281 => (if (i : Int) < t281 then ((juratref14_Has.f k w (x.toNat : Int) (y.toNat : Int) (i : Int)).bind fun t282 => (if t282 = true then (some (i : Int)) else (juratref14_Near.l0 k w (x.toNat : Int) (y.toNat : Int) (wrap64 ((i : Int) + 1))))) else ((juratref14_Far.f k w).bind fun t283 => (some t283)))) (fun k => rfl) ?_
    refine Ev.bind (rfar_ev w hl hs) (Ev.congr (fun k => if_pos (by omega)) ?_)
    refine Ev.bind (rhas14_ev w (by omega) hs x y i (by omega)) ?_
    cases hh : hasP w x y i with
    | true =>
      refine Ev.congr (fun k => if_pos rfl) ?_
      obtain ⟨s, hs', hd, e2, e1⟩ := hasP_iff.1 hh
      have hle := h3 s hs' i (by omega) e1 e2
      have : prN w x y = i := by
        rcases h4 with h4 | ⟨s', hs2, d, hd', e1', e2', h4⟩
        · omega
        · by_cases hlt : d < i
          · have := hno d hlt
            rw [hasP_iff.2 ⟨s', hs2, by have := hmin s' hs2; omega, e2', e1'⟩] at this
            cases this
          · omega
      rw [this]
      exact Ev.now _
    | false =>
      refine Ev.congr (fun k => if_neg (by simp)) ?_
      rw [wrap_id (by omega) (by omega)]
      refine ih (i + 1) (by omega) (fun d hd => ?_)
      by_cases h : d = i
      · rw [h]; exact hh
      · exact hno d (by omega)
theorem rnear_ev (w : List ByteArray) (hl : w.length ≤ 65535) (hs : ∀ s ∈ w, s.size ≤ 65535) (x y : UInt8) : Ev (fun k => juratref14_Near.f k w (x.toNat : Int) (y.toNat : Int)) (prN w x y) := rnear_l0 w hl hs x y (minB w - 1) 0 (by omega) (fun d hd => by omega)


theorem pair_ok {l w : List ByteArray} {x : Option SetD} {e : Int} (h : SetOk l x w e) : pair_New.f x = some (some ⟨prTab (minB w - 1) w, ((minB w - 1 : Nat) : Int)⟩) := by
  have hm := minB_le16 w h.size
  unfold pair_New.f
  rw [h.hL, h.hM, if_pos ⟨by omega, by omega, h.few, fun s hs => ⟨by have := min_le s hs; omega, h.size s hs⟩⟩, Int.toNat_natCast]
theorem pnear_ok (w : List ByteArray) (x y : UInt8) : pair_Table_Near.f (some ⟨prTab (minB w - 1) w, ((minB w - 1 : Nat) : Int)⟩) (x.toNat : Int) (y.toNat : Int) = some (prN w x y) := by
  have h1 := UInt8.toNat_lt x
  have h2 := UInt8.toNat_lt y
  simp only [pair_Table_Near.f]
  rw [if_pos ⟨⟨by omega, by omega⟩, by omega, by omega⟩]
  rfl

end Go.Proofs.Ytcehdcijflbgjaa.Base

/- Whether two lists of numbers are the same; no condition beyond the sizes that stand in each statement. -/
namespace Go.Proofs.Ytcehdcijflbgjaa.Base
open Go Go.RowKit Go.Proofs.YtcehdcijflbgjaaW.PrintWords Go.Proofs.YtcehdcijflbgjaaW.PrintMore Go.Proofs.Ytcehdcijflbgjaa.P

/-! the same numbers -/
theorem same1_l0 (a b : List Int) (he : a.length = b.length) (hm : a.length ≤ 9223372036854775807) : ∀ (d i : Nat), i + d = a.length →
    Ev (fun k => juratref01_Same.l0 k a b (i : Int)) (decide (a.drop i = b.drop i)) := by
  intro d
  induction d with
  | zero =>
    intro i hi
    refine Ev.ret fun k => ?_
    simp only [juratref01_Same.l0]
    rw [if_neg (by omega), List.drop_of_length_le (by omega), List.drop_of_length_le (by omega)]
    rfl
  | succ d ih =>
    intro i hi
    by_cases h : rd a (i : Int) = rd b (i : Int)
    · refine Ev.step (f := fun k => juratref01_Same.l0 k a b ((i + 1 : Nat) : Int)) (fun k => ?_) ?_
      · simp only [juratref01_Same.l0]
        rw [if_pos (by omega), if_pos (by omega), if_pos (by omega), if_pos h, wrap_id (by omega) (by omega)]
        rfl
      · have e : decide (a.drop i = b.drop i) = decide (a.drop (i + 1) = b.drop (i + 1)) := by
          rw [getD_drop a i 0 (by omega), getD_drop b i 0 (by omega)]
          have h' : a.getD i 0 = b.getD i 0 := h
          rw [h']
          simp
        rw [e]
        exact ih (i + 1) (by omega)
    · refine Ev.ret fun k => ?_
      simp only [juratref01_Same.l0]
      rw [if_pos (by omega), if_pos (by omega), if_pos (by omega), if_neg h]
      rw [getD_drop a i 0 (by omega), getD_drop b i 0 (by omega)]
      have h' : ¬ a.getD i 0 = b.getD i 0 := h
      rw [decide_eq_false (fun e => h' (List.cons.inj e).1)]
theorem same1 (a b : List Int) (hm : a.length ≤ 9223372036854775807) : Ev (fun k => juratref01_Same.f k a b) (decide (a = b)) := by
  by_cases he : a.length = b.length
  · have h := same1_l0 a b he hm a.length 0 (by omega)
    rw [List.drop_zero, List.drop_zero] at h
    refine Ev.congr (fun k => ?_) h
    unfold juratref01_Same.f
    rw [if_pos (by omega)]
    rfl
  · rw [decide_eq_false (fun e => he (by rw [e]))]
    refine Ev.const fun k => ?_
    unfold juratref01_Same.f
    rw [if_neg (by omega)]

end Go.Proofs.Ytcehdcijflbgjaa.Base

/- Layer 24's example: the walk of awake, and what its steps tell. -/
namespace Go.Proofs.Ytcehdcijflbgjaa.P
open Go Go.RowKit Go.Proofs.YtcehdcijflbgjaaW.PrintWords Go.Proofs.YtcehdcijflbgjaaW.PrintLast Go.Proofs.YtcehdcijflbgjaaW.PrintMore Go.Proofs.Ytcehdcijflbgjaa.Base
set_option linter.unusedVariables false
set_option linter.unusedSimpArgs false

theorem litS2 (W : World) (a b : ByteArray) : Kd.C Kd.string (W.alloc (.cells #[.string a, .string b] 9 (0, 0))) (some ⟨W.heap.size, 0, none⟩) 2 [a, b] :=
  (Kd.R_reads' (show Kd.string.R 9 (W.alloc (.cells #[.string a, .string b] 9 (0, 0))) W.heap.size (fun _ => True) (.slice (some ⟨W.heap.size, 0, none⟩) 2 2) [a, b] from Kd.R_of_own (enc := Value.string) (h1 := fun _ => rfl) ⟨rfl, .inr ⟨W.heap.size, 2, _, rfl, Nat.le_refl _, heap_alloc_new _ _, Nat.le_refl _, by decide, rfl, rfl⟩⟩ (fun _ _ => trivial))).2.2
theorem litI2 (W : World) (a b : Int) : Kd.C (Kd.int .i64) (W.alloc (.cells #[.int .i64 a, .int .i64 b] 3 (0, 0))) (some ⟨W.heap.size, 0, none⟩) 2 [a, b] :=
  (Kd.R_reads' (show (Kd.int .i64).R 3 (W.alloc (.cells #[.int .i64 a, .int .i64 b] 3 (0, 0))) W.heap.size (fun _ => True) (.slice (some ⟨W.heap.size, 0, none⟩) 2 2) [a, b] from Kd.R_of_own (enc := Value.int .i64) (h1 := fun _ => rfl) ⟨rfl, .inr ⟨W.heap.size, 2, _, rfl, Nat.le_refl _, heap_alloc_new _ _, Nat.le_refl _, by decide, rfl, rfl⟩⟩ (fun _ _ => trivial))).2.2
def abc24 : ByteArray := ⟨#[97, 98, 99]⟩
def bc24 : ByteArray := ⟨#[98, 99]⟩
def set24 : SetD := ⟨[abc24, bc24], 2, 3, 5⟩
def probe24 : ProbeD := ⟨some set24, [abc24, bc24], some (bkOfD [abc24, bc24]), some ⟨shTab 2 [abc24, bc24], 2⟩, some ⟨prTab 1 [abc24, bc24], 1⟩⟩
theorem new24 : pats_New.f [abc24, bc24] = some (some set24, 0) := by
  have hs : sortB [abc24, bc24] = [abc24, bc24] := by
    refine (sortB_of (List.Perm.refl _) ?_).symm
    decide
  unfold pats_New.f
  rw [hs]
  rfl
theorem probe24_ok : probe_New.f (some set24) = some (some probe24) := by
  have h1 : pats_Set_List.f (some set24) = some [abc24, bc24] := rfl
  have h2 : bucket_New.f (some set24) = some (some (bkOfD [abc24, bc24])) := by
    unfold bucket_New.f
    rw [if_pos ⟨by decide, by intro s hs; simp only [setL, set24, List.mem_cons, List.not_mem_nil, or_false] at hs; rcases hs with rfl | rfl <;> decide⟩]
    rfl
  have h3 : shift_New.f (some set24) = some (some ⟨shTab 2 [abc24, bc24], 2⟩) := by
    unfold shift_New.f
    rw [if_pos ⟨by decide, by decide, by intro s hs; simp only [setL, set24, List.mem_cons, List.not_mem_nil, or_false] at hs; rcases hs with rfl | rfl <;> exact ⟨by decide, by decide⟩⟩]
    rfl
  have h4 : pair_New.f (some set24) = some (some ⟨prTab 1 [abc24, bc24], 1⟩) := by
    unfold pair_New.f
    rw [if_pos ⟨by decide, by decide, by decide, by intro s hs; simp only [setL, set24, List.mem_cons, List.not_mem_nil, or_false] at hs; rcases hs with rfl | rfl <;> exact ⟨by decide, by decide⟩⟩]
    rfl
  unfold probe_New.f
  rw [h1, h2, h3, h4]
  rfl
theorem min24 : minB [abc24, bc24] = 2 := by decide
theorem of24a : probe_Probe_Of.f (some probe24) (⟨#[120]⟩ : ByteArray) 1 true = some (1, 2, 1, []) := by
  have h1 : shift_Table_First.f (some ⟨shTab 2 [abc24, bc24], 2⟩) ((120 : Nat) : Int) = some (shB [abc24, bc24] 120) := by
    have := sfirst_ok [abc24, bc24] (c := 120) (by decide)
    rw [min24] at this
    exact this
  have h2 : shB [abc24, bc24] 120 = 2 := by decide
  have hb : bt (⟨#[120]⟩ : ByteArray) (((⟨#[120]⟩ : ByteArray).size - 1 : Nat) : Int) = ((120 : Nat) : Int) := by rw [bt_eq]; rfl
  have hj : probe_Probe_Jump.f (some probe24) (⟨#[120]⟩ : ByteArray) 1 = some (1, 2, 1, []) := by
    simp only [probe_Probe_Jump.f]
    rw [if_neg (by decide), if_neg (by decide), hb]
    show (shift_Table_First.f (some ⟨shTab 2 [abc24, bc24], 2⟩) ((120 : Nat) : Int)).bind _ = _
    rw [h1, h2]
    rfl
  simp only [probe_Probe_Of.f]
  rw [if_neg (by decide), hj]
  rfl
theorem of24b : probe_Probe_Of.f (some probe24) (⟨#[120, 97, 98, 99]⟩ : ByteArray) 4 true = some (4, 0, 0, [0, 1]) := by
  have h1 : shift_Table_First.f (some ⟨shTab 2 [abc24, bc24], 2⟩) ((99 : Nat) : Int) = some (shB [abc24, bc24] 99) := by
    have := sfirst_ok [abc24, bc24] (c := 99) (by decide)
    rw [min24] at this
    exact this
  have h2 : shB [abc24, bc24] 99 = 0 := by decide
  have hb : bt (⟨#[120, 97, 98, 99]⟩ : ByteArray) (((⟨#[120, 97, 98, 99]⟩ : ByteArray).size - 1 : Nat) : Int) = ((99 : Nat) : Int) := by rw [bt_eq]; rfl
  have h3 : pair_Table_Clear.f (some ⟨prTab 1 [abc24, bc24], 1⟩) (⟨#[120, 97, 98, 99]⟩ : ByteArray) (((⟨#[120, 97, 98, 99]⟩ : ByteArray).size : Nat) : Int) = some 0 := by
    have h4 := pnear_ok [abc24, bc24] 98 99
    rw [min24] at h4
    have h5 : prN [abc24, bc24] 98 99 = 0 := by decide
    rw [h5] at h4
    have b1 : bt (⟨#[120, 97, 98, 99]⟩ : ByteArray) ((((⟨#[120, 97, 98, 99]⟩ : ByteArray).size : Nat) : Int) - 2) = (((98 : UInt8).toNat : Nat) : Int) := by rw [bt_eq]; rfl
    have b2 : bt (⟨#[120, 97, 98, 99]⟩ : ByteArray) ((((⟨#[120, 97, 98, 99]⟩ : ByteArray).size : Nat) : Int) - 1) = (((99 : UInt8).toNat : Nat) : Int) := by rw [bt_eq]; rfl
    unfold pair_Table_Clear.f
    rw [if_neg (by decide), if_neg (by decide), b1, b2]
    exact h4
  have hj : probe_Probe_Jump.f (some probe24) (⟨#[120, 97, 98, 99]⟩ : ByteArray) 4 = some (0, 0, 0, []) := by
    simp only [probe_Probe_Jump.f]
    rw [if_neg (by decide), if_neg (by decide), hb]
    show (shift_Table_First.f (some ⟨shTab 2 [abc24, bc24], 2⟩) ((99 : Nat) : Int)).bind _ = _
    rw [h1, h2]
    show (pair_Table_Clear.f (some ⟨prTab 1 [abc24, bc24], 1⟩) (⟨#[120, 97, 98, 99]⟩ : ByteArray) (((⟨#[120, 97, 98, 99]⟩ : ByteArray).size : Nat) : Int)).bind _ = _
    rw [h3]
    rfl
  have hh : probe_Probe_Hits.f (some probe24) (⟨#[120, 97, 98, 99]⟩ : ByteArray) = some [0, 1] := by
    have hc : ((LL (⟨#[120, 97, 98, 99]⟩ : ByteArray)).getD ((⟨#[120, 97, 98, 99]⟩ : ByteArray).size - 1) 0).toNat = 99 := rfl
    have hbk : bkOf 99 [abc24, bc24] = [0, 1] := by decide
    have key : ∀ cc : Nat, cc = 99 → (if (⟨#[120, 97, 98, 99]⟩ : ByteArray).size < 4611686018427387904 ∧ ((bkOfD [abc24, bc24]).ids cc).length ≤ 1099511627776 ∧ (∀ x ∈ (bkOfD [abc24, bc24]).ids cc, 0 ≤ x ∧ x < (([abc24, bc24] : List ByteArray).length : Int)) ∧ ∀ s ∈ [abc24, bc24], s.size ≤ 65535 then some (hitsF (⟨#[120, 97, 98, 99]⟩ : ByteArray) [abc24, bc24] ((bkOfD [abc24, bc24]).ids cc)) else none) = some [0, 1] := by
      rintro cc rfl
      have e : (bkOfD [abc24, bc24]).ids 99 = [0, 1] := hbk
      rw [if_pos ⟨by decide, by rw [e]; decide, by rw [e]; decide, by decide⟩, e]
      have : hitsF (⟨#[120, 97, 98, 99]⟩ : ByteArray) [abc24, bc24] [0, 1] = [0, 1] := by decide
      rw [this]
    simp only [probe_Probe_Hits.f]
    rw [if_neg (by decide)]
    exact key _ hc
  simp only [probe_Probe_Of.f]
  rw [if_neg (by decide), hj]
  simp only [Option.bind_some]
  rw [if_neg (by decide), hh]
  rfl
theorem same24 (a b c : Int) (l : List Int) (hl : l.length ≤ 9223372036854775807) : Ev (fun k => juratref24_Same.f k a b c l a b c l) true := by
  unfold juratref24_Same.f
  have h := same1 l l hl
  rw [decide_eq_true rfl] at h
  refine Ev.congr (fun k => if_pos rfl) (Ev.congr (fun k => if_pos rfl) (Ev.congr (fun k => if_pos rfl) (Ev.bind h (Ev.const fun _ => rfl))))
theorem covers24 (n r : Int) (l : List Int) : Ev (fun k => probe_Covers.f k 2 n r l) (if n < 0 then 0 else n) := by
  unfold probe_Covers.f
  refine Ev.congr (fun k => if_neg (by decide)) (Ev.ret fun k => ?_)
  simp only [probe_Covers.j0]
  rw [if_pos (by rfl)]
  unfold mx
  congr 1
  split <;> split <;> omega
def juratlaw24_awake.f : Option Bool := some true
set_option maxHeartbeats 4000000 in
set_option maxRecDepth 100000 in
theorem juratlaw24_awake.calls (r : Bool) (w : World) (h : juratlaw24_awake.f = some r) : Calls Try.prog 7 #[] w fun e w' => e = .returned (.bool r) ∧ Below w.heap.size w w' := by
  obtain rfl := Option.some.inj h
  have hu43 := Try.underlying43
  obtain ⟨k1, hk1⟩ := Ev.all (same24 1 2 1 [] (by decide))
  obtain ⟨k2, hk2⟩ := Ev.all (same24 4 0 0 [0, 1] (by decide))
  obtain ⟨k3, hk3⟩ := Ev.all (covers24 3 0 [])
  have HK1 := Aside0.mk hk1
  have HK2 := Aside0.mk hk2
  have HK3 := Aside0.mk hk3
  clear h hk1 hk2 hk3
  go_enter Try.func7, Try.ntmps7
  go_wp2_with fail
  refine (pats_New.calls (some ⟨w.heap.size, 0, none⟩) 2 [abc24, bc24] (some set24) 0 _ (litS2 w abc24 bc24) (Nat.le_refl _) new24).mono ?_
  rintro e w1 ⟨P, rfl, hob, hb⟩
  have HB1 := Aside0.mk (below_step (below_alloc (Below.refl w.heap.size w) _) hb)
  have HO1 := Aside0.mk hob
  clear hb hob
  dsimp only
  go_wp2_with fail
  refine (probe_New.calls P (some set24) (some probe24) w1 HO1.out probe24_ok).mono ?_
  rintro e w2 ⟨Q, rfl, hob, hb⟩
  have HB2 := Aside0.mk (below_step HB1.out hb)
  have HO2 := Aside0.mk hob
  clear hb hob
  dsimp only
  go_wp2_with fail
  refine (probe_Probe_Of.calls Q (some probe24) (⟨#[120]⟩ : ByteArray) 1 true 1 2 1 [] w2 HO2.out of24a).mono ?_
  rintro e w3 ⟨v, rfl, hR, hb⟩
  have HB3 := Aside0.mk (below_step HB2.out hb)
  have HO3 := Aside0.mk (OB.below hb HO2.out)
  obtain ⟨A, c, rfl⟩ := Kd.R_slice hR
  obtain ⟨_, hc1, hC1⟩ := Kd.R_reads' hR
  have HC1 := Aside0.mk hC1
  have HC2 := Aside0.mk hc1
  clear hb hR hC1 hc1
  dsimp only
  go_wp2_with fail
  refine (juratref24_Same.calls k1 1 2 1 A c [] 1 2 1 none 0 [] true w3 HC1.out HC2.out (Kd.C_nil _ _) (Nat.le_refl _) HK1.out).mono ?_
  rintro e w4 ⟨rfl, hb⟩
  have HB4 := Aside0.mk (below_step HB3.out hb)
  have HO4 := Aside0.mk (OB.below hb HO3.out)
  clear hb
  dsimp only
  go_wp2_with fail
  refine (probe_Probe_Of.calls Q (some probe24) (⟨#[120, 97, 98, 99]⟩ : ByteArray) 4 true 4 0 0 [0, 1] w4 HO4.out of24b).mono ?_
  rintro e w5 ⟨v, rfl, hR, hb⟩
  have HB5 := Aside0.mk (below_step HB4.out hb)
  obtain ⟨A2, c2, rfl⟩ := Kd.R_slice hR
  obtain ⟨_, hc2, hC2⟩ := Kd.R_reads' hR
  have HD1 := Aside0.mk hC2
  have HD2 := Aside0.mk hc2
  clear hb hR hC2 hc2
  dsimp only
  go_wp2_with fail
  refine (juratref24_Same.calls k2 4 0 0 A2 c2 [0, 1] 4 0 0 (some ⟨w5.heap.size, 0, none⟩) 2 [0, 1] true _ (Kd.C_below HD1.out (below_alloc (Below.refl _ _) _)) HD2.out (litI2 w5 0 1) (Nat.le_refl _) HK2.out).mono ?_
  rintro e w6 ⟨rfl, hb⟩
  have HB6 := Aside0.mk (below_step (below_alloc HB5.out _) hb)
  clear hb
  dsimp only
  go_wp2_with fail
  refine (probe_Covers.calls k3 2 3 0 none 0 [] 3 w6 (Kd.C_nil _ _) (Nat.le_refl _) HK3.out).mono ?_
  rintro e w7 ⟨rfl, hb⟩
  have HB7 := Aside0.mk (below_step HB6.out hb)
  clear hb
  dsimp only
  go_wp2_with fail
  go_ret
  exact ⟨rfl, HB7.out⟩
end Go.Proofs.Ytcehdcijflbgjaa.P
