/- Proved here: what Go functions of this seat compute, or a law of it; no condition beyond the statement's own. Written for this claim by a program of this session (wip/myprint.py) over the kit's print.py. -/
import Derived.Test.YtmkcoobmbjoloaaPx0
namespace Go.Proofs.Ytmkcoobmbjoloaa.P
open Go.RowKit Go.Proofs.YtmkcoobmbjoloaaW.PrintWords Go.Proofs.YtmkcoobmbjoloaaW.PrintLast Go.Proofs.YtmkcoobmbjoloaaW.PrintMore
attribute [local go_sem] max2_int min2_int max_two min_two max_three min_three max_four min_four   -- for this text's walks alone
set_option linter.unusedVariables false
set_option linter.unusedSimpArgs false

/-! ### juratref08_Whole: function 46 -/
mutual
def juratref08_Whole.l0 : Nat → ByteArray → Int → Option (Bool)
  | 0, _, _ => none
  | k + 1, x0, x3 => if x3 < (x0.size : Int) then (juratref08_Whole.l1 k x0 x3 (⟨#[]⟩ : ByteArray)) else (some false)
def juratref08_Whole.l1 : Nat → ByteArray → Int → ByteArray → Option (Bool)
  | 0, _, _, _ => none
  | k + 1, x0, x3, x4 => if (x4.size : Int) < (x0.size : Int) then (if 0 ≤ x3 then (if x3 ≤ (x0.size : Int) then (if x4.size + (x0.extract 0 (x3 : Int).toNat).size ≤ 9223372036854775807 then (juratref08_Whole.l1 k x0 x3 (x4 ++ (x0.extract 0 (x3 : Int).toNat))) else (none)) else (none)) else (none)) else (if x4.toList = x0.toList then (some true) else (juratref08_Whole.l0 k x0 (wrap64 (x3 + 1))))
end
def juratref08_Whole.f (k : Nat) (a0 : ByteArray) : Option (Bool) := juratref08_Whole.l0 k a0 1
theorem juratref08_Whole.mono_l : ∀ k, (∀ y0 y1, LeO (juratref08_Whole.l0 k y0 y1) (juratref08_Whole.l0 (k + 1) y0 y1)) ∧ (∀ y0 y1 y2, LeO (juratref08_Whole.l1 k y0 y1 y2) (juratref08_Whole.l1 (k + 1) y0 y1 y2))
  | 0 => ⟨fun _ _ r h => by simp [juratref08_Whole.l0] at h, fun _ _ _ r h => by simp [juratref08_Whole.l1] at h⟩
  | k + 1 => by
    obtain ⟨ih0, ih1⟩ := juratref08_Whole.mono_l k
    refine ⟨?_, ?_⟩
    · intro y0 y1
      unfold juratref08_Whole.l0
      repeat' first
      | (with_reducible exact ih0 _ _)
      | (with_reducible exact ih1 _ _ _)
      | (with_reducible exact LeO.refl _)
      | (with_reducible exact LeO.none _)
      | (with_reducible refine LeO.ite ?_ ?_)
      | (with_reducible refine LeO.bind ?_ (fun _ => ?_))
      | exact ih0 _ _
      | exact ih1 _ _ _
      | exact LeO.none _
      | refine LeO.ite ?_ ?_
      | refine LeO.bind ?_ (fun _ => ?_)
    · intro y0 y1 y2
      unfold juratref08_Whole.l1
      repeat' first
      | (with_reducible exact ih0 _ _)
      | (with_reducible exact ih1 _ _ _)
      | (with_reducible exact LeO.refl _)
      | (with_reducible exact LeO.none _)
      | (with_reducible refine LeO.ite ?_ ?_)
      | (with_reducible refine LeO.bind ?_ (fun _ => ?_))
      | exact ih0 _ _
      | exact ih1 _ _ _
      | exact LeO.none _
      | refine LeO.ite ?_ ?_
      | refine LeO.bind ?_ (fun _ => ?_)
theorem juratref08_Whole.mono : ∀ a0 k, LeO (juratref08_Whole.f k a0) (juratref08_Whole.f (k + 1) a0) := by
  intro a0 k
  obtain ⟨ih0, ih1⟩ := juratref08_Whole.mono_l k
  unfold juratref08_Whole.f
  repeat' first
      | (with_reducible exact ih0 _ _)
      | (with_reducible exact ih1 _ _ _)
      | (with_reducible exact LeO.refl _)
      | (with_reducible exact LeO.none _)
      | (with_reducible refine LeO.ite ?_ ?_)
      | (with_reducible refine LeO.bind ?_ (fun _ => ?_))
      | exact ih0 _ _
      | exact ih1 _ _ _
      | exact LeO.none _
      | refine LeO.ite ?_ ?_
      | refine LeO.bind ?_ (fun _ => ?_)
set_option maxHeartbeats 8000000 in
set_option maxRecDepth 100000 in
theorem juratref08_Whole.calls (k : Nat) (a0 : ByteArray) (r : Bool) (w : World) (h : juratref08_Whole.f k a0 = some r) :
    Calls Try.prog 46 #[.string a0] w fun e w' => e = .returned (.bool r) ∧ Drawn0 w w' := by
  have H : (juratref08_Whole.l0 k a0 1) = some r := h
  clear h
  have H' := Aside0.mk H
  clear H
  go_enter Try.func46, Try.ntmps46
  go_wp2
  go_loopg [3] k (fun kq v3 w' => ∃ (x3_1 : Int), v3 = .int .i64 x3_1 ∧ Aside0 (juratref08_Whole.l0 kq a0 x3_1 = some r) ∧ Aside0 (kq ≤ k) ∧ Drawn0 w w')
  case atStart => exact ⟨(1), (by first | rfl | exact isE_ _ | exact isE2_ _ | (simp; done) | (simp [*]; done)), H', ⟨Nat.le_refl _⟩, by repeat (first | exact Drawn0.refl _ | apply Drawn0.step)⟩
  case round =>
    clear H'
    obtain ⟨x3_1, rfl, HA, HK1, ⟨m1, rfl⟩⟩ := hrel
    cases gk with
    | zero => exact absurd HA.out (by simp [juratref08_Whole.l0])
    | succ k1 =>
      have H := HA.out
      clear HA
      simp only [juratref08_Whole.l0] at H
      by_cases c2 : x3_1 < (a0.size : Int)
      · rw [if_pos c2] at H
        have c2b0 : decide (x3_1 < (a0.size : Int)) = true := decide_eq_true c2
        clear c2
        have H' := Aside0.mk H
        clear H
        go_wp2
        go_loopg [4] k1 (fun kq v4 w' => ∃ (x4_2 : ByteArray), v4 = .string x4_2 ∧ Aside0 (juratref08_Whole.l1 kq a0 x3_1 x4_2 = some r) ∧ Aside0 (kq ≤ k1) ∧ Drawn0 w w')
        case atStart => exact ⟨((⟨#[]⟩ : ByteArray)), (by first | rfl | exact isE_ _ | exact isE2_ _ | (simp; done) | (simp [*]; done)), H', ⟨Nat.le_refl _⟩, by repeat (first | exact Drawn0.refl _ | apply Drawn0.step)⟩
        case round =>
          clear H'
          try clear c2
          try clear c2b0
          try clear p2
          obtain ⟨x4_2, rfl, HA, HK2, ⟨m2, rfl⟩⟩ := hrel
          cases gk with
          | zero => exact absurd HA.out (by simp [juratref08_Whole.l1])
          | succ k2 =>
            have H := HA.out
            clear HA
            simp only [juratref08_Whole.l1] at H
            by_cases c3 : (x4_2.size : Int) < (a0.size : Int)
            · rw [if_pos c3] at H
              have c3b0 : decide ((x4_2.size : Int) < (a0.size : Int)) = true := decide_eq_true c3
              have c3b1 : decide (x4_2.size < a0.size) = true := decide_eq_true (Int.ofNat_lt.mp c3)
              clear c3
              by_cases c4 : 0 ≤ x3_1
              · rw [if_pos c4] at H
                have c4b0 := eq_true c4
                have c4b1 : decide (0 ≤ x3_1) = true := decide_eq_true c4
                clear c4
                by_cases c5 : x3_1 ≤ (a0.size : Int)
                · rw [if_pos c5] at H
                  have c5b0 := eq_true c5
                  have c5b1 : decide (x3_1 ≤ (a0.size : Int)) = true := decide_eq_true c5
                  clear c5
                  by_cases c6 : x4_2.size + (a0.extract 0 (x3_1 : Int).toNat).size ≤ 9223372036854775807
                  · rw [if_pos c6] at H
                    have c6b0 := eq_true c6
                    have c6b1 : decide (x4_2.size + (a0.extract 0 (x3_1 : Int).toNat).size ≤ 9223372036854775807) = true := decide_eq_true c6
                    try have c6b2 : (9223372036854775807 < x4_2.size + (a0.extract 0 (x3_1 : Int).toNat).size) = False := eq_false (Nat.not_lt.2 c6)
                    have H' := Aside0.mk H
                    clear H
                    go_wp2
                    go_roundg k2
                    case measure => have := HK1.out; have := HK2.out; omega
                    case rel => exact ⟨(x4_2 ++ (a0.extract 0 (x3_1 : Int).toNat)), (by first | rfl | exact isE_ _ | exact isE2_ _ | (simp; done) | (simp [*]; done)), H', ⟨by have := HK1.out; have := HK2.out; omega⟩, by repeat (first | exact Drawn0.refl _ | apply Drawn0.step)⟩
                  · rw [if_neg c6] at H
                    exact absurd H (by simp)
                · rw [if_neg c5] at H
                  exact absurd H (by simp)
              · rw [if_neg c4] at H
                exact absurd H (by simp)
            · rw [if_neg c3] at H
              have c3b0 : decide ((x4_2.size : Int) < (a0.size : Int)) = false := decide_eq_false c3
              have c3b1 : decide (x4_2.size < a0.size) = false := decide_eq_false (fun h => c3 (Int.ofNat_lt.mpr h))
              clear c3
              by_cases c7 : x4_2.toList = a0.toList
              · rw [if_pos c7] at H
                have c7b0 : (x4_2.toList == a0.toList) = true := beq_iff_eq.mpr c7
                have c7b1 : (x4_2.toList != a0.toList) = false := bne_eq_false_iff_eq.mpr c7
                clear c7
                obtain rfl := Option.some.inj H
                go_wp2
                go_ret
                exact ⟨by first | rfl | (simp; done) | (simp [*]; done), by repeat (first | exact Drawn0.refl _ | apply Drawn0.step)⟩
              · rw [if_neg c7] at H
                have c7b0 : (x4_2.toList == a0.toList) = false := beq_eq_false_iff_ne.mpr c7
                have c7b1 : (x4_2.toList != a0.toList) = true := bne_iff_ne.mpr c7
                have H' := Aside0.mk H
                clear H
                go_wp2
                go_roundg k2
                case measure => have := HK1.out; have := HK2.out; omega
                case rel => exact ⟨(wrap64 (x3_1 + 1)), (by first | rfl | exact isE_ _ | exact isE2_ _ | (simp; done) | (simp [*]; done)), H', ⟨by have := HK1.out; have := HK2.out; omega⟩, by repeat (first | exact Drawn0.refl _ | apply Drawn0.step)⟩
      · rw [if_neg c2] at H
        have c2b0 : decide (x3_1 < (a0.size : Int)) = false := decide_eq_false c2
        clear c2
        obtain rfl := Option.some.inj H
        go_wp2
        go_ret
        exact ⟨by first | rfl | (simp; done) | (simp [*]; done), by repeat (first | exact Drawn0.refl _ | apply Drawn0.step)⟩

end Go.Proofs.Ytmkcoobmbjoloaa.P
