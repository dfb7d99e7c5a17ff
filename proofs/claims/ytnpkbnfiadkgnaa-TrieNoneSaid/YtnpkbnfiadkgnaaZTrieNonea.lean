/- Proved here: the row of the law TrieNone, with texts that lead to it, merged by a program of this session (wip/merge.py), part 1 of 2; no condition beyond the statement's own. -/
import Derived.Test.YtnpkbnfiadkgnaaPx0
import Derived.Test.YtnpkbnfiadkgnaaPx56
import Derived.Test.YtnpkbnfiadkgnaaH16
import Derived.Test.YtnpkbnfiadkgnaaH10
import Derived.Test.YtnpkbnfiadkgnaaH16a
import Derived.Test.YtnpkbnfiadkgnaaH16b
import Derived.Test.YtnpkbnfiadkgnaaOb16
import Derived.Test.YtnpkbnfiadkgnaaH09t
import Derived.Test.YtnpkbnfiadkgnaaP10
import Derived.Test.YtnpkbnfiadkgnaaH10b
import Derived.Test.YtnpkbnfiadkgnaaBase
import Derived.Test.YtnpkbnfiadkgnaaWLast
import Derived.Laws.BitsLemmas
/- Proved here: what Go functions of this seat compute, or a law of it; no condition beyond the statement's own. Written for this claim by a program of this session (wip/myprint.py) over the kit's print.py. -/
namespace Go.Proofs.Ytnpkbnfiadkgnaa.P
open Go.RowKit Go.Proofs.YtnpkbnfiadkgnaaW.PrintWords Go.Proofs.YtnpkbnfiadkgnaaW.PrintLast Go.Proofs.YtnpkbnfiadkgnaaW.PrintMore
attribute [local go_sem] max2_int min2_int max_two min_two max_three min_three max_four min_four   -- for this text's walks alone
set_option linter.unusedVariables false
set_option linter.unusedSimpArgs false

/-! ### juratref09_Few: function 10 -/
def juratref09_Few.l0 : Nat → List ByteArray → Int → Int → Option (Bool)
  | 0, _, _, _ => none
  | k + 1, x0, x2, x7 => if x7 < (x0.length : Int) then (if 0 ≤ x7 then (if ((rdOf ByteArray.empty x0 x7).size : Int) > x2 then (some false) else (juratref09_Few.l0 k x0 x2 (wrap64 (x7 + 1)))) else (none)) else (some true)
def juratref09_Few.f (k : Nat) (l0 : List ByteArray) (a1 : Int) (a2 : Int) : Option (Bool) := if (l0.length : Int) > a1 then (some false) else (juratref09_Few.l0 k l0 a2 0)
theorem juratref09_Few.mono_l : ∀ k, (∀ y0 y1 y2, LeO (juratref09_Few.l0 k y0 y1 y2) (juratref09_Few.l0 (k + 1) y0 y1 y2))
  | 0 => fun _ _ _ r h => by simp [juratref09_Few.l0] at h
  | k + 1 => by
    have ih0 := juratref09_Few.mono_l k
    · intro y0 y1 y2
      unfold juratref09_Few.l0
      repeat' first
      | (with_reducible exact ih0 _ _ _)
      | (with_reducible exact LeO.refl _)
      | (with_reducible exact LeO.none _)
      | (with_reducible refine LeO.ite ?_ ?_)
      | (with_reducible refine LeO.bind ?_ (fun _ => ?_))
      | exact ih0 _ _ _
      | exact LeO.none _
      | refine LeO.ite ?_ ?_
      | refine LeO.bind ?_ (fun _ => ?_)
theorem juratref09_Few.mono : ∀ a0 a1 a2 k, LeO (juratref09_Few.f k a0 a1 a2) (juratref09_Few.f (k + 1) a0 a1 a2) := by
  intro a0 a1 a2 k
  have ih0 := juratref09_Few.mono_l k
  unfold juratref09_Few.f
  repeat' first
      | (with_reducible exact ih0 _ _ _)
      | (with_reducible exact LeO.refl _)
      | (with_reducible exact LeO.none _)
      | (with_reducible refine LeO.ite ?_ ?_)
      | (with_reducible refine LeO.bind ?_ (fun _ => ?_))
      | exact ih0 _ _ _
      | exact LeO.none _
      | refine LeO.ite ?_ ?_
      | refine LeO.bind ?_ (fun _ => ?_)
set_option maxHeartbeats 8000000 in
set_option maxRecDepth 100000 in
theorem juratref09_Few.calls (k : Nat) (A0 : Option Addr) (c0 : Nat) (l0 : List ByteArray) (a1 : Int) (a2 : Int) (r : Bool) (w : World) (hr0 : Kd.C Kd.string w A0 l0.length l0) (hc0 : l0.length ≤ c0) (h : juratref09_Few.f k l0 a1 a2 = some r) :
    Calls Try.prog 10 #[.slice A0 l0.length c0, .int .i64 a1, .int .i64 a2] w fun e w' => e = .returned (.bool r) ∧ Drawn0 w w' := by
  have HR0 := Aside0.mk hr0
  have HC0 := Aside0.mk hc0
  clear hr0 hc0
  have H : (if (l0.length : Int) > a1 then (some false) else (juratref09_Few.l0 k l0 a2 0)) = some r := h
  clear h
  by_cases c4 : (l0.length : Int) > a1
  · rw [if_pos c4] at H
    have c4b0 : decide (a1 < (l0.length : Int)) = true := decide_eq_true c4
    clear c4
    obtain rfl := Option.some.inj H
    go_enter Try.func10, Try.ntmps10
    go_wp2
    go_ret
    exact ⟨by first | rfl | (simp; done) | (simp [*]; done), by repeat (first | exact Drawn0.refl _ | apply Drawn0.step)⟩
  · rw [if_neg c4] at H
    have c4b0 : decide (a1 < (l0.length : Int)) = false := decide_eq_false c4
    clear c4
    have H' := Aside0.mk H
    clear H
    go_enter Try.func10, Try.ntmps10
    go_wp2
    go_loopg [7] k (fun kq v7 w' => ∃ (x7_1 : Int), v7 = .int .i64 x7_1 ∧ Aside0 (juratref09_Few.l0 kq l0 a2 x7_1 = some r) ∧ Aside0 (kq ≤ k) ∧ Drawn0 w w')
    case atStart => exact ⟨(0), (by first | rfl | exact isE_ _ | exact isE2_ _ | (simp; done) | (simp [*]; done)), H', ⟨Nat.le_refl _⟩, by repeat (first | exact Drawn0.refl _ | apply Drawn0.step)⟩
    case round =>
      clear H'
      try clear c1
      try clear p2
      try clear c4
      try clear c4b0
      obtain ⟨x7_1, rfl, HA, HK1, ⟨m1, rfl⟩⟩ := hrel
      cases gk with
      | zero => exact absurd HA.out (by simp [juratref09_Few.l0])
      | succ k1 =>
        have H := HA.out
        clear HA
        simp only [juratref09_Few.l0] at H
        by_cases c5 : x7_1 < (l0.length : Int)
        · rw [if_pos c5] at H
          have c5b0 : decide (x7_1 < (l0.length : Int)) = true := decide_eq_true c5
          clear c5
          by_cases c6 : 0 ≤ x7_1
          · rw [if_pos c6] at H
            have c6b0 : decide (0 ≤ x7_1) = true := decide_eq_true c6
            clear c6
            by_cases c7 : ((rdOf ByteArray.empty l0 x7_1).size : Int) > a2
            · rw [if_pos c7] at H
              have c7b0 : decide (a2 < ((rdOf ByteArray.empty l0 x7_1).size : Int)) = true := decide_eq_true c7
              clear c7
              obtain rfl := Option.some.inj H
              have p101 : 0 ≤ (x7_1 : Int) := of_decide_eq_true (by first | (with_reducible assumption) | assumption)
              have q101 : x7_1 < (l0.length : Int) := of_decide_eq_true (by first | (with_reducible assumption) | assumption)
              obtain ⟨ad101, e101, hx101_0⟩ := Kd.at_string HR0.out x7_1 p101 q101
              cases e101
              replace p101 := eq_true p101
              replace q101 := eq_true q101
              go_wp2
              go_ret
              exact ⟨by first | rfl | (simp; done) | (simp [*]; done), by repeat (first | exact Drawn0.refl _ | apply Drawn0.step)⟩
            · rw [if_neg c7] at H
              have c7b0 : decide (a2 < ((rdOf ByteArray.empty l0 x7_1).size : Int)) = false := decide_eq_false c7
              clear c7
              have H' := Aside0.mk H
              clear H
              have p101 : 0 ≤ (x7_1 : Int) := of_decide_eq_true (by first | (with_reducible assumption) | assumption)
              have q101 : x7_1 < (l0.length : Int) := of_decide_eq_true (by first | (with_reducible assumption) | assumption)
              obtain ⟨ad101, e101, hx101_0⟩ := Kd.at_string HR0.out x7_1 p101 q101
              cases e101
              replace p101 := eq_true p101
              replace q101 := eq_true q101
              go_wp2
              go_roundg k1
              case measure => have := HK1.out; omega
              case rel => exact ⟨(wrap64 (x7_1 + 1)), (by first | rfl | exact isE_ _ | exact isE2_ _ | (simp; done) | (simp [*]; done)), H', ⟨by have := HK1.out; omega⟩, by repeat (first | exact Drawn0.refl _ | apply Drawn0.step)⟩
          · rw [if_neg c6] at H
            exact absurd H (by simp)
        · rw [if_neg c5] at H
          have c5b0 : decide (x7_1 < (l0.length : Int)) = false := decide_eq_false c5
          clear c5
          obtain rfl := Option.some.inj H
          go_wp2
          go_ret
          exact ⟨by first | rfl | (simp; done) | (simp [*]; done), by repeat (first | exact Drawn0.refl _ | apply Drawn0.step)⟩

end Go.Proofs.Ytnpkbnfiadkgnaa.P

/- Proved here: what Go functions of this seat compute, or a law of it; no condition beyond the statement's own. Written for this claim by a program of this session (wip/myprint.py) over the kit's print.py. -/
namespace Go.Proofs.Ytnpkbnfiadkgnaa.P
open Go.RowKit Go.Proofs.YtnpkbnfiadkgnaaW.PrintWords Go.Proofs.YtnpkbnfiadkgnaaW.PrintLast Go.Proofs.YtnpkbnfiadkgnaaW.PrintMore
attribute [local go_sem] max2_int min2_int max_two min_two max_three min_three max_four min_four   -- for this text's walks alone
set_option linter.unusedVariables false
set_option linter.unusedSimpArgs false

/-! ### juratref09_Twice: function 55 -/
mutual
def juratref09_Twice.l0 : Nat → List ByteArray → Int → Option (Int)
  | 0, _, _ => none
  | k + 1, x0, x3 => if x3 < (x0.length : Int) then (juratref09_Twice.l1 k x0 x3 0) else (some (-1))
def juratref09_Twice.l1 : Nat → List ByteArray → Int → Int → Option (Int)
  | 0, _, _, _ => none
  | k + 1, x0, x3, x4 => if x4 < x3 then (if 0 ≤ x4 then (if x4 < (x0.length : Int) then (if 0 ≤ x3 then (if x3 < (x0.length : Int) then (if (rdOf ByteArray.empty x0 x4).toList = (rdOf ByteArray.empty x0 x3).toList then (some x3) else (juratref09_Twice.l1 k x0 x3 (wrap64 (x4 + 1)))) else (none)) else (none)) else (none)) else (none)) else (juratref09_Twice.l0 k x0 (wrap64 (x3 + 1)))
end
def juratref09_Twice.f (k : Nat) (l0 : List ByteArray) : Option (Int) := juratref09_Twice.l0 k l0 0
theorem juratref09_Twice.mono_l : ∀ k, (∀ y0 y1, LeO (juratref09_Twice.l0 k y0 y1) (juratref09_Twice.l0 (k + 1) y0 y1)) ∧ (∀ y0 y1 y2, LeO (juratref09_Twice.l1 k y0 y1 y2) (juratref09_Twice.l1 (k + 1) y0 y1 y2))
  | 0 => ⟨fun _ _ r h => by simp [juratref09_Twice.l0] at h, fun _ _ _ r h => by simp [juratref09_Twice.l1] at h⟩
  | k + 1 => by
    obtain ⟨ih0, ih1⟩ := juratref09_Twice.mono_l k
    refine ⟨?_, ?_⟩
    · intro y0 y1
      unfold juratref09_Twice.l0
      repeat' first
      | (with_reducible exact ih0 _ _)
      | (with_reducible exact ih1 _ _ _)
      | (with_reducible exact LeO.refl _)
      | (with_reducible exact LeO.none _)
      | (with_reducible refine LeO.ite ?_ ?_)
      | (with_reducible refine LeO.bind ?_ (fun _ => ?_))
      | exact ih0 _ _
      | exact ih1 _ _ _
      | exact LeO.none _
      | refine LeO.ite ?_ ?_
      | refine LeO.bind ?_ (fun _ => ?_)
    · intro y0 y1 y2
      unfold juratref09_Twice.l1
      repeat' first
      | (with_reducible exact ih0 _ _)
      | (with_reducible exact ih1 _ _ _)
      | (with_reducible exact LeO.refl _)
      | (with_reducible exact LeO.none _)
      | (with_reducible refine LeO.ite ?_ ?_)
      | (with_reducible refine LeO.bind ?_ (fun _ => ?_))
      | exact ih0 _ _
      | exact ih1 _ _ _
      | exact LeO.none _
      | refine LeO.ite ?_ ?_
      | refine LeO.bind ?_ (fun _ => ?_)
theorem juratref09_Twice.mono : ∀ a0 k, LeO (juratref09_Twice.f k a0) (juratref09_Twice.f (k + 1) a0) := by
  intro a0 k
  obtain ⟨ih0, ih1⟩ := juratref09_Twice.mono_l k
  unfold juratref09_Twice.f
  repeat' first
      | (with_reducible exact ih0 _ _)
      | (with_reducible exact ih1 _ _ _)
      | (with_reducible exact LeO.refl _)
      | (with_reducible exact LeO.none _)
      | (with_reducible refine LeO.ite ?_ ?_)
      | (with_reducible refine LeO.bind ?_ (fun _ => ?_))
      | exact ih0 _ _
      | exact ih1 _ _ _
      | exact LeO.none _
      | refine LeO.ite ?_ ?_
      | refine LeO.bind ?_ (fun _ => ?_)
set_option maxHeartbeats 8000000 in
set_option maxRecDepth 100000 in
theorem juratref09_Twice.calls (k : Nat) (A0 : Option Addr) (c0 : Nat) (l0 : List ByteArray) (r : Int) (w : World) (hr0 : Kd.C Kd.string w A0 l0.length l0) (hc0 : l0.length ≤ c0) (h : juratref09_Twice.f k l0 = some r) :
    Calls Try.prog 55 #[.slice A0 l0.length c0] w fun e w' => e = .returned (.int .i64 r) ∧ Drawn0 w w' := by
  have HR0 := Aside0.mk hr0
  have HC0 := Aside0.mk hc0
  clear hr0 hc0
  have H : (juratref09_Twice.l0 k l0 0) = some r := h
  clear h
  have H' := Aside0.mk H
  clear H
  go_enter Try.func55, Try.ntmps55
  go_wp2
  repeat (go_quiet (fail); try go_wp2)
  go_loopg [3] k (fun kq v3 w' => ∃ (x3_1 : Int), v3 = .int .i64 x3_1 ∧ Aside0 (juratref09_Twice.l0 kq l0 x3_1 = some r) ∧ Aside0 (kq ≤ k) ∧ Drawn0 w w')
  case atStart => exact ⟨(0), (by first | rfl | exact isE_ _ | exact isE2_ _ | (simp; done) | (simp [*]; done)), H', ⟨Nat.le_refl _⟩, by repeat (first | exact Drawn0.refl _ | apply Drawn0.step)⟩
  case round =>
    clear H'
    obtain ⟨x3_1, rfl, HA, HK1, ⟨m1, rfl⟩⟩ := hrel
    cases gk with
    | zero => exact absurd HA.out (by simp [juratref09_Twice.l0])
    | succ k1 =>
      have H := HA.out
      clear HA
      simp only [juratref09_Twice.l0] at H
      by_cases c2 : x3_1 < (l0.length : Int)
      · rw [if_pos c2] at H
        have c2b0 : decide (x3_1 < (l0.length : Int)) = true := decide_eq_true c2
        clear c2
        have H' := Aside0.mk H
        clear H
        go_wp2
        repeat (go_quiet (fail); try go_wp2)
        go_loopg [4] k1 (fun kq v4 w' => ∃ (x4_2 : Int), v4 = .int .i64 x4_2 ∧ Aside0 (juratref09_Twice.l1 kq l0 x3_1 x4_2 = some r) ∧ Aside0 (kq ≤ k1) ∧ Drawn0 w w')
        case atStart => exact ⟨(0), (by first | rfl | exact isE_ _ | exact isE2_ _ | (simp; done) | (simp [*]; done)), H', ⟨Nat.le_refl _⟩, by repeat (first | exact Drawn0.refl _ | apply Drawn0.step)⟩
        case round =>
          clear H'
          try clear c2
          try clear c2b0
          try clear p2
          obtain ⟨x4_2, rfl, HA, HK2, ⟨m2, rfl⟩⟩ := hrel
          cases gk with
          | zero => exact absurd HA.out (by simp [juratref09_Twice.l1])
          | succ k2 =>
            have H := HA.out
            clear HA
            simp only [juratref09_Twice.l1] at H
            by_cases c3 : x4_2 < x3_1
            · rw [if_pos c3] at H
              have c3b0 : decide (x4_2 < x3_1) = true := decide_eq_true c3
              clear c3
              by_cases c4 : 0 ≤ x4_2
              · rw [if_pos c4] at H
                have c4b0 : decide (0 ≤ x4_2) = true := decide_eq_true c4
                clear c4
                by_cases c5 : x4_2 < (l0.length : Int)
                · rw [if_pos c5] at H
                  have c5b0 : decide (x4_2 < (l0.length : Int)) = true := decide_eq_true c5
                  clear c5
                  by_cases c6 : 0 ≤ x3_1
                  · rw [if_pos c6] at H
                    have c6b0 : decide (0 ≤ x3_1) = true := decide_eq_true c6
                    clear c6
                    by_cases c7 : x3_1 < (l0.length : Int)
                    · rw [if_pos c7] at H
                      have c7b0 : decide (x3_1 < (l0.length : Int)) = true := decide_eq_true c7
                      clear c7
                      by_cases c8 : (rdOf ByteArray.empty l0 x4_2).toList = (rdOf ByteArray.empty l0 x3_1).toList
                      · rw [if_pos c8] at H
                        have c8b0 : ((rdOf ByteArray.empty l0 x4_2).toList == (rdOf ByteArray.empty l0 x3_1).toList) = true := beq_iff_eq.mpr c8
                        have c8b1 : ((rdOf ByteArray.empty l0 x4_2).toList != (rdOf ByteArray.empty l0 x3_1).toList) = false := bne_eq_false_iff_eq.mpr c8
                        clear c8
                        obtain rfl := Option.some.inj H
                        have p121 : 0 ≤ (x4_2 : Int) := of_decide_eq_true (by first | (with_reducible assumption) | assumption)
                        have q121 : x4_2 < (l0.length : Int) := of_decide_eq_true (by first | (with_reducible assumption) | assumption)
                        obtain ⟨ad121, e121, hx121_0⟩ := Kd.at_string HR0.out x4_2 p121 q121
                        cases e121
                        replace p121 := eq_true p121
                        replace q121 := eq_true q121
                        have p122 : 0 ≤ (x3_1 : Int) := of_decide_eq_true (by first | (with_reducible assumption) | assumption)
                        have q122 : x3_1 < (l0.length : Int) := of_decide_eq_true (by first | (with_reducible assumption) | assumption)
                        obtain ⟨ad122, e122, hx122_0⟩ := Kd.at_string HR0.out x3_1 p122 q122
                        obtain rfl : ad121 = ad122 := (by injection e122)
                        replace p122 := eq_true p122
                        replace q122 := eq_true q122
                        go_wp2
                        repeat (go_quiet (fail); try go_wp2)
                        go_ret
                        exact ⟨by first | rfl | (simp; done) | (simp [*]; done), by repeat (first | exact Drawn0.refl _ | apply Drawn0.step)⟩
                      · rw [if_neg c8] at H
                        have c8b0 : ((rdOf ByteArray.empty l0 x4_2).toList == (rdOf ByteArray.empty l0 x3_1).toList) = false := beq_eq_false_iff_ne.mpr c8
                        have c8b1 : ((rdOf ByteArray.empty l0 x4_2).toList != (rdOf ByteArray.empty l0 x3_1).toList) = true := bne_iff_ne.mpr c8
                        have H' := Aside0.mk H
                        clear H
                        have p121 : 0 ≤ (x4_2 : Int) := of_decide_eq_true (by first | (with_reducible assumption) | assumption)
                        have q121 : x4_2 < (l0.length : Int) := of_decide_eq_true (by first | (with_reducible assumption) | assumption)
                        obtain ⟨ad121, e121, hx121_0⟩ := Kd.at_string HR0.out x4_2 p121 q121
                        cases e121
                        replace p121 := eq_true p121
                        replace q121 := eq_true q121
                        have p122 : 0 ≤ (x3_1 : Int) := of_decide_eq_true (by first | (with_reducible assumption) | assumption)
                        have q122 : x3_1 < (l0.length : Int) := of_decide_eq_true (by first | (with_reducible assumption) | assumption)
                        obtain ⟨ad122, e122, hx122_0⟩ := Kd.at_string HR0.out x3_1 p122 q122
                        obtain rfl : ad121 = ad122 := (by injection e122)
                        replace p122 := eq_true p122
                        replace q122 := eq_true q122
                        go_wp2
                        repeat (go_quiet (fail); try go_wp2)
                        go_roundg k2
                        case measure => have := HK1.out; have := HK2.out; omega
                        case rel => exact ⟨(wrap64 (x4_2 + 1)), (by first | rfl | exact isE_ _ | exact isE2_ _ | (simp; done) | (simp [*]; done)), H', ⟨by have := HK1.out; have := HK2.out; omega⟩, by repeat (first | exact Drawn0.refl _ | apply Drawn0.step)⟩
                    · rw [if_neg c7] at H
                      exact absurd H (by simp)
                  · rw [if_neg c6] at H
                    exact absurd H (by simp)
                · rw [if_neg c5] at H
                  exact absurd H (by simp)
              · rw [if_neg c4] at H
                exact absurd H (by simp)
            · rw [if_neg c3] at H
              have c3b0 : decide (x4_2 < x3_1) = false := decide_eq_false c3
              clear c3
              have H' := Aside0.mk H
              clear H
              go_wp2
              repeat (go_quiet (fail); try go_wp2)
              go_roundg k2
              case measure => have := HK1.out; have := HK2.out; omega
              case rel => exact ⟨(wrap64 (x3_1 + 1)), (by first | rfl | exact isE_ _ | exact isE2_ _ | (simp; done) | (simp [*]; done)), H', ⟨by have := HK1.out; have := HK2.out; omega⟩, by repeat (first | exact Drawn0.refl _ | apply Drawn0.step)⟩
      · rw [if_neg c2] at H
        have c2b0 : decide (x3_1 < (l0.length : Int)) = false := decide_eq_false c2
        clear c2
        obtain rfl := Option.some.inj H
        go_wp2
        repeat (go_quiet (fail); try go_wp2)
        go_ret
        exact ⟨by first | rfl | (simp; done) | (simp [*]; done), by repeat (first | exact Drawn0.refl _ | apply Drawn0.step)⟩

end Go.Proofs.Ytnpkbnfiadkgnaa.P

/- Proved here: what Go functions of this seat compute, or a law of it; no condition beyond the statement's own. Written for this claim by a program of this session (wip/myprint.py) over the kit's print.py. -/
namespace Go.Proofs.Ytnpkbnfiadkgnaa.P
open Go.RowKit Go.Proofs.YtnpkbnfiadkgnaaW.PrintWords Go.Proofs.YtnpkbnfiadkgnaaW.PrintLast Go.Proofs.YtnpkbnfiadkgnaaW.PrintMore
attribute [local go_sem] max2_int min2_int max_two min_two max_three min_three max_four min_four   -- for this text's walks alone
set_option linter.unusedVariables false
set_option linter.unusedSimpArgs false

/-! ### juratref10_New: function 13 -/
def juratref10_New.l0 : Nat → List ByteArray → Int → Int → Option (List ByteArray × Int)
  | 0, _, _, _ => none
  | k + 1, x0, x4, x5 => if x5 < (x0.length : Int) then (if 0 ≤ x5 then (if (rdOf ByteArray.empty x0 x5).toList = ([] : List UInt8) then (some (([] : List ByteArray), 7)) else (if ((rdOf ByteArray.empty x0 x5).size : Int) > 65535 then (some (([] : List ByteArray), 5)) else (juratref10_New.l0 k x0 (wrap64 (x4 + ((rdOf ByteArray.empty x0 x5).size : Int))) (wrap64 (x5 + 1))))) else (none)) else (if x4 > 16777216 then (some (([] : List ByteArray), 13)) else ((juratref09_Twice.f k x0).bind fun t173 => (if t173 ≥ 0 then (some (([] : List ByteArray), 8)) else ((juratref09_Sorted.f k x0).bind fun t174 => (some (t174, 0))))))
def juratref10_New.f (k : Nat) (l0 : List ByteArray) : Option (List ByteArray × Int) := if (l0.length : Int) = 0 then (some (([] : List ByteArray), 14)) else (if (l0.length : Int) > 65535 then (some (([] : List ByteArray), 6)) else (juratref10_New.l0 k l0 0 0))
theorem juratref10_New.mono_l : ∀ k, (∀ y0 y1 y2, LeO (juratref10_New.l0 k y0 y1 y2) (juratref10_New.l0 (k + 1) y0 y1 y2))
  | 0 => fun _ _ _ r h => by simp [juratref10_New.l0] at h
  | k + 1 => by
    have ih0 := juratref10_New.mono_l k
    · intro y0 y1 y2
      unfold juratref10_New.l0
      repeat' first
      | (with_reducible exact ih0 _ _ _)
      | (with_reducible exact juratref09_Sorted.mono _ _)
      | (with_reducible exact juratref09_Twice.mono _ _)
      | (with_reducible exact LeO.refl _)
      | (with_reducible exact LeO.none _)
      | (with_reducible refine LeO.ite ?_ ?_)
      | (with_reducible refine LeO.bind ?_ (fun _ => ?_))
      | exact ih0 _ _ _
      | exact juratref09_Sorted.mono _ _
      | exact juratref09_Twice.mono _ _
      | exact LeO.none _
      | refine LeO.ite ?_ ?_
      | refine LeO.bind ?_ (fun _ => ?_)
theorem juratref10_New.mono : ∀ a0 k, LeO (juratref10_New.f k a0) (juratref10_New.f (k + 1) a0) := by
  intro a0 k
  have ih0 := juratref10_New.mono_l k
  unfold juratref10_New.f
  repeat' first
      | (with_reducible exact ih0 _ _ _)
      | (with_reducible exact juratref09_Sorted.mono _ _)
      | (with_reducible exact juratref09_Twice.mono _ _)
      | (with_reducible exact LeO.refl _)
      | (with_reducible exact LeO.none _)
      | (with_reducible refine LeO.ite ?_ ?_)
      | (with_reducible refine LeO.bind ?_ (fun _ => ?_))
      | exact ih0 _ _ _
      | exact juratref09_Sorted.mono _ _
      | exact juratref09_Twice.mono _ _
      | exact LeO.none _
      | refine LeO.ite ?_ ?_
      | refine LeO.bind ?_ (fun _ => ?_)
set_option maxHeartbeats 8000000 in
set_option maxRecDepth 100000 in
theorem juratref10_New.calls (k : Nat) (A0 : Option Addr) (c0 : Nat) (l0 : List ByteArray) (r1 : List ByteArray) (r2 : Int) (w : World) (hr0 : Kd.C Kd.string w A0 l0.length l0) (hc0 : l0.length ≤ c0) (h : juratref10_New.f k l0 = some (r1, r2)) :
    Calls Try.prog 13 #[.slice A0 l0.length c0] w fun e w' => ∃ v0_ : Value, e = .returned (.tuple #[v0_, .int .i64 r2]) ∧ Kd.R Kd.string 9 w' w.heap.size (fun _ => True) v0_ r1 ∧ Below w.heap.size w w' := by
  have HR0 := Aside0.mk hr0
  have HC0 := Aside0.mk hc0
  clear hr0 hc0
  have HB := Aside0.mk (Below.refl w.heap.size w)
  have H : (if (l0.length : Int) = 0 then (some (([] : List ByteArray), 14)) else (if (l0.length : Int) > 65535 then (some (([] : List ByteArray), 6)) else (juratref10_New.l0 k l0 0 0))) = some (r1, r2) := h
  clear h
  by_cases c2 : (l0.length : Int) = 0
  · rw [if_pos c2] at H
    have c2b0 : ((l0.length : Int) == 0) = true := beq_iff_eq.mpr c2
    have c2b1 : ((l0.length : Int) != 0) = false := bne_eq_false_iff_eq.mpr c2
    clear c2
    simp only [Option.some.injEq, Prod.mk.injEq] at H
    obtain ⟨rfl, rfl⟩ := H
    go_enter Try.func13, Try.ntmps13
    go_wp2
    go_ret2
    exact ⟨_, by first | rfl | (simp [errW_none, errW_some] <;> rfl) | (simp [*, errW_none, errW_some] <;> rfl), by first | exact Kd.R_nil _ _ _ _ _ | exact Kd.N_nil _ _ _ _ _ | exact Kd.V_nil _ _ _ _ _ | exact Kd.Q_nil _ _ _ _ _ | exact Kd.S_nil _ _ _ _ _, by repeat (first | (with_reducible first | exact HB.out | apply below_alloc | apply pw_below_drewN | apply below_drew1) | exact HB.out)⟩
  · rw [if_neg c2] at H
    have c2b0 : ((l0.length : Int) == 0) = false := beq_eq_false_iff_ne.mpr c2
    have c2b1 : ((l0.length : Int) != 0) = true := bne_iff_ne.mpr c2
    have c2b2 : ¬ (l0 = []) := fun h_ => c2 (by rw [h_]; rfl)
    by_cases c3 : (l0.length : Int) > 65535
    · rw [if_pos c3] at H
      have c3b0 : decide (65535 < (l0.length : Int)) = true := decide_eq_true c3
      have c3b1 : decide (65535 < l0.length) = true := decide_eq_true (by omega)
      clear c3
      simp only [Option.some.injEq, Prod.mk.injEq] at H
      obtain ⟨rfl, rfl⟩ := H
      go_enter Try.func13, Try.ntmps13
      go_wp2
      go_ret2
      exact ⟨_, by first | rfl | (simp [errW_none, errW_some] <;> rfl) | (simp [*, errW_none, errW_some] <;> rfl), by first | exact Kd.R_nil _ _ _ _ _ | exact Kd.N_nil _ _ _ _ _ | exact Kd.V_nil _ _ _ _ _ | exact Kd.Q_nil _ _ _ _ _ | exact Kd.S_nil _ _ _ _ _, by repeat (first | (with_reducible first | exact HB.out | apply below_alloc | apply pw_below_drewN | apply below_drew1) | exact HB.out)⟩
    · rw [if_neg c3] at H
      have c3b0 : decide (65535 < (l0.length : Int)) = false := decide_eq_false c3
      have c3b1 : decide (65535 < l0.length) = false := decide_eq_false (by omega)
      clear c3
      have H' := Aside0.mk H
      clear H
      go_enter Try.func13, Try.ntmps13
      go_wp2
      go_loopg [4, 5] k (fun kq v4 v5 w' => ∃ (x4_1 : Int) (x5_1 : Int), v4 = .int .i64 x4_1 ∧ v5 = .int .i64 x5_1 ∧ Aside0 (juratref10_New.l0 kq l0 x4_1 x5_1 = some (r1, r2)) ∧ Aside0 (kq ≤ k) ∧ Aside0 (Below w.heap.size w w'))
      case atStart => exact ⟨(0), (0), (by first | rfl | exact isE_ _ | exact isE2_ _ | (simp; done) | (simp [*]; done)), (by first | rfl | exact isE_ _ | exact isE2_ _ | (simp; done) | (simp [*]; done)), H', ⟨Nat.le_refl _⟩, ⟨by repeat (first | (with_reducible first | exact HB.out | apply below_alloc | apply pw_below_drewN | apply below_drew1) | exact HB.out)⟩⟩
      case round =>
        clear H'
        try clear c1
        try clear c2
        try clear c2b0
        try clear c2b1
        try clear c2b2
        try clear p2
        try clear c3
        try clear c3b0
        try clear c3b1
        obtain ⟨x4_1, x5_1, rfl, rfl, HA, HK1, HB⟩ := hrel
        cases gk with
        | zero => exact absurd HA.out (by simp [juratref10_New.l0])
        | succ k1 =>
          have H := HA.out
          clear HA
          simp only [juratref10_New.l0] at H
          by_cases c4 : x5_1 < (l0.length : Int)
          · rw [if_pos c4] at H
            have c4b0 : decide (x5_1 < (l0.length : Int)) = true := decide_eq_true c4
            clear c4
            by_cases c5 : 0 ≤ x5_1
            · rw [if_pos c5] at H
              have c5b0 : decide (0 ≤ x5_1) = true := decide_eq_true c5
              clear c5
              by_cases c6 : (rdOf ByteArray.empty l0 x5_1).toList = ([] : List UInt8)
              · rw [if_pos c6] at H
                have c6b0 : ((rdOf ByteArray.empty l0 x5_1).toList == ([] : List UInt8)) = true := beq_iff_eq.mpr c6
                have c6b1 : ((rdOf ByteArray.empty l0 x5_1).toList != ([] : List UInt8)) = false := bne_eq_false_iff_eq.mpr c6
                clear c6
                simp only [Option.some.injEq, Prod.mk.injEq] at H
                obtain ⟨rfl, rfl⟩ := H
                have p170 : 0 ≤ (x5_1 : Int) := of_decide_eq_true (by first | (with_reducible assumption) | assumption)
                have q170 : x5_1 < (l0.length : Int) := of_decide_eq_true (by first | (with_reducible assumption) | assumption)
                obtain ⟨ad170, e170, hx170_0⟩ := Kd.at_string HR0.out x5_1 p170 q170
                cases e170
                replace hx170_0 := (HB.out.cell (World.block_lt_of_cell? w _ hx170_0)).trans hx170_0
                replace p170 := eq_true p170
                replace q170 := eq_true q170
                go_wp2
                go_ret2
                exact ⟨_, by first | rfl | (simp [errW_none, errW_some] <;> rfl) | (simp [*, errW_none, errW_some] <;> rfl), by first | exact Kd.R_nil _ _ _ _ _ | exact Kd.N_nil _ _ _ _ _ | exact Kd.V_nil _ _ _ _ _ | exact Kd.Q_nil _ _ _ _ _ | exact Kd.S_nil _ _ _ _ _, by repeat (first | (with_reducible first | exact HB.out | apply below_alloc | apply pw_below_drewN | apply below_drew1) | exact HB.out)⟩
              · rw [if_neg c6] at H
                have c6b0 : ((rdOf ByteArray.empty l0 x5_1).toList == ([] : List UInt8)) = false := beq_eq_false_iff_ne.mpr c6
                have c6b1 : ((rdOf ByteArray.empty l0 x5_1).toList != ([] : List UInt8)) = true := bne_iff_ne.mpr c6
                by_cases c7 : ((rdOf ByteArray.empty l0 x5_1).size : Int) > 65535
                · rw [if_pos c7] at H
                  have c7b0 : decide (65535 < ((rdOf ByteArray.empty l0 x5_1).size : Int)) = true := decide_eq_true c7
                  have c7b1 : decide (65535 < (rdOf ByteArray.empty l0 x5_1).size) = true := decide_eq_true (by omega)
                  clear c7
                  simp only [Option.some.injEq, Prod.mk.injEq] at H
                  obtain ⟨rfl, rfl⟩ := H
                  have p170 : 0 ≤ (x5_1 : Int) := of_decide_eq_true (by first | (with_reducible assumption) | assumption)
                  have q170 : x5_1 < (l0.length : Int) := of_decide_eq_true (by first | (with_reducible assumption) | assumption)
                  obtain ⟨ad170, e170, hx170_0⟩ := Kd.at_string HR0.out x5_1 p170 q170
                  cases e170
                  replace hx170_0 := (HB.out.cell (World.block_lt_of_cell? w _ hx170_0)).trans hx170_0
                  replace p170 := eq_true p170
                  replace q170 := eq_true q170
                  have p171 : 0 ≤ (x5_1 : Int) := of_decide_eq_true (by first | (with_reducible assumption) | assumption)
                  have q171 : x5_1 < (l0.length : Int) := of_decide_eq_true (by first | (with_reducible assumption) | assumption)
                  obtain ⟨ad171, e171, hx171_0⟩ := Kd.at_string HR0.out x5_1 p171 q171
                  obtain rfl : ad170 = ad171 := (by injection e171)
                  replace hx171_0 := (HB.out.cell (World.block_lt_of_cell? w _ hx171_0)).trans hx171_0
                  replace p171 := eq_true p171
                  replace q171 := eq_true q171
                  go_wp2
                  go_ret2
                  exact ⟨_, by first | rfl | (simp [errW_none, errW_some] <;> rfl) | (simp [*, errW_none, errW_some] <;> rfl), by first | exact Kd.R_nil _ _ _ _ _ | exact Kd.N_nil _ _ _ _ _ | exact Kd.V_nil _ _ _ _ _ | exact Kd.Q_nil _ _ _ _ _ | exact Kd.S_nil _ _ _ _ _, by repeat (first | (with_reducible first | exact HB.out | apply below_alloc | apply pw_below_drewN | apply below_drew1) | exact HB.out)⟩
                · rw [if_neg c7] at H
                  have c7b0 : decide (65535 < ((rdOf ByteArray.empty l0 x5_1).size : Int)) = false := decide_eq_false c7
                  have c7b1 : decide (65535 < (rdOf ByteArray.empty l0 x5_1).size) = false := decide_eq_false (by omega)
                  clear c7
                  have H' := Aside0.mk H
                  clear H
                  have p170 : 0 ≤ (x5_1 : Int) := of_decide_eq_true (by first | (with_reducible assumption) | assumption)
                  have q170 : x5_1 < (l0.length : Int) := of_decide_eq_true (by first | (with_reducible assumption) | assumption)
                  obtain ⟨ad170, e170, hx170_0⟩ := Kd.at_string HR0.out x5_1 p170 q170
                  cases e170
                  replace hx170_0 := (HB.out.cell (World.block_lt_of_cell? w _ hx170_0)).trans hx170_0
                  replace p170 := eq_true p170
                  replace q170 := eq_true q170
                  have p171 : 0 ≤ (x5_1 : Int) := of_decide_eq_true (by first | (with_reducible assumption) | assumption)
                  have q171 : x5_1 < (l0.length : Int) := of_decide_eq_true (by first | (with_reducible assumption) | assumption)
                  obtain ⟨ad171, e171, hx171_0⟩ := Kd.at_string HR0.out x5_1 p171 q171
                  obtain rfl : ad170 = ad171 := (by injection e171)
                  replace hx171_0 := (HB.out.cell (World.block_lt_of_cell? w _ hx171_0)).trans hx171_0
                  replace p171 := eq_true p171
                  replace q171 := eq_true q171
                  have p172 : 0 ≤ (x5_1 : Int) := of_decide_eq_true (by first | (with_reducible assumption) | assumption)
                  have q172 : x5_1 < (l0.length : Int) := of_decide_eq_true (by first | (with_reducible assumption) | assumption)
                  obtain ⟨ad172, e172, hx172_0⟩ := Kd.at_string HR0.out x5_1 p172 q172
                  obtain rfl : ad170 = ad172 := (by injection e172)
                  replace hx172_0 := (HB.out.cell (World.block_lt_of_cell? w _ hx172_0)).trans hx172_0
                  replace p172 := eq_true p172
                  replace q172 := eq_true q172
                  go_wp2
                  go_roundg k1
                  case measure => have := HK1.out; omega
                  case rel => exact ⟨(wrap64 (x4_1 + ((rdOf ByteArray.empty l0 x5_1).size : Int))), (wrap64 (x5_1 + 1)), (by first | rfl | exact isE_ _ | exact isE2_ _ | (simp; done) | (simp [*]; done)), (by first | rfl | exact isE_ _ | exact isE2_ _ | (simp; done) | (simp [*]; done)), H', ⟨by have := HK1.out; omega⟩, ⟨by repeat (first | (with_reducible first | exact HB.out | apply below_alloc | apply pw_below_drewN | apply below_drew1) | exact HB.out)⟩⟩
            · rw [if_neg c5] at H
              exact absurd H (by simp)
          · rw [if_neg c4] at H
            have c4b0 : decide (x5_1 < (l0.length : Int)) = false := decide_eq_false c4
            clear c4
            by_cases c8 : x4_1 > 16777216
            · rw [if_pos c8] at H
              have c8b0 : decide (16777216 < x4_1) = true := decide_eq_true c8
              clear c8
              simp only [Option.some.injEq, Prod.mk.injEq] at H
              obtain ⟨rfl, rfl⟩ := H
              go_wp2
              go_ret2
              exact ⟨_, by first | rfl | (simp [errW_none, errW_some] <;> rfl) | (simp [*, errW_none, errW_some] <;> rfl), by first | exact Kd.R_nil _ _ _ _ _ | exact Kd.N_nil _ _ _ _ _ | exact Kd.V_nil _ _ _ _ _ | exact Kd.Q_nil _ _ _ _ _ | exact Kd.S_nil _ _ _ _ _, by repeat (first | (with_reducible first | exact HB.out | apply below_alloc | apply pw_below_drewN | apply below_drew1) | exact HB.out)⟩
            · rw [if_neg c8] at H
              have c8b0 : decide (16777216 < x4_1) = false := decide_eq_false c8
              clear c8
              replace H := Option.bind_eq_some_iff.mp H
              obtain ⟨t173, A90, H⟩ := H
              replace H : (if t173 ≥ 0 then (some (([] : List ByteArray), 8)) else ((juratref09_Sorted.f k1 l0).bind fun t174 => (some (t174, 0)))) = some (r1, r2) := H
              have A9 := Aside0.mk A90
              clear A90
              by_cases c10 : t173 ≥ 0
              · rw [if_pos c10] at H
                have c10b0 : decide (0 ≤ t173) = true := decide_eq_true c10
                clear c10
                simp only [Option.some.injEq, Prod.mk.injEq] at H
                obtain ⟨rfl, rfl⟩ := H
                go_wp2_with (first | ((with_reducible refine gate_callee (f := 55) rfl ?_); refine goesL_ (some 39) rfl rfl Try.func55 (by kernel_rfl) rfl #[.slice A0 l0.length c0] rfl (by (try simp only [List.map_toArray, List.map_cons, List.map_nil]); first | done | rfl | (simp only [List.length_drop, List.length_take]; rfl)) ?_; (with_reducible refine (juratref09_Twice.calls k1 _ _ l0 t173 _ ?side1 ?side2 A9.out).mono ?_); (case side1 => repeat (first | exact (Kd.C_below HR0.out HB.out) | (with_reducible refine Kd.C_alloc ?_ _) | (with_reducible refine Kd.C_drewN ?_ _) | (with_reducible refine Kd.C_drew ?_))); (case side2 => exact HC0.out); rintro e w' ⟨rfl, ⟨nd, rfl⟩⟩; refine ⟨_, rfl, ?_⟩))
                go_ret2
                exact ⟨_, by first | rfl | (simp [errW_none, errW_some] <;> rfl) | (simp [*, errW_none, errW_some] <;> rfl), by first | exact Kd.R_nil _ _ _ _ _ | exact Kd.N_nil _ _ _ _ _ | exact Kd.V_nil _ _ _ _ _ | exact Kd.Q_nil _ _ _ _ _ | exact Kd.S_nil _ _ _ _ _, by repeat (first | (with_reducible first | exact HB.out | apply below_alloc | apply pw_below_drewN | apply below_drew1) | exact HB.out)⟩
              · rw [if_neg c10] at H
                have c10b0 : decide (0 ≤ t173) = false := decide_eq_false c10
                clear c10
                replace H := Option.bind_eq_some_iff.mp H
                obtain ⟨t174, A110, H⟩ := H
                replace H : (some (t174, 0)) = some (r1, r2) := H
                have A11 := Aside0.mk A110
                clear A110
                simp only [Option.some.injEq, Prod.mk.injEq] at H
                obtain ⟨rfl, rfl⟩ := H
                go_wp2_with (first | ((with_reducible refine gate_callee (f := 55) rfl ?_); refine goesL_ (some 39) rfl rfl Try.func55 (by kernel_rfl) rfl #[.slice A0 l0.length c0] rfl (by (try simp only [List.map_toArray, List.map_cons, List.map_nil]); first | done | rfl | (simp only [List.length_drop, List.length_take]; rfl)) ?_; (with_reducible refine (juratref09_Twice.calls k1 _ _ l0 t173 _ ?side1 ?side2 A9.out).mono ?_); (case side1 => repeat (first | exact (Kd.C_below HR0.out HB.out) | (with_reducible refine Kd.C_alloc ?_ _) | (with_reducible refine Kd.C_drewN ?_ _) | (with_reducible refine Kd.C_drew ?_))); (case side2 => exact HC0.out); rintro e w' ⟨rfl, ⟨nd, rfl⟩⟩; refine ⟨_, rfl, ?_⟩) | ((with_reducible refine gate_callee (f := 56) rfl ?_); refine goesL_ (some 42) rfl rfl Try.func56 (by kernel_rfl) rfl #[.slice A0 l0.length c0] rfl (by (try simp only [List.map_toArray, List.map_cons, List.map_nil]); first | done | rfl | (simp only [List.length_drop, List.length_take]; rfl)) ?_; (with_reducible refine (juratref09_Sorted.calls k1 _ _ l0 t174 _ ?side1 ?side2 A11.out).mono ?_); (case side1 => repeat (first | exact (Kd.C_below HR0.out (by repeat (first | (with_reducible first | exact HB.out | apply below_alloc | apply pw_below_drewN | apply below_drew1) | exact HB.out))) | (with_reducible refine Kd.C_alloc ?_ _) | (with_reducible refine Kd.C_drewN ?_ _) | (with_reducible refine Kd.C_drew ?_))); (case side2 => exact HC0.out); rintro e w12 ⟨v175, rfl, ho0, hb⟩; refine ⟨_, rfl, ?_⟩; have n0_ := Aside0.mk (Kd.R_lower ho0 (below_size (by repeat (first | (with_reducible first | exact HB.out | apply below_alloc | apply pw_below_drewN | apply below_drew1) | exact HB.out)))); have n1_ := Aside0.mk (below_step (by repeat (first | (with_reducible first | exact HB.out | apply below_alloc | apply pw_below_drewN | apply below_drew1) | exact HB.out)) hb); clear HB; have HO176 := n0_; have HB := n1_; clear n0_ n1_; (try clear hb); (try clear hb2); (try clear hk); (try clear hi); (try clear ho0)))
                go_ret2
                exact ⟨_, by first | rfl | (simp [errW_none, errW_some] <;> rfl) | (simp [*, errW_none, errW_some] <;> rfl), by (with_reducible repeat (first | apply Kd.R_alloc | apply Kd.R_drewN | apply Kd.R_drew)); exact HO176.out, by repeat (first | (with_reducible first | exact HB.out | apply below_alloc | apply pw_below_drewN | apply below_drew1) | exact HB.out)⟩

end Go.Proofs.Ytnpkbnfiadkgnaa.P

/- A trie is made of a set: the walk of New, job by job. -/
namespace Go.Proofs.Ytnpkbnfiadkgnaa.P
open Go Go.RowKit Go.Proofs.YtnpkbnfiadkgnaaW.PrintWords Go.Proofs.YtnpkbnfiadkgnaaW.PrintLast Go.Proofs.YtnpkbnfiadkgnaaW.PrintMore Go.Proofs.Ytnpkbnfiadkgnaa.Base
set_option linter.unusedVariables false
set_option linter.unusedSimpArgs false

/-- Texts of which a trie is made here. -/
abbrev okT (l : List ByteArray) : Prop := (upB l ∧ l.Nodup) ∧ l.length ≤ 65535 ∧ (∀ s ∈ l, 0 < s.size ∧ s.size ≤ 65535) ∧ sizes l ≤ 16777216
def trie_New.f (a0 : Option SetD) : Option (Option TrieD) := if okT (setL a0) then some (some (trS (setL a0))) else none
theorem srt_of {l : List ByteArray} (h : upB l ∧ l.Nodup) : srt l := fun t u h1 h2 => by
  have h3 := List.pairwise_iff_getElem.1 h.1 t u (by omega) h2 h1
  have h4 := List.pairwise_iff_getElem.1 h.2 t u (by omega) h2 h1
  rw [List.getD_eq_getElem?_getD, List.getD_eq_getElem?_getD, List.getElem?_eq_getElem (by omega), List.getElem?_eq_getElem h2]
  show Op.bytesLess (LL l[t]) (LL l[u]) = true
  rcases bl_tri (LL l[t]) (LL l[u]) with h5 | h5 | h5
  · exact absurd (LL_inj h5) h4
  · exact h5
  · rw [h5] at h3; cases h3
theorem job_ok {l : List ByteArray} (h : okT l) {k : Nat} {n : NodeD} (hn : (nodesAt l k)[k]? = some n) : JobOk l (stK l k) (jsK l k) k n.lo n.hi n.path.length 0 := by
  obtain ⟨h1, h2, h3, h4⟩ := h
  have hs := srt_of h1
  have hm := List.mem_of_getElem? hn
  have ok := nodes_ok hs k n hm
  have hf := nodes_few hs k
  have hc := jsK_cons l k n hn
  obtain ⟨hlt, he⟩ := List.getElem?_eq_some_iff.1 hn
  have hsl := stK_length l k
  have hjl : (jsK l k).length = (nodesAt l k).length - k := by unfold jsK; simp
  have hst : (stK l k).getD k default = fresh n := by
    rw [List.getD_eq_getElem?_getD]
    unfold stK
    rw [List.getElem?_mapIdx, hn]
    simp
  refine ⟨by rw [hc]; rfl, by rw [hc]; simp, by omega, by omega, by omega, by rw [hst]; rfl, by rw [hst]; rfl, by omega, ok.le, ok.top, fun t t1 t2 => ?_, fun t t1 t2 => ?_⟩
  · have := (ok.pre t t1 t2).length_le
    rw [LL_length] at this
    exact ⟨this, (h3 _ (getD_mem l t ByteArray.empty (by have := ok.top; omega))).2⟩
  · exact own_first (ok.pre n.lo (Nat.le_refl _) (by omega)) (ok.pre t (by omega) t2) (hs n.lo t t1 (by have := ok.top; omega))
theorem trS_end {l : List ByteArray} (h : srt l) {k : Nat} (hk : (nodesAt l k).length ≤ k) (hk2 : k ≤ trK l) : stK l k = trS l := by
  have e := nodes_stop hk (trK l) hk2
  have hl := trN_le h
  unfold trN at hl
  unfold trS stK
  rw [e] at hl ⊢
  apply List.ext_getElem?
  intro i
  rw [List.getElem?_mapIdx, List.getElem?_mapIdx]
  cases hi : (nodesAt l k)[i]? with
  | none => rfl
  | some n =>
    have := (List.getElem?_eq_some_iff.1 hi).1
    simp only [Option.map_some]
    rw [if_pos (by omega), if_pos (by omega)]
set_option maxHeartbeats 16000000 in
set_option maxRecDepth 100000 in
theorem trie_New.calls (Pa0 : Option Addr) (a0 : Option SetD) (r : Option TrieD) (w : World) (ho : OB K77 w Pa0 a0) (h : trie_New.f a0 = some r) :
    Calls Try.prog 37 #[.pointer Pa0] w fun e w' => ∃ P0_ : Option Addr, e = .returned (.pointer P0_) ∧ OB K93 w' P0_ r ∧ Below w.heap.size w w' := by
  unfold trie_New.f at h
  by_cases hs : okT (setL a0)
  rotate_left
  · rw [if_neg hs] at h; cases h
  rw [if_pos hs] at h
  have HO := Aside0.mk ho
  have hLi := fun W (g : OB K77 W Pa0 a0) => pats_Set_List.calls Pa0 a0 (setL a0) W g (by
    cases a0 with
    | none => rfl
    | some d => show (if d.l.length ≤ 8796093022208 then some d.l else none) = _; rw [if_pos (show d.l.length ≤ 8796093022208 from by have := hs.2.1; simp only [setL] at this; omega)]; rfl)
  generalize setL a0 = l at h hs hLi
  obtain rfl := Option.some.inj h
  have HLI := Aside0.mk hLi
  have HS := Aside0.mk hs
  clear h ho hLi hs
  go_enter Try.func37, Try.ntmps37
  go_wp2_with (go_at_call 57; fail)
  refine Calls.mono (HLI.out _ HO.out) ?_
  rintro e W1 ⟨v, rfl, hR, hb⟩
  have HB1 := Aside0.mk hb
  obtain ⟨A, c, rfl⟩ := Kd.R_slice hR
  obtain ⟨_, hlc, hC⟩ := Kd.R_reads' hR
  obtain ⟨NB, hNB⟩ : ∃ NB, W1.heap.size = NB := ⟨_, rfl⟩
  have HC := Aside0.mk (fun W (h : Below NB W1 W) => Kd.C_below hC (by rw [hNB]; exact h))
  have HNB := Aside0.mk hNB
  have HN1 := Aside0.mk (show w.heap.size ≤ NB by rw [← hNB]; exact hb.size)
  clear hR hb hC hNB
  go_wp2
  obtain ⟨W2, hW2⟩ : ∃ W2, W1.alloc (Obj.cells #[Value.int IntKind.i64 (-1), Value.int IntKind.u8 0, Value.int IntKind.i64 0, Value.int IntKind.i64 (-1), Value.int IntKind.i64 0, Value.int IntKind.i64 0] 90) = W2 := ⟨_, rfl⟩
  have z2 : W2.heap.size = NB + 1 := by rw [← hW2, World.size_alloc, HNB.out]
  have b2 : Below NB W1 W2 := by rw [← hW2]; exact Below.alloc (Below.refl _ _) (by rw [HNB.out]; exact Nat.le_refl _) _
  have n2 := heap_alloc_new W1 (Obj.cells #[Value.int IntKind.i64 (-1), Value.int IntKind.u8 0, Value.int IntKind.i64 0, Value.int IntKind.i64 (-1), Value.int IntKind.i64 0, Value.int IntKind.i64 0] 90)
  rw [hW2, HNB.out] at n2
  obtain ⟨W3, hW3⟩ : ∃ W3, W2.alloc (Obj.cells #[Value.slice (some ⟨W1.heap.size, 0, none⟩) 1 1] 93) = W3 := ⟨_, rfl⟩
  have z3 : W3.heap.size = NB + 1 + 1 := by rw [← hW3, World.size_alloc, z2]
  have b3 : Below W2.heap.size W2 W3 := by rw [← hW3]; exact Below.alloc (Below.refl _ _) (Nat.le_refl _) _
  have n3 := heap_alloc_new W2 (Obj.cells #[Value.slice (some ⟨W1.heap.size, 0, none⟩) 1 1] 93)
  rw [hW3, HNB.out, z2] at n3
  obtain ⟨W4, hW4⟩ : ∃ W4, W3.alloc (Obj.cells #[Value.int IntKind.i64 0, Value.int IntKind.i64 0, Value.int IntKind.i64 ↑l.length] 95) = W4 := ⟨_, rfl⟩
  have z4 : W4.heap.size = NB + 1 + 1 + 1 := by rw [← hW4, World.size_alloc, z3]
  have b4 : Below W3.heap.size W3 W4 := by rw [← hW4]; exact Below.alloc (Below.refl _ _) (Nat.le_refl _) _
  have n4 := heap_alloc_new W3 (Obj.cells #[Value.int IntKind.i64 0, Value.int IntKind.i64 0, Value.int IntKind.i64 ↑l.length] 95)
  rw [hW4, z3] at n4
  have m2 := (b4.block NB (by omega)).trans ((b3.block NB (by omega)).trans n2)
  have m3 := (b4.block (NB + 1) (by omega)).trans n3
  have B4 : Below NB W1 W4 := b2.trans ((b3.mono (by omega)).trans (b4.mono (by omega)))
  have hS0 : stF.kd.R 90 W4 NB (fun _ => True) (.slice (some ⟨NB, 0, none⟩) (stK l 0).length 1) (stK l 0) := flat_R ⟨rfl, .inr ⟨NB, 1, _, rfl, Nat.le_refl _, m2, Nat.le_refl _, by decide, rfl, rfl⟩⟩ (fun _ _ => trivial)
  have hJ0 : jbF.kd.Q 95 W4 NB (fun _ => True) (.slice (some ⟨NB + 1 + 1, 0, none⟩) 1 1) (jsK l 0) := Kd.Q_of_R (flat_R ⟨rfl, .inr ⟨NB + 1 + 1, 1, _, rfl, by omega, n4, Nat.le_refl _, by decide, rfl, rfl⟩⟩ (fun _ _ => trivial))
  have HS0 := Aside0.mk hS0
  have HJ0 := Aside0.mk hJ0
  have HM3 := Aside0.mk (show W4.heap[NB + 1]? = some (.cells #[.slice (some ⟨NB, 0, none⟩) (stK l 0).length 1] 93 (0, 0)) from m3)
  have HB4 := Aside0.mk B4
  have hNB := HNB.out
  rw [hW2, hW3, hW4, hNB]
  clear hW2 hW3 hW4 z2 z3 z4 b2 b3 b4 n2 n3 n4 m2 m3 B4 hS0 hJ0 hNB
  go_loopg [5] (trK l) (fun kx v5 W => ∃ (k g cap : Nat), trK l ≤ k + kx ∧ k ≤ trK l ∧ Aside0 (W.heap[NB + 1]? = some (.cells #[.slice (some ⟨g, 0, none⟩) (stK l k).length cap] 93 (0, 0))) ∧
    Aside0 (stF.kd.R 90 W NB (fun _ => True) (.slice (some ⟨g, 0, none⟩) (stK l k).length cap) (stK l k)) ∧ Aside0 (jbF.kd.Q 95 W NB (fun _ => True) v5 (jsK l k)) ∧ Aside0 (Below NB W1 W))
  case atStart => exact ⟨0, NB, 1, by omega, by omega, HM3, HS0, HJ0, HB4⟩
  case round =>
    clear HS0 HJ0 HM3 HB4
    obtain ⟨k, g, cap, k1, k2, HP, HSt, HJ, HB⟩ := hrel
    obtain ⟨A5, c5, rfl, hc5⟩ := Kd.Q_slice HJ.out
    cases hn : (nodesAt l k)[k]? with
    | none =>
      have hle : (nodesAt l k).length ≤ k := by simpa using hn
      have hj := jsK_nil l k hle
      rw [hj]
      have hend := trS_end (srt_of HS.out.1) hle k2
      have hR := HSt.out
      have hP := HP.out
      rw [hend] at hR hP
      have HFin := Aside0.mk (show OB K93 wr (some ⟨NB + 1, 0, none⟩) (some (trS l)) from OB.mk (by
        obtain ⟨A, c, e, h1, h2⟩ := Kd.R_reads hR
        injection e with e1 e2 e3
        subst e1
        subst e3
        exact ⟨NB + 1, _, _, rfl, blk_cell hP 0, h1, h2⟩))
      have HBF := Aside0.mk (HB1.out.trans (HB.out.mono HN1.out))
      clear hj hend hR hP HP HSt HJ HB hle hn
      go_wp2
      go_ret
      exact ⟨_, rfl, HFin.out, HBF.out⟩
    | some n =>
      have ok := job_ok HS.out hn
      have hps := part_step l k n hn
      have hjl := ok.jsl
      have hlt := (List.getElem?_eq_some_iff.1 hn).1
      have hpart := trie_part NB wr (NB + 1) g cap A c (.slice A5 (jsK l k).length c5) l (stK l k) (jsK l k) k n.lo n.hi n.path.length 0 HP.out (Nat.le_succ _) (Nat.le_trans (by rw [HNB.out]; exact Nat.le_refl _) HB.out.size) HSt.out HJ.out (fun W h => HC.out W (HB.out.trans h)) hlc ok
      rw [hps] at hpart
      have HPART := Aside0.mk hpart
      have hkK : k < trK l := by have := nodes_few (srt_of HS.out.1) k; unfold trK; omega
      obtain ⟨N5, hN5⟩ : ∃ N5, (jsK l k).length = N5 := ⟨_, rfl⟩
      rw [hN5] at hjl HPART ⊢
      have l1 : decide ((0 : Int) < (N5 : Int)) = true := decide_eq_true (by omega)
      have l2 : decide (0 < N5) = true := decide_eq_true hjl
      clear ok hps hpart hn hN5 hlt hc5
      go_wp2_with (go_at_call 63; refine HPART.out.mono ?_; rintro e W5 ⟨v', g', cap', rfl, hp5, hs5, hq5, hb5⟩; obtain ⟨A6, c6, rfl, hc6⟩ := Kd.Q_slice hq5; have HP5 := Aside0.mk hp5; have HS5 := Aside0.mk hs5; have HQ5 := Aside0.mk hq5; have HB5 := Aside0.mk (HB.out.trans hb5); clear hp5 hs5 hq5 hb5)
      all_goals
        have hdr := Kd.Q_drop (k := 1) HQ5.out (by simp)
        go_roundg (trK l - (k + 1))
        case measure => omega
        case rel =>
          refine ⟨k + 1, g', cap', by omega, by omega, HP5, HS5, ⟨?_⟩, HB5⟩
          first
            | (rw [if_neg (by omega)] at hdr; exact hdr)
            | (have hc1 : c6 = 1 := by omega
               subst hc1
               rw [if_pos rfl] at hdr
               exact hdr)

end Go.Proofs.Ytnpkbnfiadkgnaa.P

/- Proved here: what Go functions of this seat compute, or a law of it; no condition beyond the statement's own. Written for this claim by a program of this session (wip/myprint.py) over the kit's print.py. -/
namespace Go.Proofs.Ytnpkbnfiadkgnaa.P
open Go.RowKit Go.Proofs.YtnpkbnfiadkgnaaW.PrintWords Go.Proofs.YtnpkbnfiadkgnaaW.PrintLast Go.Proofs.YtnpkbnfiadkgnaaW.PrintMore
attribute [local go_sem] max2_int min2_int max_two min_two max_three min_three max_four min_four   -- for this text's walks alone
set_option linter.unusedVariables false
set_option linter.unusedSimpArgs false

/-! ### juratlaw16_awake: function 36 -/
def juratlaw16_awake.f  : Option (Bool) := (pats_New.f (([(⟨#[97, 98]⟩ : ByteArray), (⟨#[97, 99]⟩ : ByteArray), (⟨#[98]⟩ : ByteArray)] : List ByteArray))).bind fun bt321 => ((trie_New.f bt321.1).bind fun t324 => ((trie_Trie_Next.f t324 1 99).bind fun bt325 => (if bt321.2 = 0 then ((trie_Trie_Len.f t324).bind fun t327 => (if t327 = 5 then ((trie_Trie_Path.f t324 3).bind fun t328 => (if t328.toList = ([97, 98] : List UInt8) then (if bt325.1 = 4 then (some bt325.2) else (some false)) else (some false))) else (some false))) else (some false))))
set_option maxHeartbeats 8000000 in
set_option maxRecDepth 100000 in
theorem juratlaw16_awake.calls  (r : Bool) (w : World) (h : juratlaw16_awake.f  = some r) :
    Calls Try.prog 36 #[] w fun e w' => e = .returned (.bool r) ∧ Below w.heap.size w w' := by
  have HB := Aside0.mk (Below.refl w.heap.size w)
  have H : ((pats_New.f (([(⟨#[97, 98]⟩ : ByteArray), (⟨#[97, 99]⟩ : ByteArray), (⟨#[98]⟩ : ByteArray)] : List ByteArray))).bind fun bt321 => ((trie_New.f bt321.1).bind fun t324 => ((trie_Trie_Next.f t324 1 99).bind fun bt325 => (if bt321.2 = 0 then ((trie_Trie_Len.f t324).bind fun t327 => (if t327 = 5 then ((trie_Trie_Path.f t324 3).bind fun t328 => (if t328.toList = ([97, 98] : List UInt8) then (if bt325.1 = 4 then (some bt325.2) else (some false)) else (some false))) else (some false))) else (some false))))) = some r := h
  clear h
  obtain ⟨y318, hy318⟩ : ∃ y_ : List ByteArray, y_ = (([(⟨#[97, 98]⟩ : ByteArray), (⟨#[97, 99]⟩ : ByteArray), (⟨#[98]⟩ : ByteArray)] : List ByteArray)) := ⟨_, rfl⟩
  replace H : ((pats_New.f y318).bind fun bt321 => ((trie_New.f bt321.1).bind fun t324 => ((trie_Trie_Next.f t324 1 99).bind fun bt325 => (if bt321.2 = 0 then ((trie_Trie_Len.f t324).bind fun t327 => (if t327 = 5 then ((trie_Trie_Path.f t324 3).bind fun t328 => (if t328.toList = ([97, 98] : List UInt8) then (if bt325.1 = 4 then (some bt325.2) else (some false)) else (some false))) else (some false))) else (some false))))) = some r := by first | (rw [hy318]; with_reducible exact H) | (have H2_ := (Option.bind_some _ _).symm.trans H; rw [hy318]; with_reducible exact H2_) | (have H2_ := (Option.bind_some _ _).symm.trans H; with_reducible exact H2_) | with_reducible exact H | (rw [hy318]; exact H) | exact H
  have Ny318 := Aside0.mk hy318
  clear hy318
  replace H := Option.bind_eq_some_iff.mp H
  obtain ⟨⟨t321, t322⟩, A10, H⟩ := H
  replace H : ((trie_New.f t321).bind fun t324 => ((trie_Trie_Next.f t324 1 99).bind fun bt325 => (if t322 = 0 then ((trie_Trie_Len.f t324).bind fun t327 => (if t327 = 5 then ((trie_Trie_Path.f t324 3).bind fun t328 => (if t328.toList = ([97, 98] : List UInt8) then (if bt325.1 = 4 then (some bt325.2) else (some false)) else (some false))) else (some false))) else (some false)))) = some r := H
  have A1 := Aside0.mk A10
  clear A10
  replace H := Option.bind_eq_some_iff.mp H
  obtain ⟨t324, A20, H⟩ := H
  replace H : ((trie_Trie_Next.f t324 1 99).bind fun bt325 => (if t322 = 0 then ((trie_Trie_Len.f t324).bind fun t327 => (if t327 = 5 then ((trie_Trie_Path.f t324 3).bind fun t328 => (if t328.toList = ([97, 98] : List UInt8) then (if bt325.1 = 4 then (some bt325.2) else (some false)) else (some false))) else (some false))) else (some false))) = some r := H
  have A2 := Aside0.mk A20
  clear A20
  replace H := Option.bind_eq_some_iff.mp H
  obtain ⟨⟨t325, t326⟩, A30, H⟩ := H
  replace H : (if t322 = 0 then ((trie_Trie_Len.f t324).bind fun t327 => (if t327 = 5 then ((trie_Trie_Path.f t324 3).bind fun t328 => (if t328.toList = ([97, 98] : List UInt8) then (if t325 = 4 then (some t326) else (some false)) else (some false))) else (some false))) else (some false)) = some r := H
  have A3 := Aside0.mk A30
  clear A30
  by_cases c4 : t322 = 0
  · rw [if_pos c4] at H
    have c4b0 : (t322 == 0) = true := beq_iff_eq.mpr c4
    have c4b1 : (t322 != 0) = false := bne_eq_false_iff_eq.mpr c4
    clear c4
    replace H := Option.bind_eq_some_iff.mp H
    obtain ⟨t327, A50, H⟩ := H
    replace H : (if t327 = 5 then ((trie_Trie_Path.f t324 3).bind fun t328 => (if t328.toList = ([97, 98] : List UInt8) then (if t325 = 4 then (some t326) else (some false)) else (some false))) else (some false)) = some r := H
    have A5 := Aside0.mk A50
    clear A50
    by_cases c6 : t327 = 5
    · rw [if_pos c6] at H
      have c6b0 : (t327 == 5) = true := beq_iff_eq.mpr c6
      have c6b1 : (t327 != 5) = false := bne_eq_false_iff_eq.mpr c6
      clear c6
      replace H := Option.bind_eq_some_iff.mp H
      obtain ⟨t328, A70, H⟩ := H
      replace H : (if t328.toList = ([97, 98] : List UInt8) then (if t325 = 4 then (some t326) else (some false)) else (some false)) = some r := H
      have A7 := Aside0.mk A70
      clear A70
      by_cases c8 : t328.toList = ([97, 98] : List UInt8)
      · rw [if_pos c8] at H
        have c8b0 : (t328.toList == ([97, 98] : List UInt8)) = true := beq_iff_eq.mpr c8
        have c8b1 : (t328.toList != ([97, 98] : List UInt8)) = false := bne_eq_false_iff_eq.mpr c8
        clear c8
        by_cases c9 : t325 = 4
        · rw [if_pos c9] at H
          have c9b0 : (t325 == 4) = true := beq_iff_eq.mpr c9
          have c9b1 : (t325 != 4) = false := bne_eq_false_iff_eq.mpr c9
          clear c9
          obtain rfl := Option.some.inj H
          go_enter Try.func36, Try.ntmps36
          go_wp2_with (first | ((with_reducible refine gate_dst (N := 7) rfl ?_); refine Kd.R_lit Kd.string _ 9 ?hg (N := 7) ?hd (xs := ([(⟨#[97, 98]⟩ : ByteArray), (⟨#[97, 99]⟩ : ByteArray), (⟨#[98]⟩ : ByteArray)] : List ByteArray)) (inner := [.string (⟨#[97, 98]⟩ : ByteArray), .string (⟨#[97, 99]⟩ : ByteArray), .string (⟨#[98]⟩ : ByteArray)]) (ok := fun _ => True) (okp := fun _ => True) ?hr ?hp (fun _ hk => hk) trivial (Below.refl _ _) (Nat.le_refl _) (by simp) ?_; (case hd => rfl); (case hg => rfl); (case hr => first | (go_simp; done) | (go_simp; rfl)); (case hp => exact (Reps.one (show Kd.M Kd.string _ _ _ (⟨#[97, 98]⟩ : ByteArray) [.string (⟨#[97, 98]⟩ : ByteArray)] from rfl) (Reps.one (show Kd.M Kd.string _ _ _ (⟨#[97, 99]⟩ : ByteArray) [.string (⟨#[97, 99]⟩ : ByteArray)] from rfl) (Reps.one (show Kd.M Kd.string _ _ _ (⟨#[98]⟩ : ByteArray) [.string (⟨#[98]⟩ : ByteArray)] from rfl) (Reps.none _ _))))); intro v319 w10 ho11 hb hg_ hnew_; clear hg_ hnew_; (first | rw [← Ny318.out] at ho11 | (simp only [Int.reduceToNat] at ho11; rw [← Ny318.out] at ho11)); have n0_ := Aside0.mk (Kd.R_lower ho11 (below_size (by repeat (first | (with_reducible first | exact HB.out | apply below_alloc | apply pw_below_drewN | apply below_drew1) | exact HB.out)))); have n1_ := Aside0.mk (below_step (by repeat (first | (with_reducible first | exact HB.out | apply below_alloc | apply pw_below_drewN | apply below_drew1) | exact HB.out)) hb); clear HB; have HO320 := n0_; have HB := n1_; clear n0_ n1_; clear hb ho11; obtain ⟨Ao12, co12, eo12⟩ := Kd.R_slice HO320.out; subst eo12) | ((with_reducible refine gate_callee (f := 12) rfl ?_); refine goesL_ (some 8) rfl rfl Try.func12 (by kernel_rfl) rfl #[.slice Ao12 y318.length co12] rfl (by (try simp only [List.map_toArray, List.map_cons, List.map_nil]); first | done | rfl | (simp only [List.length_drop, List.length_take]; rfl)) ?_; (with_reducible refine (pats_New.calls _ _ y318 t321 t322 _ ?side1 ?side2 A1.out).mono ?_); (case side1 => repeat (first | exact (Kd.R_reads' HO320.out).2.2 | (with_reducible refine Kd.C_alloc ?_ _) | (with_reducible refine Kd.C_drewN ?_ _) | (with_reducible refine Kd.C_drew ?_))); (case side2 => exact (Kd.R_reads' HO320.out).2.1); rintro e w13 ⟨Pt321, rfl, hob0, hb⟩; refine ⟨_, rfl, ?_⟩; have hbw_ := below_step (by repeat (first | (with_reducible first | exact HB.out | apply below_alloc | apply pw_below_drewN | apply below_drew1) | exact HB.out)) hb; obtain ⟨Ab323, cb323, eb323_, lb323_, gb323_⟩ := Kd.R_reads (Kd.R_below (by (with_reducible repeat (first | apply Kd.R_alloc | apply Kd.R_drewN | apply Kd.R_drew)); exact HO320.out) hb); (first | subst eb323_ | (injection eb323_ with f1_ f2_ f3_; have f4_ := f1_.symm; have f5_ := f3_.symm; clear f1_ f2_ f3_; subst f4_; subst f5_)); have HRb323 := Aside0.mk gb323_; have HCb323 := Aside0.mk lb323_; clear gb323_ lb323_; (try clear HO320); (first | (have n_ := Aside0.mk (HB00.out.trans (hbw_.mono HB00.out.size)); clear HB00; have HB00 := n_; clear n_) | have HB00 := Aside0.mk hbw_); clear HB hb hbw_; have HO_t321 := Aside0.mk hob0; clear hob0; obtain ⟨w, rfl⟩ : ∃ w_ : World, w_ = w13 := ⟨_, rfl⟩; have HB := Aside0.mk (Below.refl w.heap.size w)) | ((with_reducible refine gate_callee (f := 37) rfl ?_); refine goesL_ (some 12) rfl rfl Try.func37 (by kernel_rfl) rfl #[.pointer Pt321] rfl (by (try simp only [List.map_toArray, List.map_cons, List.map_nil]); first | done | rfl | (simp only [List.length_drop, List.length_take]; rfl)) ?_; (with_reducible refine (trie_New.calls _ t321 t324 _ ?side1 A2.out).mono ?_); (case side1 => first | exact HO_t321.out | exact OB.drewN HO_t321.out _ | exact OB.below (by repeat (first | (with_reducible first | exact HB.out | apply below_alloc | apply pw_below_drewN | apply below_drew1) | exact HB.out)) HO_t321.out); rintro e w14 ⟨Pt324, rfl, hob0, hb⟩; refine ⟨_, rfl, ?_⟩; have hbw_ := below_step (by repeat (first | (with_reducible first | exact HB.out | apply below_alloc | apply pw_below_drewN | apply below_drew1) | exact HB.out)) hb; (try (have n_ := Aside0.mk (Kd.C_below HRb323.out hbw_); clear HRb323; have HRb323 := n_; clear n_)); (try (have n_ := Aside0.mk (OB.below hbw_ HO_t321.out); clear HO_t321; have HO_t321 := n_; clear n_)); (first | (have n_ := Aside0.mk (HB00.out.trans (hbw_.mono HB00.out.size)); clear HB00; have HB00 := n_; clear n_) | have HB00 := Aside0.mk hbw_); clear HB hb hbw_; have HO_t324 := Aside0.mk hob0; clear hob0; obtain ⟨w, rfl⟩ : ∃ w_ : World, w_ = w14 := ⟨_, rfl⟩; have HB := Aside0.mk (Below.refl w.heap.size w)) | ((with_reducible refine gate_callee (f := 41) rfl ?_); refine goesL_ (some 15) rfl rfl Try.func41 (by kernel_rfl) rfl #[.pointer Pt324, .int .i64 1, .int .u8 99] rfl (by (try simp only [List.map_toArray, List.map_cons, List.map_nil]); first | done | rfl | (simp only [List.length_drop, List.length_take]; rfl)) ?_; (with_reducible refine (trie_Trie_Next.calls _ t324 1 99 t325 t326 _ ?side1 A3.out).mono ?_); (case side1 => first | exact HO_t324.out | exact OB.drewN HO_t324.out _ | exact OB.below (by repeat (first | (with_reducible first | exact HB.out | apply below_alloc | apply pw_below_drewN | apply below_drew1) | exact HB.out)) HO_t324.out); rintro e w' ⟨rfl, ⟨nd, rfl⟩⟩; refine ⟨_, rfl, ?_⟩) | (go_at_call 38; (with_reducible refine (trie_Trie_Len.calls _ t324 t327 _ ?side1 A5.out).mono ?_); (case side1 => first | exact HO_t324.out | exact OB.drewN HO_t324.out _ | exact OB.below (by repeat (first | (with_reducible first | exact HB.out | apply below_alloc | apply pw_below_drewN | apply below_drew1) | exact HB.out)) HO_t324.out); rintro e w' ⟨rfl, ⟨nd, rfl⟩⟩) | (go_at_call 43; (with_reducible refine (trie_Trie_Path.calls _ t324 3 t328 _ ?side1 A7.out).mono ?_); (case side1 => first | exact HO_t324.out | exact OB.drewN HO_t324.out _ | exact OB.below (by repeat (first | (with_reducible first | exact HB.out | apply below_alloc | apply pw_below_drewN | apply below_drew1) | exact HB.out)) HO_t324.out); rintro e w15 ⟨rfl, hb⟩; have n0_ := Aside0.mk (below_step (by repeat (first | (with_reducible first | exact HB.out | apply below_alloc | apply pw_below_drewN | apply below_drew1) | exact HB.out)) hb); clear HB; have HB := n0_; clear n0_; (try clear hb); (try clear hb2); (try clear hk); (try clear hi)))
          go_ret
          exact ⟨by first | rfl | (simp [errW_none, errW_some] <;> rfl) | (simp [*, errW_none, errW_some] <;> rfl), by first | (refine HB00.out.trans (Below.mono ?_ HB00.out.size); (repeat (first | (with_reducible first | exact HB.out | apply below_alloc | apply pw_below_drewN | apply below_drew1) | exact HB.out))) | (repeat (first | (with_reducible first | exact HB.out | apply below_alloc | apply pw_below_drewN | apply below_drew1) | exact HB.out))⟩
        · rw [if_neg c9] at H
          have c9b0 : (t325 == 4) = false := beq_eq_false_iff_ne.mpr c9
          have c9b1 : (t325 != 4) = true := bne_iff_ne.mpr c9
          obtain rfl := Option.some.inj H
          go_enter Try.func36, Try.ntmps36
          go_wp2_with (first | ((with_reducible refine gate_dst (N := 7) rfl ?_); refine Kd.R_lit Kd.string _ 9 ?hg (N := 7) ?hd (xs := ([(⟨#[97, 98]⟩ : ByteArray), (⟨#[97, 99]⟩ : ByteArray), (⟨#[98]⟩ : ByteArray)] : List ByteArray)) (inner := [.string (⟨#[97, 98]⟩ : ByteArray), .string (⟨#[97, 99]⟩ : ByteArray), .string (⟨#[98]⟩ : ByteArray)]) (ok := fun _ => True) (okp := fun _ => True) ?hr ?hp (fun _ hk => hk) trivial (Below.refl _ _) (Nat.le_refl _) (by simp) ?_; (case hd => rfl); (case hg => rfl); (case hr => first | (go_simp; done) | (go_simp; rfl)); (case hp => exact (Reps.one (show Kd.M Kd.string _ _ _ (⟨#[97, 98]⟩ : ByteArray) [.string (⟨#[97, 98]⟩ : ByteArray)] from rfl) (Reps.one (show Kd.M Kd.string _ _ _ (⟨#[97, 99]⟩ : ByteArray) [.string (⟨#[97, 99]⟩ : ByteArray)] from rfl) (Reps.one (show Kd.M Kd.string _ _ _ (⟨#[98]⟩ : ByteArray) [.string (⟨#[98]⟩ : ByteArray)] from rfl) (Reps.none _ _))))); intro v319 w16 ho17 hb hg_ hnew_; clear hg_ hnew_; (first | rw [← Ny318.out] at ho17 | (simp only [Int.reduceToNat] at ho17; rw [← Ny318.out] at ho17)); have n0_ := Aside0.mk (Kd.R_lower ho17 (below_size (by repeat (first | (with_reducible first | exact HB.out | apply below_alloc | apply pw_below_drewN | apply below_drew1) | exact HB.out)))); have n1_ := Aside0.mk (below_step (by repeat (first | (with_reducible first | exact HB.out | apply below_alloc | apply pw_below_drewN | apply below_drew1) | exact HB.out)) hb); clear HB; have HO320 := n0_; have HB := n1_; clear n0_ n1_; clear hb ho17; obtain ⟨Ao18, co18, eo18⟩ := Kd.R_slice HO320.out; subst eo18) | ((with_reducible refine gate_callee (f := 12) rfl ?_); refine goesL_ (some 8) rfl rfl Try.func12 (by kernel_rfl) rfl #[.slice Ao18 y318.length co18] rfl (by (try simp only [List.map_toArray, List.map_cons, List.map_nil]); first | done | rfl | (simp only [List.length_drop, List.length_take]; rfl)) ?_; (with_reducible refine (pats_New.calls _ _ y318 t321 t322 _ ?side1 ?side2 A1.out).mono ?_); (case side1 => repeat (first | exact (Kd.R_reads' HO320.out).2.2 | (with_reducible refine Kd.C_alloc ?_ _) | (with_reducible refine Kd.C_drewN ?_ _) | (with_reducible refine Kd.C_drew ?_))); (case side2 => exact (Kd.R_reads' HO320.out).2.1); rintro e w19 ⟨Pt321, rfl, hob0, hb⟩; refine ⟨_, rfl, ?_⟩; have hbw_ := below_step (by repeat (first | (with_reducible first | exact HB.out | apply below_alloc | apply pw_below_drewN | apply below_drew1) | exact HB.out)) hb; obtain ⟨Ab323, cb323, eb323_, lb323_, gb323_⟩ := Kd.R_reads (Kd.R_below (by (with_reducible repeat (first | apply Kd.R_alloc | apply Kd.R_drewN | apply Kd.R_drew)); exact HO320.out) hb); (first | subst eb323_ | (injection eb323_ with f1_ f2_ f3_; have f4_ := f1_.symm; have f5_ := f3_.symm; clear f1_ f2_ f3_; subst f4_; subst f5_)); have HRb323 := Aside0.mk gb323_; have HCb323 := Aside0.mk lb323_; clear gb323_ lb323_; (try clear HO320); (try (have n_ := Aside0.mk (Kd.C_below HRb323.out hbw_); clear HRb323; have HRb323 := n_; clear n_)); (try (have n_ := Aside0.mk (OB.below hbw_ HO_t321.out); clear HO_t321; have HO_t321 := n_; clear n_)); (try (have n_ := Aside0.mk (OB.below hbw_ HO_t324.out); clear HO_t324; have HO_t324 := n_; clear n_)); (first | (have n_ := Aside0.mk (HB00.out.trans (hbw_.mono HB00.out.size)); clear HB00; have HB00 := n_; clear n_) | have HB00 := Aside0.mk hbw_); clear HB hb hbw_; have HO_t321 := Aside0.mk hob0; clear hob0; obtain ⟨w, rfl⟩ : ∃ w_ : World, w_ = w19 := ⟨_, rfl⟩; have HB := Aside0.mk (Below.refl w.heap.size w)) | ((with_reducible refine gate_callee (f := 37) rfl ?_); refine goesL_ (some 12) rfl rfl Try.func37 (by kernel_rfl) rfl #[.pointer Pt321] rfl (by (try simp only [List.map_toArray, List.map_cons, List.map_nil]); first | done | rfl | (simp only [List.length_drop, List.length_take]; rfl)) ?_; (with_reducible refine (trie_New.calls _ t321 t324 _ ?side1 A2.out).mono ?_); (case side1 => first | exact HO_t321.out | exact OB.drewN HO_t321.out _ | exact OB.below (by repeat (first | (with_reducible first | exact HB.out | apply below_alloc | apply pw_below_drewN | apply below_drew1) | exact HB.out)) HO_t321.out); rintro e w20 ⟨Pt324, rfl, hob0, hb⟩; refine ⟨_, rfl, ?_⟩; have hbw_ := below_step (by repeat (first | (with_reducible first | exact HB.out | apply below_alloc | apply pw_below_drewN | apply below_drew1) | exact HB.out)) hb; (try (have n_ := Aside0.mk (Kd.C_below HRb323.out hbw_); clear HRb323; have HRb323 := n_; clear n_)); (try (have n_ := Aside0.mk (OB.below hbw_ HO_t321.out); clear HO_t321; have HO_t321 := n_; clear n_)); (try (have n_ := Aside0.mk (OB.below hbw_ HO_t324.out); clear HO_t324; have HO_t324 := n_; clear n_)); (first | (have n_ := Aside0.mk (HB00.out.trans (hbw_.mono HB00.out.size)); clear HB00; have HB00 := n_; clear n_) | have HB00 := Aside0.mk hbw_); clear HB hb hbw_; have HO_t324 := Aside0.mk hob0; clear hob0; obtain ⟨w, rfl⟩ : ∃ w_ : World, w_ = w20 := ⟨_, rfl⟩; have HB := Aside0.mk (Below.refl w.heap.size w)) | ((with_reducible refine gate_callee (f := 41) rfl ?_); refine goesL_ (some 15) rfl rfl Try.func41 (by kernel_rfl) rfl #[.pointer Pt324, .int .i64 1, .int .u8 99] rfl (by (try simp only [List.map_toArray, List.map_cons, List.map_nil]); first | done | rfl | (simp only [List.length_drop, List.length_take]; rfl)) ?_; (with_reducible refine (trie_Trie_Next.calls _ t324 1 99 t325 t326 _ ?side1 A3.out).mono ?_); (case side1 => first | exact HO_t324.out | exact OB.drewN HO_t324.out _ | exact OB.below (by repeat (first | (with_reducible first | exact HB.out | apply below_alloc | apply pw_below_drewN | apply below_drew1) | exact HB.out)) HO_t324.out); rintro e w' ⟨rfl, ⟨nd, rfl⟩⟩; refine ⟨_, rfl, ?_⟩) | (go_at_call 38; (with_reducible refine (trie_Trie_Len.calls _ t324 t327 _ ?side1 A5.out).mono ?_); (case side1 => first | exact HO_t324.out | exact OB.drewN HO_t324.out _ | exact OB.below (by repeat (first | (with_reducible first | exact HB.out | apply below_alloc | apply pw_below_drewN | apply below_drew1) | exact HB.out)) HO_t324.out); rintro e w' ⟨rfl, ⟨nd, rfl⟩⟩) | (go_at_call 43; (with_reducible refine (trie_Trie_Path.calls _ t324 3 t328 _ ?side1 A7.out).mono ?_); (case side1 => first | exact HO_t324.out | exact OB.drewN HO_t324.out _ | exact OB.below (by repeat (first | (with_reducible first | exact HB.out | apply below_alloc | apply pw_below_drewN | apply below_drew1) | exact HB.out)) HO_t324.out); rintro e w21 ⟨rfl, hb⟩; have n0_ := Aside0.mk (below_step (by repeat (first | (with_reducible first | exact HB.out | apply below_alloc | apply pw_below_drewN | apply below_drew1) | exact HB.out)) hb); clear HB; have HB := n0_; clear n0_; (try clear hb); (try clear hb2); (try clear hk); (try clear hi)))
          go_ret
          exact ⟨by first | rfl | (simp [errW_none, errW_some] <;> rfl) | (simp [*, errW_none, errW_some] <;> rfl), by first | (refine HB00.out.trans (Below.mono ?_ HB00.out.size); (repeat (first | (with_reducible first | exact HB.out | apply below_alloc | apply pw_below_drewN | apply below_drew1) | exact HB.out))) | (repeat (first | (with_reducible first | exact HB.out | apply below_alloc | apply pw_below_drewN | apply below_drew1) | exact HB.out))⟩
      · rw [if_neg c8] at H
        have c8b0 : (t328.toList == ([97, 98] : List UInt8)) = false := beq_eq_false_iff_ne.mpr c8
        have c8b1 : (t328.toList != ([97, 98] : List UInt8)) = true := bne_iff_ne.mpr c8
        obtain rfl := Option.some.inj H
        go_enter Try.func36, Try.ntmps36
        go_wp2_with (first | ((with_reducible refine gate_dst (N := 7) rfl ?_); refine Kd.R_lit Kd.string _ 9 ?hg (N := 7) ?hd (xs := ([(⟨#[97, 98]⟩ : ByteArray), (⟨#[97, 99]⟩ : ByteArray), (⟨#[98]⟩ : ByteArray)] : List ByteArray)) (inner := [.string (⟨#[97, 98]⟩ : ByteArray), .string (⟨#[97, 99]⟩ : ByteArray), .string (⟨#[98]⟩ : ByteArray)]) (ok := fun _ => True) (okp := fun _ => True) ?hr ?hp (fun _ hk => hk) trivial (Below.refl _ _) (Nat.le_refl _) (by simp) ?_; (case hd => rfl); (case hg => rfl); (case hr => first | (go_simp; done) | (go_simp; rfl)); (case hp => exact (Reps.one (show Kd.M Kd.string _ _ _ (⟨#[97, 98]⟩ : ByteArray) [.string (⟨#[97, 98]⟩ : ByteArray)] from rfl) (Reps.one (show Kd.M Kd.string _ _ _ (⟨#[97, 99]⟩ : ByteArray) [.string (⟨#[97, 99]⟩ : ByteArray)] from rfl) (Reps.one (show Kd.M Kd.string _ _ _ (⟨#[98]⟩ : ByteArray) [.string (⟨#[98]⟩ : ByteArray)] from rfl) (Reps.none _ _))))); intro v319 w22 ho23 hb hg_ hnew_; clear hg_ hnew_; (first | rw [← Ny318.out] at ho23 | (simp only [Int.reduceToNat] at ho23; rw [← Ny318.out] at ho23)); have n0_ := Aside0.mk (Kd.R_lower ho23 (below_size (by repeat (first | (with_reducible first | exact HB.out | apply below_alloc | apply pw_below_drewN | apply below_drew1) | exact HB.out)))); have n1_ := Aside0.mk (below_step (by repeat (first | (with_reducible first | exact HB.out | apply below_alloc | apply pw_below_drewN | apply below_drew1) | exact HB.out)) hb); clear HB; have HO320 := n0_; have HB := n1_; clear n0_ n1_; clear hb ho23; obtain ⟨Ao24, co24, eo24⟩ := Kd.R_slice HO320.out; subst eo24) | ((with_reducible refine gate_callee (f := 12) rfl ?_); refine goesL_ (some 8) rfl rfl Try.func12 (by kernel_rfl) rfl #[.slice Ao24 y318.length co24] rfl (by (try simp only [List.map_toArray, List.map_cons, List.map_nil]); first | done | rfl | (simp only [List.length_drop, List.length_take]; rfl)) ?_; (with_reducible refine (pats_New.calls _ _ y318 t321 t322 _ ?side1 ?side2 A1.out).mono ?_); (case side1 => repeat (first | exact (Kd.R_reads' HO320.out).2.2 | (with_reducible refine Kd.C_alloc ?_ _) | (with_reducible refine Kd.C_drewN ?_ _) | (with_reducible refine Kd.C_drew ?_))); (case side2 => exact (Kd.R_reads' HO320.out).2.1); rintro e w25 ⟨Pt321, rfl, hob0, hb⟩; refine ⟨_, rfl, ?_⟩; have hbw_ := below_step (by repeat (first | (with_reducible first | exact HB.out | apply below_alloc | apply pw_below_drewN | apply below_drew1) | exact HB.out)) hb; obtain ⟨Ab323, cb323, eb323_, lb323_, gb323_⟩ := Kd.R_reads (Kd.R_below (by (with_reducible repeat (first | apply Kd.R_alloc | apply Kd.R_drewN | apply Kd.R_drew)); exact HO320.out) hb); (first | subst eb323_ | (injection eb323_ with f1_ f2_ f3_; have f4_ := f1_.symm; have f5_ := f3_.symm; clear f1_ f2_ f3_; subst f4_; subst f5_)); have HRb323 := Aside0.mk gb323_; have HCb323 := Aside0.mk lb323_; clear gb323_ lb323_; (try clear HO320); (try (have n_ := Aside0.mk (Kd.C_below HRb323.out hbw_); clear HRb323; have HRb323 := n_; clear n_)); (try (have n_ := Aside0.mk (OB.below hbw_ HO_t321.out); clear HO_t321; have HO_t321 := n_; clear n_)); (try (have n_ := Aside0.mk (OB.below hbw_ HO_t324.out); clear HO_t324; have HO_t324 := n_; clear n_)); (first | (have n_ := Aside0.mk (HB00.out.trans (hbw_.mono HB00.out.size)); clear HB00; have HB00 := n_; clear n_) | have HB00 := Aside0.mk hbw_); clear HB hb hbw_; have HO_t321 := Aside0.mk hob0; clear hob0; obtain ⟨w, rfl⟩ : ∃ w_ : World, w_ = w25 := ⟨_, rfl⟩; have HB := Aside0.mk (Below.refl w.heap.size w)) | ((with_reducible refine gate_callee (f := 37) rfl ?_); refine goesL_ (some 12) rfl rfl Try.func37 (by kernel_rfl) rfl #[.pointer Pt321] rfl (by (try simp only [List.map_toArray, List.map_cons, List.map_nil]); first | done | rfl | (simp only [List.length_drop, List.length_take]; rfl)) ?_; (with_reducible refine (trie_New.calls _ t321 t324 _ ?side1 A2.out).mono ?_); (case side1 => first | exact HO_t321.out | exact OB.drewN HO_t321.out _ | exact OB.below (by repeat (first | (with_reducible first | exact HB.out | apply below_alloc | apply pw_below_drewN | apply below_drew1) | exact HB.out)) HO_t321.out); rintro e w26 ⟨Pt324, rfl, hob0, hb⟩; refine ⟨_, rfl, ?_⟩; have hbw_ := below_step (by repeat (first | (with_reducible first | exact HB.out | apply below_alloc | apply pw_below_drewN | apply below_drew1) | exact HB.out)) hb; (try (have n_ := Aside0.mk (Kd.C_below HRb323.out hbw_); clear HRb323; have HRb323 := n_; clear n_)); (try (have n_ := Aside0.mk (OB.below hbw_ HO_t321.out); clear HO_t321; have HO_t321 := n_; clear n_)); (try (have n_ := Aside0.mk (OB.below hbw_ HO_t324.out); clear HO_t324; have HO_t324 := n_; clear n_)); (first | (have n_ := Aside0.mk (HB00.out.trans (hbw_.mono HB00.out.size)); clear HB00; have HB00 := n_; clear n_) | have HB00 := Aside0.mk hbw_); clear HB hb hbw_; have HO_t324 := Aside0.mk hob0; clear hob0; obtain ⟨w, rfl⟩ : ∃ w_ : World, w_ = w26 := ⟨_, rfl⟩; have HB := Aside0.mk (Below.refl w.heap.size w)) | ((with_reducible refine gate_callee (f := 41) rfl ?_); refine goesL_ (some 15) rfl rfl Try.func41 (by kernel_rfl) rfl #[.pointer Pt324, .int .i64 1, .int .u8 99] rfl (by (try simp only [List.map_toArray, List.map_cons, List.map_nil]); first | done | rfl | (simp only [List.length_drop, List.length_take]; rfl)) ?_; (with_reducible refine (trie_Trie_Next.calls _ t324 1 99 t325 t326 _ ?side1 A3.out).mono ?_); (case side1 => first | exact HO_t324.out | exact OB.drewN HO_t324.out _ | exact OB.below (by repeat (first | (with_reducible first | exact HB.out | apply below_alloc | apply pw_below_drewN | apply below_drew1) | exact HB.out)) HO_t324.out); rintro e w' ⟨rfl, ⟨nd, rfl⟩⟩; refine ⟨_, rfl, ?_⟩) | (go_at_call 38; (with_reducible refine (trie_Trie_Len.calls _ t324 t327 _ ?side1 A5.out).mono ?_); (case side1 => first | exact HO_t324.out | exact OB.drewN HO_t324.out _ | exact OB.below (by repeat (first | (with_reducible first | exact HB.out | apply below_alloc | apply pw_below_drewN | apply below_drew1) | exact HB.out)) HO_t324.out); rintro e w' ⟨rfl, ⟨nd, rfl⟩⟩) | (go_at_call 43; (with_reducible refine (trie_Trie_Path.calls _ t324 3 t328 _ ?side1 A7.out).mono ?_); (case side1 => first | exact HO_t324.out | exact OB.drewN HO_t324.out _ | exact OB.below (by repeat (first | (with_reducible first | exact HB.out | apply below_alloc | apply pw_below_drewN | apply below_drew1) | exact HB.out)) HO_t324.out); rintro e w27 ⟨rfl, hb⟩; have n0_ := Aside0.mk (below_step (by repeat (first | (with_reducible first | exact HB.out | apply below_alloc | apply pw_below_drewN | apply below_drew1) | exact HB.out)) hb); clear HB; have HB := n0_; clear n0_; (try clear hb); (try clear hb2); (try clear hk); (try clear hi)))
        go_ret
        exact ⟨by first | rfl | (simp [errW_none, errW_some] <;> rfl) | (simp [*, errW_none, errW_some] <;> rfl), by first | (refine HB00.out.trans (Below.mono ?_ HB00.out.size); (repeat (first | (with_reducible first | exact HB.out | apply below_alloc | apply pw_below_drewN | apply below_drew1) | exact HB.out))) | (repeat (first | (with_reducible first | exact HB.out | apply below_alloc | apply pw_below_drewN | apply below_drew1) | exact HB.out))⟩
    · rw [if_neg c6] at H
      have c6b0 : (t327 == 5) = false := beq_eq_false_iff_ne.mpr c6
      have c6b1 : (t327 != 5) = true := bne_iff_ne.mpr c6
      obtain rfl := Option.some.inj H
      go_enter Try.func36, Try.ntmps36
      go_wp2_with (first | ((with_reducible refine gate_dst (N := 7) rfl ?_); refine Kd.R_lit Kd.string _ 9 ?hg (N := 7) ?hd (xs := ([(⟨#[97, 98]⟩ : ByteArray), (⟨#[97, 99]⟩ : ByteArray), (⟨#[98]⟩ : ByteArray)] : List ByteArray)) (inner := [.string (⟨#[97, 98]⟩ : ByteArray), .string (⟨#[97, 99]⟩ : ByteArray), .string (⟨#[98]⟩ : ByteArray)]) (ok := fun _ => True) (okp := fun _ => True) ?hr ?hp (fun _ hk => hk) trivial (Below.refl _ _) (Nat.le_refl _) (by simp) ?_; (case hd => rfl); (case hg => rfl); (case hr => first | (go_simp; done) | (go_simp; rfl)); (case hp => exact (Reps.one (show Kd.M Kd.string _ _ _ (⟨#[97, 98]⟩ : ByteArray) [.string (⟨#[97, 98]⟩ : ByteArray)] from rfl) (Reps.one (show Kd.M Kd.string _ _ _ (⟨#[97, 99]⟩ : ByteArray) [.string (⟨#[97, 99]⟩ : ByteArray)] from rfl) (Reps.one (show Kd.M Kd.string _ _ _ (⟨#[98]⟩ : ByteArray) [.string (⟨#[98]⟩ : ByteArray)] from rfl) (Reps.none _ _))))); intro v319 w28 ho29 hb hg_ hnew_; clear hg_ hnew_; (first | rw [← Ny318.out] at ho29 | (simp only [Int.reduceToNat] at ho29; rw [← Ny318.out] at ho29)); have n0_ := Aside0.mk (Kd.R_lower ho29 (below_size (by repeat (first | (with_reducible first | exact HB.out | apply below_alloc | apply pw_below_drewN | apply below_drew1) | exact HB.out)))); have n1_ := Aside0.mk (below_step (by repeat (first | (with_reducible first | exact HB.out | apply below_alloc | apply pw_below_drewN | apply below_drew1) | exact HB.out)) hb); clear HB; have HO320 := n0_; have HB := n1_; clear n0_ n1_; clear hb ho29; obtain ⟨Ao30, co30, eo30⟩ := Kd.R_slice HO320.out; subst eo30) | ((with_reducible refine gate_callee (f := 12) rfl ?_); refine goesL_ (some 8) rfl rfl Try.func12 (by kernel_rfl) rfl #[.slice Ao30 y318.length co30] rfl (by (try simp only [List.map_toArray, List.map_cons, List.map_nil]); first | done | rfl | (simp only [List.length_drop, List.length_take]; rfl)) ?_; (with_reducible refine (pats_New.calls _ _ y318 t321 t322 _ ?side1 ?side2 A1.out).mono ?_); (case side1 => repeat (first | exact (Kd.R_reads' HO320.out).2.2 | (with_reducible refine Kd.C_alloc ?_ _) | (with_reducible refine Kd.C_drewN ?_ _) | (with_reducible refine Kd.C_drew ?_))); (case side2 => exact (Kd.R_reads' HO320.out).2.1); rintro e w31 ⟨Pt321, rfl, hob0, hb⟩; refine ⟨_, rfl, ?_⟩; have hbw_ := below_step (by repeat (first | (with_reducible first | exact HB.out | apply below_alloc | apply pw_below_drewN | apply below_drew1) | exact HB.out)) hb; obtain ⟨Ab323, cb323, eb323_, lb323_, gb323_⟩ := Kd.R_reads (Kd.R_below (by (with_reducible repeat (first | apply Kd.R_alloc | apply Kd.R_drewN | apply Kd.R_drew)); exact HO320.out) hb); (first | subst eb323_ | (injection eb323_ with f1_ f2_ f3_; have f4_ := f1_.symm; have f5_ := f3_.symm; clear f1_ f2_ f3_; subst f4_; subst f5_)); have HRb323 := Aside0.mk gb323_; have HCb323 := Aside0.mk lb323_; clear gb323_ lb323_; (try clear HO320); (try (have n_ := Aside0.mk (Kd.C_below HRb323.out hbw_); clear HRb323; have HRb323 := n_; clear n_)); (try (have n_ := Aside0.mk (OB.below hbw_ HO_t321.out); clear HO_t321; have HO_t321 := n_; clear n_)); (try (have n_ := Aside0.mk (OB.below hbw_ HO_t324.out); clear HO_t324; have HO_t324 := n_; clear n_)); (first | (have n_ := Aside0.mk (HB00.out.trans (hbw_.mono HB00.out.size)); clear HB00; have HB00 := n_; clear n_) | have HB00 := Aside0.mk hbw_); clear HB hb hbw_; have HO_t321 := Aside0.mk hob0; clear hob0; obtain ⟨w, rfl⟩ : ∃ w_ : World, w_ = w31 := ⟨_, rfl⟩; have HB := Aside0.mk (Below.refl w.heap.size w)) | ((with_reducible refine gate_callee (f := 37) rfl ?_); refine goesL_ (some 12) rfl rfl Try.func37 (by kernel_rfl) rfl #[.pointer Pt321] rfl (by (try simp only [List.map_toArray, List.map_cons, List.map_nil]); first | done | rfl | (simp only [List.length_drop, List.length_take]; rfl)) ?_; (with_reducible refine (trie_New.calls _ t321 t324 _ ?side1 A2.out).mono ?_); (case side1 => first | exact HO_t321.out | exact OB.drewN HO_t321.out _ | exact OB.below (by repeat (first | (with_reducible first | exact HB.out | apply below_alloc | apply pw_below_drewN | apply below_drew1) | exact HB.out)) HO_t321.out); rintro e w32 ⟨Pt324, rfl, hob0, hb⟩; refine ⟨_, rfl, ?_⟩; have hbw_ := below_step (by repeat (first | (with_reducible first | exact HB.out | apply below_alloc | apply pw_below_drewN | apply below_drew1) | exact HB.out)) hb; (try (have n_ := Aside0.mk (Kd.C_below HRb323.out hbw_); clear HRb323; have HRb323 := n_; clear n_)); (try (have n_ := Aside0.mk (OB.below hbw_ HO_t321.out); clear HO_t321; have HO_t321 := n_; clear n_)); (try (have n_ := Aside0.mk (OB.below hbw_ HO_t324.out); clear HO_t324; have HO_t324 := n_; clear n_)); (first | (have n_ := Aside0.mk (HB00.out.trans (hbw_.mono HB00.out.size)); clear HB00; have HB00 := n_; clear n_) | have HB00 := Aside0.mk hbw_); clear HB hb hbw_; have HO_t324 := Aside0.mk hob0; clear hob0; obtain ⟨w, rfl⟩ : ∃ w_ : World, w_ = w32 := ⟨_, rfl⟩; have HB := Aside0.mk (Below.refl w.heap.size w)) | ((with_reducible refine gate_callee (f := 41) rfl ?_); refine goesL_ (some 15) rfl rfl Try.func41 (by kernel_rfl) rfl #[.pointer Pt324, .int .i64 1, .int .u8 99] rfl (by (try simp only [List.map_toArray, List.map_cons, List.map_nil]); first | done | rfl | (simp only [List.length_drop, List.length_take]; rfl)) ?_; (with_reducible refine (trie_Trie_Next.calls _ t324 1 99 t325 t326 _ ?side1 A3.out).mono ?_); (case side1 => first | exact HO_t324.out | exact OB.drewN HO_t324.out _ | exact OB.below (by repeat (first | (with_reducible first | exact HB.out | apply below_alloc | apply pw_below_drewN | apply below_drew1) | exact HB.out)) HO_t324.out); rintro e w' ⟨rfl, ⟨nd, rfl⟩⟩; refine ⟨_, rfl, ?_⟩) | (go_at_call 38; (with_reducible refine (trie_Trie_Len.calls _ t324 t327 _ ?side1 A5.out).mono ?_); (case side1 => first | exact HO_t324.out | exact OB.drewN HO_t324.out _ | exact OB.below (by repeat (first | (with_reducible first | exact HB.out | apply below_alloc | apply pw_below_drewN | apply below_drew1) | exact HB.out)) HO_t324.out); rintro e w' ⟨rfl, ⟨nd, rfl⟩⟩))
      go_ret
      exact ⟨by first | rfl | (simp [errW_none, errW_some] <;> rfl) | (simp [*, errW_none, errW_some] <;> rfl), by first | (refine HB00.out.trans (Below.mono ?_ HB00.out.size); (repeat (first | (with_reducible first | exact HB.out | apply below_alloc | apply pw_below_drewN | apply below_drew1) | exact HB.out))) | (repeat (first | (with_reducible first | exact HB.out | apply below_alloc | apply pw_below_drewN | apply below_drew1) | exact HB.out))⟩
  · rw [if_neg c4] at H
    have c4b0 : (t322 == 0) = false := beq_eq_false_iff_ne.mpr c4
    have c4b1 : (t322 != 0) = true := bne_iff_ne.mpr c4
    obtain rfl := Option.some.inj H
    go_enter Try.func36, Try.ntmps36
    go_wp2_with (first | ((with_reducible refine gate_dst (N := 7) rfl ?_); refine Kd.R_lit Kd.string _ 9 ?hg (N := 7) ?hd (xs := ([(⟨#[97, 98]⟩ : ByteArray), (⟨#[97, 99]⟩ : ByteArray), (⟨#[98]⟩ : ByteArray)] : List ByteArray)) (inner := [.string (⟨#[97, 98]⟩ : ByteArray), .string (⟨#[97, 99]⟩ : ByteArray), .string (⟨#[98]⟩ : ByteArray)]) (ok := fun _ => True) (okp := fun _ => True) ?hr ?hp (fun _ hk => hk) trivial (Below.refl _ _) (Nat.le_refl _) (by simp) ?_; (case hd => rfl); (case hg => rfl); (case hr => first | (go_simp; done) | (go_simp; rfl)); (case hp => exact (Reps.one (show Kd.M Kd.string _ _ _ (⟨#[97, 98]⟩ : ByteArray) [.string (⟨#[97, 98]⟩ : ByteArray)] from rfl) (Reps.one (show Kd.M Kd.string _ _ _ (⟨#[97, 99]⟩ : ByteArray) [.string (⟨#[97, 99]⟩ : ByteArray)] from rfl) (Reps.one (show Kd.M Kd.string _ _ _ (⟨#[98]⟩ : ByteArray) [.string (⟨#[98]⟩ : ByteArray)] from rfl) (Reps.none _ _))))); intro v319 w33 ho34 hb hg_ hnew_; clear hg_ hnew_; (first | rw [← Ny318.out] at ho34 | (simp only [Int.reduceToNat] at ho34; rw [← Ny318.out] at ho34)); have n0_ := Aside0.mk (Kd.R_lower ho34 (below_size (by repeat (first | (with_reducible first | exact HB.out | apply below_alloc | apply pw_below_drewN | apply below_drew1) | exact HB.out)))); have n1_ := Aside0.mk (below_step (by repeat (first | (with_reducible first | exact HB.out | apply below_alloc | apply pw_below_drewN | apply below_drew1) | exact HB.out)) hb); clear HB; have HO320 := n0_; have HB := n1_; clear n0_ n1_; clear hb ho34; obtain ⟨Ao35, co35, eo35⟩ := Kd.R_slice HO320.out; subst eo35) | ((with_reducible refine gate_callee (f := 12) rfl ?_); refine goesL_ (some 8) rfl rfl Try.func12 (by kernel_rfl) rfl #[.slice Ao35 y318.length co35] rfl (by (try simp only [List.map_toArray, List.map_cons, List.map_nil]); first | done | rfl | (simp only [List.length_drop, List.length_take]; rfl)) ?_; (with_reducible refine (pats_New.calls _ _ y318 t321 t322 _ ?side1 ?side2 A1.out).mono ?_); (case side1 => repeat (first | exact (Kd.R_reads' HO320.out).2.2 | (with_reducible refine Kd.C_alloc ?_ _) | (with_reducible refine Kd.C_drewN ?_ _) | (with_reducible refine Kd.C_drew ?_))); (case side2 => exact (Kd.R_reads' HO320.out).2.1); rintro e w36 ⟨Pt321, rfl, hob0, hb⟩; refine ⟨_, rfl, ?_⟩; have hbw_ := below_step (by repeat (first | (with_reducible first | exact HB.out | apply below_alloc | apply pw_below_drewN | apply below_drew1) | exact HB.out)) hb; obtain ⟨Ab323, cb323, eb323_, lb323_, gb323_⟩ := Kd.R_reads (Kd.R_below (by (with_reducible repeat (first | apply Kd.R_alloc | apply Kd.R_drewN | apply Kd.R_drew)); exact HO320.out) hb); (first | subst eb323_ | (injection eb323_ with f1_ f2_ f3_; have f4_ := f1_.symm; have f5_ := f3_.symm; clear f1_ f2_ f3_; subst f4_; subst f5_)); have HRb323 := Aside0.mk gb323_; have HCb323 := Aside0.mk lb323_; clear gb323_ lb323_; (try clear HO320); (try (have n_ := Aside0.mk (Kd.C_below HRb323.out hbw_); clear HRb323; have HRb323 := n_; clear n_)); (try (have n_ := Aside0.mk (OB.below hbw_ HO_t321.out); clear HO_t321; have HO_t321 := n_; clear n_)); (try (have n_ := Aside0.mk (OB.below hbw_ HO_t324.out); clear HO_t324; have HO_t324 := n_; clear n_)); (first | (have n_ := Aside0.mk (HB00.out.trans (hbw_.mono HB00.out.size)); clear HB00; have HB00 := n_; clear n_) | have HB00 := Aside0.mk hbw_); clear HB hb hbw_; have HO_t321 := Aside0.mk hob0; clear hob0; obtain ⟨w, rfl⟩ : ∃ w_ : World, w_ = w36 := ⟨_, rfl⟩; have HB := Aside0.mk (Below.refl w.heap.size w)) | ((with_reducible refine gate_callee (f := 37) rfl ?_); refine goesL_ (some 12) rfl rfl Try.func37 (by kernel_rfl) rfl #[.pointer Pt321] rfl (by (try simp only [List.map_toArray, List.map_cons, List.map_nil]); first | done | rfl | (simp only [List.length_drop, List.length_take]; rfl)) ?_; (with_reducible refine (trie_New.calls _ t321 t324 _ ?side1 A2.out).mono ?_); (case side1 => first | exact HO_t321.out | exact OB.drewN HO_t321.out _ | exact OB.below (by repeat (first | (with_reducible first | exact HB.out | apply below_alloc | apply pw_below_drewN | apply below_drew1) | exact HB.out)) HO_t321.out); rintro e w37 ⟨Pt324, rfl, hob0, hb⟩; refine ⟨_, rfl, ?_⟩; have hbw_ := below_step (by repeat (first | (with_reducible first | exact HB.out | apply below_alloc | apply pw_below_drewN | apply below_drew1) | exact HB.out)) hb; (try (have n_ := Aside0.mk (Kd.C_below HRb323.out hbw_); clear HRb323; have HRb323 := n_; clear n_)); (try (have n_ := Aside0.mk (OB.below hbw_ HO_t321.out); clear HO_t321; have HO_t321 := n_; clear n_)); (try (have n_ := Aside0.mk (OB.below hbw_ HO_t324.out); clear HO_t324; have HO_t324 := n_; clear n_)); (first | (have n_ := Aside0.mk (HB00.out.trans (hbw_.mono HB00.out.size)); clear HB00; have HB00 := n_; clear n_) | have HB00 := Aside0.mk hbw_); clear HB hb hbw_; have HO_t324 := Aside0.mk hob0; clear hob0; obtain ⟨w, rfl⟩ : ∃ w_ : World, w_ = w37 := ⟨_, rfl⟩; have HB := Aside0.mk (Below.refl w.heap.size w)) | ((with_reducible refine gate_callee (f := 41) rfl ?_); refine goesL_ (some 15) rfl rfl Try.func41 (by kernel_rfl) rfl #[.pointer Pt324, .int .i64 1, .int .u8 99] rfl (by (try simp only [List.map_toArray, List.map_cons, List.map_nil]); first | done | rfl | (simp only [List.length_drop, List.length_take]; rfl)) ?_; (with_reducible refine (trie_Trie_Next.calls _ t324 1 99 t325 t326 _ ?side1 A3.out).mono ?_); (case side1 => first | exact HO_t324.out | exact OB.drewN HO_t324.out _ | exact OB.below (by repeat (first | (with_reducible first | exact HB.out | apply below_alloc | apply pw_below_drewN | apply below_drew1) | exact HB.out)) HO_t324.out); rintro e w' ⟨rfl, ⟨nd, rfl⟩⟩; refine ⟨_, rfl, ?_⟩))
    go_ret
    exact ⟨by first | rfl | (simp [errW_none, errW_some] <;> rfl) | (simp [*, errW_none, errW_some] <;> rfl), by first | (refine HB00.out.trans (Below.mono ?_ HB00.out.size); (repeat (first | (with_reducible first | exact HB.out | apply below_alloc | apply pw_below_drewN | apply below_drew1) | exact HB.out))) | (repeat (first | (with_reducible first | exact HB.out | apply below_alloc | apply pw_below_drewN | apply below_drew1) | exact HB.out))⟩

end Go.Proofs.Ytnpkbnfiadkgnaa.P

/- Proved here: what Go functions of this seat compute, or a law of it; no condition beyond the statement's own. Written for this claim by a program of this session (wip/myprint.py) over the kit's print.py. -/
namespace Go.Proofs.Ytnpkbnfiadkgnaa.P
open Go.RowKit Go.Proofs.YtnpkbnfiadkgnaaW.PrintWords Go.Proofs.YtnpkbnfiadkgnaaW.PrintLast Go.Proofs.YtnpkbnfiadkgnaaW.PrintMore
attribute [local go_sem] max2_int min2_int max_two min_two max_three min_three max_four min_four   -- for this text's walks alone
set_option linter.unusedVariables false
set_option linter.unusedSimpArgs false

/-! ### juratref16_States: function 44 -/
mutual
def juratref16_States.l0 : Nat → List ByteArray → List ByteArray → Int → Int → Option (List ByteArray)
  | 0, _, _, _, _ => none
  | k + 1, x0, x3, x4, x5 => if x5 < (x0.length : Int) then (if 0 ≤ x5 then (if ((rdOf ByteArray.empty x0 x5).size : Int) > x4 then (juratref16_States.l0 k x0 x3 ((rdOf ByteArray.empty x0 x5).size : Int) (wrap64 (x5 + 1))) else (juratref16_States.l0 k x0 x3 x4 (wrap64 (x5 + 1)))) else (none)) else (juratref16_States.l1 k x0 x3 x4 1)
def juratref16_States.l1 : Nat → List ByteArray → List ByteArray → Int → Int → Option (List ByteArray)
  | 0, _, _, _, _ => none
  | k + 1, x0, x3, x4, x6 => if x6 ≤ x4 then (juratref16_States.l2 k x0 x3 x4 x6 0) else (some x3)
def juratref16_States.l2 : Nat → List ByteArray → List ByteArray → Int → Int → Int → Option (List ByteArray)
  | 0, _, _, _, _, _ => none
  | k + 1, x0, x3, x4, x6, x7 => if x7 < (x0.length : Int) then (if 0 ≤ x7 then (if ((rdOf ByteArray.empty x0 x7).size : Int) ≥ x6 then (if 0 ≤ x6 then (if x6 ≤ ((rdOf ByteArray.empty x0 x7).size : Int) then (if 0 ≤ (wrap64 ((x3.length : Int) - 1)) then (if (wrap64 ((x3.length : Int) - 1)) < (x3.length : Int) then (if ((rdOf ByteArray.empty x0 x7).extract 0 (x6 : Int).toNat).toList = (rdOf ByteArray.empty x3 (wrap64 ((x3.length : Int) - 1))).toList then (juratref16_States.l2 k x0 x3 x4 x6 (wrap64 (x7 + 1))) else (if x3.length < 8796093022208 then (juratref16_States.l2 k x0 (x3 ++ [(rdOf ByteArray.empty x0 x7).extract 0 (x6 : Int).toNat]) x4 x6 (wrap64 (x7 + 1))) else (none))) else (none)) else (none)) else (none)) else (none)) else (juratref16_States.l2 k x0 x3 x4 x6 (wrap64 (x7 + 1)))) else (none)) else (juratref16_States.l1 k x0 x3 x4 (wrap64 (x6 + 1)))
end
def juratref16_States.f (k : Nat) (l0 : List ByteArray) : Option (List ByteArray) := juratref16_States.l0 k l0 (([(⟨#[]⟩ : ByteArray)] : List ByteArray)) 0 0
theorem juratref16_States.mono_l : ∀ k, (∀ y0 y1 y2 y3, LeO (juratref16_States.l0 k y0 y1 y2 y3) (juratref16_States.l0 (k + 1) y0 y1 y2 y3)) ∧ (∀ y0 y1 y2 y3, LeO (juratref16_States.l1 k y0 y1 y2 y3) (juratref16_States.l1 (k + 1) y0 y1 y2 y3)) ∧ (∀ y0 y1 y2 y3 y4, LeO (juratref16_States.l2 k y0 y1 y2 y3 y4) (juratref16_States.l2 (k + 1) y0 y1 y2 y3 y4))
  | 0 => ⟨fun _ _ _ _ r h => by simp [juratref16_States.l0] at h, fun _ _ _ _ r h => by simp [juratref16_States.l1] at h, fun _ _ _ _ _ r h => by simp [juratref16_States.l2] at h⟩
  | k + 1 => by
    obtain ⟨ih0, ih1, ih2⟩ := juratref16_States.mono_l k
    refine ⟨?_, ?_, ?_⟩
    · intro y0 y1 y2 y3
      unfold juratref16_States.l0
      repeat' first
      | (with_reducible exact ih0 _ _ _ _)
      | (with_reducible exact ih1 _ _ _ _)
      | (with_reducible exact ih2 _ _ _ _ _)
      | (with_reducible exact LeO.refl _)
      | (with_reducible exact LeO.none _)
      | (with_reducible refine LeO.ite ?_ ?_)
      | (with_reducible refine LeO.bind ?_ (fun _ => ?_))
      | exact ih0 _ _ _ _
      | exact ih1 _ _ _ _
      | exact ih2 _ _ _ _ _
      | exact LeO.none _
      | refine LeO.ite ?_ ?_
      | refine LeO.bind ?_ (fun _ => ?_)
    · intro y0 y1 y2 y3
      unfold juratref16_States.l1
      repeat' first
      | (with_reducible exact ih0 _ _ _ _)
      | (with_reducible exact ih1 _ _ _ _)
      | (with_reducible exact ih2 _ _ _ _ _)
      | (with_reducible exact LeO.refl _)
      | (with_reducible exact LeO.none _)
      | (with_reducible refine LeO.ite ?_ ?_)
      | (with_reducible refine LeO.bind ?_ (fun _ => ?_))
      | exact ih0 _ _ _ _
      | exact ih1 _ _ _ _
      | exact ih2 _ _ _ _ _
      | exact LeO.none _
      | refine LeO.ite ?_ ?_
      | refine LeO.bind ?_ (fun _ => ?_)
    · intro y0 y1 y2 y3 y4
      unfold juratref16_States.l2
      repeat' first
      | (with_reducible exact ih0 _ _ _ _)
      | (with_reducible exact ih1 _ _ _ _)
      | (with_reducible exact ih2 _ _ _ _ _)
      | (with_reducible exact LeO.refl _)
      | (with_reducible exact LeO.none _)
      | (with_reducible refine LeO.ite ?_ ?_)
      | (with_reducible refine LeO.bind ?_ (fun _ => ?_))
      | exact ih0 _ _ _ _
      | exact ih1 _ _ _ _
      | exact ih2 _ _ _ _ _
      | exact LeO.none _
      | refine LeO.ite ?_ ?_
      | refine LeO.bind ?_ (fun _ => ?_)
theorem juratref16_States.mono : ∀ a0 k, LeO (juratref16_States.f k a0) (juratref16_States.f (k + 1) a0) := by
  intro a0 k
  obtain ⟨ih0, ih1, ih2⟩ := juratref16_States.mono_l k
  unfold juratref16_States.f
  repeat' first
      | (with_reducible exact ih0 _ _ _ _)
      | (with_reducible exact ih1 _ _ _ _)
      | (with_reducible exact ih2 _ _ _ _ _)
      | (with_reducible exact LeO.refl _)
      | (with_reducible exact LeO.none _)
      | (with_reducible refine LeO.ite ?_ ?_)
      | (with_reducible refine LeO.bind ?_ (fun _ => ?_))
      | exact ih0 _ _ _ _
      | exact ih1 _ _ _ _
      | exact ih2 _ _ _ _ _
      | exact LeO.none _
      | refine LeO.ite ?_ ?_
      | refine LeO.bind ?_ (fun _ => ?_)
set_option maxHeartbeats 8000000 in
set_option maxRecDepth 100000 in
theorem juratref16_States.calls (k : Nat) (A0 : Option Addr) (c0 : Nat) (l0 : List ByteArray) (r : List ByteArray) (w : World) (hr0 : Kd.C Kd.string w A0 l0.length l0) (hc0 : l0.length ≤ c0) (h : juratref16_States.f k l0 = some r) :
    Calls Try.prog 44 #[.slice A0 l0.length c0] w fun e w' => ∃ v0_ : Value, e = .returned (v0_) ∧ Kd.R Kd.string 9 w' w.heap.size (fun _ => True) v0_ r ∧ Below w.heap.size w w' := by
  have HR0 := Aside0.mk hr0
  have HC0 := Aside0.mk hc0
  clear hr0 hc0
  have HB := Aside0.mk (Below.refl w.heap.size w)
  have H : (juratref16_States.l0 k l0 (([(⟨#[]⟩ : ByteArray)] : List ByteArray)) 0 0) = some r := h
  clear h
  obtain ⟨y351, hy351⟩ : ∃ y_ : List ByteArray, y_ = (([(⟨#[]⟩ : ByteArray)] : List ByteArray)) := ⟨_, rfl⟩
  replace H : (juratref16_States.l0 k l0 y351 0 0) = some r := by first | (rw [hy351]; with_reducible exact H) | (have H2_ := (Option.bind_some _ _).symm.trans H; rw [hy351]; with_reducible exact H2_) | (have H2_ := (Option.bind_some _ _).symm.trans H; with_reducible exact H2_) | with_reducible exact H | (rw [hy351]; exact H) | exact H
  have Ny351 := Aside0.mk hy351
  clear hy351
  have H' := Aside0.mk H
  clear H
  go_enter Try.func44, Try.ntmps44
  go_wp2_with (first | ((with_reducible refine gate_dst (N := 8) rfl ?_); (try (refine gate_guard (by rfl) ?_; dsimp only)); refine Kd.R_lit Kd.string _ 9 ?hg (N := 8) ?hd (xs := ([(⟨#[]⟩ : ByteArray)] : List ByteArray)) (inner := [.string (⟨#[]⟩ : ByteArray)]) (ok := fun _ => True) (okp := fun _ => True) ?hr ?hp (fun _ hk => hk) trivial (Below.refl _ _) (Nat.le_refl _) (by simp) ?_; (case hd => rfl); (case hg => rfl); (case hr => first | (go_simp; done) | (go_simp; rfl)); (case hp => exact (Reps.one (show Kd.M Kd.string _ _ _ (⟨#[]⟩ : ByteArray) [.string (⟨#[]⟩ : ByteArray)] from rfl) (Reps.none _ _))); intro v352 w2 ho3 hb hg_ hnew_; clear hg_ hnew_; (first | rw [← Ny351.out] at ho3 | (simp only [Int.reduceToNat] at ho3; rw [← Ny351.out] at ho3)); have n0_ := Aside0.mk (Kd.R_lower ho3 (below_size (by repeat (first | (with_reducible first | exact HB.out | apply below_alloc | apply pw_below_drewN | apply below_drew1) | exact HB.out)))); have n1_ := Aside0.mk (below_step (by repeat (first | (with_reducible first | exact HB.out | apply below_alloc | apply pw_below_drewN | apply below_drew1) | exact HB.out)) hb); clear HB; have HO353 := n0_; have HB := n1_; clear n0_ n1_; clear hb ho3))
  repeat (go_quiet (first | ((with_reducible refine gate_dst (N := 8) rfl ?_); (try (refine gate_guard (by rfl) ?_; dsimp only)); refine Kd.R_lit Kd.string _ 9 ?hg (N := 8) ?hd (xs := ([(⟨#[]⟩ : ByteArray)] : List ByteArray)) (inner := [.string (⟨#[]⟩ : ByteArray)]) (ok := fun _ => True) (okp := fun _ => True) ?hr ?hp (fun _ hk => hk) trivial (Below.refl _ _) (Nat.le_refl _) (by simp) ?_; (case hd => rfl); (case hg => rfl); (case hr => first | (go_simp; done) | (go_simp; rfl)); (case hp => exact (Reps.one (show Kd.M Kd.string _ _ _ (⟨#[]⟩ : ByteArray) [.string (⟨#[]⟩ : ByteArray)] from rfl) (Reps.none _ _))); intro v352 w2 ho3 hb hg_ hnew_; clear hg_ hnew_; (first | rw [← Ny351.out] at ho3 | (simp only [Int.reduceToNat] at ho3; rw [← Ny351.out] at ho3)); have n0_ := Aside0.mk (Kd.R_lower ho3 (below_size (by repeat (first | (with_reducible first | exact HB.out | apply below_alloc | apply pw_below_drewN | apply below_drew1) | exact HB.out)))); have n1_ := Aside0.mk (below_step (by repeat (first | (with_reducible first | exact HB.out | apply below_alloc | apply pw_below_drewN | apply below_drew1) | exact HB.out)) hb); clear HB; have HO353 := n0_; have HB := n1_; clear n0_ n1_; clear hb ho3)); try go_wp2_with (first | ((with_reducible refine gate_dst (N := 8) rfl ?_); (try (refine gate_guard (by rfl) ?_; dsimp only)); refine Kd.R_lit Kd.string _ 9 ?hg (N := 8) ?hd (xs := ([(⟨#[]⟩ : ByteArray)] : List ByteArray)) (inner := [.string (⟨#[]⟩ : ByteArray)]) (ok := fun _ => True) (okp := fun _ => True) ?hr ?hp (fun _ hk => hk) trivial (Below.refl _ _) (Nat.le_refl _) (by simp) ?_; (case hd => rfl); (case hg => rfl); (case hr => first | (go_simp; done) | (go_simp; rfl)); (case hp => exact (Reps.one (show Kd.M Kd.string _ _ _ (⟨#[]⟩ : ByteArray) [.string (⟨#[]⟩ : ByteArray)] from rfl) (Reps.none _ _))); intro v352 w2 ho3 hb hg_ hnew_; clear hg_ hnew_; (first | rw [← Ny351.out] at ho3 | (simp only [Int.reduceToNat] at ho3; rw [← Ny351.out] at ho3)); have n0_ := Aside0.mk (Kd.R_lower ho3 (below_size (by repeat (first | (with_reducible first | exact HB.out | apply below_alloc | apply pw_below_drewN | apply below_drew1) | exact HB.out)))); have n1_ := Aside0.mk (below_step (by repeat (first | (with_reducible first | exact HB.out | apply below_alloc | apply pw_below_drewN | apply below_drew1) | exact HB.out)) hb); clear HB; have HO353 := n0_; have HB := n1_; clear n0_ n1_; clear hb ho3)))
  go_loopg [4, 5] k (fun kq v4 v5 w' => ∃ (x4_1 : Int) (x5_1 : Int), v4 = .int .i64 x4_1 ∧ v5 = .int .i64 x5_1 ∧ Aside0 (juratref16_States.l0 kq l0 y351 x4_1 x5_1 = some r) ∧ Aside0 (kq ≤ k) ∧ Aside0 (Kd.R Kd.string 9 w' w.heap.size (fun _ => True) v352 y351) ∧ Aside0 (Below w.heap.size w w'))
  case atStart => exact ⟨(0), (0), (by first | rfl | exact isE_ _ | exact isE2_ _ | (simp; done) | (simp [*]; done)), (by first | rfl | exact isE_ _ | exact isE2_ _ | (simp; done) | (simp [*]; done)), H', ⟨Nat.le_refl _⟩, ⟨by (with_reducible repeat (first | apply Kd.R_alloc | apply Kd.R_drewN | apply Kd.R_drew)); exact HO353.out⟩, ⟨by repeat (first | (with_reducible first | exact HB.out | apply below_alloc | apply pw_below_drewN | apply below_drew1) | exact HB.out)⟩⟩
  case round =>
    clear H'
    try clear p2
    obtain ⟨x4_1, x5_1, rfl, rfl, HA, HK1, HO_3, HB⟩ := hrel
    cases gk with
    | zero => exact absurd HA.out (by simp [juratref16_States.l0])
    | succ k1 =>
      have H := HA.out
      clear HA
      simp only [juratref16_States.l0] at H
      by_cases c4 : x5_1 < (l0.length : Int)
      · rw [if_pos c4] at H
        have c4b0 : decide (x5_1 < (l0.length : Int)) = true := decide_eq_true c4
        clear c4
        by_cases c5 : 0 ≤ x5_1
        · rw [if_pos c5] at H
          have c5b0 : decide (0 ≤ x5_1) = true := decide_eq_true c5
          clear c5
          by_cases c6 : ((rdOf ByteArray.empty l0 x5_1).size : Int) > x4_1
          · rw [if_pos c6] at H
            have c6b0 : decide (x4_1 < ((rdOf ByteArray.empty l0 x5_1).size : Int)) = true := decide_eq_true c6
            clear c6
            have H' := Aside0.mk H
            clear H
            have p354 : 0 ≤ (x5_1 : Int) := of_decide_eq_true (by first | (with_reducible assumption) | assumption)
            have q354 : x5_1 < (l0.length : Int) := of_decide_eq_true (by first | (with_reducible assumption) | assumption)
            obtain ⟨ad354, e354, hx354_0⟩ := Kd.at_string HR0.out x5_1 p354 q354
            cases e354
            replace hx354_0 := (HB.out.cell (World.block_lt_of_cell? w _ hx354_0)).trans hx354_0
            replace p354 := eq_true p354
            replace q354 := eq_true q354
            have p355 : 0 ≤ (x5_1 : Int) := of_decide_eq_true (by first | (with_reducible assumption) | assumption)
            have q355 : x5_1 < (l0.length : Int) := of_decide_eq_true (by first | (with_reducible assumption) | assumption)
            obtain ⟨ad355, e355, hx355_0⟩ := Kd.at_string HR0.out x5_1 p355 q355
            obtain rfl : ad354 = ad355 := (by injection e355)
            replace hx355_0 := (HB.out.cell (World.block_lt_of_cell? w _ hx355_0)).trans hx355_0
            replace p355 := eq_true p355
            replace q355 := eq_true q355
            go_wp2
            repeat (go_quiet (fail); try go_wp2)
            go_roundg k1
            case measure => have := HK1.out; omega
            case rel => exact ⟨(((rdOf ByteArray.empty l0 x5_1).size : Int)), (wrap64 (x5_1 + 1)), (by first | rfl | exact isE_ _ | exact isE2_ _ | (simp; done) | (simp [*]; done)), (by first | rfl | exact isE_ _ | exact isE2_ _ | (simp; done) | (simp [*]; done)), H', ⟨by have := HK1.out; omega⟩, ⟨by (with_reducible repeat (first | apply Kd.R_alloc | apply Kd.R_drewN | apply Kd.R_drew)); exact HO_3.out⟩, ⟨by repeat (first | (with_reducible first | exact HB.out | apply below_alloc | apply pw_below_drewN | apply below_drew1) | exact HB.out)⟩⟩
          · rw [if_neg c6] at H
            have c6b0 : decide (x4_1 < ((rdOf ByteArray.empty l0 x5_1).size : Int)) = false := decide_eq_false c6
            clear c6
            have H' := Aside0.mk H
            clear H
            have p354 : 0 ≤ (x5_1 : Int) := of_decide_eq_true (by first | (with_reducible assumption) | assumption)
            have q354 : x5_1 < (l0.length : Int) := of_decide_eq_true (by first | (with_reducible assumption) | assumption)
            obtain ⟨ad354, e354, hx354_0⟩ := Kd.at_string HR0.out x5_1 p354 q354
            cases e354
            replace hx354_0 := (HB.out.cell (World.block_lt_of_cell? w _ hx354_0)).trans hx354_0
            replace p354 := eq_true p354
            replace q354 := eq_true q354
            go_wp2
            repeat (go_quiet (fail); try go_wp2)
            go_roundg k1
            case measure => have := HK1.out; omega
            case rel => exact ⟨(x4_1), (wrap64 (x5_1 + 1)), (by first | rfl | exact isE_ _ | exact isE2_ _ | (simp; done) | (simp [*]; done)), (by first | rfl | exact isE_ _ | exact isE2_ _ | (simp; done) | (simp [*]; done)), H', ⟨by have := HK1.out; omega⟩, ⟨by (with_reducible repeat (first | apply Kd.R_alloc | apply Kd.R_drewN | apply Kd.R_drew)); exact HO_3.out⟩, ⟨by repeat (first | (with_reducible first | exact HB.out | apply below_alloc | apply pw_below_drewN | apply below_drew1) | exact HB.out)⟩⟩
        · rw [if_neg c5] at H
          exact absurd H (by simp)
      · rw [if_neg c4] at H
        have c4b0 : decide (x5_1 < (l0.length : Int)) = false := decide_eq_false c4
        clear c4
        have H' := Aside0.mk H
        clear H
        go_wp2
        repeat (go_quiet (fail); try go_wp2)
        go_loopg [3, 6] k1 (fun kq v3 v6 w' => ∃ (x3_2 : List ByteArray) (x6_2 : Int), v6 = .int .i64 x6_2 ∧ Aside0 (juratref16_States.l1 kq l0 x3_2 x4_1 x6_2 = some r) ∧ Aside0 (kq ≤ k1) ∧ Aside0 (Kd.R Kd.string 9 w' w.heap.size (fun _ => True) v3 x3_2) ∧ Aside0 (Below w.heap.size w w'))
        case atStart => exact ⟨(y351), (1), (by first | rfl | exact isE_ _ | exact isE2_ _ | (simp; done) | (simp [*]; done)), H', ⟨Nat.le_refl _⟩, ⟨by (with_reducible repeat (first | apply Kd.R_alloc | apply Kd.R_drewN | apply Kd.R_drew)); exact HO_3.out⟩, ⟨by repeat (first | (with_reducible first | exact HB.out | apply below_alloc | apply pw_below_drewN | apply below_drew1) | exact HB.out)⟩⟩
        case round =>
          clear H'
          try clear p2
          try clear p3
          try clear q3
          try clear hx3
          try clear c4
          try clear c4b0
          try clear c5
          try clear c5b0
          try clear c6
          try clear c6b0
          try clear p6
          try clear hx354_0
          try clear hx355_0
          try clear p2
          try clear p354
          try clear p355
          try clear q354
          try clear q355
          obtain ⟨x3_2, x6_2, rfl, HA, HK2, HO_3, HB⟩ := hrel
          cases gk with
          | zero => exact absurd HA.out (by simp [juratref16_States.l1])
          | succ k2 =>
            have H := HA.out
            clear HA
            simp only [juratref16_States.l1] at H
            by_cases c7 : x6_2 ≤ x4_1
            · rw [if_pos c7] at H
              have c7b0 : decide (x6_2 ≤ x4_1) = true := decide_eq_true c7
              clear c7
              have H' := Aside0.mk H
              clear H
              go_wp2
              repeat (go_quiet (fail); try go_wp2)
              go_loopg [3, 7] k2 (fun kq v3 v7 w' => ∃ (x3_3 : List ByteArray) (x7_3 : Int), v7 = .int .i64 x7_3 ∧ Aside0 (juratref16_States.l2 kq l0 x3_3 x4_1 x6_2 x7_3 = some r) ∧ Aside0 (kq ≤ k2) ∧ Aside0 (Kd.R Kd.string 9 w' w.heap.size (fun _ => True) v3 x3_3) ∧ Aside0 (Below w.heap.size w w'))
              case atStart => exact ⟨(x3_2), (0), (by first | rfl | exact isE_ _ | exact isE2_ _ | (simp; done) | (simp [*]; done)), H', ⟨Nat.le_refl _⟩, ⟨by (with_reducible repeat (first | apply Kd.R_alloc | apply Kd.R_drewN | apply Kd.R_drew)); exact HO_3.out⟩, ⟨by repeat (first | (with_reducible first | exact HB.out | apply below_alloc | apply pw_below_drewN | apply below_drew1) | exact HB.out)⟩⟩
              case round =>
                clear H'
                try clear p2
                try clear p3
                try clear q3
                try clear hx3
                try clear c4
                try clear c4b0
                try clear c5
                try clear c5b0
                try clear c6
                try clear c6b0
                try clear p6
                try clear c7
                try clear c7b0
                try clear hx354_0
                try clear hx355_0
                try clear p2
                try clear p3
                try clear p354
                try clear p355
                try clear p6
                try clear q3
                try clear q354
                try clear q355
                obtain ⟨x3_3, x7_3, rfl, HA, HK3, HO_3, HB⟩ := hrel
                cases gk with
                | zero => exact absurd HA.out (by simp [juratref16_States.l2])
                | succ k3 =>
                  have H := HA.out
                  clear HA
                  simp only [juratref16_States.l2] at H
                  by_cases c8 : x7_3 < (l0.length : Int)
                  · rw [if_pos c8] at H
                    have c8b0 : decide (x7_3 < (l0.length : Int)) = true := decide_eq_true c8
                    clear c8
                    by_cases c9 : 0 ≤ x7_3
                    · rw [if_pos c9] at H
                      have c9b0 : decide (0 ≤ x7_3) = true := decide_eq_true c9
                      clear c9
                      by_cases c10 : ((rdOf ByteArray.empty l0 x7_3).size : Int) ≥ x6_2
                      · rw [if_pos c10] at H
                        have c10b0 : decide (x6_2 ≤ ((rdOf ByteArray.empty l0 x7_3).size : Int)) = true := decide_eq_true c10
                        clear c10
                        by_cases c11 : 0 ≤ x6_2
                        · rw [if_pos c11] at H
                          have c11b0 := eq_true c11
                          have c11b1 : decide (0 ≤ x6_2) = true := decide_eq_true c11
                          clear c11
                          by_cases c12 : x6_2 ≤ ((rdOf ByteArray.empty l0 x7_3).size : Int)
                          · rw [if_pos c12] at H
                            have c12b0 := eq_true c12
                            have c12b1 : decide (x6_2 ≤ ((rdOf ByteArray.empty l0 x7_3).size : Int)) = true := decide_eq_true c12
                            clear c12
                            obtain ⟨ji13, hji13⟩ : ∃ j_ : Int, (wrap64 ((x3_3.length : Int) - 1)) = j_ := ⟨_, rfl⟩
                            replace H : (if 0 ≤ (ji13) then (if (ji13) < (x3_3.length : Int) then (if ((rdOf ByteArray.empty l0 x7_3).extract 0 (x6_2 : Int).toNat).toList = (rdOf ByteArray.empty x3_3 (ji13)).toList then (juratref16_States.l2 k3 l0 x3_3 x4_1 x6_2 (wrap64 (x7_3 + 1))) else (if x3_3.length < 8796093022208 then (juratref16_States.l2 k3 l0 (x3_3 ++ [(rdOf ByteArray.empty l0 x7_3).extract 0 (x6_2 : Int).toNat]) x4_1 x6_2 (wrap64 (x7_3 + 1))) else (none))) else (none)) else (none)) = some r := by first | (rw [hji13] at H; exact H) | (simp only [hji13] at H ⊢; exact H)
                            have hji13w : (IntKind.i64.wrap ((x3_3.length : Int) - 1)) = ji13 := (i64_w _).trans hji13
                            by_cases c14 : 0 ≤ (ji13)
                            · rw [if_pos c14] at H
                              have c14b0 : decide (0 ≤ (ji13)) = true := decide_eq_true c14
                              clear c14
                              by_cases c15 : (ji13) < (x3_3.length : Int)
                              · rw [if_pos c15] at H
                                have c15b0 : decide ((ji13) < (x3_3.length : Int)) = true := decide_eq_true c15
                                clear c15
                                by_cases c16 : ((rdOf ByteArray.empty l0 x7_3).extract 0 (x6_2 : Int).toNat).toList = (rdOf ByteArray.empty x3_3 (ji13)).toList
                                · rw [if_pos c16] at H
                                  have c16b0 : (((rdOf ByteArray.empty l0 x7_3).extract 0 (x6_2 : Int).toNat).toList == (rdOf ByteArray.empty x3_3 (ji13)).toList) = true := beq_iff_eq.mpr c16
                                  have c16b1 : (((rdOf ByteArray.empty l0 x7_3).extract 0 (x6_2 : Int).toNat).toList != (rdOf ByteArray.empty x3_3 (ji13)).toList) = false := bne_eq_false_iff_eq.mpr c16
                                  clear c16
                                  have H' := Aside0.mk H
                                  clear H
                                  have p356 : 0 ≤ (x7_3 : Int) := of_decide_eq_true (by first | (with_reducible assumption) | assumption)
                                  have q356 : x7_3 < (l0.length : Int) := of_decide_eq_true (by first | (with_reducible assumption) | assumption)
                                  obtain ⟨ad356, e356, hx356_0⟩ := Kd.at_string HR0.out x7_3 p356 q356
                                  cases e356
                                  replace hx356_0 := (HB.out.cell (World.block_lt_of_cell? w _ hx356_0)).trans hx356_0
                                  replace p356 := eq_true p356
                                  replace q356 := eq_true q356
                                  have p357 : 0 ≤ (x7_3 : Int) := of_decide_eq_true (by first | (with_reducible assumption) | assumption)
                                  have q357 : x7_3 < (l0.length : Int) := of_decide_eq_true (by first | (with_reducible assumption) | assumption)
                                  obtain ⟨ad357, e357, hx357_0⟩ := Kd.at_string HR0.out x7_3 p357 q357
                                  obtain rfl : ad356 = ad357 := (by injection e357)
                                  replace hx357_0 := (HB.out.cell (World.block_lt_of_cell? w _ hx357_0)).trans hx357_0
                                  replace p357 := eq_true p357
                                  replace q357 := eq_true q357
                                  obtain ⟨Ao17, co17, eo17⟩ := Kd.R_slice HO_3.out
                                  subst eo17
                                  have p358 : 0 ≤ ((ji13) : Int) := of_decide_eq_true (by first | (with_reducible assumption) | assumption)
                                  have q358 : (ji13) < (x3_3.length : Int) := of_decide_eq_true (by first | (with_reducible assumption) | assumption)
                                  obtain ⟨ad358, e358, hx358_0⟩ := Kd.at_string (Kd.R_reads' HO_3.out).2.2 (ji13) p358 q358
                                  cases e358
                                  replace p358 := eq_true p358
                                  replace q358 := eq_true q358
                                  go_wp2
                                  repeat (go_quiet (fail); try go_wp2)
                                  go_roundg k3
                                  case measure => have := HK1.out; have := HK2.out; have := HK3.out; omega
                                  case rel => exact ⟨(x3_3), (wrap64 (x7_3 + 1)), (by first | rfl | exact isE_ _ | exact isE2_ _ | (simp; done) | (simp [*]; done)), H', ⟨by have := HK1.out; have := HK2.out; have := HK3.out; omega⟩, ⟨by (with_reducible repeat (first | apply Kd.R_alloc | apply Kd.R_drewN | apply Kd.R_drew)); exact HO_3.out⟩, ⟨by repeat (first | (with_reducible first | exact HB.out | apply below_alloc | apply pw_below_drewN | apply below_drew1) | exact HB.out)⟩⟩
                                · rw [if_neg c16] at H
                                  have c16b0 : (((rdOf ByteArray.empty l0 x7_3).extract 0 (x6_2 : Int).toNat).toList == (rdOf ByteArray.empty x3_3 (ji13)).toList) = false := beq_eq_false_iff_ne.mpr c16
                                  have c16b1 : (((rdOf ByteArray.empty l0 x7_3).extract 0 (x6_2 : Int).toNat).toList != (rdOf ByteArray.empty x3_3 (ji13)).toList) = true := bne_iff_ne.mpr c16
                                  have c18b0 := eq_true (of_decide_eq_true (by first | (with_reducible assumption) | assumption) : 0 ≤ x6_2)
                                  have c19b0 := eq_true (of_decide_eq_true (by first | (with_reducible assumption) | assumption) : x6_2 ≤ ((rdOf ByteArray.empty l0 x7_3).size : Int))
                                  by_cases c20 : x3_3.length < 8796093022208
                                  · rw [if_pos c20] at H
                                    have LMc20 := Aside0.mk c20
                                    clear c20
                                    obtain ⟨y360, hy360⟩ : ∃ y_ : List ByteArray, y_ = (x3_3 ++ [(rdOf ByteArray.empty l0 x7_3).extract 0 (x6_2 : Int).toNat]) := ⟨_, rfl⟩
                                    replace H : (juratref16_States.l2 k3 l0 y360 x4_1 x6_2 (wrap64 (x7_3 + 1))) = some r := by first | (rw [hy360]; with_reducible exact H) | (have H2_ := (Option.bind_some _ _).symm.trans H; rw [hy360]; with_reducible exact H2_) | (have H2_ := (Option.bind_some _ _).symm.trans H; with_reducible exact H2_) | with_reducible exact H | (rw [hy360]; exact H) | exact H
                                    have Ny360 := Aside0.mk hy360
                                    clear hy360
                                    have H' := Aside0.mk H
                                    clear H
                                    have p356 : 0 ≤ (x7_3 : Int) := of_decide_eq_true (by first | (with_reducible assumption) | assumption)
                                    have q356 : x7_3 < (l0.length : Int) := of_decide_eq_true (by first | (with_reducible assumption) | assumption)
                                    obtain ⟨ad356, e356, hx356_0⟩ := Kd.at_string HR0.out x7_3 p356 q356
                                    cases e356
                                    replace hx356_0 := (HB.out.cell (World.block_lt_of_cell? w _ hx356_0)).trans hx356_0
                                    replace p356 := eq_true p356
                                    replace q356 := eq_true q356
                                    have p357 : 0 ≤ (x7_3 : Int) := of_decide_eq_true (by first | (with_reducible assumption) | assumption)
                                    have q357 : x7_3 < (l0.length : Int) := of_decide_eq_true (by first | (with_reducible assumption) | assumption)
                                    obtain ⟨ad357, e357, hx357_0⟩ := Kd.at_string HR0.out x7_3 p357 q357
                                    obtain rfl : ad356 = ad357 := (by injection e357)
                                    replace hx357_0 := (HB.out.cell (World.block_lt_of_cell? w _ hx357_0)).trans hx357_0
                                    replace p357 := eq_true p357
                                    replace q357 := eq_true q357
                                    obtain ⟨Ao21, co21, eo21⟩ := Kd.R_slice HO_3.out
                                    subst eo21
                                    have p358 : 0 ≤ ((ji13) : Int) := of_decide_eq_true (by first | (with_reducible assumption) | assumption)
                                    have q358 : (ji13) < (x3_3.length : Int) := of_decide_eq_true (by first | (with_reducible assumption) | assumption)
                                    obtain ⟨ad358, e358, hx358_0⟩ := Kd.at_string (Kd.R_reads' HO_3.out).2.2 (ji13) p358 q358
                                    cases e358
                                    replace p358 := eq_true p358
                                    replace q358 := eq_true q358
                                    have p359 : 0 ≤ (x7_3 : Int) := of_decide_eq_true (by first | (with_reducible assumption) | assumption)
                                    have q359 : x7_3 < (l0.length : Int) := of_decide_eq_true (by first | (with_reducible assumption) | assumption)
                                    obtain ⟨ad359, e359, hx359_0⟩ := Kd.at_string HR0.out x7_3 p359 q359
                                    obtain rfl : ad356 = ad359 := (by injection e359)
                                    replace hx359_0 := (HB.out.cell (World.block_lt_of_cell? w _ hx359_0)).trans hx359_0
                                    replace p359 := eq_true p359
                                    replace q359 := eq_true q359
                                    go_wp2_with (first | ((with_reducible refine gate_builtin (b := .append) (xs := #[.tmp 60, .tmp 67]) rfl ?_); (try (refine gate_guard (by rfl) ?_; dsimp only)); at_builtin; refine Kd.R_append Kd.string (w0 := w) w.heap.size rfl (.tmp 60) (.tmp 67) 22 9 (.string ⟨#[]⟩) 16 rfl Try.underlying22 info9 rfl (by decide) (by omega) (.slice (some ad358) x3_3.length co21) x3_3 ((rdOf ByteArray.empty l0 x7_3).extract 0 (x6_2 : Int).toNat) [.string ((rdOf ByteArray.empty l0 x7_3).extract 0 (x6_2 : Int).toNat)] (fun _ => True) (fun _ => False) rfl rfl ?aP (fun _ hk => hk.elim) ?aF ?aO ?aB ?aS ?aL ?_; (case aP => exact rfl); (case aB => exact (by repeat (first | (with_reducible first | exact HB.out | apply below_alloc | apply pw_below_drewN | apply below_drew1) | exact HB.out))); (case aF => exact (fun _ _ => trivial)); (case aO => exact (by (with_reducible repeat (first | apply Kd.R_alloc | apply Kd.R_drewN | apply Kd.R_drew)); exact HO_3.out)); (case aS => exact (below_size (by repeat (first | (with_reducible first | exact HB.out | apply below_alloc | apply pw_below_drewN | apply below_drew1) | exact HB.out)))); (case aL => have := LMc20.out; omega); intro v361 w22 ho hb hg hat; rw [← Ny360.out] at ho; have n0_ := Aside0.mk (hb); have n1_ := Aside0.mk (ho); clear HB; clear HO_3; have HB := n0_; have HO362 := n1_; clear n0_ n1_; clear ho hb hg hat))
                                    repeat (go_quiet (first | ((with_reducible refine gate_builtin (b := .append) (xs := #[.tmp 60, .tmp 67]) rfl ?_); (try (refine gate_guard (by rfl) ?_; dsimp only)); at_builtin; refine Kd.R_append Kd.string (w0 := w) w.heap.size rfl (.tmp 60) (.tmp 67) 22 9 (.string ⟨#[]⟩) 16 rfl Try.underlying22 info9 rfl (by decide) (by omega) (.slice (some ad358) x3_3.length co21) x3_3 ((rdOf ByteArray.empty l0 x7_3).extract 0 (x6_2 : Int).toNat) [.string ((rdOf ByteArray.empty l0 x7_3).extract 0 (x6_2 : Int).toNat)] (fun _ => True) (fun _ => False) rfl rfl ?aP (fun _ hk => hk.elim) ?aF ?aO ?aB ?aS ?aL ?_; (case aP => exact rfl); (case aB => exact (by repeat (first | (with_reducible first | exact HB.out | apply below_alloc | apply pw_below_drewN | apply below_drew1) | exact HB.out))); (case aF => exact (fun _ _ => trivial)); (case aO => exact (by (with_reducible repeat (first | apply Kd.R_alloc | apply Kd.R_drewN | apply Kd.R_drew)); exact HO_3.out)); (case aS => exact (below_size (by repeat (first | (with_reducible first | exact HB.out | apply below_alloc | apply pw_below_drewN | apply below_drew1) | exact HB.out)))); (case aL => have := LMc20.out; omega); intro v361 w22 ho hb hg hat; rw [← Ny360.out] at ho; have n0_ := Aside0.mk (hb); have n1_ := Aside0.mk (ho); clear HB; clear HO_3; have HB := n0_; have HO362 := n1_; clear n0_ n1_; clear ho hb hg hat)); try go_wp2_with (first | ((with_reducible refine gate_builtin (b := .append) (xs := #[.tmp 60, .tmp 67]) rfl ?_); (try (refine gate_guard (by rfl) ?_; dsimp only)); at_builtin; refine Kd.R_append Kd.string (w0 := w) w.heap.size rfl (.tmp 60) (.tmp 67) 22 9 (.string ⟨#[]⟩) 16 rfl Try.underlying22 info9 rfl (by decide) (by omega) (.slice (some ad358) x3_3.length co21) x3_3 ((rdOf ByteArray.empty l0 x7_3).extract 0 (x6_2 : Int).toNat) [.string ((rdOf ByteArray.empty l0 x7_3).extract 0 (x6_2 : Int).toNat)] (fun _ => True) (fun _ => False) rfl rfl ?aP (fun _ hk => hk.elim) ?aF ?aO ?aB ?aS ?aL ?_; (case aP => exact rfl); (case aB => exact (by repeat (first | (with_reducible first | exact HB.out | apply below_alloc | apply pw_below_drewN | apply below_drew1) | exact HB.out))); (case aF => exact (fun _ _ => trivial)); (case aO => exact (by (with_reducible repeat (first | apply Kd.R_alloc | apply Kd.R_drewN | apply Kd.R_drew)); exact HO_3.out)); (case aS => exact (below_size (by repeat (first | (with_reducible first | exact HB.out | apply below_alloc | apply pw_below_drewN | apply below_drew1) | exact HB.out)))); (case aL => have := LMc20.out; omega); intro v361 w22 ho hb hg hat; rw [← Ny360.out] at ho; have n0_ := Aside0.mk (hb); have n1_ := Aside0.mk (ho); clear HB; clear HO_3; have HB := n0_; have HO362 := n1_; clear n0_ n1_; clear ho hb hg hat)))
                                    go_roundg k3
                                    case measure => have := HK1.out; have := HK2.out; have := HK3.out; omega
                                    case rel => exact ⟨(y360), (wrap64 (x7_3 + 1)), (by first | rfl | exact isE_ _ | exact isE2_ _ | (simp; done) | (simp [*]; done)), H', ⟨by have := HK1.out; have := HK2.out; have := HK3.out; omega⟩, ⟨by (with_reducible repeat (first | apply Kd.R_alloc | apply Kd.R_drewN | apply Kd.R_drew)); exact HO362.out⟩, ⟨by repeat (first | (with_reducible first | exact HB.out | apply below_alloc | apply pw_below_drewN | apply below_drew1) | exact HB.out)⟩⟩
                                  · rw [if_neg c20] at H
                                    exact absurd H (by simp)
                              · rw [if_neg c15] at H
                                exact absurd H (by simp)
                            · rw [if_neg c14] at H
                              exact absurd H (by simp)
                          · rw [if_neg c12] at H
                            exact absurd H (by simp)
                        · rw [if_neg c11] at H
                          exact absurd H (by simp)
                      · rw [if_neg c10] at H
                        have c10b0 : decide (x6_2 ≤ ((rdOf ByteArray.empty l0 x7_3).size : Int)) = false := decide_eq_false c10
                        clear c10
                        have H' := Aside0.mk H
                        clear H
                        have p356 : 0 ≤ (x7_3 : Int) := of_decide_eq_true (by first | (with_reducible assumption) | assumption)
                        have q356 : x7_3 < (l0.length : Int) := of_decide_eq_true (by first | (with_reducible assumption) | assumption)
                        obtain ⟨ad356, e356, hx356_0⟩ := Kd.at_string HR0.out x7_3 p356 q356
                        cases e356
                        replace hx356_0 := (HB.out.cell (World.block_lt_of_cell? w _ hx356_0)).trans hx356_0
                        replace p356 := eq_true p356
                        replace q356 := eq_true q356
                        go_wp2
                        repeat (go_quiet (fail); try go_wp2)
                        go_roundg k3
                        case measure => have := HK1.out; have := HK2.out; have := HK3.out; omega
                        case rel => exact ⟨(x3_3), (wrap64 (x7_3 + 1)), (by first | rfl | exact isE_ _ | exact isE2_ _ | (simp; done) | (simp [*]; done)), H', ⟨by have := HK1.out; have := HK2.out; have := HK3.out; omega⟩, ⟨by (with_reducible repeat (first | apply Kd.R_alloc | apply Kd.R_drewN | apply Kd.R_drew)); exact HO_3.out⟩, ⟨by repeat (first | (with_reducible first | exact HB.out | apply below_alloc | apply pw_below_drewN | apply below_drew1) | exact HB.out)⟩⟩
                    · rw [if_neg c9] at H
                      exact absurd H (by simp)
                  · rw [if_neg c8] at H
                    have c8b0 : decide (x7_3 < (l0.length : Int)) = false := decide_eq_false c8
                    clear c8
                    have H' := Aside0.mk H
                    clear H
                    go_wp2
                    repeat (go_quiet (fail); try go_wp2)
                    go_roundg k3
                    case measure => have := HK1.out; have := HK2.out; have := HK3.out; omega
                    case rel => exact ⟨(x3_3), (wrap64 (x6_2 + 1)), (by first | rfl | exact isE_ _ | exact isE2_ _ | (simp; done) | (simp [*]; done)), H', ⟨by have := HK1.out; have := HK2.out; have := HK3.out; omega⟩, ⟨by (with_reducible repeat (first | apply Kd.R_alloc | apply Kd.R_drewN | apply Kd.R_drew)); exact HO_3.out⟩, ⟨by repeat (first | (with_reducible first | exact HB.out | apply below_alloc | apply pw_below_drewN | apply below_drew1) | exact HB.out)⟩⟩
            · rw [if_neg c7] at H
              have c7b0 : decide (x6_2 ≤ x4_1) = false := decide_eq_false c7
              clear c7
              obtain rfl := Option.some.inj H
              go_wp2
              repeat (go_quiet (fail); try go_wp2)
              go_ret
              exact ⟨_, by first | rfl | (simp [errW_none, errW_some] <;> rfl) | (simp [*, errW_none, errW_some] <;> rfl), by (with_reducible repeat (first | apply Kd.R_alloc | apply Kd.R_drewN | apply Kd.R_drew)); exact HO_3.out, by repeat (first | (with_reducible first | exact HB.out | apply below_alloc | apply pw_below_drewN | apply below_drew1) | exact HB.out)⟩

end Go.Proofs.Ytnpkbnfiadkgnaa.P

/- Proved here: what Go functions of this seat compute, or a law of it; no condition beyond the statement's own. Written for this claim by a program of this session (wip/myprint.py) over the kit's print.py. -/
namespace Go.Proofs.Ytnpkbnfiadkgnaa.P
open Go.RowKit Go.Proofs.YtnpkbnfiadkgnaaW.PrintWords Go.Proofs.YtnpkbnfiadkgnaaW.PrintLast Go.Proofs.YtnpkbnfiadkgnaaW.PrintMore
attribute [local go_sem] max2_int min2_int max_two min_two max_three min_three max_four min_four   -- for this text's walks alone
set_option linter.unusedVariables false
set_option linter.unusedSimpArgs false

/-! ### juratref16_Find: function 45 -/
def juratref16_Find.l0 : Nat → List ByteArray → ByteArray → Int → Option (Int)
  | 0, _, _, _ => none
  | k + 1, x0, x1, x5 => if x5 < (x0.length : Int) then (if 0 ≤ x5 then (if (rdOf ByteArray.empty x0 x5).toList = x1.toList then (some x5) else (juratref16_Find.l0 k x0 x1 (wrap64 (x5 + 1)))) else (none)) else (some (-1))
def juratref16_Find.f (k : Nat) (l0 : List ByteArray) (a1 : ByteArray) : Option (Int) := juratref16_Find.l0 k l0 a1 0
theorem juratref16_Find.mono_l : ∀ k, (∀ y0 y1 y2, LeO (juratref16_Find.l0 k y0 y1 y2) (juratref16_Find.l0 (k + 1) y0 y1 y2))
  | 0 => fun _ _ _ r h => by simp [juratref16_Find.l0] at h
  | k + 1 => by
    have ih0 := juratref16_Find.mono_l k
    · intro y0 y1 y2
      unfold juratref16_Find.l0
      repeat' first
      | (with_reducible exact ih0 _ _ _)
      | (with_reducible exact LeO.refl _)
      | (with_reducible exact LeO.none _)
      | (with_reducible refine LeO.ite ?_ ?_)
      | (with_reducible refine LeO.bind ?_ (fun _ => ?_))
      | exact ih0 _ _ _
      | exact LeO.none _
      | refine LeO.ite ?_ ?_
      | refine LeO.bind ?_ (fun _ => ?_)
theorem juratref16_Find.mono : ∀ a0 a1 k, LeO (juratref16_Find.f k a0 a1) (juratref16_Find.f (k + 1) a0 a1) := by
  intro a0 a1 k
  have ih0 := juratref16_Find.mono_l k
  unfold juratref16_Find.f
  repeat' first
      | (with_reducible exact ih0 _ _ _)
      | (with_reducible exact LeO.refl _)
      | (with_reducible exact LeO.none _)
      | (with_reducible refine LeO.ite ?_ ?_)
      | (with_reducible refine LeO.bind ?_ (fun _ => ?_))
      | exact ih0 _ _ _
      | exact LeO.none _
      | refine LeO.ite ?_ ?_
      | refine LeO.bind ?_ (fun _ => ?_)
set_option maxHeartbeats 8000000 in
set_option maxRecDepth 100000 in
theorem juratref16_Find.calls (k : Nat) (A0 : Option Addr) (c0 : Nat) (l0 : List ByteArray) (a1 : ByteArray) (r : Int) (w : World) (hr0 : Kd.C Kd.string w A0 l0.length l0) (hc0 : l0.length ≤ c0) (h : juratref16_Find.f k l0 a1 = some r) :
    Calls Try.prog 45 #[.slice A0 l0.length c0, .string a1] w fun e w' => e = .returned (.int .i64 r) ∧ Drawn0 w w' := by
  have HR0 := Aside0.mk hr0
  have HC0 := Aside0.mk hc0
  clear hr0 hc0
  have H : (juratref16_Find.l0 k l0 a1 0) = some r := h
  clear h
  have H' := Aside0.mk H
  clear H
  go_enter Try.func45, Try.ntmps45
  go_wp2
  go_loopg [5] k (fun kq v5 w' => ∃ (x5_1 : Int), v5 = .int .i64 x5_1 ∧ Aside0 (juratref16_Find.l0 kq l0 a1 x5_1 = some r) ∧ Aside0 (kq ≤ k) ∧ Drawn0 w w')
  case atStart => exact ⟨(0), (by first | rfl | exact isE_ _ | exact isE2_ _ | (simp; done) | (simp [*]; done)), H', ⟨Nat.le_refl _⟩, by repeat (first | exact Drawn0.refl _ | apply Drawn0.step)⟩
  case round =>
    clear H'
    try clear p2
    obtain ⟨x5_1, rfl, HA, HK1, ⟨m1, rfl⟩⟩ := hrel
    cases gk with
    | zero => exact absurd HA.out (by simp [juratref16_Find.l0])
    | succ k1 =>
      have H := HA.out
      clear HA
      simp only [juratref16_Find.l0] at H
      by_cases c3 : x5_1 < (l0.length : Int)
      · rw [if_pos c3] at H
        have c3b0 : decide (x5_1 < (l0.length : Int)) = true := decide_eq_true c3
        clear c3
        by_cases c4 : 0 ≤ x5_1
        · rw [if_pos c4] at H
          have c4b0 : decide (0 ≤ x5_1) = true := decide_eq_true c4
          clear c4
          by_cases c5 : (rdOf ByteArray.empty l0 x5_1).toList = a1.toList
          · rw [if_pos c5] at H
            have c5b0 : ((rdOf ByteArray.empty l0 x5_1).toList == a1.toList) = true := beq_iff_eq.mpr c5
            have c5b1 : ((rdOf ByteArray.empty l0 x5_1).toList != a1.toList) = false := bne_eq_false_iff_eq.mpr c5
            clear c5
            obtain rfl := Option.some.inj H
            have p363 : 0 ≤ (x5_1 : Int) := of_decide_eq_true (by first | (with_reducible assumption) | assumption)
            have q363 : x5_1 < (l0.length : Int) := of_decide_eq_true (by first | (with_reducible assumption) | assumption)
            obtain ⟨ad363, e363, hx363_0⟩ := Kd.at_string HR0.out x5_1 p363 q363
            cases e363
            replace p363 := eq_true p363
            replace q363 := eq_true q363
            go_wp2
            go_ret
            exact ⟨by first | rfl | (simp; done) | (simp [*]; done), by repeat (first | exact Drawn0.refl _ | apply Drawn0.step)⟩
          · rw [if_neg c5] at H
            have c5b0 : ((rdOf ByteArray.empty l0 x5_1).toList == a1.toList) = false := beq_eq_false_iff_ne.mpr c5
            have c5b1 : ((rdOf ByteArray.empty l0 x5_1).toList != a1.toList) = true := bne_iff_ne.mpr c5
            have H' := Aside0.mk H
            clear H
            have p363 : 0 ≤ (x5_1 : Int) := of_decide_eq_true (by first | (with_reducible assumption) | assumption)
            have q363 : x5_1 < (l0.length : Int) := of_decide_eq_true (by first | (with_reducible assumption) | assumption)
            obtain ⟨ad363, e363, hx363_0⟩ := Kd.at_string HR0.out x5_1 p363 q363
            cases e363
            replace p363 := eq_true p363
            replace q363 := eq_true q363
            go_wp2
            go_roundg k1
            case measure => have := HK1.out; omega
            case rel => exact ⟨(wrap64 (x5_1 + 1)), (by first | rfl | exact isE_ _ | exact isE2_ _ | (simp; done) | (simp [*]; done)), H', ⟨by have := HK1.out; omega⟩, by repeat (first | exact Drawn0.refl _ | apply Drawn0.step)⟩
        · rw [if_neg c4] at H
          exact absurd H (by simp)
      · rw [if_neg c3] at H
        have c3b0 : decide (x5_1 < (l0.length : Int)) = false := decide_eq_false c3
        clear c3
        obtain rfl := Option.some.inj H
        go_wp2
        go_ret
        exact ⟨by first | rfl | (simp; done) | (simp [*]; done), by repeat (first | exact Drawn0.refl _ | apply Drawn0.step)⟩

end Go.Proofs.Ytnpkbnfiadkgnaa.P

/- Proved here: what Go functions of this seat compute, or a law of it; no condition beyond the statement's own. Written for this claim by a program of this session (wip/myprint.py) over the kit's print.py. -/
namespace Go.Proofs.Ytnpkbnfiadkgnaa.P
open Go.RowKit Go.Proofs.YtnpkbnfiadkgnaaW.PrintWords Go.Proofs.YtnpkbnfiadkgnaaW.PrintLast Go.Proofs.YtnpkbnfiadkgnaaW.PrintMore
attribute [local go_sem] max2_int min2_int max_two min_two max_three min_three max_four min_four   -- for this text's walks alone
set_option linter.unusedVariables false
set_option linter.unusedSimpArgs false

/-! ### juratlaw16_nothing: function 51 -/
def juratlaw16_nothing.f (a0 : Option D93) (a1 : Int) (a2 : Int) : Option (Bool) := (trie_Trie_Next.f a0 a1 a2).bind fun bt420 => ((trie_Trie_Above.f a0 a1).bind fun bt422 => ((trie_Trie_Ends.f a0 a1).bind fun bt425 => (if bt420.1 = 0 then (if bt420.2 = true then (some false) else (if bt422.1 = 0 then (if bt422.2.1 = 0 then (if bt422.2.2 = true then (some false) else (if bt425.1 = 0 then (if bt425.2 = true then (some false) else ((trie_Trie_Depth.f a0 a1).bind fun t427 => (if t427 = 0 then ((trie_Trie_Path.f a0 a1).bind fun t428 => (if t428.toList = ([] : List UInt8) then ((trie_Trie_Bytes.f a0 a1).bind fun t429 => (some (t429.toList == ([] : List UInt8)))) else (some false))) else (some false)))) else (some false))) else (some false)) else (some false))) else (some false))))
set_option maxHeartbeats 8000000 in
set_option maxRecDepth 100000 in
theorem juratlaw16_nothing.calls (Pa0 : Option Addr) (a0 : Option D93) (a1 : Int) (a2 : Int) (r : Bool) (w : World) (ho0 : OB K93 w Pa0 a0) (h : juratlaw16_nothing.f a0 a1 a2 = some r) :
    Calls Try.prog 51 #[.pointer Pa0, .int .i64 a1, .int .u8 a2] w fun e w' => e = .returned (.bool r) ∧ Below w.heap.size w w' := by
  have HO_a0 := Aside0.mk ho0
  clear ho0
  have HB := Aside0.mk (Below.refl w.heap.size w)
  have H : ((trie_Trie_Next.f a0 a1 a2).bind fun bt420 => ((trie_Trie_Above.f a0 a1).bind fun bt422 => ((trie_Trie_Ends.f a0 a1).bind fun bt425 => (if bt420.1 = 0 then (if bt420.2 = true then (some false) else (if bt422.1 = 0 then (if bt422.2.1 = 0 then (if bt422.2.2 = true then (some false) else (if bt425.1 = 0 then (if bt425.2 = true then (some false) else ((trie_Trie_Depth.f a0 a1).bind fun t427 => (if t427 = 0 then ((trie_Trie_Path.f a0 a1).bind fun t428 => (if t428.toList = ([] : List UInt8) then ((trie_Trie_Bytes.f a0 a1).bind fun t429 => (some (t429.toList == ([] : List UInt8)))) else (some false))) else (some false)))) else (some false))) else (some false)) else (some false))) else (some false))))) = some r := h
  clear h
  replace H := Option.bind_eq_some_iff.mp H
  obtain ⟨⟨t420, t421⟩, A40, H⟩ := H
  replace H : ((trie_Trie_Above.f a0 a1).bind fun bt422 => ((trie_Trie_Ends.f a0 a1).bind fun bt425 => (if t420 = 0 then (if t421 = true then (some false) else (if bt422.1 = 0 then (if bt422.2.1 = 0 then (if bt422.2.2 = true then (some false) else (if bt425.1 = 0 then (if bt425.2 = true then (some false) else ((trie_Trie_Depth.f a0 a1).bind fun t427 => (if t427 = 0 then ((trie_Trie_Path.f a0 a1).bind fun t428 => (if t428.toList = ([] : List UInt8) then ((trie_Trie_Bytes.f a0 a1).bind fun t429 => (some (t429.toList == ([] : List UInt8)))) else (some false))) else (some false)))) else (some false))) else (some false)) else (some false))) else (some false)))) = some r := H
  have A4 := Aside0.mk A40
  clear A40
  replace H := Option.bind_eq_some_iff.mp H
  obtain ⟨⟨t422, t423, t424⟩, A50, H⟩ := H
  replace H : ((trie_Trie_Ends.f a0 a1).bind fun bt425 => (if t420 = 0 then (if t421 = true then (some false) else (if t422 = 0 then (if t423 = 0 then (if t424 = true then (some false) else (if bt425.1 = 0 then (if bt425.2 = true then (some false) else ((trie_Trie_Depth.f a0 a1).bind fun t427 => (if t427 = 0 then ((trie_Trie_Path.f a0 a1).bind fun t428 => (if t428.toList = ([] : List UInt8) then ((trie_Trie_Bytes.f a0 a1).bind fun t429 => (some (t429.toList == ([] : List UInt8)))) else (some false))) else (some false)))) else (some false))) else (some false)) else (some false))) else (some false))) = some r := H
  have A5 := Aside0.mk A50
  clear A50
  replace H := Option.bind_eq_some_iff.mp H
  obtain ⟨⟨t425, t426⟩, A60, H⟩ := H
  replace H : (if t420 = 0 then (if t421 = true then (some false) else (if t422 = 0 then (if t423 = 0 then (if t424 = true then (some false) else (if t425 = 0 then (if t426 = true then (some false) else ((trie_Trie_Depth.f a0 a1).bind fun t427 => (if t427 = 0 then ((trie_Trie_Path.f a0 a1).bind fun t428 => (if t428.toList = ([] : List UInt8) then ((trie_Trie_Bytes.f a0 a1).bind fun t429 => (some (t429.toList == ([] : List UInt8)))) else (some false))) else (some false)))) else (some false))) else (some false)) else (some false))) else (some false)) = some r := H
  have A6 := Aside0.mk A60
  clear A60
  by_cases c7 : t420 = 0
  · rw [if_pos c7] at H
    have c7b0 : (t420 == 0) = true := beq_iff_eq.mpr c7
    have c7b1 : (t420 != 0) = false := bne_eq_false_iff_eq.mpr c7
    clear c7
    by_cases c8 : t421 = true
    · subst c8
      have H1 : (some false) = some r := by rw [if_pos rfl] at H; exact H
      clear H
      have H := H1
      clear H1
      obtain rfl := Option.some.inj H
      go_enter Try.func51, Try.ntmps51
      go_wp2_with (first | ((with_reducible refine gate_callee (f := 41) rfl ?_); refine goesL_ (some 18) rfl rfl Try.func41 (by kernel_rfl) rfl #[.pointer Pa0, .int .i64 a1, .int .u8 a2] rfl (by (try simp only [List.map_toArray, List.map_cons, List.map_nil]); first | done | rfl | (simp only [List.length_drop, List.length_take]; rfl)) ?_; (with_reducible refine (trie_Trie_Next.calls _ a0 a1 a2 t420 true _ ?side1 A4.out).mono ?_); (case side1 => first | exact HO_a0.out | exact OB.drewN HO_a0.out _ | exact OB.below (by repeat (first | (with_reducible first | exact HB.out | apply below_alloc | apply pw_below_drewN | apply below_drew1) | exact HB.out)) HO_a0.out); rintro e w' ⟨rfl, ⟨nd, rfl⟩⟩; refine ⟨_, rfl, ?_⟩) | ((with_reducible refine gate_callee (f := 40) rfl ?_); refine goesL_ (some 24) rfl rfl Try.func40 (by kernel_rfl) rfl #[.pointer Pa0, .int .i64 a1] rfl (by (try simp only [List.map_toArray, List.map_cons, List.map_nil]); first | done | rfl | (simp only [List.length_drop, List.length_take]; rfl)) ?_; (with_reducible refine (trie_Trie_Above.calls _ a0 a1 t422 t423 t424 _ ?side1 A5.out).mono ?_); (case side1 => first | exact HO_a0.out | exact OB.drewN HO_a0.out _ | exact OB.below (by repeat (first | (with_reducible first | exact HB.out | apply below_alloc | apply pw_below_drewN | apply below_drew1) | exact HB.out)) HO_a0.out); rintro e w' ⟨rfl, ⟨nd, rfl⟩⟩; refine ⟨_, rfl, ?_⟩) | ((with_reducible refine gate_callee (f := 46) rfl ?_); refine goesL_ (some 31) rfl rfl Try.func46 (by kernel_rfl) rfl #[.pointer Pa0, .int .i64 a1] rfl (by (try simp only [List.map_toArray, List.map_cons, List.map_nil]); first | done | rfl | (simp only [List.length_drop, List.length_take]; rfl)) ?_; (with_reducible refine (trie_Trie_Ends.calls _ a0 a1 t425 t426 _ ?side1 A6.out).mono ?_); (case side1 => first | exact HO_a0.out | exact OB.drewN HO_a0.out _ | exact OB.below (by repeat (first | (with_reducible first | exact HB.out | apply below_alloc | apply pw_below_drewN | apply below_drew1) | exact HB.out)) HO_a0.out); rintro e w' ⟨rfl, ⟨nd, rfl⟩⟩; refine ⟨_, rfl, ?_⟩))
      go_ret
      exact ⟨by first | rfl | (simp [errW_none, errW_some] <;> rfl) | (simp [*, errW_none, errW_some] <;> rfl), by repeat (first | (with_reducible first | exact HB.out | apply below_alloc | apply pw_below_drewN | apply below_drew1) | exact HB.out)⟩
    · replace c8 := Bool.eq_false_iff.mpr c8
      subst c8
      have H1 : (if t422 = 0 then (if t423 = 0 then (if t424 = true then (some false) else (if t425 = 0 then (if t426 = true then (some false) else ((trie_Trie_Depth.f a0 a1).bind fun t427 => (if t427 = 0 then ((trie_Trie_Path.f a0 a1).bind fun t428 => (if t428.toList = ([] : List UInt8) then ((trie_Trie_Bytes.f a0 a1).bind fun t429 => (some (t429.toList == ([] : List UInt8)))) else (some false))) else (some false)))) else (some false))) else (some false)) else (some false)) = some r := by rw [if_neg (show ¬ (false = true) by decide)] at H; exact H
      clear H
      have H := H1
      clear H1
      by_cases c9 : t422 = 0
      · rw [if_pos c9] at H
        have c9b0 : (t422 == 0) = true := beq_iff_eq.mpr c9
        have c9b1 : (t422 != 0) = false := bne_eq_false_iff_eq.mpr c9
        clear c9
        by_cases c10 : t423 = 0
        · rw [if_pos c10] at H
          have c10b0 : (t423 == 0) = true := beq_iff_eq.mpr c10
          have c10b1 : (t423 != 0) = false := bne_eq_false_iff_eq.mpr c10
          clear c10
          by_cases c11 : t424 = true
          · subst c11
            have H1 : (some false) = some r := by rw [if_pos rfl] at H; exact H
            clear H
            have H := H1
            clear H1
            obtain rfl := Option.some.inj H
            go_enter Try.func51, Try.ntmps51
            go_wp2_with (first | ((with_reducible refine gate_callee (f := 41) rfl ?_); refine goesL_ (some 18) rfl rfl Try.func41 (by kernel_rfl) rfl #[.pointer Pa0, .int .i64 a1, .int .u8 a2] rfl (by (try simp only [List.map_toArray, List.map_cons, List.map_nil]); first | done | rfl | (simp only [List.length_drop, List.length_take]; rfl)) ?_; (with_reducible refine (trie_Trie_Next.calls _ a0 a1 a2 t420 false _ ?side1 A4.out).mono ?_); (case side1 => first | exact HO_a0.out | exact OB.drewN HO_a0.out _ | exact OB.below (by repeat (first | (with_reducible first | exact HB.out | apply below_alloc | apply pw_below_drewN | apply below_drew1) | exact HB.out)) HO_a0.out); rintro e w' ⟨rfl, ⟨nd, rfl⟩⟩; refine ⟨_, rfl, ?_⟩) | ((with_reducible refine gate_callee (f := 40) rfl ?_); refine goesL_ (some 24) rfl rfl Try.func40 (by kernel_rfl) rfl #[.pointer Pa0, .int .i64 a1] rfl (by (try simp only [List.map_toArray, List.map_cons, List.map_nil]); first | done | rfl | (simp only [List.length_drop, List.length_take]; rfl)) ?_; (with_reducible refine (trie_Trie_Above.calls _ a0 a1 t422 t423 true _ ?side1 A5.out).mono ?_); (case side1 => first | exact HO_a0.out | exact OB.drewN HO_a0.out _ | exact OB.below (by repeat (first | (with_reducible first | exact HB.out | apply below_alloc | apply pw_below_drewN | apply below_drew1) | exact HB.out)) HO_a0.out); rintro e w' ⟨rfl, ⟨nd, rfl⟩⟩; refine ⟨_, rfl, ?_⟩) | ((with_reducible refine gate_callee (f := 46) rfl ?_); refine goesL_ (some 31) rfl rfl Try.func46 (by kernel_rfl) rfl #[.pointer Pa0, .int .i64 a1] rfl (by (try simp only [List.map_toArray, List.map_cons, List.map_nil]); first | done | rfl | (simp only [List.length_drop, List.length_take]; rfl)) ?_; (with_reducible refine (trie_Trie_Ends.calls _ a0 a1 t425 t426 _ ?side1 A6.out).mono ?_); (case side1 => first | exact HO_a0.out | exact OB.drewN HO_a0.out _ | exact OB.below (by repeat (first | (with_reducible first | exact HB.out | apply below_alloc | apply pw_below_drewN | apply below_drew1) | exact HB.out)) HO_a0.out); rintro e w' ⟨rfl, ⟨nd, rfl⟩⟩; refine ⟨_, rfl, ?_⟩))
            go_ret
            exact ⟨by first | rfl | (simp [errW_none, errW_some] <;> rfl) | (simp [*, errW_none, errW_some] <;> rfl), by repeat (first | (with_reducible first | exact HB.out | apply below_alloc | apply pw_below_drewN | apply below_drew1) | exact HB.out)⟩
          · replace c11 := Bool.eq_false_iff.mpr c11
            subst c11
            have H1 : (if t425 = 0 then (if t426 = true then (some false) else ((trie_Trie_Depth.f a0 a1).bind fun t427 => (if t427 = 0 then ((trie_Trie_Path.f a0 a1).bind fun t428 => (if t428.toList = ([] : List UInt8) then ((trie_Trie_Bytes.f a0 a1).bind fun t429 => (some (t429.toList == ([] : List UInt8)))) else (some false))) else (some false)))) else (some false)) = some r := by rw [if_neg (show ¬ (false = true) by decide)] at H; exact H
            clear H
            have H := H1
            clear H1
            by_cases c12 : t425 = 0
            · rw [if_pos c12] at H
              have c12b0 : (t425 == 0) = true := beq_iff_eq.mpr c12
              have c12b1 : (t425 != 0) = false := bne_eq_false_iff_eq.mpr c12
              clear c12
              by_cases c13 : t426 = true
              · subst c13
                have H1 : (some false) = some r := by rw [if_pos rfl] at H; exact H
                clear H
                have H := H1
                clear H1
                obtain rfl := Option.some.inj H
                go_enter Try.func51, Try.ntmps51
                go_wp2_with (first | ((with_reducible refine gate_callee (f := 41) rfl ?_); refine goesL_ (some 18) rfl rfl Try.func41 (by kernel_rfl) rfl #[.pointer Pa0, .int .i64 a1, .int .u8 a2] rfl (by (try simp only [List.map_toArray, List.map_cons, List.map_nil]); first | done | rfl | (simp only [List.length_drop, List.length_take]; rfl)) ?_; (with_reducible refine (trie_Trie_Next.calls _ a0 a1 a2 t420 false _ ?side1 A4.out).mono ?_); (case side1 => first | exact HO_a0.out | exact OB.drewN HO_a0.out _ | exact OB.below (by repeat (first | (with_reducible first | exact HB.out | apply below_alloc | apply pw_below_drewN | apply below_drew1) | exact HB.out)) HO_a0.out); rintro e w' ⟨rfl, ⟨nd, rfl⟩⟩; refine ⟨_, rfl, ?_⟩) | ((with_reducible refine gate_callee (f := 40) rfl ?_); refine goesL_ (some 24) rfl rfl Try.func40 (by kernel_rfl) rfl #[.pointer Pa0, .int .i64 a1] rfl (by (try simp only [List.map_toArray, List.map_cons, List.map_nil]); first | done | rfl | (simp only [List.length_drop, List.length_take]; rfl)) ?_; (with_reducible refine (trie_Trie_Above.calls _ a0 a1 t422 t423 false _ ?side1 A5.out).mono ?_); (case side1 => first | exact HO_a0.out | exact OB.drewN HO_a0.out _ | exact OB.below (by repeat (first | (with_reducible first | exact HB.out | apply below_alloc | apply pw_below_drewN | apply below_drew1) | exact HB.out)) HO_a0.out); rintro e w' ⟨rfl, ⟨nd, rfl⟩⟩; refine ⟨_, rfl, ?_⟩) | ((with_reducible refine gate_callee (f := 46) rfl ?_); refine goesL_ (some 31) rfl rfl Try.func46 (by kernel_rfl) rfl #[.pointer Pa0, .int .i64 a1] rfl (by (try simp only [List.map_toArray, List.map_cons, List.map_nil]); first | done | rfl | (simp only [List.length_drop, List.length_take]; rfl)) ?_; (with_reducible refine (trie_Trie_Ends.calls _ a0 a1 t425 true _ ?side1 A6.out).mono ?_); (case side1 => first | exact HO_a0.out | exact OB.drewN HO_a0.out _ | exact OB.below (by repeat (first | (with_reducible first | exact HB.out | apply below_alloc | apply pw_below_drewN | apply below_drew1) | exact HB.out)) HO_a0.out); rintro e w' ⟨rfl, ⟨nd, rfl⟩⟩; refine ⟨_, rfl, ?_⟩))
                go_ret
                exact ⟨by first | rfl | (simp [errW_none, errW_some] <;> rfl) | (simp [*, errW_none, errW_some] <;> rfl), by repeat (first | (with_reducible first | exact HB.out | apply below_alloc | apply pw_below_drewN | apply below_drew1) | exact HB.out)⟩
              · replace c13 := Bool.eq_false_iff.mpr c13
                subst c13
                have H1 : ((trie_Trie_Depth.f a0 a1).bind fun t427 => (if t427 = 0 then ((trie_Trie_Path.f a0 a1).bind fun t428 => (if t428.toList = ([] : List UInt8) then ((trie_Trie_Bytes.f a0 a1).bind fun t429 => (some (t429.toList == ([] : List UInt8)))) else (some false))) else (some false))) = some r := by rw [if_neg (show ¬ (false = true) by decide)] at H; exact H
                clear H
                have H := H1
                clear H1
                replace H := Option.bind_eq_some_iff.mp H
                obtain ⟨t427, A140, H⟩ := H
                replace H : (if t427 = 0 then ((trie_Trie_Path.f a0 a1).bind fun t428 => (if t428.toList = ([] : List UInt8) then ((trie_Trie_Bytes.f a0 a1).bind fun t429 => (some (t429.toList == ([] : List UInt8)))) else (some false))) else (some false)) = some r := H
                have A14 := Aside0.mk A140
                clear A140
                by_cases c15 : t427 = 0
                · rw [if_pos c15] at H
                  have c15b0 : (t427 == 0) = true := beq_iff_eq.mpr c15
                  have c15b1 : (t427 != 0) = false := bne_eq_false_iff_eq.mpr c15
                  clear c15
                  replace H := Option.bind_eq_some_iff.mp H
                  obtain ⟨t428, A160, H⟩ := H
                  replace H : (if t428.toList = ([] : List UInt8) then ((trie_Trie_Bytes.f a0 a1).bind fun t429 => (some (t429.toList == ([] : List UInt8)))) else (some false)) = some r := H
                  have A16 := Aside0.mk A160
                  clear A160
                  by_cases c17 : t428.toList = ([] : List UInt8)
                  · rw [if_pos c17] at H
                    have c17b0 : (t428.toList == ([] : List UInt8)) = true := beq_iff_eq.mpr c17
                    have c17b1 : (t428.toList != ([] : List UInt8)) = false := bne_eq_false_iff_eq.mpr c17
                    clear c17
                    replace H := Option.bind_eq_some_iff.mp H
                    obtain ⟨t429, A180, H⟩ := H
                    replace H : (some (t429.toList == ([] : List UInt8))) = some r := H
                    have A18 := Aside0.mk A180
                    clear A180
                    obtain rfl := Option.some.inj H
                    go_enter Try.func51, Try.ntmps51
                    go_wp2_with (first | ((with_reducible refine gate_callee (f := 41) rfl ?_); refine goesL_ (some 18) rfl rfl Try.func41 (by kernel_rfl) rfl #[.pointer Pa0, .int .i64 a1, .int .u8 a2] rfl (by (try simp only [List.map_toArray, List.map_cons, List.map_nil]); first | done | rfl | (simp only [List.length_drop, List.length_take]; rfl)) ?_; (with_reducible refine (trie_Trie_Next.calls _ a0 a1 a2 t420 false _ ?side1 A4.out).mono ?_); (case side1 => first | exact HO_a0.out | exact OB.drewN HO_a0.out _ | exact OB.below (by repeat (first | (with_reducible first | exact HB.out | apply below_alloc | apply pw_below_drewN | apply below_drew1) | exact HB.out)) HO_a0.out); rintro e w' ⟨rfl, ⟨nd, rfl⟩⟩; refine ⟨_, rfl, ?_⟩) | ((with_reducible refine gate_callee (f := 40) rfl ?_); refine goesL_ (some 24) rfl rfl Try.func40 (by kernel_rfl) rfl #[.pointer Pa0, .int .i64 a1] rfl (by (try simp only [List.map_toArray, List.map_cons, List.map_nil]); first | done | rfl | (simp only [List.length_drop, List.length_take]; rfl)) ?_; (with_reducible refine (trie_Trie_Above.calls _ a0 a1 t422 t423 false _ ?side1 A5.out).mono ?_); (case side1 => first | exact HO_a0.out | exact OB.drewN HO_a0.out _ | exact OB.below (by repeat (first | (with_reducible first | exact HB.out | apply below_alloc | apply pw_below_drewN | apply below_drew1) | exact HB.out)) HO_a0.out); rintro e w' ⟨rfl, ⟨nd, rfl⟩⟩; refine ⟨_, rfl, ?_⟩) | ((with_reducible refine gate_callee (f := 46) rfl ?_); refine goesL_ (some 31) rfl rfl Try.func46 (by kernel_rfl) rfl #[.pointer Pa0, .int .i64 a1] rfl (by (try simp only [List.map_toArray, List.map_cons, List.map_nil]); first | done | rfl | (simp only [List.length_drop, List.length_take]; rfl)) ?_; (with_reducible refine (trie_Trie_Ends.calls _ a0 a1 t425 false _ ?side1 A6.out).mono ?_); (case side1 => first | exact HO_a0.out | exact OB.drewN HO_a0.out _ | exact OB.below (by repeat (first | (with_reducible first | exact HB.out | apply below_alloc | apply pw_below_drewN | apply below_drew1) | exact HB.out)) HO_a0.out); rintro e w' ⟨rfl, ⟨nd, rfl⟩⟩; refine ⟨_, rfl, ?_⟩) | (go_at_call 42; (with_reducible refine (trie_Trie_Depth.calls _ a0 a1 t427 _ ?side1 A14.out).mono ?_); (case side1 => first | exact HO_a0.out | exact OB.drewN HO_a0.out _ | exact OB.below (by repeat (first | (with_reducible first | exact HB.out | apply below_alloc | apply pw_below_drewN | apply below_drew1) | exact HB.out)) HO_a0.out); rintro e w' ⟨rfl, ⟨nd, rfl⟩⟩) | (go_at_call 43; (with_reducible refine (trie_Trie_Path.calls _ a0 a1 t428 _ ?side1 A16.out).mono ?_); (case side1 => first | exact HO_a0.out | exact OB.drewN HO_a0.out _ | exact OB.below (by repeat (first | (with_reducible first | exact HB.out | apply below_alloc | apply pw_below_drewN | apply below_drew1) | exact HB.out)) HO_a0.out); rintro e w19 ⟨rfl, hb⟩; have n0_ := Aside0.mk (below_step (by repeat (first | (with_reducible first | exact HB.out | apply below_alloc | apply pw_below_drewN | apply below_drew1) | exact HB.out)) hb); clear HB; have HB := n0_; clear n0_; (try clear hb); (try clear hb2); (try clear hk); (try clear hi)) | (go_at_call 48; (with_reducible refine (trie_Trie_Bytes.calls _ a0 a1 t429 _ ?side1 A18.out).mono ?_); (case side1 => first | exact HO_a0.out | exact OB.drewN HO_a0.out _ | exact OB.below (by repeat (first | (with_reducible first | exact HB.out | apply below_alloc | apply pw_below_drewN | apply below_drew1) | exact HB.out)) HO_a0.out); rintro e w20 ⟨rfl, hb⟩; have n0_ := Aside0.mk (below_step (by repeat (first | (with_reducible first | exact HB.out | apply below_alloc | apply pw_below_drewN | apply below_drew1) | exact HB.out)) hb); clear HB; have HB := n0_; clear n0_; (try clear hb); (try clear hb2); (try clear hk); (try clear hi)))
                    go_ret
                    exact ⟨by first | rfl | (simp [errW_none, errW_some] <;> rfl) | (simp [*, errW_none, errW_some] <;> rfl), by repeat (first | (with_reducible first | exact HB.out | apply below_alloc | apply pw_below_drewN | apply below_drew1) | exact HB.out)⟩
                  · rw [if_neg c17] at H
                    have c17b0 : (t428.toList == ([] : List UInt8)) = false := beq_eq_false_iff_ne.mpr c17
                    have c17b1 : (t428.toList != ([] : List UInt8)) = true := bne_iff_ne.mpr c17
                    obtain rfl := Option.some.inj H
                    go_enter Try.func51, Try.ntmps51
                    go_wp2_with (first | ((with_reducible refine gate_callee (f := 41) rfl ?_); refine goesL_ (some 18) rfl rfl Try.func41 (by kernel_rfl) rfl #[.pointer Pa0, .int .i64 a1, .int .u8 a2] rfl (by (try simp only [List.map_toArray, List.map_cons, List.map_nil]); first | done | rfl | (simp only [List.length_drop, List.length_take]; rfl)) ?_; (with_reducible refine (trie_Trie_Next.calls _ a0 a1 a2 t420 false _ ?side1 A4.out).mono ?_); (case side1 => first | exact HO_a0.out | exact OB.drewN HO_a0.out _ | exact OB.below (by repeat (first | (with_reducible first | exact HB.out | apply below_alloc | apply pw_below_drewN | apply below_drew1) | exact HB.out)) HO_a0.out); rintro e w' ⟨rfl, ⟨nd, rfl⟩⟩; refine ⟨_, rfl, ?_⟩) | ((with_reducible refine gate_callee (f := 40) rfl ?_); refine goesL_ (some 24) rfl rfl Try.func40 (by kernel_rfl) rfl #[.pointer Pa0, .int .i64 a1] rfl (by (try simp only [List.map_toArray, List.map_cons, List.map_nil]); first | done | rfl | (simp only [List.length_drop, List.length_take]; rfl)) ?_; (with_reducible refine (trie_Trie_Above.calls _ a0 a1 t422 t423 false _ ?side1 A5.out).mono ?_); (case side1 => first | exact HO_a0.out | exact OB.drewN HO_a0.out _ | exact OB.below (by repeat (first | (with_reducible first | exact HB.out | apply below_alloc | apply pw_below_drewN | apply below_drew1) | exact HB.out)) HO_a0.out); rintro e w' ⟨rfl, ⟨nd, rfl⟩⟩; refine ⟨_, rfl, ?_⟩) | ((with_reducible refine gate_callee (f := 46) rfl ?_); refine goesL_ (some 31) rfl rfl Try.func46 (by kernel_rfl) rfl #[.pointer Pa0, .int .i64 a1] rfl (by (try simp only [List.map_toArray, List.map_cons, List.map_nil]); first | done | rfl | (simp only [List.length_drop, List.length_take]; rfl)) ?_; (with_reducible refine (trie_Trie_Ends.calls _ a0 a1 t425 false _ ?side1 A6.out).mono ?_); (case side1 => first | exact HO_a0.out | exact OB.drewN HO_a0.out _ | exact OB.below (by repeat (first | (with_reducible first | exact HB.out | apply below_alloc | apply pw_below_drewN | apply below_drew1) | exact HB.out)) HO_a0.out); rintro e w' ⟨rfl, ⟨nd, rfl⟩⟩; refine ⟨_, rfl, ?_⟩) | (go_at_call 42; (with_reducible refine (trie_Trie_Depth.calls _ a0 a1 t427 _ ?side1 A14.out).mono ?_); (case side1 => first | exact HO_a0.out | exact OB.drewN HO_a0.out _ | exact OB.below (by repeat (first | (with_reducible first | exact HB.out | apply below_alloc | apply pw_below_drewN | apply below_drew1) | exact HB.out)) HO_a0.out); rintro e w' ⟨rfl, ⟨nd, rfl⟩⟩) | (go_at_call 43; (with_reducible refine (trie_Trie_Path.calls _ a0 a1 t428 _ ?side1 A16.out).mono ?_); (case side1 => first | exact HO_a0.out | exact OB.drewN HO_a0.out _ | exact OB.below (by repeat (first | (with_reducible first | exact HB.out | apply below_alloc | apply pw_below_drewN | apply below_drew1) | exact HB.out)) HO_a0.out); rintro e w21 ⟨rfl, hb⟩; have n0_ := Aside0.mk (below_step (by repeat (first | (with_reducible first | exact HB.out | apply below_alloc | apply pw_below_drewN | apply below_drew1) | exact HB.out)) hb); clear HB; have HB := n0_; clear n0_; (try clear hb); (try clear hb2); (try clear hk); (try clear hi)))
                    go_ret
                    exact ⟨by first | rfl | (simp [errW_none, errW_some] <;> rfl) | (simp [*, errW_none, errW_some] <;> rfl), by repeat (first | (with_reducible first | exact HB.out | apply below_alloc | apply pw_below_drewN | apply below_drew1) | exact HB.out)⟩
                · rw [if_neg c15] at H
                  have c15b0 : (t427 == 0) = false := beq_eq_false_iff_ne.mpr c15
                  have c15b1 : (t427 != 0) = true := bne_iff_ne.mpr c15
                  obtain rfl := Option.some.inj H
                  go_enter Try.func51, Try.ntmps51
                  go_wp2_with (first | ((with_reducible refine gate_callee (f := 41) rfl ?_); refine goesL_ (some 18) rfl rfl Try.func41 (by kernel_rfl) rfl #[.pointer Pa0, .int .i64 a1, .int .u8 a2] rfl (by (try simp only [List.map_toArray, List.map_cons, List.map_nil]); first | done | rfl | (simp only [List.length_drop, List.length_take]; rfl)) ?_; (with_reducible refine (trie_Trie_Next.calls _ a0 a1 a2 t420 false _ ?side1 A4.out).mono ?_); (case side1 => first | exact HO_a0.out | exact OB.drewN HO_a0.out _ | exact OB.below (by repeat (first | (with_reducible first | exact HB.out | apply below_alloc | apply pw_below_drewN | apply below_drew1) | exact HB.out)) HO_a0.out); rintro e w' ⟨rfl, ⟨nd, rfl⟩⟩; refine ⟨_, rfl, ?_⟩) | ((with_reducible refine gate_callee (f := 40) rfl ?_); refine goesL_ (some 24) rfl rfl Try.func40 (by kernel_rfl) rfl #[.pointer Pa0, .int .i64 a1] rfl (by (try simp only [List.map_toArray, List.map_cons, List.map_nil]); first | done | rfl | (simp only [List.length_drop, List.length_take]; rfl)) ?_; (with_reducible refine (trie_Trie_Above.calls _ a0 a1 t422 t423 false _ ?side1 A5.out).mono ?_); (case side1 => first | exact HO_a0.out | exact OB.drewN HO_a0.out _ | exact OB.below (by repeat (first | (with_reducible first | exact HB.out | apply below_alloc | apply pw_below_drewN | apply below_drew1) | exact HB.out)) HO_a0.out); rintro e w' ⟨rfl, ⟨nd, rfl⟩⟩; refine ⟨_, rfl, ?_⟩) | ((with_reducible refine gate_callee (f := 46) rfl ?_); refine goesL_ (some 31) rfl rfl Try.func46 (by kernel_rfl) rfl #[.pointer Pa0, .int .i64 a1] rfl (by (try simp only [List.map_toArray, List.map_cons, List.map_nil]); first | done | rfl | (simp only [List.length_drop, List.length_take]; rfl)) ?_; (with_reducible refine (trie_Trie_Ends.calls _ a0 a1 t425 false _ ?side1 A6.out).mono ?_); (case side1 => first | exact HO_a0.out | exact OB.drewN HO_a0.out _ | exact OB.below (by repeat (first | (with_reducible first | exact HB.out | apply below_alloc | apply pw_below_drewN | apply below_drew1) | exact HB.out)) HO_a0.out); rintro e w' ⟨rfl, ⟨nd, rfl⟩⟩; refine ⟨_, rfl, ?_⟩) | (go_at_call 42; (with_reducible refine (trie_Trie_Depth.calls _ a0 a1 t427 _ ?side1 A14.out).mono ?_); (case side1 => first | exact HO_a0.out | exact OB.drewN HO_a0.out _ | exact OB.below (by repeat (first | (with_reducible first | exact HB.out | apply below_alloc | apply pw_below_drewN | apply below_drew1) | exact HB.out)) HO_a0.out); rintro e w' ⟨rfl, ⟨nd, rfl⟩⟩))
                  go_ret
                  exact ⟨by first | rfl | (simp [errW_none, errW_some] <;> rfl) | (simp [*, errW_none, errW_some] <;> rfl), by repeat (first | (with_reducible first | exact HB.out | apply below_alloc | apply pw_below_drewN | apply below_drew1) | exact HB.out)⟩
            · rw [if_neg c12] at H
              have c12b0 : (t425 == 0) = false := beq_eq_false_iff_ne.mpr c12
              have c12b1 : (t425 != 0) = true := bne_iff_ne.mpr c12
              obtain rfl := Option.some.inj H
              go_enter Try.func51, Try.ntmps51
              go_wp2_with (first | ((with_reducible refine gate_callee (f := 41) rfl ?_); refine goesL_ (some 18) rfl rfl Try.func41 (by kernel_rfl) rfl #[.pointer Pa0, .int .i64 a1, .int .u8 a2] rfl (by (try simp only [List.map_toArray, List.map_cons, List.map_nil]); first | done | rfl | (simp only [List.length_drop, List.length_take]; rfl)) ?_; (with_reducible refine (trie_Trie_Next.calls _ a0 a1 a2 t420 false _ ?side1 A4.out).mono ?_); (case side1 => first | exact HO_a0.out | exact OB.drewN HO_a0.out _ | exact OB.below (by repeat (first | (with_reducible first | exact HB.out | apply below_alloc | apply pw_below_drewN | apply below_drew1) | exact HB.out)) HO_a0.out); rintro e w' ⟨rfl, ⟨nd, rfl⟩⟩; refine ⟨_, rfl, ?_⟩) | ((with_reducible refine gate_callee (f := 40) rfl ?_); refine goesL_ (some 24) rfl rfl Try.func40 (by kernel_rfl) rfl #[.pointer Pa0, .int .i64 a1] rfl (by (try simp only [List.map_toArray, List.map_cons, List.map_nil]); first | done | rfl | (simp only [List.length_drop, List.length_take]; rfl)) ?_; (with_reducible refine (trie_Trie_Above.calls _ a0 a1 t422 t423 false _ ?side1 A5.out).mono ?_); (case side1 => first | exact HO_a0.out | exact OB.drewN HO_a0.out _ | exact OB.below (by repeat (first | (with_reducible first | exact HB.out | apply below_alloc | apply pw_below_drewN | apply below_drew1) | exact HB.out)) HO_a0.out); rintro e w' ⟨rfl, ⟨nd, rfl⟩⟩; refine ⟨_, rfl, ?_⟩) | ((with_reducible refine gate_callee (f := 46) rfl ?_); refine goesL_ (some 31) rfl rfl Try.func46 (by kernel_rfl) rfl #[.pointer Pa0, .int .i64 a1] rfl (by (try simp only [List.map_toArray, List.map_cons, List.map_nil]); first | done | rfl | (simp only [List.length_drop, List.length_take]; rfl)) ?_; (with_reducible refine (trie_Trie_Ends.calls _ a0 a1 t425 t426 _ ?side1 A6.out).mono ?_); (case side1 => first | exact HO_a0.out | exact OB.drewN HO_a0.out _ | exact OB.below (by repeat (first | (with_reducible first | exact HB.out | apply below_alloc | apply pw_below_drewN | apply below_drew1) | exact HB.out)) HO_a0.out); rintro e w' ⟨rfl, ⟨nd, rfl⟩⟩; refine ⟨_, rfl, ?_⟩))
              go_ret
              exact ⟨by first | rfl | (simp [errW_none, errW_some] <;> rfl) | (simp [*, errW_none, errW_some] <;> rfl), by repeat (first | (with_reducible first | exact HB.out | apply below_alloc | apply pw_below_drewN | apply below_drew1) | exact HB.out)⟩
        · rw [if_neg c10] at H
          have c10b0 : (t423 == 0) = false := beq_eq_false_iff_ne.mpr c10
          have c10b1 : (t423 != 0) = true := bne_iff_ne.mpr c10
          obtain rfl := Option.some.inj H
          go_enter Try.func51, Try.ntmps51
          go_wp2_with (first | ((with_reducible refine gate_callee (f := 41) rfl ?_); refine goesL_ (some 18) rfl rfl Try.func41 (by kernel_rfl) rfl #[.pointer Pa0, .int .i64 a1, .int .u8 a2] rfl (by (try simp only [List.map_toArray, List.map_cons, List.map_nil]); first | done | rfl | (simp only [List.length_drop, List.length_take]; rfl)) ?_; (with_reducible refine (trie_Trie_Next.calls _ a0 a1 a2 t420 false _ ?side1 A4.out).mono ?_); (case side1 => first | exact HO_a0.out | exact OB.drewN HO_a0.out _ | exact OB.below (by repeat (first | (with_reducible first | exact HB.out | apply below_alloc | apply pw_below_drewN | apply below_drew1) | exact HB.out)) HO_a0.out); rintro e w' ⟨rfl, ⟨nd, rfl⟩⟩; refine ⟨_, rfl, ?_⟩) | ((with_reducible refine gate_callee (f := 40) rfl ?_); refine goesL_ (some 24) rfl rfl Try.func40 (by kernel_rfl) rfl #[.pointer Pa0, .int .i64 a1] rfl (by (try simp only [List.map_toArray, List.map_cons, List.map_nil]); first | done | rfl | (simp only [List.length_drop, List.length_take]; rfl)) ?_; (with_reducible refine (trie_Trie_Above.calls _ a0 a1 t422 t423 t424 _ ?side1 A5.out).mono ?_); (case side1 => first | exact HO_a0.out | exact OB.drewN HO_a0.out _ | exact OB.below (by repeat (first | (with_reducible first | exact HB.out | apply below_alloc | apply pw_below_drewN | apply below_drew1) | exact HB.out)) HO_a0.out); rintro e w' ⟨rfl, ⟨nd, rfl⟩⟩; refine ⟨_, rfl, ?_⟩) | ((with_reducible refine gate_callee (f := 46) rfl ?_); refine goesL_ (some 31) rfl rfl Try.func46 (by kernel_rfl) rfl #[.pointer Pa0, .int .i64 a1] rfl (by (try simp only [List.map_toArray, List.map_cons, List.map_nil]); first | done | rfl | (simp only [List.length_drop, List.length_take]; rfl)) ?_; (with_reducible refine (trie_Trie_Ends.calls _ a0 a1 t425 t426 _ ?side1 A6.out).mono ?_); (case side1 => first | exact HO_a0.out | exact OB.drewN HO_a0.out _ | exact OB.below (by repeat (first | (with_reducible first | exact HB.out | apply below_alloc | apply pw_below_drewN | apply below_drew1) | exact HB.out)) HO_a0.out); rintro e w' ⟨rfl, ⟨nd, rfl⟩⟩; refine ⟨_, rfl, ?_⟩))
          go_ret
          exact ⟨by first | rfl | (simp [errW_none, errW_some] <;> rfl) | (simp [*, errW_none, errW_some] <;> rfl), by repeat (first | (with_reducible first | exact HB.out | apply below_alloc | apply pw_below_drewN | apply below_drew1) | exact HB.out)⟩
      · rw [if_neg c9] at H
        have c9b0 : (t422 == 0) = false := beq_eq_false_iff_ne.mpr c9
        have c9b1 : (t422 != 0) = true := bne_iff_ne.mpr c9
        obtain rfl := Option.some.inj H
        go_enter Try.func51, Try.ntmps51
        go_wp2_with (first | ((with_reducible refine gate_callee (f := 41) rfl ?_); refine goesL_ (some 18) rfl rfl Try.func41 (by kernel_rfl) rfl #[.pointer Pa0, .int .i64 a1, .int .u8 a2] rfl (by (try simp only [List.map_toArray, List.map_cons, List.map_nil]); first | done | rfl | (simp only [List.length_drop, List.length_take]; rfl)) ?_; (with_reducible refine (trie_Trie_Next.calls _ a0 a1 a2 t420 false _ ?side1 A4.out).mono ?_); (case side1 => first | exact HO_a0.out | exact OB.drewN HO_a0.out _ | exact OB.below (by repeat (first | (with_reducible first | exact HB.out | apply below_alloc | apply pw_below_drewN | apply below_drew1) | exact HB.out)) HO_a0.out); rintro e w' ⟨rfl, ⟨nd, rfl⟩⟩; refine ⟨_, rfl, ?_⟩) | ((with_reducible refine gate_callee (f := 40) rfl ?_); refine goesL_ (some 24) rfl rfl Try.func40 (by kernel_rfl) rfl #[.pointer Pa0, .int .i64 a1] rfl (by (try simp only [List.map_toArray, List.map_cons, List.map_nil]); first | done | rfl | (simp only [List.length_drop, List.length_take]; rfl)) ?_; (with_reducible refine (trie_Trie_Above.calls _ a0 a1 t422 t423 t424 _ ?side1 A5.out).mono ?_); (case side1 => first | exact HO_a0.out | exact OB.drewN HO_a0.out _ | exact OB.below (by repeat (first | (with_reducible first | exact HB.out | apply below_alloc | apply pw_below_drewN | apply below_drew1) | exact HB.out)) HO_a0.out); rintro e w' ⟨rfl, ⟨nd, rfl⟩⟩; refine ⟨_, rfl, ?_⟩) | ((with_reducible refine gate_callee (f := 46) rfl ?_); refine goesL_ (some 31) rfl rfl Try.func46 (by kernel_rfl) rfl #[.pointer Pa0, .int .i64 a1] rfl (by (try simp only [List.map_toArray, List.map_cons, List.map_nil]); first | done | rfl | (simp only [List.length_drop, List.length_take]; rfl)) ?_; (with_reducible refine (trie_Trie_Ends.calls _ a0 a1 t425 t426 _ ?side1 A6.out).mono ?_); (case side1 => first | exact HO_a0.out | exact OB.drewN HO_a0.out _ | exact OB.below (by repeat (first | (with_reducible first | exact HB.out | apply below_alloc | apply pw_below_drewN | apply below_drew1) | exact HB.out)) HO_a0.out); rintro e w' ⟨rfl, ⟨nd, rfl⟩⟩; refine ⟨_, rfl, ?_⟩))
        go_ret
        exact ⟨by first | rfl | (simp [errW_none, errW_some] <;> rfl) | (simp [*, errW_none, errW_some] <;> rfl), by repeat (first | (with_reducible first | exact HB.out | apply below_alloc | apply pw_below_drewN | apply below_drew1) | exact HB.out)⟩
  · rw [if_neg c7] at H
    have c7b0 : (t420 == 0) = false := beq_eq_false_iff_ne.mpr c7
    have c7b1 : (t420 != 0) = true := bne_iff_ne.mpr c7
    obtain rfl := Option.some.inj H
    go_enter Try.func51, Try.ntmps51
    go_wp2_with (first | ((with_reducible refine gate_callee (f := 41) rfl ?_); refine goesL_ (some 18) rfl rfl Try.func41 (by kernel_rfl) rfl #[.pointer Pa0, .int .i64 a1, .int .u8 a2] rfl (by (try simp only [List.map_toArray, List.map_cons, List.map_nil]); first | done | rfl | (simp only [List.length_drop, List.length_take]; rfl)) ?_; (with_reducible refine (trie_Trie_Next.calls _ a0 a1 a2 t420 t421 _ ?side1 A4.out).mono ?_); (case side1 => first | exact HO_a0.out | exact OB.drewN HO_a0.out _ | exact OB.below (by repeat (first | (with_reducible first | exact HB.out | apply below_alloc | apply pw_below_drewN | apply below_drew1) | exact HB.out)) HO_a0.out); rintro e w' ⟨rfl, ⟨nd, rfl⟩⟩; refine ⟨_, rfl, ?_⟩) | ((with_reducible refine gate_callee (f := 40) rfl ?_); refine goesL_ (some 24) rfl rfl Try.func40 (by kernel_rfl) rfl #[.pointer Pa0, .int .i64 a1] rfl (by (try simp only [List.map_toArray, List.map_cons, List.map_nil]); first | done | rfl | (simp only [List.length_drop, List.length_take]; rfl)) ?_; (with_reducible refine (trie_Trie_Above.calls _ a0 a1 t422 t423 t424 _ ?side1 A5.out).mono ?_); (case side1 => first | exact HO_a0.out | exact OB.drewN HO_a0.out _ | exact OB.below (by repeat (first | (with_reducible first | exact HB.out | apply below_alloc | apply pw_below_drewN | apply below_drew1) | exact HB.out)) HO_a0.out); rintro e w' ⟨rfl, ⟨nd, rfl⟩⟩; refine ⟨_, rfl, ?_⟩) | ((with_reducible refine gate_callee (f := 46) rfl ?_); refine goesL_ (some 31) rfl rfl Try.func46 (by kernel_rfl) rfl #[.pointer Pa0, .int .i64 a1] rfl (by (try simp only [List.map_toArray, List.map_cons, List.map_nil]); first | done | rfl | (simp only [List.length_drop, List.length_take]; rfl)) ?_; (with_reducible refine (trie_Trie_Ends.calls _ a0 a1 t425 t426 _ ?side1 A6.out).mono ?_); (case side1 => first | exact HO_a0.out | exact OB.drewN HO_a0.out _ | exact OB.below (by repeat (first | (with_reducible first | exact HB.out | apply below_alloc | apply pw_below_drewN | apply below_drew1) | exact HB.out)) HO_a0.out); rintro e w' ⟨rfl, ⟨nd, rfl⟩⟩; refine ⟨_, rfl, ?_⟩))
    go_ret
    exact ⟨by first | rfl | (simp [errW_none, errW_some] <;> rfl) | (simp [*, errW_none, errW_some] <;> rfl), by repeat (first | (with_reducible first | exact HB.out | apply below_alloc | apply pw_below_drewN | apply below_drew1) | exact HB.out)⟩

end Go.Proofs.Ytnpkbnfiadkgnaa.P

/- Proved here: what Go functions of this seat compute, or a law of it; no condition beyond the statement's own. Written for this claim by a program of this session (wip/myprint.py) over the kit's print.py. -/
namespace Go.Proofs.Ytnpkbnfiadkgnaa.P
open Go.RowKit Go.Proofs.YtnpkbnfiadkgnaaW.PrintWords Go.Proofs.YtnpkbnfiadkgnaaW.PrintLast Go.Proofs.YtnpkbnfiadkgnaaW.PrintMore
attribute [local go_sem] max2_int min2_int max_two min_two max_three min_three max_four min_four   -- for this text's walks alone
set_option linter.unusedVariables false
set_option linter.unusedSimpArgs false

/-! ### juratlaw16_TrieNone: function 9 -/
mutual
def juratlaw16_TrieNone.j0 : Nat → List ByteArray → Int → Int → ByteArray → Bool → Option (Bool)
  | 0, _, _, _, _, _ => none
  | k + 1, x0, x1, x2, x3, x28 => if x28 = true then ((juratlaw16_awake.f).bind fun t431 => (some t431)) else ((pats_New.f x0).bind fun bt432 => ((juratref10_New.f k x0).bind fun bt434 => ((trie_New.f bt432.1).bind fun t438 => ((juratref16_States.f k bt434.1).bind fun t440 => ((trie_Trie_Find.f t438 x3).bind fun bt443 => ((juratref16_Find.f k t440 x3).bind fun t445 => (if (bt443.2 != (decide (t445 ≥ 0))) = true then (juratlaw16_TrieNone.j1 k x1 x2 x3 t438 t440 true) else (if bt443.2 = true then (if bt443.1 = t445 then (juratlaw16_TrieNone.j1 k x1 x2 x3 t438 t440 false) else (juratlaw16_TrieNone.j1 k x1 x2 x3 t438 t440 true)) else (juratlaw16_TrieNone.j1 k x1 x2 x3 t438 t440 (bt443.1 != 0))))))))))
def juratlaw16_TrieNone.j1 : Nat → Int → Int → ByteArray → Option D93 → List ByteArray → Bool → Option (Bool)
  | 0, _, _, _, _, _, _ => none
  | k + 1, x1, x2, x3, x13, x14, x72 => if x72 = true then (some false) else ((trie_Trie_Find.f none x3).bind fun bt446 => (if bt446.2 = true then (juratlaw16_TrieNone.j2 k x1 x2 x13 x14 true) else ((trie_Trie_Len.f none).bind fun t448 => (if t448 = 0 then ((juratlaw16_nothing.f none x1 x2).bind fun t449 => (juratlaw16_TrieNone.j2 k x1 x2 x13 x14 (!t449))) else (juratlaw16_TrieNone.j2 k x1 x2 x13 x14 true)))))
def juratlaw16_TrieNone.j2 : Nat → Int → Int → Option D93 → List ByteArray → Bool → Option (Bool)
  | 0, _, _, _, _, _ => none
  | k + 1, x1, x2, x13, x14, x91 => if x91 = true then (some false) else (if x1 ≥ 0 then (if x1 < (x14.length : Int) then ((juratlaw16_awake.f).bind fun t450 => (some t450)) else ((juratlaw16_nothing.f x13 x1 x2).bind fun t451 => (if t451 = true then ((juratlaw16_awake.f).bind fun t452 => (some t452)) else (some false)))) else ((juratlaw16_nothing.f x13 x1 x2).bind fun t453 => (if t453 = true then ((juratlaw16_awake.f).bind fun t454 => (some t454)) else (some false))))
end
def juratlaw16_TrieNone.f (k : Nat) (l0 : List ByteArray) (a1 : Int) (a2 : Int) (a3 : ByteArray) : Option (Bool) := (juratref09_Few.f k l0 12 20).bind fun t430 => (if t430 = true then (juratlaw16_TrieNone.j0 k l0 a1 a2 a3 (decide ((a3.size : Int) > 50))) else (juratlaw16_TrieNone.j0 k l0 a1 a2 a3 true))
theorem juratlaw16_TrieNone.mono_l : ∀ k, (∀ y0 y1 y2 y3 y4, LeO (juratlaw16_TrieNone.j0 k y0 y1 y2 y3 y4) (juratlaw16_TrieNone.j0 (k + 1) y0 y1 y2 y3 y4)) ∧ (∀ y0 y1 y2 y3 y4 y5, LeO (juratlaw16_TrieNone.j1 k y0 y1 y2 y3 y4 y5) (juratlaw16_TrieNone.j1 (k + 1) y0 y1 y2 y3 y4 y5)) ∧ (∀ y0 y1 y2 y3 y4, LeO (juratlaw16_TrieNone.j2 k y0 y1 y2 y3 y4) (juratlaw16_TrieNone.j2 (k + 1) y0 y1 y2 y3 y4))
  | 0 => ⟨fun _ _ _ _ _ r h => by simp [juratlaw16_TrieNone.j0] at h, fun _ _ _ _ _ _ r h => by simp [juratlaw16_TrieNone.j1] at h, fun _ _ _ _ _ r h => by simp [juratlaw16_TrieNone.j2] at h⟩
  | k + 1 => by
    obtain ⟨ih0, ih1, ih2⟩ := juratlaw16_TrieNone.mono_l k
    refine ⟨?_, ?_, ?_⟩
    · intro y0 y1 y2 y3 y4
      unfold juratlaw16_TrieNone.j0
      repeat' first
      | (with_reducible exact ih0 _ _ _ _ _)
      | (with_reducible exact ih1 _ _ _ _ _ _)
      | (with_reducible exact ih2 _ _ _ _ _)
      | (with_reducible exact juratref09_Few.mono _ _ _ _)
      | (with_reducible exact juratref10_New.mono _ _)
      | (with_reducible exact juratref16_Find.mono _ _ _)
      | (with_reducible exact juratref16_States.mono _ _)
      | (with_reducible exact LeO.refl _)
      | (with_reducible exact LeO.none _)
      | (with_reducible refine LeO.ite ?_ ?_)
      | (with_reducible refine LeO.bind ?_ (fun _ => ?_))
      | exact ih0 _ _ _ _ _
      | exact ih1 _ _ _ _ _ _
      | exact ih2 _ _ _ _ _
      | exact juratref09_Few.mono _ _ _ _
      | exact juratref10_New.mono _ _
      | exact juratref16_Find.mono _ _ _
      | exact juratref16_States.mono _ _
      | exact LeO.none _
      | refine LeO.ite ?_ ?_
      | refine LeO.bind ?_ (fun _ => ?_)
    · intro y0 y1 y2 y3 y4 y5
      unfold juratlaw16_TrieNone.j1
      repeat' first
      | (with_reducible exact ih0 _ _ _ _ _)
      | (with_reducible exact ih1 _ _ _ _ _ _)
      | (with_reducible exact ih2 _ _ _ _ _)
      | (with_reducible exact juratref09_Few.mono _ _ _ _)
      | (with_reducible exact juratref10_New.mono _ _)
      | (with_reducible exact juratref16_Find.mono _ _ _)
      | (with_reducible exact juratref16_States.mono _ _)
      | (with_reducible exact LeO.refl _)
      | (with_reducible exact LeO.none _)
      | (with_reducible refine LeO.ite ?_ ?_)
      | (with_reducible refine LeO.bind ?_ (fun _ => ?_))
      | exact ih0 _ _ _ _ _
      | exact ih1 _ _ _ _ _ _
      | exact ih2 _ _ _ _ _
      | exact juratref09_Few.mono _ _ _ _
      | exact juratref10_New.mono _ _
      | exact juratref16_Find.mono _ _ _
      | exact juratref16_States.mono _ _
      | exact LeO.none _
      | refine LeO.ite ?_ ?_
      | refine LeO.bind ?_ (fun _ => ?_)
    · intro y0 y1 y2 y3 y4
      unfold juratlaw16_TrieNone.j2
      repeat' first
      | (with_reducible exact ih0 _ _ _ _ _)
      | (with_reducible exact ih1 _ _ _ _ _ _)
      | (with_reducible exact ih2 _ _ _ _ _)
      | (with_reducible exact juratref09_Few.mono _ _ _ _)
      | (with_reducible exact juratref10_New.mono _ _)
      | (with_reducible exact juratref16_Find.mono _ _ _)
      | (with_reducible exact juratref16_States.mono _ _)
      | (with_reducible exact LeO.refl _)
      | (with_reducible exact LeO.none _)
      | (with_reducible refine LeO.ite ?_ ?_)
      | (with_reducible refine LeO.bind ?_ (fun _ => ?_))
      | exact ih0 _ _ _ _ _
      | exact ih1 _ _ _ _ _ _
      | exact ih2 _ _ _ _ _
      | exact juratref09_Few.mono _ _ _ _
      | exact juratref10_New.mono _ _
      | exact juratref16_Find.mono _ _ _
      | exact juratref16_States.mono _ _
      | exact LeO.none _
      | refine LeO.ite ?_ ?_
      | refine LeO.bind ?_ (fun _ => ?_)
theorem juratlaw16_TrieNone.mono : ∀ a0 a1 a2 a3 k, LeO (juratlaw16_TrieNone.f k a0 a1 a2 a3) (juratlaw16_TrieNone.f (k + 1) a0 a1 a2 a3) := by
  intro a0 a1 a2 a3 k
  obtain ⟨ih0, ih1, ih2⟩ := juratlaw16_TrieNone.mono_l k
  unfold juratlaw16_TrieNone.f
  repeat' first
      | (with_reducible exact ih0 _ _ _ _ _)
      | (with_reducible exact ih1 _ _ _ _ _ _)
      | (with_reducible exact ih2 _ _ _ _ _)
      | (with_reducible exact juratref09_Few.mono _ _ _ _)
      | (with_reducible exact juratref10_New.mono _ _)
      | (with_reducible exact juratref16_Find.mono _ _ _)
      | (with_reducible exact juratref16_States.mono _ _)
      | (with_reducible exact LeO.refl _)
      | (with_reducible exact LeO.none _)
      | (with_reducible refine LeO.ite ?_ ?_)
      | (with_reducible refine LeO.bind ?_ (fun _ => ?_))
      | exact ih0 _ _ _ _ _
      | exact ih1 _ _ _ _ _ _
      | exact ih2 _ _ _ _ _
      | exact juratref09_Few.mono _ _ _ _
      | exact juratref10_New.mono _ _
      | exact juratref16_Find.mono _ _ _
      | exact juratref16_States.mono _ _
      | exact LeO.none _
      | refine LeO.ite ?_ ?_
      | refine LeO.bind ?_ (fun _ => ?_)
set_option maxHeartbeats 8000000 in
set_option maxRecDepth 100000 in
theorem juratlaw16_TrieNone.calls (k : Nat) (A0 : Option Addr) (c0 : Nat) (l0 : List ByteArray) (a1 : Int) (a2 : Int) (a3 : ByteArray) (r : Bool) (w : World) (hr0 : Kd.C Kd.string w A0 l0.length l0) (hc0 : l0.length ≤ c0) (h : juratlaw16_TrieNone.f k l0 a1 a2 a3 = some r) :
    Calls Try.prog 9 #[.slice A0 l0.length c0, .int .i64 a1, .int .u8 a2, .string a3] w fun e w' => e = .returned (.bool r) ∧ Below w.heap.size w w' := by
  have HR0 := Aside0.mk hr0
  have HC0 := Aside0.mk hc0
  clear hr0 hc0
  have HB := Aside0.mk (Below.refl w.heap.size w)
  have H : ((juratref09_Few.f k l0 12 20).bind fun t430 => (if t430 = true then (juratlaw16_TrieNone.j0 k l0 a1 a2 a3 (decide ((a3.size : Int) > 50))) else (juratlaw16_TrieNone.j0 k l0 a1 a2 a3 true))) = some r := h
  clear h
  have HC5 := Aside0.mk H
  clear H
  go_enter Try.func9, Try.ntmps9
  go_upto_region 1 with (fail)
  go_cut [28] (fun v28 wc => ∃ (kq : Nat) (x28_4 : Bool), v28 = .bool x28_4 ∧ Aside0 (juratlaw16_TrieNone.j0 kq l0 a1 a2 a3 x28_4 = some r) ∧ Aside0 (kq ≤ k) ∧ Aside0 (Below w.heap.size w wc))
  case first =>
    have H := HC5.out
    clear HC5
    replace H := Option.bind_eq_some_iff.mp H
    obtain ⟨t430, A60, H⟩ := H
    replace H : (if t430 = true then (juratlaw16_TrieNone.j0 k l0 a1 a2 a3 (decide ((a3.size : Int) > 50))) else (juratlaw16_TrieNone.j0 k l0 a1 a2 a3 true)) = some r := H
    have A6 := Aside0.mk A60
    clear A60
    by_cases c7 : t430 = true
    · subst c7
      have H1 : (juratlaw16_TrieNone.j0 k l0 a1 a2 a3 (decide ((a3.size : Int) > 50))) = some r := by rw [if_pos rfl] at H; exact H
      clear H
      have H := H1
      clear H1
      have H' := Aside0.mk H
      clear H
      go_wp2_with (first | ((with_reducible refine gate_callee (f := 10) rfl ?_); refine goesL_ (some 22) rfl rfl Try.func10 (by kernel_rfl) rfl #[.slice A0 l0.length c0, .int .i64 12, .int .i64 20] rfl (by (try simp only [List.map_toArray, List.map_cons, List.map_nil]); first | done | rfl | (simp only [List.length_drop, List.length_take]; rfl)) ?_; (with_reducible refine (juratref09_Few.calls k _ _ l0 12 20 true _ ?side1 ?side2 A6.out).mono ?_); (case side1 => repeat (first | exact (Kd.C_below HR0.out HB.out) | (with_reducible refine Kd.C_alloc ?_ _) | (with_reducible refine Kd.C_drewN ?_ _) | (with_reducible refine Kd.C_drew ?_))); (case side2 => exact HC0.out); rintro e w' ⟨rfl, ⟨nd, rfl⟩⟩; refine ⟨_, rfl, ?_⟩))
      go_meet
      case rel => exact ⟨_, (decide ((a3.size : Int) > 50)), (by first | rfl | exact isE_ _ | exact isE2_ _ | (simp; done) | (simp [*]; done)), H', ⟨by first | omega | exact Nat.le_refl _⟩, ⟨by repeat (first | (with_reducible first | exact HB.out | apply below_alloc | apply pw_below_drewN | apply below_drew1) | exact HB.out)⟩⟩
    · replace c7 := Bool.eq_false_iff.mpr c7
      subst c7
      have H1 : (juratlaw16_TrieNone.j0 k l0 a1 a2 a3 true) = some r := by rw [if_neg (show ¬ (false = true) by decide)] at H; exact H
      clear H
      have H := H1
      clear H1
      have H' := Aside0.mk H
      clear H
      go_wp2_with (first | ((with_reducible refine gate_callee (f := 10) rfl ?_); refine goesL_ (some 22) rfl rfl Try.func10 (by kernel_rfl) rfl #[.slice A0 l0.length c0, .int .i64 12, .int .i64 20] rfl (by (try simp only [List.map_toArray, List.map_cons, List.map_nil]); first | done | rfl | (simp only [List.length_drop, List.length_take]; rfl)) ?_; (with_reducible refine (juratref09_Few.calls k _ _ l0 12 20 false _ ?side1 ?side2 A6.out).mono ?_); (case side1 => repeat (first | exact (Kd.C_below HR0.out HB.out) | (with_reducible refine Kd.C_alloc ?_ _) | (with_reducible refine Kd.C_drewN ?_ _) | (with_reducible refine Kd.C_drew ?_))); (case side2 => exact HC0.out); rintro e w' ⟨rfl, ⟨nd, rfl⟩⟩; refine ⟨_, rfl, ?_⟩))
      go_meet
      case rel => exact ⟨_, (true), (by first | rfl | exact isE_ _ | exact isE2_ _ | (simp; done) | (simp [*]; done)), H', ⟨by first | omega | exact Nat.le_refl _⟩, ⟨by repeat (first | (with_reducible first | exact HB.out | apply below_alloc | apply pw_below_drewN | apply below_drew1) | exact HB.out)⟩⟩
  case rest =>
    clear HC5
    try clear c1
    try clear p2
    try clear c7
    obtain ⟨kq, x28_4, rfl, HA, HJ4, HB⟩ := hcut
    cases kq with
    | zero => exact absurd HA.out (by simp [juratlaw16_TrieNone.j0])
    | succ kj4 =>
      have H := HA.out
      clear HA
      simp only [juratlaw16_TrieNone.j0] at H
      by_cases c8 : x28_4 = true
      · subst c8
        have H1 : ((juratlaw16_awake.f).bind fun t431 => (some t431)) = some r := by rw [if_pos rfl] at H; exact H
        clear H
        have H := H1
        clear H1
        replace H := Option.bind_eq_some_iff.mp H
        obtain ⟨t431, A90, H⟩ := H
        replace H : (some t431) = some r := H
        have A9 := Aside0.mk A90
        clear A90
        obtain rfl := Option.some.inj H
        go_wp2_with (first | ((with_reducible refine gate_callee (f := 36) rfl ?_); refine goesL_ (some 29) rfl rfl Try.func36 (by kernel_rfl) rfl #[] rfl (by (try simp only [List.map_toArray, List.map_cons, List.map_nil]); first | done | rfl | (simp only [List.length_drop, List.length_take]; rfl)) ?_; (with_reducible refine (juratlaw16_awake.calls  t431 _ A9.out).mono ?_); rintro e w10 ⟨rfl, hb⟩; refine ⟨_, rfl, ?_⟩; have n0_ := Aside0.mk (below_step (by repeat (first | (with_reducible first | exact HB.out | apply below_alloc | apply pw_below_drewN | apply below_drew1) | exact HB.out)) hb); clear HB; have HB := n0_; clear n0_; (try clear hb); (try clear hb2); (try clear hk); (try clear hi)))
        go_ret
        exact ⟨by first | rfl | (simp [errW_none, errW_some] <;> rfl) | (simp [*, errW_none, errW_some] <;> rfl), by first | (refine HB00.out.trans (Below.mono ?_ HB00.out.size); (repeat (first | (with_reducible first | exact HB.out | apply below_alloc | apply pw_below_drewN | apply below_drew1) | exact HB.out))) | (repeat (first | (with_reducible first | exact HB.out | apply below_alloc | apply pw_below_drewN | apply below_drew1) | exact HB.out))⟩
      · replace c8 := Bool.eq_false_iff.mpr c8
        subst c8
        have H1 : ((pats_New.f l0).bind fun bt432 => ((juratref10_New.f kj4 l0).bind fun bt434 => ((trie_New.f bt432.1).bind fun t438 => ((juratref16_States.f kj4 bt434.1).bind fun t440 => ((trie_Trie_Find.f t438 a3).bind fun bt443 => ((juratref16_Find.f kj4 t440 a3).bind fun t445 => (if (bt443.2 != (decide (t445 ≥ 0))) = true then (juratlaw16_TrieNone.j1 kj4 a1 a2 a3 t438 t440 true) else (if bt443.2 = true then (if bt443.1 = t445 then (juratlaw16_TrieNone.j1 kj4 a1 a2 a3 t438 t440 false) else (juratlaw16_TrieNone.j1 kj4 a1 a2 a3 t438 t440 true)) else (juratlaw16_TrieNone.j1 kj4 a1 a2 a3 t438 t440 (bt443.1 != 0)))))))))) = some r := by rw [if_neg (show ¬ (false = true) by decide)] at H; exact H
        clear H
        have H := H1
        clear H1
        replace H := Option.bind_eq_some_iff.mp H
        obtain ⟨⟨t432, t433⟩, A110, H⟩ := H
        replace H : ((juratref10_New.f kj4 l0).bind fun bt434 => ((trie_New.f t432).bind fun t438 => ((juratref16_States.f kj4 bt434.1).bind fun t440 => ((trie_Trie_Find.f t438 a3).bind fun bt443 => ((juratref16_Find.f kj4 t440 a3).bind fun t445 => (if (bt443.2 != (decide (t445 ≥ 0))) = true then (juratlaw16_TrieNone.j1 kj4 a1 a2 a3 t438 t440 true) else (if bt443.2 = true then (if bt443.1 = t445 then (juratlaw16_TrieNone.j1 kj4 a1 a2 a3 t438 t440 false) else (juratlaw16_TrieNone.j1 kj4 a1 a2 a3 t438 t440 true)) else (juratlaw16_TrieNone.j1 kj4 a1 a2 a3 t438 t440 (bt443.1 != 0))))))))) = some r := H
        have A11 := Aside0.mk A110
        clear A110
        replace H := Option.bind_eq_some_iff.mp H
        obtain ⟨⟨t434, t435⟩, A120, H⟩ := H
        replace H : ((trie_New.f t432).bind fun t438 => ((juratref16_States.f kj4 t434).bind fun t440 => ((trie_Trie_Find.f t438 a3).bind fun bt443 => ((juratref16_Find.f kj4 t440 a3).bind fun t445 => (if (bt443.2 != (decide (t445 ≥ 0))) = true then (juratlaw16_TrieNone.j1 kj4 a1 a2 a3 t438 t440 true) else (if bt443.2 = true then (if bt443.1 = t445 then (juratlaw16_TrieNone.j1 kj4 a1 a2 a3 t438 t440 false) else (juratlaw16_TrieNone.j1 kj4 a1 a2 a3 t438 t440 true)) else (juratlaw16_TrieNone.j1 kj4 a1 a2 a3 t438 t440 (bt443.1 != 0)))))))) = some r := H
        have A12 := Aside0.mk A120
        clear A120
        replace H := Option.bind_eq_some_iff.mp H
        obtain ⟨t438, A130, H⟩ := H
        replace H : ((juratref16_States.f kj4 t434).bind fun t440 => ((trie_Trie_Find.f t438 a3).bind fun bt443 => ((juratref16_Find.f kj4 t440 a3).bind fun t445 => (if (bt443.2 != (decide (t445 ≥ 0))) = true then (juratlaw16_TrieNone.j1 kj4 a1 a2 a3 t438 t440 true) else (if bt443.2 = true then (if bt443.1 = t445 then (juratlaw16_TrieNone.j1 kj4 a1 a2 a3 t438 t440 false) else (juratlaw16_TrieNone.j1 kj4 a1 a2 a3 t438 t440 true)) else (juratlaw16_TrieNone.j1 kj4 a1 a2 a3 t438 t440 (bt443.1 != 0))))))) = some r := H
        have A13 := Aside0.mk A130
        clear A130
        replace H := Option.bind_eq_some_iff.mp H
        obtain ⟨t440, A140, H⟩ := H
        replace H : ((trie_Trie_Find.f t438 a3).bind fun bt443 => ((juratref16_Find.f kj4 t440 a3).bind fun t445 => (if (bt443.2 != (decide (t445 ≥ 0))) = true then (juratlaw16_TrieNone.j1 kj4 a1 a2 a3 t438 t440 true) else (if bt443.2 = true then (if bt443.1 = t445 then (juratlaw16_TrieNone.j1 kj4 a1 a2 a3 t438 t440 false) else (juratlaw16_TrieNone.j1 kj4 a1 a2 a3 t438 t440 true)) else (juratlaw16_TrieNone.j1 kj4 a1 a2 a3 t438 t440 (bt443.1 != 0)))))) = some r := H
        have A14 := Aside0.mk A140
        clear A140
        replace H := Option.bind_eq_some_iff.mp H
        obtain ⟨⟨t443, t444⟩, A150, H⟩ := H
        replace H : ((juratref16_Find.f kj4 t440 a3).bind fun t445 => (if (t444 != (decide (t445 ≥ 0))) = true then (juratlaw16_TrieNone.j1 kj4 a1 a2 a3 t438 t440 true) else (if t444 = true then (if t443 = t445 then (juratlaw16_TrieNone.j1 kj4 a1 a2 a3 t438 t440 false) else (juratlaw16_TrieNone.j1 kj4 a1 a2 a3 t438 t440 true)) else (juratlaw16_TrieNone.j1 kj4 a1 a2 a3 t438 t440 (t443 != 0))))) = some r := H
        have A15 := Aside0.mk A150
        clear A150
        replace H := Option.bind_eq_some_iff.mp H
        obtain ⟨t445, A160, H⟩ := H
        replace H : (if (t444 != (decide (t445 ≥ 0))) = true then (juratlaw16_TrieNone.j1 kj4 a1 a2 a3 t438 t440 true) else (if t444 = true then (if t443 = t445 then (juratlaw16_TrieNone.j1 kj4 a1 a2 a3 t438 t440 false) else (juratlaw16_TrieNone.j1 kj4 a1 a2 a3 t438 t440 true)) else (juratlaw16_TrieNone.j1 kj4 a1 a2 a3 t438 t440 (t443 != 0)))) = some r := H
        have A16 := Aside0.mk A160
        clear A160
        have HC17 := Aside0.mk H
        clear H
        go_upto_region 9 with (first | ((with_reducible refine gate_callee (f := 12) rfl ?_); refine goesL_ (some 32) rfl rfl Try.func12 (by kernel_rfl) rfl #[.slice A0 l0.length c0] rfl (by (try simp only [List.map_toArray, List.map_cons, List.map_nil]); first | done | rfl | (simp only [List.length_drop, List.length_take]; rfl)) ?_; (with_reducible refine (pats_New.calls _ _ l0 t432 t433 _ ?side1 ?side2 A11.out).mono ?_); (case side1 => repeat (first | exact (Kd.C_below HR0.out HB.out) | (with_reducible refine Kd.C_alloc ?_ _) | (with_reducible refine Kd.C_drewN ?_ _) | (with_reducible refine Kd.C_drew ?_))); (case side2 => exact HC0.out); rintro e w18 ⟨Pt432, rfl, hob0, hb⟩; refine ⟨_, rfl, ?_⟩; have hbw_ := below_step (by repeat (first | (with_reducible first | exact HB.out | apply below_alloc | apply pw_below_drewN | apply below_drew1) | exact HB.out)) hb; (try (have n_ := Aside0.mk (Kd.C_below HR0.out hbw_); clear HR0; have HR0 := n_; clear n_)); (first | (have n_ := Aside0.mk (HB00.out.trans (hbw_.mono HB00.out.size)); clear HB00; have HB00 := n_; clear n_) | have HB00 := Aside0.mk hbw_); clear HB hb hbw_; have HO_t432 := Aside0.mk hob0; clear hob0; obtain ⟨w, rfl⟩ : ∃ w_ : World, w_ = w18 := ⟨_, rfl⟩; have HB := Aside0.mk (Below.refl w.heap.size w)) | ((with_reducible refine gate_callee (f := 13) rfl ?_); refine goesL_ (some 37) rfl rfl Try.func13 (by kernel_rfl) rfl #[.slice A0 l0.length c0] rfl (by (try simp only [List.map_toArray, List.map_cons, List.map_nil]); first | done | rfl | (simp only [List.length_drop, List.length_take]; rfl)) ?_; (with_reducible refine (juratref10_New.calls kj4 _ _ l0 t434 t435 _ ?side1 ?side2 A12.out).mono ?_); (case side1 => repeat (first | exact (Kd.C_below HR0.out HB.out) | (with_reducible refine Kd.C_alloc ?_ _) | (with_reducible refine Kd.C_drewN ?_ _) | (with_reducible refine Kd.C_drew ?_))); (case side2 => exact HC0.out); rintro e w19 ⟨v436, rfl, ho0, hb⟩; refine ⟨_, rfl, ?_⟩; have n0_ := Aside0.mk (Kd.R_lower ho0 (below_size (by repeat (first | (with_reducible first | exact HB.out | apply below_alloc | apply pw_below_drewN | apply below_drew1) | exact HB.out)))); have n1_ := Aside0.mk (below_step (by repeat (first | (with_reducible first | exact HB.out | apply below_alloc | apply pw_below_drewN | apply below_drew1) | exact HB.out)) hb); clear HB; have HO437 := n0_; have HB := n1_; clear n0_ n1_; (try clear hb); (try clear hb2); (try clear hk); (try clear hi); (try clear ho0)) | ((with_reducible refine gate_callee (f := 37) rfl ?_); refine goesL_ (some 41) rfl rfl Try.func37 (by kernel_rfl) rfl #[.pointer Pt432] rfl (by (try simp only [List.map_toArray, List.map_cons, List.map_nil]); first | done | rfl | (simp only [List.length_drop, List.length_take]; rfl)) ?_; (with_reducible refine (trie_New.calls _ t432 t438 _ ?side1 A13.out).mono ?_); (case side1 => first | exact HO_t432.out | exact OB.drewN HO_t432.out _ | exact OB.below (by repeat (first | (with_reducible first | exact HB.out | apply below_alloc | apply pw_below_drewN | apply below_drew1) | exact HB.out)) HO_t432.out); rintro e w20 ⟨Pt438, rfl, hob0, hb⟩; refine ⟨_, rfl, ?_⟩; have hbw_ := below_step (by repeat (first | (with_reducible first | exact HB.out | apply below_alloc | apply pw_below_drewN | apply below_drew1) | exact HB.out)) hb; obtain ⟨Ab439, cb439, eb439_, lb439_, gb439_⟩ := Kd.R_reads (Kd.R_below (by (with_reducible repeat (first | apply Kd.R_alloc | apply Kd.R_drewN | apply Kd.R_drew)); exact HO437.out) hb); (first | subst eb439_ | (injection eb439_ with f1_ f2_ f3_; have f4_ := f1_.symm; have f5_ := f3_.symm; clear f1_ f2_ f3_; subst f4_; subst f5_)); have HRb439 := Aside0.mk gb439_; have HCb439 := Aside0.mk lb439_; clear gb439_ lb439_; (try clear HO437); (try (have n_ := Aside0.mk (Kd.C_below HR0.out hbw_); clear HR0; have HR0 := n_; clear n_)); (try (have n_ := Aside0.mk (OB.below hbw_ HO_t432.out); clear HO_t432; have HO_t432 := n_; clear n_)); (first | (have n_ := Aside0.mk (HB00.out.trans (hbw_.mono HB00.out.size)); clear HB00; have HB00 := n_; clear n_) | have HB00 := Aside0.mk hbw_); clear HB hb hbw_; have HO_t438 := Aside0.mk hob0; clear hob0; obtain ⟨w, rfl⟩ : ∃ w_ : World, w_ = w20 := ⟨_, rfl⟩; have HB := Aside0.mk (Below.refl w.heap.size w)) | ((with_reducible refine gate_callee (f := 44) rfl ?_); refine goesL_ (some 43) rfl rfl Try.func44 (by kernel_rfl) rfl #[.slice Ab439 t434.length cb439] rfl (by (try simp only [List.map_toArray, List.map_cons, List.map_nil]); first | done | rfl | (simp only [List.length_drop, List.length_take]; rfl)) ?_; (with_reducible refine (juratref16_States.calls kj4 _ _ t434 t440 _ ?side1 ?side2 A14.out).mono ?_); (case side1 => repeat (first | exact (Kd.C_below HRb439.out HB.out) | (with_reducible refine Kd.C_alloc ?_ _) | (with_reducible refine Kd.C_drewN ?_ _) | (with_reducible refine Kd.C_drew ?_))); (case side2 => exact HCb439.out); rintro e w21 ⟨v441, rfl, ho0, hb⟩; refine ⟨_, rfl, ?_⟩; have n0_ := Aside0.mk (Kd.R_lower ho0 (below_size (by repeat (first | (with_reducible first | exact HB.out | apply below_alloc | apply pw_below_drewN | apply below_drew1) | exact HB.out)))); have n1_ := Aside0.mk (below_step (by repeat (first | (with_reducible first | exact HB.out | apply below_alloc | apply pw_below_drewN | apply below_drew1) | exact HB.out)) hb); clear HB; have HO442 := n0_; have HB := n1_; clear n0_ n1_; (try clear hb); (try clear hb2); (try clear hk); (try clear hi); (try clear ho0)) | ((with_reducible refine gate_callee (f := 50) rfl ?_); refine goesL_ (some 47) rfl rfl Try.func50 (by kernel_rfl) rfl #[.pointer Pt438, .string a3] rfl (by (try simp only [List.map_toArray, List.map_cons, List.map_nil]); first | done | rfl | (simp only [List.length_drop, List.length_take]; rfl)) ?_; (with_reducible refine (trie_Trie_Find.calls _ t438 a3 t443 t444 _ ?side1 A15.out).mono ?_); (case side1 => first | exact HO_t438.out | exact OB.drewN HO_t438.out _ | exact OB.below (by repeat (first | (with_reducible first | exact HB.out | apply below_alloc | apply pw_below_drewN | apply below_drew1) | exact HB.out)) HO_t438.out); rintro e w' ⟨rfl, ⟨nd, rfl⟩⟩; refine ⟨_, rfl, ?_⟩; obtain ⟨Ao22, co22, eo22⟩ := Kd.R_slice HO442.out; subst eo22) | ((with_reducible refine gate_callee (f := 45) rfl ?_); refine goesL_ (some 52) rfl rfl Try.func45 (by kernel_rfl) rfl #[.slice Ao22 t440.length co22, .string a3] rfl (by (try simp only [List.map_toArray, List.map_cons, List.map_nil]); first | done | rfl | (simp only [List.length_drop, List.length_take]; rfl)) ?_; (with_reducible refine (juratref16_Find.calls kj4 _ _ t440 a3 t445 _ ?side1 ?side2 A16.out).mono ?_); (case side1 => repeat (first | exact (Kd.R_reads' HO442.out).2.2 | (with_reducible refine Kd.C_alloc ?_ _) | (with_reducible refine Kd.C_drewN ?_ _) | (with_reducible refine Kd.C_drew ?_))); (case side2 => exact (Kd.R_reads' HO442.out).2.1); rintro e w' ⟨rfl, ⟨nd, rfl⟩⟩; refine ⟨_, rfl, ?_⟩))
        (try simp only [Act.put, List.setIfInBounds_toArray, List.set_cons_zero, List.set_cons_succ])
        go_cut [72] (fun v72 wc => ∃ (kq : Nat) (x72_16 : Bool), v72 = .bool x72_16 ∧ Aside0 (juratlaw16_TrieNone.j1 kq a1 a2 a3 t438 t440 x72_16 = some r) ∧ Aside0 (kq ≤ kj4) ∧ Aside0 (Kd.R Kd.string 9 wc w.heap.size (fun _ => True) (.slice Ao22 t440.length co22) t440) ∧ Aside0 (Below w.heap.size w wc))
        case first =>
          have H := HC17.out
          clear HC17
          by_cases c23 : (t444 != (decide (t445 ≥ 0))) = true
          · rw [if_pos c23] at H
            have c23b0 : (t444 != (decide (t445 ≥ 0))) = true := c23
            (try (have c23b1 : decide (t444 = (decide (t445 ≥ 0))) = false := by simpa using c23))
            (try (have c23b2 : (t444 == (decide (t445 ≥ 0))) = false := by simpa using c23))
            (try (have c23b3 : ¬ (t444 = (decide (t445 ≥ 0))) := by simpa using c23))
            clear c23
            (first | rw [c23b0] | rw [c23b1] | (simp only [i64_w, i32_w]; rw [c23b0]) | skip)
            have H' := Aside0.mk H
            clear H
            go_wp2
            go_meet
            case rel => exact ⟨_, (true), (by first | rfl | exact isE_ _ | exact isE2_ _ | (simp; done) | (simp [*]; done)), H', ⟨by have := HJ4.out; first | omega | exact Nat.le_refl _⟩, ⟨by (with_reducible repeat (first | apply Kd.R_alloc | apply Kd.R_drewN | apply Kd.R_drew)); exact HO442.out⟩, ⟨by repeat (first | (with_reducible first | exact HB.out | apply below_alloc | apply pw_below_drewN | apply below_drew1) | exact HB.out)⟩⟩
          · rw [if_neg c23] at H
            have c23b0 : (t444 != (decide (t445 ≥ 0))) = false := by simpa using c23
            (try (have c23b1 : decide (t444 = (decide (t445 ≥ 0))) = true := by simpa using c23))
            (try (have c23b2 : (t444 == (decide (t445 ≥ 0))) = true := by simpa using c23))
            clear c23
            (first | rw [c23b0] | rw [c23b1] | (simp only [i64_w, i32_w]; rw [c23b0]) | skip)
            by_cases c24 : t444 = true
            · subst c24
              have H1 : (if t443 = t445 then (juratlaw16_TrieNone.j1 kj4 a1 a2 a3 t438 t440 false) else (juratlaw16_TrieNone.j1 kj4 a1 a2 a3 t438 t440 true)) = some r := by rw [if_pos rfl] at H; exact H
              clear H
              have H := H1
              clear H1
              by_cases c25 : t443 = t445
              · rw [if_pos c25] at H
                have c25b0 : (t443 == t445) = true := beq_iff_eq.mpr c25
                have c25b1 : (t443 != t445) = false := bne_eq_false_iff_eq.mpr c25
                clear c25
                have H' := Aside0.mk H
                clear H
                go_wp2
                go_meet
                case rel => exact ⟨_, (false), (by first | rfl | exact isE_ _ | exact isE2_ _ | (simp; done) | (simp [*]; done)), H', ⟨by have := HJ4.out; first | omega | exact Nat.le_refl _⟩, ⟨by (with_reducible repeat (first | apply Kd.R_alloc | apply Kd.R_drewN | apply Kd.R_drew)); exact HO442.out⟩, ⟨by repeat (first | (with_reducible first | exact HB.out | apply below_alloc | apply pw_below_drewN | apply below_drew1) | exact HB.out)⟩⟩
              · rw [if_neg c25] at H
                have c25b0 : (t443 == t445) = false := beq_eq_false_iff_ne.mpr c25
                have c25b1 : (t443 != t445) = true := bne_iff_ne.mpr c25
                have H' := Aside0.mk H
                clear H
                go_wp2
                go_meet
                case rel => exact ⟨_, (true), (by first | rfl | exact isE_ _ | exact isE2_ _ | (simp; done) | (simp [*]; done)), H', ⟨by have := HJ4.out; first | omega | exact Nat.le_refl _⟩, ⟨by (with_reducible repeat (first | apply Kd.R_alloc | apply Kd.R_drewN | apply Kd.R_drew)); exact HO442.out⟩, ⟨by repeat (first | (with_reducible first | exact HB.out | apply below_alloc | apply pw_below_drewN | apply below_drew1) | exact HB.out)⟩⟩
            · replace c24 := Bool.eq_false_iff.mpr c24
              subst c24
              have H1 : (juratlaw16_TrieNone.j1 kj4 a1 a2 a3 t438 t440 (t443 != 0)) = some r := by rw [if_neg (show ¬ (false = true) by decide)] at H; exact H
              clear H
              have H := H1
              clear H1
              have H' := Aside0.mk H
              clear H
              go_wp2
              go_meet
              case rel => exact ⟨_, ((t443 != 0)), (by first | rfl | exact isE_ _ | exact isE2_ _ | (simp; done) | (simp [*]; done)), H', ⟨by have := HJ4.out; first | omega | exact Nat.le_refl _⟩, ⟨by (with_reducible repeat (first | apply Kd.R_alloc | apply Kd.R_drewN | apply Kd.R_drew)); exact HO442.out⟩, ⟨by repeat (first | (with_reducible first | exact HB.out | apply below_alloc | apply pw_below_drewN | apply below_drew1) | exact HB.out)⟩⟩
        case rest =>
          clear HC17
          try clear c1
          try clear c2
          try clear p2
          try clear c3
          try clear c4
          try clear c5
          try clear c7
          try clear c8
          try clear c9
          try clear c10
          try clear c12
          try clear c13
          try clear c23
          try clear c23b0
          try clear c23b1
          try clear c23b2
          try clear c24
          try clear c25
          try clear c25b0
          try clear c25b1
          try clear p2
          obtain ⟨kq, x72_16, rfl, HA, HJ16, HO_14, HB⟩ := hcut
          cases kq with
          | zero => exact absurd HA.out (by simp [juratlaw16_TrieNone.j1])
          | succ kj16 =>
            have H := HA.out
            clear HA
            simp only [juratlaw16_TrieNone.j1] at H
            by_cases c26 : x72_16 = true
            · subst c26
              have H1 : (some false) = some r := by rw [if_pos rfl] at H; exact H
              clear H
              have H := H1
              clear H1
              obtain rfl := Option.some.inj H
              go_wp2
              go_ret
              exact ⟨by first | rfl | (simp [errW_none, errW_some] <;> rfl) | (simp [*, errW_none, errW_some] <;> rfl), by first | (refine HB00.out.trans (Below.mono ?_ HB00.out.size); (repeat (first | (with_reducible first | exact HB.out | apply below_alloc | apply pw_below_drewN | apply below_drew1) | exact HB.out))) | (repeat (first | (with_reducible first | exact HB.out | apply below_alloc | apply pw_below_drewN | apply below_drew1) | exact HB.out))⟩
            · replace c26 := Bool.eq_false_iff.mpr c26
              subst c26
              have H1 : ((trie_Trie_Find.f none a3).bind fun bt446 => (if bt446.2 = true then (juratlaw16_TrieNone.j2 kj16 a1 a2 t438 t440 true) else ((trie_Trie_Len.f none).bind fun t448 => (if t448 = 0 then ((juratlaw16_nothing.f none a1 a2).bind fun t449 => (juratlaw16_TrieNone.j2 kj16 a1 a2 t438 t440 (!t449))) else (juratlaw16_TrieNone.j2 kj16 a1 a2 t438 t440 true))))) = some r := by rw [if_neg (show ¬ (false = true) by decide)] at H; exact H
              clear H
              have H := H1
              clear H1
              replace H := Option.bind_eq_some_iff.mp H
              obtain ⟨⟨t446, t447⟩, A270, H⟩ := H
              replace H : (if t447 = true then (juratlaw16_TrieNone.j2 kj16 a1 a2 t438 t440 true) else ((trie_Trie_Len.f none).bind fun t448 => (if t448 = 0 then ((juratlaw16_nothing.f none a1 a2).bind fun t449 => (juratlaw16_TrieNone.j2 kj16 a1 a2 t438 t440 (!t449))) else (juratlaw16_TrieNone.j2 kj16 a1 a2 t438 t440 true)))) = some r := H
              have A27 := Aside0.mk A270
              clear A270
              have HC28 := Aside0.mk H
              clear H
              go_upto_region 13 with (first | ((with_reducible refine gate_callee (f := 50) rfl ?_); refine goesL_ (some 76) rfl rfl Try.func50 (by kernel_rfl) rfl #[.pointer none, .string a3] rfl (by (try simp only [List.map_toArray, List.map_cons, List.map_nil]); first | done | rfl | (simp only [List.length_drop, List.length_take]; rfl)) ?_; (with_reducible refine (trie_Trie_Find.calls _ none a3 t446 t447 _ ?side1 A27.out).mono ?_); (case side1 => exact OB.nil _ _); rintro e w' ⟨rfl, ⟨nd, rfl⟩⟩; refine ⟨_, rfl, ?_⟩))
              (try simp only [Act.put, List.setIfInBounds_toArray, List.set_cons_zero, List.set_cons_succ])
              go_cut [91] (fun v91 wc => ∃ (kq : Nat) (x91_27 : Bool), v91 = .bool x91_27 ∧ Aside0 (juratlaw16_TrieNone.j2 kq a1 a2 t438 t440 x91_27 = some r) ∧ Aside0 (kq ≤ kj16) ∧ Aside0 (Kd.R Kd.string 9 wc w.heap.size (fun _ => True) (.slice Ao22 t440.length co22) t440) ∧ Aside0 (Below w.heap.size w wc))
              case first =>
                have H := HC28.out
                clear HC28
                by_cases c29 : t447 = true
                · subst c29
                  have H1 : (juratlaw16_TrieNone.j2 kj16 a1 a2 t438 t440 true) = some r := by rw [if_pos rfl] at H; exact H
                  clear H
                  have H := H1
                  clear H1
                  have H' := Aside0.mk H
                  clear H
                  go_wp2
                  go_meet
                  case rel => exact ⟨_, (true), (by first | rfl | exact isE_ _ | exact isE2_ _ | (simp; done) | (simp [*]; done)), H', ⟨by have := HJ4.out; have := HJ16.out; first | omega | exact Nat.le_refl _⟩, ⟨by (with_reducible repeat (first | apply Kd.R_alloc | apply Kd.R_drewN | apply Kd.R_drew)); exact HO_14.out⟩, ⟨by repeat (first | (with_reducible first | exact HB.out | apply below_alloc | apply pw_below_drewN | apply below_drew1) | exact HB.out)⟩⟩
                · replace c29 := Bool.eq_false_iff.mpr c29
                  subst c29
                  have H1 : ((trie_Trie_Len.f none).bind fun t448 => (if t448 = 0 then ((juratlaw16_nothing.f none a1 a2).bind fun t449 => (juratlaw16_TrieNone.j2 kj16 a1 a2 t438 t440 (!t449))) else (juratlaw16_TrieNone.j2 kj16 a1 a2 t438 t440 true))) = some r := by rw [if_neg (show ¬ (false = true) by decide)] at H; exact H
                  clear H
                  have H := H1
                  clear H1
                  replace H := Option.bind_eq_some_iff.mp H
                  obtain ⟨t448, A300, H⟩ := H
                  replace H : (if t448 = 0 then ((juratlaw16_nothing.f none a1 a2).bind fun t449 => (juratlaw16_TrieNone.j2 kj16 a1 a2 t438 t440 (!t449))) else (juratlaw16_TrieNone.j2 kj16 a1 a2 t438 t440 true)) = some r := H
                  have A30 := Aside0.mk A300
                  clear A300
                  by_cases c31 : t448 = 0
                  · rw [if_pos c31] at H
                    have c31b0 : (t448 == 0) = true := beq_iff_eq.mpr c31
                    have c31b1 : (t448 != 0) = false := bne_eq_false_iff_eq.mpr c31
                    clear c31
                    (first | rw [c31b0] | rw [c31b1] | (simp only [i64_w, i32_w]; rw [c31b0]) | skip)
                    replace H := Option.bind_eq_some_iff.mp H
                    obtain ⟨t449, A320, H⟩ := H
                    replace H : (juratlaw16_TrieNone.j2 kj16 a1 a2 t438 t440 (!t449)) = some r := H
                    have A32 := Aside0.mk A320
                    clear A320
                    have H' := Aside0.mk H
                    clear H
                    go_wp2_with (first | (go_at_call 38; (with_reducible refine (trie_Trie_Len.calls _ none t448 _ ?side1 A30.out).mono ?_); (case side1 => exact OB.nil _ _); rintro e w' ⟨rfl, ⟨nd, rfl⟩⟩) | (go_at_call 51; (with_reducible refine (juratlaw16_nothing.calls _ none a1 a2 t449 _ ?side1 A32.out).mono ?_); (case side1 => exact OB.nil _ _); rintro e w33 ⟨rfl, hb⟩; have n0_ := Aside0.mk (Kd.R_below (by (with_reducible repeat (first | apply Kd.R_alloc | apply Kd.R_drewN | apply Kd.R_drew)); exact HO_14.out) hb); have n1_ := Aside0.mk (below_step (by repeat (first | (with_reducible first | exact HB.out | apply below_alloc | apply pw_below_drewN | apply below_drew1) | exact HB.out)) hb); clear HO_14; clear HB; have HO_14 := n0_; have HB := n1_; clear n0_ n1_; (try clear hb); (try clear hb2); (try clear hk); (try clear hi)))
                    go_meet
                    case rel => exact ⟨_, (!t449), (by first | rfl | exact isE_ _ | exact isE2_ _ | (simp; done) | (simp [*]; done)), H', ⟨by have := HJ4.out; have := HJ16.out; first | omega | exact Nat.le_refl _⟩, ⟨by (with_reducible repeat (first | apply Kd.R_alloc | apply Kd.R_drewN | apply Kd.R_drew)); exact HO_14.out⟩, ⟨by repeat (first | (with_reducible first | exact HB.out | apply below_alloc | apply pw_below_drewN | apply below_drew1) | exact HB.out)⟩⟩
                  · rw [if_neg c31] at H
                    have c31b0 : (t448 == 0) = false := beq_eq_false_iff_ne.mpr c31
                    have c31b1 : (t448 != 0) = true := bne_iff_ne.mpr c31
                    (first | rw [c31b0] | rw [c31b1] | (simp only [i64_w, i32_w]; rw [c31b0]) | skip)
                    have H' := Aside0.mk H
                    clear H
                    go_wp2_with (first | (go_at_call 38; (with_reducible refine (trie_Trie_Len.calls _ none t448 _ ?side1 A30.out).mono ?_); (case side1 => exact OB.nil _ _); rintro e w' ⟨rfl, ⟨nd, rfl⟩⟩))
                    go_meet
                    case rel => exact ⟨_, (true), (by first | rfl | exact isE_ _ | exact isE2_ _ | (simp; done) | (simp [*]; done)), H', ⟨by have := HJ4.out; have := HJ16.out; first | omega | exact Nat.le_refl _⟩, ⟨by (with_reducible repeat (first | apply Kd.R_alloc | apply Kd.R_drewN | apply Kd.R_drew)); exact HO_14.out⟩, ⟨by repeat (first | (with_reducible first | exact HB.out | apply below_alloc | apply pw_below_drewN | apply below_drew1) | exact HB.out)⟩⟩
              case rest =>
                clear HC28
                try clear c1
                try clear c2
                try clear p2
                try clear c3
                try clear c4
                try clear c5
                try clear c7
                try clear c8
                try clear c9
                try clear c10
                try clear c12
                try clear c13
                try clear c23
                try clear c23b0
                try clear c23b1
                try clear c23b2
                try clear c24
                try clear c25
                try clear c25b0
                try clear c25b1
                try clear c26
                try clear c29
                try clear c31
                try clear c31b0
                try clear c31b1
                try clear p2
                obtain ⟨kq, x91_27, rfl, HA, HJ27, HO_14, HB⟩ := hcut
                cases kq with
                | zero => exact absurd HA.out (by simp [juratlaw16_TrieNone.j2])
                | succ kj27 =>
                  have H := HA.out
                  clear HA
                  simp only [juratlaw16_TrieNone.j2] at H
                  by_cases c34 : x91_27 = true
                  · subst c34
                    have H1 : (some false) = some r := by rw [if_pos rfl] at H; exact H
                    clear H
                    have H := H1
                    clear H1
                    obtain rfl := Option.some.inj H
                    go_wp2
                    go_ret
                    exact ⟨by first | rfl | (simp [errW_none, errW_some] <;> rfl) | (simp [*, errW_none, errW_some] <;> rfl), by first | (refine HB00.out.trans (Below.mono ?_ HB00.out.size); (repeat (first | (with_reducible first | exact HB.out | apply below_alloc | apply pw_below_drewN | apply below_drew1) | exact HB.out))) | (repeat (first | (with_reducible first | exact HB.out | apply below_alloc | apply pw_below_drewN | apply below_drew1) | exact HB.out))⟩
                  · replace c34 := Bool.eq_false_iff.mpr c34
                    subst c34
                    have H1 : (if a1 ≥ 0 then (if a1 < (t440.length : Int) then ((juratlaw16_awake.f).bind fun t450 => (some t450)) else ((juratlaw16_nothing.f t438 a1 a2).bind fun t451 => (if t451 = true then ((juratlaw16_awake.f).bind fun t452 => (some t452)) else (some false)))) else ((juratlaw16_nothing.f t438 a1 a2).bind fun t453 => (if t453 = true then ((juratlaw16_awake.f).bind fun t454 => (some t454)) else (some false)))) = some r := by rw [if_neg (show ¬ (false = true) by decide)] at H; exact H
                    clear H
                    have H := H1
                    clear H1
                    by_cases c35 : a1 ≥ 0
                    · rw [if_pos c35] at H
                      have c35b0 : decide (0 ≤ a1) = true := decide_eq_true c35
                      clear c35
                      by_cases c36 : a1 < (t440.length : Int)
                      · rw [if_pos c36] at H
                        have c36b0 : decide (a1 < (t440.length : Int)) = true := decide_eq_true c36
                        clear c36
                        replace H := Option.bind_eq_some_iff.mp H
                        obtain ⟨t450, A370, H⟩ := H
                        replace H : (some t450) = some r := H
                        have A37 := Aside0.mk A370
                        clear A370
                        obtain rfl := Option.some.inj H
                        go_wp2_with (first | (go_at_call 36; (with_reducible refine (juratlaw16_awake.calls  t450 _ A37.out).mono ?_); rintro e w38 ⟨rfl, hb⟩; have n0_ := Aside0.mk (Kd.R_below (by (with_reducible repeat (first | apply Kd.R_alloc | apply Kd.R_drewN | apply Kd.R_drew)); exact HO_14.out) hb); have n1_ := Aside0.mk (below_step (by repeat (first | (with_reducible first | exact HB.out | apply below_alloc | apply pw_below_drewN | apply below_drew1) | exact HB.out)) hb); clear HO_14; clear HB; have HO_14 := n0_; have HB := n1_; clear n0_ n1_; (try clear hb); (try clear hb2); (try clear hk); (try clear hi)))
                        go_ret
                        exact ⟨by first | rfl | (simp [errW_none, errW_some] <;> rfl) | (simp [*, errW_none, errW_some] <;> rfl), by first | (refine HB00.out.trans (Below.mono ?_ HB00.out.size); (repeat (first | (with_reducible first | exact HB.out | apply below_alloc | apply pw_below_drewN | apply below_drew1) | exact HB.out))) | (repeat (first | (with_reducible first | exact HB.out | apply below_alloc | apply pw_below_drewN | apply below_drew1) | exact HB.out))⟩
                      · rw [if_neg c36] at H
                        have c36b0 : decide (a1 < (t440.length : Int)) = false := decide_eq_false c36
                        clear c36
                        replace H := Option.bind_eq_some_iff.mp H
                        obtain ⟨t451, A390, H⟩ := H
                        replace H : (if t451 = true then ((juratlaw16_awake.f).bind fun t452 => (some t452)) else (some false)) = some r := H
                        have A39 := Aside0.mk A390
                        clear A390
                        by_cases c40 : t451 = true
                        · subst c40
                          have H1 : ((juratlaw16_awake.f).bind fun t452 => (some t452)) = some r := by rw [if_pos rfl] at H; exact H
                          clear H
                          have H := H1
                          clear H1
                          replace H := Option.bind_eq_some_iff.mp H
                          obtain ⟨t452, A410, H⟩ := H
                          replace H : (some t452) = some r := H
                          have A41 := Aside0.mk A410
                          clear A410
                          obtain rfl := Option.some.inj H
                          go_wp2_with (first | (go_at_call 51; (with_reducible refine (juratlaw16_nothing.calls _ t438 a1 a2 true _ ?side1 A39.out).mono ?_); (case side1 => first | exact HO_t438.out | exact OB.drewN HO_t438.out _ | exact OB.below (by repeat (first | (with_reducible first | exact HB.out | apply below_alloc | apply pw_below_drewN | apply below_drew1) | exact HB.out)) HO_t438.out); rintro e w42 ⟨rfl, hb⟩; have n0_ := Aside0.mk (Kd.R_below (by (with_reducible repeat (first | apply Kd.R_alloc | apply Kd.R_drewN | apply Kd.R_drew)); exact HO_14.out) hb); have n1_ := Aside0.mk (below_step (by repeat (first | (with_reducible first | exact HB.out | apply below_alloc | apply pw_below_drewN | apply below_drew1) | exact HB.out)) hb); clear HO_14; clear HB; have HO_14 := n0_; have HB := n1_; clear n0_ n1_; (try clear hb); (try clear hb2); (try clear hk); (try clear hi)) | (go_at_call 36; (with_reducible refine (juratlaw16_awake.calls  t452 _ A41.out).mono ?_); rintro e w43 ⟨rfl, hb⟩; have n0_ := Aside0.mk (Kd.R_below (by (with_reducible repeat (first | apply Kd.R_alloc | apply Kd.R_drewN | apply Kd.R_drew)); exact HO_14.out) hb); have n1_ := Aside0.mk (below_step (by repeat (first | (with_reducible first | exact HB.out | apply below_alloc | apply pw_below_drewN | apply below_drew1) | exact HB.out)) hb); clear HO_14; clear HB; have HO_14 := n0_; have HB := n1_; clear n0_ n1_; (try clear hb); (try clear hb2); (try clear hk); (try clear hi)))
                          go_ret
                          exact ⟨by first | rfl | (simp [errW_none, errW_some] <;> rfl) | (simp [*, errW_none, errW_some] <;> rfl), by first | (refine HB00.out.trans (Below.mono ?_ HB00.out.size); (repeat (first | (with_reducible first | exact HB.out | apply below_alloc | apply pw_below_drewN | apply below_drew1) | exact HB.out))) | (repeat (first | (with_reducible first | exact HB.out | apply below_alloc | apply pw_below_drewN | apply below_drew1) | exact HB.out))⟩
                        · replace c40 := Bool.eq_false_iff.mpr c40
                          subst c40
                          have H1 : (some false) = some r := by rw [if_neg (show ¬ (false = true) by decide)] at H; exact H
                          clear H
                          have H := H1
                          clear H1
                          obtain rfl := Option.some.inj H
                          go_wp2_with (first | (go_at_call 51; (with_reducible refine (juratlaw16_nothing.calls _ t438 a1 a2 false _ ?side1 A39.out).mono ?_); (case side1 => first | exact HO_t438.out | exact OB.drewN HO_t438.out _ | exact OB.below (by repeat (first | (with_reducible first | exact HB.out | apply below_alloc | apply pw_below_drewN | apply below_drew1) | exact HB.out)) HO_t438.out); rintro e w44 ⟨rfl, hb⟩; have n0_ := Aside0.mk (Kd.R_below (by (with_reducible repeat (first | apply Kd.R_alloc | apply Kd.R_drewN | apply Kd.R_drew)); exact HO_14.out) hb); have n1_ := Aside0.mk (below_step (by repeat (first | (with_reducible first | exact HB.out | apply below_alloc | apply pw_below_drewN | apply below_drew1) | exact HB.out)) hb); clear HO_14; clear HB; have HO_14 := n0_; have HB := n1_; clear n0_ n1_; (try clear hb); (try clear hb2); (try clear hk); (try clear hi)))
                          go_ret
                          exact ⟨by first | rfl | (simp [errW_none, errW_some] <;> rfl) | (simp [*, errW_none, errW_some] <;> rfl), by first | (refine HB00.out.trans (Below.mono ?_ HB00.out.size); (repeat (first | (with_reducible first | exact HB.out | apply below_alloc | apply pw_below_drewN | apply below_drew1) | exact HB.out))) | (repeat (first | (with_reducible first | exact HB.out | apply below_alloc | apply pw_below_drewN | apply below_drew1) | exact HB.out))⟩
                    · rw [if_neg c35] at H
                      have c35b0 : decide (0 ≤ a1) = false := decide_eq_false c35
                      clear c35
                      replace H := Option.bind_eq_some_iff.mp H
                      obtain ⟨t453, A450, H⟩ := H
                      replace H : (if t453 = true then ((juratlaw16_awake.f).bind fun t454 => (some t454)) else (some false)) = some r := H
                      have A45 := Aside0.mk A450
                      clear A450
                      by_cases c46 : t453 = true
                      · subst c46
                        have H1 : ((juratlaw16_awake.f).bind fun t454 => (some t454)) = some r := by rw [if_pos rfl] at H; exact H
                        clear H
                        have H := H1
                        clear H1
                        replace H := Option.bind_eq_some_iff.mp H
                        obtain ⟨t454, A470, H⟩ := H
                        replace H : (some t454) = some r := H
                        have A47 := Aside0.mk A470
                        clear A470
                        obtain rfl := Option.some.inj H
                        go_wp2_with (first | (go_at_call 51; (with_reducible refine (juratlaw16_nothing.calls _ t438 a1 a2 true _ ?side1 A45.out).mono ?_); (case side1 => first | exact HO_t438.out | exact OB.drewN HO_t438.out _ | exact OB.below (by repeat (first | (with_reducible first | exact HB.out | apply below_alloc | apply pw_below_drewN | apply below_drew1) | exact HB.out)) HO_t438.out); rintro e w48 ⟨rfl, hb⟩; have n0_ := Aside0.mk (Kd.R_below (by (with_reducible repeat (first | apply Kd.R_alloc | apply Kd.R_drewN | apply Kd.R_drew)); exact HO_14.out) hb); have n1_ := Aside0.mk (below_step (by repeat (first | (with_reducible first | exact HB.out | apply below_alloc | apply pw_below_drewN | apply below_drew1) | exact HB.out)) hb); clear HO_14; clear HB; have HO_14 := n0_; have HB := n1_; clear n0_ n1_; (try clear hb); (try clear hb2); (try clear hk); (try clear hi)) | (go_at_call 36; (with_reducible refine (juratlaw16_awake.calls  t454 _ A47.out).mono ?_); rintro e w49 ⟨rfl, hb⟩; have n0_ := Aside0.mk (Kd.R_below (by (with_reducible repeat (first | apply Kd.R_alloc | apply Kd.R_drewN | apply Kd.R_drew)); exact HO_14.out) hb); have n1_ := Aside0.mk (below_step (by repeat (first | (with_reducible first | exact HB.out | apply below_alloc | apply pw_below_drewN | apply below_drew1) | exact HB.out)) hb); clear HO_14; clear HB; have HO_14 := n0_; have HB := n1_; clear n0_ n1_; (try clear hb); (try clear hb2); (try clear hk); (try clear hi)))
                        go_ret
                        exact ⟨by first | rfl | (simp [errW_none, errW_some] <;> rfl) | (simp [*, errW_none, errW_some] <;> rfl), by first | (refine HB00.out.trans (Below.mono ?_ HB00.out.size); (repeat (first | (with_reducible first | exact HB.out | apply below_alloc | apply pw_below_drewN | apply below_drew1) | exact HB.out))) | (repeat (first | (with_reducible first | exact HB.out | apply below_alloc | apply pw_below_drewN | apply below_drew1) | exact HB.out))⟩
                      · replace c46 := Bool.eq_false_iff.mpr c46
                        subst c46
                        have H1 : (some false) = some r := by rw [if_neg (show ¬ (false = true) by decide)] at H; exact H
                        clear H
                        have H := H1
                        clear H1
                        obtain rfl := Option.some.inj H
                        go_wp2_with (first | (go_at_call 51; (with_reducible refine (juratlaw16_nothing.calls _ t438 a1 a2 false _ ?side1 A45.out).mono ?_); (case side1 => first | exact HO_t438.out | exact OB.drewN HO_t438.out _ | exact OB.below (by repeat (first | (with_reducible first | exact HB.out | apply below_alloc | apply pw_below_drewN | apply below_drew1) | exact HB.out)) HO_t438.out); rintro e w50 ⟨rfl, hb⟩; have n0_ := Aside0.mk (Kd.R_below (by (with_reducible repeat (first | apply Kd.R_alloc | apply Kd.R_drewN | apply Kd.R_drew)); exact HO_14.out) hb); have n1_ := Aside0.mk (below_step (by repeat (first | (with_reducible first | exact HB.out | apply below_alloc | apply pw_below_drewN | apply below_drew1) | exact HB.out)) hb); clear HO_14; clear HB; have HO_14 := n0_; have HB := n1_; clear n0_ n1_; (try clear hb); (try clear hb2); (try clear hk); (try clear hi)))
                        go_ret
                        exact ⟨by first | rfl | (simp [errW_none, errW_some] <;> rfl) | (simp [*, errW_none, errW_some] <;> rfl), by first | (refine HB00.out.trans (Below.mono ?_ HB00.out.size); (repeat (first | (with_reducible first | exact HB.out | apply below_alloc | apply pw_below_drewN | apply below_drew1) | exact HB.out))) | (repeat (first | (with_reducible first | exact HB.out | apply below_alloc | apply pw_below_drewN | apply below_drew1) | exact HB.out))⟩

end Go.Proofs.Ytnpkbnfiadkgnaa.P

/- What layer 9 and its reference compute, as plain functions on lists of bytes; no condition beyond the sizes that stand in each statement. -/
namespace Go.Proofs.Ytnpkbnfiadkgnaa.Base
open Go Go.RowKit Go.Proofs.YtnpkbnfiadkgnaaW.PrintWords Go.Proofs.YtnpkbnfiadkgnaaW.PrintMore Go.Proofs.Ytnpkbnfiadkgnaa.P
set_option linter.unusedVariables false

/-! few texts, of few bytes -/
def fewB (l : List ByteArray) (b : Int) : Bool := l.all fun s => decide ((s.size : Int) ≤ b)
theorem fewB_iff {l : List ByteArray} {b : Int} : fewB l b = true ↔ ∀ s ∈ l, (s.size : Int) ≤ b := by unfold fewB; rw [List.all_eq_true]; simp
theorem few_l0 (l : List ByteArray) (b : Int) (hm : l.length ≤ 9223372036854775807) : ∀ (d i : Nat), i + d = l.length →
    Ev (fun k => juratref09_Few.l0 k l b (i : Int)) (fewB (l.drop i) b) := by
  intro d
  induction d with
  | zero =>
    intro i hi
    refine Ev.ret fun k => ?_
    simp only [juratref09_Few.l0]
    rw [if_neg (by omega), List.drop_of_length_le (by omega)]
    rfl
  | succ d ih =>
    intro i hi
    have hd := getD_drop l i ByteArray.empty (by omega)
    have e : rdOf ByteArray.empty l (i : Int) = l.getD i ByteArray.empty := rfl
    have e2 : fewB (l.drop i) b = (decide (((l.getD i ByteArray.empty).size : Int) ≤ b) && fewB (l.drop (i + 1)) b) := by rw [hd]; rfl
    rw [e2]
    by_cases h : ((l.getD i ByteArray.empty).size : Int) > b
    · refine Ev.ret fun k => ?_
      simp only [juratref09_Few.l0]
      rw [if_pos (by omega), if_pos (by omega), e, if_pos h, decide_eq_false (by omega)]
      rfl
    · rw [decide_eq_true (by omega), Bool.true_and]
      refine Ev.step (f := fun k => juratref09_Few.l0 k l b ((i + 1 : Nat) : Int)) (fun k => ?_) (ih (i + 1) (by omega))
      simp only [juratref09_Few.l0]
      rw [if_pos (by omega), if_pos (by omega), e, if_neg h, wrap_id (by omega) (by omega)]
      rfl
theorem few_ev (l : List ByteArray) (m b : Int) (hm : l.length ≤ 9223372036854775807) : Ev (fun k => juratref09_Few.f k l m b) (decide ((l.length : Int) ≤ m) && fewB l b) := by
  by_cases h : (l.length : Int) > m
  · rw [decide_eq_false (by omega)]
    refine Ev.const fun k => ?_
    unfold juratref09_Few.f
    rw [if_pos h]
    rfl
  · have h' := few_l0 l b hm l.length 0 (by omega)
    rw [List.drop_zero] at h'
    rw [decide_eq_true (by omega), Bool.true_and]
    refine Ev.congr (fun k => ?_) h'
    unfold juratref09_Few.f
    rw [if_neg h]
    rfl

/-! sorted: two lists in order with the same texts are one -/
theorem up_unique : ∀ {l m : List ByteArray}, l.Perm m → upB l → upB m → l = m
  | [], m, h, _, _ => by rw [List.nil_perm.1 h]
  | x :: l, [], h, _, _ => by have := h.length_eq; simp at this
  | x :: l, y :: m, h, hl, hm => by
    obtain ⟨hl1, hl2⟩ := List.pairwise_cons.1 hl
    obtain ⟨hm1, hm2⟩ := List.pairwise_cons.1 hm
    have e : x = y := by
      rcases bl_tri (LL x) (LL y) with h' | h' | h'
      · exact LL_inj h'
      · rcases List.mem_cons.1 (h.mem_iff.1 List.mem_cons_self : x ∈ y :: m) with rfl | hx
        · rfl
        · rw [hm1 x hx] at h'; cases h'
      · rcases List.mem_cons.1 (h.mem_iff.2 List.mem_cons_self : y ∈ x :: l) with rfl | hy
        · rfl
        · rw [hl1 y hy] at h'; cases h'
    subst e
    rw [up_unique (List.Perm.cons_inv h) hl2 hm2]
theorem sortB_up (l : List ByteArray) : upB (sortB l) := by
  have h := List.pairwise_mergeSort (le := fun x y : ByteArray => !Op.bytesLess (LL y) (LL x)) (fun a b c h1 h2 => by
      simp only [Bool.not_eq_true'] at h1 h2 ⊢
      exact bl_ntrans h2 h1) (fun a b => by
      rcases bl_tri (LL a) (LL b) with h | h | h
      · rw [h, bl_irrefl]; rfl
      · rw [bl_asym h]; rfl
      · rw [bl_asym h]; simp) l
  exact h.imp (fun h => by simpa using h)
theorem sortB_perm (l : List ByteArray) : (sortB l).Perm l := List.mergeSort_perm _ _
theorem sortB_of {l m : List ByteArray} (h : m.Perm l) (hu : upB m) : m = sortB l := up_unique (h.trans (sortB_perm l).symm) hu (sortB_up l)
theorem sortB_sized {l : List ByteArray} (h : sizedB l) : sizedB (sortB l) := ⟨by rw [sortB_length]; exact h.1, fun s hs => h.2 s ((sortB_perm l).mem_iff.1 hs)⟩

theorem take_snoc {α : Type} (l : List α) (i : Nat) (z : α) (h : i < l.length) : l.take (i + 1) = l.take i ++ [l.getD i z] := by
  rw [List.take_succ_eq_append_getElem h, List.getD_eq_getElem?_getD, List.getElem?_eq_getElem h]; rfl

end Go.Proofs.Ytnpkbnfiadkgnaa.Base

/- What layer 9's reference computes by sorting and looking for what is there twice, as plain functions on lists of texts; no condition beyond the sizes that stand in each statement. -/
namespace Go.Proofs.Ytnpkbnfiadkgnaa.Base
open Go Go.RowKit Go.Proofs.YtnpkbnfiadkgnaaW.PrintWords Go.Proofs.YtnpkbnfiadkgnaaW.PrintMore Go.Proofs.Ytnpkbnfiadkgnaa.P
set_option linter.unusedVariables false

/-! sorted by insertion -/
theorem rsorted_put (l out : List ByteArray) (i j : Nat) (hi : i < l.length) (hl : l.length ≤ 8796093022200) (ho : out.length = i) (hj : j ≤ out.length) (hup : upB out)
    (hbelow : ∀ t, t < j → Op.bytesLess (LL (l.getD i ByteArray.empty)) (LL (out.getD t ByteArray.empty)) = false) (habove : ∀ t, j ≤ t → t < out.length → Op.bytesLess (LL (l.getD i ByteArray.empty)) (LL (out.getD t ByteArray.empty)) = true) :
    upB (out.take j ++ l.getD i ByteArray.empty :: out.drop j) ∧ (out.take j ++ l.getD i ByteArray.empty :: out.drop j).Perm (l.getD i ByteArray.empty :: out) := by
  refine ⟨?_, ?_⟩
  · have h1 : ∀ x ∈ out.take j, Op.bytesLess (LL (l.getD i ByteArray.empty)) (LL x) = false := fun x hx => by
      obtain ⟨t, ht, rfl⟩ := List.mem_iff_getElem.1 hx
      rw [List.length_take] at ht
      have := hbelow t (by omega)
      rw [List.getD_eq_getElem?_getD (l := out), List.getElem?_eq_getElem (by omega : t < out.length)] at this
      rw [List.getElem_take]
      exact this
    have h2 : ∀ x ∈ out.drop j, Op.bytesLess (LL (l.getD i ByteArray.empty)) (LL x) = true := fun x hx => by
      obtain ⟨t, ht, rfl⟩ := List.mem_iff_getElem.1 hx
      rw [List.length_drop] at ht
      have := habove (j + t) (by omega) (by omega)
      rw [List.getD_eq_getElem?_getD (l := out), List.getElem?_eq_getElem (by omega : j + t < out.length)] at this
      rw [List.getElem_drop]
      exact this
    have hsplit : (out.take j ++ out.drop j).Pairwise (fun x y => Op.bytesLess (LL y) (LL x) = false) := by rw [List.take_append_drop]; exact hup
    obtain ⟨p1, p2, p3⟩ := List.pairwise_append.1 hsplit
    refine List.pairwise_append.2 ⟨p1, List.pairwise_cons.2 ⟨fun y hy => bl_asym (h2 y hy), p2⟩, fun x hx y hy => ?_⟩
    rcases List.mem_cons.1 hy with rfl | hy
    · exact h1 x hx
    · exact p3 x hx y hy
  · refine List.perm_middle.trans ?_
    rw [List.take_append_drop]
theorem rsorted_both (l : List ByteArray) (hl : l.length ≤ 8796093022200) : ∀ (d i : Nat), i + d = l.length → ∀ out : List ByteArray, out.Perm (l.take i) → upB out →
    Ev (fun k => juratref09_Sorted.l0 k l out (i : Int)) (sortB l) := by
  intro d
  induction d with
  | zero =>
    intro i hi out hp hu
    rw [List.take_of_length_le (by omega)] at hp
    refine Ev.ret fun k => ?_
    simp only [juratref09_Sorted.l0]
    rw [if_neg (by omega), sortB_of hp hu]
  | succ d ih =>
    intro i hi out hp hu
    have ho : out.length = i := by rw [hp.length_eq, List.length_take]; omega
    have hx : rdOf ByteArray.empty l (i : Int) = l.getD i ByteArray.empty := rfl
    have fin : ∀ j, j ≤ out.length → (∀ t, t < j → Op.bytesLess (LL (l.getD i ByteArray.empty)) (LL (out.getD t ByteArray.empty)) = false) → (∀ t, j ≤ t → t < out.length → Op.bytesLess (LL (l.getD i ByteArray.empty)) (LL (out.getD t ByteArray.empty)) = true) →
        Ev (fun k => juratref09_Sorted.l0 k l ((([] ++ out.take j) ++ [l.getD i ByteArray.empty]) ++ out.drop j) ((i + 1 : Nat) : Int)) (sortB l) := fun j hj hb ha => by
      obtain ⟨u, p⟩ := rsorted_put l out i j (by omega) hl ho hj hu hb ha
      rw [List.nil_append, List.append_assoc, List.singleton_append]
      refine ih (i + 1) (by omega) _ (p.trans ?_) u
      rw [take_snoc l i ByteArray.empty (by omega)]
      exact (List.Perm.cons _ hp).trans (List.perm_append_singleton _ _).symm
    have inner : ∀ j, j ≤ out.length → (∀ t, j ≤ t → t < out.length → Op.bytesLess (LL (l.getD i ByteArray.empty)) (LL (out.getD t ByteArray.empty)) = true) →
        Ev (fun k => juratref09_Sorted.l1 k l out (i : Int) (j : Int)) (sortB l) := by
      intro j
      induction j with
      | zero =>
        intro hj ha
        refine Ev.step (f := fun k => juratref09_Sorted.l0 k l ((([] ++ out.take 0) ++ [l.getD i ByteArray.empty]) ++ out.drop 0) ((i + 1 : Nat) : Int)) (fun k => ?_) (fin 0 hj (fun t ht => absurd ht (Nat.not_lt_zero _)) ha)
        simp only [juratref09_Sorted.l1, Option.bind_some]
        rw [if_neg (by omega), if_pos (by omega), if_pos (by omega), if_pos (by simp), if_pos (by omega), if_pos (by omega), if_pos (by simp), hx, Int.toNat_natCast, if_pos (by simp; omega), wrap_id (by omega) (by omega)]
        rfl
      | succ j ihj =>
        intro hj ha
        have hy : rdOf ByteArray.empty out (((j + 1 : Nat) : Int) - 1) = out.getD j ByteArray.empty := by unfold rdOf; rw [show (((j + 1 : Nat) : Int) - 1).toNat = j by omega]
        cases hlt : Op.bytesLess (LL (l.getD i ByteArray.empty)) (LL (out.getD j ByteArray.empty)) with
        | true =>
          refine Ev.step (f := fun k => juratref09_Sorted.l1 k l out (i : Int) (j : Int)) (fun k => ?_) (ihj (by omega) (fun t h1 h2 => by
            by_cases he : t = j
            · subst he; exact hlt
            · exact ha t (by omega) h2))
          simp only [juratref09_Sorted.l1, Option.bind_some]
          rw [wrap_id (x := ((j + 1 : Nat) : Int) - 1) (by omega) (by omega), if_pos (by omega), if_pos (by omega), if_pos (by omega), if_pos (by omega), if_pos (by omega), hx, hy, if_pos (by rw [ByteArray.toList_eq, ByteArray.toList_eq]; exact hlt), show ((j + 1 : Nat) : Int) - 1 = (j : Int) by omega]
        | false =>
          refine Ev.step (f := fun k => juratref09_Sorted.l0 k l ((([] ++ out.take (j + 1)) ++ [l.getD i ByteArray.empty]) ++ out.drop (j + 1)) ((i + 1 : Nat) : Int)) (fun k => ?_) (fin (j + 1) hj (fun t ht => by
            by_cases he : t = j
            · subst he; exact hlt
            · have hp := List.pairwise_iff_getElem.1 hu t j (by omega) (by omega) (by omega)
              rw [List.getD_eq_getElem?_getD (l := out), List.getElem?_eq_getElem (by omega : j < out.length)] at hlt
              rw [List.getD_eq_getElem?_getD (l := out), List.getElem?_eq_getElem (by omega : t < out.length)]
              exact bl_ntrans hlt hp) ha)
          simp only [juratref09_Sorted.l1, Option.bind_some]
          rw [wrap_id (x := ((j + 1 : Nat) : Int) - 1) (by omega) (by omega), if_pos (by omega), if_pos (by omega), if_pos (by omega), if_pos (by omega), if_pos (by omega), hx, hy, if_neg (by rw [ByteArray.toList_eq, ByteArray.toList_eq, hlt]; simp), if_pos (by omega), if_pos (by omega), Int.toNat_natCast,
            if_pos (by simp; omega), if_pos (by simp; omega), if_pos (by simp; omega), wrap_id (by omega) (by omega)]
          rfl
    refine Ev.step (f := fun k => juratref09_Sorted.l1 k l out (i : Int) (out.length : Int)) (fun k => ?_) (inner out.length (Nat.le_refl _) (fun t h1 h2 => by omega))
    simp only [juratref09_Sorted.l0]
    rw [if_pos (by omega)]
theorem rsorted_ev (l : List ByteArray) (hl : l.length ≤ 8796093022200) : Ev (fun k => juratref09_Sorted.f k l) (sortB l) :=
  rsorted_both l hl l.length 0 (by omega) [] (by rw [List.take_zero]) List.Pairwise.nil

/-! there already -/
theorem inB_take (s : ByteArray) (l : List ByteArray) (i : Nat) : inB s (l.take i) = true ↔ ∃ t, t < i ∧ t < l.length ∧ l.getD t ByteArray.empty = s := by
  rw [inB_iff, List.mem_iff_getElem]
  constructor
  · rintro ⟨t, ht, rfl⟩
    rw [List.length_take] at ht
    refine ⟨t, by omega, by omega, ?_⟩
    rw [List.getD_eq_getElem?_getD, List.getElem?_eq_getElem (by omega : t < l.length), List.getElem_take]; rfl
  · rintro ⟨t, h1, h2, rfl⟩
    refine ⟨t, by rw [List.length_take]; omega, ?_⟩
    rw [List.getD_eq_getElem?_getD, List.getElem?_eq_getElem (by omega : t < l.length), List.getElem_take]; rfl
theorem rtwice_both (l : List ByteArray) (hl : l.length ≤ 9223372036854775806) : ∀ (d i : Nat), i + d = l.length →
    Ev (fun k => juratref09_Twice.l0 k l (i : Int)) (twB (l.take i) (l.drop i) i) := by
  intro d
  induction d with
  | zero =>
    intro i hi
    refine Ev.ret fun k => ?_
    simp only [juratref09_Twice.l0]
    rw [if_neg (by omega), List.drop_of_length_le (by omega)]
    rfl
  | succ d ih =>
    intro i hi
    have ih' := ih (i + 1) (by omega)
    rw [take_snoc l i ByteArray.empty (by omega)] at ih'
    rw [getD_drop l i ByteArray.empty (by omega)]
    have inner : ∀ e j, j + e = i → (∀ t, t < j → ¬ l.getD t ByteArray.empty = l.getD i ByteArray.empty) →
        Ev (fun k => juratref09_Twice.l1 k l (i : Int) (j : Int)) (twB (l.take i) (l.getD i ByteArray.empty :: l.drop (i + 1)) i) := by
      intro e
      induction e with
      | zero =>
        intro j hj hn
        have hin : ¬ inB (l.getD i ByteArray.empty) (l.take i) = true := fun h => by
          obtain ⟨t, h1, h2, h3⟩ := (inB_take _ _ _).1 h
          exact hn t (by omega) h3
        simp only [twB]
        rw [if_neg hin]
        refine Ev.step (f := fun k => juratref09_Twice.l0 k l ((i + 1 : Nat) : Int)) (fun k => ?_) ih'
        simp only [juratref09_Twice.l1]
        rw [if_neg (by omega), wrap_id (by omega) (by omega)]
        rfl
      | succ e ihe =>
        intro j hj hn
        have e1 : rdOf ByteArray.empty l (i : Int) = l.getD i ByteArray.empty := rfl
        have e2 : rdOf ByteArray.empty l (j : Int) = l.getD j ByteArray.empty := rfl
        by_cases h : l.getD j ByteArray.empty = l.getD i ByteArray.empty
        · have hin : inB (l.getD i ByteArray.empty) (l.take i) = true := (inB_take _ _ _).2 ⟨j, by omega, by omega, h⟩
          simp only [twB]
          rw [if_pos hin]
          refine Ev.ret fun k => ?_
          simp only [juratref09_Twice.l1]
          rw [if_pos (by omega), if_pos (by omega), if_pos (by omega), if_pos (by omega), if_pos (by omega), e1, e2, if_pos (toList_iff.2 h)]
        · refine Ev.step (f := fun k => juratref09_Twice.l1 k l (i : Int) ((j + 1 : Nat) : Int)) (fun k => ?_) (ihe (j + 1) (by omega) (fun t ht => by
            by_cases he : t = j
            · subst he; exact h
            · exact hn t (by omega)))
          simp only [juratref09_Twice.l1]
          rw [if_pos (by omega), if_pos (by omega), if_pos (by omega), if_pos (by omega), if_pos (by omega), e1, e2, if_neg (fun x => h (toList_iff.1 x)), wrap_id (by omega) (by omega)]
          rfl
    refine Ev.step (f := fun k => juratref09_Twice.l1 k l (i : Int) ((0 : Nat) : Int)) (fun k => ?_) (inner i 0 (by omega) (fun t ht => absurd ht (Nat.not_lt_zero _)))
    simp only [juratref09_Twice.l0]
    rw [if_pos (by omega)]
    rfl
theorem rtwice_ev (l : List ByteArray) (hl : l.length ≤ 9223372036854775806) : Ev (fun k => juratref09_Twice.f k l) (twB [] l 0) := by
  have h := rtwice_both l hl l.length 0 (by omega)
  rw [List.take_zero, List.drop_zero] at h
  exact h

end Go.Proofs.Ytnpkbnfiadkgnaa.Base

/- Proved here: what Go functions of this seat compute, or a law of it; no condition beyond the statement's own. Written for this claim by a program of this session (wip/myprint.py) over the kit's print.py. -/
namespace Go.Proofs.Ytnpkbnfiadkgnaa.P
open Go.RowKit Go.Proofs.YtnpkbnfiadkgnaaW.PrintWords Go.Proofs.YtnpkbnfiadkgnaaW.PrintLast Go.Proofs.YtnpkbnfiadkgnaaW.PrintMore
attribute [local go_sem] max2_int min2_int max_two min_two max_three min_three max_four min_four   -- for this text's walks alone
set_option linter.unusedVariables false
set_option linter.unusedSimpArgs false

/-! ### juratref10_Least: function 60 -/
def juratref10_Least.l0 : Nat → List ByteArray → Int → Int → Option (Int)
  | 0, _, _, _ => none
  | k + 1, x0, x3, x4 => if x4 < (x0.length : Int) then (if x4 = 0 then (if 0 ≤ x4 then (juratref10_Least.l0 k x0 ((rdOf ByteArray.empty x0 x4).size : Int) (wrap64 (x4 + 1))) else (none)) else (if 0 ≤ x4 then (if ((rdOf ByteArray.empty x0 x4).size : Int) < x3 then (juratref10_Least.l0 k x0 ((rdOf ByteArray.empty x0 x4).size : Int) (wrap64 (x4 + 1))) else (juratref10_Least.l0 k x0 x3 (wrap64 (x4 + 1)))) else (none))) else (some x3)
def juratref10_Least.f (k : Nat) (l0 : List ByteArray) : Option (Int) := juratref10_Least.l0 k l0 0 0
theorem juratref10_Least.mono_l : ∀ k, (∀ y0 y1 y2, LeO (juratref10_Least.l0 k y0 y1 y2) (juratref10_Least.l0 (k + 1) y0 y1 y2))
  | 0 => fun _ _ _ r h => by simp [juratref10_Least.l0] at h
  | k + 1 => by
    have ih0 := juratref10_Least.mono_l k
    · intro y0 y1 y2
      unfold juratref10_Least.l0
      repeat' first
      | (with_reducible exact ih0 _ _ _)
      | (with_reducible exact LeO.refl _)
      | (with_reducible exact LeO.none _)
      | (with_reducible refine LeO.ite ?_ ?_)
      | (with_reducible refine LeO.bind ?_ (fun _ => ?_))
      | exact ih0 _ _ _
      | exact LeO.none _
      | refine LeO.ite ?_ ?_
      | refine LeO.bind ?_ (fun _ => ?_)
theorem juratref10_Least.mono : ∀ a0 k, LeO (juratref10_Least.f k a0) (juratref10_Least.f (k + 1) a0) := by
  intro a0 k
  have ih0 := juratref10_Least.mono_l k
  unfold juratref10_Least.f
  repeat' first
      | (with_reducible exact ih0 _ _ _)
      | (with_reducible exact LeO.refl _)
      | (with_reducible exact LeO.none _)
      | (with_reducible refine LeO.ite ?_ ?_)
      | (with_reducible refine LeO.bind ?_ (fun _ => ?_))
      | exact ih0 _ _ _
      | exact LeO.none _
      | refine LeO.ite ?_ ?_
      | refine LeO.bind ?_ (fun _ => ?_)
set_option maxHeartbeats 8000000 in
set_option maxRecDepth 100000 in
theorem juratref10_Least.calls (k : Nat) (A0 : Option Addr) (c0 : Nat) (l0 : List ByteArray) (r : Int) (w : World) (hr0 : Kd.C Kd.string w A0 l0.length l0) (hc0 : l0.length ≤ c0) (h : juratref10_Least.f k l0 = some r) :
    Calls Try.prog 60 #[.slice A0 l0.length c0] w fun e w' => e = .returned (.int .i64 r) ∧ Drawn0 w w' := by
  have HR0 := Aside0.mk hr0
  have HC0 := Aside0.mk hc0
  clear hr0 hc0
  have H : (juratref10_Least.l0 k l0 0 0) = some r := h
  clear h
  have H' := Aside0.mk H
  clear H
  go_enter Try.func60, Try.ntmps60
  go_wp2
  go_loopg [3, 4] k (fun kq v3 v4 w' => ∃ (x3_1 : Int) (x4_1 : Int), v3 = .int .i64 x3_1 ∧ v4 = .int .i64 x4_1 ∧ Aside0 (juratref10_Least.l0 kq l0 x3_1 x4_1 = some r) ∧ Aside0 (kq ≤ k) ∧ Drawn0 w w')
  case atStart => exact ⟨(0), (0), (by first | rfl | exact isE_ _ | exact isE2_ _ | (simp; done) | (simp [*]; done)), (by first | rfl | exact isE_ _ | exact isE2_ _ | (simp; done) | (simp [*]; done)), H', ⟨Nat.le_refl _⟩, by repeat (first | exact Drawn0.refl _ | apply Drawn0.step)⟩
  case round =>
    clear H'
    obtain ⟨x3_1, x4_1, rfl, rfl, HA, HK1, ⟨m1, rfl⟩⟩ := hrel
    cases gk with
    | zero => exact absurd HA.out (by simp [juratref10_Least.l0])
    | succ k1 =>
      have H := HA.out
      clear HA
      simp only [juratref10_Least.l0] at H
      by_cases c2 : x4_1 < (l0.length : Int)
      · rw [if_pos c2] at H
        have c2b0 : decide (x4_1 < (l0.length : Int)) = true := decide_eq_true c2
        clear c2
        by_cases c3 : x4_1 = 0
        · rw [if_pos c3] at H
          have c3b0 : (x4_1 == 0) = true := beq_iff_eq.mpr c3
          have c3b1 : (x4_1 != 0) = false := bne_eq_false_iff_eq.mpr c3
          clear c3
          by_cases c4 : 0 ≤ x4_1
          · rw [if_pos c4] at H
            have c4b0 : decide (0 ≤ x4_1) = true := decide_eq_true c4
            clear c4
            have H' := Aside0.mk H
            clear H
            have p242 : 0 ≤ (x4_1 : Int) := of_decide_eq_true (by first | (with_reducible assumption) | assumption)
            have q242 : x4_1 < (l0.length : Int) := of_decide_eq_true (by first | (with_reducible assumption) | assumption)
            obtain ⟨ad242, e242, hx242_0⟩ := Kd.at_string HR0.out x4_1 p242 q242
            cases e242
            replace p242 := eq_true p242
            replace q242 := eq_true q242
            go_wp2
            go_roundg k1
            case measure => have := HK1.out; omega
            case rel => exact ⟨(((rdOf ByteArray.empty l0 x4_1).size : Int)), (wrap64 (x4_1 + 1)), (by first | rfl | exact isE_ _ | exact isE2_ _ | (simp; done) | (simp [*]; done)), (by first | rfl | exact isE_ _ | exact isE2_ _ | (simp; done) | (simp [*]; done)), H', ⟨by have := HK1.out; omega⟩, by repeat (first | exact Drawn0.refl _ | apply Drawn0.step)⟩
          · rw [if_neg c4] at H
            exact absurd H (by simp)
        · rw [if_neg c3] at H
          have c3b0 : (x4_1 == 0) = false := beq_eq_false_iff_ne.mpr c3
          have c3b1 : (x4_1 != 0) = true := bne_iff_ne.mpr c3
          by_cases c5 : 0 ≤ x4_1
          · rw [if_pos c5] at H
            have c5b0 : decide (0 ≤ x4_1) = true := decide_eq_true c5
            clear c5
            by_cases c6 : ((rdOf ByteArray.empty l0 x4_1).size : Int) < x3_1
            · rw [if_pos c6] at H
              have c6b0 : decide (((rdOf ByteArray.empty l0 x4_1).size : Int) < x3_1) = true := decide_eq_true c6
              clear c6
              have H' := Aside0.mk H
              clear H
              have p243 : 0 ≤ (x4_1 : Int) := of_decide_eq_true (by first | (with_reducible assumption) | assumption)
              have q243 : x4_1 < (l0.length : Int) := of_decide_eq_true (by first | (with_reducible assumption) | assumption)
              obtain ⟨ad243, e243, hx243_0⟩ := Kd.at_string HR0.out x4_1 p243 q243
              cases e243
              replace p243 := eq_true p243
              replace q243 := eq_true q243
              have p244 : 0 ≤ (x4_1 : Int) := of_decide_eq_true (by first | (with_reducible assumption) | assumption)
              have q244 : x4_1 < (l0.length : Int) := of_decide_eq_true (by first | (with_reducible assumption) | assumption)
              obtain ⟨ad244, e244, hx244_0⟩ := Kd.at_string HR0.out x4_1 p244 q244
              obtain rfl : ad243 = ad244 := (by injection e244)
              replace p244 := eq_true p244
              replace q244 := eq_true q244
              go_wp2
              go_roundg k1
              case measure => have := HK1.out; omega
              case rel => exact ⟨(((rdOf ByteArray.empty l0 x4_1).size : Int)), (wrap64 (x4_1 + 1)), (by first | rfl | exact isE_ _ | exact isE2_ _ | (simp; done) | (simp [*]; done)), (by first | rfl | exact isE_ _ | exact isE2_ _ | (simp; done) | (simp [*]; done)), H', ⟨by have := HK1.out; omega⟩, by repeat (first | exact Drawn0.refl _ | apply Drawn0.step)⟩
            · rw [if_neg c6] at H
              have c6b0 : decide (((rdOf ByteArray.empty l0 x4_1).size : Int) < x3_1) = false := decide_eq_false c6
              clear c6
              have H' := Aside0.mk H
              clear H
              have p243 : 0 ≤ (x4_1 : Int) := of_decide_eq_true (by first | (with_reducible assumption) | assumption)
              have q243 : x4_1 < (l0.length : Int) := of_decide_eq_true (by first | (with_reducible assumption) | assumption)
              obtain ⟨ad243, e243, hx243_0⟩ := Kd.at_string HR0.out x4_1 p243 q243
              cases e243
              replace p243 := eq_true p243
              replace q243 := eq_true q243
              go_wp2
              go_roundg k1
              case measure => have := HK1.out; omega
              case rel => exact ⟨(x3_1), (wrap64 (x4_1 + 1)), (by first | rfl | exact isE_ _ | exact isE2_ _ | (simp; done) | (simp [*]; done)), (by first | rfl | exact isE_ _ | exact isE2_ _ | (simp; done) | (simp [*]; done)), H', ⟨by have := HK1.out; omega⟩, by repeat (first | exact Drawn0.refl _ | apply Drawn0.step)⟩
          · rw [if_neg c5] at H
            exact absurd H (by simp)
      · rw [if_neg c2] at H
        have c2b0 : decide (x4_1 < (l0.length : Int)) = false := decide_eq_false c2
        clear c2
        obtain rfl := Option.some.inj H
        go_wp2
        go_ret
        exact ⟨by first | rfl | (simp; done) | (simp [*]; done), by repeat (first | exact Drawn0.refl _ | apply Drawn0.step)⟩

end Go.Proofs.Ytnpkbnfiadkgnaa.P

/- What layer 10's reference makes of texts, as plain functions; no condition beyond the sizes that stand in each statement. -/
namespace Go.Proofs.Ytnpkbnfiadkgnaa.Base
open Go Go.RowKit Go.Proofs.YtnpkbnfiadkgnaaW.PrintWords Go.Proofs.YtnpkbnfiadkgnaaW.PrintMore Go.Proofs.Ytnpkbnfiadkgnaa.P
set_option linter.unusedVariables false

/-- The patterns in order, or the error. -/
def newB (l : List ByteArray) : List ByteArray × Int :=
  if l.length = 0 then ([], 14) else if l.length > 65535 then ([], 6) else if badB l ≠ 0 then ([], badB l) else if totalB 0 l > 16777216 then ([], 13) else if twB [] l 0 ≥ 0 then ([], 8) else (sortB l, 0)
theorem rnew_l0 (l : List ByteArray) (hl : l.length ≤ 65535) : ∀ (d i n : Nat), i + d = l.length → n ≤ i * 65535 →
    Ev (fun k => juratref10_New.l0 k l (n : Int) (i : Int)) (if badB (l.drop i) ≠ 0 then ([], badB (l.drop i)) else if totalB n (l.drop i) > 16777216 then ([], 13) else if twB [] l 0 ≥ 0 then ([], 8) else (sortB l, 0)) := by
  intro d
  induction d with
  | zero =>
    intro i n hi hn
    rw [List.drop_of_length_le (by omega), if_neg (by simp [badB])]
    have hn' : totalB n [] = n := rfl
    rw [hn']
    by_cases h1 : n > 16777216
    · rw [if_pos h1]
      refine Ev.ret fun k => ?_
      simp only [juratref10_New.l0]
      rw [if_neg (by omega), if_pos (by omega)]
    · rw [if_neg h1]
      refine Ev.step (f := fun k => (juratref09_Twice.f k l).bind fun t => if t ≥ 0 then some ([], 8) else (juratref09_Sorted.f k l).bind fun s => some (s, 0)) (fun k => ?_) ?_
      · simp only [juratref10_New.l0]
        rw [if_neg (by omega), if_neg (by omega)]
      refine Ev.bind (rtwice_ev l (by omega)) ?_
      by_cases h2 : twB [] l 0 ≥ 0
      · rw [if_pos h2]
        exact Ev.congr (fun k => if_pos h2) (Ev.now _)
      · rw [if_neg h2]
        exact Ev.congr (fun k => if_neg h2) (Ev.bind (rsorted_ev l (by omega)) (Ev.now _))
  | succ d ih =>
    intro i n hi hn
    have hd := getD_drop l i ByteArray.empty (by omega)
    have e : rdOf ByteArray.empty l (i : Int) = l.getD i ByteArray.empty := rfl
    rw [hd]
    generalize l.getD i ByteArray.empty = s at e
    by_cases h0 : s.size = 0
    · have hc : chkB s = 7 := by unfold chkB; rw [if_pos h0]
      have hb : badB (s :: l.drop (i + 1)) = chkB s := by show (if chkB s = 0 then _ else chkB s) = chkB s; rw [if_neg (by omega)]
      rw [hb, hc, if_pos (by omega)]
      refine Ev.ret fun k => ?_
      simp only [juratref10_New.l0]
      rw [if_pos (by omega), if_pos (by omega), e, if_pos (toList_nil.2 h0)]
    by_cases h1 : s.size > 65535
    · have hc : chkB s = 5 := by unfold chkB; rw [if_neg h0, if_pos h1]
      have hb : badB (s :: l.drop (i + 1)) = chkB s := by show (if chkB s = 0 then _ else chkB s) = chkB s; rw [if_neg (by omega)]
      rw [hb, hc, if_pos (by omega)]
      refine Ev.ret fun k => ?_
      simp only [juratref10_New.l0]
      rw [if_pos (by omega), if_pos (by omega), e, if_neg (fun x => h0 (toList_nil.1 x)), if_pos (by omega)]
    have hc : chkB s = 0 := by unfold chkB; rw [if_neg h0, if_neg h1]
    have hb : badB (s :: l.drop (i + 1)) = badB (l.drop (i + 1)) := if_pos hc
    rw [hb]
    have ht : totalB n (s :: l.drop (i + 1)) = totalB (n + s.size) (l.drop (i + 1)) := rfl
    rw [ht]
    refine Ev.step (f := fun k => juratref10_New.l0 k l ((n + s.size : Nat) : Int) ((i + 1 : Nat) : Int)) (fun k => ?_) (ih (i + 1) (n + s.size) (by omega) (by omega))
    simp only [juratref10_New.l0]
    rw [if_pos (by omega), if_pos (by omega), e, if_neg (fun x => h0 (toList_nil.1 x)), if_neg (by omega), wrap_id (by omega) (by omega), wrap_id (by omega) (by omega)]
    rfl
theorem rnew_ev (l : List ByteArray) : Ev (fun k => juratref10_New.f k l) (newB l) := by
  unfold newB
  by_cases h0 : l.length = 0
  · rw [if_pos h0]
    refine Ev.const fun k => ?_
    unfold juratref10_New.f
    rw [if_pos (by omega)]
  rw [if_neg h0]
  by_cases h1 : l.length > 65535
  · rw [if_pos h1]
    refine Ev.const fun k => ?_
    unfold juratref10_New.f
    rw [if_neg (by omega), if_pos (by omega)]
  rw [if_neg h1]
  have h := rnew_l0 l (by omega) l.length 0 0 (by omega) (by omega)
  rw [List.drop_zero] at h
  refine Ev.congr (fun k => ?_) h
  unfold juratref10_New.f
  rw [if_neg (by omega), if_neg (by omega)]
  rfl

/-- What the document tells of a list. -/
def minB (l : List ByteArray) : Nat := leastB (l.getD 0 ByteArray.empty).size l
theorem rleast_l0 (l : List ByteArray) (hl : l.length ≤ 9223372036854775806) : ∀ (d i n : Nat), i + d = l.length → 0 < i →
    Ev (fun k => juratref10_Least.l0 k l (n : Int) (i : Int)) (leastB n (l.drop i) : Int) := by
  intro d
  induction d with
  | zero =>
    intro i n hi h0
    rw [List.drop_of_length_le (by omega)]
    refine Ev.ret fun k => ?_
    simp only [juratref10_Least.l0]
    rw [if_neg (by omega)]
    rfl
  | succ d ih =>
    intro i n hi h0
    have hd := getD_drop l i ByteArray.empty (by omega)
    have e : rdOf ByteArray.empty l (i : Int) = l.getD i ByteArray.empty := rfl
    rw [hd]
    have ht : leastB n (l.getD i ByteArray.empty :: l.drop (i + 1)) = leastB (min n (l.getD i ByteArray.empty).size) (l.drop (i + 1)) := rfl
    rw [ht]
    refine Ev.step (f := fun k => juratref10_Least.l0 k l ((min n (l.getD i ByteArray.empty).size : Nat) : Int) ((i + 1 : Nat) : Int)) (fun k => ?_) (ih (i + 1) _ (by omega) (by omega))
    simp only [juratref10_Least.l0]
    rw [if_pos (by omega), if_neg (by omega), if_pos (by omega), e]
    by_cases h : (l.getD i ByteArray.empty).size < n
    · rw [if_pos (by omega), wrap_id (by omega) (by omega), Nat.min_eq_right (by omega)]; rfl
    · rw [if_neg (by omega), wrap_id (by omega) (by omega), Nat.min_eq_left (by omega)]; rfl
theorem rleast_ev (l : List ByteArray) (hl : l.length ≤ 9223372036854775806) : Ev (fun k => juratref10_Least.f k l) (minB l : Int) := by
  cases l with
  | nil => exact Ev.ret fun k => by simp [juratref10_Least.f, juratref10_Least.l0, minB, leastB, List.getD]
  | cons s l =>
    have h := rleast_l0 (s :: l) hl l.length 1 s.size (by rw [List.length_cons]; omega) (by omega)
    have e : minB (s :: l) = leastB s.size ((s :: l).drop 1) := by
      show leastB (min s.size s.size) l = leastB s.size l
      rw [Nat.min_self]
    rw [e]
    refine Ev.step (f := fun k => juratref10_Least.l0 k (s :: l) (s.size : Int) ((1 : Nat) : Int)) (fun k => ?_) h
    unfold juratref10_Least.f
    simp only [juratref10_Least.l0]
    rw [if_pos (by rw [List.length_cons]; omega), if_pos trivial, if_pos (by omega), wrap_id (by omega) (by omega)]
    rfl

end Go.Proofs.Ytnpkbnfiadkgnaa.Base

/- Proved here: what Go functions of this seat compute, or a law of it; no condition beyond the statement's own. Written for this claim by a program of this session (wip/myprint.py) over the kit's print.py. -/
namespace Go.Proofs.Ytnpkbnfiadkgnaa.P
open Go.RowKit Go.Proofs.YtnpkbnfiadkgnaaW.PrintWords Go.Proofs.YtnpkbnfiadkgnaaW.PrintLast Go.Proofs.YtnpkbnfiadkgnaaW.PrintMore
attribute [local go_sem] max2_int min2_int max_two min_two max_three min_three max_four min_four   -- for this text's walks alone
set_option linter.unusedVariables false
set_option linter.unusedSimpArgs false

/-! ### juratref10_Find: function 47 -/
def juratref10_Find.l0 : Nat → List ByteArray → ByteArray → Int → Option (Int)
  | 0, _, _, _ => none
  | k + 1, x0, x1, x5 => if x5 < (x0.length : Int) then (if 0 ≤ x5 then (if (rdOf ByteArray.empty x0 x5).toList = x1.toList then (some x5) else (juratref10_Find.l0 k x0 x1 (wrap64 (x5 + 1)))) else (none)) else (some (-1))
def juratref10_Find.f (k : Nat) (l0 : List ByteArray) (a1 : ByteArray) : Option (Int) := juratref10_Find.l0 k l0 a1 0
theorem juratref10_Find.mono_l : ∀ k, (∀ y0 y1 y2, LeO (juratref10_Find.l0 k y0 y1 y2) (juratref10_Find.l0 (k + 1) y0 y1 y2))
  | 0 => fun _ _ _ r h => by simp [juratref10_Find.l0] at h
  | k + 1 => by
    have ih0 := juratref10_Find.mono_l k
    · intro y0 y1 y2
      unfold juratref10_Find.l0
      repeat' first
      | (with_reducible exact ih0 _ _ _)
      | (with_reducible exact LeO.refl _)
      | (with_reducible exact LeO.none _)
      | (with_reducible refine LeO.ite ?_ ?_)
      | (with_reducible refine LeO.bind ?_ (fun _ => ?_))
      | exact ih0 _ _ _
      | exact LeO.none _
      | refine LeO.ite ?_ ?_
      | refine LeO.bind ?_ (fun _ => ?_)
theorem juratref10_Find.mono : ∀ a0 a1 k, LeO (juratref10_Find.f k a0 a1) (juratref10_Find.f (k + 1) a0 a1) := by
  intro a0 a1 k
  have ih0 := juratref10_Find.mono_l k
  unfold juratref10_Find.f
  repeat' first
      | (with_reducible exact ih0 _ _ _)
      | (with_reducible exact LeO.refl _)
      | (with_reducible exact LeO.none _)
      | (with_reducible refine LeO.ite ?_ ?_)
      | (with_reducible refine LeO.bind ?_ (fun _ => ?_))
      | exact ih0 _ _ _
      | exact LeO.none _
      | refine LeO.ite ?_ ?_
      | refine LeO.bind ?_ (fun _ => ?_)
set_option maxHeartbeats 8000000 in
set_option maxRecDepth 100000 in
theorem juratref10_Find.calls (k : Nat) (A0 : Option Addr) (c0 : Nat) (l0 : List ByteArray) (a1 : ByteArray) (r : Int) (w : World) (hr0 : Kd.C Kd.string w A0 l0.length l0) (hc0 : l0.length ≤ c0) (h : juratref10_Find.f k l0 a1 = some r) :
    Calls Try.prog 47 #[.slice A0 l0.length c0, .string a1] w fun e w' => e = .returned (.int .i64 r) ∧ Drawn0 w w' := by
  have HR0 := Aside0.mk hr0
  have HC0 := Aside0.mk hc0
  clear hr0 hc0
  have H : (juratref10_Find.l0 k l0 a1 0) = some r := h
  clear h
  have H' := Aside0.mk H
  clear H
  go_enter Try.func47, Try.ntmps47
  go_wp2
  go_loopg [5] k (fun kq v5 w' => ∃ (x5_1 : Int), v5 = .int .i64 x5_1 ∧ Aside0 (juratref10_Find.l0 kq l0 a1 x5_1 = some r) ∧ Aside0 (kq ≤ k) ∧ Drawn0 w w')
  case atStart => exact ⟨(0), (by first | rfl | exact isE_ _ | exact isE2_ _ | (simp; done) | (simp [*]; done)), H', ⟨Nat.le_refl _⟩, by repeat (first | exact Drawn0.refl _ | apply Drawn0.step)⟩
  case round =>
    clear H'
    try clear p2
    obtain ⟨x5_1, rfl, HA, HK1, ⟨m1, rfl⟩⟩ := hrel
    cases gk with
    | zero => exact absurd HA.out (by simp [juratref10_Find.l0])
    | succ k1 =>
      have H := HA.out
      clear HA
      simp only [juratref10_Find.l0] at H
      by_cases c3 : x5_1 < (l0.length : Int)
      · rw [if_pos c3] at H
        have c3b0 : decide (x5_1 < (l0.length : Int)) = true := decide_eq_true c3
        clear c3
        by_cases c4 : 0 ≤ x5_1
        · rw [if_pos c4] at H
          have c4b0 : decide (0 ≤ x5_1) = true := decide_eq_true c4
          clear c4
          by_cases c5 : (rdOf ByteArray.empty l0 x5_1).toList = a1.toList
          · rw [if_pos c5] at H
            have c5b0 : ((rdOf ByteArray.empty l0 x5_1).toList == a1.toList) = true := beq_iff_eq.mpr c5
            have c5b1 : ((rdOf ByteArray.empty l0 x5_1).toList != a1.toList) = false := bne_eq_false_iff_eq.mpr c5
            clear c5
            obtain rfl := Option.some.inj H
            have p364 : 0 ≤ (x5_1 : Int) := of_decide_eq_true (by first | (with_reducible assumption) | assumption)
            have q364 : x5_1 < (l0.length : Int) := of_decide_eq_true (by first | (with_reducible assumption) | assumption)
            obtain ⟨ad364, e364, hx364_0⟩ := Kd.at_string HR0.out x5_1 p364 q364
            cases e364
            replace p364 := eq_true p364
            replace q364 := eq_true q364
            go_wp2
            go_ret
            exact ⟨by first | rfl | (simp; done) | (simp [*]; done), by repeat (first | exact Drawn0.refl _ | apply Drawn0.step)⟩
          · rw [if_neg c5] at H
            have c5b0 : ((rdOf ByteArray.empty l0 x5_1).toList == a1.toList) = false := beq_eq_false_iff_ne.mpr c5
            have c5b1 : ((rdOf ByteArray.empty l0 x5_1).toList != a1.toList) = true := bne_iff_ne.mpr c5
            have H' := Aside0.mk H
            clear H
            have p364 : 0 ≤ (x5_1 : Int) := of_decide_eq_true (by first | (with_reducible assumption) | assumption)
            have q364 : x5_1 < (l0.length : Int) := of_decide_eq_true (by first | (with_reducible assumption) | assumption)
            obtain ⟨ad364, e364, hx364_0⟩ := Kd.at_string HR0.out x5_1 p364 q364
            cases e364
            replace p364 := eq_true p364
            replace q364 := eq_true q364
            go_wp2
            go_roundg k1
            case measure => have := HK1.out; omega
            case rel => exact ⟨(wrap64 (x5_1 + 1)), (by first | rfl | exact isE_ _ | exact isE2_ _ | (simp; done) | (simp [*]; done)), H', ⟨by have := HK1.out; omega⟩, by repeat (first | exact Drawn0.refl _ | apply Drawn0.step)⟩
        · rw [if_neg c4] at H
          exact absurd H (by simp)
      · rw [if_neg c3] at H
        have c3b0 : decide (x5_1 < (l0.length : Int)) = false := decide_eq_false c3
        clear c3
        obtain rfl := Option.some.inj H
        go_wp2
        go_ret
        exact ⟨by first | rfl | (simp; done) | (simp [*]; done), by repeat (first | exact Drawn0.refl _ | apply Drawn0.step)⟩

end Go.Proofs.Ytnpkbnfiadkgnaa.P

/- What layer 10's reference computes, as plain functions on lists of texts, and that layer 10's set is it; no condition beyond the sizes that stand in each statement. -/
namespace Go.Proofs.Ytnpkbnfiadkgnaa.Base
open Go Go.RowKit Go.Proofs.YtnpkbnfiadkgnaaW.PrintWords Go.Proofs.YtnpkbnfiadkgnaaW.PrintMore Go.Proofs.Ytnpkbnfiadkgnaa.P
set_option linter.unusedVariables false

/-- Where a text stands first; -1: nowhere. -/
def findB (s : ByteArray) : List ByteArray → Nat → Int
  | [], _ => -1
  | x :: l, i => if x = s then (i : Int) else findB s l (i + 1)
theorem rfind_l0 (l : List ByteArray) (s : ByteArray) (hl : l.length ≤ 9223372036854775806) : ∀ (d i : Nat), i + d = l.length →
    Ev (fun k => juratref10_Find.l0 k l s (i : Int)) (findB s (l.drop i) i) := by
  intro d
  induction d with
  | zero =>
    intro i hi
    rw [List.drop_of_length_le (by omega)]
    refine Ev.ret fun k => ?_
    simp only [juratref10_Find.l0]
    rw [if_neg (by omega)]
    rfl
  | succ d ih =>
    intro i hi
    have hd := getD_drop l i ByteArray.empty (by omega)
    have e : rdOf ByteArray.empty l (i : Int) = l.getD i ByteArray.empty := rfl
    rw [hd]
    by_cases h : l.getD i ByteArray.empty = s
    · have hf : findB s (l.getD i ByteArray.empty :: l.drop (i + 1)) i = (i : Int) := if_pos h
      rw [hf]
      refine Ev.ret fun k => ?_
      simp only [juratref10_Find.l0]
      rw [if_pos (by omega), if_pos (by omega), e, if_pos (toList_iff.2 h)]
    · have hf : findB s (l.getD i ByteArray.empty :: l.drop (i + 1)) i = findB s (l.drop (i + 1)) (i + 1) := if_neg h
      rw [hf]
      refine Ev.step (f := fun k => juratref10_Find.l0 k l s ((i + 1 : Nat) : Int)) (fun k => ?_) (ih (i + 1) (by omega))
      simp only [juratref10_Find.l0]
      rw [if_pos (by omega), if_pos (by omega), e, if_neg (fun x => h (toList_iff.1 x)), wrap_id (by omega) (by omega)]
      rfl
theorem rfind10_ev (l : List ByteArray) (s : ByteArray) (hl : l.length ≤ 9223372036854775806) : Ev (fun k => juratref10_Find.f k l s) (findB s l 0) := by
  have h := rfind_l0 l s hl l.length 0 (by omega)
  rw [List.drop_zero] at h
  exact h

end Go.Proofs.Ytnpkbnfiadkgnaa.Base

/- What is told of a set of patterns, of the list in order and of the list as it came; layer 10's examples; no condition beyond the sizes that stand in each statement. -/
namespace Go.Proofs.Ytnpkbnfiadkgnaa.Base
open Go Go.RowKit Go.Proofs.YtnpkbnfiadkgnaaW.PrintWords Go.Proofs.YtnpkbnfiadkgnaaW.PrintMore Go.Proofs.Ytnpkbnfiadkgnaa.P
set_option linter.unusedVariables false

theorem findB_up (s : ByteArray) : ∀ (l : List ByteArray) (i : Nat), upB l → findB s l i = if inB s l = true then ((i + aheadB s l : Nat) : Int) else -1
  | [], i, _ => rfl
  | x :: l, i, h => by
    obtain ⟨h1, h2⟩ := List.pairwise_cons.1 h
    have ih := findB_up s l (i + 1) h2
    have ef : findB s (x :: l) i = if x = s then (i : Int) else findB s l (i + 1) := rfl
    rw [ef]
    by_cases hx : x = s
    · subst hx
      rw [if_pos rfl, if_pos (inB_iff.2 List.mem_cons_self), aheadB_none x (x :: l) (fun y hy => by
        rcases List.mem_cons.1 hy with rfl | hy
        · exact bl_irrefl _
        · exact h1 y hy)]
      rfl
    · rw [if_neg hx, inB_cons, decide_eq_false hx, Bool.false_or, ih]
      cases hb : Op.bytesLess (LL x) (LL s) with
      | true =>
        have e : aheadB s (x :: l) = aheadB s l + 1 := by unfold aheadB; rw [List.countP_cons_of_pos (by simpa using hb)]
        rw [e, show i + 1 + aheadB s l = i + (aheadB s l + 1) by omega]
      | false =>
        have hn : ¬ inB s l = true := fun hi => by
          rcases bl_tri (LL x) (LL s) with h' | h' | h'
          · exact hx (LL_inj h')
          · rw [hb] at h'; cases h'
          · rw [h1 s (inB_iff.1 hi)] at h'; cases h'
        rw [if_neg hn, if_neg hn]
theorem fold_perm {β : Type} (f : β → ByteArray → β) (hc : ∀ a x y, f (f a x) y = f (f a y) x) {l m : List ByteArray} (h : l.Perm m) : ∀ a, l.foldl f a = m.foldl f a := by
  induction h with
  | nil => intro a; rfl
  | cons x _ ih => intro a; exact ih _
  | swap x y l => intro a; simp only [List.foldl_cons]; rw [hc]
  | trans _ _ ih1 ih2 => intro a; rw [ih1, ih2]
theorem total_perm {l m : List ByteArray} (h : l.Perm m) : totalB 0 l = totalB 0 m := fold_perm _ (fun a x y => by omega) h 0
theorem most_perm {l m : List ByteArray} (h : l.Perm m) : mostB 0 l = mostB 0 m := fold_perm _ (fun a x y => by omega) h 0
theorem least_spec : ∀ (l : List ByteArray) (a : Nat), leastB a l ≤ a ∧ (∀ s ∈ l, leastB a l ≤ s.size) ∧ (leastB a l = a ∨ ∃ s ∈ l, leastB a l = s.size)
  | [], a => ⟨Nat.le_refl _, by simp, .inl rfl⟩
  | x :: l, a => by
    obtain ⟨h1, h2, h3⟩ := least_spec l (min a x.size)
    have e : leastB a (x :: l) = leastB (min a x.size) l := rfl
    rw [e]
    refine ⟨by omega, fun s hs => ?_, ?_⟩
    · rcases List.mem_cons.1 hs with rfl | hs
      · omega
      · exact h2 s hs
    · rcases h3 with h3 | ⟨s, hs, h3⟩
      · by_cases ha : a ≤ x.size
        · left; omega
        · right; exact ⟨x, List.mem_cons_self, by omega⟩
      · right; exact ⟨s, List.mem_cons_of_mem _ hs, h3⟩
theorem min_spec (l : List ByteArray) (h : 0 < l.length) : (∀ s ∈ l, minB l ≤ s.size) ∧ ∃ s ∈ l, minB l = s.size := by
  obtain ⟨h1, h2, h3⟩ := least_spec l (l.getD 0 ByteArray.empty).size
  refine ⟨h2, ?_⟩
  rcases h3 with h3 | h3
  · exact ⟨_, getD_mem l 0 ByteArray.empty h, h3⟩
  · exact h3
theorem min_perm {l m : List ByteArray} (h : l.Perm m) (h0 : 0 < l.length) : minB l = minB m := by
  obtain ⟨a1, s, hs, a2⟩ := min_spec l h0
  obtain ⟨b1, t, ht, b2⟩ := min_spec m (by rw [← h.length_eq]; exact h0)
  have := a1 t (h.mem_iff.2 ht)
  have := b1 s (h.mem_iff.1 hs)
  omega

/-- A set that is made of texts. -/
def setB (l : List ByteArray) : SetD := ⟨sortB l, (minB l : Nat), (mostB 0 l : Nat), (totalB 0 l : Nat)⟩
theorem new_cases (l : List ByteArray) :
    (∃ e, e ≠ 0 ∧ pats_New.f l = some (none, e) ∧ newB l = ([], e)) ∨
    (pats_New.f l = some (some (setB l), 0) ∧ newB l = (sortB l, 0) ∧ 0 < l.length ∧ l.length ≤ 65535 ∧ badB l = 0 ∧ totalB 0 l ≤ 16777216 ∧ twB [] l 0 < 0) := by
  unfold pats_New.f newB
  by_cases h0 : l.length = 0
  · exact .inl ⟨14, by decide, by rw [if_pos h0], by rw [if_pos h0]⟩
  by_cases h1 : l.length > 65535
  · exact .inl ⟨6, by decide, by rw [if_neg h0, if_pos h1], by rw [if_neg h0, if_pos h1]⟩
  by_cases h2 : badB l ≠ 0
  · exact .inl ⟨_, h2, by rw [if_neg h0, if_neg h1, if_pos h2], by rw [if_neg h0, if_neg h1, if_pos h2]⟩
  by_cases h3 : totalB 0 l > 16777216
  · exact .inl ⟨13, by decide, by rw [if_neg h0, if_neg h1, if_neg h2, if_pos h3], by rw [if_neg h0, if_neg h1, if_neg h2, if_pos h3]⟩
  by_cases h4 : twB [] l 0 ≥ 0
  · exact .inl ⟨8, by decide, by rw [if_neg h0, if_neg h1, if_neg h2, if_neg h3, if_pos h4], by rw [if_neg h0, if_neg h1, if_neg h2, if_neg h3, if_pos h4]⟩
  refine .inr ⟨by rw [if_neg h0, if_neg h1, if_neg h2, if_neg h3, if_neg h4]; rfl, by rw [if_neg h0, if_neg h1, if_neg h2, if_neg h3, if_neg h4], by omega, by omega, Classical.not_not.1 h2, by omega, by omega⟩


end Go.Proofs.Ytnpkbnfiadkgnaa.Base

/- A number under a mask; no condition beyond those in the statement. -/
namespace Go.Proofs.Ytnpkbnfiadkgnaa.Base
open Go Go.RowKit Go.Proofs.YtnpkbnfiadkgnaaW.PrintWords Go.Proofs.YtnpkbnfiadkgnaaW.PrintLast Go.Proofs.YtnpkbnfiadkgnaaW.PrintMore

theorem bits_and_mask (x : Int) (m : Nat) (hm : m < 9223372036854775808) : 0 ≤ Go.bits .and .i64 x (m : Int) ∧ Go.bits .and .i64 x (m : Int) ≤ m := by
  have h : Go.bits .and .i64 x (m : Int) = IntKind.i64.wrap (((BitVec.ofInt 64 x &&& BitVec.ofInt 64 (m : Int)).toNat : Int)) := rfl
  have h2 : (BitVec.ofInt 64 x &&& BitVec.ofInt 64 (m : Int)).toNat ≤ m := by
    rw [BitVec.toNat_and]
    refine Nat.le_trans Nat.and_le_right ?_
    rw [BitVec.toNat_ofInt]
    omega
  rw [h, i64_w, wrap_id (by omega) (by omega)]
  omega

end Go.Proofs.Ytnpkbnfiadkgnaa.Base
