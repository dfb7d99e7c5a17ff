/- Proved here: the row of the law TrieTells, with texts that lead to it, merged by a program of this session (wip/merge.py), part 1 of 2; no condition beyond the statement's own. -/
import Derived.Test.YtnpkbnfiadkgnaaPx0
import Derived.Test.YtnpkbnfiadkgnaaH09t
import Derived.Test.YtnpkbnfiadkgnaaPx56
import Derived.Test.YtnpkbnfiadkgnaaP10
import Derived.Test.YtnpkbnfiadkgnaaH10
import Derived.Test.YtnpkbnfiadkgnaaH10b
import Derived.Test.YtnpkbnfiadkgnaaBase
import Derived.Test.YtnpkbnfiadkgnaaWLast
import Derived.Laws.BitsLemmas
import Derived.Test.YtnpkbnfiadkgnaaH16
import Derived.Test.YtnpkbnfiadkgnaaH16b
import Derived.Test.YtnpkbnfiadkgnaaH16a
import Derived.Lib.QuietBelow
import Derived.Test.YtnpkbnfiadkgnaaWWords
/- Proved here: what Go functions of this seat compute, or a law of it; no condition beyond the statement's own. Written for this claim by a program of this session (wip/myprint.py) over the kit's print.py. -/
namespace Go.Proofs.Ytnpkbnfiadkgnaa.P
open Go.RowKit Go.Proofs.YtnpkbnfiadkgnaaW.PrintWords Go.Proofs.YtnpkbnfiadkgnaaW.PrintLast Go.Proofs.YtnpkbnfiadkgnaaW.PrintMore
attribute [local go_sem] max2_int min2_int max_two min_two max_three min_three max_four min_four   -- for this text's walks alone
set_option linter.unusedVariables false
set_option linter.unusedSimpArgs false

/-! ### juratref09_Few: function 10 -/
def juratref09_Few.l0 : Nat → List ByteArray → Int → Int → Option (Bool)
  | 0, _, _, _ => none
  | k + 1, x0, x2, x7 => if x7 < (x0.length : Int) then (if 0 ≤ x7 then (if ((rdOf ByteArray.empty x0 x7).size : Int) > x2 then (some false) else (juratref09_Few.l0 k x0 x2 (wrap64 (x7 + 1)))) else (none)) else (some true)
def juratref09_Few.f (k : Nat) (l0 : List ByteArray) (a1 : Int) (a2 : Int) : Option (Bool) := if (l0.length : Int) > a1 then (some false) else (juratref09_Few.l0 k l0 a2 0)
theorem juratref09_Few.mono_l : ∀ k, (∀ y0 y1 y2, LeO (juratref09_Few.l0 k y0 y1 y2) (juratref09_Few.l0 (k + 1) y0 y1 y2))
  | 0 => fun _ _ _ r h => by simp [juratref09_Few.l0] at h
  | k + 1 => by
    have ih0 := juratref09_Few.mono_l k
    · intro y0 y1 y2
      unfold juratref09_Few.l0
      repeat' first
      | (with_reducible exact ih0 _ _ _)
      | (with_reducible exact LeO.refl _)
      | (with_reducible exact LeO.none _)
      | (with_reducible refine LeO.ite ?_ ?_)
      | (with_reducible refine LeO.bind ?_ (fun _ => ?_))
      | exact ih0 _ _ _
      | exact LeO.none _
      | refine LeO.ite ?_ ?_
      | refine LeO.bind ?_ (fun _ => ?_)
theorem juratref09_Few.mono : ∀ a0 a1 a2 k, LeO (juratref09_Few.f k a0 a1 a2) (juratref09_Few.f (k + 1) a0 a1 a2) := by
  intro a0 a1 a2 k
  have ih0 := juratref09_Few.mono_l k
  unfold juratref09_Few.f
  repeat' first
      | (with_reducible exact ih0 _ _ _)
      | (with_reducible exact LeO.refl _)
      | (with_reducible exact LeO.none _)
      | (with_reducible refine LeO.ite ?_ ?_)
      | (with_reducible refine LeO.bind ?_ (fun _ => ?_))
      | exact ih0 _ _ _
      | exact LeO.none _
      | refine LeO.ite ?_ ?_
      | refine LeO.bind ?_ (fun _ => ?_)
set_option maxHeartbeats 8000000 in
set_option maxRecDepth 100000 in
theorem juratref09_Few.calls (k : Nat) (A0 : Option Addr) (c0 : Nat) (l0 : List ByteArray) (a1 : Int) (a2 : Int) (r : Bool) (w : World) (hr0 : Kd.C Kd.string w A0 l0.length l0) (hc0 : l0.length ≤ c0) (h : juratref09_Few.f k l0 a1 a2 = some r) :
    Calls Try.prog 10 #[.slice A0 l0.length c0, .int .i64 a1, .int .i64 a2] w fun e w' => e = .returned (.bool r) ∧ Drawn0 w w' := by
  have HR0 := Aside0.mk hr0
  have HC0 := Aside0.mk hc0
  clear hr0 hc0
  have H : (if (l0.length : Int) > a1 then (some false) else (juratref09_Few.l0 k l0 a2 0)) = some r := h
  clear h
  by_cases c4 : (l0.length : Int) > a1
  · rw [if_pos c4] at H
    have c4b0 : decide (a1 < (l0.length : Int)) = true := decide_eq_true c4
    clear c4
    obtain rfl := Option.some.inj H
    go_enter Try.func10, Try.ntmps10
    go_wp2
    go_ret
    exact ⟨by first | rfl | (simp; done) | (simp [*]; done), by repeat (first | exact Drawn0.refl _ | apply Drawn0.step)⟩
  · rw [if_neg c4] at H
    have c4b0 : decide (a1 < (l0.length : Int)) = false := decide_eq_false c4
    clear c4
    have H' := Aside0.mk H
    clear H
    go_enter Try.func10, Try.ntmps10
    go_wp2
    go_loopg [7] k (fun kq v7 w' => ∃ (x7_1 : Int), v7 = .int .i64 x7_1 ∧ Aside0 (juratref09_Few.l0 kq l0 a2 x7_1 = some r) ∧ Aside0 (kq ≤ k) ∧ Drawn0 w w')
    case atStart => exact ⟨(0), (by first | rfl | exact isE_ _ | exact isE2_ _ | (simp; done) | (simp [*]; done)), H', ⟨Nat.le_refl _⟩, by repeat (first | exact Drawn0.refl _ | apply Drawn0.step)⟩
    case round =>
      clear H'
      try clear c1
      try clear p2
      try clear c4
      try clear c4b0
      obtain ⟨x7_1, rfl, HA, HK1, ⟨m1, rfl⟩⟩ := hrel
      cases gk with
      | zero => exact absurd HA.out (by simp [juratref09_Few.l0])
      | succ k1 =>
        have H := HA.out
        clear HA
        simp only [juratref09_Few.l0] at H
        by_cases c5 : x7_1 < (l0.length : Int)
        · rw [if_pos c5] at H
          have c5b0 : decide (x7_1 < (l0.length : Int)) = true := decide_eq_true c5
          clear c5
          by_cases c6 : 0 ≤ x7_1
          · rw [if_pos c6] at H
            have c6b0 : decide (0 ≤ x7_1) = true := decide_eq_true c6
            clear c6
            by_cases c7 : ((rdOf ByteArray.empty l0 x7_1).size : Int) > a2
            · rw [if_pos c7] at H
              have c7b0 : decide (a2 < ((rdOf ByteArray.empty l0 x7_1).size : Int)) = true := decide_eq_true c7
              clear c7
              obtain rfl := Option.some.inj H
              have p101 : 0 ≤ (x7_1 : Int) := of_decide_eq_true (by first | (with_reducible assumption) | assumption)
              have q101 : x7_1 < (l0.length : Int) := of_decide_eq_true (by first | (with_reducible assumption) | assumption)
              obtain ⟨ad101, e101, hx101_0⟩ := Kd.at_string HR0.out x7_1 p101 q101
              cases e101
              replace p101 := eq_true p101
              replace q101 := eq_true q101
              go_wp2
              go_ret
              exact ⟨by first | rfl | (simp; done) | (simp [*]; done), by repeat (first | exact Drawn0.refl _ | apply Drawn0.step)⟩
            · rw [if_neg c7] at H
              have c7b0 : decide (a2 < ((rdOf ByteArray.empty l0 x7_1).size : Int)) = false := decide_eq_false c7
              clear c7
              have H' := Aside0.mk H
              clear H
              have p101 : 0 ≤ (x7_1 : Int) := of_decide_eq_true (by first | (with_reducible assumption) | assumption)
              have q101 : x7_1 < (l0.length : Int) := of_decide_eq_true (by first | (with_reducible assumption) | assumption)
              obtain ⟨ad101, e101, hx101_0⟩ := Kd.at_string HR0.out x7_1 p101 q101
              cases e101
              replace p101 := eq_true p101
              replace q101 := eq_true q101
              go_wp2
              go_roundg k1
              case measure => have := HK1.out; omega
              case rel => exact ⟨(wrap64 (x7_1 + 1)), (by first | rfl | exact isE_ _ | exact isE2_ _ | (simp; done) | (simp [*]; done)), H', ⟨by have := HK1.out; omega⟩, by repeat (first | exact Drawn0.refl _ | apply Drawn0.step)⟩
          · rw [if_neg c6] at H
            exact absurd H (by simp)
        · rw [if_neg c5] at H
          have c5b0 : decide (x7_1 < (l0.length : Int)) = false := decide_eq_false c5
          clear c5
          obtain rfl := Option.some.inj H
          go_wp2
          go_ret
          exact ⟨by first | rfl | (simp; done) | (simp [*]; done), by repeat (first | exact Drawn0.refl _ | apply Drawn0.step)⟩

end Go.Proofs.Ytnpkbnfiadkgnaa.P

/- What layer 9 and its reference compute, as plain functions on lists of bytes; no condition beyond the sizes that stand in each statement. -/
namespace Go.Proofs.Ytnpkbnfiadkgnaa.Base
open Go Go.RowKit Go.Proofs.YtnpkbnfiadkgnaaW.PrintWords Go.Proofs.YtnpkbnfiadkgnaaW.PrintMore Go.Proofs.Ytnpkbnfiadkgnaa.P
set_option linter.unusedVariables false

/-! few texts, of few bytes -/
def fewB (l : List ByteArray) (b : Int) : Bool := l.all fun s => decide ((s.size : Int) ≤ b)
theorem fewB_iff {l : List ByteArray} {b : Int} : fewB l b = true ↔ ∀ s ∈ l, (s.size : Int) ≤ b := by unfold fewB; rw [List.all_eq_true]; simp
theorem few_l0 (l : List ByteArray) (b : Int) (hm : l.length ≤ 9223372036854775807) : ∀ (d i : Nat), i + d = l.length →
    Ev (fun k => juratref09_Few.l0 k l b (i : Int)) (fewB (l.drop i) b) := by
  intro d
  induction d with
  | zero =>
    intro i hi
    refine Ev.ret fun k => ?_
    simp only [juratref09_Few.l0]
    rw [if_neg (by omega), List.drop_of_length_le (by omega)]
    rfl
  | succ d ih =>
    intro i hi
    have hd := getD_drop l i ByteArray.empty (by omega)
    have e : rdOf ByteArray.empty l (i : Int) = l.getD i ByteArray.empty := rfl
    have e2 : fewB (l.drop i) b = (decide (((l.getD i ByteArray.empty).size : Int) ≤ b) && fewB (l.drop (i + 1)) b) := by rw [hd]; rfl
    rw [e2]
    by_cases h : ((l.getD i ByteArray.empty).size : Int) > b
    · refine Ev.ret fun k => ?_
      simp only [juratref09_Few.l0]
      rw [if_pos (by omega), if_pos (by omega), e, if_pos h, decide_eq_false (by omega)]
      rfl
    · rw [decide_eq_true (by omega), Bool.true_and]
      refine Ev.step (f := fun k => juratref09_Few.l0 k l b ((i + 1 : Nat) : Int)) (fun k => ?_) (ih (i + 1) (by omega))
      simp only [juratref09_Few.l0]
      rw [if_pos (by omega), if_pos (by omega), e, if_neg h, wrap_id (by omega) (by omega)]
      rfl
theorem few_ev (l : List ByteArray) (m b : Int) (hm : l.length ≤ 9223372036854775807) : Ev (fun k => juratref09_Few.f k l m b) (decide ((l.length : Int) ≤ m) && fewB l b) := by
  by_cases h : (l.length : Int) > m
  · rw [decide_eq_false (by omega)]
    refine Ev.const fun k => ?_
    unfold juratref09_Few.f
    rw [if_pos h]
    rfl
  · have h' := few_l0 l b hm l.length 0 (by omega)
    rw [List.drop_zero] at h'
    rw [decide_eq_true (by omega), Bool.true_and]
    refine Ev.congr (fun k => ?_) h'
    unfold juratref09_Few.f
    rw [if_neg h]
    rfl

/-! sorted: two lists in order with the same texts are one -/
theorem up_unique : ∀ {l m : List ByteArray}, l.Perm m → upB l → upB m → l = m
  | [], m, h, _, _ => by rw [List.nil_perm.1 h]
  | x :: l, [], h, _, _ => by have := h.length_eq; simp at this
  | x :: l, y :: m, h, hl, hm => by
    obtain ⟨hl1, hl2⟩ := List.pairwise_cons.1 hl
    obtain ⟨hm1, hm2⟩ := List.pairwise_cons.1 hm
    have e : x = y := by
      rcases bl_tri (LL x) (LL y) with h' | h' | h'
      · exact LL_inj h'
      · rcases List.mem_cons.1 (h.mem_iff.1 List.mem_cons_self : x ∈ y :: m) with rfl | hx
        · rfl
        · rw [hm1 x hx] at h'; cases h'
      · rcases List.mem_cons.1 (h.mem_iff.2 List.mem_cons_self : y ∈ x :: l) with rfl | hy
        · rfl
        · rw [hl1 y hy] at h'; cases h'
    subst e
    rw [up_unique (List.Perm.cons_inv h) hl2 hm2]
theorem sortB_up (l : List ByteArray) : upB (sortB l) := by
  have h := List.pairwise_mergeSort (le := fun x y : ByteArray => !Op.bytesLess (LL y) (LL x)) (fun a b c h1 h2 => by
      simp only [Bool.not_eq_true'] at h1 h2 ⊢
      exact bl_ntrans h2 h1) (fun a b => by
      rcases bl_tri (LL a) (LL b) with h | h | h
      · rw [h, bl_irrefl]; rfl
      · rw [bl_asym h]; rfl
      · rw [bl_asym h]; simp) l
  exact h.imp (fun h => by simpa using h)
theorem sortB_perm (l : List ByteArray) : (sortB l).Perm l := List.mergeSort_perm _ _
theorem sortB_of {l m : List ByteArray} (h : m.Perm l) (hu : upB m) : m = sortB l := up_unique (h.trans (sortB_perm l).symm) hu (sortB_up l)
theorem sortB_sized {l : List ByteArray} (h : sizedB l) : sizedB (sortB l) := ⟨by rw [sortB_length]; exact h.1, fun s hs => h.2 s ((sortB_perm l).mem_iff.1 hs)⟩

theorem take_snoc {α : Type} (l : List α) (i : Nat) (z : α) (h : i < l.length) : l.take (i + 1) = l.take i ++ [l.getD i z] := by
  rw [List.take_succ_eq_append_getElem h, List.getD_eq_getElem?_getD, List.getElem?_eq_getElem h]; rfl

end Go.Proofs.Ytnpkbnfiadkgnaa.Base

/- Proved here: what Go functions of this seat compute, or a law of it; no condition beyond the statement's own. Written for this claim by a program of this session (wip/myprint.py) over the kit's print.py. -/
namespace Go.Proofs.Ytnpkbnfiadkgnaa.P
open Go.RowKit Go.Proofs.YtnpkbnfiadkgnaaW.PrintWords Go.Proofs.YtnpkbnfiadkgnaaW.PrintLast Go.Proofs.YtnpkbnfiadkgnaaW.PrintMore
attribute [local go_sem] max2_int min2_int max_two min_two max_three min_three max_four min_four   -- for this text's walks alone
set_option linter.unusedVariables false
set_option linter.unusedSimpArgs false

/-! ### juratref09_Twice: function 55 -/
mutual
def juratref09_Twice.l0 : Nat → List ByteArray → Int → Option (Int)
  | 0, _, _ => none
  | k + 1, x0, x3 => if x3 < (x0.length : Int) then (juratref09_Twice.l1 k x0 x3 0) else (some (-1))
def juratref09_Twice.l1 : Nat → List ByteArray → Int → Int → Option (Int)
  | 0, _, _, _ => none
  | k + 1, x0, x3, x4 => if x4 < x3 then (if 0 ≤ x4 then (if x4 < (x0.length : Int) then (if 0 ≤ x3 then (if x3 < (x0.length : Int) then (if (rdOf ByteArray.empty x0 x4).toList = (rdOf ByteArray.empty x0 x3).toList then (some x3) else (juratref09_Twice.l1 k x0 x3 (wrap64 (x4 + 1)))) else (none)) else (none)) else (none)) else (none)) else (juratref09_Twice.l0 k x0 (wrap64 (x3 + 1)))
end
def juratref09_Twice.f (k : Nat) (l0 : List ByteArray) : Option (Int) := juratref09_Twice.l0 k l0 0
theorem juratref09_Twice.mono_l : ∀ k, (∀ y0 y1, LeO (juratref09_Twice.l0 k y0 y1) (juratref09_Twice.l0 (k + 1) y0 y1)) ∧ (∀ y0 y1 y2, LeO (juratref09_Twice.l1 k y0 y1 y2) (juratref09_Twice.l1 (k + 1) y0 y1 y2))
  | 0 => ⟨fun _ _ r h => by simp [juratref09_Twice.l0] at h, fun _ _ _ r h => by simp [juratref09_Twice.l1] at h⟩
  | k + 1 => by
    obtain ⟨ih0, ih1⟩ := juratref09_Twice.mono_l k
    refine ⟨?_, ?_⟩
    · intro y0 y1
      unfold juratref09_Twice.l0
      repeat' first
      | (with_reducible exact ih0 _ _)
      | (with_reducible exact ih1 _ _ _)
      | (with_reducible exact LeO.refl _)
      | (with_reducible exact LeO.none _)
      | (with_reducible refine LeO.ite ?_ ?_)
      | (with_reducible refine LeO.bind ?_ (fun _ => ?_))
      | exact ih0 _ _
      | exact ih1 _ _ _
      | exact LeO.none _
      | refine LeO.ite ?_ ?_
      | refine LeO.bind ?_ (fun _ => ?_)
    · intro y0 y1 y2
      unfold juratref09_Twice.l1
      repeat' first
      | (with_reducible exact ih0 _ _)
      | (with_reducible exact ih1 _ _ _)
      | (with_reducible exact LeO.refl _)
      | (with_reducible exact LeO.none _)
      | (with_reducible refine LeO.ite ?_ ?_)
      | (with_reducible refine LeO.bind ?_ (fun _ => ?_))
      | exact ih0 _ _
      | exact ih1 _ _ _
      | exact LeO.none _
      | refine LeO.ite ?_ ?_
      | refine LeO.bind ?_ (fun _ => ?_)
theorem juratref09_Twice.mono : ∀ a0 k, LeO (juratref09_Twice.f k a0) (juratref09_Twice.f (k + 1) a0) := by
  intro a0 k
  obtain ⟨ih0, ih1⟩ := juratref09_Twice.mono_l k
  unfold juratref09_Twice.f
  repeat' first
      | (with_reducible exact ih0 _ _)
      | (with_reducible exact ih1 _ _ _)
      | (with_reducible exact LeO.refl _)
      | (with_reducible exact LeO.none _)
      | (with_reducible refine LeO.ite ?_ ?_)
      | (with_reducible refine LeO.bind ?_ (fun _ => ?_))
      | exact ih0 _ _
      | exact ih1 _ _ _
      | exact LeO.none _
      | refine LeO.ite ?_ ?_
      | refine LeO.bind ?_ (fun _ => ?_)
set_option maxHeartbeats 8000000 in
set_option maxRecDepth 100000 in
theorem juratref09_Twice.calls (k : Nat) (A0 : Option Addr) (c0 : Nat) (l0 : List ByteArray) (r : Int) (w : World) (hr0 : Kd.C Kd.string w A0 l0.length l0) (hc0 : l0.length ≤ c0) (h : juratref09_Twice.f k l0 = some r) :
    Calls Try.prog 55 #[.slice A0 l0.length c0] w fun e w' => e = .returned (.int .i64 r) ∧ Drawn0 w w' := by
  have HR0 := Aside0.mk hr0
  have HC0 := Aside0.mk hc0
  clear hr0 hc0
  have H : (juratref09_Twice.l0 k l0 0) = some r := h
  clear h
  have H' := Aside0.mk H
  clear H
  go_enter Try.func55, Try.ntmps55
  go_wp2
  repeat (go_quiet (fail); try go_wp2)
  go_loopg [3] k (fun kq v3 w' => ∃ (x3_1 : Int), v3 = .int .i64 x3_1 ∧ Aside0 (juratref09_Twice.l0 kq l0 x3_1 = some r) ∧ Aside0 (kq ≤ k) ∧ Drawn0 w w')
  case atStart => exact ⟨(0), (by first | rfl | exact isE_ _ | exact isE2_ _ | (simp; done) | (simp [*]; done)), H', ⟨Nat.le_refl _⟩, by repeat (first | exact Drawn0.refl _ | apply Drawn0.step)⟩
  case round =>
    clear H'
    obtain ⟨x3_1, rfl, HA, HK1, ⟨m1, rfl⟩⟩ := hrel
    cases gk with
    | zero => exact absurd HA.out (by simp [juratref09_Twice.l0])
    | succ k1 =>
      have H := HA.out
      clear HA
      simp only [juratref09_Twice.l0] at H
      by_cases c2 : x3_1 < (l0.length : Int)
      · rw [if_pos c2] at H
        have c2b0 : decide (x3_1 < (l0.length : Int)) = true := decide_eq_true c2
        clear c2
        have H' := Aside0.mk H
        clear H
        go_wp2
        repeat (go_quiet (fail); try go_wp2)
        go_loopg [4] k1 (fun kq v4 w' => ∃ (x4_2 : Int), v4 = .int .i64 x4_2 ∧ Aside0 (juratref09_Twice.l1 kq l0 x3_1 x4_2 = some r) ∧ Aside0 (kq ≤ k1) ∧ Drawn0 w w')
        case atStart => exact ⟨(0), (by first | rfl | exact isE_ _ | exact isE2_ _ | (simp; done) | (simp [*]; done)), H', ⟨Nat.le_refl _⟩, by repeat (first | exact Drawn0.refl _ | apply Drawn0.step)⟩
        case round =>
          clear H'
          try clear c2
          try clear c2b0
          try clear p2
          obtain ⟨x4_2, rfl, HA, HK2, ⟨m2, rfl⟩⟩ := hrel
          cases gk with
          | zero => exact absurd HA.out (by simp [juratref09_Twice.l1])
          | succ k2 =>
            have H := HA.out
            clear HA
            simp only [juratref09_Twice.l1] at H
            by_cases c3 : x4_2 < x3_1
            · rw [if_pos c3] at H
              have c3b0 : decide (x4_2 < x3_1) = true := decide_eq_true c3
              clear c3
              by_cases c4 : 0 ≤ x4_2
              · rw [if_pos c4] at H
                have c4b0 : decide (0 ≤ x4_2) = true := decide_eq_true c4
                clear c4
                by_cases c5 : x4_2 < (l0.length : Int)
                · rw [if_pos c5] at H
                  have c5b0 : decide (x4_2 < (l0.length : Int)) = true := decide_eq_true c5
                  clear c5
                  by_cases c6 : 0 ≤ x3_1
                  · rw [if_pos c6] at H
                    have c6b0 : decide (0 ≤ x3_1) = true := decide_eq_true c6
                    clear c6
                    by_cases c7 : x3_1 < (l0.length : Int)
                    · rw [if_pos c7] at H
                      have c7b0 : decide (x3_1 < (l0.length : Int)) = true := decide_eq_true c7
                      clear c7
                      by_cases c8 : (rdOf ByteArray.empty l0 x4_2).toList = (rdOf ByteArray.empty l0 x3_1).toList
                      · rw [if_pos c8] at H
                        have c8b0 : ((rdOf ByteArray.empty l0 x4_2).toList == (rdOf ByteArray.empty l0 x3_1).toList) = true := beq_iff_eq.mpr c8
                        have c8b1 : ((rdOf ByteArray.empty l0 x4_2).toList != (rdOf ByteArray.empty l0 x3_1).toList) = false := bne_eq_false_iff_eq.mpr c8
                        clear c8
                        obtain rfl := Option.some.inj H
                        have p121 : 0 ≤ (x4_2 : Int) := of_decide_eq_true (by first | (with_reducible assumption) | assumption)
                        have q121 : x4_2 < (l0.length : Int) := of_decide_eq_true (by first | (with_reducible assumption) | assumption)
                        obtain ⟨ad121, e121, hx121_0⟩ := Kd.at_string HR0.out x4_2 p121 q121
                        cases e121
                        replace p121 := eq_true p121
                        replace q121 := eq_true q121
                        have p122 : 0 ≤ (x3_1 : Int) := of_decide_eq_true (by first | (with_reducible assumption) | assumption)
                        have q122 : x3_1 < (l0.length : Int) := of_decide_eq_true (by first | (with_reducible assumption) | assumption)
                        obtain ⟨ad122, e122, hx122_0⟩ := Kd.at_string HR0.out x3_1 p122 q122
                        obtain rfl : ad121 = ad122 := (by injection e122)
                        replace p122 := eq_true p122
                        replace q122 := eq_true q122
                        go_wp2
                        repeat (go_quiet (fail); try go_wp2)
                        go_ret
                        exact ⟨by first | rfl | (simp; done) | (simp [*]; done), by repeat (first | exact Drawn0.refl _ | apply Drawn0.step)⟩
                      · rw [if_neg c8] at H
                        have c8b0 : ((rdOf ByteArray.empty l0 x4_2).toList == (rdOf ByteArray.empty l0 x3_1).toList) = false := beq_eq_false_iff_ne.mpr c8
                        have c8b1 : ((rdOf ByteArray.empty l0 x4_2).toList != (rdOf ByteArray.empty l0 x3_1).toList) = true := bne_iff_ne.mpr c8
                        have H' := Aside0.mk H
                        clear H
                        have p121 : 0 ≤ (x4_2 : Int) := of_decide_eq_true (by first | (with_reducible assumption) | assumption)
                        have q121 : x4_2 < (l0.length : Int) := of_decide_eq_true (by first | (with_reducible assumption) | assumption)
                        obtain ⟨ad121, e121, hx121_0⟩ := Kd.at_string HR0.out x4_2 p121 q121
                        cases e121
                        replace p121 := eq_true p121
                        replace q121 := eq_true q121
                        have p122 : 0 ≤ (x3_1 : Int) := of_decide_eq_true (by first | (with_reducible assumption) | assumption)
                        have q122 : x3_1 < (l0.length : Int) := of_decide_eq_true (by first | (with_reducible assumption) | assumption)
                        obtain ⟨ad122, e122, hx122_0⟩ := Kd.at_string HR0.out x3_1 p122 q122
                        obtain rfl : ad121 = ad122 := (by injection e122)
                        replace p122 := eq_true p122
                        replace q122 := eq_true q122
                        go_wp2
                        repeat (go_quiet (fail); try go_wp2)
                        go_roundg k2
                        case measure => have := HK1.out; have := HK2.out; omega
                        case rel => exact ⟨(wrap64 (x4_2 + 1)), (by first | rfl | exact isE_ _ | exact isE2_ _ | (simp; done) | (simp [*]; done)), H', ⟨by have := HK1.out; have := HK2.out; omega⟩, by repeat (first | exact Drawn0.refl _ | apply Drawn0.step)⟩
                    · rw [if_neg c7] at H
                      exact absurd H (by simp)
                  · rw [if_neg c6] at H
                    exact absurd H (by simp)
                · rw [if_neg c5] at H
                  exact absurd H (by simp)
              · rw [if_neg c4] at H
                exact absurd H (by simp)
            · rw [if_neg c3] at H
              have c3b0 : decide (x4_2 < x3_1) = false := decide_eq_false c3
              clear c3
              have H' := Aside0.mk H
              clear H
              go_wp2
              repeat (go_quiet (fail); try go_wp2)
              go_roundg k2
              case measure => have := HK1.out; have := HK2.out; omega
              case rel => exact ⟨(wrap64 (x3_1 + 1)), (by first | rfl | exact isE_ _ | exact isE2_ _ | (simp; done) | (simp [*]; done)), H', ⟨by have := HK1.out; have := HK2.out; omega⟩, by repeat (first | exact Drawn0.refl _ | apply Drawn0.step)⟩
      · rw [if_neg c2] at H
        have c2b0 : decide (x3_1 < (l0.length : Int)) = false := decide_eq_false c2
        clear c2
        obtain rfl := Option.some.inj H
        go_wp2
        repeat (go_quiet (fail); try go_wp2)
        go_ret
        exact ⟨by first | rfl | (simp; done) | (simp [*]; done), by repeat (first | exact Drawn0.refl _ | apply Drawn0.step)⟩

end Go.Proofs.Ytnpkbnfiadkgnaa.P

/- What layer 9's reference computes by sorting and looking for what is there twice, as plain functions on lists of texts; no condition beyond the sizes that stand in each statement. -/
namespace Go.Proofs.Ytnpkbnfiadkgnaa.Base
open Go Go.RowKit Go.Proofs.YtnpkbnfiadkgnaaW.PrintWords Go.Proofs.YtnpkbnfiadkgnaaW.PrintMore Go.Proofs.Ytnpkbnfiadkgnaa.P
set_option linter.unusedVariables false

/-! sorted by insertion -/
theorem rsorted_put (l out : List ByteArray) (i j : Nat) (hi : i < l.length) (hl : l.length ≤ 8796093022200) (ho : out.length = i) (hj : j ≤ out.length) (hup : upB out)
    (hbelow : ∀ t, t < j → Op.bytesLess (LL (l.getD i ByteArray.empty)) (LL (out.getD t ByteArray.empty)) = false) (habove : ∀ t, j ≤ t → t < out.length → Op.bytesLess (LL (l.getD i ByteArray.empty)) (LL (out.getD t ByteArray.empty)) = true) :
    upB (out.take j ++ l.getD i ByteArray.empty :: out.drop j) ∧ (out.take j ++ l.getD i ByteArray.empty :: out.drop j).Perm (l.getD i ByteArray.empty :: out) := by
  refine ⟨?_, ?_⟩
  · have h1 : ∀ x ∈ out.take j, Op.bytesLess (LL (l.getD i ByteArray.empty)) (LL x) = false := fun x hx => by
      obtain ⟨t, ht, rfl⟩ := List.mem_iff_getElem.1 hx
      rw [List.length_take] at ht
      have := hbelow t (by omega)
      rw [List.getD_eq_getElem?_getD (l := out), List.getElem?_eq_getElem (by omega : t < out.length)] at this
      rw [List.getElem_take]
      exact this
    have h2 : ∀ x ∈ out.drop j, Op.bytesLess (LL (l.getD i ByteArray.empty)) (LL x) = true := fun x hx => by
      obtain ⟨t, ht, rfl⟩ := List.mem_iff_getElem.1 hx
      rw [List.length_drop] at ht
      have := habove (j + t) (by omega) (by omega)
      rw [List.getD_eq_getElem?_getD (l := out), List.getElem?_eq_getElem (by omega : j + t < out.length)] at this
      rw [List.getElem_drop]
      exact this
    have hsplit : (out.take j ++ out.drop j).Pairwise (fun x y => Op.bytesLess (LL y) (LL x) = false) := by rw [List.take_append_drop]; exact hup
    obtain ⟨p1, p2, p3⟩ := List.pairwise_append.1 hsplit
    refine List.pairwise_append.2 ⟨p1, List.pairwise_cons.2 ⟨fun y hy => bl_asym (h2 y hy), p2⟩, fun x hx y hy => ?_⟩
    rcases List.mem_cons.1 hy with rfl | hy
    · exact h1 x hx
    · exact p3 x hx y hy
  · refine List.perm_middle.trans ?_
    rw [List.take_append_drop]
theorem rsorted_both (l : List ByteArray) (hl : l.length ≤ 8796093022200) : ∀ (d i : Nat), i + d = l.length → ∀ out : List ByteArray, out.Perm (l.take i) → upB out →
    Ev (fun k => juratref09_Sorted.l0 k l out (i : Int)) (sortB l) := by
  intro d
  induction d with
  | zero =>
    intro i hi out hp hu
    rw [List.take_of_length_le (by omega)] at hp
    refine Ev.ret fun k => ?_
    simp only [juratref09_Sorted.l0]
    rw [if_neg (by omega), sortB_of hp hu]
  | succ d ih =>
    intro i hi out hp hu
    have ho : out.length = i := by rw [hp.length_eq, List.length_take]; omega
    have hx : rdOf ByteArray.empty l (i : Int) = l.getD i ByteArray.empty := rfl
    have fin : ∀ j, j ≤ out.length → (∀ t, t < j → Op.bytesLess (LL (l.getD i ByteArray.empty)) (LL (out.getD t ByteArray.empty)) = false) → (∀ t, j ≤ t → t < out.length → Op.bytesLess (LL (l.getD i ByteArray.empty)) (LL (out.getD t ByteArray.empty)) = true) →
        Ev (fun k => juratref09_Sorted.l0 k l ((([] ++ out.take j) ++ [l.getD i ByteArray.empty]) ++ out.drop j) ((i + 1 : Nat) : Int)) (sortB l) := fun j hj hb ha => by
      obtain ⟨u, p⟩ := rsorted_put l out i j (by omega) hl ho hj hu hb ha
      rw [List.nil_append, List.append_assoc, List.singleton_append]
      refine ih (i + 1) (by omega) _ (p.trans ?_) u
      rw [take_snoc l i ByteArray.empty (by omega)]
      exact (List.Perm.cons _ hp).trans (List.perm_append_singleton _ _).symm
    have inner : ∀ j, j ≤ out.length → (∀ t, j ≤ t → t < out.length → Op.bytesLess (LL (l.getD i ByteArray.empty)) (LL (out.getD t ByteArray.empty)) = true) →
        Ev (fun k => juratref09_Sorted.l1 k l out (i : Int) (j : Int)) (sortB l) := by
      intro j
      induction j with
      | zero =>
        intro hj ha
        refine Ev.step (f := fun k => juratref09_Sorted.l0 k l ((([] ++ out.take 0) ++ [l.getD i ByteArray.empty]) ++ out.drop 0) ((i + 1 : Nat) : Int)) (fun k => ?_) (fin 0 hj (fun t ht => absurd ht (Nat.not_lt_zero _)) ha)
        simp only [juratref09_Sorted.l1, Option.bind_some]
        rw [if_neg (by omega), if_pos (by omega), if_pos (by omega), if_pos (by simp), if_pos (by omega), if_pos (by omega), if_pos (by simp), hx, Int.toNat_natCast, if_pos (by simp; omega), wrap_id (by omega) (by omega)]
        rfl
      | succ j ihj =>
        intro hj ha
        have hy : rdOf ByteArray.empty out (((j + 1 : Nat) : Int) - 1) = out.getD j ByteArray.empty := by unfold rdOf; rw [show (((j + 1 : Nat) : Int) - 1).toNat = j by omega]
        cases hlt : Op.bytesLess (LL (l.getD i ByteArray.empty)) (LL (out.getD j ByteArray.empty)) with
        | true =>
          refine Ev.step (f := fun k => juratref09_Sorted.l1 k l out (i : Int) (j : Int)) (fun k => ?_) (ihj (by omega) (fun t h1 h2 => by
            by_cases he : t = j
            · subst he; exact hlt
            · exact ha t (by omega) h2))
          simp only [juratref09_Sorted.l1, Option.bind_some]
          rw [wrap_id (x := ((j + 1 : Nat) : Int) - 1) (by omega) (by omega), if_pos (by omega), if_pos (by omega), if_pos (by omega), if_pos (by omega), if_pos (by omega), hx, hy, if_pos (by rw [ByteArray.toList_eq, ByteArray.toList_eq]; exact hlt), show ((j + 1 : Nat) : Int) - 1 = (j : Int) by omega]
        | false =>
          refine Ev.step (f := fun k => juratref09_Sorted.l0 k l ((([] ++ out.take (j + 1)) ++ [l.getD i ByteArray.empty]) ++ out.drop (j + 1)) ((i + 1 : Nat) : Int)) (fun k => ?_) (fin (j + 1) hj (fun t ht => by
            by_cases he : t = j
            · subst he; exact hlt
            · have hp := List.pairwise_iff_getElem.1 hu t j (by omega) (by omega) (by omega)
              rw [List.getD_eq_getElem?_getD (l := out), List.getElem?_eq_getElem (by omega : j < out.length)] at hlt
              rw [List.getD_eq_getElem?_getD (l := out), List.getElem?_eq_getElem (by omega : t < out.length)]
              exact bl_ntrans hlt hp) ha)
          simp only [juratref09_Sorted.l1, Option.bind_some]
          rw [wrap_id (x := ((j + 1 : Nat) : Int) - 1) (by omega) (by omega), if_pos (by omega), if_pos (by omega), if_pos (by omega), if_pos (by omega), if_pos (by omega), hx, hy, if_neg (by rw [ByteArray.toList_eq, ByteArray.toList_eq, hlt]; simp), if_pos (by omega), if_pos (by omega), Int.toNat_natCast,
            if_pos (by simp; omega), if_pos (by simp; omega), if_pos (by simp; omega), wrap_id (by omega) (by omega)]
          rfl
    refine Ev.step (f := fun k => juratref09_Sorted.l1 k l out (i : Int) (out.length : Int)) (fun k => ?_) (inner out.length (Nat.le_refl _) (fun t h1 h2 => by omega))
    simp only [juratref09_Sorted.l0]
    rw [if_pos (by omega)]
theorem rsorted_ev (l : List ByteArray) (hl : l.length ≤ 8796093022200) : Ev (fun k => juratref09_Sorted.f k l) (sortB l) :=
  rsorted_both l hl l.length 0 (by omega) [] (by rw [List.take_zero]) List.Pairwise.nil

/-! there already -/
theorem inB_take (s : ByteArray) (l : List ByteArray) (i : Nat) : inB s (l.take i) = true ↔ ∃ t, t < i ∧ t < l.length ∧ l.getD t ByteArray.empty = s := by
  rw [inB_iff, List.mem_iff_getElem]
  constructor
  · rintro ⟨t, ht, rfl⟩
    rw [List.length_take] at ht
    refine ⟨t, by omega, by omega, ?_⟩
    rw [List.getD_eq_getElem?_getD, List.getElem?_eq_getElem (by omega : t < l.length), List.getElem_take]; rfl
  · rintro ⟨t, h1, h2, rfl⟩
    refine ⟨t, by rw [List.length_take]; omega, ?_⟩
    rw [List.getD_eq_getElem?_getD, List.getElem?_eq_getElem (by omega : t < l.length), List.getElem_take]; rfl
theorem rtwice_both (l : List ByteArray) (hl : l.length ≤ 9223372036854775806) : ∀ (d i : Nat), i + d = l.length →
    Ev (fun k => juratref09_Twice.l0 k l (i : Int)) (twB (l.take i) (l.drop i) i) := by
  intro d
  induction d with
  | zero =>
    intro i hi
    refine Ev.ret fun k => ?_
    simp only [juratref09_Twice.l0]
    rw [if_neg (by omega), List.drop_of_length_le (by omega)]
    rfl
  | succ d ih =>
    intro i hi
    have ih' := ih (i + 1) (by omega)
    rw [take_snoc l i ByteArray.empty (by omega)] at ih'
    rw [getD_drop l i ByteArray.empty (by omega)]
    have inner : ∀ e j, j + e = i → (∀ t, t < j → ¬ l.getD t ByteArray.empty = l.getD i ByteArray.empty) →
        Ev (fun k => juratref09_Twice.l1 k l (i : Int) (j : Int)) (twB (l.take i) (l.getD i ByteArray.empty :: l.drop (i + 1)) i) := by
      intro e
      induction e with
      | zero =>
        intro j hj hn
        have hin : ¬ inB (l.getD i ByteArray.empty) (l.take i) = true := fun h => by
          obtain ⟨t, h1, h2, h3⟩ := (inB_take _ _ _).1 h
          exact hn t (by omega) h3
        simp only [twB]
        rw [if_neg hin]
        refine Ev.step (f := fun k => juratref09_Twice.l0 k l ((i + 1 : Nat) : Int)) (fun k => ?_) ih'
        simp only [juratref09_Twice.l1]
        rw [if_neg (by omega), wrap_id (by omega) (by omega)]
        rfl
      | succ e ihe =>
        intro j hj hn
        have e1 : rdOf ByteArray.empty l (i : Int) = l.getD i ByteArray.empty := rfl
        have e2 : rdOf ByteArray.empty l (j : Int) = l.getD j ByteArray.empty := rfl
        by_cases h : l.getD j ByteArray.empty = l.getD i ByteArray.empty
        · have hin : inB (l.getD i ByteArray.empty) (l.take i) = true := (inB_take _ _ _).2 ⟨j, by omega, by omega, h⟩
          simp only [twB]
          rw [if_pos hin]
          refine Ev.ret fun k => ?_
          simp only [juratref09_Twice.l1]
          rw [if_pos (by omega), if_pos (by omega), if_pos (by omega), if_pos (by omega), if_pos (by omega), e1, e2, if_pos (toList_iff.2 h)]
        · refine Ev.step (f := fun k => juratref09_Twice.l1 k l (i : Int) ((j + 1 : Nat) : Int)) (fun k => ?_) (ihe (j + 1) (by omega) (fun t ht => by
            by_cases he : t = j
            · subst he; exact h
            · exact hn t (by omega)))
          simp only [juratref09_Twice.l1]
          rw [if_pos (by omega), if_pos (by omega), if_pos (by omega), if_pos (by omega), if_pos (by omega), e1, e2, if_neg (fun x => h (toList_iff.1 x)), wrap_id (by omega) (by omega)]
          rfl
    refine Ev.step (f := fun k => juratref09_Twice.l1 k l (i : Int) ((0 : Nat) : Int)) (fun k => ?_) (inner i 0 (by omega) (fun t ht => absurd ht (Nat.not_lt_zero _)))
    simp only [juratref09_Twice.l0]
    rw [if_pos (by omega)]
    rfl
theorem rtwice_ev (l : List ByteArray) (hl : l.length ≤ 9223372036854775806) : Ev (fun k => juratref09_Twice.f k l) (twB [] l 0) := by
  have h := rtwice_both l hl l.length 0 (by omega)
  rw [List.take_zero, List.drop_zero] at h
  exact h

end Go.Proofs.Ytnpkbnfiadkgnaa.Base

/- Proved here: what Go functions of this seat compute, or a law of it; no condition beyond the statement's own. Written for this claim by a program of this session (wip/myprint.py) over the kit's print.py. -/
namespace Go.Proofs.Ytnpkbnfiadkgnaa.P
open Go.RowKit Go.Proofs.YtnpkbnfiadkgnaaW.PrintWords Go.Proofs.YtnpkbnfiadkgnaaW.PrintLast Go.Proofs.YtnpkbnfiadkgnaaW.PrintMore
attribute [local go_sem] max2_int min2_int max_two min_two max_three min_three max_four min_four   -- for this text's walks alone
set_option linter.unusedVariables false
set_option linter.unusedSimpArgs false

/-! ### juratref10_New: function 13 -/
def juratref10_New.l0 : Nat → List ByteArray → Int → Int → Option (List ByteArray × Int)
  | 0, _, _, _ => none
  | k + 1, x0, x4, x5 => if x5 < (x0.length : Int) then (if 0 ≤ x5 then (if (rdOf ByteArray.empty x0 x5).toList = ([] : List UInt8) then (some (([] : List ByteArray), 7)) else (if ((rdOf ByteArray.empty x0 x5).size : Int) > 65535 then (some (([] : List ByteArray), 5)) else (juratref10_New.l0 k x0 (wrap64 (x4 + ((rdOf ByteArray.empty x0 x5).size : Int))) (wrap64 (x5 + 1))))) else (none)) else (if x4 > 16777216 then (some (([] : List ByteArray), 13)) else ((juratref09_Twice.f k x0).bind fun t173 => (if t173 ≥ 0 then (some (([] : List ByteArray), 8)) else ((juratref09_Sorted.f k x0).bind fun t174 => (some (t174, 0))))))
def juratref10_New.f (k : Nat) (l0 : List ByteArray) : Option (List ByteArray × Int) := if (l0.length : Int) = 0 then (some (([] : List ByteArray), 14)) else (if (l0.length : Int) > 65535 then (some (([] : List ByteArray), 6)) else (juratref10_New.l0 k l0 0 0))
theorem juratref10_New.mono_l : ∀ k, (∀ y0 y1 y2, LeO (juratref10_New.l0 k y0 y1 y2) (juratref10_New.l0 (k + 1) y0 y1 y2))
  | 0 => fun _ _ _ r h => by simp [juratref10_New.l0] at h
  | k + 1 => by
    have ih0 := juratref10_New.mono_l k
    · intro y0 y1 y2
      unfold juratref10_New.l0
      repeat' first
      | (with_reducible exact ih0 _ _ _)
      | (with_reducible exact juratref09_Sorted.mono _ _)
      | (with_reducible exact juratref09_Twice.mono _ _)
      | (with_reducible exact LeO.refl _)
      | (with_reducible exact LeO.none _)
      | (with_reducible refine LeO.ite ?_ ?_)
      | (with_reducible refine LeO.bind ?_ (fun _ => ?_))
      | exact ih0 _ _ _
      | exact juratref09_Sorted.mono _ _
      | exact juratref09_Twice.mono _ _
      | exact LeO.none _
      | refine LeO.ite ?_ ?_
      | refine LeO.bind ?_ (fun _ => ?_)
theorem juratref10_New.mono : ∀ a0 k, LeO (juratref10_New.f k a0) (juratref10_New.f (k + 1) a0) := by
  intro a0 k
  have ih0 := juratref10_New.mono_l k
  unfold juratref10_New.f
  repeat' first
      | (with_reducible exact ih0 _ _ _)
      | (with_reducible exact juratref09_Sorted.mono _ _)
      | (with_reducible exact juratref09_Twice.mono _ _)
      | (with_reducible exact LeO.refl _)
      | (with_reducible exact LeO.none _)
      | (with_reducible refine LeO.ite ?_ ?_)
      | (with_reducible refine LeO.bind ?_ (fun _ => ?_))
      | exact ih0 _ _ _
      | exact juratref09_Sorted.mono _ _
      | exact juratref09_Twice.mono _ _
      | exact LeO.none _
      | refine LeO.ite ?_ ?_
      | refine LeO.bind ?_ (fun _ => ?_)
set_option maxHeartbeats 8000000 in
set_option maxRecDepth 100000 in
theorem juratref10_New.calls (k : Nat) (A0 : Option Addr) (c0 : Nat) (l0 : List ByteArray) (r1 : List ByteArray) (r2 : Int) (w : World) (hr0 : Kd.C Kd.string w A0 l0.length l0) (hc0 : l0.length ≤ c0) (h : juratref10_New.f k l0 = some (r1, r2)) :
    Calls Try.prog 13 #[.slice A0 l0.length c0] w fun e w' => ∃ v0_ : Value, e = .returned (.tuple #[v0_, .int .i64 r2]) ∧ Kd.R Kd.string 9 w' w.heap.size (fun _ => True) v0_ r1 ∧ Below w.heap.size w w' := by
  have HR0 := Aside0.mk hr0
  have HC0 := Aside0.mk hc0
  clear hr0 hc0
  have HB := Aside0.mk (Below.refl w.heap.size w)
  have H : (if (l0.length : Int) = 0 then (some (([] : List ByteArray), 14)) else (if (l0.length : Int) > 65535 then (some (([] : List ByteArray), 6)) else (juratref10_New.l0 k l0 0 0))) = some (r1, r2) := h
  clear h
  by_cases c2 : (l0.length : Int) = 0
  · rw [if_pos c2] at H
    have c2b0 : ((l0.length : Int) == 0) = true := beq_iff_eq.mpr c2
    have c2b1 : ((l0.length : Int) != 0) = false := bne_eq_false_iff_eq.mpr c2
    clear c2
    simp only [Option.some.injEq, Prod.mk.injEq] at H
    obtain ⟨rfl, rfl⟩ := H
    go_enter Try.func13, Try.ntmps13
    go_wp2
    go_ret2
    exact ⟨_, by first | rfl | (simp [errW_none, errW_some] <;> rfl) | (simp [*, errW_none, errW_some] <;> rfl), by first | exact Kd.R_nil _ _ _ _ _ | exact Kd.N_nil _ _ _ _ _ | exact Kd.V_nil _ _ _ _ _ | exact Kd.Q_nil _ _ _ _ _ | exact Kd.S_nil _ _ _ _ _, by repeat (first | (with_reducible first | exact HB.out | apply below_alloc | apply pw_below_drewN | apply below_drew1) | exact HB.out)⟩
  · rw [if_neg c2] at H
    have c2b0 : ((l0.length : Int) == 0) = false := beq_eq_false_iff_ne.mpr c2
    have c2b1 : ((l0.length : Int) != 0) = true := bne_iff_ne.mpr c2
    have c2b2 : ¬ (l0 = []) := fun h_ => c2 (by rw [h_]; rfl)
    by_cases c3 : (l0.length : Int) > 65535
    · rw [if_pos c3] at H
      have c3b0 : decide (65535 < (l0.length : Int)) = true := decide_eq_true c3
      have c3b1 : decide (65535 < l0.length) = true := decide_eq_true (by omega)
      clear c3
      simp only [Option.some.injEq, Prod.mk.injEq] at H
      obtain ⟨rfl, rfl⟩ := H
      go_enter Try.func13, Try.ntmps13
      go_wp2
      go_ret2
      exact ⟨_, by first | rfl | (simp [errW_none, errW_some] <;> rfl) | (simp [*, errW_none, errW_some] <;> rfl), by first | exact Kd.R_nil _ _ _ _ _ | exact Kd.N_nil _ _ _ _ _ | exact Kd.V_nil _ _ _ _ _ | exact Kd.Q_nil _ _ _ _ _ | exact Kd.S_nil _ _ _ _ _, by repeat (first | (with_reducible first | exact HB.out | apply below_alloc | apply pw_below_drewN | apply below_drew1) | exact HB.out)⟩
    · rw [if_neg c3] at H
      have c3b0 : decide (65535 < (l0.length : Int)) = false := decide_eq_false c3
      have c3b1 : decide (65535 < l0.length) = false := decide_eq_false (by omega)
      clear c3
      have H' := Aside0.mk H
      clear H
      go_enter Try.func13, Try.ntmps13
      go_wp2
      go_loopg [4, 5] k (fun kq v4 v5 w' => ∃ (x4_1 : Int) (x5_1 : Int), v4 = .int .i64 x4_1 ∧ v5 = .int .i64 x5_1 ∧ Aside0 (juratref10_New.l0 kq l0 x4_1 x5_1 = some (r1, r2)) ∧ Aside0 (kq ≤ k) ∧ Aside0 (Below w.heap.size w w'))
      case atStart => exact ⟨(0), (0), (by first | rfl | exact isE_ _ | exact isE2_ _ | (simp; done) | (simp [*]; done)), (by first | rfl | exact isE_ _ | exact isE2_ _ | (simp; done) | (simp [*]; done)), H', ⟨Nat.le_refl _⟩, ⟨by repeat (first | (with_reducible first | exact HB.out | apply below_alloc | apply pw_below_drewN | apply below_drew1) | exact HB.out)⟩⟩
      case round =>
        clear H'
        try clear c1
        try clear c2
        try clear c2b0
        try clear c2b1
        try clear c2b2
        try clear p2
        try clear c3
        try clear c3b0
        try clear c3b1
        obtain ⟨x4_1, x5_1, rfl, rfl, HA, HK1, HB⟩ := hrel
        cases gk with
        | zero => exact absurd HA.out (by simp [juratref10_New.l0])
        | succ k1 =>
          have H := HA.out
          clear HA
          simp only [juratref10_New.l0] at H
          by_cases c4 : x5_1 < (l0.length : Int)
          · rw [if_pos c4] at H
            have c4b0 : decide (x5_1 < (l0.length : Int)) = true := decide_eq_true c4
            clear c4
            by_cases c5 : 0 ≤ x5_1
            · rw [if_pos c5] at H
              have c5b0 : decide (0 ≤ x5_1) = true := decide_eq_true c5
              clear c5
              by_cases c6 : (rdOf ByteArray.empty l0 x5_1).toList = ([] : List UInt8)
              · rw [if_pos c6] at H
                have c6b0 : ((rdOf ByteArray.empty l0 x5_1).toList == ([] : List UInt8)) = true := beq_iff_eq.mpr c6
                have c6b1 : ((rdOf ByteArray.empty l0 x5_1).toList != ([] : List UInt8)) = false := bne_eq_false_iff_eq.mpr c6
                clear c6
                simp only [Option.some.injEq, Prod.mk.injEq] at H
                obtain ⟨rfl, rfl⟩ := H
                have p170 : 0 ≤ (x5_1 : Int) := of_decide_eq_true (by first | (with_reducible assumption) | assumption)
                have q170 : x5_1 < (l0.length : Int) := of_decide_eq_true (by first | (with_reducible assumption) | assumption)
                obtain ⟨ad170, e170, hx170_0⟩ := Kd.at_string HR0.out x5_1 p170 q170
                cases e170
                replace hx170_0 := (HB.out.cell (World.block_lt_of_cell? w _ hx170_0)).trans hx170_0
                replace p170 := eq_true p170
                replace q170 := eq_true q170
                go_wp2
                go_ret2
                exact ⟨_, by first | rfl | (simp [errW_none, errW_some] <;> rfl) | (simp [*, errW_none, errW_some] <;> rfl), by first | exact Kd.R_nil _ _ _ _ _ | exact Kd.N_nil _ _ _ _ _ | exact Kd.V_nil _ _ _ _ _ | exact Kd.Q_nil _ _ _ _ _ | exact Kd.S_nil _ _ _ _ _, by repeat (first | (with_reducible first | exact HB.out | apply below_alloc | apply pw_below_drewN | apply below_drew1) | exact HB.out)⟩
              · rw [if_neg c6] at H
                have c6b0 : ((rdOf ByteArray.empty l0 x5_1).toList == ([] : List UInt8)) = false := beq_eq_false_iff_ne.mpr c6
                have c6b1 : ((rdOf ByteArray.empty l0 x5_1).toList != ([] : List UInt8)) = true := bne_iff_ne.mpr c6
                by_cases c7 : ((rdOf ByteArray.empty l0 x5_1).size : Int) > 65535
                · rw [if_pos c7] at H
                  have c7b0 : decide (65535 < ((rdOf ByteArray.empty l0 x5_1).size : Int)) = true := decide_eq_true c7
                  have c7b1 : decide (65535 < (rdOf ByteArray.empty l0 x5_1).size) = true := decide_eq_true (by omega)
                  clear c7
                  simp only [Option.some.injEq, Prod.mk.injEq] at H
                  obtain ⟨rfl, rfl⟩ := H
                  have p170 : 0 ≤ (x5_1 : Int) := of_decide_eq_true (by first | (with_reducible assumption) | assumption)
                  have q170 : x5_1 < (l0.length : Int) := of_decide_eq_true (by first | (with_reducible assumption) | assumption)
                  obtain ⟨ad170, e170, hx170_0⟩ := Kd.at_string HR0.out x5_1 p170 q170
                  cases e170
                  replace hx170_0 := (HB.out.cell (World.block_lt_of_cell? w _ hx170_0)).trans hx170_0
                  replace p170 := eq_true p170
                  replace q170 := eq_true q170
                  have p171 : 0 ≤ (x5_1 : Int) := of_decide_eq_true (by first | (with_reducible assumption) | assumption)
                  have q171 : x5_1 < (l0.length : Int) := of_decide_eq_true (by first | (with_reducible assumption) | assumption)
                  obtain ⟨ad171, e171, hx171_0⟩ := Kd.at_string HR0.out x5_1 p171 q171
                  obtain rfl : ad170 = ad171 := (by injection e171)
                  replace hx171_0 := (HB.out.cell (World.block_lt_of_cell? w _ hx171_0)).trans hx171_0
                  replace p171 := eq_true p171
                  replace q171 := eq_true q171
                  go_wp2
                  go_ret2
                  exact ⟨_, by first | rfl | (simp [errW_none, errW_some] <;> rfl) | (simp [*, errW_none, errW_some] <;> rfl), by first | exact Kd.R_nil _ _ _ _ _ | exact Kd.N_nil _ _ _ _ _ | exact Kd.V_nil _ _ _ _ _ | exact Kd.Q_nil _ _ _ _ _ | exact Kd.S_nil _ _ _ _ _, by repeat (first | (with_reducible first | exact HB.out | apply below_alloc | apply pw_below_drewN | apply below_drew1) | exact HB.out)⟩
                · rw [if_neg c7] at H
                  have c7b0 : decide (65535 < ((rdOf ByteArray.empty l0 x5_1).size : Int)) = false := decide_eq_false c7
                  have c7b1 : decide (65535 < (rdOf ByteArray.empty l0 x5_1).size) = false := decide_eq_false (by omega)
                  clear c7
                  have H' := Aside0.mk H
                  clear H
                  have p170 : 0 ≤ (x5_1 : Int) := of_decide_eq_true (by first | (with_reducible assumption) | assumption)
                  have q170 : x5_1 < (l0.length : Int) := of_decide_eq_true (by first | (with_reducible assumption) | assumption)
                  obtain ⟨ad170, e170, hx170_0⟩ := Kd.at_string HR0.out x5_1 p170 q170
                  cases e170
                  replace hx170_0 := (HB.out.cell (World.block_lt_of_cell? w _ hx170_0)).trans hx170_0
                  replace p170 := eq_true p170
                  replace q170 := eq_true q170
                  have p171 : 0 ≤ (x5_1 : Int) := of_decide_eq_true (by first | (with_reducible assumption) | assumption)
                  have q171 : x5_1 < (l0.length : Int) := of_decide_eq_true (by first | (with_reducible assumption) | assumption)
                  obtain ⟨ad171, e171, hx171_0⟩ := Kd.at_string HR0.out x5_1 p171 q171
                  obtain rfl : ad170 = ad171 := (by injection e171)
                  replace hx171_0 := (HB.out.cell (World.block_lt_of_cell? w _ hx171_0)).trans hx171_0
                  replace p171 := eq_true p171
                  replace q171 := eq_true q171
                  have p172 : 0 ≤ (x5_1 : Int) := of_decide_eq_true (by first | (with_reducible assumption) | assumption)
                  have q172 : x5_1 < (l0.length : Int) := of_decide_eq_true (by first | (with_reducible assumption) | assumption)
                  obtain ⟨ad172, e172, hx172_0⟩ := Kd.at_string HR0.out x5_1 p172 q172
                  obtain rfl : ad170 = ad172 := (by injection e172)
                  replace hx172_0 := (HB.out.cell (World.block_lt_of_cell? w _ hx172_0)).trans hx172_0
                  replace p172 := eq_true p172
                  replace q172 := eq_true q172
                  go_wp2
                  go_roundg k1
                  case measure => have := HK1.out; omega
                  case rel => exact ⟨(wrap64 (x4_1 + ((rdOf ByteArray.empty l0 x5_1).size : Int))), (wrap64 (x5_1 + 1)), (by first | rfl | exact isE_ _ | exact isE2_ _ | (simp; done) | (simp [*]; done)), (by first | rfl | exact isE_ _ | exact isE2_ _ | (simp; done) | (simp [*]; done)), H', ⟨by have := HK1.out; omega⟩, ⟨by repeat (first | (with_reducible first | exact HB.out | apply below_alloc | apply pw_below_drewN | apply below_drew1) | exact HB.out)⟩⟩
            · rw [if_neg c5] at H
              exact absurd H (by simp)
          · rw [if_neg c4] at H
            have c4b0 : decide (x5_1 < (l0.length : Int)) = false := decide_eq_false c4
            clear c4
            by_cases c8 : x4_1 > 16777216
            · rw [if_pos c8] at H
              have c8b0 : decide (16777216 < x4_1) = true := decide_eq_true c8
              clear c8
              simp only [Option.some.injEq, Prod.mk.injEq] at H
              obtain ⟨rfl, rfl⟩ := H
              go_wp2
              go_ret2
              exact ⟨_, by first | rfl | (simp [errW_none, errW_some] <;> rfl) | (simp [*, errW_none, errW_some] <;> rfl), by first | exact Kd.R_nil _ _ _ _ _ | exact Kd.N_nil _ _ _ _ _ | exact Kd.V_nil _ _ _ _ _ | exact Kd.Q_nil _ _ _ _ _ | exact Kd.S_nil _ _ _ _ _, by repeat (first | (with_reducible first | exact HB.out | apply below_alloc | apply pw_below_drewN | apply below_drew1) | exact HB.out)⟩
            · rw [if_neg c8] at H
              have c8b0 : decide (16777216 < x4_1) = false := decide_eq_false c8
              clear c8
              replace H := Option.bind_eq_some_iff.mp H
              obtain ⟨t173, A90, H⟩ := H
              replace H : (if t173 ≥ 0 then (some (([] : List ByteArray), 8)) else ((juratref09_Sorted.f k1 l0).bind fun t174 => (some (t174, 0)))) = some (r1, r2) := H
              have A9 := Aside0.mk A90
              clear A90
              by_cases c10 : t173 ≥ 0
              · rw [if_pos c10] at H
                have c10b0 : decide (0 ≤ t173) = true := decide_eq_true c10
                clear c10
                simp only [Option.some.injEq, Prod.mk.injEq] at H
                obtain ⟨rfl, rfl⟩ := H
                go_wp2_with (first | ((with_reducible refine gate_callee (f := 55) rfl ?_); refine goesL_ (some 39) rfl rfl Try.func55 (by kernel_rfl) rfl #[.slice A0 l0.length c0] rfl (by (try simp only [List.map_toArray, List.map_cons, List.map_nil]); first | done | rfl | (simp only [List.length_drop, List.length_take]; rfl)) ?_; (with_reducible refine (juratref09_Twice.calls k1 _ _ l0 t173 _ ?side1 ?side2 A9.out).mono ?_); (case side1 => repeat (first | exact (Kd.C_below HR0.out HB.out) | (with_reducible refine Kd.C_alloc ?_ _) | (with_reducible refine Kd.C_drewN ?_ _) | (with_reducible refine Kd.C_drew ?_))); (case side2 => exact HC0.out); rintro e w' ⟨rfl, ⟨nd, rfl⟩⟩; refine ⟨_, rfl, ?_⟩))
                go_ret2
                exact ⟨_, by first | rfl | (simp [errW_none, errW_some] <;> rfl) | (simp [*, errW_none, errW_some] <;> rfl), by first | exact Kd.R_nil _ _ _ _ _ | exact Kd.N_nil _ _ _ _ _ | exact Kd.V_nil _ _ _ _ _ | exact Kd.Q_nil _ _ _ _ _ | exact Kd.S_nil _ _ _ _ _, by repeat (first | (with_reducible first | exact HB.out | apply below_alloc | apply pw_below_drewN | apply below_drew1) | exact HB.out)⟩
              · rw [if_neg c10] at H
                have c10b0 : decide (0 ≤ t173) = false := decide_eq_false c10
                clear c10
                replace H := Option.bind_eq_some_iff.mp H
                obtain ⟨t174, A110, H⟩ := H
                replace H : (some (t174, 0)) = some (r1, r2) := H
                have A11 := Aside0.mk A110
                clear A110
                simp only [Option.some.injEq, Prod.mk.injEq] at H
                obtain ⟨rfl, rfl⟩ := H
                go_wp2_with (first | ((with_reducible refine gate_callee (f := 55) rfl ?_); refine goesL_ (some 39) rfl rfl Try.func55 (by kernel_rfl) rfl #[.slice A0 l0.length c0] rfl (by (try simp only [List.map_toArray, List.map_cons, List.map_nil]); first | done | rfl | (simp only [List.length_drop, List.length_take]; rfl)) ?_; (with_reducible refine (juratref09_Twice.calls k1 _ _ l0 t173 _ ?side1 ?side2 A9.out).mono ?_); (case side1 => repeat (first | exact (Kd.C_below HR0.out HB.out) | (with_reducible refine Kd.C_alloc ?_ _) | (with_reducible refine Kd.C_drewN ?_ _) | (with_reducible refine Kd.C_drew ?_))); (case side2 => exact HC0.out); rintro e w' ⟨rfl, ⟨nd, rfl⟩⟩; refine ⟨_, rfl, ?_⟩) | ((with_reducible refine gate_callee (f := 56) rfl ?_); refine goesL_ (some 42) rfl rfl Try.func56 (by kernel_rfl) rfl #[.slice A0 l0.length c0] rfl (by (try simp only [List.map_toArray, List.map_cons, List.map_nil]); first | done | rfl | (simp only [List.length_drop, List.length_take]; rfl)) ?_; (with_reducible refine (juratref09_Sorted.calls k1 _ _ l0 t174 _ ?side1 ?side2 A11.out).mono ?_); (case side1 => repeat (first | exact (Kd.C_below HR0.out (by repeat (first | (with_reducible first | exact HB.out | apply below_alloc | apply pw_below_drewN | apply below_drew1) | exact HB.out))) | (with_reducible refine Kd.C_alloc ?_ _) | (with_reducible refine Kd.C_drewN ?_ _) | (with_reducible refine Kd.C_drew ?_))); (case side2 => exact HC0.out); rintro e w12 ⟨v175, rfl, ho0, hb⟩; refine ⟨_, rfl, ?_⟩; have n0_ := Aside0.mk (Kd.R_lower ho0 (below_size (by repeat (first | (with_reducible first | exact HB.out | apply below_alloc | apply pw_below_drewN | apply below_drew1) | exact HB.out)))); have n1_ := Aside0.mk (below_step (by repeat (first | (with_reducible first | exact HB.out | apply below_alloc | apply pw_below_drewN | apply below_drew1) | exact HB.out)) hb); clear HB; have HO176 := n0_; have HB := n1_; clear n0_ n1_; (try clear hb); (try clear hb2); (try clear hk); (try clear hi); (try clear ho0)))
                go_ret2
                exact ⟨_, by first | rfl | (simp [errW_none, errW_some] <;> rfl) | (simp [*, errW_none, errW_some] <;> rfl), by (with_reducible repeat (first | apply Kd.R_alloc | apply Kd.R_drewN | apply Kd.R_drew)); exact HO176.out, by repeat (first | (with_reducible first | exact HB.out | apply below_alloc | apply pw_below_drewN | apply below_drew1) | exact HB.out)⟩

end Go.Proofs.Ytnpkbnfiadkgnaa.P

/- Proved here: what Go functions of this seat compute, or a law of it; no condition beyond the statement's own. Written for this claim by a program of this session (wip/myprint.py) over the kit's print.py. -/
namespace Go.Proofs.Ytnpkbnfiadkgnaa.P
open Go.RowKit Go.Proofs.YtnpkbnfiadkgnaaW.PrintWords Go.Proofs.YtnpkbnfiadkgnaaW.PrintLast Go.Proofs.YtnpkbnfiadkgnaaW.PrintMore
attribute [local go_sem] max2_int min2_int max_two min_two max_three min_three max_four min_four   -- for this text's walks alone
set_option linter.unusedVariables false
set_option linter.unusedSimpArgs false

/-! ### juratref10_Least: function 60 -/
def juratref10_Least.l0 : Nat → List ByteArray → Int → Int → Option (Int)
  | 0, _, _, _ => none
  | k + 1, x0, x3, x4 => if x4 < (x0.length : Int) then (if x4 = 0 then (if 0 ≤ x4 then (juratref10_Least.l0 k x0 ((rdOf ByteArray.empty x0 x4).size : Int) (wrap64 (x4 + 1))) else (none)) else (if 0 ≤ x4 then (if ((rdOf ByteArray.empty x0 x4).size : Int) < x3 then (juratref10_Least.l0 k x0 ((rdOf ByteArray.empty x0 x4).size : Int) (wrap64 (x4 + 1))) else (juratref10_Least.l0 k x0 x3 (wrap64 (x4 + 1)))) else (none))) else (some x3)
def juratref10_Least.f (k : Nat) (l0 : List ByteArray) : Option (Int) := juratref10_Least.l0 k l0 0 0
theorem juratref10_Least.mono_l : ∀ k, (∀ y0 y1 y2, LeO (juratref10_Least.l0 k y0 y1 y2) (juratref10_Least.l0 (k + 1) y0 y1 y2))
  | 0 => fun _ _ _ r h => by simp [juratref10_Least.l0] at h
  | k + 1 => by
    have ih0 := juratref10_Least.mono_l k
    · intro y0 y1 y2
      unfold juratref10_Least.l0
      repeat' first
      | (with_reducible exact ih0 _ _ _)
      | (with_reducible exact LeO.refl _)
      | (with_reducible exact LeO.none _)
      | (with_reducible refine LeO.ite ?_ ?_)
      | (with_reducible refine LeO.bind ?_ (fun _ => ?_))
      | exact ih0 _ _ _
      | exact LeO.none _
      | refine LeO.ite ?_ ?_
      | refine LeO.bind ?_ (fun _ => ?_)
theorem juratref10_Least.mono : ∀ a0 k, LeO (juratref10_Least.f k a0) (juratref10_Least.f (k + 1) a0) := by
  intro a0 k
  have ih0 := juratref10_Least.mono_l k
  unfold juratref10_Least.f
  repeat' first
      | (with_reducible exact ih0 _ _ _)
      | (with_reducible exact LeO.refl _)
      | (with_reducible exact LeO.none _)
      | (with_reducible refine LeO.ite ?_ ?_)
      | (with_reducible refine LeO.bind ?_ (fun _ => ?_))
      | exact ih0 _ _ _
      | exact LeO.none _
      | refine LeO.ite ?_ ?_
      | refine LeO.bind ?_ (fun _ => ?_)
set_option maxHeartbeats 8000000 in
set_option maxRecDepth 100000 in
theorem juratref10_Least.calls (k : Nat) (A0 : Option Addr) (c0 : Nat) (l0 : List ByteArray) (r : Int) (w : World) (hr0 : Kd.C Kd.string w A0 l0.length l0) (hc0 : l0.length ≤ c0) (h : juratref10_Least.f k l0 = some r) :
    Calls Try.prog 60 #[.slice A0 l0.length c0] w fun e w' => e = .returned (.int .i64 r) ∧ Drawn0 w w' := by
  have HR0 := Aside0.mk hr0
  have HC0 := Aside0.mk hc0
  clear hr0 hc0
  have H : (juratref10_Least.l0 k l0 0 0) = some r := h
  clear h
  have H' := Aside0.mk H
  clear H
  go_enter Try.func60, Try.ntmps60
  go_wp2
  go_loopg [3, 4] k (fun kq v3 v4 w' => ∃ (x3_1 : Int) (x4_1 : Int), v3 = .int .i64 x3_1 ∧ v4 = .int .i64 x4_1 ∧ Aside0 (juratref10_Least.l0 kq l0 x3_1 x4_1 = some r) ∧ Aside0 (kq ≤ k) ∧ Drawn0 w w')
  case atStart => exact ⟨(0), (0), (by first | rfl | exact isE_ _ | exact isE2_ _ | (simp; done) | (simp [*]; done)), (by first | rfl | exact isE_ _ | exact isE2_ _ | (simp; done) | (simp [*]; done)), H', ⟨Nat.le_refl _⟩, by repeat (first | exact Drawn0.refl _ | apply Drawn0.step)⟩
  case round =>
    clear H'
    obtain ⟨x3_1, x4_1, rfl, rfl, HA, HK1, ⟨m1, rfl⟩⟩ := hrel
    cases gk with
    | zero => exact absurd HA.out (by simp [juratref10_Least.l0])
    | succ k1 =>
      have H := HA.out
      clear HA
      simp only [juratref10_Least.l0] at H
      by_cases c2 : x4_1 < (l0.length : Int)
      · rw [if_pos c2] at H
        have c2b0 : decide (x4_1 < (l0.length : Int)) = true := decide_eq_true c2
        clear c2
        by_cases c3 : x4_1 = 0
        · rw [if_pos c3] at H
          have c3b0 : (x4_1 == 0) = true := beq_iff_eq.mpr c3
          have c3b1 : (x4_1 != 0) = false := bne_eq_false_iff_eq.mpr c3
          clear c3
          by_cases c4 : 0 ≤ x4_1
          · rw [if_pos c4] at H
            have c4b0 : decide (0 ≤ x4_1) = true := decide_eq_true c4
            clear c4
            have H' := Aside0.mk H
            clear H
            have p242 : 0 ≤ (x4_1 : Int) := of_decide_eq_true (by first | (with_reducible assumption) | assumption)
            have q242 : x4_1 < (l0.length : Int) := of_decide_eq_true (by first | (with_reducible assumption) | assumption)
            obtain ⟨ad242, e242, hx242_0⟩ := Kd.at_string HR0.out x4_1 p242 q242
            cases e242
            replace p242 := eq_true p242
            replace q242 := eq_true q242
            go_wp2
            go_roundg k1
            case measure => have := HK1.out; omega
            case rel => exact ⟨(((rdOf ByteArray.empty l0 x4_1).size : Int)), (wrap64 (x4_1 + 1)), (by first | rfl | exact isE_ _ | exact isE2_ _ | (simp; done) | (simp [*]; done)), (by first | rfl | exact isE_ _ | exact isE2_ _ | (simp; done) | (simp [*]; done)), H', ⟨by have := HK1.out; omega⟩, by repeat (first | exact Drawn0.refl _ | apply Drawn0.step)⟩
          · rw [if_neg c4] at H
            exact absurd H (by simp)
        · rw [if_neg c3] at H
          have c3b0 : (x4_1 == 0) = false := beq_eq_false_iff_ne.mpr c3
          have c3b1 : (x4_1 != 0) = true := bne_iff_ne.mpr c3
          by_cases c5 : 0 ≤ x4_1
          · rw [if_pos c5] at H
            have c5b0 : decide (0 ≤ x4_1) = true := decide_eq_true c5
            clear c5
            by_cases c6 : ((rdOf ByteArray.empty l0 x4_1).size : Int) < x3_1
            · rw [if_pos c6] at H
              have c6b0 : decide (((rdOf ByteArray.empty l0 x4_1).size : Int) < x3_1) = true := decide_eq_true c6
              clear c6
              have H' := Aside0.mk H
              clear H
              have p243 : 0 ≤ (x4_1 : Int) := of_decide_eq_true (by first | (with_reducible assumption) | assumption)
              have q243 : x4_1 < (l0.length : Int) := of_decide_eq_true (by first | (with_reducible assumption) | assumption)
              obtain ⟨ad243, e243, hx243_0⟩ := Kd.at_string HR0.out x4_1 p243 q243
              cases e243
              replace p243 := eq_true p243
              replace q243 := eq_true q243
              have p244 : 0 ≤ (x4_1 : Int) := of_decide_eq_true (by first | (with_reducible assumption) | assumption)
              have q244 : x4_1 < (l0.length : Int) := of_decide_eq_true (by first | (with_reducible assumption) | assumption)
              obtain ⟨ad244, e244, hx244_0⟩ := Kd.at_string HR0.out x4_1 p244 q244
              obtain rfl : ad243 = ad244 := (by injection e244)
              replace p244 := eq_true p244
              replace q244 := eq_true q244
              go_wp2
              go_roundg k1
              case measure => have := HK1.out; omega
              case rel => exact ⟨(((rdOf ByteArray.empty l0 x4_1).size : Int)), (wrap64 (x4_1 + 1)), (by first | rfl | exact isE_ _ | exact isE2_ _ | (simp; done) | (simp [*]; done)), (by first | rfl | exact isE_ _ | exact isE2_ _ | (simp; done) | (simp [*]; done)), H', ⟨by have := HK1.out; omega⟩, by repeat (first | exact Drawn0.refl _ | apply Drawn0.step)⟩
            · rw [if_neg c6] at H
              have c6b0 : decide (((rdOf ByteArray.empty l0 x4_1).size : Int) < x3_1) = false := decide_eq_false c6
              clear c6
              have H' := Aside0.mk H
              clear H
              have p243 : 0 ≤ (x4_1 : Int) := of_decide_eq_true (by first | (with_reducible assumption) | assumption)
              have q243 : x4_1 < (l0.length : Int) := of_decide_eq_true (by first | (with_reducible assumption) | assumption)
              obtain ⟨ad243, e243, hx243_0⟩ := Kd.at_string HR0.out x4_1 p243 q243
              cases e243
              replace p243 := eq_true p243
              replace q243 := eq_true q243
              go_wp2
              go_roundg k1
              case measure => have := HK1.out; omega
              case rel => exact ⟨(x3_1), (wrap64 (x4_1 + 1)), (by first | rfl | exact isE_ _ | exact isE2_ _ | (simp; done) | (simp [*]; done)), (by first | rfl | exact isE_ _ | exact isE2_ _ | (simp; done) | (simp [*]; done)), H', ⟨by have := HK1.out; omega⟩, by repeat (first | exact Drawn0.refl _ | apply Drawn0.step)⟩
          · rw [if_neg c5] at H
            exact absurd H (by simp)
      · rw [if_neg c2] at H
        have c2b0 : decide (x4_1 < (l0.length : Int)) = false := decide_eq_false c2
        clear c2
        obtain rfl := Option.some.inj H
        go_wp2
        go_ret
        exact ⟨by first | rfl | (simp; done) | (simp [*]; done), by repeat (first | exact Drawn0.refl _ | apply Drawn0.step)⟩

end Go.Proofs.Ytnpkbnfiadkgnaa.P

/- What layer 10's reference makes of texts, as plain functions; no condition beyond the sizes that stand in each statement. -/
namespace Go.Proofs.Ytnpkbnfiadkgnaa.Base
open Go Go.RowKit Go.Proofs.YtnpkbnfiadkgnaaW.PrintWords Go.Proofs.YtnpkbnfiadkgnaaW.PrintMore Go.Proofs.Ytnpkbnfiadkgnaa.P
set_option linter.unusedVariables false

/-- The patterns in order, or the error. -/
def newB (l : List ByteArray) : List ByteArray × Int :=
  if l.length = 0 then ([], 14) else if l.length > 65535 then ([], 6) else if badB l ≠ 0 then ([], badB l) else if totalB 0 l > 16777216 then ([], 13) else if twB [] l 0 ≥ 0 then ([], 8) else (sortB l, 0)
theorem rnew_l0 (l : List ByteArray) (hl : l.length ≤ 65535) : ∀ (d i n : Nat), i + d = l.length → n ≤ i * 65535 →
    Ev (fun k => juratref10_New.l0 k l (n : Int) (i : Int)) (if badB (l.drop i) ≠ 0 then ([], badB (l.drop i)) else if totalB n (l.drop i) > 16777216 then ([], 13) else if twB [] l 0 ≥ 0 then ([], 8) else (sortB l, 0)) := by
  intro d
  induction d with
  | zero =>
    intro i n hi hn
    rw [List.drop_of_length_le (by omega), if_neg (by simp [badB])]
    have hn' : totalB n [] = n := rfl
    rw [hn']
    by_cases h1 : n > 16777216
    · rw [if_pos h1]
      refine Ev.ret fun k => ?_
      simp only [juratref10_New.l0]
      rw [if_neg (by omega), if_pos (by omega)]
    · rw [if_neg h1]
      refine Ev.step (f := fun k => (juratref09_Twice.f k l).bind fun t => if t ≥ 0 then some ([], 8) else (juratref09_Sorted.f k l).bind fun s => some (s, 0)) (fun k => ?_) ?_
      · simp only [juratref10_New.l0]
        rw [if_neg (by omega), if_neg (by omega)]
      refine Ev.bind (rtwice_ev l (by omega)) ?_
      by_cases h2 : twB [] l 0 ≥ 0
      · rw [if_pos h2]
        exact Ev.congr (fun k => if_pos h2) (Ev.now _)
      · rw [if_neg h2]
        exact Ev.congr (fun k => if_neg h2) (Ev.bind (rsorted_ev l (by omega)) (Ev.now _))
  | succ d ih =>
    intro i n hi hn
    have hd := getD_drop l i ByteArray.empty (by omega)
    have e : rdOf ByteArray.empty l (i : Int) = l.getD i ByteArray.empty := rfl
    rw [hd]
    generalize l.getD i ByteArray.empty = s at e
    by_cases h0 : s.size = 0
    · have hc : chkB s = 7 := by unfold chkB; rw [if_pos h0]
      have hb : badB (s :: l.drop (i + 1)) = chkB s := by show (if chkB s = 0 then _ else chkB s) = chkB s; rw [if_neg (by omega)]
      rw [hb, hc, if_pos (by omega)]
      refine Ev.ret fun k => ?_
      simp only [juratref10_New.l0]
      rw [if_pos (by omega), if_pos (by omega), e, if_pos (toList_nil.2 h0)]
    by_cases h1 : s.size > 65535
    · have hc : chkB s = 5 := by unfold chkB; rw [if_neg h0, if_pos h1]
      have hb : badB (s :: l.drop (i + 1)) = chkB s := by show (if chkB s = 0 then _ else chkB s) = chkB s; rw [if_neg (by omega)]
      rw [hb, hc, if_pos (by omega)]
      refine Ev.ret fun k => ?_
      simp only [juratref10_New.l0]
      rw [if_pos (by omega), if_pos (by omega), e, if_neg (fun x => h0 (toList_nil.1 x)), if_pos (by omega)]
    have hc : chkB s = 0 := by unfold chkB; rw [if_neg h0, if_neg h1]
    have hb : badB (s :: l.drop (i + 1)) = badB (l.drop (i + 1)) := if_pos hc
    rw [hb]
    have ht : totalB n (s :: l.drop (i + 1)) = totalB (n + s.size) (l.drop (i + 1)) := rfl
    rw [ht]
    refine Ev.step (f := fun k => juratref10_New.l0 k l ((n + s.size : Nat) : Int) ((i + 1 : Nat) : Int)) (fun k => ?_) (ih (i + 1) (n + s.size) (by omega) (by omega))
    simp only [juratref10_New.l0]
    rw [if_pos (by omega), if_pos (by omega), e, if_neg (fun x => h0 (toList_nil.1 x)), if_neg (by omega), wrap_id (by omega) (by omega), wrap_id (by omega) (by omega)]
    rfl
theorem rnew_ev (l : List ByteArray) : Ev (fun k => juratref10_New.f k l) (newB l) := by
  unfold newB
  by_cases h0 : l.length = 0
  · rw [if_pos h0]
    refine Ev.const fun k => ?_
    unfold juratref10_New.f
    rw [if_pos (by omega)]
  rw [if_neg h0]
  by_cases h1 : l.length > 65535
  · rw [if_pos h1]
    refine Ev.const fun k => ?_
    unfold juratref10_New.f
    rw [if_neg (by omega), if_pos (by omega)]
  rw [if_neg h1]
  have h := rnew_l0 l (by omega) l.length 0 0 (by omega) (by omega)
  rw [List.drop_zero] at h
  refine Ev.congr (fun k => ?_) h
  unfold juratref10_New.f
  rw [if_neg (by omega), if_neg (by omega)]
  rfl

/-- What the document tells of a list. -/
def minB (l : List ByteArray) : Nat := leastB (l.getD 0 ByteArray.empty).size l
theorem rleast_l0 (l : List ByteArray) (hl : l.length ≤ 9223372036854775806) : ∀ (d i n : Nat), i + d = l.length → 0 < i →
    Ev (fun k => juratref10_Least.l0 k l (n : Int) (i : Int)) (leastB n (l.drop i) : Int) := by
  intro d
  induction d with
  | zero =>
    intro i n hi h0
    rw [List.drop_of_length_le (by omega)]
    refine Ev.ret fun k => ?_
    simp only [juratref10_Least.l0]
    rw [if_neg (by omega)]
    rfl
  | succ d ih =>
    intro i n hi h0
    have hd := getD_drop l i ByteArray.empty (by omega)
    have e : rdOf ByteArray.empty l (i : Int) = l.getD i ByteArray.empty := rfl
    rw [hd]
    have ht : leastB n (l.getD i ByteArray.empty :: l.drop (i + 1)) = leastB (min n (l.getD i ByteArray.empty).size) (l.drop (i + 1)) := rfl
    rw [ht]
    refine Ev.step (f := fun k => juratref10_Least.l0 k l ((min n (l.getD i ByteArray.empty).size : Nat) : Int) ((i + 1 : Nat) : Int)) (fun k => ?_) (ih (i + 1) _ (by omega) (by omega))
    simp only [juratref10_Least.l0]
    rw [if_pos (by omega), if_neg (by omega), if_pos (by omega), e]
    by_cases h : (l.getD i ByteArray.empty).size < n
    · rw [if_pos (by omega), wrap_id (by omega) (by omega), Nat.min_eq_right (by omega)]; rfl
    · rw [if_neg (by omega), wrap_id (by omega) (by omega), Nat.min_eq_left (by omega)]; rfl
theorem rleast_ev (l : List ByteArray) (hl : l.length ≤ 9223372036854775806) : Ev (fun k => juratref10_Least.f k l) (minB l : Int) := by
  cases l with
  | nil => exact Ev.ret fun k => by simp [juratref10_Least.f, juratref10_Least.l0, minB, leastB, List.getD]
  | cons s l =>
    have h := rleast_l0 (s :: l) hl l.length 1 s.size (by rw [List.length_cons]; omega) (by omega)
    have e : minB (s :: l) = leastB s.size ((s :: l).drop 1) := by
      show leastB (min s.size s.size) l = leastB s.size l
      rw [Nat.min_self]
    rw [e]
    refine Ev.step (f := fun k => juratref10_Least.l0 k (s :: l) (s.size : Int) ((1 : Nat) : Int)) (fun k => ?_) h
    unfold juratref10_Least.f
    simp only [juratref10_Least.l0]
    rw [if_pos (by rw [List.length_cons]; omega), if_pos trivial, if_pos (by omega), wrap_id (by omega) (by omega)]
    rfl

end Go.Proofs.Ytnpkbnfiadkgnaa.Base

/- Proved here: what Go functions of this seat compute, or a law of it; no condition beyond the statement's own. Written for this claim by a program of this session (wip/myprint.py) over the kit's print.py. -/
namespace Go.Proofs.Ytnpkbnfiadkgnaa.P
open Go.RowKit Go.Proofs.YtnpkbnfiadkgnaaW.PrintWords Go.Proofs.YtnpkbnfiadkgnaaW.PrintLast Go.Proofs.YtnpkbnfiadkgnaaW.PrintMore
attribute [local go_sem] max2_int min2_int max_two min_two max_three min_three max_four min_four   -- for this text's walks alone
set_option linter.unusedVariables false
set_option linter.unusedSimpArgs false

/-! ### juratref10_Find: function 47 -/
def juratref10_Find.l0 : Nat → List ByteArray → ByteArray → Int → Option (Int)
  | 0, _, _, _ => none
  | k + 1, x0, x1, x5 => if x5 < (x0.length : Int) then (if 0 ≤ x5 then (if (rdOf ByteArray.empty x0 x5).toList = x1.toList then (some x5) else (juratref10_Find.l0 k x0 x1 (wrap64 (x5 + 1)))) else (none)) else (some (-1))
def juratref10_Find.f (k : Nat) (l0 : List ByteArray) (a1 : ByteArray) : Option (Int) := juratref10_Find.l0 k l0 a1 0
theorem juratref10_Find.mono_l : ∀ k, (∀ y0 y1 y2, LeO (juratref10_Find.l0 k y0 y1 y2) (juratref10_Find.l0 (k + 1) y0 y1 y2))
  | 0 => fun _ _ _ r h => by simp [juratref10_Find.l0] at h
  | k + 1 => by
    have ih0 := juratref10_Find.mono_l k
    · intro y0 y1 y2
      unfold juratref10_Find.l0
      repeat' first
      | (with_reducible exact ih0 _ _ _)
      | (with_reducible exact LeO.refl _)
      | (with_reducible exact LeO.none _)
      | (with_reducible refine LeO.ite ?_ ?_)
      | (with_reducible refine LeO.bind ?_ (fun _ => ?_))
      | exact ih0 _ _ _
      | exact LeO.none _
      | refine LeO.ite ?_ ?_
      | refine LeO.bind ?_ (fun _ => ?_)
theorem juratref10_Find.mono : ∀ a0 a1 k, LeO (juratref10_Find.f k a0 a1) (juratref10_Find.f (k + 1) a0 a1) := by
  intro a0 a1 k
  have ih0 := juratref10_Find.mono_l k
  unfold juratref10_Find.f
  repeat' first
      | (with_reducible exact ih0 _ _ _)
      | (with_reducible exact LeO.refl _)
      | (with_reducible exact LeO.none _)
      | (with_reducible refine LeO.ite ?_ ?_)
      | (with_reducible refine LeO.bind ?_ (fun _ => ?_))
      | exact ih0 _ _ _
      | exact LeO.none _
      | refine LeO.ite ?_ ?_
      | refine LeO.bind ?_ (fun _ => ?_)
set_option maxHeartbeats 8000000 in
set_option maxRecDepth 100000 in
theorem juratref10_Find.calls (k : Nat) (A0 : Option Addr) (c0 : Nat) (l0 : List ByteArray) (a1 : ByteArray) (r : Int) (w : World) (hr0 : Kd.C Kd.string w A0 l0.length l0) (hc0 : l0.length ≤ c0) (h : juratref10_Find.f k l0 a1 = some r) :
    Calls Try.prog 47 #[.slice A0 l0.length c0, .string a1] w fun e w' => e = .returned (.int .i64 r) ∧ Drawn0 w w' := by
  have HR0 := Aside0.mk hr0
  have HC0 := Aside0.mk hc0
  clear hr0 hc0
  have H : (juratref10_Find.l0 k l0 a1 0) = some r := h
  clear h
  have H' := Aside0.mk H
  clear H
  go_enter Try.func47, Try.ntmps47
  go_wp2
  go_loopg [5] k (fun kq v5 w' => ∃ (x5_1 : Int), v5 = .int .i64 x5_1 ∧ Aside0 (juratref10_Find.l0 kq l0 a1 x5_1 = some r) ∧ Aside0 (kq ≤ k) ∧ Drawn0 w w')
  case atStart => exact ⟨(0), (by first | rfl | exact isE_ _ | exact isE2_ _ | (simp; done) | (simp [*]; done)), H', ⟨Nat.le_refl _⟩, by repeat (first | exact Drawn0.refl _ | apply Drawn0.step)⟩
  case round =>
    clear H'
    try clear p2
    obtain ⟨x5_1, rfl, HA, HK1, ⟨m1, rfl⟩⟩ := hrel
    cases gk with
    | zero => exact absurd HA.out (by simp [juratref10_Find.l0])
    | succ k1 =>
      have H := HA.out
      clear HA
      simp only [juratref10_Find.l0] at H
      by_cases c3 : x5_1 < (l0.length : Int)
      · rw [if_pos c3] at H
        have c3b0 : decide (x5_1 < (l0.length : Int)) = true := decide_eq_true c3
        clear c3
        by_cases c4 : 0 ≤ x5_1
        · rw [if_pos c4] at H
          have c4b0 : decide (0 ≤ x5_1) = true := decide_eq_true c4
          clear c4
          by_cases c5 : (rdOf ByteArray.empty l0 x5_1).toList = a1.toList
          · rw [if_pos c5] at H
            have c5b0 : ((rdOf ByteArray.empty l0 x5_1).toList == a1.toList) = true := beq_iff_eq.mpr c5
            have c5b1 : ((rdOf ByteArray.empty l0 x5_1).toList != a1.toList) = false := bne_eq_false_iff_eq.mpr c5
            clear c5
            obtain rfl := Option.some.inj H
            have p364 : 0 ≤ (x5_1 : Int) := of_decide_eq_true (by first | (with_reducible assumption) | assumption)
            have q364 : x5_1 < (l0.length : Int) := of_decide_eq_true (by first | (with_reducible assumption) | assumption)
            obtain ⟨ad364, e364, hx364_0⟩ := Kd.at_string HR0.out x5_1 p364 q364
            cases e364
            replace p364 := eq_true p364
            replace q364 := eq_true q364
            go_wp2
            go_ret
            exact ⟨by first | rfl | (simp; done) | (simp [*]; done), by repeat (first | exact Drawn0.refl _ | apply Drawn0.step)⟩
          · rw [if_neg c5] at H
            have c5b0 : ((rdOf ByteArray.empty l0 x5_1).toList == a1.toList) = false := beq_eq_false_iff_ne.mpr c5
            have c5b1 : ((rdOf ByteArray.empty l0 x5_1).toList != a1.toList) = true := bne_iff_ne.mpr c5
            have H' := Aside0.mk H
            clear H
            have p364 : 0 ≤ (x5_1 : Int) := of_decide_eq_true (by first | (with_reducible assumption) | assumption)
            have q364 : x5_1 < (l0.length : Int) := of_decide_eq_true (by first | (with_reducible assumption) | assumption)
            obtain ⟨ad364, e364, hx364_0⟩ := Kd.at_string HR0.out x5_1 p364 q364
            cases e364
            replace p364 := eq_true p364
            replace q364 := eq_true q364
            go_wp2
            go_roundg k1
            case measure => have := HK1.out; omega
            case rel => exact ⟨(wrap64 (x5_1 + 1)), (by first | rfl | exact isE_ _ | exact isE2_ _ | (simp; done) | (simp [*]; done)), H', ⟨by have := HK1.out; omega⟩, by repeat (first | exact Drawn0.refl _ | apply Drawn0.step)⟩
        · rw [if_neg c4] at H
          exact absurd H (by simp)
      · rw [if_neg c3] at H
        have c3b0 : decide (x5_1 < (l0.length : Int)) = false := decide_eq_false c3
        clear c3
        obtain rfl := Option.some.inj H
        go_wp2
        go_ret
        exact ⟨by first | rfl | (simp; done) | (simp [*]; done), by repeat (first | exact Drawn0.refl _ | apply Drawn0.step)⟩

end Go.Proofs.Ytnpkbnfiadkgnaa.P

/- What layer 10's reference computes, as plain functions on lists of texts, and that layer 10's set is it; no condition beyond the sizes that stand in each statement. -/
namespace Go.Proofs.Ytnpkbnfiadkgnaa.Base
open Go Go.RowKit Go.Proofs.YtnpkbnfiadkgnaaW.PrintWords Go.Proofs.YtnpkbnfiadkgnaaW.PrintMore Go.Proofs.Ytnpkbnfiadkgnaa.P
set_option linter.unusedVariables false

/-- Where a text stands first; -1: nowhere. -/
def findB (s : ByteArray) : List ByteArray → Nat → Int
  | [], _ => -1
  | x :: l, i => if x = s then (i : Int) else findB s l (i + 1)
theorem rfind_l0 (l : List ByteArray) (s : ByteArray) (hl : l.length ≤ 9223372036854775806) : ∀ (d i : Nat), i + d = l.length →
    Ev (fun k => juratref10_Find.l0 k l s (i : Int)) (findB s (l.drop i) i) := by
  intro d
  induction d with
  | zero =>
    intro i hi
    rw [List.drop_of_length_le (by omega)]
    refine Ev.ret fun k => ?_
    simp only [juratref10_Find.l0]
    rw [if_neg (by omega)]
    rfl
  | succ d ih =>
    intro i hi
    have hd := getD_drop l i ByteArray.empty (by omega)
    have e : rdOf ByteArray.empty l (i : Int) = l.getD i ByteArray.empty := rfl
    rw [hd]
    by_cases h : l.getD i ByteArray.empty = s
    · have hf : findB s (l.getD i ByteArray.empty :: l.drop (i + 1)) i = (i : Int) := if_pos h
      rw [hf]
      refine Ev.ret fun k => ?_
      simp only [juratref10_Find.l0]
      rw [if_pos (by omega), if_pos (by omega), e, if_pos (toList_iff.2 h)]
    · have hf : findB s (l.getD i ByteArray.empty :: l.drop (i + 1)) i = findB s (l.drop (i + 1)) (i + 1) := if_neg h
      rw [hf]
      refine Ev.step (f := fun k => juratref10_Find.l0 k l s ((i + 1 : Nat) : Int)) (fun k => ?_) (ih (i + 1) (by omega))
      simp only [juratref10_Find.l0]
      rw [if_pos (by omega), if_pos (by omega), e, if_neg (fun x => h (toList_iff.1 x)), wrap_id (by omega) (by omega)]
      rfl
theorem rfind10_ev (l : List ByteArray) (s : ByteArray) (hl : l.length ≤ 9223372036854775806) : Ev (fun k => juratref10_Find.f k l s) (findB s l 0) := by
  have h := rfind_l0 l s hl l.length 0 (by omega)
  rw [List.drop_zero] at h
  exact h

end Go.Proofs.Ytnpkbnfiadkgnaa.Base

/- What is told of a set of patterns, of the list in order and of the list as it came; layer 10's examples; no condition beyond the sizes that stand in each statement. -/
namespace Go.Proofs.Ytnpkbnfiadkgnaa.Base
open Go Go.RowKit Go.Proofs.YtnpkbnfiadkgnaaW.PrintWords Go.Proofs.YtnpkbnfiadkgnaaW.PrintMore Go.Proofs.Ytnpkbnfiadkgnaa.P
set_option linter.unusedVariables false

theorem findB_up (s : ByteArray) : ∀ (l : List ByteArray) (i : Nat), upB l → findB s l i = if inB s l = true then ((i + aheadB s l : Nat) : Int) else -1
  | [], i, _ => rfl
  | x :: l, i, h => by
    obtain ⟨h1, h2⟩ := List.pairwise_cons.1 h
    have ih := findB_up s l (i + 1) h2
    have ef : findB s (x :: l) i = if x = s then (i : Int) else findB s l (i + 1) := rfl
    rw [ef]
    by_cases hx : x = s
    · subst hx
      rw [if_pos rfl, if_pos (inB_iff.2 List.mem_cons_self), aheadB_none x (x :: l) (fun y hy => by
        rcases List.mem_cons.1 hy with rfl | hy
        · exact bl_irrefl _
        · exact h1 y hy)]
      rfl
    · rw [if_neg hx, inB_cons, decide_eq_false hx, Bool.false_or, ih]
      cases hb : Op.bytesLess (LL x) (LL s) with
      | true =>
        have e : aheadB s (x :: l) = aheadB s l + 1 := by unfold aheadB; rw [List.countP_cons_of_pos (by simpa using hb)]
        rw [e, show i + 1 + aheadB s l = i + (aheadB s l + 1) by omega]
      | false =>
        have hn : ¬ inB s l = true := fun hi => by
          rcases bl_tri (LL x) (LL s) with h' | h' | h'
          · exact hx (LL_inj h')
          · rw [hb] at h'; cases h'
          · rw [h1 s (inB_iff.1 hi)] at h'; cases h'
        rw [if_neg hn, if_neg hn]
theorem fold_perm {β : Type} (f : β → ByteArray → β) (hc : ∀ a x y, f (f a x) y = f (f a y) x) {l m : List ByteArray} (h : l.Perm m) : ∀ a, l.foldl f a = m.foldl f a := by
  induction h with
  | nil => intro a; rfl
  | cons x _ ih => intro a; exact ih _
  | swap x y l => intro a; simp only [List.foldl_cons]; rw [hc]
  | trans _ _ ih1 ih2 => intro a; rw [ih1, ih2]
theorem total_perm {l m : List ByteArray} (h : l.Perm m) : totalB 0 l = totalB 0 m := fold_perm _ (fun a x y => by omega) h 0
theorem most_perm {l m : List ByteArray} (h : l.Perm m) : mostB 0 l = mostB 0 m := fold_perm _ (fun a x y => by omega) h 0
theorem least_spec : ∀ (l : List ByteArray) (a : Nat), leastB a l ≤ a ∧ (∀ s ∈ l, leastB a l ≤ s.size) ∧ (leastB a l = a ∨ ∃ s ∈ l, leastB a l = s.size)
  | [], a => ⟨Nat.le_refl _, by simp, .inl rfl⟩
  | x :: l, a => by
    obtain ⟨h1, h2, h3⟩ := least_spec l (min a x.size)
    have e : leastB a (x :: l) = leastB (min a x.size) l := rfl
    rw [e]
    refine ⟨by omega, fun s hs => ?_, ?_⟩
    · rcases List.mem_cons.1 hs with rfl | hs
      · omega
      · exact h2 s hs
    · rcases h3 with h3 | ⟨s, hs, h3⟩
      · by_cases ha : a ≤ x.size
        · left; omega
        · right; exact ⟨x, List.mem_cons_self, by omega⟩
      · right; exact ⟨s, List.mem_cons_of_mem _ hs, h3⟩
theorem min_spec (l : List ByteArray) (h : 0 < l.length) : (∀ s ∈ l, minB l ≤ s.size) ∧ ∃ s ∈ l, minB l = s.size := by
  obtain ⟨h1, h2, h3⟩ := least_spec l (l.getD 0 ByteArray.empty).size
  refine ⟨h2, ?_⟩
  rcases h3 with h3 | h3
  · exact ⟨_, getD_mem l 0 ByteArray.empty h, h3⟩
  · exact h3
theorem min_perm {l m : List ByteArray} (h : l.Perm m) (h0 : 0 < l.length) : minB l = minB m := by
  obtain ⟨a1, s, hs, a2⟩ := min_spec l h0
  obtain ⟨b1, t, ht, b2⟩ := min_spec m (by rw [← h.length_eq]; exact h0)
  have := a1 t (h.mem_iff.2 ht)
  have := b1 s (h.mem_iff.1 hs)
  omega

/-- A set that is made of texts. -/
def setB (l : List ByteArray) : SetD := ⟨sortB l, (minB l : Nat), (mostB 0 l : Nat), (totalB 0 l : Nat)⟩
theorem new_cases (l : List ByteArray) :
    (∃ e, e ≠ 0 ∧ pats_New.f l = some (none, e) ∧ newB l = ([], e)) ∨
    (pats_New.f l = some (some (setB l), 0) ∧ newB l = (sortB l, 0) ∧ 0 < l.length ∧ l.length ≤ 65535 ∧ badB l = 0 ∧ totalB 0 l ≤ 16777216 ∧ twB [] l 0 < 0) := by
  unfold pats_New.f newB
  by_cases h0 : l.length = 0
  · exact .inl ⟨14, by decide, by rw [if_pos h0], by rw [if_pos h0]⟩
  by_cases h1 : l.length > 65535
  · exact .inl ⟨6, by decide, by rw [if_neg h0, if_pos h1], by rw [if_neg h0, if_pos h1]⟩
  by_cases h2 : badB l ≠ 0
  · exact .inl ⟨_, h2, by rw [if_neg h0, if_neg h1, if_pos h2], by rw [if_neg h0, if_neg h1, if_pos h2]⟩
  by_cases h3 : totalB 0 l > 16777216
  · exact .inl ⟨13, by decide, by rw [if_neg h0, if_neg h1, if_neg h2, if_pos h3], by rw [if_neg h0, if_neg h1, if_neg h2, if_pos h3]⟩
  by_cases h4 : twB [] l 0 ≥ 0
  · exact .inl ⟨8, by decide, by rw [if_neg h0, if_neg h1, if_neg h2, if_neg h3, if_pos h4], by rw [if_neg h0, if_neg h1, if_neg h2, if_neg h3, if_pos h4]⟩
  refine .inr ⟨by rw [if_neg h0, if_neg h1, if_neg h2, if_neg h3, if_neg h4]; rfl, by rw [if_neg h0, if_neg h1, if_neg h2, if_neg h3, if_neg h4], by omega, by omega, Classical.not_not.1 h2, by omega, by omega⟩


end Go.Proofs.Ytnpkbnfiadkgnaa.Base

/- A number under a mask; no condition beyond those in the statement. -/
namespace Go.Proofs.Ytnpkbnfiadkgnaa.Base
open Go Go.RowKit Go.Proofs.YtnpkbnfiadkgnaaW.PrintWords Go.Proofs.YtnpkbnfiadkgnaaW.PrintLast Go.Proofs.YtnpkbnfiadkgnaaW.PrintMore

theorem bits_and_mask (x : Int) (m : Nat) (hm : m < 9223372036854775808) : 0 ≤ Go.bits .and .i64 x (m : Int) ∧ Go.bits .and .i64 x (m : Int) ≤ m := by
  have h : Go.bits .and .i64 x (m : Int) = IntKind.i64.wrap (((BitVec.ofInt 64 x &&& BitVec.ofInt 64 (m : Int)).toNat : Int)) := rfl
  have h2 : (BitVec.ofInt 64 x &&& BitVec.ofInt 64 (m : Int)).toNat ≤ m := by
    rw [BitVec.toNat_and]
    refine Nat.le_trans Nat.and_le_right ?_
    rw [BitVec.toNat_ofInt]
    omega
  rw [h, i64_w, wrap_id (by omega) (by omega)]
  omega

end Go.Proofs.Ytnpkbnfiadkgnaa.Base

/- Sets of the same patterns are one, in whatever order these come; a pattern is found by its number; no condition beyond the sizes that stand in each statement. -/
namespace Go.Proofs.Ytnpkbnfiadkgnaa.Base
open Go Go.RowKit Go.Proofs.YtnpkbnfiadkgnaaW.PrintWords Go.Proofs.YtnpkbnfiadkgnaaW.PrintLast Go.Proofs.YtnpkbnfiadkgnaaW.PrintMore Go.Proofs.Ytnpkbnfiadkgnaa.P
set_option linter.unusedVariables false

theorem twB_iff : ∀ (l seen : List ByteArray) (i : Nat), twB seen l i < 0 ↔ (l.Nodup ∧ ∀ x ∈ l, ¬ inB x seen = true)
  | [], seen, i => by simp [twB]
  | x :: l, seen, i => by
    simp only [twB]
    by_cases h : inB x seen = true
    · rw [if_pos h]
      constructor
      · intro h'; omega
      · rintro ⟨_, h'⟩; exact absurd h (h' x List.mem_cons_self)
    · rw [if_neg h, twB_iff l (seen ++ [x]) (i + 1), List.nodup_cons]
      constructor
      · rintro ⟨h1, h2⟩
        refine ⟨⟨fun hx => ?_, h1⟩, fun y hy => ?_⟩
        · have := h2 x hx
          rw [inB_snoc] at this
          simp at this
        · rcases List.mem_cons.1 hy with rfl | hy
          · exact h
          · have := h2 y hy
            rw [inB_snoc] at this
            intro h3
            rw [h3] at this
            simp at this
      · rintro ⟨⟨h1, h2⟩, h3⟩
        refine ⟨h2, fun y hy => ?_⟩
        rw [inB_snoc]
        intro h4
        rcases Bool.or_eq_true_iff.1 h4 with h4 | h4
        · exact h3 y (List.mem_cons_of_mem _ hy) h4
        · exact h1 (by rw [of_decide_eq_true h4]; exact hy)
theorem nodup_of_tw {l : List ByteArray} (h : twB [] l 0 < 0) : l.Nodup := ((twB_iff l [] 0).1 h).1
theorem tw_of_nodup {l : List ByteArray} (h : l.Nodup) : twB [] l 0 < 0 := (twB_iff l [] 0).2 ⟨h, fun x _ => by simp [inB]⟩
theorem badB_iff : ∀ (l : List ByteArray), badB l = 0 ↔ ∀ s ∈ l, chkB s = 0
  | [] => by simp [badB]
  | s :: l => by
    simp only [badB]
    by_cases h : chkB s = 0
    · rw [if_pos h, badB_iff l]
      simp [h]
    · rw [if_neg h]
      simp [h]
theorem setB_perm {l m : List ByteArray} (h : l.Perm m) (h0 : 0 < l.length) : setB l = setB m := by
  have e : sortB l = sortB m := sortB_of ((sortB_perm l).trans h) (sortB_up l)
  unfold setB
  rw [e, min_perm h h0, most_perm h, total_perm h]
/-- Texts that make a set make it in any order. -/
theorem new_perm {l m : List ByteArray} (h : l.Perm m) (hp : 0 < l.length) (h1 : l.length ≤ 65535) (h2 : badB l = 0) (h3 : totalB 0 l ≤ 16777216) (h4 : twB [] l 0 < 0) :
    pats_New.f m = some (some (setB l), 0) := by
  have e := h.length_eq
  rcases new_cases m with ⟨c, hc, hn, hw⟩ | ⟨hn, _⟩
  · exfalso
    unfold pats_New.f at hn
    have b2 : badB m = 0 := (badB_iff m).2 fun s hs => (badB_iff l).1 h2 s (h.mem_iff.2 hs)
    have b4 := tw_of_nodup ((h.nodup_iff).1 (nodup_of_tw h4))
    rw [if_neg (by omega), if_neg (by omega), if_neg (by rw [b2]; simp), if_neg (by rw [← total_perm h]; omega), if_neg (by omega)] at hn
    have := (Prod.mk.inj (Option.some.inj hn)).1
    cases this
  · rw [hn, setB_perm h hp]
theorem findB_mem (s : ByteArray) : ∀ (l : List ByteArray) (i : Nat), s ∈ l → ∃ n, findB s l i = ((i + n : Nat) : Int) ∧ n < l.length ∧ l.getD n ByteArray.empty = s
  | [], i, h => by cases h
  | x :: l, i, h => by
    have ef : findB s (x :: l) i = if x = s then (i : Int) else findB s l (i + 1) := rfl
    rw [ef]
    by_cases hx : x = s
    · rw [if_pos hx]
      exact ⟨0, rfl, by simp, by simpa using hx⟩
    · rw [if_neg hx]
      rcases List.mem_cons.1 h with rfl | h
      · exact absurd rfl hx
      · obtain ⟨n, h1, h2, h3⟩ := findB_mem s l (i + 1) h
        exact ⟨n + 1, by rw [h1]; congr 1; omega, by rw [List.length_cons]; omega, by rw [List.getD_cons_succ]; exact h3⟩
theorem list_is (l : List ByteArray) (h : l.length ≤ 65535) : pats_Set_List.f (some (setB l)) = some (sortB l) := by
  show (if (sortB l).length ≤ 8796093022208 then some (sortB l) else none) = _
  rw [if_pos (by rw [sortB_length]; omega)]
end Go.Proofs.Ytnpkbnfiadkgnaa.Base

/- A set of texts and its list, made or not, told together; no condition beyond the sizes that stand in each statement. -/
namespace Go.Proofs.Ytnpkbnfiadkgnaa.Base
open Go Go.RowKit Go.Proofs.YtnpkbnfiadkgnaaW.PrintWords Go.Proofs.YtnpkbnfiadkgnaaW.PrintMore Go.Proofs.Ytnpkbnfiadkgnaa.P
set_option linter.unusedVariables false

/-- What is made of texts: a set or none, its list, why there is none. -/
structure SetOk (l : List ByteArray) (x : Option SetD) (w : List ByteArray) (e : Int) : Prop where
  hn : pats_New.f l = some (x, e)
  hw : newB l = (w, e)
  hL : setL x = w
  hM : setM x = minB w
  mem : ∀ s ∈ w, s ∈ l
  len : w.length ≤ l.length
  few : w.length ≤ 65535
  size : ∀ s ∈ w, s.size ≤ 65535
  up : upB w
  pos : ∀ s ∈ w, 0 < s.size
  nodup : w.Nodup
  kind : (e = 0 ∧ 0 < w.length ∧ x = some (setB l) ∧ w = sortB l ∧ w.length = l.length) ∨ (e ≠ 0 ∧ x = none ∧ w = [])
theorem chkB_pos {s : ByteArray} (h : chkB s = 0) : 0 < s.size ∧ s.size ≤ 65535 := by
  unfold chkB at h
  by_cases h1 : s.size = 0
  · rw [if_pos h1] at h; omega
  · rw [if_neg h1] at h
    by_cases h2 : s.size > 65535
    · rw [if_pos h2] at h; omega
    · omega
theorem set_ok (l : List ByteArray) : ∃ x w e, SetOk l x w e := by
  rcases new_cases l with ⟨e, he, hn, hw⟩ | ⟨hn, hw, hp, hl, hb, ht, hd⟩
  · exact ⟨none, [], e, hn, hw, rfl, rfl, by simp, by simp, by simp, by simp, List.Pairwise.nil, by simp, List.nodup_nil, .inr ⟨he, rfl, rfl⟩⟩
  · have hm := fun s => (sortB_perm l).mem_iff (a := s)
    have hlen := sortB_length l
    refine ⟨some (setB l), sortB l, 0, hn, hw, rfl, ?_, fun s hs => (hm s).1 hs, by omega, by omega, fun s hs => (chkB_pos ((badB_iff l).1 hb s ((hm s).1 hs))).2, sortB_up l, fun s hs => (chkB_pos ((badB_iff l).1 hb s ((hm s).1 hs))).1, ((sortB_perm l).nodup_iff).2 (nodup_of_tw hd), .inl ⟨rfl, by omega, rfl, rfl, by omega⟩⟩
    show ((minB l : Nat) : Int) = _
    rw [min_perm (sortB_perm l).symm hp]
theorem min_le {w : List ByteArray} : ∀ s ∈ w, minB w ≤ s.size := fun s hs => (min_spec w (List.length_pos_of_mem hs)).1 s hs
theorem list_ok {l w : List ByteArray} {x : Option SetD} {e : Int} (h : SetOk l x w e) : pats_Set_List.f x = some w := by
  rcases h.kind with ⟨_, _, rfl, rfl, _⟩ | ⟨_, rfl, rfl⟩
  · exact list_is l (by have := h.few; rw [sortB_length] at this; exact this)
  · rfl
theorem rnew_ok {l w : List ByteArray} {x : Option SetD} {e : Int} (h : SetOk l x w e) : Ev (fun k => juratref10_New.f k l) (w, e) := by
  have := rnew_ev l
  rw [h.hw] at this
  exact this

end Go.Proofs.Ytnpkbnfiadkgnaa.Base

/- A trie is made of a set: the walk of New, job by job. -/
namespace Go.Proofs.Ytnpkbnfiadkgnaa.P
open Go Go.RowKit Go.Proofs.YtnpkbnfiadkgnaaW.PrintWords Go.Proofs.YtnpkbnfiadkgnaaW.PrintLast Go.Proofs.YtnpkbnfiadkgnaaW.PrintMore Go.Proofs.Ytnpkbnfiadkgnaa.Base
set_option linter.unusedVariables false
set_option linter.unusedSimpArgs false

/-- Texts of which a trie is made here. -/
abbrev okT (l : List ByteArray) : Prop := (upB l ∧ l.Nodup) ∧ l.length ≤ 65535 ∧ (∀ s ∈ l, 0 < s.size ∧ s.size ≤ 65535) ∧ sizes l ≤ 16777216
def trie_New.f (a0 : Option SetD) : Option (Option TrieD) := if okT (setL a0) then some (some (trS (setL a0))) else none
theorem srt_of {l : List ByteArray} (h : upB l ∧ l.Nodup) : srt l := fun t u h1 h2 => by
  have h3 := List.pairwise_iff_getElem.1 h.1 t u (by omega) h2 h1
  have h4 := List.pairwise_iff_getElem.1 h.2 t u (by omega) h2 h1
  rw [List.getD_eq_getElem?_getD, List.getD_eq_getElem?_getD, List.getElem?_eq_getElem (by omega), List.getElem?_eq_getElem h2]
  show Op.bytesLess (LL l[t]) (LL l[u]) = true
  rcases bl_tri (LL l[t]) (LL l[u]) with h5 | h5 | h5
  · exact absurd (LL_inj h5) h4
  · exact h5
  · rw [h5] at h3; cases h3
theorem job_ok {l : List ByteArray} (h : okT l) {k : Nat} {n : NodeD} (hn : (nodesAt l k)[k]? = some n) : JobOk l (stK l k) (jsK l k) k n.lo n.hi n.path.length 0 := by
  obtain ⟨h1, h2, h3, h4⟩ := h
  have hs := srt_of h1
  have hm := List.mem_of_getElem? hn
  have ok := nodes_ok hs k n hm
  have hf := nodes_few hs k
  have hc := jsK_cons l k n hn
  obtain ⟨hlt, he⟩ := List.getElem?_eq_some_iff.1 hn
  have hsl := stK_length l k
  have hjl : (jsK l k).length = (nodesAt l k).length - k := by unfold jsK; simp
  have hst : (stK l k).getD k default = fresh n := by
    rw [List.getD_eq_getElem?_getD]
    unfold stK
    rw [List.getElem?_mapIdx, hn]
    simp
  refine ⟨by rw [hc]; rfl, by rw [hc]; simp, by omega, by omega, by omega, by rw [hst]; rfl, by rw [hst]; rfl, by omega, ok.le, ok.top, fun t t1 t2 => ?_, fun t t1 t2 => ?_⟩
  · have := (ok.pre t t1 t2).length_le
    rw [LL_length] at this
    exact ⟨this, (h3 _ (getD_mem l t ByteArray.empty (by have := ok.top; omega))).2⟩
  · exact own_first (ok.pre n.lo (Nat.le_refl _) (by omega)) (ok.pre t (by omega) t2) (hs n.lo t t1 (by have := ok.top; omega))
theorem trS_end {l : List ByteArray} (h : srt l) {k : Nat} (hk : (nodesAt l k).length ≤ k) (hk2 : k ≤ trK l) : stK l k = trS l := by
  have e := nodes_stop hk (trK l) hk2
  have hl := trN_le h
  unfold trN at hl
  unfold trS stK
  rw [e] at hl ⊢
  apply List.ext_getElem?
  intro i
  rw [List.getElem?_mapIdx, List.getElem?_mapIdx]
  cases hi : (nodesAt l k)[i]? with
  | none => rfl
  | some n =>
    have := (List.getElem?_eq_some_iff.1 hi).1
    simp only [Option.map_some]
    rw [if_pos (by omega), if_pos (by omega)]
set_option maxHeartbeats 16000000 in
set_option maxRecDepth 100000 in
theorem trie_New.calls (Pa0 : Option Addr) (a0 : Option SetD) (r : Option TrieD) (w : World) (ho : OB K77 w Pa0 a0) (h : trie_New.f a0 = some r) :
    Calls Try.prog 37 #[.pointer Pa0] w fun e w' => ∃ P0_ : Option Addr, e = .returned (.pointer P0_) ∧ OB K93 w' P0_ r ∧ Below w.heap.size w w' := by
  unfold trie_New.f at h
  by_cases hs : okT (setL a0)
  rotate_left
  · rw [if_neg hs] at h; cases h
  rw [if_pos hs] at h
  have HO := Aside0.mk ho
  have hLi := fun W (g : OB K77 W Pa0 a0) => pats_Set_List.calls Pa0 a0 (setL a0) W g (by
    cases a0 with
    | none => rfl
    | some d => show (if d.l.length ≤ 8796093022208 then some d.l else none) = _; rw [if_pos (show d.l.length ≤ 8796093022208 from by have := hs.2.1; simp only [setL] at this; omega)]; rfl)
  generalize setL a0 = l at h hs hLi
  obtain rfl := Option.some.inj h
  have HLI := Aside0.mk hLi
  have HS := Aside0.mk hs
  clear h ho hLi hs
  go_enter Try.func37, Try.ntmps37
  go_wp2_with (go_at_call 57; fail)
  refine Calls.mono (HLI.out _ HO.out) ?_
  rintro e W1 ⟨v, rfl, hR, hb⟩
  have HB1 := Aside0.mk hb
  obtain ⟨A, c, rfl⟩ := Kd.R_slice hR
  obtain ⟨_, hlc, hC⟩ := Kd.R_reads' hR
  obtain ⟨NB, hNB⟩ : ∃ NB, W1.heap.size = NB := ⟨_, rfl⟩
  have HC := Aside0.mk (fun W (h : Below NB W1 W) => Kd.C_below hC (by rw [hNB]; exact h))
  have HNB := Aside0.mk hNB
  have HN1 := Aside0.mk (show w.heap.size ≤ NB by rw [← hNB]; exact hb.size)
  clear hR hb hC hNB
  go_wp2
  obtain ⟨W2, hW2⟩ : ∃ W2, W1.alloc (Obj.cells #[Value.int IntKind.i64 (-1), Value.int IntKind.u8 0, Value.int IntKind.i64 0, Value.int IntKind.i64 (-1), Value.int IntKind.i64 0, Value.int IntKind.i64 0] 90) = W2 := ⟨_, rfl⟩
  have z2 : W2.heap.size = NB + 1 := by rw [← hW2, World.size_alloc, HNB.out]
  have b2 : Below NB W1 W2 := by rw [← hW2]; exact Below.alloc (Below.refl _ _) (by rw [HNB.out]; exact Nat.le_refl _) _
  have n2 := heap_alloc_new W1 (Obj.cells #[Value.int IntKind.i64 (-1), Value.int IntKind.u8 0, Value.int IntKind.i64 0, Value.int IntKind.i64 (-1), Value.int IntKind.i64 0, Value.int IntKind.i64 0] 90)
  rw [hW2, HNB.out] at n2
  obtain ⟨W3, hW3⟩ : ∃ W3, W2.alloc (Obj.cells #[Value.slice (some ⟨W1.heap.size, 0, none⟩) 1 1] 93) = W3 := ⟨_, rfl⟩
  have z3 : W3.heap.size = NB + 1 + 1 := by rw [← hW3, World.size_alloc, z2]
  have b3 : Below W2.heap.size W2 W3 := by rw [← hW3]; exact Below.alloc (Below.refl _ _) (Nat.le_refl _) _
  have n3 := heap_alloc_new W2 (Obj.cells #[Value.slice (some ⟨W1.heap.size, 0, none⟩) 1 1] 93)
  rw [hW3, HNB.out, z2] at n3
  obtain ⟨W4, hW4⟩ : ∃ W4, W3.alloc (Obj.cells #[Value.int IntKind.i64 0, Value.int IntKind.i64 0, Value.int IntKind.i64 ↑l.length] 95) = W4 := ⟨_, rfl⟩
  have z4 : W4.heap.size = NB + 1 + 1 + 1 := by rw [← hW4, World.size_alloc, z3]
  have b4 : Below W3.heap.size W3 W4 := by rw [← hW4]; exact Below.alloc (Below.refl _ _) (Nat.le_refl _) _
  have n4 := heap_alloc_new W3 (Obj.cells #[Value.int IntKind.i64 0, Value.int IntKind.i64 0, Value.int IntKind.i64 ↑l.length] 95)
  rw [hW4, z3] at n4
  have m2 := (b4.block NB (by omega)).trans ((b3.block NB (by omega)).trans n2)
  have m3 := (b4.block (NB + 1) (by omega)).trans n3
  have B4 : Below NB W1 W4 := b2.trans ((b3.mono (by omega)).trans (b4.mono (by omega)))
  have hS0 : stF.kd.R 90 W4 NB (fun _ => True) (.slice (some ⟨NB, 0, none⟩) (stK l 0).length 1) (stK l 0) := flat_R ⟨rfl, .inr ⟨NB, 1, _, rfl, Nat.le_refl _, m2, Nat.le_refl _, by decide, rfl, rfl⟩⟩ (fun _ _ => trivial)
  have hJ0 : jbF.kd.Q 95 W4 NB (fun _ => True) (.slice (some ⟨NB + 1 + 1, 0, none⟩) 1 1) (jsK l 0) := Kd.Q_of_R (flat_R ⟨rfl, .inr ⟨NB + 1 + 1, 1, _, rfl, by omega, n4, Nat.le_refl _, by decide, rfl, rfl⟩⟩ (fun _ _ => trivial))
  have HS0 := Aside0.mk hS0
  have HJ0 := Aside0.mk hJ0
  have HM3 := Aside0.mk (show W4.heap[NB + 1]? = some (.cells #[.slice (some ⟨NB, 0, none⟩) (stK l 0).length 1] 93 (0, 0)) from m3)
  have HB4 := Aside0.mk B4
  have hNB := HNB.out
  rw [hW2, hW3, hW4, hNB]
  clear hW2 hW3 hW4 z2 z3 z4 b2 b3 b4 n2 n3 n4 m2 m3 B4 hS0 hJ0 hNB
  go_loopg [5] (trK l) (fun kx v5 W => ∃ (k g cap : Nat), trK l ≤ k + kx ∧ k ≤ trK l ∧ Aside0 (W.heap[NB + 1]? = some (.cells #[.slice (some ⟨g, 0, none⟩) (stK l k).length cap] 93 (0, 0))) ∧
    Aside0 (stF.kd.R 90 W NB (fun _ => True) (.slice (some ⟨g, 0, none⟩) (stK l k).length cap) (stK l k)) ∧ Aside0 (jbF.kd.Q 95 W NB (fun _ => True) v5 (jsK l k)) ∧ Aside0 (Below NB W1 W))
  case atStart => exact ⟨0, NB, 1, by omega, by omega, HM3, HS0, HJ0, HB4⟩
  case round =>
    clear HS0 HJ0 HM3 HB4
    obtain ⟨k, g, cap, k1, k2, HP, HSt, HJ, HB⟩ := hrel
    obtain ⟨A5, c5, rfl, hc5⟩ := Kd.Q_slice HJ.out
    cases hn : (nodesAt l k)[k]? with
    | none =>
      have hle : (nodesAt l k).length ≤ k := by simpa using hn
      have hj := jsK_nil l k hle
      rw [hj]
      have hend := trS_end (srt_of HS.out.1) hle k2
      have hR := HSt.out
      have hP := HP.out
      rw [hend] at hR hP
      have HFin := Aside0.mk (show OB K93 wr (some ⟨NB + 1, 0, none⟩) (some (trS l)) from OB.mk (by
        obtain ⟨A, c, e, h1, h2⟩ := Kd.R_reads hR
        injection e with e1 e2 e3
        subst e1
        subst e3
        exact ⟨NB + 1, _, _, rfl, blk_cell hP 0, h1, h2⟩))
      have HBF := Aside0.mk (HB1.out.trans (HB.out.mono HN1.out))
      clear hj hend hR hP HP HSt HJ HB hle hn
      go_wp2
      go_ret
      exact ⟨_, rfl, HFin.out, HBF.out⟩
    | some n =>
      have ok := job_ok HS.out hn
      have hps := part_step l k n hn
      have hjl := ok.jsl
      have hlt := (List.getElem?_eq_some_iff.1 hn).1
      have hpart := trie_part NB wr (NB + 1) g cap A c (.slice A5 (jsK l k).length c5) l (stK l k) (jsK l k) k n.lo n.hi n.path.length 0 HP.out (Nat.le_succ _) (Nat.le_trans (by rw [HNB.out]; exact Nat.le_refl _) HB.out.size) HSt.out HJ.out (fun W h => HC.out W (HB.out.trans h)) hlc ok
      rw [hps] at hpart
      have HPART := Aside0.mk hpart
      have hkK : k < trK l := by have := nodes_few (srt_of HS.out.1) k; unfold trK; omega
      obtain ⟨N5, hN5⟩ : ∃ N5, (jsK l k).length = N5 := ⟨_, rfl⟩
      rw [hN5] at hjl HPART ⊢
      have l1 : decide ((0 : Int) < (N5 : Int)) = true := decide_eq_true (by omega)
      have l2 : decide (0 < N5) = true := decide_eq_true hjl
      clear ok hps hpart hn hN5 hlt hc5
      go_wp2_with (go_at_call 63; refine HPART.out.mono ?_; rintro e W5 ⟨v', g', cap', rfl, hp5, hs5, hq5, hb5⟩; obtain ⟨A6, c6, rfl, hc6⟩ := Kd.Q_slice hq5; have HP5 := Aside0.mk hp5; have HS5 := Aside0.mk hs5; have HQ5 := Aside0.mk hq5; have HB5 := Aside0.mk (HB.out.trans hb5); clear hp5 hs5 hq5 hb5)
      all_goals
        have hdr := Kd.Q_drop (k := 1) HQ5.out (by simp)
        go_roundg (trK l - (k + 1))
        case measure => omega
        case rel =>
          refine ⟨k + 1, g', cap', by omega, by omega, HP5, HS5, ⟨?_⟩, HB5⟩
          first
            | (rw [if_neg (by omega)] at hdr; exact hdr)
            | (have hc1 : c6 = 1 := by omega
               subst hc1
               rw [if_pos rfl] at hdr
               exact hdr)

end Go.Proofs.Ytnpkbnfiadkgnaa.P

/- Proved here: what Go functions of this seat compute, or a law of it; no condition beyond the statement's own. Written for this claim by a program of this session (wip/myprint.py) over the kit's print.py. -/
namespace Go.Proofs.Ytnpkbnfiadkgnaa.P
open Go.RowKit Go.Proofs.YtnpkbnfiadkgnaaW.PrintWords Go.Proofs.YtnpkbnfiadkgnaaW.PrintLast Go.Proofs.YtnpkbnfiadkgnaaW.PrintMore
attribute [local go_sem] max2_int min2_int max_two min_two max_three min_three max_four min_four   -- for this text's walks alone
set_option linter.unusedVariables false
set_option linter.unusedSimpArgs false

/-! ### juratref16_States: function 44 -/
mutual
def juratref16_States.l0 : Nat → List ByteArray → List ByteArray → Int → Int → Option (List ByteArray)
  | 0, _, _, _, _ => none
  | k + 1, x0, x3, x4, x5 => if x5 < (x0.length : Int) then (if 0 ≤ x5 then (if ((rdOf ByteArray.empty x0 x5).size : Int) > x4 then (juratref16_States.l0 k x0 x3 ((rdOf ByteArray.empty x0 x5).size : Int) (wrap64 (x5 + 1))) else (juratref16_States.l0 k x0 x3 x4 (wrap64 (x5 + 1)))) else (none)) else (juratref16_States.l1 k x0 x3 x4 1)
def juratref16_States.l1 : Nat → List ByteArray → List ByteArray → Int → Int → Option (List ByteArray)
  | 0, _, _, _, _ => none
  | k + 1, x0, x3, x4, x6 => if x6 ≤ x4 then (juratref16_States.l2 k x0 x3 x4 x6 0) else (some x3)
def juratref16_States.l2 : Nat → List ByteArray → List ByteArray → Int → Int → Int → Option (List ByteArray)
  | 0, _, _, _, _, _ => none
  | k + 1, x0, x3, x4, x6, x7 => if x7 < (x0.length : Int) then (if 0 ≤ x7 then (if ((rdOf ByteArray.empty x0 x7).size : Int) ≥ x6 then (if 0 ≤ x6 then (if x6 ≤ ((rdOf ByteArray.empty x0 x7).size : Int) then (if 0 ≤ (wrap64 ((x3.length : Int) - 1)) then (if (wrap64 ((x3.length : Int) - 1)) < (x3.length : Int) then (if ((rdOf ByteArray.empty x0 x7).extract 0 (x6 : Int).toNat).toList = (rdOf ByteArray.empty x3 (wrap64 ((x3.length : Int) - 1))).toList then (juratref16_States.l2 k x0 x3 x4 x6 (wrap64 (x7 + 1))) else (if x3.length < 8796093022208 then (juratref16_States.l2 k x0 (x3 ++ [(rdOf ByteArray.empty x0 x7).extract 0 (x6 : Int).toNat]) x4 x6 (wrap64 (x7 + 1))) else (none))) else (none)) else (none)) else (none)) else (none)) else (juratref16_States.l2 k x0 x3 x4 x6 (wrap64 (x7 + 1)))) else (none)) else (juratref16_States.l1 k x0 x3 x4 (wrap64 (x6 + 1)))
end
def juratref16_States.f (k : Nat) (l0 : List ByteArray) : Option (List ByteArray) := juratref16_States.l0 k l0 (([(⟨#[]⟩ : ByteArray)] : List ByteArray)) 0 0
theorem juratref16_States.mono_l : ∀ k, (∀ y0 y1 y2 y3, LeO (juratref16_States.l0 k y0 y1 y2 y3) (juratref16_States.l0 (k + 1) y0 y1 y2 y3)) ∧ (∀ y0 y1 y2 y3, LeO (juratref16_States.l1 k y0 y1 y2 y3) (juratref16_States.l1 (k + 1) y0 y1 y2 y3)) ∧ (∀ y0 y1 y2 y3 y4, LeO (juratref16_States.l2 k y0 y1 y2 y3 y4) (juratref16_States.l2 (k + 1) y0 y1 y2 y3 y4))
  | 0 => ⟨fun _ _ _ _ r h => by simp [juratref16_States.l0] at h, fun _ _ _ _ r h => by simp [juratref16_States.l1] at h, fun _ _ _ _ _ r h => by simp [juratref16_States.l2] at h⟩
  | k + 1 => by
    obtain ⟨ih0, ih1, ih2⟩ := juratref16_States.mono_l k
    refine ⟨?_, ?_, ?_⟩
    · intro y0 y1 y2 y3
      unfold juratref16_States.l0
      repeat' first
      | (with_reducible exact ih0 _ _ _ _)
      | (with_reducible exact ih1 _ _ _ _)
      | (with_reducible exact ih2 _ _ _ _ _)
      | (with_reducible exact LeO.refl _)
      | (with_reducible exact LeO.none _)
      | (with_reducible refine LeO.ite ?_ ?_)
      | (with_reducible refine LeO.bind ?_ (fun _ => ?_))
      | exact ih0 _ _ _ _
      | exact ih1 _ _ _ _
      | exact ih2 _ _ _ _ _
      | exact LeO.none _
      | refine LeO.ite ?_ ?_
      | refine LeO.bind ?_ (fun _ => ?_)
    · intro y0 y1 y2 y3
      unfold juratref16_States.l1
      repeat' first
      | (with_reducible exact ih0 _ _ _ _)
      | (with_reducible exact ih1 _ _ _ _)
      | (with_reducible exact ih2 _ _ _ _ _)
      | (with_reducible exact LeO.refl _)
      | (with_reducible exact LeO.none _)
      | (with_reducible refine LeO.ite ?_ ?_)
      | (with_reducible refine LeO.bind ?_ (fun _ => ?_))
      | exact ih0 _ _ _ _
      | exact ih1 _ _ _ _
      | exact ih2 _ _ _ _ _
      | exact LeO.none _
      | refine LeO.ite ?_ ?_
      | refine LeO.bind ?_ (fun _ => ?_)
    · intro y0 y1 y2 y3 y4
      unfold juratref16_States.l2
      repeat' first
      | (with_reducible exact ih0 _ _ _ _)
      | (with_reducible exact ih1 _ _ _ _)
      | (with_reducible exact ih2 _ _ _ _ _)
      | (with_reducible exact LeO.refl _)
      | (with_reducible exact LeO.none _)
      | (with_reducible refine LeO.ite ?_ ?_)
      | (with_reducible refine LeO.bind ?_ (fun _ => ?_))
      | exact ih0 _ _ _ _
      | exact ih1 _ _ _ _
      | exact ih2 _ _ _ _ _
      | exact LeO.none _
      | refine LeO.ite ?_ ?_
      | refine LeO.bind ?_ (fun _ => ?_)
theorem juratref16_States.mono : ∀ a0 k, LeO (juratref16_States.f k a0) (juratref16_States.f (k + 1) a0) := by
  intro a0 k
  obtain ⟨ih0, ih1, ih2⟩ := juratref16_States.mono_l k
  unfold juratref16_States.f
  repeat' first
      | (with_reducible exact ih0 _ _ _ _)
      | (with_reducible exact ih1 _ _ _ _)
      | (with_reducible exact ih2 _ _ _ _ _)
      | (with_reducible exact LeO.refl _)
      | (with_reducible exact LeO.none _)
      | (with_reducible refine LeO.ite ?_ ?_)
      | (with_reducible refine LeO.bind ?_ (fun _ => ?_))
      | exact ih0 _ _ _ _
      | exact ih1 _ _ _ _
      | exact ih2 _ _ _ _ _
      | exact LeO.none _
      | refine LeO.ite ?_ ?_
      | refine LeO.bind ?_ (fun _ => ?_)
set_option maxHeartbeats 8000000 in
set_option maxRecDepth 100000 in
theorem juratref16_States.calls (k : Nat) (A0 : Option Addr) (c0 : Nat) (l0 : List ByteArray) (r : List ByteArray) (w : World) (hr0 : Kd.C Kd.string w A0 l0.length l0) (hc0 : l0.length ≤ c0) (h : juratref16_States.f k l0 = some r) :
    Calls Try.prog 44 #[.slice A0 l0.length c0] w fun e w' => ∃ v0_ : Value, e = .returned (v0_) ∧ Kd.R Kd.string 9 w' w.heap.size (fun _ => True) v0_ r ∧ Below w.heap.size w w' := by
  have HR0 := Aside0.mk hr0
  have HC0 := Aside0.mk hc0
  clear hr0 hc0
  have HB := Aside0.mk (Below.refl w.heap.size w)
  have H : (juratref16_States.l0 k l0 (([(⟨#[]⟩ : ByteArray)] : List ByteArray)) 0 0) = some r := h
  clear h
  obtain ⟨y351, hy351⟩ : ∃ y_ : List ByteArray, y_ = (([(⟨#[]⟩ : ByteArray)] : List ByteArray)) := ⟨_, rfl⟩
  replace H : (juratref16_States.l0 k l0 y351 0 0) = some r := by first | (rw [hy351]; with_reducible exact H) | (have H2_ := (Option.bind_some _ _).symm.trans H; rw [hy351]; with_reducible exact H2_) | (have H2_ := (Option.bind_some _ _).symm.trans H; with_reducible exact H2_) | with_reducible exact H | (rw [hy351]; exact H) | exact H
  have Ny351 := Aside0.mk hy351
  clear hy351
  have H' := Aside0.mk H
  clear H
  go_enter Try.func44, Try.ntmps44
  go_wp2_with (first | ((with_reducible refine gate_dst (N := 8) rfl ?_); (try (refine gate_guard (by rfl) ?_; dsimp only)); refine Kd.R_lit Kd.string _ 9 ?hg (N := 8) ?hd (xs := ([(⟨#[]⟩ : ByteArray)] : List ByteArray)) (inner := [.string (⟨#[]⟩ : ByteArray)]) (ok := fun _ => True) (okp := fun _ => True) ?hr ?hp (fun _ hk => hk) trivial (Below.refl _ _) (Nat.le_refl _) (by simp) ?_; (case hd => rfl); (case hg => rfl); (case hr => first | (go_simp; done) | (go_simp; rfl)); (case hp => exact (Reps.one (show Kd.M Kd.string _ _ _ (⟨#[]⟩ : ByteArray) [.string (⟨#[]⟩ : ByteArray)] from rfl) (Reps.none _ _))); intro v352 w2 ho3 hb hg_ hnew_; clear hg_ hnew_; (first | rw [← Ny351.out] at ho3 | (simp only [Int.reduceToNat] at ho3; rw [← Ny351.out] at ho3)); have n0_ := Aside0.mk (Kd.R_lower ho3 (below_size (by repeat (first | (with_reducible first | exact HB.out | apply below_alloc | apply pw_below_drewN | apply below_drew1) | exact HB.out)))); have n1_ := Aside0.mk (below_step (by repeat (first | (with_reducible first | exact HB.out | apply below_alloc | apply pw_below_drewN | apply below_drew1) | exact HB.out)) hb); clear HB; have HO353 := n0_; have HB := n1_; clear n0_ n1_; clear hb ho3))
  repeat (go_quiet (first | ((with_reducible refine gate_dst (N := 8) rfl ?_); (try (refine gate_guard (by rfl) ?_; dsimp only)); refine Kd.R_lit Kd.string _ 9 ?hg (N := 8) ?hd (xs := ([(⟨#[]⟩ : ByteArray)] : List ByteArray)) (inner := [.string (⟨#[]⟩ : ByteArray)]) (ok := fun _ => True) (okp := fun _ => True) ?hr ?hp (fun _ hk => hk) trivial (Below.refl _ _) (Nat.le_refl _) (by simp) ?_; (case hd => rfl); (case hg => rfl); (case hr => first | (go_simp; done) | (go_simp; rfl)); (case hp => exact (Reps.one (show Kd.M Kd.string _ _ _ (⟨#[]⟩ : ByteArray) [.string (⟨#[]⟩ : ByteArray)] from rfl) (Reps.none _ _))); intro v352 w2 ho3 hb hg_ hnew_; clear hg_ hnew_; (first | rw [← Ny351.out] at ho3 | (simp only [Int.reduceToNat] at ho3; rw [← Ny351.out] at ho3)); have n0_ := Aside0.mk (Kd.R_lower ho3 (below_size (by repeat (first | (with_reducible first | exact HB.out | apply below_alloc | apply pw_below_drewN | apply below_drew1) | exact HB.out)))); have n1_ := Aside0.mk (below_step (by repeat (first | (with_reducible first | exact HB.out | apply below_alloc | apply pw_below_drewN | apply below_drew1) | exact HB.out)) hb); clear HB; have HO353 := n0_; have HB := n1_; clear n0_ n1_; clear hb ho3)); try go_wp2_with (first | ((with_reducible refine gate_dst (N := 8) rfl ?_); (try (refine gate_guard (by rfl) ?_; dsimp only)); refine Kd.R_lit Kd.string _ 9 ?hg (N := 8) ?hd (xs := ([(⟨#[]⟩ : ByteArray)] : List ByteArray)) (inner := [.string (⟨#[]⟩ : ByteArray)]) (ok := fun _ => True) (okp := fun _ => True) ?hr ?hp (fun _ hk => hk) trivial (Below.refl _ _) (Nat.le_refl _) (by simp) ?_; (case hd => rfl); (case hg => rfl); (case hr => first | (go_simp; done) | (go_simp; rfl)); (case hp => exact (Reps.one (show Kd.M Kd.string _ _ _ (⟨#[]⟩ : ByteArray) [.string (⟨#[]⟩ : ByteArray)] from rfl) (Reps.none _ _))); intro v352 w2 ho3 hb hg_ hnew_; clear hg_ hnew_; (first | rw [← Ny351.out] at ho3 | (simp only [Int.reduceToNat] at ho3; rw [← Ny351.out] at ho3)); have n0_ := Aside0.mk (Kd.R_lower ho3 (below_size (by repeat (first | (with_reducible first | exact HB.out | apply below_alloc | apply pw_below_drewN | apply below_drew1) | exact HB.out)))); have n1_ := Aside0.mk (below_step (by repeat (first | (with_reducible first | exact HB.out | apply below_alloc | apply pw_below_drewN | apply below_drew1) | exact HB.out)) hb); clear HB; have HO353 := n0_; have HB := n1_; clear n0_ n1_; clear hb ho3)))
  go_loopg [4, 5] k (fun kq v4 v5 w' => ∃ (x4_1 : Int) (x5_1 : Int), v4 = .int .i64 x4_1 ∧ v5 = .int .i64 x5_1 ∧ Aside0 (juratref16_States.l0 kq l0 y351 x4_1 x5_1 = some r) ∧ Aside0 (kq ≤ k) ∧ Aside0 (Kd.R Kd.string 9 w' w.heap.size (fun _ => True) v352 y351) ∧ Aside0 (Below w.heap.size w w'))
  case atStart => exact ⟨(0), (0), (by first | rfl | exact isE_ _ | exact isE2_ _ | (simp; done) | (simp [*]; done)), (by first | rfl | exact isE_ _ | exact isE2_ _ | (simp; done) | (simp [*]; done)), H', ⟨Nat.le_refl _⟩, ⟨by (with_reducible repeat (first | apply Kd.R_alloc | apply Kd.R_drewN | apply Kd.R_drew)); exact HO353.out⟩, ⟨by repeat (first | (with_reducible first | exact HB.out | apply below_alloc | apply pw_below_drewN | apply below_drew1) | exact HB.out)⟩⟩
  case round =>
    clear H'
    try clear p2
    obtain ⟨x4_1, x5_1, rfl, rfl, HA, HK1, HO_3, HB⟩ := hrel
    cases gk with
    | zero => exact absurd HA.out (by simp [juratref16_States.l0])
    | succ k1 =>
      have H := HA.out
      clear HA
      simp only [juratref16_States.l0] at H
      by_cases c4 : x5_1 < (l0.length : Int)
      · rw [if_pos c4] at H
        have c4b0 : decide (x5_1 < (l0.length : Int)) = true := decide_eq_true c4
        clear c4
        by_cases c5 : 0 ≤ x5_1
        · rw [if_pos c5] at H
          have c5b0 : decide (0 ≤ x5_1) = true := decide_eq_true c5
          clear c5
          by_cases c6 : ((rdOf ByteArray.empty l0 x5_1).size : Int) > x4_1
          · rw [if_pos c6] at H
            have c6b0 : decide (x4_1 < ((rdOf ByteArray.empty l0 x5_1).size : Int)) = true := decide_eq_true c6
            clear c6
            have H' := Aside0.mk H
            clear H
            have p354 : 0 ≤ (x5_1 : Int) := of_decide_eq_true (by first | (with_reducible assumption) | assumption)
            have q354 : x5_1 < (l0.length : Int) := of_decide_eq_true (by first | (with_reducible assumption) | assumption)
            obtain ⟨ad354, e354, hx354_0⟩ := Kd.at_string HR0.out x5_1 p354 q354
            cases e354
            replace hx354_0 := (HB.out.cell (World.block_lt_of_cell? w _ hx354_0)).trans hx354_0
            replace p354 := eq_true p354
            replace q354 := eq_true q354
            have p355 : 0 ≤ (x5_1 : Int) := of_decide_eq_true (by first | (with_reducible assumption) | assumption)
            have q355 : x5_1 < (l0.length : Int) := of_decide_eq_true (by first | (with_reducible assumption) | assumption)
            obtain ⟨ad355, e355, hx355_0⟩ := Kd.at_string HR0.out x5_1 p355 q355
            obtain rfl : ad354 = ad355 := (by injection e355)
            replace hx355_0 := (HB.out.cell (World.block_lt_of_cell? w _ hx355_0)).trans hx355_0
            replace p355 := eq_true p355
            replace q355 := eq_true q355
            go_wp2
            repeat (go_quiet (fail); try go_wp2)
            go_roundg k1
            case measure => have := HK1.out; omega
            case rel => exact ⟨(((rdOf ByteArray.empty l0 x5_1).size : Int)), (wrap64 (x5_1 + 1)), (by first | rfl | exact isE_ _ | exact isE2_ _ | (simp; done) | (simp [*]; done)), (by first | rfl | exact isE_ _ | exact isE2_ _ | (simp; done) | (simp [*]; done)), H', ⟨by have := HK1.out; omega⟩, ⟨by (with_reducible repeat (first | apply Kd.R_alloc | apply Kd.R_drewN | apply Kd.R_drew)); exact HO_3.out⟩, ⟨by repeat (first | (with_reducible first | exact HB.out | apply below_alloc | apply pw_below_drewN | apply below_drew1) | exact HB.out)⟩⟩
          · rw [if_neg c6] at H
            have c6b0 : decide (x4_1 < ((rdOf ByteArray.empty l0 x5_1).size : Int)) = false := decide_eq_false c6
            clear c6
            have H' := Aside0.mk H
            clear H
            have p354 : 0 ≤ (x5_1 : Int) := of_decide_eq_true (by first | (with_reducible assumption) | assumption)
            have q354 : x5_1 < (l0.length : Int) := of_decide_eq_true (by first | (with_reducible assumption) | assumption)
            obtain ⟨ad354, e354, hx354_0⟩ := Kd.at_string HR0.out x5_1 p354 q354
            cases e354
            replace hx354_0 := (HB.out.cell (World.block_lt_of_cell? w _ hx354_0)).trans hx354_0
            replace p354 := eq_true p354
            replace q354 := eq_true q354
            go_wp2
            repeat (go_quiet (fail); try go_wp2)
            go_roundg k1
            case measure => have := HK1.out; omega
            case rel => exact ⟨(x4_1), (wrap64 (x5_1 + 1)), (by first | rfl | exact isE_ _ | exact isE2_ _ | (simp; done) | (simp [*]; done)), (by first | rfl | exact isE_ _ | exact isE2_ _ | (simp; done) | (simp [*]; done)), H', ⟨by have := HK1.out; omega⟩, ⟨by (with_reducible repeat (first | apply Kd.R_alloc | apply Kd.R_drewN | apply Kd.R_drew)); exact HO_3.out⟩, ⟨by repeat (first | (with_reducible first | exact HB.out | apply below_alloc | apply pw_below_drewN | apply below_drew1) | exact HB.out)⟩⟩
        · rw [if_neg c5] at H
          exact absurd H (by simp)
      · rw [if_neg c4] at H
        have c4b0 : decide (x5_1 < (l0.length : Int)) = false := decide_eq_false c4
        clear c4
        have H' := Aside0.mk H
        clear H
        go_wp2
        repeat (go_quiet (fail); try go_wp2)
        go_loopg [3, 6] k1 (fun kq v3 v6 w' => ∃ (x3_2 : List ByteArray) (x6_2 : Int), v6 = .int .i64 x6_2 ∧ Aside0 (juratref16_States.l1 kq l0 x3_2 x4_1 x6_2 = some r) ∧ Aside0 (kq ≤ k1) ∧ Aside0 (Kd.R Kd.string 9 w' w.heap.size (fun _ => True) v3 x3_2) ∧ Aside0 (Below w.heap.size w w'))
        case atStart => exact ⟨(y351), (1), (by first | rfl | exact isE_ _ | exact isE2_ _ | (simp; done) | (simp [*]; done)), H', ⟨Nat.le_refl _⟩, ⟨by (with_reducible repeat (first | apply Kd.R_alloc | apply Kd.R_drewN | apply Kd.R_drew)); exact HO_3.out⟩, ⟨by repeat (first | (with_reducible first | exact HB.out | apply below_alloc | apply pw_below_drewN | apply below_drew1) | exact HB.out)⟩⟩
        case round =>
          clear H'
          try clear p2
          try clear p3
          try clear q3
          try clear hx3
          try clear c4
          try clear c4b0
          try clear c5
          try clear c5b0
          try clear c6
          try clear c6b0
          try clear p6
          try clear hx354_0
          try clear hx355_0
          try clear p2
          try clear p354
          try clear p355
          try clear q354
          try clear q355
          obtain ⟨x3_2, x6_2, rfl, HA, HK2, HO_3, HB⟩ := hrel
          cases gk with
          | zero => exact absurd HA.out (by simp [juratref16_States.l1])
          | succ k2 =>
            have H := HA.out
            clear HA
            simp only [juratref16_States.l1] at H
            by_cases c7 : x6_2 ≤ x4_1
            · rw [if_pos c7] at H
              have c7b0 : decide (x6_2 ≤ x4_1) = true := decide_eq_true c7
              clear c7
              have H' := Aside0.mk H
              clear H
              go_wp2
              repeat (go_quiet (fail); try go_wp2)
              go_loopg [3, 7] k2 (fun kq v3 v7 w' => ∃ (x3_3 : List ByteArray) (x7_3 : Int), v7 = .int .i64 x7_3 ∧ Aside0 (juratref16_States.l2 kq l0 x3_3 x4_1 x6_2 x7_3 = some r) ∧ Aside0 (kq ≤ k2) ∧ Aside0 (Kd.R Kd.string 9 w' w.heap.size (fun _ => True) v3 x3_3) ∧ Aside0 (Below w.heap.size w w'))
              case atStart => exact ⟨(x3_2), (0), (by first | rfl | exact isE_ _ | exact isE2_ _ | (simp; done) | (simp [*]; done)), H', ⟨Nat.le_refl _⟩, ⟨by (with_reducible repeat (first | apply Kd.R_alloc | apply Kd.R_drewN | apply Kd.R_drew)); exact HO_3.out⟩, ⟨by repeat (first | (with_reducible first | exact HB.out | apply below_alloc | apply pw_below_drewN | apply below_drew1) | exact HB.out)⟩⟩
              case round =>
                clear H'
                try clear p2
                try clear p3
                try clear q3
                try clear hx3
                try clear c4
                try clear c4b0
                try clear c5
                try clear c5b0
                try clear c6
                try clear c6b0
                try clear p6
                try clear c7
                try clear c7b0
                try clear hx354_0
                try clear hx355_0
                try clear p2
                try clear p3
                try clear p354
                try clear p355
                try clear p6
                try clear q3
                try clear q354
                try clear q355
                obtain ⟨x3_3, x7_3, rfl, HA, HK3, HO_3, HB⟩ := hrel
                cases gk with
                | zero => exact absurd HA.out (by simp [juratref16_States.l2])
                | succ k3 =>
                  have H := HA.out
                  clear HA
                  simp only [juratref16_States.l2] at H
                  by_cases c8 : x7_3 < (l0.length : Int)
                  · rw [if_pos c8] at H
                    have c8b0 : decide (x7_3 < (l0.length : Int)) = true := decide_eq_true c8
                    clear c8
                    by_cases c9 : 0 ≤ x7_3
                    · rw [if_pos c9] at H
                      have c9b0 : decide (0 ≤ x7_3) = true := decide_eq_true c9
                      clear c9
                      by_cases c10 : ((rdOf ByteArray.empty l0 x7_3).size : Int) ≥ x6_2
                      · rw [if_pos c10] at H
                        have c10b0 : decide (x6_2 ≤ ((rdOf ByteArray.empty l0 x7_3).size : Int)) = true := decide_eq_true c10
                        clear c10
                        by_cases c11 : 0 ≤ x6_2
                        · rw [if_pos c11] at H
                          have c11b0 := eq_true c11
                          have c11b1 : decide (0 ≤ x6_2) = true := decide_eq_true c11
                          clear c11
                          by_cases c12 : x6_2 ≤ ((rdOf ByteArray.empty l0 x7_3).size : Int)
                          · rw [if_pos c12] at H
                            have c12b0 := eq_true c12
                            have c12b1 : decide (x6_2 ≤ ((rdOf ByteArray.empty l0 x7_3).size : Int)) = true := decide_eq_true c12
                            clear c12
                            obtain ⟨ji13, hji13⟩ : ∃ j_ : Int, (wrap64 ((x3_3.length : Int) - 1)) = j_ := ⟨_, rfl⟩
                            replace H : (if 0 ≤ (ji13) then (if (ji13) < (x3_3.length : Int) then (if ((rdOf ByteArray.empty l0 x7_3).extract 0 (x6_2 : Int).toNat).toList = (rdOf ByteArray.empty x3_3 (ji13)).toList then (juratref16_States.l2 k3 l0 x3_3 x4_1 x6_2 (wrap64 (x7_3 + 1))) else (if x3_3.length < 8796093022208 then (juratref16_States.l2 k3 l0 (x3_3 ++ [(rdOf ByteArray.empty l0 x7_3).extract 0 (x6_2 : Int).toNat]) x4_1 x6_2 (wrap64 (x7_3 + 1))) else (none))) else (none)) else (none)) = some r := by first | (rw [hji13] at H; exact H) | (simp only [hji13] at H ⊢; exact H)
                            have hji13w : (IntKind.i64.wrap ((x3_3.length : Int) - 1)) = ji13 := (i64_w _).trans hji13
                            by_cases c14 : 0 ≤ (ji13)
                            · rw [if_pos c14] at H
                              have c14b0 : decide (0 ≤ (ji13)) = true := decide_eq_true c14
                              clear c14
                              by_cases c15 : (ji13) < (x3_3.length : Int)
                              · rw [if_pos c15] at H
                                have c15b0 : decide ((ji13) < (x3_3.length : Int)) = true := decide_eq_true c15
                                clear c15
                                by_cases c16 : ((rdOf ByteArray.empty l0 x7_3).extract 0 (x6_2 : Int).toNat).toList = (rdOf ByteArray.empty x3_3 (ji13)).toList
                                · rw [if_pos c16] at H
                                  have c16b0 : (((rdOf ByteArray.empty l0 x7_3).extract 0 (x6_2 : Int).toNat).toList == (rdOf ByteArray.empty x3_3 (ji13)).toList) = true := beq_iff_eq.mpr c16
                                  have c16b1 : (((rdOf ByteArray.empty l0 x7_3).extract 0 (x6_2 : Int).toNat).toList != (rdOf ByteArray.empty x3_3 (ji13)).toList) = false := bne_eq_false_iff_eq.mpr c16
                                  clear c16
                                  have H' := Aside0.mk H
                                  clear H
                                  have p356 : 0 ≤ (x7_3 : Int) := of_decide_eq_true (by first | (with_reducible assumption) | assumption)
                                  have q356 : x7_3 < (l0.length : Int) := of_decide_eq_true (by first | (with_reducible assumption) | assumption)
                                  obtain ⟨ad356, e356, hx356_0⟩ := Kd.at_string HR0.out x7_3 p356 q356
                                  cases e356
                                  replace hx356_0 := (HB.out.cell (World.block_lt_of_cell? w _ hx356_0)).trans hx356_0
                                  replace p356 := eq_true p356
                                  replace q356 := eq_true q356
                                  have p357 : 0 ≤ (x7_3 : Int) := of_decide_eq_true (by first | (with_reducible assumption) | assumption)
                                  have q357 : x7_3 < (l0.length : Int) := of_decide_eq_true (by first | (with_reducible assumption) | assumption)
                                  obtain ⟨ad357, e357, hx357_0⟩ := Kd.at_string HR0.out x7_3 p357 q357
                                  obtain rfl : ad356 = ad357 := (by injection e357)
                                  replace hx357_0 := (HB.out.cell (World.block_lt_of_cell? w _ hx357_0)).trans hx357_0
                                  replace p357 := eq_true p357
                                  replace q357 := eq_true q357
                                  obtain ⟨Ao17, co17, eo17⟩ := Kd.R_slice HO_3.out
                                  subst eo17
                                  have p358 : 0 ≤ ((ji13) : Int) := of_decide_eq_true (by first | (with_reducible assumption) | assumption)
                                  have q358 : (ji13) < (x3_3.length : Int) := of_decide_eq_true (by first | (with_reducible assumption) | assumption)
                                  obtain ⟨ad358, e358, hx358_0⟩ := Kd.at_string (Kd.R_reads' HO_3.out).2.2 (ji13) p358 q358
                                  cases e358
                                  replace p358 := eq_true p358
                                  replace q358 := eq_true q358
                                  go_wp2
                                  repeat (go_quiet (fail); try go_wp2)
                                  go_roundg k3
                                  case measure => have := HK1.out; have := HK2.out; have := HK3.out; omega
                                  case rel => exact ⟨(x3_3), (wrap64 (x7_3 + 1)), (by first | rfl | exact isE_ _ | exact isE2_ _ | (simp; done) | (simp [*]; done)), H', ⟨by have := HK1.out; have := HK2.out; have := HK3.out; omega⟩, ⟨by (with_reducible repeat (first | apply Kd.R_alloc | apply Kd.R_drewN | apply Kd.R_drew)); exact HO_3.out⟩, ⟨by repeat (first | (with_reducible first | exact HB.out | apply below_alloc | apply pw_below_drewN | apply below_drew1) | exact HB.out)⟩⟩
                                · rw [if_neg c16] at H
                                  have c16b0 : (((rdOf ByteArray.empty l0 x7_3).extract 0 (x6_2 : Int).toNat).toList == (rdOf ByteArray.empty x3_3 (ji13)).toList) = false := beq_eq_false_iff_ne.mpr c16
                                  have c16b1 : (((rdOf ByteArray.empty l0 x7_3).extract 0 (x6_2 : Int).toNat).toList != (rdOf ByteArray.empty x3_3 (ji13)).toList) = true := bne_iff_ne.mpr c16
                                  have c18b0 := eq_true (of_decide_eq_true (by first | (with_reducible assumption) | assumption) : 0 ≤ x6_2)
                                  have c19b0 := eq_true (of_decide_eq_true (by first | (with_reducible assumption) | assumption) : x6_2 ≤ ((rdOf ByteArray.empty l0 x7_3).size : Int))
                                  by_cases c20 : x3_3.length < 8796093022208
                                  · rw [if_pos c20] at H
                                    have LMc20 := Aside0.mk c20
                                    clear c20
                                    obtain ⟨y360, hy360⟩ : ∃ y_ : List ByteArray, y_ = (x3_3 ++ [(rdOf ByteArray.empty l0 x7_3).extract 0 (x6_2 : Int).toNat]) := ⟨_, rfl⟩
                                    replace H : (juratref16_States.l2 k3 l0 y360 x4_1 x6_2 (wrap64 (x7_3 + 1))) = some r := by first | (rw [hy360]; with_reducible exact H) | (have H2_ := (Option.bind_some _ _).symm.trans H; rw [hy360]; with_reducible exact H2_) | (have H2_ := (Option.bind_some _ _).symm.trans H; with_reducible exact H2_) | with_reducible exact H | (rw [hy360]; exact H) | exact H
                                    have Ny360 := Aside0.mk hy360
                                    clear hy360
                                    have H' := Aside0.mk H
                                    clear H
                                    have p356 : 0 ≤ (x7_3 : Int) := of_decide_eq_true (by first | (with_reducible assumption) | assumption)
                                    have q356 : x7_3 < (l0.length : Int) := of_decide_eq_true (by first | (with_reducible assumption) | assumption)
                                    obtain ⟨ad356, e356, hx356_0⟩ := Kd.at_string HR0.out x7_3 p356 q356
                                    cases e356
                                    replace hx356_0 := (HB.out.cell (World.block_lt_of_cell? w _ hx356_0)).trans hx356_0
                                    replace p356 := eq_true p356
                                    replace q356 := eq_true q356
                                    have p357 : 0 ≤ (x7_3 : Int) := of_decide_eq_true (by first | (with_reducible assumption) | assumption)
                                    have q357 : x7_3 < (l0.length : Int) := of_decide_eq_true (by first | (with_reducible assumption) | assumption)
                                    obtain ⟨ad357, e357, hx357_0⟩ := Kd.at_string HR0.out x7_3 p357 q357
                                    obtain rfl : ad356 = ad357 := (by injection e357)
                                    replace hx357_0 := (HB.out.cell (World.block_lt_of_cell? w _ hx357_0)).trans hx357_0
                                    replace p357 := eq_true p357
                                    replace q357 := eq_true q357
                                    obtain ⟨Ao21, co21, eo21⟩ := Kd.R_slice HO_3.out
                                    subst eo21
                                    have p358 : 0 ≤ ((ji13) : Int) := of_decide_eq_true (by first | (with_reducible assumption) | assumption)
                                    have q358 : (ji13) < (x3_3.length : Int) := of_decide_eq_true (by first | (with_reducible assumption) | assumption)
                                    obtain ⟨ad358, e358, hx358_0⟩ := Kd.at_string (Kd.R_reads' HO_3.out).2.2 (ji13) p358 q358
                                    cases e358
                                    replace p358 := eq_true p358
                                    replace q358 := eq_true q358
                                    have p359 : 0 ≤ (x7_3 : Int) := of_decide_eq_true (by first | (with_reducible assumption) | assumption)
                                    have q359 : x7_3 < (l0.length : Int) := of_decide_eq_true (by first | (with_reducible assumption) | assumption)
                                    obtain ⟨ad359, e359, hx359_0⟩ := Kd.at_string HR0.out x7_3 p359 q359
                                    obtain rfl : ad356 = ad359 := (by injection e359)
                                    replace hx359_0 := (HB.out.cell (World.block_lt_of_cell? w _ hx359_0)).trans hx359_0
                                    replace p359 := eq_true p359
                                    replace q359 := eq_true q359
                                    go_wp2_with (first | ((with_reducible refine gate_builtin (b := .append) (xs := #[.tmp 60, .tmp 67]) rfl ?_); (try (refine gate_guard (by rfl) ?_; dsimp only)); at_builtin; refine Kd.R_append Kd.string (w0 := w) w.heap.size rfl (.tmp 60) (.tmp 67) 22 9 (.string ⟨#[]⟩) 16 rfl Try.underlying22 info9 rfl (by decide) (by omega) (.slice (some ad358) x3_3.length co21) x3_3 ((rdOf ByteArray.empty l0 x7_3).extract 0 (x6_2 : Int).toNat) [.string ((rdOf ByteArray.empty l0 x7_3).extract 0 (x6_2 : Int).toNat)] (fun _ => True) (fun _ => False) rfl rfl ?aP (fun _ hk => hk.elim) ?aF ?aO ?aB ?aS ?aL ?_; (case aP => exact rfl); (case aB => exact (by repeat (first | (with_reducible first | exact HB.out | apply below_alloc | apply pw_below_drewN | apply below_drew1) | exact HB.out))); (case aF => exact (fun _ _ => trivial)); (case aO => exact (by (with_reducible repeat (first | apply Kd.R_alloc | apply Kd.R_drewN | apply Kd.R_drew)); exact HO_3.out)); (case aS => exact (below_size (by repeat (first | (with_reducible first | exact HB.out | apply below_alloc | apply pw_below_drewN | apply below_drew1) | exact HB.out)))); (case aL => have := LMc20.out; omega); intro v361 w22 ho hb hg hat; rw [← Ny360.out] at ho; have n0_ := Aside0.mk (hb); have n1_ := Aside0.mk (ho); clear HB; clear HO_3; have HB := n0_; have HO362 := n1_; clear n0_ n1_; clear ho hb hg hat))
                                    repeat (go_quiet (first | ((with_reducible refine gate_builtin (b := .append) (xs := #[.tmp 60, .tmp 67]) rfl ?_); (try (refine gate_guard (by rfl) ?_; dsimp only)); at_builtin; refine Kd.R_append Kd.string (w0 := w) w.heap.size rfl (.tmp 60) (.tmp 67) 22 9 (.string ⟨#[]⟩) 16 rfl Try.underlying22 info9 rfl (by decide) (by omega) (.slice (some ad358) x3_3.length co21) x3_3 ((rdOf ByteArray.empty l0 x7_3).extract 0 (x6_2 : Int).toNat) [.string ((rdOf ByteArray.empty l0 x7_3).extract 0 (x6_2 : Int).toNat)] (fun _ => True) (fun _ => False) rfl rfl ?aP (fun _ hk => hk.elim) ?aF ?aO ?aB ?aS ?aL ?_; (case aP => exact rfl); (case aB => exact (by repeat (first | (with_reducible first | exact HB.out | apply below_alloc | apply pw_below_drewN | apply below_drew1) | exact HB.out))); (case aF => exact (fun _ _ => trivial)); (case aO => exact (by (with_reducible repeat (first | apply Kd.R_alloc | apply Kd.R_drewN | apply Kd.R_drew)); exact HO_3.out)); (case aS => exact (below_size (by repeat (first | (with_reducible first | exact HB.out | apply below_alloc | apply pw_below_drewN | apply below_drew1) | exact HB.out)))); (case aL => have := LMc20.out; omega); intro v361 w22 ho hb hg hat; rw [← Ny360.out] at ho; have n0_ := Aside0.mk (hb); have n1_ := Aside0.mk (ho); clear HB; clear HO_3; have HB := n0_; have HO362 := n1_; clear n0_ n1_; clear ho hb hg hat)); try go_wp2_with (first | ((with_reducible refine gate_builtin (b := .append) (xs := #[.tmp 60, .tmp 67]) rfl ?_); (try (refine gate_guard (by rfl) ?_; dsimp only)); at_builtin; refine Kd.R_append Kd.string (w0 := w) w.heap.size rfl (.tmp 60) (.tmp 67) 22 9 (.string ⟨#[]⟩) 16 rfl Try.underlying22 info9 rfl (by decide) (by omega) (.slice (some ad358) x3_3.length co21) x3_3 ((rdOf ByteArray.empty l0 x7_3).extract 0 (x6_2 : Int).toNat) [.string ((rdOf ByteArray.empty l0 x7_3).extract 0 (x6_2 : Int).toNat)] (fun _ => True) (fun _ => False) rfl rfl ?aP (fun _ hk => hk.elim) ?aF ?aO ?aB ?aS ?aL ?_; (case aP => exact rfl); (case aB => exact (by repeat (first | (with_reducible first | exact HB.out | apply below_alloc | apply pw_below_drewN | apply below_drew1) | exact HB.out))); (case aF => exact (fun _ _ => trivial)); (case aO => exact (by (with_reducible repeat (first | apply Kd.R_alloc | apply Kd.R_drewN | apply Kd.R_drew)); exact HO_3.out)); (case aS => exact (below_size (by repeat (first | (with_reducible first | exact HB.out | apply below_alloc | apply pw_below_drewN | apply below_drew1) | exact HB.out)))); (case aL => have := LMc20.out; omega); intro v361 w22 ho hb hg hat; rw [← Ny360.out] at ho; have n0_ := Aside0.mk (hb); have n1_ := Aside0.mk (ho); clear HB; clear HO_3; have HB := n0_; have HO362 := n1_; clear n0_ n1_; clear ho hb hg hat)))
                                    go_roundg k3
                                    case measure => have := HK1.out; have := HK2.out; have := HK3.out; omega
                                    case rel => exact ⟨(y360), (wrap64 (x7_3 + 1)), (by first | rfl | exact isE_ _ | exact isE2_ _ | (simp; done) | (simp [*]; done)), H', ⟨by have := HK1.out; have := HK2.out; have := HK3.out; omega⟩, ⟨by (with_reducible repeat (first | apply Kd.R_alloc | apply Kd.R_drewN | apply Kd.R_drew)); exact HO362.out⟩, ⟨by repeat (first | (with_reducible first | exact HB.out | apply below_alloc | apply pw_below_drewN | apply below_drew1) | exact HB.out)⟩⟩
                                  · rw [if_neg c20] at H
                                    exact absurd H (by simp)
                              · rw [if_neg c15] at H
                                exact absurd H (by simp)
                            · rw [if_neg c14] at H
                              exact absurd H (by simp)
                          · rw [if_neg c12] at H
                            exact absurd H (by simp)
                        · rw [if_neg c11] at H
                          exact absurd H (by simp)
                      · rw [if_neg c10] at H
                        have c10b0 : decide (x6_2 ≤ ((rdOf ByteArray.empty l0 x7_3).size : Int)) = false := decide_eq_false c10
                        clear c10
                        have H' := Aside0.mk H
                        clear H
                        have p356 : 0 ≤ (x7_3 : Int) := of_decide_eq_true (by first | (with_reducible assumption) | assumption)
                        have q356 : x7_3 < (l0.length : Int) := of_decide_eq_true (by first | (with_reducible assumption) | assumption)
                        obtain ⟨ad356, e356, hx356_0⟩ := Kd.at_string HR0.out x7_3 p356 q356
                        cases e356
                        replace hx356_0 := (HB.out.cell (World.block_lt_of_cell? w _ hx356_0)).trans hx356_0
                        replace p356 := eq_true p356
                        replace q356 := eq_true q356
                        go_wp2
                        repeat (go_quiet (fail); try go_wp2)
                        go_roundg k3
                        case measure => have := HK1.out; have := HK2.out; have := HK3.out; omega
                        case rel => exact ⟨(x3_3), (wrap64 (x7_3 + 1)), (by first | rfl | exact isE_ _ | exact isE2_ _ | (simp; done) | (simp [*]; done)), H', ⟨by have := HK1.out; have := HK2.out; have := HK3.out; omega⟩, ⟨by (with_reducible repeat (first | apply Kd.R_alloc | apply Kd.R_drewN | apply Kd.R_drew)); exact HO_3.out⟩, ⟨by repeat (first | (with_reducible first | exact HB.out | apply below_alloc | apply pw_below_drewN | apply below_drew1) | exact HB.out)⟩⟩
                    · rw [if_neg c9] at H
                      exact absurd H (by simp)
                  · rw [if_neg c8] at H
                    have c8b0 : decide (x7_3 < (l0.length : Int)) = false := decide_eq_false c8
                    clear c8
                    have H' := Aside0.mk H
                    clear H
                    go_wp2
                    repeat (go_quiet (fail); try go_wp2)
                    go_roundg k3
                    case measure => have := HK1.out; have := HK2.out; have := HK3.out; omega
                    case rel => exact ⟨(x3_3), (wrap64 (x6_2 + 1)), (by first | rfl | exact isE_ _ | exact isE2_ _ | (simp; done) | (simp [*]; done)), H', ⟨by have := HK1.out; have := HK2.out; have := HK3.out; omega⟩, ⟨by (with_reducible repeat (first | apply Kd.R_alloc | apply Kd.R_drewN | apply Kd.R_drew)); exact HO_3.out⟩, ⟨by repeat (first | (with_reducible first | exact HB.out | apply below_alloc | apply pw_below_drewN | apply below_drew1) | exact HB.out)⟩⟩
            · rw [if_neg c7] at H
              have c7b0 : decide (x6_2 ≤ x4_1) = false := decide_eq_false c7
              clear c7
              obtain rfl := Option.some.inj H
              go_wp2
              repeat (go_quiet (fail); try go_wp2)
              go_ret
              exact ⟨_, by first | rfl | (simp [errW_none, errW_some] <;> rfl) | (simp [*, errW_none, errW_some] <;> rfl), by (with_reducible repeat (first | apply Kd.R_alloc | apply Kd.R_drewN | apply Kd.R_drew)); exact HO_3.out, by repeat (first | (with_reducible first | exact HB.out | apply below_alloc | apply pw_below_drewN | apply below_drew1) | exact HB.out)⟩

end Go.Proofs.Ytnpkbnfiadkgnaa.P

/- What layer 16's reference tells of texts: the beginnings, in order; and that the nodes' paths are these; no condition beyond the sizes that stand in each statement. -/
namespace Go.Proofs.Ytnpkbnfiadkgnaa.Base
open Go Go.RowKit Go.Proofs.YtnpkbnfiadkgnaaW.PrintWords Go.Proofs.YtnpkbnfiadkgnaaW.PrintMore Go.Proofs.Ytnpkbnfiadkgnaa.P
set_option linter.unusedVariables false

/-- One text is shorter, or as long and less. -/
def ltP (p q : ByteArray) : Prop := p.size < q.size ∨ (p.size = q.size ∧ Op.bytesLess (LL p) (LL q) = true)
theorem ltP_asym {p q : ByteArray} (h : ltP p q) : ¬ ltP q p := by
  rintro (h2 | ⟨h2, h3⟩)
  · rcases h with h | ⟨h, _⟩ <;> omega
  · rcases h with h | ⟨_, h⟩
    · omega
    · rw [bl_asym h] at h3; cases h3
theorem ltP_irrefl (p : ByteArray) : ¬ ltP p p := by
  rintro (h | ⟨_, h⟩)
  · omega
  · rw [bl_irrefl] at h; cases h
theorem pw_ext {α : Type} {R : α → α → Prop} (ha : ∀ {x y}, R x y → ¬ R y x) : ∀ {l m : List α}, l.Pairwise R → m.Pairwise R → (∀ x, x ∈ l ↔ x ∈ m) → l = m
  | [], [], _, _, _ => rfl
  | [], y :: m, _, _, h => absurd ((h y).2 List.mem_cons_self) (by simp)
  | x :: l, [], _, _, h => absurd ((h x).1 List.mem_cons_self) (by simp)
  | x :: l, y :: m, hl, hm, h => by
    obtain ⟨l1, l2⟩ := List.pairwise_cons.1 hl
    obtain ⟨m1, m2⟩ := List.pairwise_cons.1 hm
    have e : x = y := by
      rcases List.mem_cons.1 ((h x).1 List.mem_cons_self) with h1 | h1
      · exact h1
      · rcases List.mem_cons.1 ((h y).2 List.mem_cons_self) with h2 | h2
        · exact h2.symm
        · exact absurd (m1 x h1) (ha (l1 y h2))
    subst e
    congr 1
    refine pw_ext ha l2 m2 fun z => ?_
    constructor
    · intro hz
      rcases List.mem_cons.1 ((h z).1 (List.mem_cons_of_mem _ hz)) with h1 | h1
      · subst h1; exact absurd (l1 z hz) (fun q => ha q q)
      · exact h1
    · intro hz
      rcases List.mem_cons.1 ((h z).2 (List.mem_cons_of_mem _ hz)) with h1 | h1
      · subst h1; exact absurd (m1 z hz) (fun q => ha q q)
      · exact h1
/-- Beginnings as long, of texts in order. -/
theorem bl_pre {x y s t : List UInt8} (hs : x <+: s) (ht : y <+: t) (hl : x.length = y.length) (h : Op.bytesLess s t = true) : x = y ∨ Op.bytesLess x y = true := by
  induction x generalizing y s t with
  | nil =>
    left
    exact (List.length_eq_zero_iff.1 hl.symm).symm
  | cons a x ih =>
    cases y with
    | nil => simp at hl
    | cons b y =>
      obtain ⟨r1, rfl⟩ := hs
      obtain ⟨r2, rfl⟩ := ht
      rw [List.cons_append, List.cons_append] at h
      by_cases hab : a = b
      · subst hab
        rw [bl_cons_same] at h
        rcases ih (y := y) (s := x ++ r1) (t := y ++ r2) (List.prefix_append _ _) (List.prefix_append _ _) (by simpa using hl) h with h1 | h1
        · left; rw [h1]
        · right; rw [bl_cons_same]; exact h1
      · right
        simp only [Op.bytesLess] at h ⊢
        by_cases h1 : a < b
        · simp [h1]
        · exfalso
          simp [h1, hab] at h

/-- Is a text a beginning? -/
def isB (w : List ByteArray) (p : ByteArray) : Prop := p = ByteArray.empty ∨ ∃ t, t < w.length ∧ LL p <+: LL (w.getD t ByteArray.empty)
def lastS (out : List ByteArray) : ByteArray := out.getD (out.length - 1) ByteArray.empty
/-- One text's beginning, if it is not told yet. -/
def addS (n : Nat) (out : List ByteArray) (s : ByteArray) : List ByteArray := if n ≤ s.size then (if s.extract 0 n = lastS out then out else out ++ [s.extract 0 n]) else out
def rowS (w : List ByteArray) (n : Nat) (out : List ByteArray) : List ByteArray := w.foldl (addS n) out
def allS (w : List ByteArray) : Nat → Nat → List ByteArray → List ByteArray
  | 0, _, out => out
  | f + 1, n, out => allS w f (n + 1) (rowS w n out)
theorem addS_length (n : Nat) (out : List ByteArray) (s : ByteArray) : (addS n out s).length ≤ out.length + 1 ∧ out.length ≤ (addS n out s).length := by
  unfold addS
  split
  · split
    · omega
    · simp
  · omega
theorem rowS_length (n : Nat) : ∀ (w out : List ByteArray), (rowS w n out).length ≤ out.length + w.length ∧ out.length ≤ (rowS w n out).length
  | [], out => ⟨Nat.le_refl _, Nat.le_refl _⟩
  | s :: w, out => by
    have h1 := addS_length n out s
    have h2 := rowS_length n w (addS n out s)
    have e : rowS (s :: w) n out = rowS w n (addS n out s) := rfl
    rw [e, List.length_cons]
    omega
structure InvS (w : List ByteArray) (n i : Nat) (out : List ByteArray) : Prop where
  pw : out.Pairwise ltP
  ne : 0 < out.length
  mem : ∀ p, p ∈ out ↔ (p.size < n ∧ isB w p) ∨ (p.size = n ∧ ∃ t, t < i ∧ t < w.length ∧ LL p <+: LL (w.getD t ByteArray.empty))
theorem lastS_mem {out : List ByteArray} (h : 0 < out.length) : lastS out ∈ out := getD_mem out _ _ (by omega)
theorem pw_last {out : List ByteArray} (hp : out.Pairwise ltP) (h : 0 < out.length) : ∀ x ∈ out, x = lastS out ∨ ltP x (lastS out) := fun x hx => by
  obtain ⟨i, hi, rfl⟩ := List.mem_iff_getElem.1 hx
  unfold lastS
  rw [List.getD_eq_getElem?_getD, List.getElem?_eq_getElem (by omega)]
  by_cases h1 : i = out.length - 1
  · left; subst h1; rfl
  · right
    exact List.pairwise_iff_getElem.1 hp i (out.length - 1) hi (by omega) (by omega)
theorem take_pre (s : ByteArray) (n : Nat) : LL (s.extract 0 n) <+: LL s := by
  rw [LL_extract, List.drop_zero]; exact List.take_prefix _ _
theorem take_size {s : ByteArray} {n : Nat} (h : n ≤ s.size) : (s.extract 0 n).size = n := by
  rw [ByteArray.size_extract, Nat.min_eq_left h, Nat.sub_zero]
theorem pre_take {p s : ByteArray} (h : LL p <+: LL s) : p = s.extract 0 p.size := by
  apply LL_inj
  rw [LL_extract, List.drop_zero, ← LL_length]
  exact (List.prefix_iff_eq_take.1 h)
theorem invS_add {w : List ByteArray} (hs : srt w) {n i : Nat} {out : List ByteArray} (hi : i < w.length) (h : InvS w n i out) : InvS w n (i + 1) (addS n out (w.getD i ByteArray.empty)) := by
  obtain ⟨s, hss⟩ : ∃ s, w.getD i ByteArray.empty = s := ⟨_, rfl⟩
  have hmem : ∀ p : ByteArray, (∃ t, t < i + 1 ∧ t < w.length ∧ LL p <+: LL (w.getD t ByteArray.empty)) ↔ (∃ t, t < i ∧ t < w.length ∧ LL p <+: LL (w.getD t ByteArray.empty)) ∨ LL p <+: LL s := fun p => by
    constructor
    · rintro ⟨t, h1, h2, h3⟩
      by_cases ht : t = i
      · subst ht; rw [hss] at h3; exact .inr h3
      · exact .inl ⟨t, by omega, h2, h3⟩
    · rintro (⟨t, h1, h2, h3⟩ | h3)
      · exact ⟨t, by omega, h2, h3⟩
      · exact ⟨i, by omega, hi, by rw [hss]; exact h3⟩
  rw [hss]
  unfold addS
  by_cases hn : n ≤ s.size
  · rw [if_pos hn]
    have hsz := take_size hn
    by_cases hl : s.extract 0 n = lastS out
    · rw [if_pos hl]
      refine ⟨h.pw, h.ne, fun p => ?_⟩
      rw [h.mem, hmem]
      constructor
      · rintro (h1 | ⟨h1, h2⟩)
        · exact .inl h1
        · exact .inr ⟨h1, .inl h2⟩
      · rintro (h1 | ⟨h1, h2 | h2⟩)
        · exact .inl h1
        · exact .inr ⟨h1, h2⟩
        · have e : p = lastS out := by rw [← hl, pre_take h2, h1]
          exact (h.mem p).1 (by rw [e]; exact lastS_mem h.ne)
    · rw [if_neg hl]
      have hbelow : ∀ x ∈ out, ltP x (s.extract 0 n) := fun x hx => by
        have key : ∀ y ∈ out, y.size = n → y = s.extract 0 n ∨ ltP y (s.extract 0 n) := fun y hy hyn => by
          rcases (h.mem y).1 hy with h1 | ⟨h1, t, t1, t2, t3⟩
          · omega
          · have := hs t i t1 hi
            rw [hss] at this
            rcases bl_pre t3 (take_pre s n) (by rw [LL_length, LL_length, hsz, h1]) this with h2 | h2
            · exact .inl (LL_inj h2)
            · exact .inr (.inr ⟨by rw [hsz, h1], h2⟩)
        rcases (h.mem x).1 hx with ⟨h1, _⟩ | ⟨h1, _⟩
        · exact .inl (by rw [hsz]; exact h1)
        · rcases key x hx h1 with h2 | h2
          · exfalso
            rcases pw_last h.pw h.ne x hx with h3 | h3
            · exact hl (h2 ▸ h3)
            · rw [h2] at h3
              have hln : (lastS out).size = n := by
                rcases (h.mem _).1 (lastS_mem h.ne) with ⟨h4, _⟩ | ⟨h4, _⟩
                · rcases h3 with h5 | ⟨h5, _⟩ <;> rw [hsz] at h5 <;> omega
                · exact h4
              rcases key _ (lastS_mem h.ne) hln with h4 | h4
              · exact hl h4.symm
              · exact ltP_asym h3 h4
          · exact h2
      refine ⟨List.pairwise_append.2 ⟨h.pw, by simp, fun x hx y hy => by rw [List.mem_singleton.1 hy]; exact hbelow x hx⟩, by simp, fun p => ?_⟩
      rw [List.mem_append, List.mem_singleton, h.mem, hmem]
      constructor
      · rintro ((h1 | ⟨h1, h2⟩) | h1)
        · exact .inl h1
        · exact .inr ⟨h1, .inl h2⟩
        · exact .inr ⟨by rw [h1, hsz], .inr (by rw [h1]; exact take_pre s n)⟩
      · rintro (h1 | ⟨h1, h2 | h2⟩)
        · exact .inl (.inl h1)
        · exact .inl (.inr ⟨h1, h2⟩)
        · exact .inr (by rw [← h1]; exact pre_take h2)
  · rw [if_neg hn]
    refine ⟨h.pw, h.ne, fun p => ?_⟩
    rw [h.mem, hmem]
    constructor
    · rintro (h1 | ⟨h1, h2⟩)
      · exact .inl h1
      · exact .inr ⟨h1, .inl h2⟩
    · rintro (h1 | ⟨h1, h2 | h2⟩)
      · exact .inl h1
      · exact .inr ⟨h1, h2⟩
      · have := h2.length_le
        rw [LL_length, LL_length] at this
        omega
theorem invS_row {w : List ByteArray} (hs : srt w) {n : Nat} : ∀ (f i : Nat) (out : List ByteArray), i + f = w.length → InvS w n i out → InvS w n w.length (rowS (w.drop i) n out)
  | 0, i, out, hi, h => by
    rw [List.drop_of_length_le (by omega), ← hi]
    exact h
  | f + 1, i, out, hi, h => by
    rw [getD_drop w i ByteArray.empty (by omega)]
    exact invS_row hs f (i + 1) _ (by omega) (invS_add hs (by omega) h)
theorem invS_next {w : List ByteArray} {n : Nat} (hn : 1 ≤ n) {out : List ByteArray} (h : InvS w n w.length out) : InvS w (n + 1) 0 out := by
  refine ⟨h.pw, h.ne, fun p => ?_⟩
  rw [h.mem]
  constructor
  · rintro (⟨h1, h2⟩ | ⟨h1, t, _, h2, h3⟩)
    · exact .inl ⟨by omega, h2⟩
    · exact .inl ⟨by omega, .inr ⟨t, h2, h3⟩⟩
  · rintro (⟨h1, h2⟩ | ⟨_, t, h2, _⟩)
    · by_cases h3 : p.size < n
      · exact .inl ⟨h3, h2⟩
      · rcases h2 with h2 | ⟨t, h4, h5⟩
        · subst h2
          exact absurd (show (0 : Nat) < n by omega) h3
        · exact .inr ⟨by omega, t, h4, h4, h5⟩
    · omega
theorem invS_all {w : List ByteArray} (hs : srt w) : ∀ (f n : Nat) (out : List ByteArray), 1 ≤ n → InvS w n 0 out → InvS w (n + f) 0 (allS w f n out)
  | 0, n, out, _, h => h
  | f + 1, n, out, hn, h => by
    have h1 := invS_row hs (n := n) w.length 0 out (by omega) h
    rw [List.drop_zero] at h1
    have := invS_all hs f (n + 1) _ (by omega) (invS_next hn h1)
    rw [show n + (f + 1) = n + 1 + f by omega]
    exact this
theorem invS_start (w : List ByteArray) : InvS w 1 0 [ByteArray.empty] := by
  refine ⟨by simp, by simp, fun p => ?_⟩
  rw [List.mem_singleton]
  constructor
  · rintro rfl
    exact .inl ⟨Nat.zero_lt_one, .inl rfl⟩
  · rintro (⟨h1, h2⟩ | ⟨_, t, h2, _⟩)
    · apply LL_inj
      rw [LL_empty]
      exact List.length_eq_zero_iff.1 (by rw [LL_length]; omega)
    · omega
theorem most_le (l : List ByteArray) : ∀ a, a ≤ mostB a l ∧ ∀ s ∈ l, s.size ≤ mostB a l := by
  induction l with
  | nil => intro a; exact ⟨Nat.le_refl _, by simp⟩
  | cons x l ih =>
    intro a
    obtain ⟨h1, h2⟩ := ih (max a x.size)
    have e : mostB a (x :: l) = mostB (max a x.size) l := rfl
    rw [e]
    refine ⟨by omega, fun s hs => ?_⟩
    rcases List.mem_cons.1 hs with rfl | hs
    · omega
    · exact h2 s hs
/-- All beginnings. -/
theorem allS_mem {w : List ByteArray} (hs : srt w) : (allS w (mostB 0 w) 1 [ByteArray.empty]).Pairwise ltP ∧ ∀ p, p ∈ allS w (mostB 0 w) 1 [ByteArray.empty] ↔ isB w p := by
  have h := invS_all hs (mostB 0 w) 1 _ (Nat.le_refl _) (invS_start w)
  refine ⟨h.pw, fun p => ?_⟩
  rw [h.mem]
  constructor
  · rintro (⟨_, h1⟩ | ⟨_, t, h2, _⟩)
    · exact h1
    · omega
  · intro h1
    refine .inl ⟨?_, h1⟩
    rcases h1 with h1 | ⟨t, h2, h3⟩
    · subst h1
      exact Nat.lt_of_lt_of_le Nat.zero_lt_one (Nat.le_add_right _ _)
    · have h4 := h3.length_le
      rw [LL_length, LL_length] at h4
      have := (most_le w 0).2 _ (getD_mem w t ByteArray.empty h2)
      omega
/-- The paths of the nodes. -/
def strP (p : List UInt8) : ByteArray := ⟨p.toArray⟩
theorem LL_strP (p : List UInt8) : LL (strP p) = p := by unfold LL strP; simp
theorem strP_LL (s : ByteArray) : strP (LL s) = s := LL_inj (LL_strP _)
theorem strP_size (p : List UInt8) : (strP p).size = p.length := by rw [← LL_length, LL_strP]
def paths (w : List ByteArray) : List ByteArray := (trN w).map fun n => strP n.path
theorem paths_mem {w : List ByteArray} (hs : srt w) (p : ByteArray) : p ∈ paths w ↔ isB w p := by
  unfold paths
  rw [List.mem_map]
  constructor
  · rintro ⟨n, hn, rfl⟩
    obtain ⟨i, hi, he⟩ := List.mem_iff_getElem.1 hn
    have h : (trN w)[i]? = some n := by rw [List.getElem?_eq_getElem hi, he]
    rcases path_is hs h with h1 | ⟨t, h1, h2⟩
    · exact .inl (LL_inj (by rw [LL_strP, h1, LL_empty]))
    · exact .inr ⟨t, h1, by rw [LL_strP]; exact h2⟩
  · intro h
    obtain ⟨i, n, h1, h2⟩ := path_has hs _ (LL p) rfl (by
      rcases h with h | h
      · left; rw [h, LL_empty]
      · exact .inr h)
    exact ⟨n, List.mem_of_getElem? h1, by rw [h2, strP_LL]⟩
theorem paths_pw {w : List ByteArray} (hs : srt w) : (paths w).Pairwise ltP := by
  unfold paths
  rw [List.pairwise_map]
  rcases Nat.eq_zero_or_pos w.length with h0 | h0
  · unfold trN
    rw [List.length_eq_zero_iff.1 h0, nodes_nil]
    simp
  · refine List.Pairwise.imp_of_mem (fun {n m} hn hm h => ?_) (nodes_up hs (trK w))
    have okn := nodes_ok hs _ n hn
    have okm := nodes_ok hs _ m hm
    have ln := nodes_lt hs h0 _ n hn
    have lm := nodes_lt hs h0 _ m hm
    unfold ltP
    rw [strP_size, strP_size, LL_strP, LL_strP]
    rcases h with h | ⟨h1, h2⟩
    · exact .inl h
    · refine .inr ⟨h1, ?_⟩
      have hp := hs n.lo m.lo (by omega) (by have := okm.top; omega)
      rcases bl_pre (okn.pre n.lo (Nat.le_refl _) ln) (okm.pre m.lo (Nat.le_refl _) lm) h1 hp with h3 | h3
      · exfalso
        have := okn.all m.lo (by have := okm.top; omega) (by rw [h3]; exact okm.pre m.lo (Nat.le_refl _) lm)
        omega
      · exact h3
theorem paths_all {w : List ByteArray} (hs : srt w) : allS w (mostB 0 w) 1 [ByteArray.empty] = paths w :=
  pw_ext ltP_asym (allS_mem hs).1 (paths_pw hs) (fun p => by rw [(allS_mem hs).2, paths_mem hs])

/-! the reference's rounds -/
theorem rst_l2 (w : List ByteArray) (hl : w.length ≤ 65535) (hz : ∀ s ∈ w, s.size ≤ 65535) (x4 : Int) (n : Nat) (hn : n ≤ 65536) (R : List ByteArray) : ∀ (f i : Nat) (out : List ByteArray), i + f = w.length → 0 < out.length → out.length + f ≤ 8796093022208 →
    Ev (fun k => juratref16_States.l1 k w (rowS (w.drop i) n out) x4 ((n : Int) + 1)) R → Ev (fun k => juratref16_States.l2 k w out x4 (n : Int) (i : Int)) R := by
  intro f
  induction f with
  | zero =>
    intro i out hi h0 ho h
    rw [List.drop_of_length_le (by omega)] at h
    refine Ev.step (fun k => ?_) h
    simp only [juratref16_States.l2]
    rw [if_neg (by omega), wrap_id (by omega) (by omega)]
    rfl
  | succ f ih =>
    intro i out hi h0 ho h
    rw [getD_drop w i ByteArray.empty (by omega)] at h
    have hs := hz _ (getD_mem w i ByteArray.empty (by omega))
    have e : rdOf ByteArray.empty w (i : Int) = w.getD i ByteArray.empty := rfl
    generalize w.getD i ByteArray.empty = s at e hs h
    have h2 : Ev (fun k => juratref16_States.l1 k w (rowS (w.drop (i + 1)) n (addS n out s)) x4 ((n : Int) + 1)) R := h
    have hlast : rdOf ByteArray.empty out ((out.length : Int) - 1) = lastS out := by unfold rdOf lastS; congr 1; omega
    have hal := addS_length n out s
    have hx := ih (i + 1) (addS n out s) (by omega) (by omega) (by omega) h2
    refine Ev.step (fun k => ?_) hx
    simp only [juratref16_States.l2]
    rw [if_pos (by omega), if_pos (by omega), e]
    unfold addS
    by_cases hn2 : n ≤ s.size
    · rw [if_pos (by omega), if_pos (by omega), if_pos (by omega), wrap_id (by omega) (by omega), if_pos (by omega), if_pos (by omega), hlast, Int.toNat_natCast, if_pos hn2]
      by_cases hq : s.extract 0 n = lastS out
      · rw [if_pos (by rw [hq]), if_pos hq, wrap_id (by omega) (by omega)]
        rfl
      · rw [if_neg (fun q => hq (toList_iff.1 q)), if_pos (by omega), if_neg hq, wrap_id (by omega) (by omega)]
        rfl
    · rw [if_neg (by omega), if_neg hn2, wrap_id (by omega) (by omega)]
      rfl
theorem rst_l1 (w : List ByteArray) (hl : w.length ≤ 65535) (hz : ∀ s ∈ w, s.size ≤ 65535) (m : Nat) (hm : m ≤ 65535) : ∀ (f n : Nat) (out : List ByteArray), n + f = m + 1 → 1 ≤ n → 0 < out.length → out.length + f * w.length ≤ 8796093022208 →
    Ev (fun k => juratref16_States.l1 k w out (m : Int) (n : Int)) (allS w f n out) := by
  intro f
  induction f with
  | zero =>
    intro n out hn h1 h0 ho
    refine Ev.ret fun k => ?_
    simp only [juratref16_States.l1]
    rw [if_neg (by omega)]
    rfl
  | succ f ih =>
    intro n out hn h1 h0 ho
    rw [Nat.succ_mul] at ho
    have hr := rowS_length n w out
    have h := ih (n + 1) (rowS w n out) (by omega) (by omega) (by omega) (by omega)
    refine Ev.step (f := fun k => juratref16_States.l2 k w out (m : Int) (n : Int) 0) (fun k => ?_) (rst_l2 w hl hz (m : Int) n (by omega) _ w.length 0 out (by omega) h0 (by omega) (by rw [List.drop_zero]; exact h))
    simp only [juratref16_States.l1]
    rw [if_pos (by omega)]
theorem rst_l0 (w : List ByteArray) (hl : w.length ≤ 65535) (hz : ∀ s ∈ w, s.size ≤ 65535) (R : List ByteArray) : ∀ (f i a : Nat), i + f = w.length → a ≤ 65535 →
    (Ev (fun k => juratref16_States.l1 k w [ByteArray.empty] ((mostB a (w.drop i) : Nat) : Int) 1) R) → Ev (fun k => juratref16_States.l0 k w [ByteArray.empty] (a : Int) (i : Int)) R := by
  intro f
  induction f with
  | zero =>
    intro i a hi ha h
    rw [List.drop_of_length_le (by omega)] at h
    refine Ev.step (fun k => ?_) h
    simp only [juratref16_States.l0]
    rw [if_neg (by omega)]
    rfl
  | succ f ih =>
    intro i a hi ha h
    rw [getD_drop w i ByteArray.empty (by omega)] at h
    have hs := hz _ (getD_mem w i ByteArray.empty (by omega))
    have e : rdOf ByteArray.empty w (i : Int) = w.getD i ByteArray.empty := rfl
    generalize w.getD i ByteArray.empty = s at e hs h
    have hx := ih (i + 1) (max a s.size) (by omega) (by omega) h
    refine Ev.step (fun k => ?_) hx
    simp only [juratref16_States.l0]
    rw [if_pos (by omega), if_pos (by omega), e, wrap_id (by omega) (by omega)]
    by_cases hq : a < s.size
    · rw [if_pos (by omega), Nat.max_eq_right (by omega)]; rfl
    · rw [if_neg (by omega), Nat.max_eq_left (by omega)]; rfl
theorem rstates_ev (w : List ByteArray) (h : okT w) : Ev (fun k => juratref16_States.f k w) (paths w) := by
  obtain ⟨h1, h2, h3, h4⟩ := h
  have hz : ∀ s ∈ w, s.size ≤ 65535 := fun s hs => (h3 s hs).2
  have hm : mostB 0 w ≤ 65535 := by
    have key : ∀ (l : List ByteArray) (a : Nat), a ≤ 65535 → (∀ s ∈ l, s.size ≤ 65535) → mostB a l ≤ 65535 := by
      intro l
      induction l with
      | nil => intro a ha _; exact ha
      | cons x l ih =>
        intro a ha hx
        exact ih (max a x.size) (by have := hx x List.mem_cons_self; omega) (fun s hs => hx s (List.mem_cons_of_mem _ hs))
    exact key w 0 (by omega) hz
  rw [← paths_all (srt_of h1)]
  refine rst_l0 w h2 hz _ w.length 0 0 (by omega) (by omega) ?_
  rw [List.drop_zero]
  exact rst_l1 w h2 hz (mostB 0 w) hm (mostB 0 w) 1 [ByteArray.empty] (by omega) (Nat.le_refl _) (by simp) (by
    have : mostB 0 w * w.length ≤ 65535 * 65535 := Nat.mul_le_mul hm h2
    simp
    omega)

end Go.Proofs.Ytnpkbnfiadkgnaa.Base

/- Proved here: what Go functions of this seat compute, or a law of it; no condition beyond the statement's own. Written for this claim by a program of this session (wip/myprint.py) over the kit's print.py. -/
namespace Go.Proofs.Ytnpkbnfiadkgnaa.P
open Go.RowKit Go.Proofs.YtnpkbnfiadkgnaaW.PrintWords Go.Proofs.YtnpkbnfiadkgnaaW.PrintLast Go.Proofs.YtnpkbnfiadkgnaaW.PrintMore
attribute [local go_sem] max2_int min2_int max_two min_two max_three min_three max_four min_four   -- for this text's walks alone
set_option linter.unusedVariables false
set_option linter.unusedSimpArgs false

/-! ### juratref16_Find: function 45 -/
def juratref16_Find.l0 : Nat → List ByteArray → ByteArray → Int → Option (Int)
  | 0, _, _, _ => none
  | k + 1, x0, x1, x5 => if x5 < (x0.length : Int) then (if 0 ≤ x5 then (if (rdOf ByteArray.empty x0 x5).toList = x1.toList then (some x5) else (juratref16_Find.l0 k x0 x1 (wrap64 (x5 + 1)))) else (none)) else (some (-1))
def juratref16_Find.f (k : Nat) (l0 : List ByteArray) (a1 : ByteArray) : Option (Int) := juratref16_Find.l0 k l0 a1 0
theorem juratref16_Find.mono_l : ∀ k, (∀ y0 y1 y2, LeO (juratref16_Find.l0 k y0 y1 y2) (juratref16_Find.l0 (k + 1) y0 y1 y2))
  | 0 => fun _ _ _ r h => by simp [juratref16_Find.l0] at h
  | k + 1 => by
    have ih0 := juratref16_Find.mono_l k
    · intro y0 y1 y2
      unfold juratref16_Find.l0
      repeat' first
      | (with_reducible exact ih0 _ _ _)
      | (with_reducible exact LeO.refl _)
      | (with_reducible exact LeO.none _)
      | (with_reducible refine LeO.ite ?_ ?_)
      | (with_reducible refine LeO.bind ?_ (fun _ => ?_))
      | exact ih0 _ _ _
      | exact LeO.none _
      | refine LeO.ite ?_ ?_
      | refine LeO.bind ?_ (fun _ => ?_)
theorem juratref16_Find.mono : ∀ a0 a1 k, LeO (juratref16_Find.f k a0 a1) (juratref16_Find.f (k + 1) a0 a1) := by
  intro a0 a1 k
  have ih0 := juratref16_Find.mono_l k
  unfold juratref16_Find.f
  repeat' first
      | (with_reducible exact ih0 _ _ _)
      | (with_reducible exact LeO.refl _)
      | (with_reducible exact LeO.none _)
      | (with_reducible refine LeO.ite ?_ ?_)
      | (with_reducible refine LeO.bind ?_ (fun _ => ?_))
      | exact ih0 _ _ _
      | exact LeO.none _
      | refine LeO.ite ?_ ?_
      | refine LeO.bind ?_ (fun _ => ?_)
set_option maxHeartbeats 8000000 in
set_option maxRecDepth 100000 in
theorem juratref16_Find.calls (k : Nat) (A0 : Option Addr) (c0 : Nat) (l0 : List ByteArray) (a1 : ByteArray) (r : Int) (w : World) (hr0 : Kd.C Kd.string w A0 l0.length l0) (hc0 : l0.length ≤ c0) (h : juratref16_Find.f k l0 a1 = some r) :
    Calls Try.prog 45 #[.slice A0 l0.length c0, .string a1] w fun e w' => e = .returned (.int .i64 r) ∧ Drawn0 w w' := by
  have HR0 := Aside0.mk hr0
  have HC0 := Aside0.mk hc0
  clear hr0 hc0
  have H : (juratref16_Find.l0 k l0 a1 0) = some r := h
  clear h
  have H' := Aside0.mk H
  clear H
  go_enter Try.func45, Try.ntmps45
  go_wp2
  go_loopg [5] k (fun kq v5 w' => ∃ (x5_1 : Int), v5 = .int .i64 x5_1 ∧ Aside0 (juratref16_Find.l0 kq l0 a1 x5_1 = some r) ∧ Aside0 (kq ≤ k) ∧ Drawn0 w w')
  case atStart => exact ⟨(0), (by first | rfl | exact isE_ _ | exact isE2_ _ | (simp; done) | (simp [*]; done)), H', ⟨Nat.le_refl _⟩, by repeat (first | exact Drawn0.refl _ | apply Drawn0.step)⟩
  case round =>
    clear H'
    try clear p2
    obtain ⟨x5_1, rfl, HA, HK1, ⟨m1, rfl⟩⟩ := hrel
    cases gk with
    | zero => exact absurd HA.out (by simp [juratref16_Find.l0])
    | succ k1 =>
      have H := HA.out
      clear HA
      simp only [juratref16_Find.l0] at H
      by_cases c3 : x5_1 < (l0.length : Int)
      · rw [if_pos c3] at H
        have c3b0 : decide (x5_1 < (l0.length : Int)) = true := decide_eq_true c3
        clear c3
        by_cases c4 : 0 ≤ x5_1
        · rw [if_pos c4] at H
          have c4b0 : decide (0 ≤ x5_1) = true := decide_eq_true c4
          clear c4
          by_cases c5 : (rdOf ByteArray.empty l0 x5_1).toList = a1.toList
          · rw [if_pos c5] at H
            have c5b0 : ((rdOf ByteArray.empty l0 x5_1).toList == a1.toList) = true := beq_iff_eq.mpr c5
            have c5b1 : ((rdOf ByteArray.empty l0 x5_1).toList != a1.toList) = false := bne_eq_false_iff_eq.mpr c5
            clear c5
            obtain rfl := Option.some.inj H
            have p363 : 0 ≤ (x5_1 : Int) := of_decide_eq_true (by first | (with_reducible assumption) | assumption)
            have q363 : x5_1 < (l0.length : Int) := of_decide_eq_true (by first | (with_reducible assumption) | assumption)
            obtain ⟨ad363, e363, hx363_0⟩ := Kd.at_string HR0.out x5_1 p363 q363
            cases e363
            replace p363 := eq_true p363
            replace q363 := eq_true q363
            go_wp2
            go_ret
            exact ⟨by first | rfl | (simp; done) | (simp [*]; done), by repeat (first | exact Drawn0.refl _ | apply Drawn0.step)⟩
          · rw [if_neg c5] at H
            have c5b0 : ((rdOf ByteArray.empty l0 x5_1).toList == a1.toList) = false := beq_eq_false_iff_ne.mpr c5
            have c5b1 : ((rdOf ByteArray.empty l0 x5_1).toList != a1.toList) = true := bne_iff_ne.mpr c5
            have H' := Aside0.mk H
            clear H
            have p363 : 0 ≤ (x5_1 : Int) := of_decide_eq_true (by first | (with_reducible assumption) | assumption)
            have q363 : x5_1 < (l0.length : Int) := of_decide_eq_true (by first | (with_reducible assumption) | assumption)
            obtain ⟨ad363, e363, hx363_0⟩ := Kd.at_string HR0.out x5_1 p363 q363
            cases e363
            replace p363 := eq_true p363
            replace q363 := eq_true q363
            go_wp2
            go_roundg k1
            case measure => have := HK1.out; omega
            case rel => exact ⟨(wrap64 (x5_1 + 1)), (by first | rfl | exact isE_ _ | exact isE2_ _ | (simp; done) | (simp [*]; done)), H', ⟨by have := HK1.out; omega⟩, by repeat (first | exact Drawn0.refl _ | apply Drawn0.step)⟩
        · rw [if_neg c4] at H
          exact absurd H (by simp)
      · rw [if_neg c3] at H
        have c3b0 : decide (x5_1 < (l0.length : Int)) = false := decide_eq_false c3
        clear c3
        obtain rfl := Option.some.inj H
        go_wp2
        go_ret
        exact ⟨by first | rfl | (simp; done) | (simp [*]; done), by repeat (first | exact Drawn0.refl _ | apply Drawn0.step)⟩

end Go.Proofs.Ytnpkbnfiadkgnaa.P

/- What a trie tells of its states, by their paths: the next one, its number, its bytes, where bytes lead; no condition beyond the sizes that stand in each statement. -/
namespace Go.Proofs.Ytnpkbnfiadkgnaa.Base
open Go Go.RowKit Go.Proofs.YtnpkbnfiadkgnaaW.PrintWords Go.Proofs.YtnpkbnfiadkgnaaW.PrintMore Go.Proofs.Ytnpkbnfiadkgnaa.P
set_option linter.unusedVariables false

theorem findB_none (s : ByteArray) : ∀ (l : List ByteArray) (i : Nat), s ∉ l → findB s l i = -1
  | [], i, _ => rfl
  | x :: l, i, h => by
    have ef : findB s (x :: l) i = if x = s then (i : Int) else findB s l (i + 1) := rfl
    rw [ef, if_neg (fun e => h (by rw [e]; exact List.mem_cons_self)), findB_none s l (i + 1) (fun h2 => h (List.mem_cons_of_mem _ h2))]
theorem rfind16_ev (l : List ByteArray) (s : ByteArray) (hl : l.length ≤ 8796093022208) : Ev (fun k => juratref16_Find.f k l s) (findB s l 0) := by
  have key : ∀ (d i : Nat), i + d = l.length → Ev (fun k => juratref16_Find.l0 k l s (i : Int)) (findB s (l.drop i) i) := by
    intro d
    induction d with
    | zero =>
      intro i hi
      refine Ev.ret fun k => ?_
      simp only [juratref16_Find.l0]
      rw [if_neg (by omega), List.drop_of_length_le (by omega)]
      rfl
    | succ d ih =>
      intro i hi
      have e : rdOf ByteArray.empty l (i : Int) = l.getD i ByteArray.empty := rfl
      rw [getD_drop l i ByteArray.empty (by omega)]
      generalize l.getD i ByteArray.empty = x at e
      have ef : findB s (x :: l.drop (i + 1)) i = if x = s then (i : Int) else findB s (l.drop (i + 1)) (i + 1) := rfl
      rw [ef]
      by_cases h : x = s
      · rw [if_pos h]
        refine Ev.ret fun k => ?_
        simp only [juratref16_Find.l0]
        rw [if_pos (by omega), if_pos (by omega), e, if_pos (by rw [h])]
      · rw [if_neg h]
        refine Ev.step (fun k => ?_) (ih (i + 1) (by omega))
        simp only [juratref16_Find.l0]
        rw [if_pos (by omega), if_pos (by omega), e, if_neg (fun q => h (toList_iff.1 q)), wrap_id (by omega) (by omega)]
        rfl
  have := key l.length 0 (by omega)
  rw [List.drop_zero] at this
  exact this
/-- The number of a path. -/
def idxP (w : List ByteArray) (p : List UInt8) : Int := findB (strP p) (paths w) 0
theorem paths_length (w : List ByteArray) : (paths w).length = (trN w).length := by unfold paths; rw [List.length_map]
theorem idx_at {w : List ByteArray} (hs : srt w) {i : Nat} {n : NodeD} (h : (trN w)[i]? = some n) : idxP w n.path = (i : Int) := by
  have hm : strP n.path ∈ paths w := List.mem_map.2 ⟨n, List.mem_of_getElem? h, rfl⟩
  obtain ⟨j, e1, e2, e3⟩ := findB_mem _ _ 0 hm
  rw [Nat.zero_add] at e1
  rw [paths_length] at e2
  have h2 : (trN w)[j]? = some (trN w)[j] := List.getElem?_eq_getElem e2
  have hp : strP ((trN w)[j]).path = strP n.path := by
    rw [← e3]
    unfold paths
    rw [List.getD_eq_getElem?_getD, List.getElem?_map, h2]
    rfl
  have hp2 : ((trN w)[j]).path = n.path := by rw [← LL_strP ((trN w)[j]).path, hp, LL_strP]
  have := path_inj hs h2 h hp2
  unfold idxP
  rw [e1, this]
theorem idx_none {w : List ByteArray} (hs : srt w) {p : List UInt8} (h : ¬ isB w (strP p)) : idxP w p = -1 := findB_none _ _ _ (fun hm => h ((paths_mem hs _).1 hm))
theorem isB_pre {w : List ByteArray} {p q : List UInt8} (h : isB w (strP (p ++ q))) : isB w (strP p) := by
  rcases h with h | ⟨t, h1, h2⟩
  · left
    have : p ++ q = [] := by rw [← LL_strP (p ++ q), h, LL_empty]
    rw [(List.append_eq_nil_iff.1 this).1]
    rfl
  · refine .inr ⟨t, h1, ?_⟩
    rw [LL_strP] at h2 ⊢
    exact (List.prefix_append p q).trans h2
/-- The bytes below a node rise. -/
theorem nxt_spec (d : TrieD) (c : Int) : ∀ (f lo hi : Nat), hi - lo < f → (∀ a b, lo ≤ a → a < b → b < hi → (d.getD a default).by_ < (d.getD b default).by_) →
    match nxt d c f lo hi with
    | some k => lo ≤ k ∧ k < hi ∧ (d.getD k default).by_ = c
    | none => ∀ k, lo ≤ k → k < hi → (d.getD k default).by_ ≠ c
  | 0, lo, hi, h, _ => by omega
  | f + 1, lo, hi, h, hr => by
    unfold nxt
    by_cases hlt : lo < hi
    · rw [if_pos hlt]
      by_cases h1 : (d.getD ((lo + hi) / 2) default).by_ = c
      · rw [if_pos h1]
        exact ⟨by omega, by omega, h1⟩
      · rw [if_neg h1]
        by_cases h2 : (d.getD ((lo + hi) / 2) default).by_ < c
        · rw [if_pos h2]
          have ih := nxt_spec d c f ((lo + hi) / 2 + 1) hi (by omega) (fun a b h3 h4 h5 => hr a b (by omega) h4 h5)
          cases hn : nxt d c f ((lo + hi) / 2 + 1) hi with
          | some k =>
            rw [hn] at ih
            exact ⟨by omega, ih.2.1, ih.2.2⟩
          | none =>
            rw [hn] at ih
            intro k h3 h4 h5
            by_cases h6 : (lo + hi) / 2 + 1 ≤ k
            · exact ih k h6 h4 h5
            · rcases Nat.eq_or_lt_of_le (show k ≤ (lo + hi) / 2 by omega) with h7 | h7
              · exact h1 (by rw [← h7]; exact h5)
              · have := hr k ((lo + hi) / 2) h3 h7 (by omega)
                omega
        · rw [if_neg h2]
          have ih := nxt_spec d c f lo ((lo + hi) / 2) (by omega) (fun a b h3 h4 h5 => hr a b h3 h4 (by omega))
          cases hn : nxt d c f lo ((lo + hi) / 2) with
          | some k =>
            rw [hn] at ih
            exact ⟨ih.1, by omega, ih.2.2⟩
          | none =>
            rw [hn] at ih
            intro k h3 h4 h5
            by_cases h6 : k < (lo + hi) / 2
            · exact ih k h3 h6 h5
            · rcases Nat.eq_or_lt_of_le (show (lo + hi) / 2 ≤ k by omega) with h7 | h7
              · exact h1 (by rw [h7]; exact h5)
              · have := hr ((lo + hi) / 2) k (by omega) h7 h4
                omega
    · rw [if_neg hlt]
      intro k h3 h4
      omega
section
variable {w : List ByteArray} {i : Nat} {n : NodeD}
theorem trS_getD (hs : srt w) (h : (trN w)[i]? = some n) : (trS w).getD i default = done w (firstOf w i) n := by
  rw [List.getD_eq_getElem?_getD, state_at hs h]; rfl
theorem tr_is (h : (trN w)[i]? = some n) : trIs (some (trS w)) (i : Int) = true := trIs_some _ _ (by rw [trS_length]; exact (List.getElem?_eq_some_iff.1 h).1)
theorem kid_by (hs : srt w) (h : (trN w)[i]? = some n) {o : Nat} (ho : o < (n.gr w).length) : ((trS w).getD (firstOf w i + o) default).by_ = (((n.gr w).getD o (0, 0, 0)).1 : Int) := by
  rw [trS_getD hs (kid_at hs h ho)]
  rfl
theorem st_ok (hs : srt w) (hz : sizes w ≤ 16777216) (h : (trN w)[i]? = some n) : stOk (trS w) (done w (firstOf w i) n) := by
  obtain ⟨h1, h2⟩ := first_gt hs h
  have hl := trN_le hs
  have e := trS_length w
  unfold trK at hl
  refine ⟨by show (0 : Int) ≤ (firstOf w i : Int); omega, by show (0 : Int) ≤ ((n.gr w).length : Int); omega, by show (firstOf w i : Int) + ((n.gr w).length : Int) ≤ _; omega, by omega⟩
theorem done_first : (done w (firstOf w i) n).first = (firstOf w i : Int) := rfl
theorem done_many : (done w (firstOf w i) n).many = ((n.gr w).length : Int) := rfl
/-- Where a byte leads. -/
theorem next_is (hs : srt w) (hz : sizes w ≤ 16777216) (h : (trN w)[i]? = some n) (c : UInt8) : trie_Trie_Next.f (some (trS w)) (i : Int) (c.toNat : Int) = some (if idxP w (n.path ++ [c]) ≥ 0 then (idxP w (n.path ++ [c]), true) else (0, false)) := by
  simp only [trie_Trie_Next.f]
  rw [tr_is h, if_pos rfl, Int.toNat_natCast, trS_getD hs h, if_pos (st_ok hs hz h)]
  unfold nxtOf
  rw [done_first, done_many, Int.toNat_natCast, Int.toNat_natCast, show ((firstOf w i : Int) + ((n.gr w).length : Int)).toNat = firstOf w i + (n.gr w).length by omega]
  have hr : ∀ a b, firstOf w i ≤ a → a < b → b < firstOf w i + (n.gr w).length → ((trS w).getD a default).by_ < ((trS w).getD b default).by_ := fun a b h1 h2 h3 => by
    obtain ⟨p, rfl⟩ : ∃ p, a = firstOf w i + p := ⟨a - firstOf w i, by omega⟩
    obtain ⟨q, rfl⟩ : ∃ q, b = firstOf w i + q := ⟨b - firstOf w i, by omega⟩
    rw [kid_by hs h (by omega), kid_by hs h (by omega)]
    have := (List.pairwise_iff_getElem.1 (gr_up hs (node_ok hs h)) p q (by omega) (by omega) (by omega)).1
    rw [List.getD_eq_getElem?_getD, List.getD_eq_getElem?_getD, List.getElem?_eq_getElem (by omega), List.getElem?_eq_getElem (by omega)]
    show ((n.gr w)[p].1 : Int) < ((n.gr w)[q].1 : Int)
    omega
  have sp := nxt_spec (trS w) (c.toNat : Int) ((n.gr w).length + 1) (firstOf w i) (firstOf w i + (n.gr w).length) (by omega) hr
  cases hn : nxt (trS w) (c.toNat : Int) ((n.gr w).length + 1) (firstOf w i) (firstOf w i + (n.gr w).length) with
  | some k =>
    rw [hn] at sp
    obtain ⟨s1, s2, s3⟩ := sp
    obtain ⟨o, rfl⟩ : ∃ o, k = firstOf w i + o := ⟨k - firstOf w i, by omega⟩
    rw [kid_by hs h (by omega)] at s3
    have hk := kid_at hs h (o := o) (by omega)
    have hid := idx_at hs hk
    have hp : (mkN i n ((n.gr w).getD o (0, 0, 0))).path = n.path ++ [c] := by
      show n.path ++ [UInt8.ofNat _] = _
      rw [show ((n.gr w).getD o (0, 0, 0)).1 = c.toNat by omega, UInt8.ofNat_toNat]
    rw [hp] at hid
    rw [hid, if_pos (by omega)]
  | none =>
    rw [hn] at sp
    have hno : ¬ isB w (strP (n.path ++ [c])) := by
      rintro (hb | ⟨t, ht, hp⟩)
      · have : n.path ++ [c] = [] := by rw [← LL_strP (n.path ++ [c]), hb, LL_empty]
        simp at this
      · rw [LL_strP] at hp
        obtain ⟨o, g, ho, hd, hg, _⟩ := kid_find hs h ht hp
        have := sp (firstOf w i + o) (by omega) (by omega)
        rw [kid_by hs h ho, hd, hg] at this
        exact this rfl
    rw [idx_none hs hno, if_neg (by omega)]
theorem ends_is (hs : srt w) (h : (trN w)[i]? = some n) : trie_Trie_Ends.f (some (trS w)) (i : Int) = some (if n.own w = true then ((n.lo : Int), true) else (0, false)) := by
  unfold trie_Trie_Ends.f
  have e : trAt (some (trS w)) (i : Int) = done w (firstOf w i) n := by show (trS w).getD ((i : Int)).toNat default = _; rw [Int.toNat_natCast, trS_getD hs h]
  have ei : (done w (firstOf w i) n).id = if n.own w = true then (n.lo : Int) else -1 := rfl
  rw [tr_is h, e, ei]
  by_cases ho : n.own w = true
  · rw [if_pos ho, if_pos ⟨rfl, by omega⟩, if_pos ho]
  · rw [if_neg ho, if_neg (by rintro ⟨_, h⟩; omega), if_neg ho]
theorem depth_is (hs : srt w) (h : (trN w)[i]? = some n) : trDep (some (trS w)) (i : Int) = (n.path.length : Int) := by
  unfold trDep
  have e : trAt (some (trS w)) (i : Int) = done w (firstOf w i) n := by show (trS w).getD ((i : Int)).toNat default = _; rw [Int.toNat_natCast, trS_getD hs h]
  rw [tr_is h, if_pos rfl, e]
  rfl
/-- The bytes of all texts lead along the paths. -/
theorem fnd_is (hs : srt w) (hz : sizes w ≤ 16777216) : ∀ (l : List UInt8) (i : Nat) (n : NodeD), (trN w)[i]? = some n → fndL (some (trS w)) l (i : Int) = some (if idxP w (n.path ++ l) ≥ 0 then some (idxP w (n.path ++ l)) else none)
  | [], i, n, h => by
    simp only [fndL]
    rw [List.append_nil, idx_at hs h, if_pos (by omega)]
  | c :: l, i, n, h => by
    simp only [fndL]
    rw [next_is hs hz h c]
    by_cases hb : isB w (strP (n.path ++ [c]))
    · obtain ⟨j, m, h1, h2⟩ := path_has hs _ (n.path ++ [c]) rfl (by
        rcases hb with hb | ⟨t, ht, hp⟩
        · left; rw [← LL_strP (n.path ++ [c]), hb, LL_empty]
        · rw [LL_strP] at hp; exact .inr ⟨t, ht, hp⟩)
      have hid := idx_at hs h1
      rw [h2] at hid
      rw [hid, if_pos (by omega)]
      simp only [if_true]
      rw [fnd_is hs hz l j m h1, h2, List.append_assoc]
      rfl
    · rw [idx_none hs hb, if_neg (by omega)]
      have : ¬ isB w (strP (n.path ++ c :: l)) := fun h2 => hb (isB_pre (q := l) (by rw [List.append_assoc]; exact h2))
      rw [idx_none hs this, if_neg (by omega)]
      rfl
theorem find_is (hs : srt w) (hz : sizes w ≤ 16777216) (p : ByteArray) (hp : p.size ≤ 4611686018427387904) : trie_Trie_Find.f (some (trS w)) p = some (if findB p (paths w) 0 ≥ 0 then (findB p (paths w) 0, true) else (0, false)) := by
  have e : idxP w (LL p) = findB p (paths w) 0 := by unfold idxP; rw [strP_LL]
  have h := fnd_is hs hz (LL p) 0 _ path_root
  rw [List.nil_append, e] at h
  unfold trie_Trie_Find.f
  rw [if_pos hp]
  show fndR _ (fndL (some (trS w)) (LL p) ((0 : Nat) : Int)) = _
  rw [h]
  by_cases hq : findB p (paths w) 0 ≥ 0
  · rw [if_pos hq, if_pos hq]
    simp only [fndR]
    have hm : p ∈ paths w := by
      refine Classical.byContradiction fun hn => ?_
      rw [findB_none p (paths w) 0 hn] at hq
      omega
    obtain ⟨j, e1, e2, e3⟩ := findB_mem p (paths w) 0 hm
    rw [Nat.zero_add] at e1
    rw [e1, trIs_some _ _ (by rw [trS_length, ← paths_length]; exact e2)]
  · rw [if_neg hq, if_neg hq]
    rfl
end
/-- Of what is no state nothing is told. -/
theorem no_state {d : TrieD} {s : Int} (h : trIs (some d) s = false) (c : Int) : trie_Trie_Next.f (some d) s c = some (0, false) ∧ trie_Trie_Above.f (some d) s = some (0, 0, false) ∧ trie_Trie_Ends.f (some d) s = some (0, false) ∧
    trie_Trie_Depth.f (some d) s = some 0 ∧ trie_Trie_Path.f (some d) s = some ByteArray.empty ∧ trie_Trie_Bytes.f (some d) s = some ByteArray.empty := by
  have hd : trDep (some d) s = 0 := by unfold trDep; rw [h]; rfl
  refine ⟨?_, ?_, ?_, ?_, ?_, ?_⟩
  · simp only [trie_Trie_Next.f]; rw [h]; rfl
  · unfold trie_Trie_Above.f; rw [h]; rfl
  · unfold trie_Trie_Ends.f; rw [h]; rfl
  · unfold trie_Trie_Depth.f; rw [h]; rfl
  · unfold trie_Trie_Path.f; rw [hd]; rfl
  · simp only [trie_Trie_Bytes.f]; rw [h]; rfl

end Go.Proofs.Ytnpkbnfiadkgnaa.Base

/- Proved here: what Go functions of this seat compute, or a law of it; no condition beyond the statement's own. Written for this claim by a program of this session (wip/myprint.py) over the kit's print.py. -/
namespace Go.Proofs.Ytnpkbnfiadkgnaa.P
open Go.RowKit Go.Proofs.YtnpkbnfiadkgnaaW.PrintWords Go.Proofs.YtnpkbnfiadkgnaaW.PrintLast Go.Proofs.YtnpkbnfiadkgnaaW.PrintMore
attribute [local go_sem] max2_int min2_int max_two min_two max_three min_three max_four min_four   -- for this text's walks alone
set_option linter.unusedVariables false
set_option linter.unusedSimpArgs false

/-! ### juratlaw16_awake: function 36 -/
def juratlaw16_awake.f  : Option (Bool) := (pats_New.f (([(⟨#[97, 98]⟩ : ByteArray), (⟨#[97, 99]⟩ : ByteArray), (⟨#[98]⟩ : ByteArray)] : List ByteArray))).bind fun bt321 => ((trie_New.f bt321.1).bind fun t324 => ((trie_Trie_Next.f t324 1 99).bind fun bt325 => (if bt321.2 = 0 then ((trie_Trie_Len.f t324).bind fun t327 => (if t327 = 5 then ((trie_Trie_Path.f t324 3).bind fun t328 => (if t328.toList = ([97, 98] : List UInt8) then (if bt325.1 = 4 then (some bt325.2) else (some false)) else (some false))) else (some false))) else (some false))))
set_option maxHeartbeats 8000000 in
set_option maxRecDepth 100000 in
theorem juratlaw16_awake.calls  (r : Bool) (w : World) (h : juratlaw16_awake.f  = some r) :
    Calls Try.prog 36 #[] w fun e w' => e = .returned (.bool r) ∧ Below w.heap.size w w' := by
  have HB := Aside0.mk (Below.refl w.heap.size w)
  have H : ((pats_New.f (([(⟨#[97, 98]⟩ : ByteArray), (⟨#[97, 99]⟩ : ByteArray), (⟨#[98]⟩ : ByteArray)] : List ByteArray))).bind fun bt321 => ((trie_New.f bt321.1).bind fun t324 => ((trie_Trie_Next.f t324 1 99).bind fun bt325 => (if bt321.2 = 0 then ((trie_Trie_Len.f t324).bind fun t327 => (if t327 = 5 then ((trie_Trie_Path.f t324 3).bind fun t328 => (if t328.toList = ([97, 98] : List UInt8) then (if bt325.1 = 4 then (some bt325.2) else (some false)) else (some false))) else (some false))) else (some false))))) = some r := h
  clear h
  obtain ⟨y318, hy318⟩ : ∃ y_ : List ByteArray, y_ = (([(⟨#[97, 98]⟩ : ByteArray), (⟨#[97, 99]⟩ : ByteArray), (⟨#[98]⟩ : ByteArray)] : List ByteArray)) := ⟨_, rfl⟩
  replace H : ((pats_New.f y318).bind fun bt321 => ((trie_New.f bt321.1).bind fun t324 => ((trie_Trie_Next.f t324 1 99).bind fun bt325 => (if bt321.2 = 0 then ((trie_Trie_Len.f t324).bind fun t327 => (if t327 = 5 then ((trie_Trie_Path.f t324 3).bind fun t328 => (if t328.toList = ([97, 98] : List UInt8) then (if bt325.1 = 4 then (some bt325.2) else (some false)) else (some false))) else (some false))) else (some false))))) = some r := by first | (rw [hy318]; with_reducible exact H) | (have H2_ := (Option.bind_some _ _).symm.trans H; rw [hy318]; with_reducible exact H2_) | (have H2_ := (Option.bind_some _ _).symm.trans H; with_reducible exact H2_) | with_reducible exact H | (rw [hy318]; exact H) | exact H
  have Ny318 := Aside0.mk hy318
  clear hy318
  replace H := Option.bind_eq_some_iff.mp H
  obtain ⟨⟨t321, t322⟩, A10, H⟩ := H
  replace H : ((trie_New.f t321).bind fun t324 => ((trie_Trie_Next.f t324 1 99).bind fun bt325 => (if t322 = 0 then ((trie_Trie_Len.f t324).bind fun t327 => (if t327 = 5 then ((trie_Trie_Path.f t324 3).bind fun t328 => (if t328.toList = ([97, 98] : List UInt8) then (if bt325.1 = 4 then (some bt325.2) else (some false)) else (some false))) else (some false))) else (some false)))) = some r := H
  have A1 := Aside0.mk A10
  clear A10
  replace H := Option.bind_eq_some_iff.mp H
  obtain ⟨t324, A20, H⟩ := H
  replace H : ((trie_Trie_Next.f t324 1 99).bind fun bt325 => (if t322 = 0 then ((trie_Trie_Len.f t324).bind fun t327 => (if t327 = 5 then ((trie_Trie_Path.f t324 3).bind fun t328 => (if t328.toList = ([97, 98] : List UInt8) then (if bt325.1 = 4 then (some bt325.2) else (some false)) else (some false))) else (some false))) else (some false))) = some r := H
  have A2 := Aside0.mk A20
  clear A20
  replace H := Option.bind_eq_some_iff.mp H
  obtain ⟨⟨t325, t326⟩, A30, H⟩ := H
  replace H : (if t322 = 0 then ((trie_Trie_Len.f t324).bind fun t327 => (if t327 = 5 then ((trie_Trie_Path.f t324 3).bind fun t328 => (if t328.toList = ([97, 98] : List UInt8) then (if t325 = 4 then (some t326) else (some false)) else (some false))) else (some false))) else (some false)) = some r := H
  have A3 := Aside0.mk A30
  clear A30
  by_cases c4 : t322 = 0
  · rw [if_pos c4] at H
    have c4b0 : (t322 == 0) = true := beq_iff_eq.mpr c4
    have c4b1 : (t322 != 0) = false := bne_eq_false_iff_eq.mpr c4
    clear c4
    replace H := Option.bind_eq_some_iff.mp H
    obtain ⟨t327, A50, H⟩ := H
    replace H : (if t327 = 5 then ((trie_Trie_Path.f t324 3).bind fun t328 => (if t328.toList = ([97, 98] : List UInt8) then (if t325 = 4 then (some t326) else (some false)) else (some false))) else (some false)) = some r := H
    have A5 := Aside0.mk A50
    clear A50
    by_cases c6 : t327 = 5
    · rw [if_pos c6] at H
      have c6b0 : (t327 == 5) = true := beq_iff_eq.mpr c6
      have c6b1 : (t327 != 5) = false := bne_eq_false_iff_eq.mpr c6
      clear c6
      replace H := Option.bind_eq_some_iff.mp H
      obtain ⟨t328, A70, H⟩ := H
      replace H : (if t328.toList = ([97, 98] : List UInt8) then (if t325 = 4 then (some t326) else (some false)) else (some false)) = some r := H
      have A7 := Aside0.mk A70
      clear A70
      by_cases c8 : t328.toList = ([97, 98] : List UInt8)
      · rw [if_pos c8] at H
        have c8b0 : (t328.toList == ([97, 98] : List UInt8)) = true := beq_iff_eq.mpr c8
        have c8b1 : (t328.toList != ([97, 98] : List UInt8)) = false := bne_eq_false_iff_eq.mpr c8
        clear c8
        by_cases c9 : t325 = 4
        · rw [if_pos c9] at H
          have c9b0 : (t325 == 4) = true := beq_iff_eq.mpr c9
          have c9b1 : (t325 != 4) = false := bne_eq_false_iff_eq.mpr c9
          clear c9
          obtain rfl := Option.some.inj H
          go_enter Try.func36, Try.ntmps36
          go_wp2_with (first | ((with_reducible refine gate_dst (N := 7) rfl ?_); refine Kd.R_lit Kd.string _ 9 ?hg (N := 7) ?hd (xs := ([(⟨#[97, 98]⟩ : ByteArray), (⟨#[97, 99]⟩ : ByteArray), (⟨#[98]⟩ : ByteArray)] : List ByteArray)) (inner := [.string (⟨#[97, 98]⟩ : ByteArray), .string (⟨#[97, 99]⟩ : ByteArray), .string (⟨#[98]⟩ : ByteArray)]) (ok := fun _ => True) (okp := fun _ => True) ?hr ?hp (fun _ hk => hk) trivial (Below.refl _ _) (Nat.le_refl _) (by simp) ?_; (case hd => rfl); (case hg => rfl); (case hr => first | (go_simp; done) | (go_simp; rfl)); (case hp => exact (Reps.one (show Kd.M Kd.string _ _ _ (⟨#[97, 98]⟩ : ByteArray) [.string (⟨#[97, 98]⟩ : ByteArray)] from rfl) (Reps.one (show Kd.M Kd.string _ _ _ (⟨#[97, 99]⟩ : ByteArray) [.string (⟨#[97, 99]⟩ : ByteArray)] from rfl) (Reps.one (show Kd.M Kd.string _ _ _ (⟨#[98]⟩ : ByteArray) [.string (⟨#[98]⟩ : ByteArray)] from rfl) (Reps.none _ _))))); intro v319 w10 ho11 hb hg_ hnew_; clear hg_ hnew_; (first | rw [← Ny318.out] at ho11 | (simp only [Int.reduceToNat] at ho11; rw [← Ny318.out] at ho11)); have n0_ := Aside0.mk (Kd.R_lower ho11 (below_size (by repeat (first | (with_reducible first | exact HB.out | apply below_alloc | apply pw_below_drewN | apply below_drew1) | exact HB.out)))); have n1_ := Aside0.mk (below_step (by repeat (first | (with_reducible first | exact HB.out | apply below_alloc | apply pw_below_drewN | apply below_drew1) | exact HB.out)) hb); clear HB; have HO320 := n0_; have HB := n1_; clear n0_ n1_; clear hb ho11; obtain ⟨Ao12, co12, eo12⟩ := Kd.R_slice HO320.out; subst eo12) | ((with_reducible refine gate_callee (f := 12) rfl ?_); refine goesL_ (some 8) rfl rfl Try.func12 (by kernel_rfl) rfl #[.slice Ao12 y318.length co12] rfl (by (try simp only [List.map_toArray, List.map_cons, List.map_nil]); first | done | rfl | (simp only [List.length_drop, List.length_take]; rfl)) ?_; (with_reducible refine (pats_New.calls _ _ y318 t321 t322 _ ?side1 ?side2 A1.out).mono ?_); (case side1 => repeat (first | exact (Kd.R_reads' HO320.out).2.2 | (with_reducible refine Kd.C_alloc ?_ _) | (with_reducible refine Kd.C_drewN ?_ _) | (with_reducible refine Kd.C_drew ?_))); (case side2 => exact (Kd.R_reads' HO320.out).2.1); rintro e w13 ⟨Pt321, rfl, hob0, hb⟩; refine ⟨_, rfl, ?_⟩; have hbw_ := below_step (by repeat (first | (with_reducible first | exact HB.out | apply below_alloc | apply pw_below_drewN | apply below_drew1) | exact HB.out)) hb; obtain ⟨Ab323, cb323, eb323_, lb323_, gb323_⟩ := Kd.R_reads (Kd.R_below (by (with_reducible repeat (first | apply Kd.R_alloc | apply Kd.R_drewN | apply Kd.R_drew)); exact HO320.out) hb); (first | subst eb323_ | (injection eb323_ with f1_ f2_ f3_; have f4_ := f1_.symm; have f5_ := f3_.symm; clear f1_ f2_ f3_; subst f4_; subst f5_)); have HRb323 := Aside0.mk gb323_; have HCb323 := Aside0.mk lb323_; clear gb323_ lb323_; (try clear HO320); (first | (have n_ := Aside0.mk (HB00.out.trans (hbw_.mono HB00.out.size)); clear HB00; have HB00 := n_; clear n_) | have HB00 := Aside0.mk hbw_); clear HB hb hbw_; have HO_t321 := Aside0.mk hob0; clear hob0; obtain ⟨w, rfl⟩ : ∃ w_ : World, w_ = w13 := ⟨_, rfl⟩; have HB := Aside0.mk (Below.refl w.heap.size w)) | ((with_reducible refine gate_callee (f := 37) rfl ?_); refine goesL_ (some 12) rfl rfl Try.func37 (by kernel_rfl) rfl #[.pointer Pt321] rfl (by (try simp only [List.map_toArray, List.map_cons, List.map_nil]); first | done | rfl | (simp only [List.length_drop, List.length_take]; rfl)) ?_; (with_reducible refine (trie_New.calls _ t321 t324 _ ?side1 A2.out).mono ?_); (case side1 => first | exact HO_t321.out | exact OB.drewN HO_t321.out _ | exact OB.below (by repeat (first | (with_reducible first | exact HB.out | apply below_alloc | apply pw_below_drewN | apply below_drew1) | exact HB.out)) HO_t321.out); rintro e w14 ⟨Pt324, rfl, hob0, hb⟩; refine ⟨_, rfl, ?_⟩; have hbw_ := below_step (by repeat (first | (with_reducible first | exact HB.out | apply below_alloc | apply pw_below_drewN | apply below_drew1) | exact HB.out)) hb; (try (have n_ := Aside0.mk (Kd.C_below HRb323.out hbw_); clear HRb323; have HRb323 := n_; clear n_)); (try (have n_ := Aside0.mk (OB.below hbw_ HO_t321.out); clear HO_t321; have HO_t321 := n_; clear n_)); (first | (have n_ := Aside0.mk (HB00.out.trans (hbw_.mono HB00.out.size)); clear HB00; have HB00 := n_; clear n_) | have HB00 := Aside0.mk hbw_); clear HB hb hbw_; have HO_t324 := Aside0.mk hob0; clear hob0; obtain ⟨w, rfl⟩ : ∃ w_ : World, w_ = w14 := ⟨_, rfl⟩; have HB := Aside0.mk (Below.refl w.heap.size w)) | ((with_reducible refine gate_callee (f := 41) rfl ?_); refine goesL_ (some 15) rfl rfl Try.func41 (by kernel_rfl) rfl #[.pointer Pt324, .int .i64 1, .int .u8 99] rfl (by (try simp only [List.map_toArray, List.map_cons, List.map_nil]); first | done | rfl | (simp only [List.length_drop, List.length_take]; rfl)) ?_; (with_reducible refine (trie_Trie_Next.calls _ t324 1 99 t325 t326 _ ?side1 A3.out).mono ?_); (case side1 => first | exact HO_t324.out | exact OB.drewN HO_t324.out _ | exact OB.below (by repeat (first | (with_reducible first | exact HB.out | apply below_alloc | apply pw_below_drewN | apply below_drew1) | exact HB.out)) HO_t324.out); rintro e w' ⟨rfl, ⟨nd, rfl⟩⟩; refine ⟨_, rfl, ?_⟩) | (go_at_call 38; (with_reducible refine (trie_Trie_Len.calls _ t324 t327 _ ?side1 A5.out).mono ?_); (case side1 => first | exact HO_t324.out | exact OB.drewN HO_t324.out _ | exact OB.below (by repeat (first | (with_reducible first | exact HB.out | apply below_alloc | apply pw_below_drewN | apply below_drew1) | exact HB.out)) HO_t324.out); rintro e w' ⟨rfl, ⟨nd, rfl⟩⟩) | (go_at_call 43; (with_reducible refine (trie_Trie_Path.calls _ t324 3 t328 _ ?side1 A7.out).mono ?_); (case side1 => first | exact HO_t324.out | exact OB.drewN HO_t324.out _ | exact OB.below (by repeat (first | (with_reducible first | exact HB.out | apply below_alloc | apply pw_below_drewN | apply below_drew1) | exact HB.out)) HO_t324.out); rintro e w15 ⟨rfl, hb⟩; have n0_ := Aside0.mk (below_step (by repeat (first | (with_reducible first | exact HB.out | apply below_alloc | apply pw_below_drewN | apply below_drew1) | exact HB.out)) hb); clear HB; have HB := n0_; clear n0_; (try clear hb); (try clear hb2); (try clear hk); (try clear hi)))
          go_ret
          exact ⟨by first | rfl | (simp [errW_none, errW_some] <;> rfl) | (simp [*, errW_none, errW_some] <;> rfl), by first | (refine HB00.out.trans (Below.mono ?_ HB00.out.size); (repeat (first | (with_reducible first | exact HB.out | apply below_alloc | apply pw_below_drewN | apply below_drew1) | exact HB.out))) | (repeat (first | (with_reducible first | exact HB.out | apply below_alloc | apply pw_below_drewN | apply below_drew1) | exact HB.out))⟩
        · rw [if_neg c9] at H
          have c9b0 : (t325 == 4) = false := beq_eq_false_iff_ne.mpr c9
          have c9b1 : (t325 != 4) = true := bne_iff_ne.mpr c9
          obtain rfl := Option.some.inj H
          go_enter Try.func36, Try.ntmps36
          go_wp2_with (first | ((with_reducible refine gate_dst (N := 7) rfl ?_); refine Kd.R_lit Kd.string _ 9 ?hg (N := 7) ?hd (xs := ([(⟨#[97, 98]⟩ : ByteArray), (⟨#[97, 99]⟩ : ByteArray), (⟨#[98]⟩ : ByteArray)] : List ByteArray)) (inner := [.string (⟨#[97, 98]⟩ : ByteArray), .string (⟨#[97, 99]⟩ : ByteArray), .string (⟨#[98]⟩ : ByteArray)]) (ok := fun _ => True) (okp := fun _ => True) ?hr ?hp (fun _ hk => hk) trivial (Below.refl _ _) (Nat.le_refl _) (by simp) ?_; (case hd => rfl); (case hg => rfl); (case hr => first | (go_simp; done) | (go_simp; rfl)); (case hp => exact (Reps.one (show Kd.M Kd.string _ _ _ (⟨#[97, 98]⟩ : ByteArray) [.string (⟨#[97, 98]⟩ : ByteArray)] from rfl) (Reps.one (show Kd.M Kd.string _ _ _ (⟨#[97, 99]⟩ : ByteArray) [.string (⟨#[97, 99]⟩ : ByteArray)] from rfl) (Reps.one (show Kd.M Kd.string _ _ _ (⟨#[98]⟩ : ByteArray) [.string (⟨#[98]⟩ : ByteArray)] from rfl) (Reps.none _ _))))); intro v319 w16 ho17 hb hg_ hnew_; clear hg_ hnew_; (first | rw [← Ny318.out] at ho17 | (simp only [Int.reduceToNat] at ho17; rw [← Ny318.out] at ho17)); have n0_ := Aside0.mk (Kd.R_lower ho17 (below_size (by repeat (first | (with_reducible first | exact HB.out | apply below_alloc | apply pw_below_drewN | apply below_drew1) | exact HB.out)))); have n1_ := Aside0.mk (below_step (by repeat (first | (with_reducible first | exact HB.out | apply below_alloc | apply pw_below_drewN | apply below_drew1) | exact HB.out)) hb); clear HB; have HO320 := n0_; have HB := n1_; clear n0_ n1_; clear hb ho17; obtain ⟨Ao18, co18, eo18⟩ := Kd.R_slice HO320.out; subst eo18) | ((with_reducible refine gate_callee (f := 12) rfl ?_); refine goesL_ (some 8) rfl rfl Try.func12 (by kernel_rfl) rfl #[.slice Ao18 y318.length co18] rfl (by (try simp only [List.map_toArray, List.map_cons, List.map_nil]); first | done | rfl | (simp only [List.length_drop, List.length_take]; rfl)) ?_; (with_reducible refine (pats_New.calls _ _ y318 t321 t322 _ ?side1 ?side2 A1.out).mono ?_); (case side1 => repeat (first | exact (Kd.R_reads' HO320.out).2.2 | (with_reducible refine Kd.C_alloc ?_ _) | (with_reducible refine Kd.C_drewN ?_ _) | (with_reducible refine Kd.C_drew ?_))); (case side2 => exact (Kd.R_reads' HO320.out).2.1); rintro e w19 ⟨Pt321, rfl, hob0, hb⟩; refine ⟨_, rfl, ?_⟩; have hbw_ := below_step (by repeat (first | (with_reducible first | exact HB.out | apply below_alloc | apply pw_below_drewN | apply below_drew1) | exact HB.out)) hb; obtain ⟨Ab323, cb323, eb323_, lb323_, gb323_⟩ := Kd.R_reads (Kd.R_below (by (with_reducible repeat (first | apply Kd.R_alloc | apply Kd.R_drewN | apply Kd.R_drew)); exact HO320.out) hb); (first | subst eb323_ | (injection eb323_ with f1_ f2_ f3_; have f4_ := f1_.symm; have f5_ := f3_.symm; clear f1_ f2_ f3_; subst f4_; subst f5_)); have HRb323 := Aside0.mk gb323_; have HCb323 := Aside0.mk lb323_; clear gb323_ lb323_; (try clear HO320); (try (have n_ := Aside0.mk (Kd.C_below HRb323.out hbw_); clear HRb323; have HRb323 := n_; clear n_)); (try (have n_ := Aside0.mk (OB.below hbw_ HO_t321.out); clear HO_t321; have HO_t321 := n_; clear n_)); (try (have n_ := Aside0.mk (OB.below hbw_ HO_t324.out); clear HO_t324; have HO_t324 := n_; clear n_)); (first | (have n_ := Aside0.mk (HB00.out.trans (hbw_.mono HB00.out.size)); clear HB00; have HB00 := n_; clear n_) | have HB00 := Aside0.mk hbw_); clear HB hb hbw_; have HO_t321 := Aside0.mk hob0; clear hob0; obtain ⟨w, rfl⟩ : ∃ w_ : World, w_ = w19 := ⟨_, rfl⟩; have HB := Aside0.mk (Below.refl w.heap.size w)) | ((with_reducible refine gate_callee (f := 37) rfl ?_); refine goesL_ (some 12) rfl rfl Try.func37 (by kernel_rfl) rfl #[.pointer Pt321] rfl (by (try simp only [List.map_toArray, List.map_cons, List.map_nil]); first | done | rfl | (simp only [List.length_drop, List.length_take]; rfl)) ?_; (with_reducible refine (trie_New.calls _ t321 t324 _ ?side1 A2.out).mono ?_); (case side1 => first | exact HO_t321.out | exact OB.drewN HO_t321.out _ | exact OB.below (by repeat (first | (with_reducible first | exact HB.out | apply below_alloc | apply pw_below_drewN | apply below_drew1) | exact HB.out)) HO_t321.out); rintro e w20 ⟨Pt324, rfl, hob0, hb⟩; refine ⟨_, rfl, ?_⟩; have hbw_ := below_step (by repeat (first | (with_reducible first | exact HB.out | apply below_alloc | apply pw_below_drewN | apply below_drew1) | exact HB.out)) hb; (try (have n_ := Aside0.mk (Kd.C_below HRb323.out hbw_); clear HRb323; have HRb323 := n_; clear n_)); (try (have n_ := Aside0.mk (OB.below hbw_ HO_t321.out); clear HO_t321; have HO_t321 := n_; clear n_)); (try (have n_ := Aside0.mk (OB.below hbw_ HO_t324.out); clear HO_t324; have HO_t324 := n_; clear n_)); (first | (have n_ := Aside0.mk (HB00.out.trans (hbw_.mono HB00.out.size)); clear HB00; have HB00 := n_; clear n_) | have HB00 := Aside0.mk hbw_); clear HB hb hbw_; have HO_t324 := Aside0.mk hob0; clear hob0; obtain ⟨w, rfl⟩ : ∃ w_ : World, w_ = w20 := ⟨_, rfl⟩; have HB := Aside0.mk (Below.refl w.heap.size w)) | ((with_reducible refine gate_callee (f := 41) rfl ?_); refine goesL_ (some 15) rfl rfl Try.func41 (by kernel_rfl) rfl #[.pointer Pt324, .int .i64 1, .int .u8 99] rfl (by (try simp only [List.map_toArray, List.map_cons, List.map_nil]); first | done | rfl | (simp only [List.length_drop, List.length_take]; rfl)) ?_; (with_reducible refine (trie_Trie_Next.calls _ t324 1 99 t325 t326 _ ?side1 A3.out).mono ?_); (case side1 => first | exact HO_t324.out | exact OB.drewN HO_t324.out _ | exact OB.below (by repeat (first | (with_reducible first | exact HB.out | apply below_alloc | apply pw_below_drewN | apply below_drew1) | exact HB.out)) HO_t324.out); rintro e w' ⟨rfl, ⟨nd, rfl⟩⟩; refine ⟨_, rfl, ?_⟩) | (go_at_call 38; (with_reducible refine (trie_Trie_Len.calls _ t324 t327 _ ?side1 A5.out).mono ?_); (case side1 => first | exact HO_t324.out | exact OB.drewN HO_t324.out _ | exact OB.below (by repeat (first | (with_reducible first | exact HB.out | apply below_alloc | apply pw_below_drewN | apply below_drew1) | exact HB.out)) HO_t324.out); rintro e w' ⟨rfl, ⟨nd, rfl⟩⟩) | (go_at_call 43; (with_reducible refine (trie_Trie_Path.calls _ t324 3 t328 _ ?side1 A7.out).mono ?_); (case side1 => first | exact HO_t324.out | exact OB.drewN HO_t324.out _ | exact OB.below (by repeat (first | (with_reducible first | exact HB.out | apply below_alloc | apply pw_below_drewN | apply below_drew1) | exact HB.out)) HO_t324.out); rintro e w21 ⟨rfl, hb⟩; have n0_ := Aside0.mk (below_step (by repeat (first | (with_reducible first | exact HB.out | apply below_alloc | apply pw_below_drewN | apply below_drew1) | exact HB.out)) hb); clear HB; have HB := n0_; clear n0_; (try clear hb); (try clear hb2); (try clear hk); (try clear hi)))
          go_ret
          exact ⟨by first | rfl | (simp [errW_none, errW_some] <;> rfl) | (simp [*, errW_none, errW_some] <;> rfl), by first | (refine HB00.out.trans (Below.mono ?_ HB00.out.size); (repeat (first | (with_reducible first | exact HB.out | apply below_alloc | apply pw_below_drewN | apply below_drew1) | exact HB.out))) | (repeat (first | (with_reducible first | exact HB.out | apply below_alloc | apply pw_below_drewN | apply below_drew1) | exact HB.out))⟩
      · rw [if_neg c8] at H
        have c8b0 : (t328.toList == ([97, 98] : List UInt8)) = false := beq_eq_false_iff_ne.mpr c8
        have c8b1 : (t328.toList != ([97, 98] : List UInt8)) = true := bne_iff_ne.mpr c8
        obtain rfl := Option.some.inj H
        go_enter Try.func36, Try.ntmps36
        go_wp2_with (first | ((with_reducible refine gate_dst (N := 7) rfl ?_); refine Kd.R_lit Kd.string _ 9 ?hg (N := 7) ?hd (xs := ([(⟨#[97, 98]⟩ : ByteArray), (⟨#[97, 99]⟩ : ByteArray), (⟨#[98]⟩ : ByteArray)] : List ByteArray)) (inner := [.string (⟨#[97, 98]⟩ : ByteArray), .string (⟨#[97, 99]⟩ : ByteArray), .string (⟨#[98]⟩ : ByteArray)]) (ok := fun _ => True) (okp := fun _ => True) ?hr ?hp (fun _ hk => hk) trivial (Below.refl _ _) (Nat.le_refl _) (by simp) ?_; (case hd => rfl); (case hg => rfl); (case hr => first | (go_simp; done) | (go_simp; rfl)); (case hp => exact (Reps.one (show Kd.M Kd.string _ _ _ (⟨#[97, 98]⟩ : ByteArray) [.string (⟨#[97, 98]⟩ : ByteArray)] from rfl) (Reps.one (show Kd.M Kd.string _ _ _ (⟨#[97, 99]⟩ : ByteArray) [.string (⟨#[97, 99]⟩ : ByteArray)] from rfl) (Reps.one (show Kd.M Kd.string _ _ _ (⟨#[98]⟩ : ByteArray) [.string (⟨#[98]⟩ : ByteArray)] from rfl) (Reps.none _ _))))); intro v319 w22 ho23 hb hg_ hnew_; clear hg_ hnew_; (first | rw [← Ny318.out] at ho23 | (simp only [Int.reduceToNat] at ho23; rw [← Ny318.out] at ho23)); have n0_ := Aside0.mk (Kd.R_lower ho23 (below_size (by repeat (first | (with_reducible first | exact HB.out | apply below_alloc | apply pw_below_drewN | apply below_drew1) | exact HB.out)))); have n1_ := Aside0.mk (below_step (by repeat (first | (with_reducible first | exact HB.out | apply below_alloc | apply pw_below_drewN | apply below_drew1) | exact HB.out)) hb); clear HB; have HO320 := n0_; have HB := n1_; clear n0_ n1_; clear hb ho23; obtain ⟨Ao24, co24, eo24⟩ := Kd.R_slice HO320.out; subst eo24) | ((with_reducible refine gate_callee (f := 12) rfl ?_); refine goesL_ (some 8) rfl rfl Try.func12 (by kernel_rfl) rfl #[.slice Ao24 y318.length co24] rfl (by (try simp only [List.map_toArray, List.map_cons, List.map_nil]); first | done | rfl | (simp only [List.length_drop, List.length_take]; rfl)) ?_; (with_reducible refine (pats_New.calls _ _ y318 t321 t322 _ ?side1 ?side2 A1.out).mono ?_); (case side1 => repeat (first | exact (Kd.R_reads' HO320.out).2.2 | (with_reducible refine Kd.C_alloc ?_ _) | (with_reducible refine Kd.C_drewN ?_ _) | (with_reducible refine Kd.C_drew ?_))); (case side2 => exact (Kd.R_reads' HO320.out).2.1); rintro e w25 ⟨Pt321, rfl, hob0, hb⟩; refine ⟨_, rfl, ?_⟩; have hbw_ := below_step (by repeat (first | (with_reducible first | exact HB.out | apply below_alloc | apply pw_below_drewN | apply below_drew1) | exact HB.out)) hb; obtain ⟨Ab323, cb323, eb323_, lb323_, gb323_⟩ := Kd.R_reads (Kd.R_below (by (with_reducible repeat (first | apply Kd.R_alloc | apply Kd.R_drewN | apply Kd.R_drew)); exact HO320.out) hb); (first | subst eb323_ | (injection eb323_ with f1_ f2_ f3_; have f4_ := f1_.symm; have f5_ := f3_.symm; clear f1_ f2_ f3_; subst f4_; subst f5_)); have HRb323 := Aside0.mk gb323_; have HCb323 := Aside0.mk lb323_; clear gb323_ lb323_; (try clear HO320); (try (have n_ := Aside0.mk (Kd.C_below HRb323.out hbw_); clear HRb323; have HRb323 := n_; clear n_)); (try (have n_ := Aside0.mk (OB.below hbw_ HO_t321.out); clear HO_t321; have HO_t321 := n_; clear n_)); (try (have n_ := Aside0.mk (OB.below hbw_ HO_t324.out); clear HO_t324; have HO_t324 := n_; clear n_)); (first | (have n_ := Aside0.mk (HB00.out.trans (hbw_.mono HB00.out.size)); clear HB00; have HB00 := n_; clear n_) | have HB00 := Aside0.mk hbw_); clear HB hb hbw_; have HO_t321 := Aside0.mk hob0; clear hob0; obtain ⟨w, rfl⟩ : ∃ w_ : World, w_ = w25 := ⟨_, rfl⟩; have HB := Aside0.mk (Below.refl w.heap.size w)) | ((with_reducible refine gate_callee (f := 37) rfl ?_); refine goesL_ (some 12) rfl rfl Try.func37 (by kernel_rfl) rfl #[.pointer Pt321] rfl (by (try simp only [List.map_toArray, List.map_cons, List.map_nil]); first | done | rfl | (simp only [List.length_drop, List.length_take]; rfl)) ?_; (with_reducible refine (trie_New.calls _ t321 t324 _ ?side1 A2.out).mono ?_); (case side1 => first | exact HO_t321.out | exact OB.drewN HO_t321.out _ | exact OB.below (by repeat (first | (with_reducible first | exact HB.out | apply below_alloc | apply pw_below_drewN | apply below_drew1) | exact HB.out)) HO_t321.out); rintro e w26 ⟨Pt324, rfl, hob0, hb⟩; refine ⟨_, rfl, ?_⟩; have hbw_ := below_step (by repeat (first | (with_reducible first | exact HB.out | apply below_alloc | apply pw_below_drewN | apply below_drew1) | exact HB.out)) hb; (try (have n_ := Aside0.mk (Kd.C_below HRb323.out hbw_); clear HRb323; have HRb323 := n_; clear n_)); (try (have n_ := Aside0.mk (OB.below hbw_ HO_t321.out); clear HO_t321; have HO_t321 := n_; clear n_)); (try (have n_ := Aside0.mk (OB.below hbw_ HO_t324.out); clear HO_t324; have HO_t324 := n_; clear n_)); (first | (have n_ := Aside0.mk (HB00.out.trans (hbw_.mono HB00.out.size)); clear HB00; have HB00 := n_; clear n_) | have HB00 := Aside0.mk hbw_); clear HB hb hbw_; have HO_t324 := Aside0.mk hob0; clear hob0; obtain ⟨w, rfl⟩ : ∃ w_ : World, w_ = w26 := ⟨_, rfl⟩; have HB := Aside0.mk (Below.refl w.heap.size w)) | ((with_reducible refine gate_callee (f := 41) rfl ?_); refine goesL_ (some 15) rfl rfl Try.func41 (by kernel_rfl) rfl #[.pointer Pt324, .int .i64 1, .int .u8 99] rfl (by (try simp only [List.map_toArray, List.map_cons, List.map_nil]); first | done | rfl | (simp only [List.length_drop, List.length_take]; rfl)) ?_; (with_reducible refine (trie_Trie_Next.calls _ t324 1 99 t325 t326 _ ?side1 A3.out).mono ?_); (case side1 => first | exact HO_t324.out | exact OB.drewN HO_t324.out _ | exact OB.below (by repeat (first | (with_reducible first | exact HB.out | apply below_alloc | apply pw_below_drewN | apply below_drew1) | exact HB.out)) HO_t324.out); rintro e w' ⟨rfl, ⟨nd, rfl⟩⟩; refine ⟨_, rfl, ?_⟩) | (go_at_call 38; (with_reducible refine (trie_Trie_Len.calls _ t324 t327 _ ?side1 A5.out).mono ?_); (case side1 => first | exact HO_t324.out | exact OB.drewN HO_t324.out _ | exact OB.below (by repeat (first | (with_reducible first | exact HB.out | apply below_alloc | apply pw_below_drewN | apply below_drew1) | exact HB.out)) HO_t324.out); rintro e w' ⟨rfl, ⟨nd, rfl⟩⟩) | (go_at_call 43; (with_reducible refine (trie_Trie_Path.calls _ t324 3 t328 _ ?side1 A7.out).mono ?_); (case side1 => first | exact HO_t324.out | exact OB.drewN HO_t324.out _ | exact OB.below (by repeat (first | (with_reducible first | exact HB.out | apply below_alloc | apply pw_below_drewN | apply below_drew1) | exact HB.out)) HO_t324.out); rintro e w27 ⟨rfl, hb⟩; have n0_ := Aside0.mk (below_step (by repeat (first | (with_reducible first | exact HB.out | apply below_alloc | apply pw_below_drewN | apply below_drew1) | exact HB.out)) hb); clear HB; have HB := n0_; clear n0_; (try clear hb); (try clear hb2); (try clear hk); (try clear hi)))
        go_ret
        exact ⟨by first | rfl | (simp [errW_none, errW_some] <;> rfl) | (simp [*, errW_none, errW_some] <;> rfl), by first | (refine HB00.out.trans (Below.mono ?_ HB00.out.size); (repeat (first | (with_reducible first | exact HB.out | apply below_alloc | apply pw_below_drewN | apply below_drew1) | exact HB.out))) | (repeat (first | (with_reducible first | exact HB.out | apply below_alloc | apply pw_below_drewN | apply below_drew1) | exact HB.out))⟩
    · rw [if_neg c6] at H
      have c6b0 : (t327 == 5) = false := beq_eq_false_iff_ne.mpr c6
      have c6b1 : (t327 != 5) = true := bne_iff_ne.mpr c6
      obtain rfl := Option.some.inj H
      go_enter Try.func36, Try.ntmps36
      go_wp2_with (first | ((with_reducible refine gate_dst (N := 7) rfl ?_); refine Kd.R_lit Kd.string _ 9 ?hg (N := 7) ?hd (xs := ([(⟨#[97, 98]⟩ : ByteArray), (⟨#[97, 99]⟩ : ByteArray), (⟨#[98]⟩ : ByteArray)] : List ByteArray)) (inner := [.string (⟨#[97, 98]⟩ : ByteArray), .string (⟨#[97, 99]⟩ : ByteArray), .string (⟨#[98]⟩ : ByteArray)]) (ok := fun _ => True) (okp := fun _ => True) ?hr ?hp (fun _ hk => hk) trivial (Below.refl _ _) (Nat.le_refl _) (by simp) ?_; (case hd => rfl); (case hg => rfl); (case hr => first | (go_simp; done) | (go_simp; rfl)); (case hp => exact (Reps.one (show Kd.M Kd.string _ _ _ (⟨#[97, 98]⟩ : ByteArray) [.string (⟨#[97, 98]⟩ : ByteArray)] from rfl) (Reps.one (show Kd.M Kd.string _ _ _ (⟨#[97, 99]⟩ : ByteArray) [.string (⟨#[97, 99]⟩ : ByteArray)] from rfl) (Reps.one (show Kd.M Kd.string _ _ _ (⟨#[98]⟩ : ByteArray) [.string (⟨#[98]⟩ : ByteArray)] from rfl) (Reps.none _ _))))); intro v319 w28 ho29 hb hg_ hnew_; clear hg_ hnew_; (first | rw [← Ny318.out] at ho29 | (simp only [Int.reduceToNat] at ho29; rw [← Ny318.out] at ho29)); have n0_ := Aside0.mk (Kd.R_lower ho29 (below_size (by repeat (first | (with_reducible first | exact HB.out | apply below_alloc | apply pw_below_drewN | apply below_drew1) | exact HB.out)))); have n1_ := Aside0.mk (below_step (by repeat (first | (with_reducible first | exact HB.out | apply below_alloc | apply pw_below_drewN | apply below_drew1) | exact HB.out)) hb); clear HB; have HO320 := n0_; have HB := n1_; clear n0_ n1_; clear hb ho29; obtain ⟨Ao30, co30, eo30⟩ := Kd.R_slice HO320.out; subst eo30) | ((with_reducible refine gate_callee (f := 12) rfl ?_); refine goesL_ (some 8) rfl rfl Try.func12 (by kernel_rfl) rfl #[.slice Ao30 y318.length co30] rfl (by (try simp only [List.map_toArray, List.map_cons, List.map_nil]); first | done | rfl | (simp only [List.length_drop, List.length_take]; rfl)) ?_; (with_reducible refine (pats_New.calls _ _ y318 t321 t322 _ ?side1 ?side2 A1.out).mono ?_); (case side1 => repeat (first | exact (Kd.R_reads' HO320.out).2.2 | (with_reducible refine Kd.C_alloc ?_ _) | (with_reducible refine Kd.C_drewN ?_ _) | (with_reducible refine Kd.C_drew ?_))); (case side2 => exact (Kd.R_reads' HO320.out).2.1); rintro e w31 ⟨Pt321, rfl, hob0, hb⟩; refine ⟨_, rfl, ?_⟩; have hbw_ := below_step (by repeat (first | (with_reducible first | exact HB.out | apply below_alloc | apply pw_below_drewN | apply below_drew1) | exact HB.out)) hb; obtain ⟨Ab323, cb323, eb323_, lb323_, gb323_⟩ := Kd.R_reads (Kd.R_below (by (with_reducible repeat (first | apply Kd.R_alloc | apply Kd.R_drewN | apply Kd.R_drew)); exact HO320.out) hb); (first | subst eb323_ | (injection eb323_ with f1_ f2_ f3_; have f4_ := f1_.symm; have f5_ := f3_.symm; clear f1_ f2_ f3_; subst f4_; subst f5_)); have HRb323 := Aside0.mk gb323_; have HCb323 := Aside0.mk lb323_; clear gb323_ lb323_; (try clear HO320); (try (have n_ := Aside0.mk (Kd.C_below HRb323.out hbw_); clear HRb323; have HRb323 := n_; clear n_)); (try (have n_ := Aside0.mk (OB.below hbw_ HO_t321.out); clear HO_t321; have HO_t321 := n_; clear n_)); (try (have n_ := Aside0.mk (OB.below hbw_ HO_t324.out); clear HO_t324; have HO_t324 := n_; clear n_)); (first | (have n_ := Aside0.mk (HB00.out.trans (hbw_.mono HB00.out.size)); clear HB00; have HB00 := n_; clear n_) | have HB00 := Aside0.mk hbw_); clear HB hb hbw_; have HO_t321 := Aside0.mk hob0; clear hob0; obtain ⟨w, rfl⟩ : ∃ w_ : World, w_ = w31 := ⟨_, rfl⟩; have HB := Aside0.mk (Below.refl w.heap.size w)) | ((with_reducible refine gate_callee (f := 37) rfl ?_); refine goesL_ (some 12) rfl rfl Try.func37 (by kernel_rfl) rfl #[.pointer Pt321] rfl (by (try simp only [List.map_toArray, List.map_cons, List.map_nil]); first | done | rfl | (simp only [List.length_drop, List.length_take]; rfl)) ?_; (with_reducible refine (trie_New.calls _ t321 t324 _ ?side1 A2.out).mono ?_); (case side1 => first | exact HO_t321.out | exact OB.drewN HO_t321.out _ | exact OB.below (by repeat (first | (with_reducible first | exact HB.out | apply below_alloc | apply pw_below_drewN | apply below_drew1) | exact HB.out)) HO_t321.out); rintro e w32 ⟨Pt324, rfl, hob0, hb⟩; refine ⟨_, rfl, ?_⟩; have hbw_ := below_step (by repeat (first | (with_reducible first | exact HB.out | apply below_alloc | apply pw_below_drewN | apply below_drew1) | exact HB.out)) hb; (try (have n_ := Aside0.mk (Kd.C_below HRb323.out hbw_); clear HRb323; have HRb323 := n_; clear n_)); (try (have n_ := Aside0.mk (OB.below hbw_ HO_t321.out); clear HO_t321; have HO_t321 := n_; clear n_)); (try (have n_ := Aside0.mk (OB.below hbw_ HO_t324.out); clear HO_t324; have HO_t324 := n_; clear n_)); (first | (have n_ := Aside0.mk (HB00.out.trans (hbw_.mono HB00.out.size)); clear HB00; have HB00 := n_; clear n_) | have HB00 := Aside0.mk hbw_); clear HB hb hbw_; have HO_t324 := Aside0.mk hob0; clear hob0; obtain ⟨w, rfl⟩ : ∃ w_ : World, w_ = w32 := ⟨_, rfl⟩; have HB := Aside0.mk (Below.refl w.heap.size w)) | ((with_reducible refine gate_callee (f := 41) rfl ?_); refine goesL_ (some 15) rfl rfl Try.func41 (by kernel_rfl) rfl #[.pointer Pt324, .int .i64 1, .int .u8 99] rfl (by (try simp only [List.map_toArray, List.map_cons, List.map_nil]); first | done | rfl | (simp only [List.length_drop, List.length_take]; rfl)) ?_; (with_reducible refine (trie_Trie_Next.calls _ t324 1 99 t325 t326 _ ?side1 A3.out).mono ?_); (case side1 => first | exact HO_t324.out | exact OB.drewN HO_t324.out _ | exact OB.below (by repeat (first | (with_reducible first | exact HB.out | apply below_alloc | apply pw_below_drewN | apply below_drew1) | exact HB.out)) HO_t324.out); rintro e w' ⟨rfl, ⟨nd, rfl⟩⟩; refine ⟨_, rfl, ?_⟩) | (go_at_call 38; (with_reducible refine (trie_Trie_Len.calls _ t324 t327 _ ?side1 A5.out).mono ?_); (case side1 => first | exact HO_t324.out | exact OB.drewN HO_t324.out _ | exact OB.below (by repeat (first | (with_reducible first | exact HB.out | apply below_alloc | apply pw_below_drewN | apply below_drew1) | exact HB.out)) HO_t324.out); rintro e w' ⟨rfl, ⟨nd, rfl⟩⟩))
      go_ret
      exact ⟨by first | rfl | (simp [errW_none, errW_some] <;> rfl) | (simp [*, errW_none, errW_some] <;> rfl), by first | (refine HB00.out.trans (Below.mono ?_ HB00.out.size); (repeat (first | (with_reducible first | exact HB.out | apply below_alloc | apply pw_below_drewN | apply below_drew1) | exact HB.out))) | (repeat (first | (with_reducible first | exact HB.out | apply below_alloc | apply pw_below_drewN | apply below_drew1) | exact HB.out))⟩
  · rw [if_neg c4] at H
    have c4b0 : (t322 == 0) = false := beq_eq_false_iff_ne.mpr c4
    have c4b1 : (t322 != 0) = true := bne_iff_ne.mpr c4
    obtain rfl := Option.some.inj H
    go_enter Try.func36, Try.ntmps36
    go_wp2_with (first | ((with_reducible refine gate_dst (N := 7) rfl ?_); refine Kd.R_lit Kd.string _ 9 ?hg (N := 7) ?hd (xs := ([(⟨#[97, 98]⟩ : ByteArray), (⟨#[97, 99]⟩ : ByteArray), (⟨#[98]⟩ : ByteArray)] : List ByteArray)) (inner := [.string (⟨#[97, 98]⟩ : ByteArray), .string (⟨#[97, 99]⟩ : ByteArray), .string (⟨#[98]⟩ : ByteArray)]) (ok := fun _ => True) (okp := fun _ => True) ?hr ?hp (fun _ hk => hk) trivial (Below.refl _ _) (Nat.le_refl _) (by simp) ?_; (case hd => rfl); (case hg => rfl); (case hr => first | (go_simp; done) | (go_simp; rfl)); (case hp => exact (Reps.one (show Kd.M Kd.string _ _ _ (⟨#[97, 98]⟩ : ByteArray) [.string (⟨#[97, 98]⟩ : ByteArray)] from rfl) (Reps.one (show Kd.M Kd.string _ _ _ (⟨#[97, 99]⟩ : ByteArray) [.string (⟨#[97, 99]⟩ : ByteArray)] from rfl) (Reps.one (show Kd.M Kd.string _ _ _ (⟨#[98]⟩ : ByteArray) [.string (⟨#[98]⟩ : ByteArray)] from rfl) (Reps.none _ _))))); intro v319 w33 ho34 hb hg_ hnew_; clear hg_ hnew_; (first | rw [← Ny318.out] at ho34 | (simp only [Int.reduceToNat] at ho34; rw [← Ny318.out] at ho34)); have n0_ := Aside0.mk (Kd.R_lower ho34 (below_size (by repeat (first | (with_reducible first | exact HB.out | apply below_alloc | apply pw_below_drewN | apply below_drew1) | exact HB.out)))); have n1_ := Aside0.mk (below_step (by repeat (first | (with_reducible first | exact HB.out | apply below_alloc | apply pw_below_drewN | apply below_drew1) | exact HB.out)) hb); clear HB; have HO320 := n0_; have HB := n1_; clear n0_ n1_; clear hb ho34; obtain ⟨Ao35, co35, eo35⟩ := Kd.R_slice HO320.out; subst eo35) | ((with_reducible refine gate_callee (f := 12) rfl ?_); refine goesL_ (some 8) rfl rfl Try.func12 (by kernel_rfl) rfl #[.slice Ao35 y318.length co35] rfl (by (try simp only [List.map_toArray, List.map_cons, List.map_nil]); first | done | rfl | (simp only [List.length_drop, List.length_take]; rfl)) ?_; (with_reducible refine (pats_New.calls _ _ y318 t321 t322 _ ?side1 ?side2 A1.out).mono ?_); (case side1 => repeat (first | exact (Kd.R_reads' HO320.out).2.2 | (with_reducible refine Kd.C_alloc ?_ _) | (with_reducible refine Kd.C_drewN ?_ _) | (with_reducible refine Kd.C_drew ?_))); (case side2 => exact (Kd.R_reads' HO320.out).2.1); rintro e w36 ⟨Pt321, rfl, hob0, hb⟩; refine ⟨_, rfl, ?_⟩; have hbw_ := below_step (by repeat (first | (with_reducible first | exact HB.out | apply below_alloc | apply pw_below_drewN | apply below_drew1) | exact HB.out)) hb; obtain ⟨Ab323, cb323, eb323_, lb323_, gb323_⟩ := Kd.R_reads (Kd.R_below (by (with_reducible repeat (first | apply Kd.R_alloc | apply Kd.R_drewN | apply Kd.R_drew)); exact HO320.out) hb); (first | subst eb323_ | (injection eb323_ with f1_ f2_ f3_; have f4_ := f1_.symm; have f5_ := f3_.symm; clear f1_ f2_ f3_; subst f4_; subst f5_)); have HRb323 := Aside0.mk gb323_; have HCb323 := Aside0.mk lb323_; clear gb323_ lb323_; (try clear HO320); (try (have n_ := Aside0.mk (Kd.C_below HRb323.out hbw_); clear HRb323; have HRb323 := n_; clear n_)); (try (have n_ := Aside0.mk (OB.below hbw_ HO_t321.out); clear HO_t321; have HO_t321 := n_; clear n_)); (try (have n_ := Aside0.mk (OB.below hbw_ HO_t324.out); clear HO_t324; have HO_t324 := n_; clear n_)); (first | (have n_ := Aside0.mk (HB00.out.trans (hbw_.mono HB00.out.size)); clear HB00; have HB00 := n_; clear n_) | have HB00 := Aside0.mk hbw_); clear HB hb hbw_; have HO_t321 := Aside0.mk hob0; clear hob0; obtain ⟨w, rfl⟩ : ∃ w_ : World, w_ = w36 := ⟨_, rfl⟩; have HB := Aside0.mk (Below.refl w.heap.size w)) | ((with_reducible refine gate_callee (f := 37) rfl ?_); refine goesL_ (some 12) rfl rfl Try.func37 (by kernel_rfl) rfl #[.pointer Pt321] rfl (by (try simp only [List.map_toArray, List.map_cons, List.map_nil]); first | done | rfl | (simp only [List.length_drop, List.length_take]; rfl)) ?_; (with_reducible refine (trie_New.calls _ t321 t324 _ ?side1 A2.out).mono ?_); (case side1 => first | exact HO_t321.out | exact OB.drewN HO_t321.out _ | exact OB.below (by repeat (first | (with_reducible first | exact HB.out | apply below_alloc | apply pw_below_drewN | apply below_drew1) | exact HB.out)) HO_t321.out); rintro e w37 ⟨Pt324, rfl, hob0, hb⟩; refine ⟨_, rfl, ?_⟩; have hbw_ := below_step (by repeat (first | (with_reducible first | exact HB.out | apply below_alloc | apply pw_below_drewN | apply below_drew1) | exact HB.out)) hb; (try (have n_ := Aside0.mk (Kd.C_below HRb323.out hbw_); clear HRb323; have HRb323 := n_; clear n_)); (try (have n_ := Aside0.mk (OB.below hbw_ HO_t321.out); clear HO_t321; have HO_t321 := n_; clear n_)); (try (have n_ := Aside0.mk (OB.below hbw_ HO_t324.out); clear HO_t324; have HO_t324 := n_; clear n_)); (first | (have n_ := Aside0.mk (HB00.out.trans (hbw_.mono HB00.out.size)); clear HB00; have HB00 := n_; clear n_) | have HB00 := Aside0.mk hbw_); clear HB hb hbw_; have HO_t324 := Aside0.mk hob0; clear hob0; obtain ⟨w, rfl⟩ : ∃ w_ : World, w_ = w37 := ⟨_, rfl⟩; have HB := Aside0.mk (Below.refl w.heap.size w)) | ((with_reducible refine gate_callee (f := 41) rfl ?_); refine goesL_ (some 15) rfl rfl Try.func41 (by kernel_rfl) rfl #[.pointer Pt324, .int .i64 1, .int .u8 99] rfl (by (try simp only [List.map_toArray, List.map_cons, List.map_nil]); first | done | rfl | (simp only [List.length_drop, List.length_take]; rfl)) ?_; (with_reducible refine (trie_Trie_Next.calls _ t324 1 99 t325 t326 _ ?side1 A3.out).mono ?_); (case side1 => first | exact HO_t324.out | exact OB.drewN HO_t324.out _ | exact OB.below (by repeat (first | (with_reducible first | exact HB.out | apply below_alloc | apply pw_below_drewN | apply below_drew1) | exact HB.out)) HO_t324.out); rintro e w' ⟨rfl, ⟨nd, rfl⟩⟩; refine ⟨_, rfl, ?_⟩))
    go_ret
    exact ⟨by first | rfl | (simp [errW_none, errW_some] <;> rfl) | (simp [*, errW_none, errW_some] <;> rfl), by first | (refine HB00.out.trans (Below.mono ?_ HB00.out.size); (repeat (first | (with_reducible first | exact HB.out | apply below_alloc | apply pw_below_drewN | apply below_drew1) | exact HB.out))) | (repeat (first | (with_reducible first | exact HB.out | apply below_alloc | apply pw_below_drewN | apply below_drew1) | exact HB.out))⟩

end Go.Proofs.Ytnpkbnfiadkgnaa.P

/- Layer 16's example; no condition. -/
namespace Go.Proofs.Ytnpkbnfiadkgnaa.Base
open Go Go.RowKit Go.Proofs.YtnpkbnfiadkgnaaW.PrintWords Go.Proofs.YtnpkbnfiadkgnaaW.PrintMore Go.Proofs.Ytnpkbnfiadkgnaa.P
set_option linter.unusedVariables false

abbrev l16 : List ByteArray := [(⟨#[97, 98]⟩ : ByteArray), (⟨#[97, 99]⟩ : ByteArray), (⟨#[98]⟩ : ByteArray)]
theorem new16 : pats_New.f l16 = some (some ⟨l16, 1, 2, 5⟩, 0) := by
  have hs : sortB l16 = l16 := (sortB_of (List.Perm.refl _) (by decide)).symm
  unfold pats_New.f
  rw [hs]
  rfl
theorem okT_16 : okT l16 := ⟨⟨by decide, by decide⟩, by decide, fun s hs => by
    simp only [List.mem_cons, List.not_mem_nil, or_false] at hs
    rcases hs with rfl | rfl | rfl <;> decide, by decide⟩
theorem trie16 : trie_New.f (some ⟨l16, 1, 2, 5⟩) = some (some (trS l16)) := if_pos okT_16
theorem awake16 : juratlaw16_awake.f = some true := by
  have h1 : trie_Trie_Next.f (some (trS l16)) 1 99 = some (4, true) := by decide +kernel
  have h2 : trie_Trie_Len.f (some (trS l16)) = some 5 := by decide +kernel
  have h3 : trie_Trie_Path.f (some (trS l16)) 3 = some (⟨#[97, 98]⟩ : ByteArray) := by decide +kernel
  have t1 : (⟨#[97, 98]⟩ : ByteArray).toList = [97, 98] := by rw [ByteArray.toList_eq]
  unfold juratlaw16_awake.f
  rw [new16]
  simp only [Option.bind_some]
  rw [trie16]
  simp only [Option.bind_some]
  rw [h1]
  simp only [Option.bind_some]
  rw [if_pos trivial, h2]
  simp only [Option.bind_some]
  rw [if_pos trivial, h3]
  simp only [Option.bind_some]
  rw [if_pos t1, if_pos trivial]
theorem wf8 {x : Int} (h : (Lit.int .u8 x).wf = true) : 0 ≤ x ∧ x ≤ 255 := by
  simp [Lit.wf, IntKind.min, IntKind.max, IntKind.signed, IntKind.bits] at h
  omega
/-- A set of few texts has a trie. -/
theorem trie_ok {l w : List ByteArray} {x : Option SetD} {e : Int} (h : SetOk l x w e) (hz : sizes w ≤ 16777216) : trie_New.f x = some (some (trS w)) ∧ okT w := by
  have ok : okT w := ⟨⟨h.up, h.nodup⟩, h.few, fun s hs => ⟨h.pos s hs, h.size s hs⟩, hz⟩
  refine ⟨?_, ok⟩
  unfold trie_New.f
  rw [h.hL, if_pos ok]
theorem sizes_le (m : Nat) : ∀ l : List ByteArray, (∀ s ∈ l, s.size ≤ m) → sizes l ≤ l.length * m
  | [], _ => by simp [sizes]
  | s :: l, h => by
    have h1 := h s List.mem_cons_self
    have h2 := sizes_le m l (fun x hx => h x (List.mem_cons_of_mem _ hx))
    simp only [sizes, List.length_cons, Nat.succ_mul]
    omega
end Go.Proofs.Ytnpkbnfiadkgnaa.Base

/- A region whose operations may come up in the order of the text: a check that looks at pairs alone; no condition. -/
namespace Go.Proofs.Ytnpkbnfiadkgnaa.P
open Go
set_option linter.unusedVariables false

/-- Nothing is asked of what comes later, and what comes later lies apart. -/
def lexOk (md : Region.Mode) (ops : Array Oper) : Bool := Region.noSelect ops && (List.range ops.size).all fun i => match ops[i]? with
  | none => false
  | some oi => oi.after.all (fun e => !Region.binds md e || decide (e.on < i)) && (List.range (ops.size - (i + 1))).all fun t => match ops[i + 1 + t]? with
    | some oj => oj.after.any (fun e => Region.binds md e && e.on == i) || oi.apart ops oj
    | none => true
theorem lexFrom_of {md : Region.Mode} {ops : Array Oper} (h : lexOk md ops = true) : ∀ (fuel k : Nat) (listed : Array Bool), k + fuel = ops.size → listed.size = ops.size → (∀ j, j < ops.size → listed[j]? = some (decide (j < k))) → Region.lexFrom md ops fuel k listed = true
  | 0, k, listed, hk, hs, hl => by
    unfold Region.lexFrom Region.ready
    rw [List.isEmpty_iff, List.filter_eq_nil_iff]
    intro j hj
    rw [List.mem_range] at hj
    have := hl j hj
    rw [Array.getD_eq_getD_getElem?, this]
    simp only [Option.getD_some]
    rw [decide_eq_true (by omega)]
    simp
  | fuel + 1, k, listed, hk, hs, hl => by
    unfold Region.lexFrom
    have hkl : k < ops.size := by omega
    unfold lexOk at h
    have h' := h
    rw [Bool.and_eq_true, List.all_eq_true] at h'
    have hko := h'.2 k (List.mem_range.2 hkl)
    rw [Array.getElem?_eq_getElem hkl] at hko
    simp only [Bool.and_eq_true] at hko
    obtain ⟨ha, hb⟩ := hko
    rw [List.all_eq_true] at hb
    have hgT : ∀ j, j < ops.size → ∀ b, listed.getD j b = decide (j < k) := fun j hj b => by rw [Array.getD_eq_getD_getElem?, hl j hj]; rfl
    rw [Bool.and_eq_true, Bool.and_eq_true]
    refine ⟨⟨?_, ?_⟩, lexFrom_of (by unfold lexOk; exact h) fuel (k + 1) _ (by omega) (by simpa using hs) fun j hj => ?_⟩
    · unfold Region.ready
      rw [List.contains_iff_mem, List.mem_filter, List.mem_range]
      refine ⟨hkl, ?_⟩
      rw [hgT k hkl, Array.getElem?_eq_getElem hkl]
      simp only [Nat.lt_irrefl, decide_false, Bool.not_false, Bool.true_and, Option.map_some, Option.getD_some]
      rw [Array.all_eq_true_iff_forall_mem] at ha ⊢
      intro e he
      have := ha e he
      rw [Bool.or_eq_true] at this ⊢
      rcases this with h1 | h1
      · exact .inl h1
      · right
        have h2 := of_decide_eq_true h1
        rw [hgT e.on (by omega), h1]
    · unfold Region.free
      rw [Array.getElem?_eq_getElem hkl]
      simp only
      rw [List.all_eq_true]
      intro j hj
      rw [List.mem_range] at hj
      rw [hgT j hj]
      rcases Nat.lt_trichotomy j k with h1 | h1 | h1
      · simp [h1]
      · simp [h1]
      · obtain ⟨t, rfl⟩ : ∃ t, j = k + 1 + t := ⟨j - (k + 1), by omega⟩
        have := hb t (List.mem_range.2 (by omega))
        rw [Bool.or_eq_true]
        right
        exact this
    · rw [Array.getElem?_setIfInBounds]
      by_cases hjk : k = j
      · subst hjk
        rw [if_pos rfl, if_pos (by omega), decide_eq_true (by omega)]
      · rw [if_neg hjk, hl j hj]
        congr 1
        by_cases h1 : j < k
        · rw [decide_eq_true h1, decide_eq_true (by omega)]
        · rw [decide_eq_false h1, decide_eq_false (by omega)]
theorem lexB_of {md : Region.Mode} {ops : Array Oper} (h : lexOk md ops = true) : Region.lexB md ops = true := by
  unfold Region.lexB
  have h1 := h
  unfold lexOk at h1
  rw [Bool.and_eq_true] at h1 ⊢
  refine ⟨h1.1, lexFrom_of h ops.size 0 _ (by omega) (by simp) fun j hj => ?_⟩
  rw [Array.getElem?_replicate, if_pos hj, decide_eq_false (by omega)]

/-- What an operation writes, what it looks at, what must have come up ahead of it: numbers alone. -/
abbrev LexRow := Option Nat × List Nat × List Nat
def rowOf (md : Region.Mode) (ops : Array Oper) (o : Oper) : LexRow := (o.dst, o.looksAt ops, (o.after.toList.filter fun e => Region.binds md e).map fun e => e.on)
def tabOf (md : Region.Mode) (ops : Array Oper) : List LexRow := ops.toList.map (rowOf md ops)
def apartT (x y : LexRow) : Bool := (match x.1 with
    | some d => !y.2.1.contains d && y.1 != some d
    | none => true) && (match y.1 with
    | some d => !x.2.1.contains d
    | none => true)
def lexR : Nat → List LexRow → Bool
  | _, [] => true
  | i, r :: T => r.2.2.all (fun j => decide (j < i)) && T.all (fun q => q.2.2.contains i || apartT r q) && lexR (i + 1) T
theorem lexR_at : ∀ (T : List LexRow) (k : Nat), lexR k T = true → ∀ i (r : LexRow), T[i]? = some r → (r.2.2.all (fun j => decide (j < k + i)) = true) ∧ ∀ t (q : LexRow), T[i + 1 + t]? = some q → (q.2.2.contains (k + i) || apartT r q) = true
  | [], k, _, i, r, h => by simp at h
  | x :: T, k, h, i, r, hi => by
    simp only [lexR, Bool.and_eq_true] at h
    obtain ⟨⟨h1, h2⟩, h3⟩ := h
    cases i with
    | zero =>
      obtain rfl : x = r := by simpa using hi
      refine ⟨h1, fun t q hq => ?_⟩
      rw [Nat.zero_add, Nat.add_comm 1 t, List.getElem?_cons_succ] at hq
      exact List.all_eq_true.1 h2 q (List.mem_of_getElem? hq)
    | succ i =>
      rw [List.getElem?_cons_succ] at hi
      obtain ⟨g1, g2⟩ := lexR_at T (k + 1) h3 i r hi
      rw [show k + 1 + i = k + (i + 1) by omega] at g1 g2
      refine ⟨g1, fun t q hq => g2 t q ?_⟩
      rw [show i + 1 + 1 + t = (i + 1 + t) + 1 by omega, List.getElem?_cons_succ] at hq
      exact hq
theorem apart_row (md : Region.Mode) (ops : Array Oper) (x y : Oper) : apartT (rowOf md ops x) (rowOf md ops y) = x.apart ops y := rfl
theorem lexB_of_tab {md : Region.Mode} {ops : Array Oper} {T : List LexRow} (hs : Region.noSelect ops = true) (h : tabOf md ops = T) (hT : lexR 0 T = true) : Region.lexB md ops = true := by
  subst h
  refine lexB_of ?_
  unfold lexOk
  rw [hs, Bool.true_and, List.all_eq_true]
  intro i hi
  rw [List.mem_range] at hi
  have hrow : ∀ j (hj : j < ops.size), (tabOf md ops)[j]? = some (rowOf md ops ops[j]) := fun j hj => by
    unfold tabOf
    rw [List.getElem?_map, Array.getElem?_toList, Array.getElem?_eq_getElem hj]
    rfl
  obtain ⟨g1, g2⟩ := lexR_at _ 0 hT i _ (hrow i hi)
  rw [Nat.zero_add] at g1 g2
  rw [Array.getElem?_eq_getElem hi]
  simp only [Bool.and_eq_true]
  constructor
  · rw [Array.all_eq_true_iff_forall_mem]
    intro e he
    cases hb : Region.binds md e with
    | false => rfl
    | true =>
      have := List.all_eq_true.1 g1 e.on (List.mem_map.2 ⟨e, List.mem_filter.2 ⟨Array.mem_toList_iff.2 he, hb⟩, rfl⟩)
      rw [this]
      rfl
  · rw [List.all_eq_true]
    intro t ht
    rw [List.mem_range] at ht
    have hj : i + 1 + t < ops.size := by omega
    have h3 := g2 t _ (hrow _ hj)
    rw [Array.getElem?_eq_getElem hj]
    simp only
    rw [Bool.or_eq_true] at h3 ⊢
    rcases h3 with h3 | h3
    · left
      rw [List.contains_iff_mem] at h3
      obtain ⟨e, he, hon⟩ := List.mem_map.1 h3
      obtain ⟨he1, he2⟩ := List.mem_filter.1 he
      rw [Array.any_eq_true']
      exact ⟨e, Array.mem_toList_iff.1 he1, by rw [he2, hon]; simp⟩
    · right
      rw [← apart_row md]
      exact h3

end Go.Proofs.Ytnpkbnfiadkgnaa.P

/- Proved here: what Go functions of this seat compute, or a law of it; no condition beyond the statement's own. Written for this claim by a program of this session (wip/myprint.py) over the kit's print.py. -/
namespace Go.Proofs.Ytnpkbnfiadkgnaa.P
open Go.RowKit Go.Proofs.YtnpkbnfiadkgnaaW.PrintWords Go.Proofs.YtnpkbnfiadkgnaaW.PrintLast Go.Proofs.YtnpkbnfiadkgnaaW.PrintMore
attribute [local go_sem] max2_int min2_int max_two min_two max_three min_three max_four min_four   -- for this text's walks alone
set_option linter.unusedVariables false
set_option linter.unusedSimpArgs false

/-! ### juratref16_Bytes: function 49 -/
def juratref16_Bytes.l0 : Nat → List ByteArray → Int → List Int → Int → Option (ByteArray)
  | 0, _, _, _, _ => none
  | k + 1, x0, x1, x5, x6 => if x6 < (x0.length : Int) then (if 0 ≤ x1 then (if x1 < (x0.length : Int) then (if 0 ≤ x6 then (if ((rdOf ByteArray.empty x0 x6).size : Int) = (wrap64 (((rdOf ByteArray.empty x0 x1).size : Int) + 1)) then (if 0 ≤ ((rdOf ByteArray.empty x0 x1).size : Int) then (if ((rdOf ByteArray.empty x0 x1).size : Int) ≤ ((rdOf ByteArray.empty x0 x6).size : Int) then (if ((rdOf ByteArray.empty x0 x6).extract 0 (((rdOf ByteArray.empty x0 x1).size : Int) : Int).toNat).toList = (rdOf ByteArray.empty x0 x1).toList then (if ((rdOf ByteArray.empty x0 x1).size : Int) < ((rdOf ByteArray.empty x0 x6).size : Int) then (if x5.length < 140737488355328 then (juratref16_Bytes.l0 k x0 x1 (x5 ++ [bt (rdOf ByteArray.empty x0 x6) ((rdOf ByteArray.empty x0 x1).size : Int)]) (wrap64 (x6 + 1))) else (none)) else (none)) else (juratref16_Bytes.l0 k x0 x1 x5 (wrap64 (x6 + 1)))) else (none)) else (none)) else (juratref16_Bytes.l0 k x0 x1 x5 (wrap64 (x6 + 1)))) else (none)) else (none)) else (none)) else (some (strOfNums x5))
def juratref16_Bytes.f (k : Nat) (l0 : List ByteArray) (a1 : Int) : Option (ByteArray) := juratref16_Bytes.l0 k l0 a1 (([] : List Int)) 0
theorem juratref16_Bytes.mono_l : ∀ k, (∀ y0 y1 y2 y3, LeO (juratref16_Bytes.l0 k y0 y1 y2 y3) (juratref16_Bytes.l0 (k + 1) y0 y1 y2 y3))
  | 0 => fun _ _ _ _ r h => by simp [juratref16_Bytes.l0] at h
  | k + 1 => by
    have ih0 := juratref16_Bytes.mono_l k
    · intro y0 y1 y2 y3
      unfold juratref16_Bytes.l0
      repeat' first
      | (with_reducible exact ih0 _ _ _ _)
      | (with_reducible exact LeO.refl _)
      | (with_reducible exact LeO.none _)
      | (with_reducible refine LeO.ite ?_ ?_)
      | (with_reducible refine LeO.bind ?_ (fun _ => ?_))
      | exact ih0 _ _ _ _
      | exact LeO.none _
      | refine LeO.ite ?_ ?_
      | refine LeO.bind ?_ (fun _ => ?_)
theorem juratref16_Bytes.mono : ∀ a0 a1 k, LeO (juratref16_Bytes.f k a0 a1) (juratref16_Bytes.f (k + 1) a0 a1) := by
  intro a0 a1 k
  have ih0 := juratref16_Bytes.mono_l k
  unfold juratref16_Bytes.f
  repeat' first
      | (with_reducible exact ih0 _ _ _ _)
      | (with_reducible exact LeO.refl _)
      | (with_reducible exact LeO.none _)
      | (with_reducible refine LeO.ite ?_ ?_)
      | (with_reducible refine LeO.bind ?_ (fun _ => ?_))
      | exact ih0 _ _ _ _
      | exact LeO.none _
      | refine LeO.ite ?_ ?_
      | refine LeO.bind ?_ (fun _ => ?_)
set_option maxHeartbeats 8000000 in
set_option maxRecDepth 100000 in
theorem juratref16_Bytes.calls (k : Nat) (A0 : Option Addr) (c0 : Nat) (l0 : List ByteArray) (a1 : Int) (r : ByteArray) (w : World) (hr0 : Kd.C Kd.string w A0 l0.length l0) (hc0 : l0.length ≤ c0) (h : juratref16_Bytes.f k l0 a1 = some r) :
    Calls Try.prog 49 #[.slice A0 l0.length c0, .int .i64 a1] w fun e w' => e = .returned (.string r) ∧ Below w.heap.size w w' := by
  have HR0 := Aside0.mk hr0
  have HC0 := Aside0.mk hc0
  clear hr0 hc0
  have HB := Aside0.mk (Below.refl w.heap.size w)
  have H : (juratref16_Bytes.l0 k l0 a1 (([] : List Int)) 0) = some r := h
  clear h
  obtain ⟨y365, hy365⟩ : ∃ y_ : List Int, y_ = (([] : List Int)) := ⟨_, rfl⟩
  replace H : (juratref16_Bytes.l0 k l0 a1 y365 0) = some r := by first | (rw [hy365]; with_reducible exact H) | (have H2_ := (Option.bind_some _ _).symm.trans H; rw [hy365]; with_reducible exact H2_) | (have H2_ := (Option.bind_some _ _).symm.trans H; with_reducible exact H2_) | with_reducible exact H | (rw [hy365]; exact H) | exact H
  have Ny365 := Aside0.mk hy365
  clear hy365
  have H' := Aside0.mk H
  clear H
  go_enter Try.func49, Try.ntmps49
  go_wp2_with (first | ((with_reducible refine gate_dst (N := 8) rfl ?_); refine Kd.R_lit (Kd.int .u8) _ 5 ?hg (N := 8) ?hd (xs := ([] : List Int)) (inner := []) (ok := fun _ => True) (okp := fun _ => True) ?hr ?hp (fun _ hk => hk) trivial (Below.refl _ _) (Nat.le_refl _) (by simp) ?_; (case hd => rfl); (case hg => rfl); (case hr => first | (go_simp; done) | (go_simp; rfl)); (case hp => exact (Reps.none _ _)); intro v366 w3 ho4 hb hg_ hnew_; clear hg_ hnew_; (first | rw [← Ny365.out] at ho4 | (simp only [Int.reduceToNat] at ho4; rw [← Ny365.out] at ho4)); have n0_ := Aside0.mk (Kd.R_lower ho4 (below_size (by repeat (first | (with_reducible first | exact HB.out | apply below_alloc | apply pw_below_drewN | apply below_drew1) | exact HB.out)))); have n1_ := Aside0.mk (below_step (by repeat (first | (with_reducible first | exact HB.out | apply below_alloc | apply pw_below_drewN | apply below_drew1) | exact HB.out)) hb); clear HB; have HO367 := n0_; have HB := n1_; clear n0_ n1_; clear hb ho4))
  repeat (go_quiet (first | ((with_reducible refine gate_dst (N := 8) rfl ?_); refine Kd.R_lit (Kd.int .u8) _ 5 ?hg (N := 8) ?hd (xs := ([] : List Int)) (inner := []) (ok := fun _ => True) (okp := fun _ => True) ?hr ?hp (fun _ hk => hk) trivial (Below.refl _ _) (Nat.le_refl _) (by simp) ?_; (case hd => rfl); (case hg => rfl); (case hr => first | (go_simp; done) | (go_simp; rfl)); (case hp => exact (Reps.none _ _)); intro v366 w3 ho4 hb hg_ hnew_; clear hg_ hnew_; (first | rw [← Ny365.out] at ho4 | (simp only [Int.reduceToNat] at ho4; rw [← Ny365.out] at ho4)); have n0_ := Aside0.mk (Kd.R_lower ho4 (below_size (by repeat (first | (with_reducible first | exact HB.out | apply below_alloc | apply pw_below_drewN | apply below_drew1) | exact HB.out)))); have n1_ := Aside0.mk (below_step (by repeat (first | (with_reducible first | exact HB.out | apply below_alloc | apply pw_below_drewN | apply below_drew1) | exact HB.out)) hb); clear HB; have HO367 := n0_; have HB := n1_; clear n0_ n1_; clear hb ho4)); try go_wp2_with (first | ((with_reducible refine gate_dst (N := 8) rfl ?_); refine Kd.R_lit (Kd.int .u8) _ 5 ?hg (N := 8) ?hd (xs := ([] : List Int)) (inner := []) (ok := fun _ => True) (okp := fun _ => True) ?hr ?hp (fun _ hk => hk) trivial (Below.refl _ _) (Nat.le_refl _) (by simp) ?_; (case hd => rfl); (case hg => rfl); (case hr => first | (go_simp; done) | (go_simp; rfl)); (case hp => exact (Reps.none _ _)); intro v366 w3 ho4 hb hg_ hnew_; clear hg_ hnew_; (first | rw [← Ny365.out] at ho4 | (simp only [Int.reduceToNat] at ho4; rw [← Ny365.out] at ho4)); have n0_ := Aside0.mk (Kd.R_lower ho4 (below_size (by repeat (first | (with_reducible first | exact HB.out | apply below_alloc | apply pw_below_drewN | apply below_drew1) | exact HB.out)))); have n1_ := Aside0.mk (below_step (by repeat (first | (with_reducible first | exact HB.out | apply below_alloc | apply pw_below_drewN | apply below_drew1) | exact HB.out)) hb); clear HB; have HO367 := n0_; have HB := n1_; clear n0_ n1_; clear hb ho4)))
  go_loopg [5, 6] k (fun kq v5 v6 w' => ∃ (x5_1 : List Int) (x6_1 : Int), v6 = .int .i64 x6_1 ∧ Aside0 (juratref16_Bytes.l0 kq l0 a1 x5_1 x6_1 = some r) ∧ Aside0 (kq ≤ k) ∧ Aside0 (Kd.R (Kd.int .u8) 5 w' w.heap.size (fun _ => True) v5 x5_1) ∧ Aside0 (Below w.heap.size w w'))
  case atStart => exact ⟨(y365), (0), (by first | rfl | exact isE_ _ | exact isE2_ _ | (simp; done) | (simp [*]; done)), H', ⟨Nat.le_refl _⟩, ⟨by (with_reducible repeat (first | apply Kd.R_alloc | apply Kd.R_drewN | apply Kd.R_drew)); exact HO367.out⟩, ⟨by repeat (first | (with_reducible first | exact HB.out | apply below_alloc | apply pw_below_drewN | apply below_drew1) | exact HB.out)⟩⟩
  case round =>
    clear H'
    try clear p2
    try clear c4
    obtain ⟨x5_1, x6_1, rfl, HA, HK1, HO_5, HB⟩ := hrel
    cases gk with
    | zero => exact absurd HA.out (by simp [juratref16_Bytes.l0])
    | succ k1 =>
      have H := HA.out
      clear HA
      simp only [juratref16_Bytes.l0] at H
      by_cases c5 : x6_1 < (l0.length : Int)
      · rw [if_pos c5] at H
        have c5b0 : decide (x6_1 < (l0.length : Int)) = true := decide_eq_true c5
        clear c5
        by_cases c6 : 0 ≤ a1
        · rw [if_pos c6] at H
          have c6b0 : decide (0 ≤ a1) = true := decide_eq_true c6
          clear c6
          by_cases c7 : a1 < (l0.length : Int)
          · rw [if_pos c7] at H
            have c7b0 : decide (a1 < (l0.length : Int)) = true := decide_eq_true c7
            clear c7
            by_cases c8 : 0 ≤ x6_1
            · rw [if_pos c8] at H
              have c8b0 : decide (0 ≤ x6_1) = true := decide_eq_true c8
              clear c8
              by_cases c9 : ((rdOf ByteArray.empty l0 x6_1).size : Int) = (wrap64 (((rdOf ByteArray.empty l0 a1).size : Int) + 1))
              · rw [if_pos c9] at H
                have c9b0 : (((rdOf ByteArray.empty l0 x6_1).size : Int) == (wrap64 (((rdOf ByteArray.empty l0 a1).size : Int) + 1))) = true := beq_iff_eq.mpr c9
                have c9b1 : (((rdOf ByteArray.empty l0 x6_1).size : Int) != (wrap64 (((rdOf ByteArray.empty l0 a1).size : Int) + 1))) = false := bne_eq_false_iff_eq.mpr c9
                clear c9
                by_cases c10 : 0 ≤ ((rdOf ByteArray.empty l0 a1).size : Int)
                · rw [if_pos c10] at H
                  have c10b0 := eq_true c10
                  have c10b1 : decide (0 ≤ ((rdOf ByteArray.empty l0 a1).size : Int)) = true := decide_eq_true c10
                  clear c10
                  by_cases c11 : ((rdOf ByteArray.empty l0 a1).size : Int) ≤ ((rdOf ByteArray.empty l0 x6_1).size : Int)
                  · rw [if_pos c11] at H
                    have c11b0 := eq_true c11
                    have c11b1 : decide (((rdOf ByteArray.empty l0 a1).size : Int) ≤ ((rdOf ByteArray.empty l0 x6_1).size : Int)) = true := decide_eq_true c11
                    clear c11
                    by_cases c12 : ((rdOf ByteArray.empty l0 x6_1).extract 0 (((rdOf ByteArray.empty l0 a1).size : Int) : Int).toNat).toList = (rdOf ByteArray.empty l0 a1).toList
                    · rw [if_pos c12] at H
                      have c12b0 : (((rdOf ByteArray.empty l0 x6_1).extract 0 (((rdOf ByteArray.empty l0 a1).size : Int) : Int).toNat).toList == (rdOf ByteArray.empty l0 a1).toList) = true := beq_iff_eq.mpr c12
                      (try (have c12b0n_ := c12b0; simp only [Int.toNat_natCast] at c12b0n_))
                      have c12b1 : (((rdOf ByteArray.empty l0 x6_1).extract 0 (((rdOf ByteArray.empty l0 a1).size : Int) : Int).toNat).toList != (rdOf ByteArray.empty l0 a1).toList) = false := bne_eq_false_iff_eq.mpr c12
                      (try (have c12b1n_ := c12b1; simp only [Int.toNat_natCast] at c12b1n_))
                      clear c12
                      by_cases c13 : ((rdOf ByteArray.empty l0 a1).size : Int) < ((rdOf ByteArray.empty l0 x6_1).size : Int)
                      · rw [if_pos c13] at H
                        have c13b0 : decide (((rdOf ByteArray.empty l0 a1).size : Int) < ((rdOf ByteArray.empty l0 x6_1).size : Int)) = true := decide_eq_true c13
                        have c13b1 : decide ((rdOf ByteArray.empty l0 a1).size < (rdOf ByteArray.empty l0 x6_1).size) = true := decide_eq_true (Int.ofNat_lt.mp c13)
                        clear c13
                        by_cases c15 : x5_1.length < 140737488355328
                        · rw [if_pos c15] at H
                          have LMc15 := Aside0.mk c15
                          clear c15
                          obtain ⟨y373, hy373⟩ : ∃ y_ : List Int, y_ = (x5_1 ++ [bt (rdOf ByteArray.empty l0 x6_1) ((rdOf ByteArray.empty l0 a1).size : Int)]) := ⟨_, rfl⟩
                          replace H : (juratref16_Bytes.l0 k1 l0 a1 y373 (wrap64 (x6_1 + 1))) = some r := by first | (rw [hy373]; with_reducible exact H) | (have H2_ := (Option.bind_some _ _).symm.trans H; rw [hy373]; with_reducible exact H2_) | (have H2_ := (Option.bind_some _ _).symm.trans H; with_reducible exact H2_) | with_reducible exact H | (rw [hy373]; exact H) | exact H
                          have Ny373 := Aside0.mk hy373
                          clear hy373
                          have H' := Aside0.mk H
                          clear H
                          have p368 : 0 ≤ (a1 : Int) := of_decide_eq_true (by first | (with_reducible assumption) | assumption)
                          have q368 : a1 < (l0.length : Int) := of_decide_eq_true (by first | (with_reducible assumption) | assumption)
                          obtain ⟨ad368, e368, hx368_0⟩ := Kd.at_string HR0.out a1 p368 q368
                          cases e368
                          replace hx368_0 := (HB.out.cell (World.block_lt_of_cell? w _ hx368_0)).trans hx368_0
                          replace p368 := eq_true p368
                          replace q368 := eq_true q368
                          have p369 : 0 ≤ (x6_1 : Int) := of_decide_eq_true (by first | (with_reducible assumption) | assumption)
                          have q369 : x6_1 < (l0.length : Int) := of_decide_eq_true (by first | (with_reducible assumption) | assumption)
                          obtain ⟨ad369, e369, hx369_0⟩ := Kd.at_string HR0.out x6_1 p369 q369
                          obtain rfl : ad368 = ad369 := (by injection e369)
                          replace hx369_0 := (HB.out.cell (World.block_lt_of_cell? w _ hx369_0)).trans hx369_0
                          replace p369 := eq_true p369
                          replace q369 := eq_true q369
                          have p370 : 0 ≤ (x6_1 : Int) := of_decide_eq_true (by first | (with_reducible assumption) | assumption)
                          have q370 : x6_1 < (l0.length : Int) := of_decide_eq_true (by first | (with_reducible assumption) | assumption)
                          obtain ⟨ad370, e370, hx370_0⟩ := Kd.at_string HR0.out x6_1 p370 q370
                          obtain rfl : ad368 = ad370 := (by injection e370)
                          replace hx370_0 := (HB.out.cell (World.block_lt_of_cell? w _ hx370_0)).trans hx370_0
                          replace p370 := eq_true p370
                          replace q370 := eq_true q370
                          have p371 : 0 ≤ (a1 : Int) := of_decide_eq_true (by first | (with_reducible assumption) | assumption)
                          have q371 : a1 < (l0.length : Int) := of_decide_eq_true (by first | (with_reducible assumption) | assumption)
                          obtain ⟨ad371, e371, hx371_0⟩ := Kd.at_string HR0.out a1 p371 q371
                          obtain rfl : ad368 = ad371 := (by injection e371)
                          replace hx371_0 := (HB.out.cell (World.block_lt_of_cell? w _ hx371_0)).trans hx371_0
                          replace p371 := eq_true p371
                          replace q371 := eq_true q371
                          have p372 : 0 ≤ (x6_1 : Int) := of_decide_eq_true (by first | (with_reducible assumption) | assumption)
                          have q372 : x6_1 < (l0.length : Int) := of_decide_eq_true (by first | (with_reducible assumption) | assumption)
                          obtain ⟨ad372, e372, hx372_0⟩ := Kd.at_string HR0.out x6_1 p372 q372
                          obtain rfl : ad368 = ad372 := (by injection e372)
                          replace hx372_0 := (HB.out.cell (World.block_lt_of_cell? w _ hx372_0)).trans hx372_0
                          replace p372 := eq_true p372
                          replace q372 := eq_true q372
                          have p14 : 0 ≤ (((rdOf ByteArray.empty l0 a1).size : Int) : Int) := of_decide_eq_true (by first | (with_reducible assumption) | assumption)
                          have q14 : ((rdOf ByteArray.empty l0 a1).size : Int) < ((rdOf ByteArray.empty l0 x6_1).size : Int) := of_decide_eq_true (by first | (with_reducible assumption) | assumption)
                          have hx14 := bt_at (rdOf ByteArray.empty l0 x6_1) ((rdOf ByteArray.empty l0 a1).size : Int)
                          (try (have hx14n_ : ∀ h : ((rdOf ByteArray.empty l0 a1)).size < ((rdOf ByteArray.empty l0 x6_1)).size, ((((rdOf ByteArray.empty l0 x6_1))[((rdOf ByteArray.empty l0 a1)).size]'h).toNat : Int) = bt ((rdOf ByteArray.empty l0 x6_1)) ((rdOf ByteArray.empty l0 a1).size : Int) := fun h => hx14 h))
                          replace p14 := eq_true p14
                          replace q14 := eq_true q14
                          go_wp2_with (first | ((with_reducible refine gate_builtin (b := .append) (xs := #[.tmp 41, .tmp 48]) rfl ?_); at_builtin; refine Kd.R_append (Kd.int .u8) (w0 := w) w.heap.size rfl (.tmp 41) (.tmp 48) 66 5 (.int .u8 0) 1 rfl Try.underlying66 info5 rfl (by decide) (by omega) u5 x5_1 (bt (rdOf ByteArray.empty l0 x6_1) ((rdOf ByteArray.empty l0 a1).size : Int)) [.int .u8 (bt (rdOf ByteArray.empty l0 x6_1) ((rdOf ByteArray.empty l0 a1).size : Int))] (fun _ => True) (fun _ => False) rfl rfl ?aP (fun _ hk => hk.elim) ?aF ?aO ?aB ?aS ?aL ?_; (case aP => exact rfl); (case aB => exact (by repeat (first | (with_reducible first | exact HB.out | apply below_alloc | apply pw_below_drewN | apply below_drew1) | exact HB.out))); (case aF => exact (fun _ _ => trivial)); (case aO => exact (by (with_reducible repeat (first | apply Kd.R_alloc | apply Kd.R_drewN | apply Kd.R_drew)); exact HO_5.out)); (case aS => exact (below_size (by repeat (first | (with_reducible first | exact HB.out | apply below_alloc | apply pw_below_drewN | apply below_drew1) | exact HB.out)))); (case aL => have := LMc15.out; omega); intro v374 w16 ho hb hg hat; rw [← Ny373.out] at ho; have n0_ := Aside0.mk (hb); have n1_ := Aside0.mk (ho); clear HB; clear HO_5; have HB := n0_; have HO375 := n1_; clear n0_ n1_; clear ho hb hg hat))
                          repeat (go_quiet (first | ((with_reducible refine gate_builtin (b := .append) (xs := #[.tmp 41, .tmp 48]) rfl ?_); at_builtin; refine Kd.R_append (Kd.int .u8) (w0 := w) w.heap.size rfl (.tmp 41) (.tmp 48) 66 5 (.int .u8 0) 1 rfl Try.underlying66 info5 rfl (by decide) (by omega) u5 x5_1 (bt (rdOf ByteArray.empty l0 x6_1) ((rdOf ByteArray.empty l0 a1).size : Int)) [.int .u8 (bt (rdOf ByteArray.empty l0 x6_1) ((rdOf ByteArray.empty l0 a1).size : Int))] (fun _ => True) (fun _ => False) rfl rfl ?aP (fun _ hk => hk.elim) ?aF ?aO ?aB ?aS ?aL ?_; (case aP => exact rfl); (case aB => exact (by repeat (first | (with_reducible first | exact HB.out | apply below_alloc | apply pw_below_drewN | apply below_drew1) | exact HB.out))); (case aF => exact (fun _ _ => trivial)); (case aO => exact (by (with_reducible repeat (first | apply Kd.R_alloc | apply Kd.R_drewN | apply Kd.R_drew)); exact HO_5.out)); (case aS => exact (below_size (by repeat (first | (with_reducible first | exact HB.out | apply below_alloc | apply pw_below_drewN | apply below_drew1) | exact HB.out)))); (case aL => have := LMc15.out; omega); intro v374 w16 ho hb hg hat; rw [← Ny373.out] at ho; have n0_ := Aside0.mk (hb); have n1_ := Aside0.mk (ho); clear HB; clear HO_5; have HB := n0_; have HO375 := n1_; clear n0_ n1_; clear ho hb hg hat)); try go_wp2_with (first | ((with_reducible refine gate_builtin (b := .append) (xs := #[.tmp 41, .tmp 48]) rfl ?_); at_builtin; refine Kd.R_append (Kd.int .u8) (w0 := w) w.heap.size rfl (.tmp 41) (.tmp 48) 66 5 (.int .u8 0) 1 rfl Try.underlying66 info5 rfl (by decide) (by omega) u5 x5_1 (bt (rdOf ByteArray.empty l0 x6_1) ((rdOf ByteArray.empty l0 a1).size : Int)) [.int .u8 (bt (rdOf ByteArray.empty l0 x6_1) ((rdOf ByteArray.empty l0 a1).size : Int))] (fun _ => True) (fun _ => False) rfl rfl ?aP (fun _ hk => hk.elim) ?aF ?aO ?aB ?aS ?aL ?_; (case aP => exact rfl); (case aB => exact (by repeat (first | (with_reducible first | exact HB.out | apply below_alloc | apply pw_below_drewN | apply below_drew1) | exact HB.out))); (case aF => exact (fun _ _ => trivial)); (case aO => exact (by (with_reducible repeat (first | apply Kd.R_alloc | apply Kd.R_drewN | apply Kd.R_drew)); exact HO_5.out)); (case aS => exact (below_size (by repeat (first | (with_reducible first | exact HB.out | apply below_alloc | apply pw_below_drewN | apply below_drew1) | exact HB.out)))); (case aL => have := LMc15.out; omega); intro v374 w16 ho hb hg hat; rw [← Ny373.out] at ho; have n0_ := Aside0.mk (hb); have n1_ := Aside0.mk (ho); clear HB; clear HO_5; have HB := n0_; have HO375 := n1_; clear n0_ n1_; clear ho hb hg hat)))
                          go_roundg k1
                          case measure => have := HK1.out; omega
                          case rel => exact ⟨(y373), (wrap64 (x6_1 + 1)), (by first | rfl | exact isE_ _ | exact isE2_ _ | (simp; done) | (simp [*]; done)), H', ⟨by have := HK1.out; omega⟩, ⟨by (with_reducible repeat (first | apply Kd.R_alloc | apply Kd.R_drewN | apply Kd.R_drew)); exact HO375.out⟩, ⟨by repeat (first | (with_reducible first | exact HB.out | apply below_alloc | apply pw_below_drewN | apply below_drew1) | exact HB.out)⟩⟩
                        · rw [if_neg c15] at H
                          exact absurd H (by simp)
                      · rw [if_neg c13] at H
                        exact absurd H (by simp)
                    · rw [if_neg c12] at H
                      have c12b0 : (((rdOf ByteArray.empty l0 x6_1).extract 0 (((rdOf ByteArray.empty l0 a1).size : Int) : Int).toNat).toList == (rdOf ByteArray.empty l0 a1).toList) = false := beq_eq_false_iff_ne.mpr c12
                      (try (have c12b0n_ := c12b0; simp only [Int.toNat_natCast] at c12b0n_))
                      have c12b1 : (((rdOf ByteArray.empty l0 x6_1).extract 0 (((rdOf ByteArray.empty l0 a1).size : Int) : Int).toNat).toList != (rdOf ByteArray.empty l0 a1).toList) = true := bne_iff_ne.mpr c12
                      (try (have c12b1n_ := c12b1; simp only [Int.toNat_natCast] at c12b1n_))
                      have H' := Aside0.mk H
                      clear H
                      have p368 : 0 ≤ (a1 : Int) := of_decide_eq_true (by first | (with_reducible assumption) | assumption)
                      have q368 : a1 < (l0.length : Int) := of_decide_eq_true (by first | (with_reducible assumption) | assumption)
                      obtain ⟨ad368, e368, hx368_0⟩ := Kd.at_string HR0.out a1 p368 q368
                      cases e368
                      replace hx368_0 := (HB.out.cell (World.block_lt_of_cell? w _ hx368_0)).trans hx368_0
                      replace p368 := eq_true p368
                      replace q368 := eq_true q368
                      have p369 : 0 ≤ (x6_1 : Int) := of_decide_eq_true (by first | (with_reducible assumption) | assumption)
                      have q369 : x6_1 < (l0.length : Int) := of_decide_eq_true (by first | (with_reducible assumption) | assumption)
                      obtain ⟨ad369, e369, hx369_0⟩ := Kd.at_string HR0.out x6_1 p369 q369
                      obtain rfl : ad368 = ad369 := (by injection e369)
                      replace hx369_0 := (HB.out.cell (World.block_lt_of_cell? w _ hx369_0)).trans hx369_0
                      replace p369 := eq_true p369
                      replace q369 := eq_true q369
                      have p370 : 0 ≤ (x6_1 : Int) := of_decide_eq_true (by first | (with_reducible assumption) | assumption)
                      have q370 : x6_1 < (l0.length : Int) := of_decide_eq_true (by first | (with_reducible assumption) | assumption)
                      obtain ⟨ad370, e370, hx370_0⟩ := Kd.at_string HR0.out x6_1 p370 q370
                      obtain rfl : ad368 = ad370 := (by injection e370)
                      replace hx370_0 := (HB.out.cell (World.block_lt_of_cell? w _ hx370_0)).trans hx370_0
                      replace p370 := eq_true p370
                      replace q370 := eq_true q370
                      have p371 : 0 ≤ (a1 : Int) := of_decide_eq_true (by first | (with_reducible assumption) | assumption)
                      have q371 : a1 < (l0.length : Int) := of_decide_eq_true (by first | (with_reducible assumption) | assumption)
                      obtain ⟨ad371, e371, hx371_0⟩ := Kd.at_string HR0.out a1 p371 q371
                      obtain rfl : ad368 = ad371 := (by injection e371)
                      replace hx371_0 := (HB.out.cell (World.block_lt_of_cell? w _ hx371_0)).trans hx371_0
                      replace p371 := eq_true p371
                      replace q371 := eq_true q371
                      go_wp2
                      repeat (go_quiet (fail); try go_wp2)
                      go_roundg k1
                      case measure => have := HK1.out; omega
                      case rel => exact ⟨(x5_1), (wrap64 (x6_1 + 1)), (by first | rfl | exact isE_ _ | exact isE2_ _ | (simp; done) | (simp [*]; done)), H', ⟨by have := HK1.out; omega⟩, ⟨by (with_reducible repeat (first | apply Kd.R_alloc | apply Kd.R_drewN | apply Kd.R_drew)); exact HO_5.out⟩, ⟨by repeat (first | (with_reducible first | exact HB.out | apply below_alloc | apply pw_below_drewN | apply below_drew1) | exact HB.out)⟩⟩
                  · rw [if_neg c11] at H
                    exact absurd H (by simp)
                · rw [if_neg c10] at H
                  exact absurd H (by simp)
              · rw [if_neg c9] at H
                have c9b0 : (((rdOf ByteArray.empty l0 x6_1).size : Int) == (wrap64 (((rdOf ByteArray.empty l0 a1).size : Int) + 1))) = false := beq_eq_false_iff_ne.mpr c9
                have c9b1 : (((rdOf ByteArray.empty l0 x6_1).size : Int) != (wrap64 (((rdOf ByteArray.empty l0 a1).size : Int) + 1))) = true := bne_iff_ne.mpr c9
                have H' := Aside0.mk H
                clear H
                have p368 : 0 ≤ (a1 : Int) := of_decide_eq_true (by first | (with_reducible assumption) | assumption)
                have q368 : a1 < (l0.length : Int) := of_decide_eq_true (by first | (with_reducible assumption) | assumption)
                obtain ⟨ad368, e368, hx368_0⟩ := Kd.at_string HR0.out a1 p368 q368
                cases e368
                replace hx368_0 := (HB.out.cell (World.block_lt_of_cell? w _ hx368_0)).trans hx368_0
                replace p368 := eq_true p368
                replace q368 := eq_true q368
                have p369 : 0 ≤ (x6_1 : Int) := of_decide_eq_true (by first | (with_reducible assumption) | assumption)
                have q369 : x6_1 < (l0.length : Int) := of_decide_eq_true (by first | (with_reducible assumption) | assumption)
                obtain ⟨ad369, e369, hx369_0⟩ := Kd.at_string HR0.out x6_1 p369 q369
                obtain rfl : ad368 = ad369 := (by injection e369)
                replace hx369_0 := (HB.out.cell (World.block_lt_of_cell? w _ hx369_0)).trans hx369_0
                replace p369 := eq_true p369
                replace q369 := eq_true q369
                go_wp2
                repeat (go_quiet (fail); try go_wp2)
                go_roundg k1
                case measure => have := HK1.out; omega
                case rel => exact ⟨(x5_1), (wrap64 (x6_1 + 1)), (by first | rfl | exact isE_ _ | exact isE2_ _ | (simp; done) | (simp [*]; done)), H', ⟨by have := HK1.out; omega⟩, ⟨by (with_reducible repeat (first | apply Kd.R_alloc | apply Kd.R_drewN | apply Kd.R_drew)); exact HO_5.out⟩, ⟨by repeat (first | (with_reducible first | exact HB.out | apply below_alloc | apply pw_below_drewN | apply below_drew1) | exact HB.out)⟩⟩
            · rw [if_neg c8] at H
              exact absurd H (by simp)
          · rw [if_neg c7] at H
            exact absurd H (by simp)
        · rw [if_neg c6] at H
          exact absurd H (by simp)
      · rw [if_neg c5] at H
        have c5b0 : decide (x6_1 < (l0.length : Int)) = false := decide_eq_false c5
        clear c5
        obtain rfl := Option.some.inj H
        have hcv17 := own_string (P := Try.prog) Try.underlying66 Try.underlying5 Try.underlying9 (Kd.own_of_R HO_5.out)
        go_wp2
        repeat (go_quiet (fail); try go_wp2)
        go_ret
        exact ⟨by first | rfl | (simp [errW_none, errW_some] <;> rfl) | (simp [*, errW_none, errW_some] <;> rfl), by repeat (first | (with_reducible first | exact HB.out | apply below_alloc | apply pw_below_drewN | apply below_drew1) | exact HB.out)⟩

end Go.Proofs.Ytnpkbnfiadkgnaa.P

/- A state's path and bytes, and what the reference tells of them; no condition beyond the sizes that stand in each statement. -/
namespace Go.Proofs.Ytnpkbnfiadkgnaa.Base
open Go Go.RowKit Go.Proofs.YtnpkbnfiadkgnaaW.PrintWords Go.Proofs.YtnpkbnfiadkgnaaW.PrintMore Go.Proofs.Ytnpkbnfiadkgnaa.P
set_option linter.unusedVariables false

theorem strNums_path (p : List UInt8) : strOfNums (p.map fun b => (b.toNat : Int)) = strP p := by
  unfold strOfNums strP
  rw [List.map_map]
  have : (fun n : Int => UInt8.ofNat n.toNat) ∘ (fun b : UInt8 => (b.toNat : Int)) = id := by
    funext b
    simp [Function.comp]
  rw [this, List.map_id]
section
variable {w : List ByteArray} {i : Nat} {n : NodeD}
theorem above_val (hs : srt w) (h : (trN w)[i]? = some n) (h0 : 0 < i) : trie_Trie_Above.f (some (trS w)) (i : Int) = some (n.above, (n.by_ : Int), true) := by
  unfold trie_Trie_Above.f
  have e : trAt (some (trS w)) (i : Int) = done w (firstOf w i) n := by show (trS w).getD ((i : Int)).toNat default = _; rw [Int.toNat_natCast, trS_getD hs h]
  rw [tr_is h, if_pos ⟨rfl, by omega⟩, e]
  rfl
theorem root_is (h : (trN w)[0]? = some n) : n.path = [] := by
  rw [path_root] at h
  injection h with h
  rw [← h]
theorem upP_is (hs : srt w) : ∀ (k i : Nat) (n : NodeD), (trN w)[i]? = some n → n.path.length = k → upP (some (trS w)) k (i : Int) = n.path.map fun b => (b.toNat : Int)
  | 0, i, n, h, hk => by rw [List.length_eq_zero_iff.1 hk]; rfl
  | k + 1, i, n, h, hk => by
    have h0 : 0 < i := by
      rcases Nat.eq_zero_or_pos i with h1 | h1
      · subst h1
        rw [root_is h] at hk
        simp at hk
      · exact h1
    have ha := above_val hs h h0
    obtain ⟨j, m, o, h1, h2, h3, h4, h5⟩ := above_is hs h h0
    have hg := kid_path hs h1 (g := (m.gr w).getD o (0, 0, 0)) (getD_mem _ _ _ h3)
    simp only [upP, ha]
    generalize (m.gr w).getD o (0, 0, 0) = g at h5 hg
    have hp : n.path = m.path ++ [UInt8.ofNat g.1] := by rw [h5]; rfl
    have hab : n.above = (j : Int) := by rw [h5]; rfl
    have hby : n.by_ = g.1 := by rw [h5]; rfl
    rw [hp, List.length_append, List.length_singleton] at hk
    rw [hab, upP_is hs k j m h1 (by omega), hp, List.map_append, hby]
    congr 1
    simp only [List.map_cons, List.map_nil]
    rw [UInt8.toNat_ofNat']
    congr 1
    omega
theorem path_val (hs : srt w) (hz : sizes w ≤ 16777216) (h : (trN w)[i]? = some n) : trie_Trie_Path.f (some (trS w)) (i : Int) = some (strP n.path) := by
  have hl : n.path.length ≤ 1073741824 := by
    rcases path_is hs h with h1 | ⟨t, ht, hp⟩
    · rw [h1]; simp
    · have h2 := hp.length_le
      rw [LL_length] at h2
      have key : ∀ (l : List ByteArray) (t : Nat), t < l.length → (l.getD t ByteArray.empty).size ≤ sizes l := by
        intro l
        induction l with
        | nil => intro t ht; simp at ht
        | cons x l ih =>
          intro t ht
          simp only [sizes]
          cases t with
          | zero => rw [List.getD_cons_zero]; omega
          | succ t =>
            rw [List.getD_cons_succ]
            have := ih t (by simpa using ht)
            omega
      have := key w t ht
      omega
  unfold trie_Trie_Path.f
  rw [depth_is hs h, if_pos ⟨by omega, by omega⟩, Int.toNat_natCast, upP_is hs _ i n h rfl, strNums_path]
/-- The bytes below a node. -/
def byL (w : List ByteArray) (n : NodeD) : List Int := (n.gr w).map fun g => (g.1 : Int)
theorem trBy_is (hs : srt w) (h : (trN w)[i]? = some n) : trBy (trS w) (done w (firstOf w i) n) = byL w n := by
  unfold trBy byL
  rw [done_first, done_many, Int.toNat_natCast, Int.toNat_natCast]
  apply List.ext_getElem
  · simp
  · intro o h1 h2
    have ho : o < (n.gr w).length := by simpa using h1
    rw [List.getElem_map, List.getElem_map, List.getElem_range, kid_by hs h ho, List.getD_eq_getElem?_getD, List.getElem?_eq_getElem ho, Option.getD_some]
theorem bytes_val (hs : srt w) (hz : sizes w ≤ 16777216) (h : (trN w)[i]? = some n) : trie_Trie_Bytes.f (some (trS w)) (i : Int) = some (strOfNums (byL w n)) := by
  have hf := (first_gt hs h).2
  have hl := trN_le hs
  unfold trK at hl
  have hall : (byL w n).all (fun c => decide (0 ≤ c ∧ c < 256)) = true := by
    rw [List.all_eq_true]
    intro c hc
    obtain ⟨g, hg, rfl⟩ := List.mem_map.1 hc
    have := (kid_path hs h hg).1
    exact decide_eq_true (by omega)
  simp only [trie_Trie_Bytes.f]
  rw [tr_is h, if_pos rfl, Int.toNat_natCast, trS_getD hs h, trBy_is hs h, if_pos ⟨st_ok hs hz h, by show ((n.gr w).length : Int) ≤ _; omega, hall⟩]
/-- With which bytes texts go on behind one. -/
def goesOn (p s : ByteArray) : Prop := s.size = p.size + 1 ∧ s.extract 0 p.size = p
instance (p s : ByteArray) : Decidable (goesOn p s) := inferInstanceAs (Decidable (_ ∧ _))
def rbF (p : ByteArray) : List ByteArray → List Int
  | [] => []
  | s :: l => if goesOn p s then bt s (p.size : Int) :: rbF p l else rbF p l
theorem rbF_append (p : ByteArray) : ∀ a b : List ByteArray, rbF p (a ++ b) = rbF p a ++ rbF p b
  | [], b => rfl
  | s :: a, b => by
    simp only [List.cons_append, rbF]
    rw [rbF_append p a b]
    split <;> rfl
theorem rbF_none (p : ByteArray) : ∀ a : List ByteArray, (∀ s ∈ a, ¬ goesOn p s) → rbF p a = []
  | [], _ => rfl
  | s :: a, h => by
    simp only [rbF]
    rw [if_neg (h s List.mem_cons_self), rbF_none p a (fun x hx => h x (List.mem_cons_of_mem _ hx))]
theorem rbF_length (p : ByteArray) : ∀ a : List ByteArray, (rbF p a).length ≤ a.length
  | [] => Nat.le_refl _
  | s :: a => by
    have := rbF_length p a
    simp only [rbF]
    split <;> simp <;> omega
theorem goesOn_path {p q : List UInt8} : goesOn (strP p) (strP q) ↔ ∃ c, q = p ++ [c] := by
  unfold goesOn
  rw [strP_size, strP_size]
  constructor
  · rintro ⟨h1, h2⟩
    have h3 : LL ((strP q).extract 0 p.length) = p := by rw [h2, LL_strP]
    rw [LL_extract, List.drop_zero, LL_strP] at h3
    have h4 : (q.drop p.length).length = 1 := by rw [List.length_drop]; omega
    obtain ⟨c, hc⟩ := List.length_eq_one_iff.1 h4
    refine ⟨c, ?_⟩
    rw [← hc]
    have := List.take_append_drop p.length q
    rw [h3] at this
    exact this.symm
  · rintro ⟨c, rfl⟩
    refine ⟨by simp, LL_inj ?_⟩
    rw [LL_extract, List.drop_zero, LL_strP, LL_strP]
    simp
theorem rbF_kids (p : List UInt8) (k : Nat) (n : NodeD) (hp : n.path = p) : ∀ gs : List (Nat × Nat × Nat), (∀ g ∈ gs, g.1 < 256) → rbF (strP p) ((gs.map (mkN k n)).map fun m => strP m.path) = gs.map fun g => (g.1 : Int)
  | [], _ => rfl
  | g :: gs, h => by
    have hg := h g List.mem_cons_self
    simp only [List.map_cons, rbF]
    have e : (mkN k n g).path = p ++ [UInt8.ofNat g.1] := by rw [← hp]; rfl
    rw [e, if_pos (goesOn_path.2 ⟨_, rfl⟩), rbF_kids p k n hp gs (fun x hx => h x (List.mem_cons_of_mem _ hx))]
    congr 1
    rw [bt_eq, LL_strP, strP_size, Int.toNat_natCast, List.getD_eq_getElem?_getD, List.getElem?_append_right (Nat.le_refl _), Nat.sub_self]
    show ((UInt8.ofNat g.1).toNat : Int) = _
    rw [UInt8.toNat_ofNat']
    omega
theorem rbF_is (hs : srt w) (h : (trN w)[i]? = some n) : rbF (strP n.path) (paths w) = byL w n := by
  obtain ⟨h1, r, hr⟩ := node_at hs h
  have hlk : (kids w i n).length = (n.gr w).length := by unfold kids; rw [List.length_map]
  have key : ∀ j m, (trN w)[j]? = some m → goesOn (strP n.path) (strP m.path) → firstOf w i ≤ j ∧ j < firstOf w i + (n.gr w).length := fun j m hj hg => by
    obtain ⟨c, hc⟩ := goesOn_path.1 hg
    rcases path_is hs hj with h2 | ⟨t, ht, hp⟩
    · rw [h2] at hc
      simp at hc
    · rw [hc] at hp
      obtain ⟨o, g, ho, hd, hg2, hk⟩ := kid_find hs h ht hp
      have : j = firstOf w i + o := path_inj hs hj hk (by
        rw [hc]
        show _ = n.path ++ [UInt8.ofNat g.1]
        rw [hg2, UInt8.ofNat_toNat])
      omega
  have e : paths w = (nodesAt w i).map (fun m => strP m.path) ++ ((kids w i n).map (fun m => strP m.path) ++ r.map fun m => strP m.path) := by
    unfold paths
    rw [hr, List.map_append, List.map_append]
  rw [e, rbF_append, rbF_append, rbF_none _ ((nodesAt w i).map _) ?_, rbF_none _ (r.map _) ?_, List.nil_append, List.append_nil]
  · exact rbF_kids n.path i n rfl (n.gr w) (fun g hg => (kid_path hs h hg).1)
  · intro s hsm hg
    obtain ⟨m, hm, rfl⟩ := List.mem_map.1 hsm
    obtain ⟨j, hj, he⟩ := List.mem_iff_getElem.1 hm
    have := key ((nodesAt w i).length + (kids w i n).length + j) m (by
      rw [hr, List.getElem?_append_right (by omega), List.getElem?_append_right (by omega), show (nodesAt w i).length + (kids w i n).length + j - (nodesAt w i).length - (kids w i n).length = j by omega, List.getElem?_eq_getElem hj, he]) hg
    unfold firstOf at this
    omega
  · intro s hsm hg
    obtain ⟨m, hm, rfl⟩ := List.mem_map.1 hsm
    obtain ⟨j, hj, he⟩ := List.mem_iff_getElem.1 hm
    have := key j m (by rw [hr, List.getElem?_append_left hj, List.getElem?_eq_getElem hj, he]) hg
    unfold firstOf at this
    omega
theorem rbytes16_ev (l : List ByteArray) (hl : l.length ≤ 8796093022208) (hz : ∀ s ∈ l, s.size ≤ 65535) (i : Nat) (hi : i < l.length) : Ev (fun k => juratref16_Bytes.f k l (i : Int)) (strOfNums (rbF (l.getD i ByteArray.empty) l)) := by
  obtain ⟨p, hp⟩ : ∃ p, l.getD i ByteArray.empty = p := ⟨_, rfl⟩
  have hpz := hz _ (getD_mem l i ByteArray.empty hi)
  rw [hp] at hpz ⊢
  have ep : rdOf ByteArray.empty l (i : Int) = p := hp
  have key : ∀ (d j : Nat) (acc : List Int), j + d = l.length → acc.length ≤ j → Ev (fun k => juratref16_Bytes.l0 k l (i : Int) acc (j : Int)) (strOfNums (acc ++ rbF p (l.drop j))) := by
    intro d
    induction d with
    | zero =>
      intro j acc hj ha
      refine Ev.ret fun k => ?_
      simp only [juratref16_Bytes.l0]
      rw [if_neg (by omega), List.drop_of_length_le (by omega)]
      simp [rbF]
    | succ d ih =>
      intro j acc hj ha
      have e : rdOf ByteArray.empty l (j : Int) = l.getD j ByteArray.empty := rfl
      have hsz := hz _ (getD_mem l j ByteArray.empty (by omega))
      rw [getD_drop l j ByteArray.empty (by omega)]
      generalize l.getD j ByteArray.empty = s at e hsz
      simp only [rbF]
      by_cases hg : goesOn p s
      · rw [if_pos hg]
        obtain ⟨g1, g2⟩ := hg
        have hx := ih (j + 1) (acc ++ [bt s (p.size : Int)]) (by omega) (by simp; omega)
        rw [List.append_assoc] at hx
        refine Ev.step (fun k => ?_) hx
        simp only [juratref16_Bytes.l0]
        rw [if_pos (by omega), if_pos (by omega), if_pos (by omega), if_pos (by omega), e, ep, wrap_id (x := (p.size : Int) + 1) (by omega) (by omega), if_pos (by omega), if_pos (by omega), if_pos (by omega), Int.toNat_natCast, if_pos (by rw [g2]), if_pos (by omega), if_pos (by omega), wrap_id (by omega) (by omega)]
        rfl
      · rw [if_neg hg]
        have hx := ih (j + 1) acc (by omega) (by omega)
        refine Ev.step (fun k => ?_) hx
        simp only [juratref16_Bytes.l0]
        rw [if_pos (by omega), if_pos (by omega), if_pos (by omega), if_pos (by omega), e, ep, wrap_id (x := (p.size : Int) + 1) (by omega) (by omega)]
        by_cases g1 : s.size = p.size + 1
        · rw [if_pos (by omega), if_pos (by omega), if_pos (by omega), Int.toNat_natCast, if_neg (fun q => hg ⟨g1, toList_iff.1 q⟩), wrap_id (by omega) (by omega)]
          rfl
        · rw [if_neg (by omega), wrap_id (by omega) (by omega)]
          rfl
  have := key l.length 0 [] (by omega) (Nat.zero_le _)
  rw [List.drop_zero, List.nil_append] at this
  exact this
/-- What pattern a path is. -/
theorem own_find (hs : srt w) (h : (trN w)[i]? = some n) : findB (strP n.path) w 0 = if n.own w = true then (n.lo : Int) else -1 := by
  obtain ⟨o1, o2⟩ := own_is hs h
  by_cases ho : n.own w = true
  · rw [if_pos ho]
    obtain ⟨h1, h2⟩ := o1 ho
    have hm : strP n.path ∈ w := by
      have : strP n.path = w.getD n.lo ByteArray.empty := LL_inj (by rw [LL_strP, h2])
      rw [this]
      exact getD_mem w n.lo ByteArray.empty h1
    obtain ⟨t, e1, e2, e3⟩ := findB_mem _ w 0 hm
    rw [Nat.zero_add] at e1
    have := (o2 t e2 (by rw [e3, LL_strP])).2
    rw [e1, this]
  · rw [if_neg ho]
    refine findB_none _ w 0 fun hm => ho ?_
    obtain ⟨t, e1, e2, e3⟩ := findB_mem _ w 0 hm
    exact (o2 t e2 (by rw [e3, LL_strP])).1
theorem paths_at (h : (trN w)[i]? = some n) : (paths w).getD i ByteArray.empty = strP n.path := by
  unfold paths
  rw [List.getD_eq_getElem?_getD, List.getElem?_map, h]
  rfl
theorem strP_snoc (p : List UInt8) (c : UInt8) : strP (p ++ [c]) = strP p ++ ⟨#[c]⟩ := LL_inj (by rw [LL_strP, LL_append, LL_strP])
end

end Go.Proofs.Ytnpkbnfiadkgnaa.Base
