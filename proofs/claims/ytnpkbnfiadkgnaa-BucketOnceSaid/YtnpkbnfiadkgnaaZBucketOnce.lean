/- Proved here: the row of the law BucketOnce, with texts that lead to it, merged by a program of this session (wip/merge.py), part 1 of 1; no condition beyond the statement's own. -/
import Derived.Test.YtnpkbnfiadkgnaaPx0
import Derived.Test.YtnpkbnfiadkgnaaN09
import Derived.Test.YtnpkbnfiadkgnaaP10
import Derived.Test.YtnpkbnfiadkgnaaPx13
import Derived.Test.YtnpkbnfiadkgnaaH10
import Derived.Test.YtnpkbnfiadkgnaaH10b
import Derived.Test.YtnpkbnfiadkgnaaBase
import Derived.Test.YtnpkbnfiadkgnaaWLast
import Derived.Laws.BitsLemmas
import Derived.Test.YtnpkbnfiadkgnaaH12
import Derived.Test.YtnpkbnfiadkgnaaF12
import Derived.Test.YtnpkbnfiadkgnaaPx17
import Derived.Test.YtnpkbnfiadkgnaaPx19
import Derived.Test.YtnpkbnfiadkgnaaPx21
import Derived.Test.YtnpkbnfiadkgnaaPx15
import Derived.Test.YtnpkbnfiadkgnaaPx11
import Derived.Sort.QuietIn
import Derived.Sort.LoopGhostIn
import Derived.SizedLaws
import Derived.SliceStrings
import Derived.Test.YtnpkbnfiadkgnaaWWords
import Derived.Test.YtnpkbnfiadkgnaaWSized
import Derived.Test.YtnpkbnfiadkgnaaRows
import Derived.WalkKit
import Derived.ProofKit
import Derived.OpenShut
import Derived.ShutString
import Derived.ChangeOld
import Derived.Below
import Derived.Carry
/- Proved here: what Go functions of this seat compute, or a law of it; no condition beyond the statement's own. Written for this claim by a program of this session (wip/myprint.py) over the kit's print.py. -/
namespace Go.Proofs.Ytnpkbnfiadkgnaa.P
open Go.RowKit Go.Proofs.YtnpkbnfiadkgnaaW.PrintWords Go.Proofs.YtnpkbnfiadkgnaaW.PrintLast Go.Proofs.YtnpkbnfiadkgnaaW.PrintMore
attribute [local go_sem] max2_int min2_int max_two min_two max_three min_three max_four min_four   -- for this text's walks alone
set_option linter.unusedVariables false
set_option linter.unusedSimpArgs false

/-! ### juratref10_Least: function 60 -/
def juratref10_Least.l0 : Nat → List ByteArray → Int → Int → Option (Int)
  | 0, _, _, _ => none
  | k + 1, x0, x3, x4 => if x4 < (x0.length : Int) then (if x4 = 0 then (if 0 ≤ x4 then (juratref10_Least.l0 k x0 ((rdOf ByteArray.empty x0 x4).size : Int) (wrap64 (x4 + 1))) else (none)) else (if 0 ≤ x4 then (if ((rdOf ByteArray.empty x0 x4).size : Int) < x3 then (juratref10_Least.l0 k x0 ((rdOf ByteArray.empty x0 x4).size : Int) (wrap64 (x4 + 1))) else (juratref10_Least.l0 k x0 x3 (wrap64 (x4 + 1)))) else (none))) else (some x3)
def juratref10_Least.f (k : Nat) (l0 : List ByteArray) : Option (Int) := juratref10_Least.l0 k l0 0 0
theorem juratref10_Least.mono_l : ∀ k, (∀ y0 y1 y2, LeO (juratref10_Least.l0 k y0 y1 y2) (juratref10_Least.l0 (k + 1) y0 y1 y2))
  | 0 => fun _ _ _ r h => by simp [juratref10_Least.l0] at h
  | k + 1 => by
    have ih0 := juratref10_Least.mono_l k
    · intro y0 y1 y2
      unfold juratref10_Least.l0
      repeat' first
      | (with_reducible exact ih0 _ _ _)
      | (with_reducible exact LeO.refl _)
      | (with_reducible exact LeO.none _)
      | (with_reducible refine LeO.ite ?_ ?_)
      | (with_reducible refine LeO.bind ?_ (fun _ => ?_))
      | exact ih0 _ _ _
      | exact LeO.none _
      | refine LeO.ite ?_ ?_
      | refine LeO.bind ?_ (fun _ => ?_)
theorem juratref10_Least.mono : ∀ a0 k, LeO (juratref10_Least.f k a0) (juratref10_Least.f (k + 1) a0) := by
  intro a0 k
  have ih0 := juratref10_Least.mono_l k
  unfold juratref10_Least.f
  repeat' first
      | (with_reducible exact ih0 _ _ _)
      | (with_reducible exact LeO.refl _)
      | (with_reducible exact LeO.none _)
      | (with_reducible refine LeO.ite ?_ ?_)
      | (with_reducible refine LeO.bind ?_ (fun _ => ?_))
      | exact ih0 _ _ _
      | exact LeO.none _
      | refine LeO.ite ?_ ?_
      | refine LeO.bind ?_ (fun _ => ?_)
set_option maxHeartbeats 8000000 in
set_option maxRecDepth 100000 in
theorem juratref10_Least.calls (k : Nat) (A0 : Option Addr) (c0 : Nat) (l0 : List ByteArray) (r : Int) (w : World) (hr0 : Kd.C Kd.string w A0 l0.length l0) (hc0 : l0.length ≤ c0) (h : juratref10_Least.f k l0 = some r) :
    Calls Try.prog 60 #[.slice A0 l0.length c0] w fun e w' => e = .returned (.int .i64 r) ∧ Drawn0 w w' := by
  have HR0 := Aside0.mk hr0
  have HC0 := Aside0.mk hc0
  clear hr0 hc0
  have H : (juratref10_Least.l0 k l0 0 0) = some r := h
  clear h
  have H' := Aside0.mk H
  clear H
  go_enter Try.func60, Try.ntmps60
  go_wp2
  go_loopg [3, 4] k (fun kq v3 v4 w' => ∃ (x3_1 : Int) (x4_1 : Int), v3 = .int .i64 x3_1 ∧ v4 = .int .i64 x4_1 ∧ Aside0 (juratref10_Least.l0 kq l0 x3_1 x4_1 = some r) ∧ Aside0 (kq ≤ k) ∧ Drawn0 w w')
  case atStart => exact ⟨(0), (0), (by first | rfl | exact isE_ _ | exact isE2_ _ | (simp; done) | (simp [*]; done)), (by first | rfl | exact isE_ _ | exact isE2_ _ | (simp; done) | (simp [*]; done)), H', ⟨Nat.le_refl _⟩, by repeat (first | exact Drawn0.refl _ | apply Drawn0.step)⟩
  case round =>
    clear H'
    obtain ⟨x3_1, x4_1, rfl, rfl, HA, HK1, ⟨m1, rfl⟩⟩ := hrel
    cases gk with
    | zero => exact absurd HA.out (by simp [juratref10_Least.l0])
    | succ k1 =>
      have H := HA.out
      clear HA
      simp only [juratref10_Least.l0] at H
      by_cases c2 : x4_1 < (l0.length : Int)
      · rw [if_pos c2] at H
        have c2b0 : decide (x4_1 < (l0.length : Int)) = true := decide_eq_true c2
        clear c2
        by_cases c3 : x4_1 = 0
        · rw [if_pos c3] at H
          have c3b0 : (x4_1 == 0) = true := beq_iff_eq.mpr c3
          have c3b1 : (x4_1 != 0) = false := bne_eq_false_iff_eq.mpr c3
          clear c3
          by_cases c4 : 0 ≤ x4_1
          · rw [if_pos c4] at H
            have c4b0 : decide (0 ≤ x4_1) = true := decide_eq_true c4
            clear c4
            have H' := Aside0.mk H
            clear H
            have p242 : 0 ≤ (x4_1 : Int) := of_decide_eq_true (by first | (with_reducible assumption) | assumption)
            have q242 : x4_1 < (l0.length : Int) := of_decide_eq_true (by first | (with_reducible assumption) | assumption)
            obtain ⟨ad242, e242, hx242_0⟩ := Kd.at_string HR0.out x4_1 p242 q242
            cases e242
            replace p242 := eq_true p242
            replace q242 := eq_true q242
            go_wp2
            go_roundg k1
            case measure => have := HK1.out; omega
            case rel => exact ⟨(((rdOf ByteArray.empty l0 x4_1).size : Int)), (wrap64 (x4_1 + 1)), (by first | rfl | exact isE_ _ | exact isE2_ _ | (simp; done) | (simp [*]; done)), (by first | rfl | exact isE_ _ | exact isE2_ _ | (simp; done) | (simp [*]; done)), H', ⟨by have := HK1.out; omega⟩, by repeat (first | exact Drawn0.refl _ | apply Drawn0.step)⟩
          · rw [if_neg c4] at H
            exact absurd H (by simp)
        · rw [if_neg c3] at H
          have c3b0 : (x4_1 == 0) = false := beq_eq_false_iff_ne.mpr c3
          have c3b1 : (x4_1 != 0) = true := bne_iff_ne.mpr c3
          by_cases c5 : 0 ≤ x4_1
          · rw [if_pos c5] at H
            have c5b0 : decide (0 ≤ x4_1) = true := decide_eq_true c5
            clear c5
            by_cases c6 : ((rdOf ByteArray.empty l0 x4_1).size : Int) < x3_1
            · rw [if_pos c6] at H
              have c6b0 : decide (((rdOf ByteArray.empty l0 x4_1).size : Int) < x3_1) = true := decide_eq_true c6
              clear c6
              have H' := Aside0.mk H
              clear H
              have p243 : 0 ≤ (x4_1 : Int) := of_decide_eq_true (by first | (with_reducible assumption) | assumption)
              have q243 : x4_1 < (l0.length : Int) := of_decide_eq_true (by first | (with_reducible assumption) | assumption)
              obtain ⟨ad243, e243, hx243_0⟩ := Kd.at_string HR0.out x4_1 p243 q243
              cases e243
              replace p243 := eq_true p243
              replace q243 := eq_true q243
              have p244 : 0 ≤ (x4_1 : Int) := of_decide_eq_true (by first | (with_reducible assumption) | assumption)
              have q244 : x4_1 < (l0.length : Int) := of_decide_eq_true (by first | (with_reducible assumption) | assumption)
              obtain ⟨ad244, e244, hx244_0⟩ := Kd.at_string HR0.out x4_1 p244 q244
              obtain rfl : ad243 = ad244 := (by injection e244)
              replace p244 := eq_true p244
              replace q244 := eq_true q244
              go_wp2
              go_roundg k1
              case measure => have := HK1.out; omega
              case rel => exact ⟨(((rdOf ByteArray.empty l0 x4_1).size : Int)), (wrap64 (x4_1 + 1)), (by first | rfl | exact isE_ _ | exact isE2_ _ | (simp; done) | (simp [*]; done)), (by first | rfl | exact isE_ _ | exact isE2_ _ | (simp; done) | (simp [*]; done)), H', ⟨by have := HK1.out; omega⟩, by repeat (first | exact Drawn0.refl _ | apply Drawn0.step)⟩
            · rw [if_neg c6] at H
              have c6b0 : decide (((rdOf ByteArray.empty l0 x4_1).size : Int) < x3_1) = false := decide_eq_false c6
              clear c6
              have H' := Aside0.mk H
              clear H
              have p243 : 0 ≤ (x4_1 : Int) := of_decide_eq_true (by first | (with_reducible assumption) | assumption)
              have q243 : x4_1 < (l0.length : Int) := of_decide_eq_true (by first | (with_reducible assumption) | assumption)
              obtain ⟨ad243, e243, hx243_0⟩ := Kd.at_string HR0.out x4_1 p243 q243
              cases e243
              replace p243 := eq_true p243
              replace q243 := eq_true q243
              go_wp2
              go_roundg k1
              case measure => have := HK1.out; omega
              case rel => exact ⟨(x3_1), (wrap64 (x4_1 + 1)), (by first | rfl | exact isE_ _ | exact isE2_ _ | (simp; done) | (simp [*]; done)), (by first | rfl | exact isE_ _ | exact isE2_ _ | (simp; done) | (simp [*]; done)), H', ⟨by have := HK1.out; omega⟩, by repeat (first | exact Drawn0.refl _ | apply Drawn0.step)⟩
          · rw [if_neg c5] at H
            exact absurd H (by simp)
      · rw [if_neg c2] at H
        have c2b0 : decide (x4_1 < (l0.length : Int)) = false := decide_eq_false c2
        clear c2
        obtain rfl := Option.some.inj H
        go_wp2
        go_ret
        exact ⟨by first | rfl | (simp; done) | (simp [*]; done), by repeat (first | exact Drawn0.refl _ | apply Drawn0.step)⟩

end Go.Proofs.Ytnpkbnfiadkgnaa.P

/- What layer 10's reference makes of texts, as plain functions; no condition beyond the sizes that stand in each statement. -/
namespace Go.Proofs.Ytnpkbnfiadkgnaa.Base
open Go Go.RowKit Go.Proofs.YtnpkbnfiadkgnaaW.PrintWords Go.Proofs.YtnpkbnfiadkgnaaW.PrintMore Go.Proofs.Ytnpkbnfiadkgnaa.P
set_option linter.unusedVariables false

/-- The patterns in order, or the error. -/
def newB (l : List ByteArray) : List ByteArray × Int :=
  if l.length = 0 then ([], 14) else if l.length > 65535 then ([], 6) else if badB l ≠ 0 then ([], badB l) else if totalB 0 l > 16777216 then ([], 13) else if twB [] l 0 ≥ 0 then ([], 8) else (sortB l, 0)
theorem rnew_l0 (l : List ByteArray) (hl : l.length ≤ 65535) : ∀ (d i n : Nat), i + d = l.length → n ≤ i * 65535 →
    Ev (fun k => juratref10_New.l0 k l (n : Int) (i : Int)) (if badB (l.drop i) ≠ 0 then ([], badB (l.drop i)) else if totalB n (l.drop i) > 16777216 then ([], 13) else if twB [] l 0 ≥ 0 then ([], 8) else (sortB l, 0)) := by
  intro d
  induction d with
  | zero =>
    intro i n hi hn
    rw [List.drop_of_length_le (by omega), if_neg (by simp [badB])]
    have hn' : totalB n [] = n := rfl
    rw [hn']
    by_cases h1 : n > 16777216
    · rw [if_pos h1]
      refine Ev.ret fun k => ?_
      simp only [juratref10_New.l0]
      rw [if_neg (by omega), if_pos (by omega)]
    · rw [if_neg h1]
      refine Ev.step (f := fun k => (juratref09_Twice.f k l).bind fun t => if t ≥ 0 then some ([], 8) else (juratref09_Sorted.f k l).bind fun s => some (s, 0)) (fun k => ?_) ?_
      · simp only [juratref10_New.l0]
        rw [if_neg (by omega), if_neg (by omega)]
      refine Ev.bind (rtwice_ev l (by omega)) ?_
      by_cases h2 : twB [] l 0 ≥ 0
      · rw [if_pos h2]
        exact Ev.congr (fun k => if_pos h2) (Ev.now _)
      · rw [if_neg h2]
        exact Ev.congr (fun k => if_neg h2) (Ev.bind (rsorted_ev l (by omega)) (Ev.now _))
  | succ d ih =>
    intro i n hi hn
    have hd := getD_drop l i ByteArray.empty (by omega)
    have e : rdOf ByteArray.empty l (i : Int) = l.getD i ByteArray.empty := rfl
    rw [hd]
    generalize l.getD i ByteArray.empty = s at e
    by_cases h0 : s.size = 0
    · have hc : chkB s = 7 := by unfold chkB; rw [if_pos h0]
      have hb : badB (s :: l.drop (i + 1)) = chkB s := by show (if chkB s = 0 then _ else chkB s) = chkB s; rw [if_neg (by omega)]
      rw [hb, hc, if_pos (by omega)]
      refine Ev.ret fun k => ?_
      simp only [juratref10_New.l0]
      rw [if_pos (by omega), if_pos (by omega), e, if_pos (toList_nil.2 h0)]
    by_cases h1 : s.size > 65535
    · have hc : chkB s = 5 := by unfold chkB; rw [if_neg h0, if_pos h1]
      have hb : badB (s :: l.drop (i + 1)) = chkB s := by show (if chkB s = 0 then _ else chkB s) = chkB s; rw [if_neg (by omega)]
      rw [hb, hc, if_pos (by omega)]
      refine Ev.ret fun k => ?_
      simp only [juratref10_New.l0]
      rw [if_pos (by omega), if_pos (by omega), e, if_neg (fun x => h0 (toList_nil.1 x)), if_pos (by omega)]
    have hc : chkB s = 0 := by unfold chkB; rw [if_neg h0, if_neg h1]
    have hb : badB (s :: l.drop (i + 1)) = badB (l.drop (i + 1)) := if_pos hc
    rw [hb]
    have ht : totalB n (s :: l.drop (i + 1)) = totalB (n + s.size) (l.drop (i + 1)) := rfl
    rw [ht]
    refine Ev.step (f := fun k => juratref10_New.l0 k l ((n + s.size : Nat) : Int) ((i + 1 : Nat) : Int)) (fun k => ?_) (ih (i + 1) (n + s.size) (by omega) (by omega))
    simp only [juratref10_New.l0]
    rw [if_pos (by omega), if_pos (by omega), e, if_neg (fun x => h0 (toList_nil.1 x)), if_neg (by omega), wrap_id (by omega) (by omega), wrap_id (by omega) (by omega)]
    rfl
theorem rnew_ev (l : List ByteArray) : Ev (fun k => juratref10_New.f k l) (newB l) := by
  unfold newB
  by_cases h0 : l.length = 0
  · rw [if_pos h0]
    refine Ev.const fun k => ?_
    unfold juratref10_New.f
    rw [if_pos (by omega)]
  rw [if_neg h0]
  by_cases h1 : l.length > 65535
  · rw [if_pos h1]
    refine Ev.const fun k => ?_
    unfold juratref10_New.f
    rw [if_neg (by omega), if_pos (by omega)]
  rw [if_neg h1]
  have h := rnew_l0 l (by omega) l.length 0 0 (by omega) (by omega)
  rw [List.drop_zero] at h
  refine Ev.congr (fun k => ?_) h
  unfold juratref10_New.f
  rw [if_neg (by omega), if_neg (by omega)]
  rfl

/-- What the document tells of a list. -/
def minB (l : List ByteArray) : Nat := leastB (l.getD 0 ByteArray.empty).size l
theorem rleast_l0 (l : List ByteArray) (hl : l.length ≤ 9223372036854775806) : ∀ (d i n : Nat), i + d = l.length → 0 < i →
    Ev (fun k => juratref10_Least.l0 k l (n : Int) (i : Int)) (leastB n (l.drop i) : Int) := by
  intro d
  induction d with
  | zero =>
    intro i n hi h0
    rw [List.drop_of_length_le (by omega)]
    refine Ev.ret fun k => ?_
    simp only [juratref10_Least.l0]
    rw [if_neg (by omega)]
    rfl
  | succ d ih =>
    intro i n hi h0
    have hd := getD_drop l i ByteArray.empty (by omega)
    have e : rdOf ByteArray.empty l (i : Int) = l.getD i ByteArray.empty := rfl
    rw [hd]
    have ht : leastB n (l.getD i ByteArray.empty :: l.drop (i + 1)) = leastB (min n (l.getD i ByteArray.empty).size) (l.drop (i + 1)) := rfl
    rw [ht]
    refine Ev.step (f := fun k => juratref10_Least.l0 k l ((min n (l.getD i ByteArray.empty).size : Nat) : Int) ((i + 1 : Nat) : Int)) (fun k => ?_) (ih (i + 1) _ (by omega) (by omega))
    simp only [juratref10_Least.l0]
    rw [if_pos (by omega), if_neg (by omega), if_pos (by omega), e]
    by_cases h : (l.getD i ByteArray.empty).size < n
    · rw [if_pos (by omega), wrap_id (by omega) (by omega), Nat.min_eq_right (by omega)]; rfl
    · rw [if_neg (by omega), wrap_id (by omega) (by omega), Nat.min_eq_left (by omega)]; rfl
theorem rleast_ev (l : List ByteArray) (hl : l.length ≤ 9223372036854775806) : Ev (fun k => juratref10_Least.f k l) (minB l : Int) := by
  cases l with
  | nil => exact Ev.ret fun k => by simp [juratref10_Least.f, juratref10_Least.l0, minB, leastB, List.getD]
  | cons s l =>
    have h := rleast_l0 (s :: l) hl l.length 1 s.size (by rw [List.length_cons]; omega) (by omega)
    have e : minB (s :: l) = leastB s.size ((s :: l).drop 1) := by
      show leastB (min s.size s.size) l = leastB s.size l
      rw [Nat.min_self]
    rw [e]
    refine Ev.step (f := fun k => juratref10_Least.l0 k (s :: l) (s.size : Int) ((1 : Nat) : Int)) (fun k => ?_) h
    unfold juratref10_Least.f
    simp only [juratref10_Least.l0]
    rw [if_pos (by rw [List.length_cons]; omega), if_pos trivial, if_pos (by omega), wrap_id (by omega) (by omega)]
    rfl

end Go.Proofs.Ytnpkbnfiadkgnaa.Base

/- Proved here: what Go functions of this seat compute, or a law of it; no condition beyond the statement's own. Written for this claim by a program of this session (wip/myprint.py) over the kit's print.py. -/
namespace Go.Proofs.Ytnpkbnfiadkgnaa.P
open Go.RowKit Go.Proofs.YtnpkbnfiadkgnaaW.PrintWords Go.Proofs.YtnpkbnfiadkgnaaW.PrintLast Go.Proofs.YtnpkbnfiadkgnaaW.PrintMore
attribute [local go_sem] max2_int min2_int max_two min_two max_three min_three max_four min_four   -- for this text's walks alone
set_option linter.unusedVariables false
set_option linter.unusedSimpArgs false

/-! ### juratref10_Find: function 47 -/
def juratref10_Find.l0 : Nat → List ByteArray → ByteArray → Int → Option (Int)
  | 0, _, _, _ => none
  | k + 1, x0, x1, x5 => if x5 < (x0.length : Int) then (if 0 ≤ x5 then (if (rdOf ByteArray.empty x0 x5).toList = x1.toList then (some x5) else (juratref10_Find.l0 k x0 x1 (wrap64 (x5 + 1)))) else (none)) else (some (-1))
def juratref10_Find.f (k : Nat) (l0 : List ByteArray) (a1 : ByteArray) : Option (Int) := juratref10_Find.l0 k l0 a1 0
theorem juratref10_Find.mono_l : ∀ k, (∀ y0 y1 y2, LeO (juratref10_Find.l0 k y0 y1 y2) (juratref10_Find.l0 (k + 1) y0 y1 y2))
  | 0 => fun _ _ _ r h => by simp [juratref10_Find.l0] at h
  | k + 1 => by
    have ih0 := juratref10_Find.mono_l k
    · intro y0 y1 y2
      unfold juratref10_Find.l0
      repeat' first
      | (with_reducible exact ih0 _ _ _)
      | (with_reducible exact LeO.refl _)
      | (with_reducible exact LeO.none _)
      | (with_reducible refine LeO.ite ?_ ?_)
      | (with_reducible refine LeO.bind ?_ (fun _ => ?_))
      | exact ih0 _ _ _
      | exact LeO.none _
      | refine LeO.ite ?_ ?_
      | refine LeO.bind ?_ (fun _ => ?_)
theorem juratref10_Find.mono : ∀ a0 a1 k, LeO (juratref10_Find.f k a0 a1) (juratref10_Find.f (k + 1) a0 a1) := by
  intro a0 a1 k
  have ih0 := juratref10_Find.mono_l k
  unfold juratref10_Find.f
  repeat' first
      | (with_reducible exact ih0 _ _ _)
      | (with_reducible exact LeO.refl _)
      | (with_reducible exact LeO.none _)
      | (with_reducible refine LeO.ite ?_ ?_)
      | (with_reducible refine LeO.bind ?_ (fun _ => ?_))
      | exact ih0 _ _ _
      | exact LeO.none _
      | refine LeO.ite ?_ ?_
      | refine LeO.bind ?_ (fun _ => ?_)
set_option maxHeartbeats 8000000 in
set_option maxRecDepth 100000 in
theorem juratref10_Find.calls (k : Nat) (A0 : Option Addr) (c0 : Nat) (l0 : List ByteArray) (a1 : ByteArray) (r : Int) (w : World) (hr0 : Kd.C Kd.string w A0 l0.length l0) (hc0 : l0.length ≤ c0) (h : juratref10_Find.f k l0 a1 = some r) :
    Calls Try.prog 47 #[.slice A0 l0.length c0, .string a1] w fun e w' => e = .returned (.int .i64 r) ∧ Drawn0 w w' := by
  have HR0 := Aside0.mk hr0
  have HC0 := Aside0.mk hc0
  clear hr0 hc0
  have H : (juratref10_Find.l0 k l0 a1 0) = some r := h
  clear h
  have H' := Aside0.mk H
  clear H
  go_enter Try.func47, Try.ntmps47
  go_wp2
  go_loopg [5] k (fun kq v5 w' => ∃ (x5_1 : Int), v5 = .int .i64 x5_1 ∧ Aside0 (juratref10_Find.l0 kq l0 a1 x5_1 = some r) ∧ Aside0 (kq ≤ k) ∧ Drawn0 w w')
  case atStart => exact ⟨(0), (by first | rfl | exact isE_ _ | exact isE2_ _ | (simp; done) | (simp [*]; done)), H', ⟨Nat.le_refl _⟩, by repeat (first | exact Drawn0.refl _ | apply Drawn0.step)⟩
  case round =>
    clear H'
    try clear p2
    obtain ⟨x5_1, rfl, HA, HK1, ⟨m1, rfl⟩⟩ := hrel
    cases gk with
    | zero => exact absurd HA.out (by simp [juratref10_Find.l0])
    | succ k1 =>
      have H := HA.out
      clear HA
      simp only [juratref10_Find.l0] at H
      by_cases c3 : x5_1 < (l0.length : Int)
      · rw [if_pos c3] at H
        have c3b0 : decide (x5_1 < (l0.length : Int)) = true := decide_eq_true c3
        clear c3
        by_cases c4 : 0 ≤ x5_1
        · rw [if_pos c4] at H
          have c4b0 : decide (0 ≤ x5_1) = true := decide_eq_true c4
          clear c4
          by_cases c5 : (rdOf ByteArray.empty l0 x5_1).toList = a1.toList
          · rw [if_pos c5] at H
            have c5b0 : ((rdOf ByteArray.empty l0 x5_1).toList == a1.toList) = true := beq_iff_eq.mpr c5
            have c5b1 : ((rdOf ByteArray.empty l0 x5_1).toList != a1.toList) = false := bne_eq_false_iff_eq.mpr c5
            clear c5
            obtain rfl := Option.some.inj H
            have p364 : 0 ≤ (x5_1 : Int) := of_decide_eq_true (by first | (with_reducible assumption) | assumption)
            have q364 : x5_1 < (l0.length : Int) := of_decide_eq_true (by first | (with_reducible assumption) | assumption)
            obtain ⟨ad364, e364, hx364_0⟩ := Kd.at_string HR0.out x5_1 p364 q364
            cases e364
            replace p364 := eq_true p364
            replace q364 := eq_true q364
            go_wp2
            go_ret
            exact ⟨by first | rfl | (simp; done) | (simp [*]; done), by repeat (first | exact Drawn0.refl _ | apply Drawn0.step)⟩
          · rw [if_neg c5] at H
            have c5b0 : ((rdOf ByteArray.empty l0 x5_1).toList == a1.toList) = false := beq_eq_false_iff_ne.mpr c5
            have c5b1 : ((rdOf ByteArray.empty l0 x5_1).toList != a1.toList) = true := bne_iff_ne.mpr c5
            have H' := Aside0.mk H
            clear H
            have p364 : 0 ≤ (x5_1 : Int) := of_decide_eq_true (by first | (with_reducible assumption) | assumption)
            have q364 : x5_1 < (l0.length : Int) := of_decide_eq_true (by first | (with_reducible assumption) | assumption)
            obtain ⟨ad364, e364, hx364_0⟩ := Kd.at_string HR0.out x5_1 p364 q364
            cases e364
            replace p364 := eq_true p364
            replace q364 := eq_true q364
            go_wp2
            go_roundg k1
            case measure => have := HK1.out; omega
            case rel => exact ⟨(wrap64 (x5_1 + 1)), (by first | rfl | exact isE_ _ | exact isE2_ _ | (simp; done) | (simp [*]; done)), H', ⟨by have := HK1.out; omega⟩, by repeat (first | exact Drawn0.refl _ | apply Drawn0.step)⟩
        · rw [if_neg c4] at H
          exact absurd H (by simp)
      · rw [if_neg c3] at H
        have c3b0 : decide (x5_1 < (l0.length : Int)) = false := decide_eq_false c3
        clear c3
        obtain rfl := Option.some.inj H
        go_wp2
        go_ret
        exact ⟨by first | rfl | (simp; done) | (simp [*]; done), by repeat (first | exact Drawn0.refl _ | apply Drawn0.step)⟩

end Go.Proofs.Ytnpkbnfiadkgnaa.P

/- What layer 10's reference computes, as plain functions on lists of texts, and that layer 10's set is it; no condition beyond the sizes that stand in each statement. -/
namespace Go.Proofs.Ytnpkbnfiadkgnaa.Base
open Go Go.RowKit Go.Proofs.YtnpkbnfiadkgnaaW.PrintWords Go.Proofs.YtnpkbnfiadkgnaaW.PrintMore Go.Proofs.Ytnpkbnfiadkgnaa.P
set_option linter.unusedVariables false

/-- Where a text stands first; -1: nowhere. -/
def findB (s : ByteArray) : List ByteArray → Nat → Int
  | [], _ => -1
  | x :: l, i => if x = s then (i : Int) else findB s l (i + 1)
theorem rfind_l0 (l : List ByteArray) (s : ByteArray) (hl : l.length ≤ 9223372036854775806) : ∀ (d i : Nat), i + d = l.length →
    Ev (fun k => juratref10_Find.l0 k l s (i : Int)) (findB s (l.drop i) i) := by
  intro d
  induction d with
  | zero =>
    intro i hi
    rw [List.drop_of_length_le (by omega)]
    refine Ev.ret fun k => ?_
    simp only [juratref10_Find.l0]
    rw [if_neg (by omega)]
    rfl
  | succ d ih =>
    intro i hi
    have hd := getD_drop l i ByteArray.empty (by omega)
    have e : rdOf ByteArray.empty l (i : Int) = l.getD i ByteArray.empty := rfl
    rw [hd]
    by_cases h : l.getD i ByteArray.empty = s
    · have hf : findB s (l.getD i ByteArray.empty :: l.drop (i + 1)) i = (i : Int) := if_pos h
      rw [hf]
      refine Ev.ret fun k => ?_
      simp only [juratref10_Find.l0]
      rw [if_pos (by omega), if_pos (by omega), e, if_pos (toList_iff.2 h)]
    · have hf : findB s (l.getD i ByteArray.empty :: l.drop (i + 1)) i = findB s (l.drop (i + 1)) (i + 1) := if_neg h
      rw [hf]
      refine Ev.step (f := fun k => juratref10_Find.l0 k l s ((i + 1 : Nat) : Int)) (fun k => ?_) (ih (i + 1) (by omega))
      simp only [juratref10_Find.l0]
      rw [if_pos (by omega), if_pos (by omega), e, if_neg (fun x => h (toList_iff.1 x)), wrap_id (by omega) (by omega)]
      rfl
theorem rfind10_ev (l : List ByteArray) (s : ByteArray) (hl : l.length ≤ 9223372036854775806) : Ev (fun k => juratref10_Find.f k l s) (findB s l 0) := by
  have h := rfind_l0 l s hl l.length 0 (by omega)
  rw [List.drop_zero] at h
  exact h

end Go.Proofs.Ytnpkbnfiadkgnaa.Base

/- What is told of a set of patterns, of the list in order and of the list as it came; layer 10's examples; no condition beyond the sizes that stand in each statement. -/
namespace Go.Proofs.Ytnpkbnfiadkgnaa.Base
open Go Go.RowKit Go.Proofs.YtnpkbnfiadkgnaaW.PrintWords Go.Proofs.YtnpkbnfiadkgnaaW.PrintMore Go.Proofs.Ytnpkbnfiadkgnaa.P
set_option linter.unusedVariables false

theorem findB_up (s : ByteArray) : ∀ (l : List ByteArray) (i : Nat), upB l → findB s l i = if inB s l = true then ((i + aheadB s l : Nat) : Int) else -1
  | [], i, _ => rfl
  | x :: l, i, h => by
    obtain ⟨h1, h2⟩ := List.pairwise_cons.1 h
    have ih := findB_up s l (i + 1) h2
    have ef : findB s (x :: l) i = if x = s then (i : Int) else findB s l (i + 1) := rfl
    rw [ef]
    by_cases hx : x = s
    · subst hx
      rw [if_pos rfl, if_pos (inB_iff.2 List.mem_cons_self), aheadB_none x (x :: l) (fun y hy => by
        rcases List.mem_cons.1 hy with rfl | hy
        · exact bl_irrefl _
        · exact h1 y hy)]
      rfl
    · rw [if_neg hx, inB_cons, decide_eq_false hx, Bool.false_or, ih]
      cases hb : Op.bytesLess (LL x) (LL s) with
      | true =>
        have e : aheadB s (x :: l) = aheadB s l + 1 := by unfold aheadB; rw [List.countP_cons_of_pos (by simpa using hb)]
        rw [e, show i + 1 + aheadB s l = i + (aheadB s l + 1) by omega]
      | false =>
        have hn : ¬ inB s l = true := fun hi => by
          rcases bl_tri (LL x) (LL s) with h' | h' | h'
          · exact hx (LL_inj h')
          · rw [hb] at h'; cases h'
          · rw [h1 s (inB_iff.1 hi)] at h'; cases h'
        rw [if_neg hn, if_neg hn]
theorem fold_perm {β : Type} (f : β → ByteArray → β) (hc : ∀ a x y, f (f a x) y = f (f a y) x) {l m : List ByteArray} (h : l.Perm m) : ∀ a, l.foldl f a = m.foldl f a := by
  induction h with
  | nil => intro a; rfl
  | cons x _ ih => intro a; exact ih _
  | swap x y l => intro a; simp only [List.foldl_cons]; rw [hc]
  | trans _ _ ih1 ih2 => intro a; rw [ih1, ih2]
theorem total_perm {l m : List ByteArray} (h : l.Perm m) : totalB 0 l = totalB 0 m := fold_perm _ (fun a x y => by omega) h 0
theorem most_perm {l m : List ByteArray} (h : l.Perm m) : mostB 0 l = mostB 0 m := fold_perm _ (fun a x y => by omega) h 0
theorem least_spec : ∀ (l : List ByteArray) (a : Nat), leastB a l ≤ a ∧ (∀ s ∈ l, leastB a l ≤ s.size) ∧ (leastB a l = a ∨ ∃ s ∈ l, leastB a l = s.size)
  | [], a => ⟨Nat.le_refl _, by simp, .inl rfl⟩
  | x :: l, a => by
    obtain ⟨h1, h2, h3⟩ := least_spec l (min a x.size)
    have e : leastB a (x :: l) = leastB (min a x.size) l := rfl
    rw [e]
    refine ⟨by omega, fun s hs => ?_, ?_⟩
    · rcases List.mem_cons.1 hs with rfl | hs
      · omega
      · exact h2 s hs
    · rcases h3 with h3 | ⟨s, hs, h3⟩
      · by_cases ha : a ≤ x.size
        · left; omega
        · right; exact ⟨x, List.mem_cons_self, by omega⟩
      · right; exact ⟨s, List.mem_cons_of_mem _ hs, h3⟩
theorem min_spec (l : List ByteArray) (h : 0 < l.length) : (∀ s ∈ l, minB l ≤ s.size) ∧ ∃ s ∈ l, minB l = s.size := by
  obtain ⟨h1, h2, h3⟩ := least_spec l (l.getD 0 ByteArray.empty).size
  refine ⟨h2, ?_⟩
  rcases h3 with h3 | h3
  · exact ⟨_, getD_mem l 0 ByteArray.empty h, h3⟩
  · exact h3
theorem min_perm {l m : List ByteArray} (h : l.Perm m) (h0 : 0 < l.length) : minB l = minB m := by
  obtain ⟨a1, s, hs, a2⟩ := min_spec l h0
  obtain ⟨b1, t, ht, b2⟩ := min_spec m (by rw [← h.length_eq]; exact h0)
  have := a1 t (h.mem_iff.2 ht)
  have := b1 s (h.mem_iff.1 hs)
  omega

/-- A set that is made of texts. -/
def setB (l : List ByteArray) : SetD := ⟨sortB l, (minB l : Nat), (mostB 0 l : Nat), (totalB 0 l : Nat)⟩
theorem new_cases (l : List ByteArray) :
    (∃ e, e ≠ 0 ∧ pats_New.f l = some (none, e) ∧ newB l = ([], e)) ∨
    (pats_New.f l = some (some (setB l), 0) ∧ newB l = (sortB l, 0) ∧ 0 < l.length ∧ l.length ≤ 65535 ∧ badB l = 0 ∧ totalB 0 l ≤ 16777216 ∧ twB [] l 0 < 0) := by
  unfold pats_New.f newB
  by_cases h0 : l.length = 0
  · exact .inl ⟨14, by decide, by rw [if_pos h0], by rw [if_pos h0]⟩
  by_cases h1 : l.length > 65535
  · exact .inl ⟨6, by decide, by rw [if_neg h0, if_pos h1], by rw [if_neg h0, if_pos h1]⟩
  by_cases h2 : badB l ≠ 0
  · exact .inl ⟨_, h2, by rw [if_neg h0, if_neg h1, if_pos h2], by rw [if_neg h0, if_neg h1, if_pos h2]⟩
  by_cases h3 : totalB 0 l > 16777216
  · exact .inl ⟨13, by decide, by rw [if_neg h0, if_neg h1, if_neg h2, if_pos h3], by rw [if_neg h0, if_neg h1, if_neg h2, if_pos h3]⟩
  by_cases h4 : twB [] l 0 ≥ 0
  · exact .inl ⟨8, by decide, by rw [if_neg h0, if_neg h1, if_neg h2, if_neg h3, if_pos h4], by rw [if_neg h0, if_neg h1, if_neg h2, if_neg h3, if_pos h4]⟩
  refine .inr ⟨by rw [if_neg h0, if_neg h1, if_neg h2, if_neg h3, if_neg h4]; rfl, by rw [if_neg h0, if_neg h1, if_neg h2, if_neg h3, if_neg h4], by omega, by omega, Classical.not_not.1 h2, by omega, by omega⟩


end Go.Proofs.Ytnpkbnfiadkgnaa.Base

/- A number under a mask; no condition beyond those in the statement. -/
namespace Go.Proofs.Ytnpkbnfiadkgnaa.Base
open Go Go.RowKit Go.Proofs.YtnpkbnfiadkgnaaW.PrintWords Go.Proofs.YtnpkbnfiadkgnaaW.PrintLast Go.Proofs.YtnpkbnfiadkgnaaW.PrintMore

theorem bits_and_mask (x : Int) (m : Nat) (hm : m < 9223372036854775808) : 0 ≤ Go.bits .and .i64 x (m : Int) ∧ Go.bits .and .i64 x (m : Int) ≤ m := by
  have h : Go.bits .and .i64 x (m : Int) = IntKind.i64.wrap (((BitVec.ofInt 64 x &&& BitVec.ofInt 64 (m : Int)).toNat : Int)) := rfl
  have h2 : (BitVec.ofInt 64 x &&& BitVec.ofInt 64 (m : Int)).toNat ≤ m := by
    rw [BitVec.toNat_and]
    refine Nat.le_trans Nat.and_le_right ?_
    rw [BitVec.toNat_ofInt]
    omega
  rw [h, i64_w, wrap_id (by omega) (by omega)]
  omega

end Go.Proofs.Ytnpkbnfiadkgnaa.Base

/- Sets of the same patterns are one, in whatever order these come; a pattern is found by its number; no condition beyond the sizes that stand in each statement. -/
namespace Go.Proofs.Ytnpkbnfiadkgnaa.Base
open Go Go.RowKit Go.Proofs.YtnpkbnfiadkgnaaW.PrintWords Go.Proofs.YtnpkbnfiadkgnaaW.PrintLast Go.Proofs.YtnpkbnfiadkgnaaW.PrintMore Go.Proofs.Ytnpkbnfiadkgnaa.P
set_option linter.unusedVariables false

theorem twB_iff : ∀ (l seen : List ByteArray) (i : Nat), twB seen l i < 0 ↔ (l.Nodup ∧ ∀ x ∈ l, ¬ inB x seen = true)
  | [], seen, i => by simp [twB]
  | x :: l, seen, i => by
    simp only [twB]
    by_cases h : inB x seen = true
    · rw [if_pos h]
      constructor
      · intro h'; omega
      · rintro ⟨_, h'⟩; exact absurd h (h' x List.mem_cons_self)
    · rw [if_neg h, twB_iff l (seen ++ [x]) (i + 1), List.nodup_cons]
      constructor
      · rintro ⟨h1, h2⟩
        refine ⟨⟨fun hx => ?_, h1⟩, fun y hy => ?_⟩
        · have := h2 x hx
          rw [inB_snoc] at this
          simp at this
        · rcases List.mem_cons.1 hy with rfl | hy
          · exact h
          · have := h2 y hy
            rw [inB_snoc] at this
            intro h3
            rw [h3] at this
            simp at this
      · rintro ⟨⟨h1, h2⟩, h3⟩
        refine ⟨h2, fun y hy => ?_⟩
        rw [inB_snoc]
        intro h4
        rcases Bool.or_eq_true_iff.1 h4 with h4 | h4
        · exact h3 y (List.mem_cons_of_mem _ hy) h4
        · exact h1 (by rw [of_decide_eq_true h4]; exact hy)
theorem nodup_of_tw {l : List ByteArray} (h : twB [] l 0 < 0) : l.Nodup := ((twB_iff l [] 0).1 h).1
theorem tw_of_nodup {l : List ByteArray} (h : l.Nodup) : twB [] l 0 < 0 := (twB_iff l [] 0).2 ⟨h, fun x _ => by simp [inB]⟩
theorem badB_iff : ∀ (l : List ByteArray), badB l = 0 ↔ ∀ s ∈ l, chkB s = 0
  | [] => by simp [badB]
  | s :: l => by
    simp only [badB]
    by_cases h : chkB s = 0
    · rw [if_pos h, badB_iff l]
      simp [h]
    · rw [if_neg h]
      simp [h]
theorem setB_perm {l m : List ByteArray} (h : l.Perm m) (h0 : 0 < l.length) : setB l = setB m := by
  have e : sortB l = sortB m := sortB_of ((sortB_perm l).trans h) (sortB_up l)
  unfold setB
  rw [e, min_perm h h0, most_perm h, total_perm h]
/-- Texts that make a set make it in any order. -/
theorem new_perm {l m : List ByteArray} (h : l.Perm m) (hp : 0 < l.length) (h1 : l.length ≤ 65535) (h2 : badB l = 0) (h3 : totalB 0 l ≤ 16777216) (h4 : twB [] l 0 < 0) :
    pats_New.f m = some (some (setB l), 0) := by
  have e := h.length_eq
  rcases new_cases m with ⟨c, hc, hn, hw⟩ | ⟨hn, _⟩
  · exfalso
    unfold pats_New.f at hn
    have b2 : badB m = 0 := (badB_iff m).2 fun s hs => (badB_iff l).1 h2 s (h.mem_iff.2 hs)
    have b4 := tw_of_nodup ((h.nodup_iff).1 (nodup_of_tw h4))
    rw [if_neg (by omega), if_neg (by omega), if_neg (by rw [b2]; simp), if_neg (by rw [← total_perm h]; omega), if_neg (by omega)] at hn
    have := (Prod.mk.inj (Option.some.inj hn)).1
    cases this
  · rw [hn, setB_perm h hp]
theorem findB_mem (s : ByteArray) : ∀ (l : List ByteArray) (i : Nat), s ∈ l → ∃ n, findB s l i = ((i + n : Nat) : Int) ∧ n < l.length ∧ l.getD n ByteArray.empty = s
  | [], i, h => by cases h
  | x :: l, i, h => by
    have ef : findB s (x :: l) i = if x = s then (i : Int) else findB s l (i + 1) := rfl
    rw [ef]
    by_cases hx : x = s
    · rw [if_pos hx]
      exact ⟨0, rfl, by simp, by simpa using hx⟩
    · rw [if_neg hx]
      rcases List.mem_cons.1 h with rfl | h
      · exact absurd rfl hx
      · obtain ⟨n, h1, h2, h3⟩ := findB_mem s l (i + 1) h
        exact ⟨n + 1, by rw [h1]; congr 1; omega, by rw [List.length_cons]; omega, by rw [List.getD_cons_succ]; exact h3⟩
theorem list_is (l : List ByteArray) (h : l.length ≤ 65535) : pats_Set_List.f (some (setB l)) = some (sortB l) := by
  show (if (sortB l).length ≤ 8796093022208 then some (sortB l) else none) = _
  rw [if_pos (by rw [sortB_length]; omega)]
end Go.Proofs.Ytnpkbnfiadkgnaa.Base

/- A set of texts and its list, made or not, told together; no condition beyond the sizes that stand in each statement. -/
namespace Go.Proofs.Ytnpkbnfiadkgnaa.Base
open Go Go.RowKit Go.Proofs.YtnpkbnfiadkgnaaW.PrintWords Go.Proofs.YtnpkbnfiadkgnaaW.PrintMore Go.Proofs.Ytnpkbnfiadkgnaa.P
set_option linter.unusedVariables false

/-- What is made of texts: a set or none, its list, why there is none. -/
structure SetOk (l : List ByteArray) (x : Option SetD) (w : List ByteArray) (e : Int) : Prop where
  hn : pats_New.f l = some (x, e)
  hw : newB l = (w, e)
  hL : setL x = w
  hM : setM x = minB w
  mem : ∀ s ∈ w, s ∈ l
  len : w.length ≤ l.length
  few : w.length ≤ 65535
  size : ∀ s ∈ w, s.size ≤ 65535
  up : upB w
  pos : ∀ s ∈ w, 0 < s.size
  nodup : w.Nodup
  kind : (e = 0 ∧ 0 < w.length ∧ x = some (setB l) ∧ w = sortB l ∧ w.length = l.length) ∨ (e ≠ 0 ∧ x = none ∧ w = [])
theorem chkB_pos {s : ByteArray} (h : chkB s = 0) : 0 < s.size ∧ s.size ≤ 65535 := by
  unfold chkB at h
  by_cases h1 : s.size = 0
  · rw [if_pos h1] at h; omega
  · rw [if_neg h1] at h
    by_cases h2 : s.size > 65535
    · rw [if_pos h2] at h; omega
    · omega
theorem set_ok (l : List ByteArray) : ∃ x w e, SetOk l x w e := by
  rcases new_cases l with ⟨e, he, hn, hw⟩ | ⟨hn, hw, hp, hl, hb, ht, hd⟩
  · exact ⟨none, [], e, hn, hw, rfl, rfl, by simp, by simp, by simp, by simp, List.Pairwise.nil, by simp, List.nodup_nil, .inr ⟨he, rfl, rfl⟩⟩
  · have hm := fun s => (sortB_perm l).mem_iff (a := s)
    have hlen := sortB_length l
    refine ⟨some (setB l), sortB l, 0, hn, hw, rfl, ?_, fun s hs => (hm s).1 hs, by omega, by omega, fun s hs => (chkB_pos ((badB_iff l).1 hb s ((hm s).1 hs))).2, sortB_up l, fun s hs => (chkB_pos ((badB_iff l).1 hb s ((hm s).1 hs))).1, ((sortB_perm l).nodup_iff).2 (nodup_of_tw hd), .inl ⟨rfl, by omega, rfl, rfl, by omega⟩⟩
    show ((minB l : Nat) : Int) = _
    rw [min_perm (sortB_perm l).symm hp]
theorem min_le {w : List ByteArray} : ∀ s ∈ w, minB w ≤ s.size := fun s hs => (min_spec w (List.length_pos_of_mem hs)).1 s hs
theorem list_ok {l w : List ByteArray} {x : Option SetD} {e : Int} (h : SetOk l x w e) : pats_Set_List.f x = some w := by
  rcases h.kind with ⟨_, _, rfl, rfl, _⟩ | ⟨_, rfl, rfl⟩
  · exact list_is l (by have := h.few; rw [sortB_length] at this; exact this)
  · rfl
theorem rnew_ok {l w : List ByteArray} {x : Option SetD} {e : Int} (h : SetOk l x w e) : Ev (fun k => juratref10_New.f k l) (w, e) := by
  have := rnew_ev l
  rw [h.hw] at this
  exact this

end Go.Proofs.Ytnpkbnfiadkgnaa.Base

/- What layer 12's reference tells of patterns, and that the buckets tell it; no condition beyond the sizes that stand in each statement. -/
namespace Go.Proofs.Ytnpkbnfiadkgnaa.Base
open Go Go.RowKit Go.Proofs.YtnpkbnfiadkgnaaW.PrintWords Go.Proofs.YtnpkbnfiadkgnaaW.PrintMore Go.Proofs.Ytnpkbnfiadkgnaa.P
set_option linter.unusedVariables false

theorem bt_last {s : ByteArray} (h : 0 < s.size) : bt s ((s.size : Int) - 1) = (lastN s : Int) := by
  rw [bt_eq]; unfold lastN; congr 3; omega
theorem rof_l0 (w : List ByteArray) (hl : w.length ≤ 65535) (hs : ∀ s ∈ w, 0 < s.size ∧ s.size ≤ 65535) (c : Nat) : ∀ (f i : Nat) (out : List Int), i + f = w.length → out.length ≤ i →
    Ev (fun k => juratref12_Of.l0 k w (c : Int) out (i : Int)) (out ++ bkFrom c (w.drop i) i) := by
  intro f
  induction f with
  | zero =>
    intro i out hi ho
    refine Ev.ret fun k => ?_
    simp only [juratref12_Of.l0]
    rw [if_neg (by omega), List.drop_of_length_le (by omega)]
    simp [bkFrom]
  | succ f ih =>
    intro i out hi ho
    have hd := getD_drop w i ByteArray.empty (by omega)
    obtain ⟨hz0, hz⟩ := hs _ (getD_mem w i ByteArray.empty (by omega))
    have e : rdOf ByteArray.empty w (i : Int) = w.getD i ByteArray.empty := rfl
    rw [hd]
    generalize w.getD i ByteArray.empty = s at e hz hz0
    have hb := bt_last hz0
    have hw : wrap64 ((s.size : Int) - 1) = (s.size : Int) - 1 := wrap_id (by omega) (by omega)
    simp only [bkFrom]
    by_cases hc : lastN s = c
    · rw [if_pos hc]
      have h := ih (i + 1) (out ++ [(i : Int)]) (by omega) (by simp; omega)
      rw [List.append_assoc] at h
      refine Ev.step (fun k => ?_) h
      simp only [juratref12_Of.l0]
      rw [if_pos (by omega), if_pos (by omega), e, if_neg (fun q => by have := toList_nil.1 q; omega), hw, if_pos (by omega), if_pos (by omega), hb, if_pos (by omega), if_pos (by omega), wrap_id (by omega) (by omega)]
      rfl
    · rw [if_neg hc]
      refine Ev.step (fun k => ?_) (ih (i + 1) out (by omega) (by omega))
      simp only [juratref12_Of.l0]
      rw [if_pos (by omega), if_pos (by omega), e, if_neg (fun q => by have := toList_nil.1 q; omega), hw, if_pos (by omega), if_pos (by omega), hb, if_neg (by omega), wrap_id (by omega) (by omega)]
      rfl
theorem rof_ev (w : List ByteArray) (hl : w.length ≤ 65535) (hs : ∀ s ∈ w, 0 < s.size ∧ s.size ≤ 65535) (c : Nat) : Ev (fun k => juratref12_Of.f k w (c : Int)) (bkOf c w) := rof_l0 w hl hs c w.length 0 [] (by omega) (by simp)
theorem bk_at (c : Nat) : ∀ (l : List ByteArray) (i t : Nat), t < (bkFrom c l i).length → ∃ p, (bkFrom c l i).getD t 0 = ((i + p : Nat) : Int) ∧ p < l.length ∧ l.getD p ByteArray.empty = (bkL c l).getD t ByteArray.empty ∧ lastN (l.getD p ByteArray.empty) = c
  | [], i, t, h => by simp [bkFrom] at h
  | s :: l, i, t, h => by
    by_cases hc : lastN s = c
    · have e1 : bkFrom c (s :: l) i = (i : Int) :: bkFrom c l (i + 1) := if_pos hc
      have e2 : bkL c (s :: l) = s :: bkL c l := by unfold bkL; rw [List.filter_cons_of_pos (by simpa using hc)]
      rw [e1, e2]
      cases t with
      | zero => exact ⟨0, rfl, by simp, rfl, hc⟩
      | succ t =>
        rw [e1] at h
        obtain ⟨p, h1, h2, h3, h4⟩ := bk_at c l (i + 1) t (by simpa using h)
        exact ⟨p + 1, by rw [List.getD_cons_succ, h1]; congr 1; omega, by simp; omega, by rw [List.getD_cons_succ, List.getD_cons_succ, h3], by rw [List.getD_cons_succ]; exact h4⟩
    · have e1 : bkFrom c (s :: l) i = bkFrom c l (i + 1) := if_neg hc
      have e2 : bkL c (s :: l) = bkL c l := by unfold bkL; rw [List.filter_cons_of_neg (by simpa using hc)]
      rw [e1] at h
      rw [e1, e2]
      obtain ⟨p, h1, h2, h3, h4⟩ := bk_at c l (i + 1) t h
      exact ⟨p + 1, by rw [h1]; congr 1; omega, by simp; omega, by rw [List.getD_cons_succ, h3], by rw [List.getD_cons_succ]; exact h4⟩
theorem rleast12_l0 (w : List ByteArray) (hl : w.length ≤ 65535) (hs : ∀ s ∈ w, 0 < s.size ∧ s.size ≤ 65535) (c : Nat) : ∀ (f t n : Nat), t + f = (bkOf c w).length → 0 < t →
    Ev (fun k => juratref12_Least.l0 k w (n : Int) (bkOf c w) (t : Int)) (leastB n ((bkL c w).drop t) : Int) := by
  have hlen : (bkOf c w).length = (bkL c w).length := bkFrom_length c w 0
  have hle := bkFrom_le c w 0
  have hle2 : (bkOf c w).length ≤ w.length := hle
  intro f
  induction f with
  | zero =>
    intro t n ht h0
    refine Ev.ret fun k => ?_
    simp only [juratref12_Least.l0]
    rw [if_neg (by omega), List.drop_of_length_le (by omega)]
    rfl
  | succ f ih =>
    intro t n ht h0
    obtain ⟨p, h1, h2, h3, h4⟩ := bk_at c w 0 t (by show t < (bkOf c w).length; omega)
    rw [Nat.zero_add] at h1
    have h1' : rd (bkOf c w) (t : Int) = (p : Int) := h1
    have e : rdOf ByteArray.empty w (p : Int) = w.getD p ByteArray.empty := rfl
    obtain ⟨hz0, hz⟩ := hs _ (getD_mem w p ByteArray.empty h2)
    rw [getD_drop (bkL c w) t ByteArray.empty (by omega)]
    have hl2 : leastB n ((bkL c w).getD t ByteArray.empty :: (bkL c w).drop (t + 1)) = leastB (min n (w.getD p ByteArray.empty).size) ((bkL c w).drop (t + 1)) := by rw [h3]; rfl
    rw [hl2]
    refine Ev.step (fun k => ?_) (ih (t + 1) _ (by omega) (by omega))
    simp only [juratref12_Least.l0]
    rw [if_pos (by omega), if_neg (by omega), if_pos (by omega), h1', e, if_pos (by omega), if_pos (by omega), wrap_id (by omega) (by omega)]
    by_cases h : (w.getD p ByteArray.empty).size < n
    · rw [if_pos (by omega), Nat.min_eq_right (by omega)]; rfl
    · rw [if_neg (by omega), Nat.min_eq_left (by omega)]; rfl
theorem rleast12_ev (w : List ByteArray) (hl : w.length ≤ 65535) (hs : ∀ s ∈ w, 0 < s.size ∧ s.size ≤ 65535) (c : Nat) : Ev (fun k => juratref12_Least.f k w (c : Int)) (bkLe c w : Int) := by
  have hlen : (bkOf c w).length = (bkL c w).length := bkFrom_length c w 0
  unfold juratref12_Least.f
  refine Ev.bind (rof_ev w hl hs c) ?_
  by_cases h0 : (bkOf c w).length = 0
  · have hnil : bkL c w = [] := List.length_eq_zero_iff.1 (by omega)
    refine Ev.ret fun k => ?_
    simp only [juratref12_Least.l0]
    rw [if_neg (by omega)]
    unfold bkLe
    rw [hnil]
    rfl
  · obtain ⟨p, h1, h2, h3, h4⟩ := bk_at c w 0 0 (by show 0 < (bkOf c w).length; omega)
    rw [Nat.zero_add] at h1
    have h1' : rd (bkOf c w) 0 = (p : Int) := h1
    have e : rdOf ByteArray.empty w (p : Int) = w.getD p ByteArray.empty := rfl
    have hv : (bkLe c w : Int) = (leastB (w.getD p ByteArray.empty).size ((bkL c w).drop 1) : Int) := by
      unfold bkLe
      rw [h3]
      cases hq : bkL c w with
      | nil => exact absurd (show (bkOf c w).length = 0 by rw [hlen, hq]; rfl) h0
      | cons s r => rfl
    rw [hv]
    refine Ev.step (fun k => ?_) (rleast12_l0 w hl hs c ((bkOf c w).length - 1) 1 (w.getD p ByteArray.empty).size (by omega) (by omega))
    simp only [juratref12_Least.l0]
    rw [if_pos (by omega), if_pos trivial, if_pos (by omega), h1', e, if_pos (by omega), if_pos (by omega), wrap_id (by omega) (by omega)]
    rfl
theorem rbytes_l0 (w : List ByteArray) (hl : w.length ≤ 65535) (hs : ∀ s ∈ w, 0 < s.size ∧ s.size ≤ 65535) : ∀ (f i : Nat), i + f = 256 →
    Ev (fun k => juratref12_Bytes.l0 k w (bkB (bkOfD w) i) (i : Int)) (strOfNums (bkB (bkOfD w) 256)) := by
  intro f
  induction f with
  | zero =>
    intro i hi
    obtain rfl : i = 256 := by omega
    refine Ev.ret fun k => ?_
    simp only [juratref12_Bytes.l0]
    rw [if_neg (by omega)]
  | succ f ih =>
    intro i hi
    have hbl := bkB_length (bkOfD w) i
    refine Ev.step (f := fun k => juratref12_Bytes.l0 (k + 1) w (bkB (bkOfD w) i) (i : Int)) (fun k => rfl) ?_
    simp only [juratref12_Bytes.l0]
    simp only [if_pos (show (i : Int) < 256 by omega), show (i : Int) % 256 = (i : Int) by omega, wrap_id (x := (i : Int) + 1) (by omega) (by omega)]
    refine Ev.bind (rof_ev w hl hs i) ?_
    have hn := ih (i + 1) (by omega)
    by_cases h : (bkOf i w).length > 0
    · refine Ev.congr (fun k => if_pos (by omega)) (Ev.congr (fun k => if_pos (by omega)) ?_)
      have e : bkB (bkOfD w) (i + 1) = bkB (bkOfD w) i ++ [(i : Int)] := if_pos h
      rw [e] at hn
      exact hn
    · refine Ev.congr (fun k => if_neg (by omega)) ?_
      have e : bkB (bkOfD w) (i + 1) = bkB (bkOfD w) i := if_neg h
      rw [e] at hn
      exact hn
theorem rbytes_ev (w : List ByteArray) (hl : w.length ≤ 65535) (hs : ∀ s ∈ w, 0 < s.size ∧ s.size ≤ 65535) : Ev (fun k => juratref12_Bytes.f k w) (strOfNums (bkB (bkOfD w) 256)) := rbytes_l0 w hl hs 256 0 (by omega)
theorem bucket_ok {l w : List ByteArray} {x : Option SetD} {e : Int} (h : SetOk l x w e) : bucket_New.f x = some (some (bkOfD w)) := by
  unfold bucket_New.f
  rw [h.hL, if_pos ⟨h.few, fun s hs => ⟨h.pos s hs, h.size s hs⟩⟩]
theorem bof_ok (w : List ByteArray) (hl : w.length ≤ 65535) {c : Nat} (hc : c < 256) : bucket_Buckets_Of.f (some (bkOfD w)) (c : Int) = some (bkOf c w) := by
  have hle := bkFrom_le c w 0
  have hle2 : (bkOf c w).length ≤ w.length := hle
  simp only [bucket_Buckets_Of.f]
  rw [Int.toNat_natCast, if_pos ⟨⟨by omega, by omega⟩, by show (bkOf c w).length ≤ _; omega⟩]
  rfl
theorem bleast_ok (w : List ByteArray) {c : Nat} (hc : c < 256) : bucket_Buckets_Least.f (some (bkOfD w)) (c : Int) = some (bkLe c w : Int) := by
  simp only [bucket_Buckets_Least.f]
  rw [if_pos ⟨by omega, by omega⟩, Int.toNat_natCast]
  rfl

end Go.Proofs.Ytnpkbnfiadkgnaa.Base

/- Whether two lists of numbers are the same; no condition beyond the sizes that stand in each statement. -/
namespace Go.Proofs.Ytnpkbnfiadkgnaa.Base
open Go Go.RowKit Go.Proofs.YtnpkbnfiadkgnaaW.PrintWords Go.Proofs.YtnpkbnfiadkgnaaW.PrintMore Go.Proofs.Ytnpkbnfiadkgnaa.P

/-! the same numbers -/
theorem same1_l0 (a b : List Int) (he : a.length = b.length) (hm : a.length ≤ 9223372036854775807) : ∀ (d i : Nat), i + d = a.length →
    Ev (fun k => juratref01_Same.l0 k a b (i : Int)) (decide (a.drop i = b.drop i)) := by
  intro d
  induction d with
  | zero =>
    intro i hi
    refine Ev.ret fun k => ?_
    simp only [juratref01_Same.l0]
    rw [if_neg (by omega), List.drop_of_length_le (by omega), List.drop_of_length_le (by omega)]
    rfl
  | succ d ih =>
    intro i hi
    by_cases h : rd a (i : Int) = rd b (i : Int)
    · refine Ev.step (f := fun k => juratref01_Same.l0 k a b ((i + 1 : Nat) : Int)) (fun k => ?_) ?_
      · simp only [juratref01_Same.l0]
        rw [if_pos (by omega), if_pos (by omega), if_pos (by omega), if_pos h, wrap_id (by omega) (by omega)]
        rfl
      · have e : decide (a.drop i = b.drop i) = decide (a.drop (i + 1) = b.drop (i + 1)) := by
          rw [getD_drop a i 0 (by omega), getD_drop b i 0 (by omega)]
          have h' : a.getD i 0 = b.getD i 0 := h
          rw [h']
          simp
        rw [e]
        exact ih (i + 1) (by omega)
    · refine Ev.ret fun k => ?_
      simp only [juratref01_Same.l0]
      rw [if_pos (by omega), if_pos (by omega), if_pos (by omega), if_neg h]
      rw [getD_drop a i 0 (by omega), getD_drop b i 0 (by omega)]
      have h' : ¬ a.getD i 0 = b.getD i 0 := h
      rw [decide_eq_false (fun e => h' (List.cons.inj e).1)]
theorem same1 (a b : List Int) (hm : a.length ≤ 9223372036854775807) : Ev (fun k => juratref01_Same.f k a b) (decide (a = b)) := by
  by_cases he : a.length = b.length
  · have h := same1_l0 a b he hm a.length 0 (by omega)
    rw [List.drop_zero, List.drop_zero] at h
    refine Ev.congr (fun k => ?_) h
    unfold juratref01_Same.f
    rw [if_pos (by omega)]
    rfl
  · rw [decide_eq_false (fun e => he (by rw [e]))]
    refine Ev.const fun k => ?_
    unfold juratref01_Same.f
    rw [if_neg (by omega)]

end Go.Proofs.Ytnpkbnfiadkgnaa.Base

/- Layer 12's example; no condition. -/
namespace Go.Proofs.Ytnpkbnfiadkgnaa.Base
open Go Go.RowKit Go.Proofs.YtnpkbnfiadkgnaaW.PrintWords Go.Proofs.YtnpkbnfiadkgnaaW.PrintMore Go.Proofs.Ytnpkbnfiadkgnaa.P
set_option linter.unusedVariables false

abbrev l12 : List ByteArray := [(⟨#[97, 98]⟩ : ByteArray), (⟨#[98]⟩ : ByteArray), (⟨#[99]⟩ : ByteArray)]
theorem new12 : pats_New.f l12 = some (some ⟨l12, 1, 2, 4⟩, 0) := by
  have hs : sortB l12 = l12 := (sortB_of (List.Perm.refl _) (by decide)).symm
  unfold pats_New.f
  rw [hs]
  rfl
theorem bucket12 : bucket_New.f (some ⟨l12, 1, 2, 4⟩) = some (some (bkOfD l12)) := by
  unfold bucket_New.f
  rw [if_pos ⟨by decide, fun s hs => by
    simp only [setL, List.mem_cons, List.not_mem_nil, or_false] at hs
    rcases hs with rfl | rfl | rfl <;> decide⟩]
  rfl
theorem awake12 : Ev (fun k => juratlaw12_awake.f k) true := by
  unfold juratlaw12_awake.f
  refine Ev.bind (Ev.const fun _ => new12) (Ev.bind (Ev.const fun _ => bucket12) (Ev.congr (fun k => if_pos rfl) ?_))
  have h1 : bucket_Buckets_Of.f (some (bkOfD l12)) 98 = some [0, 1] := (bof_ok l12 (by decide) (c := 98) (by omega)).trans (by decide +kernel)
  have h2 : bucket_Buckets_Least.f (some (bkOfD l12)) 98 = some 1 := (bleast_ok l12 (c := 98) (by omega)).trans (by decide +kernel)
  refine Ev.bind (Ev.const fun _ => h1) ?_
  have s1 := same1 [0, 1] [0, 1] (by simp)
  rw [decide_eq_true rfl] at s1
  refine Ev.bind s1 (Ev.congr (fun k => if_pos rfl) ?_)
  refine Ev.bind (Ev.const fun _ => h2) (Ev.congr (fun k => if_pos rfl) ?_)
  have hb : bkB (bkOfD l12) 256 = [98, 99] := by decide +kernel
  have h3 : bucket_Buckets_Bytes.f (some (bkOfD l12)) = some (strOfNums [98, 99]) := by
    show some (strOfNums (bkB (bkOfD l12) 256)) = _
    rw [hb]
  refine Ev.bind (Ev.const fun _ => h3) ?_
  exact Ev.const fun _ => by decide +kernel
theorem wf8 {x : Int} (h : (Lit.int .u8 x).wf = true) : 0 ≤ x ∧ x ≤ 255 := by
  simp [Lit.wf, IntKind.min, IntKind.max, IntKind.signed, IntKind.bits] at h
  omega

end Go.Proofs.Ytnpkbnfiadkgnaa.Base

/- Each pattern is in just one bucket: the lengths of all buckets are as many as there are patterns; no condition. -/
namespace Go.Proofs.Ytnpkbnfiadkgnaa.Base
open Go Go.RowKit Go.Proofs.YtnpkbnfiadkgnaaW.PrintWords Go.Proofs.YtnpkbnfiadkgnaaW.PrintMore Go.Proofs.Ytnpkbnfiadkgnaa.P
set_option linter.unusedVariables false

def sumTo (w : List ByteArray) : Nat → Nat
  | 0 => 0
  | k + 1 => sumTo w k + (bkOf k w).length
theorem bkOf_len (c : Nat) (w : List ByteArray) : (bkOf c w).length = (bkL c w).length := bkFrom_length c w 0
theorem sumTo_cons (s : ByteArray) (w : List ByteArray) : ∀ k, sumTo (s :: w) k = sumTo w k + (if lastN s < k then 1 else 0)
  | 0 => by simp [sumTo]
  | k + 1 => by
    have h : (bkOf k (s :: w)).length = (bkOf k w).length + (if lastN s = k then 1 else 0) := by
      rw [bkOf_len, bkOf_len]
      unfold bkL
      by_cases hc : lastN s = k
      · rw [List.filter_cons_of_pos (by simpa using hc), List.length_cons, if_pos hc]
      · rw [List.filter_cons_of_neg (by simpa using hc), if_neg hc]; rfl
    simp only [sumTo]
    rw [sumTo_cons s w k, h]
    split <;> split <;> split <;> omega
theorem sumTo_nil : ∀ k, sumTo [] k = 0
  | 0 => rfl
  | k + 1 => by simp only [sumTo]; rw [sumTo_nil k]; rfl
theorem sumTo_all : ∀ w : List ByteArray, sumTo w 256 = w.length
  | [] => sumTo_nil 256
  | s :: w => by rw [sumTo_cons, sumTo_all w, if_pos (lastN_lt s), List.length_cons]
/-- How many patterns are in the buckets of a list of bytes. -/
def bsum (w : List ByteArray) (L : List Int) : Nat := L.foldl (fun n c => n + (bkOf c.toNat w).length) 0
theorem bsum_snoc (w : List ByteArray) (L : List Int) (c : Int) : bsum w (L ++ [c]) = bsum w L + (bkOf c.toNat w).length := by
  unfold bsum; rw [List.foldl_append]; rfl
theorem bsum_take (w : List ByteArray) (L : List Int) (i : Nat) (h : i < L.length) : bsum w (L.take (i + 1)) = bsum w (L.take i) + (bkOf (L.getD i 0).toNat w).length := by
  rw [List.take_succ_eq_append_getElem h, bsum_snoc, List.getD_eq_getElem?_getD, List.getElem?_eq_getElem h]
  rfl
theorem bsum_to (w : List ByteArray) : ∀ k, bsum w (bkB (bkOfD w) k) = sumTo w k
  | 0 => rfl
  | k + 1 => by
    simp only [bkB, sumTo]
    have hd : (bkOfD w).ids k = bkOf k w := rfl
    by_cases h : (bkOf k w).length > 0
    · rw [if_pos (by rw [hd]; exact h), bsum_snoc, bsum_to w k, Int.toNat_natCast]
    · rw [if_neg (by rw [hd]; exact h), bsum_to w k]
      omega
theorem bsum_all (w : List ByteArray) : bsum w (bkB (bkOfD w) 256) = w.length := by rw [bsum_to, sumTo_all]
theorem bkB_mem (w : List ByteArray) : ∀ k, ∀ c ∈ bkB (bkOfD w) k, 0 ≤ c ∧ c < (k : Int)
  | 0, c, h => by simp [bkB] at h
  | k + 1, c, h => by
    simp only [bkB] at h
    split at h
    · rcases List.mem_append.1 h with h | h
      · have := bkB_mem w k c h; omega
      · simp at h; subst h; omega
    · have := bkB_mem w k c h; omega
theorem bsum_le (w : List ByteArray) (hw : w.length ≤ 65535) (L : List Int) : ∀ n : Nat, L.foldl (fun n c => n + (bkOf c.toNat w).length) n ≤ n + L.length * 65535 := by
  induction L with
  | nil => intro n; simp
  | cons c L ih =>
    intro n
    have h := ih (n + (bkOf c.toNat w).length)
    have hle := bkFrom_le c.toNat w 0
    have hle2 : (bkOf c.toNat w).length ≤ w.length := hle
    rw [List.foldl_cons, List.length_cons, Nat.succ_mul]
    omega
theorem LL_strOf (L : List Int) : LL (strOfNums L) = L.map fun n => UInt8.ofNat n.toNat := by unfold LL strOfNums; simp
theorem strOf_size (L : List Int) : (strOfNums L).size = L.length := by
  have : (LL (strOfNums L)).length = L.length := by unfold strOfNums; simp
  rw [← this, LL_length]
theorem strOf_at {L : List Int} (hL : ∀ c ∈ L, 0 ≤ c ∧ c < 256) {i : Nat} (h : i < (strOfNums L).size) : ((strOfNums L)[i]'h).toNat = (L.getD i 0).toNat := by
  have hi : i < L.length := by rw [← strOf_size]; exact h
  have hm := hL _ (getD_mem L i 0 hi)
  have e : (LL (strOfNums L)).getD i 0 = (strOfNums L)[i]'h := by
    rw [List.getD_eq_getElem?_getD, List.getElem?_eq_getElem (by rw [LL_length]; exact h)]
    rfl
  rw [← e, LL_strOf, List.getD_eq_getElem?_getD, List.getElem?_map, List.getElem?_eq_getElem hi]
  rw [List.getD_eq_getElem?_getD, List.getElem?_eq_getElem hi] at hm
  have hm2 : 0 ≤ L[i] ∧ L[i] < 256 := hm
  rw [List.getD_eq_getElem?_getD, List.getElem?_eq_getElem hi]
  show (UInt8.ofNat L[i].toNat).toNat = L[i].toNat
  rw [UInt8.toNat_ofNat']
  omega

end Go.Proofs.Ytnpkbnfiadkgnaa.Base

/- Layer 12's law that each pattern is in just one bucket: the walk, with its loop over an iterator. -/
namespace Go.Proofs.Ytnpkbnfiadkgnaa.P
open Go Go.RowKit Go.Shelf Go.Proofs.YtnpkbnfiadkgnaaW.PrintWords Go.Proofs.YtnpkbnfiadkgnaaW.PrintLast Go.Proofs.YtnpkbnfiadkgnaaW.PrintMore Go.Proofs.Ytnpkbnfiadkgnaa.Base
set_option linter.unusedVariables false
set_option linter.unusedSimpArgs false

attribute [local go_sem] Oper.semAt_some

/-- A function is not nil. -/
theorem eql_func_nil {P : Program} {t : TypeId} (fn : Fn) (cs bs : Array Value) (w : World) (ht : (P.underlying t).any (fun u => match u with | .func .. => true | _ => false) = true) :
    (binOp .eql t (.func fn cs bs) .nilFunc).run P w = .ok (.bool false) w := by
  cases hu : P.underlying t with
  | none => rw [hu] at ht; cases ht
  | some u =>
    rw [hu] at ht
    cases u with
    | func ps rs va =>
      have h : ∀ d : Nat, (Op.equalIn (d + 1) t (.func fn cs bs) .nilFunc).run P w = .ok false w := fun d => by
        simp [Op.equalIn, run_underlying hu]
      simp only [binOp]
      simp [Op.equal, Op.maxDepth, h 9999]
    | _ => simp at ht
def juratlaw12_BucketOnce.f (l0 : List ByteArray) (a1 a2 : Int) : Option Bool := if (0 ≤ a1 ∧ a1 ≤ 255) ∧ l0.length * 16 ≤ 140737488351232 then some true else none
theorem few_in {A0 : Option Addr} {c0 : Nat} {l0 : List ByteArray} (hl : l0.length ≤ 9223372036854775806) : ∃ r : Bool, (r = (decide ((l0.length : Int) ≤ 20) && fewB l0 50)) ∧ ∀ w : World, Kd.C Kd.string w A0 l0.length l0 → l0.length ≤ c0 → Calls Try.prog 10 #[.slice A0 l0.length c0, .int .i64 20, .int .i64 50] w fun e w' => e = .returned (.bool r) ∧ Drawn0 w w' := by
  obtain ⟨k, hk⟩ := Ev.all (few_ev l0 20 50 (by omega))
  exact ⟨_, rfl, fun w h1 h2 => juratref09_Few.calls k A0 c0 l0 20 50 _ w h1 h2 hk⟩
theorem same_in : ∀ (a b : List Int), a = b → ∀ (A1 : Option Addr) (c1 : Nat) (A2 : Option Addr) (c2 : Nat) (w : World), Kd.C (Kd.int .i64) w A1 a.length a → a.length ≤ c1 → Kd.C (Kd.int .i64) w A2 b.length b → b.length ≤ c2 → ∀ n, b.length = n →
    Calls Try.prog 15 #[.slice A1 a.length c1, .slice A2 n c2] w fun e w' => e = .returned (.bool true) ∧ Drawn0 w w' := by
  rintro a b rfl A1 c1 A2 c2 w h1 h2 h3 h4 n rfl
  have hlen := h1.2.1
  obtain ⟨k, hk⟩ := Ev.all (same1 a a (by have := Kd.C_max h1; omega))
  rw [decide_eq_true rfl] at hk
  exact juratref01_Same.calls k A1 c1 a A2 c2 a true w h1 h2 h3 h4 hk
theorem awake_in (w : World) : Calls Try.prog 11 #[] w fun e w' => e = .returned (.bool true) ∧ Below w.heap.size w w' := by
  obtain ⟨k, hk⟩ := Ev.all awake12
  exact juratlaw12_awake.calls k true w hk
set_option maxRecDepth 100000 in
set_option maxHeartbeats 16000000 in
theorem once_in (A0 : Option Addr) (c0 : Nat) (l0 : List ByteArray) (cc : Nat) (a2 : Int) (w : World) (hr0 : Kd.C Kd.string w A0 l0.length l0) (hc0 : l0.length ≤ c0) (hcc : cc < 256) (hl : l0.length ≤ 9223372036854775806) :
    CallsIn Fence.wide 3 Try.prog 4 #[.slice A0 l0.length c0, .int .u8 (cc : Int), .int .i64 a2] w fun e w' => e = .returned (.bool true) ∧ Below w.heap.size w w' := by
  obtain ⟨r, hr, hFew⟩ := few_in (A0 := A0) (c0 := c0) hl
  obtain ⟨x, lw, er, hok⟩ := set_ok l0
  have hNew := fun (W : World) (h : Kd.C Kd.string W A0 l0.length l0) => pats_New.calls A0 c0 l0 x er W h hc0 hok.hn
  have hBk := fun (W : World) (P : Option Addr) (h : OB K77 W P x) => bucket_New.fresh P x (some (bkOfD lw)) W h (bucket_ok hok)
  have HFEW := Aside0.mk hFew
  have HNEW := Aside0.mk hNew
  have HBK := Aside0.mk hBk
  have HOK := Aside0.mk hok
  have HC := Aside0.mk hr0
  clear hFew hNew hBk hok hr0 hr
  refine callsIn_of_wp_marks Try.func4 rfl trivial ?_ rfl
  simp only [Try.ntmps4, List.size_toArray, List.length_cons, List.length_nil, Nat.reduceAdd, Nat.reduceSub, Array.replicate_succ, Array.replicate_zero, List.push_toArray, List.append_toArray, List.nil_append, List.cons_append]
  have hB1 := Aside0.mk ((Below.refl w.heap.size w).alloc (Nat.le_refl _) (.cells #[.int .i64 a2] 3 (0, 0)))
  cases r with
  | false =>
    gi_wp2_with (first
      | (refine ⟨trivial, ?_⟩; gi_at_call 10; refine (callsIn_wide.2 (HFEW.out _ (Kd.C_below HC.out ((Below.refl _ _).alloc (Nat.le_refl _) _)) hc0)).mono ?_; rintro e w' ⟨rfl, ⟨q, rfl⟩⟩)
      | (refine ⟨trivial, ?_⟩; gi_at_call 11; refine (callsIn_wide.2 (awake_in _)).mono ?_; rintro e w' ⟨rfl, hb⟩; have HBa := Aside0.mk hb; clear hb))
    exact ⟨_, results_tmp rfl _ _ _, rfl, below_step (pw_below_drewN hB1.out _) HBa.out⟩
  | true =>
    gi_wp2_with (refine ⟨trivial, ?_⟩; gi_at_call 10; refine (callsIn_wide.2 (HFEW.out _ (Kd.C_below HC.out ((Below.refl _ _).alloc (Nat.le_refl _) _)) hc0)).mono ?_; rintro e w' ⟨rfl, ⟨q, rfl⟩⟩)
    have hP0 : Boxed ((w.alloc (.cells #[.int .i64 a2] 3 (0, 0))).drewN q) w.heap.size 3 (.int .i64 a2) := Boxed.new w 3 (.int .i64 a2)
    have hB2 := pw_below_drewN hB1.out q
    have HB2 := Aside0.mk hB2
    have HP2 := Aside0.mk hP0
    have HC2 := Aside0.mk (Kd.C_below HC.out (hB2.mono (Nat.le_refl _)))
    clear hB2 hP0 hB1 HC
    generalize (w.alloc (.cells #[.int .i64 a2] 3 (0, 0))).drewN q = W2 at HB2 HP2 HC2 ⊢
    refine ⟨trivial, ?_⟩
    refine (callsIn_wide.2 (HNEW.out _ HC2.out)).mono ?_
    rintro e W3 ⟨Px, rfl, hox, hb⟩
    have HX3 := Aside0.mk hox
    have HB3 := Aside0.mk (below_step HB2.out hb)
    have HP3 : Aside0 (Boxed W3 w.heap.size 3 (.int .i64 a2)) := ⟨(hb.block _ HP2.out.lt).trans HP2.out⟩
    obtain ⟨n0, hn0⟩ : ∃ n0, n0 = W3.heap.size := ⟨_, rfl⟩
    have hbn : w.heap.size < n0 := by rw [hn0]; exact HP3.out.lt
    have HN0 := Aside0.mk hn0
    clear hox hb HB2 HP2 HC2 hn0
    gi_wp2_with (refine ⟨trivial, ?_⟩; gi_at_call 14; refine (callsIn_wide.2 (HBK.out _ _ HX3.out)).mono ?_; rintro e W4 ⟨Pb, rfl, hob, hb⟩; rw [← HN0.out] at hob; have HO4 := Aside0.mk hob; have HX4 := Aside0.mk (OB.below hb HX3.out); have HB4 := Aside0.mk (below_step HB3.out hb); have HP4 := Aside0.mk (show Boxed W4 w.heap.size 3 (.int .i64 a2) from (hb.block _ HP3.out.lt).trans HP3.out); clear hob hb)
    have hlw := HOK.out.few
    have hBBm := bkB_mem lw 256
    have hBBs := bsum_all lw
    have hBBl := bkB_length (bkOfD lw) 256
    obtain ⟨BB, hBB⟩ : ∃ BB, bkB (bkOfD lw) 256 = BB := ⟨_, rfl⟩
    rw [hBB] at hBBm hBBs hBBl
    have hby := fun (W : World) (h : OB K81 W Pb (some (bkOfD lw))) => bucket_Buckets_Bytes.calls Pb (some (bkOfD lw)) (strOfNums BB) W h (by rw [← hBB]; rfl)
    have HBY := Aside0.mk hby
    have HBBM := Aside0.mk hBBm
    have HBBS := Aside0.mk hBBs
    have hsz := strOf_size BB
    have HSA := Aside0.mk (fun (i : Nat) (h : i < (strOfNums BB).size) => strOf_at hBBm h)
    clear hby hBB hBBm hBBs
    generalize strOfNums BB = sB at HBY hsz HSA
    gi_wp2_with (refine ⟨trivial, ?_⟩; gi_at_call 20; refine (callsIn_wide.2 (HBY.out _ HO4.out.ob)).mono ?_; rintro e W5 ⟨rfl, hb⟩; have HO5 := Aside0.mk (HO4.out.below hb); have HX5 := Aside0.mk (OB.below hb HX4.out); have HB5 := Aside0.mk (below_step HB4.out hb); have HP5 := Aside0.mk (show Boxed W5 w.heap.size 3 (.int .i64 a2) from (hb.block _ HP4.out.lt).trans HP4.out); clear hb)
    clear HO4 HX4 HB4 HP4 HX3 HB3 HP3
    gi_loopg [10, 12] BB.length (fun kx n i wr => ∃ (j : Nat), i = .int .i64 j ∧ n = .int .i64 (bsum lw (BB.take j) : Nat) ∧ j ≤ BB.length ∧ BB.length - j ≤ kx ∧
      Aside0 (FreshB n0 wr Pb (some (bkOfD lw))) ∧ Aside0 (OB K77 wr Px x) ∧ Aside0 (Below w.heap.size w wr) ∧ Aside0 (Boxed wr w.heap.size 3 (.int .i64 a2)))
    case atStart => exact ⟨0, rfl, rfl, Nat.zero_le _, by omega, HO5, HX5, HB5, HP5⟩
    case round =>
      clear HO5 HX5 HB5 HP5
      obtain ⟨j, rfl, rfl, hj, hjx, HO5, HX5, HB5, HP5⟩ := hrel
      by_cases hlt : j < BB.length
      · have hjs : j < sB.size := by omega
        have hji : (j : Int) < (sB.size : Int) := by omega
        obtain ⟨hm0, hm1⟩ := HBBM.out _ (getD_mem BB j 0 hlt)
        obtain ⟨ci, hci⟩ : ∃ ci : Nat, BB.getD j 0 = ci := ⟨(BB.getD j 0).toNat, by omega⟩
        have hsa := HSA.out j hjs
        rw [hci, Int.toNat_natCast] at hsa
        have hst := bsum_take lw BB j hlt
        rw [hci, Int.toNat_natCast] at hst
        have hc256 : ci < 256 := by omega
        have hof := fun (W : World) (h : OB K81 W Pb (some (bkOfD lw))) => bucket_Buckets_Of.calls Pb (some (bkOfD lw)) (ci : Int) (bkOf ci lw) W h (bof_ok lw hlw hc256)
        have HOF := Aside0.mk hof
        have HST := Aside0.mk hst
        have HSA1 := Aside0.mk hsa
        clear hof hst hm0 hm1 hci
        obtain ⟨ids, hids⟩ : ∃ ids, bkOf ci lw = ids := ⟨_, rfl⟩
        have hidl : ids.length ≤ 65535 := by
          have h1 := bkFrom_le ci lw 0
          have h2 : (bkOf ci lw).length ≤ lw.length := h1
          rw [hids] at h2
          omega
        have hIDS : ∀ t, t < ids.length → ∃ p : Nat, ids.getD t 0 = (p : Int) ∧ p < lw.length ∧ 0 < (lw.getD p ByteArray.empty).size ∧ lastN (lw.getD p ByteArray.empty) = ci := by
          intro t ht
          rw [← hids] at ht
          obtain ⟨p, h1, h2, h3, h4⟩ := bk_at ci lw 0 t ht
          rw [Nat.zero_add] at h1
          exact ⟨p, by rw [← hids]; exact h1, h2, HOK.out.pos _ (getD_mem lw p ByteArray.empty h2), h4⟩
        have hnb := bsum_le lw hlw (BB.take j) 0
        rw [List.length_take, Nat.zero_add] at hnb
        have hnb2 : bsum lw (BB.take j) ≤ 256 * 65535 := by
          refine Nat.le_trans hnb (Nat.mul_le_mul_right _ ?_)
          omega
        rw [hids] at HOF HST
        obtain ⟨nb, hnbe⟩ : ∃ nb, bsum lw (BB.take j) = nb := ⟨_, rfl⟩
        rw [hnbe] at hnb2 HST
        have HIDS := Aside0.mk hIDS
        have hL3 := HOK.out.hL
        have HAT := Aside0.mk (fun (p : Nat) (hp : p < lw.length) (W : World) (h : OB K77 W Px x) => pats_Set_At.calls Px x (p : Int) (lw.getD p ByteArray.empty) true W h (by unfold pats_Set_At.f; rw [hL3, if_pos ⟨by omega, by omega⟩, Int.toNat_natCast]))
        rw [hnbe]
        clear hnb hnbe hids hIDS hL3
        gi_wp2_with (refine ⟨trivial, ?_⟩; gi_at_call 16; refine (callsIn_wide.2 (HOF.out _ HO5.out.ob)).mono ?_; rintro e W6 ⟨v, rfl, hr, hb⟩; obtain ⟨A, cp, rfl⟩ := Kd.R_slice hr; have HC6 := Aside0.mk (Kd.R_reads' hr).2.2; have HO6 := Aside0.mk (HO5.out.below hb); have HX6 := Aside0.mk (OB.below hb HX5.out); have HB6 := Aside0.mk (below_step HB5.out hb); have HP6 := Aside0.mk (show Boxed W6 w.heap.size 3 (.int .i64 a2) from (hb.block _ HP5.out.lt).trans HP5.out); clear hb hr)
        clear HO5 HX5 HB5 HP5
        gi_loopg [14] ids.length (fun kx kk wr => ∃ (t : Nat), kk = .int .i64 t ∧ t ≤ ids.length ∧ ids.length - t ≤ kx ∧ Aside0 ((Kd.int .i64).C wr A ids.length ids) ∧
          Aside0 (FreshB n0 wr Pb (some (bkOfD lw))) ∧ Aside0 (OB K77 wr Px x) ∧ Aside0 (Below w.heap.size w wr) ∧ Aside0 (Boxed wr w.heap.size 3 (.int .i64 a2)))
        case atStart => exact ⟨0, rfl, Nat.zero_le _, by omega, HC6, HO6, HX6, HB6, HP6⟩
        case round =>
          clear HO6 HX6 HB6 HP6 HC6
          obtain ⟨t, rfl, ht, htx, HC6, HO6, HX6, HB6, HP6⟩ := hrel
          by_cases hlt2 : t < ids.length
          · obtain ⟨p, hp1, hp2, hp3, hp4⟩ := HIDS.out t hlt2
            obtain ⟨ad, rfl, had⟩ := Kd.at_int HC6.out (t : Int) (by omega) (by omega)
            have had' : wr.cell? (ad.add t) = some (.int .i64 (p : Int)) := by rw [← hp1]; exact had
            have hat := HAT.out p hp2
            obtain ⟨s, hs⟩ : ∃ s, lw.getD p ByteArray.empty = s := ⟨_, rfl⟩
            rw [hs] at hat hp3 hp4
            have HAT2 := Aside0.mk hat
            have HSZ := Aside0.mk (show s.size ≤ 65535 by rw [← hs]; exact HOK.out.size _ (getD_mem lw p ByteArray.empty hp2))
            have HL4 := Aside0.mk hp4
            have hti : (t : Int) < (ids.length : Int) := by omega
            clear hat hs hp1 hp4 had
            have hs5 : s.size ≤ 65535 := HSZ.out
            have hsl : (s[s.size - 1]'(by omega)).toNat = ci := by
              rw [← HL4.out]
              unfold lastN
              rw [List.getD_eq_getElem?_getD, List.getElem?_eq_getElem (by rw [LL_length]; omega)]
              rfl
            have w1 : IntKind.i64.wrap ((s.size : Int) - 1) = (s.size : Int) - 1 := by rw [i64_w, wrap_id (by omega) (by omega)]
            have w2 : ((s.size : Int) - 1).toNat = s.size - 1 := by omega
            have w3 : (0 : Int) ≤ (s.size : Int) - 1 := by omega
            have w4 : (s.size : Int) - 1 < (s.size : Int) := by omega
            have w5 : s.size - 1 < s.size := by omega
            have w6 : s ≠ ⟨#[]⟩ := by
              intro e
              rw [e] at hp3
              exact absurd hp3 (by decide)
            have w7 : (s.toList == (⟨#[]⟩ : ByteArray).toList) = false := by
              rw [beq_eq_false_iff_ne]
              intro e
              rw [ByteArray.toList_eq, ByteArray.toList_eq] at e
              exact w6 (by cases s; congr 1; exact Array.toList_inj.1 e)
            have w8 : (s.toList == []) = false := by
              rw [beq_eq_false_iff_ne]
              intro e
              rw [ByteArray.toList_eq] at e
              exact w6 (by cases s; congr 1; exact Array.toList_inj.1 (show _ = (#[] : Array UInt8).toList from e))
            have hji' : (j : Int) < (sB.size : Int) := by omega
            have hsa2 := HSA1.out
            clear HSZ
            gi_wp2_with (refine ⟨trivial, ?_⟩; gi_at_call 22; refine (callsIn_wide.2 (HAT2.out _ HX6.out)).mono ?_; rintro e w7 ⟨rfl, ⟨q7, rfl⟩⟩)
            have HC7 : Aside0 ((Kd.int .i64).C (wr.drewN q7) (some ad) ids.length ids) := ⟨Kd.C_drewN HC6.out _⟩
            have HO7 := Aside0.mk (HO6.out.below (pw_below_drewN (Below.refl _ _) q7))
            have HX7 := Aside0.mk (OB.drewN HX6.out q7)
            have HB7 := Aside0.mk (pw_below_drewN HB6.out q7)
            have HP7 : Aside0 (Boxed (wr.drewN q7) w.heap.size 3 (.int .i64 a2)) := ⟨HP6.out⟩
            clear HC6 HO6 HX6 HB6 HP6 had' HAT2
            generalize wr.drewN q7 = W7 at HC7 HO7 HX7 HB7 HP7 ⊢
            gi_quiet (fail)
            all_goals
              gi_wp2
              gi_roundg (ids.length - (t + 1))
            case measure => omega
            case rel => exact ⟨t + 1, by go_num, by omega, Nat.le_refl _, ⟨Kd.C_drewN HC7.out _⟩, ⟨HO7.out.below (pw_below_drewN (Below.refl _ _) _)⟩, ⟨OB.drewN HX7.out _⟩, ⟨pw_below_drewN HB7.out _⟩, ⟨HP7.out⟩⟩
          · obtain rfl : t = ids.length := by omega
            gi_wp2
            gi_roundg (BB.length - (j + 1))
            case measure => omega
            case rel => exact ⟨j + 1, by go_num, by rw [HST.out]; go_num, by omega, Nat.le_refl _, HO6, HX6, HB6, HP6⟩
      · obtain rfl : j = BB.length := by omega
        have hnn : (bsum lw (BB.take BB.length) : Nat) = lw.length := by rw [List.take_length]; exact HBBS.out
        rw [hnn]
        have hLn := fun (W : World) (h : OB K77 W Px x) => pats_Set_Len.calls Px x (lw.length : Int) W h (by rw [show (lw.length : Int) = ((setL x).length : Int) by rw [HOK.out.hL]]; cases x <;> rfl)
        have HLN := Aside0.mk hLn
        clear hnn hLn
        have hc5 := HP5.out.cell
        have hf5 := HP5.out.frozen
        obtain ⟨b0, b1⟩ := bits_and_mask a2 31 (by decide)
        obtain ⟨mm, hmm⟩ : ∃ mm : Nat, Go.bits .and .i64 a2 ((31 : Nat) : Int) = mm := ⟨(Go.bits .and .i64 a2 ((31 : Nat) : Int)).toNat, by omega⟩
        have hmm2 : Go.bits .and .i64 a2 31 = (mm : Int) := hmm
        have hm31 : mm ≤ 31 := by omega
        clear b0 b1 hmm
        gi_wp2_with (refine ⟨trivial, ?_⟩; gi_at_call 23; refine (callsIn_wide.2 (HLN.out _ HX5.out)).mono ?_; rintro e w7 ⟨rfl, ⟨q7, rfl⟩⟩)
        have HOs : Aside0 (FreshB n0 ((wr.drewN q7).setCell ⟨w.heap.size, 0, none⟩ (.int .i64 (mm : Int))) Pb (some (bkOfD lw))) := ⟨(HO5.out.below (pw_below_drewN (Below.refl _ _) q7)).set hbn _⟩
        have HBs : Aside0 (Below w.heap.size w ((wr.drewN q7).setCell ⟨w.heap.size, 0, none⟩ (.int .i64 (mm : Int)))) := ⟨Below.setCell (p := ⟨w.heap.size, 0, none⟩) (pw_below_drewN HB5.out q7) (Nat.le_refl _) _⟩
        have HPs : Aside0 (Boxed ((wr.drewN q7).setCell ⟨w.heap.size, 0, none⟩ (.int .i64 (mm : Int))) w.heap.size 3 (.int .i64 (mm : Int))) := ⟨Boxed.set _ (show Boxed (wr.drewN q7) w.heap.size 3 (.int .i64 a2) from HP5.out)⟩
        have hsz2 : wr.heap.size = ((wr.drewN q7).setCell ⟨w.heap.size, 0, none⟩ (.int .i64 (mm : Int))).heap.size := by rw [World.size_setCell]; rfl
        rw [hsz2]
        clear hc5 hf5 HO5 HX5 HB5 HP5 hsz2 HLN
        generalize (wr.drewN q7).setCell ⟨w.heap.size, 0, none⟩ (.int .i64 (mm : Int)) = ws at HOs HBs HPs ⊢
        have hof := fun (W : World) (h : OB K81 W Pb (some (bkOfD lw))) => bucket_Buckets_Of.calls Pb (some (bkOfD lw)) (cc : Int) (bkOf cc lw) W h (bof_ok lw hlw hcc)
        have HOF := Aside0.mk hof
        have hzl : (bkOf cc lw).length ≤ 65535 := by
          have h1 := bkFrom_le cc lw 0
          have h2 : (bkOf cc lw).length ≤ lw.length := h1
          omega
        obtain ⟨b, v, NB, rfl, hnb, hNB, hblk, hrows⟩ := HOs.out
        have hrow := hrows cc hcc
        have hcell0 := (blk_cell hblk cc).trans (bkCells_ids hcc)
        obtain ⟨A, cap, hv⟩ := Kd.R_slice hrow
        rw [hv] at hcell0 hrow
        have hC := (Kd.R_reads' hrow).2.2
        rw [show (bkOfD lw).ids cc = bkOf cc lw from rfl] at hcell0 hC
        have hblt := blk_lt hblk
        clear hof hrow hrows hv hblk
        obtain ⟨zs, hzs⟩ : ∃ zs, bkOf cc lw = zs := ⟨_, rfl⟩
        rw [hzs] at HOF hzl hcell0 hC
        clear hzs
        have hA : 0 < zs.length → ∃ ad : Addr, A = some ad ∧ ad.block < ws.heap.size ∧ ∀ j, j < zs.length → ws.cell? (ad.add j) = some (.int .i64 (zs[j]?.getD 0)) := by
          intro h0
          obtain ⟨ad, e, hx⟩ := Kd.at_int hC 0 (by omega) (by omega)
          have hx' : ws.cell? (ad.add 0) = some (.int .i64 (zs.getD 0 0)) := hx
          refine ⟨ad, e, ?_, fun j hj => ?_⟩
          · have := World.block_lt_of_cell? ws _ hx'
            unfold Addr.add at this
            simpa using this
          · obtain ⟨ad', e', hx2⟩ := Kd.at_int hC (j : Int) (by omega) (by omega)
            rw [e] at e'
            injection e' with e'
            subst e'
            have hx3 : ws.cell? (ad.add j) = some (.int .i64 (zs.getD j 0)) := hx2
            rw [hx3, List.getD_eq_getElem?_getD]
        have HA := Aside0.mk hA
        have HCELL := Aside0.mk hcell0
        clear hA hcell0 hC
        have bO := Boxed.new ws 34 (.slice none 0 0)
        have bN := Boxed.new (ws.alloc (.cells #[.slice none 0 0] 34)) 31 (.pointer (some ⟨b, 0, none⟩))
        have bM := Boxed.new ((ws.alloc (.cells #[.slice none 0 0] 34)).alloc (.cells #[.pointer (some ⟨b, 0, none⟩)] 31)) 5 (.int .u8 (cc : Int))
        rw [World.size_alloc] at bN
        rw [World.size_alloc, World.size_alloc] at bM
        have hB0 : Below ws.heap.size ws (((ws.alloc (.cells #[.slice none 0 0] 34)).alloc (.cells #[.pointer (some ⟨b, 0, none⟩)] 31)).alloc (.cells #[.int .u8 (cc : Int)] 5)) := (((Below.refl _ ws).alloc (Nat.le_refl _) _).alloc (by simp) _).alloc (by simp <;> omega) _
        have HBO := Aside0.mk ((bO.alloc (.cells #[.pointer (some ⟨b, 0, none⟩)] 31)).alloc (.cells #[.int .u8 (cc : Int)] 5))
        have HBN := Aside0.mk (bN.alloc (.cells #[.int .u8 (cc : Int)] 5))
        have HBM := Aside0.mk bM
        have HBB0 := Aside0.mk hB0
        have hc8 := (Boxed.cell (show Boxed _ w.heap.size 3 (.int .i64 (mm : Int)) from (hB0.block _ HPs.out.lt).trans HPs.out))
        clear bO bN bM hB0
        refine ⟨trivial, ?_⟩
        gi_at_call 24
        refine (each_in _ _ _ _).mono ?_
        rintro e w' ⟨rfl, rfl⟩
        rw [World.size_alloc]
        obtain ⟨i0, hi0, hz0, hz1, hz2⟩ := info_parts info12f
        have hEN := fun (fn : Fn) (cs bs : Array Value) (W : World) => eql_func_nil (P := Try.prog) (t := 46) fn cs bs W (by kernel_rfl)
        have HSAME := Aside0.mk same_in
        have HOWS := Aside0.mk (show OB K81 _ (some ⟨b, 0, none⟩) (some (bkOfD lw)) from (HOs.out.below HBB0.out).ob)
        have hwlt := HPs.out.lt
        obtain ⟨i0, hi0, hz0, hz1, hz2⟩ := info_parts info12f
        have hEN := fun (fn : Fn) (cs bs : Array Value) (W : World) => eql_func_nil (P := Try.prog) (t := 46) fn cs bs W (by kernel_rfl)
        have HSAME := Aside0.mk same_in
        have HOWS := Aside0.mk (show OB K81 _ (some ⟨b, 0, none⟩) (some (bkOfD lw)) from (HOs.out.below HBB0.out).ob)
        have hwlt := HPs.out.lt
        obtain ⟨i0, hi0, hz0, hz1, hz2⟩ := info_parts info12f
        have hEN := fun (fn : Fn) (cs bs : Array Value) (W : World) => eql_func_nil (P := Try.prog) (t := 46) fn cs bs W (by kernel_rfl)
        have HSAME := Aside0.mk same_in
        have HOWS := Aside0.mk (show OB K81 _ (some ⟨b, 0, none⟩) (some (bkOfD lw)) from (HOs.out.below HBB0.out).ob)
        have hwlt := HPs.out.lt
        obtain ⟨i0, hi0, hz0, hz1, hz2⟩ := info_parts info12f
        have hEN := fun (fn : Fn) (cs bs : Array Value) (W : World) => eql_func_nil (P := Try.prog) (t := 46) fn cs bs W (by kernel_rfl)
        have HSAME := Aside0.mk same_in
        have HOWS := Aside0.mk (show OB K81 _ (some ⟨b, 0, none⟩) (some (bkOfD lw)) from (HOs.out.below HBB0.out).ob)
        have hwlt := HPs.out.lt
        obtain ⟨i0, hi0, hz0, hz1, hz2⟩ := info_parts info12f
        have hEN := fun (fn : Fn) (cs bs : Array Value) (W : World) => eql_func_nil (P := Try.prog) (t := 46) fn cs bs W (by kernel_rfl)
        have HSAME := Aside0.mk same_in
        have HOWS := Aside0.mk (show OB K81 _ (some ⟨b, 0, none⟩) (some (bkOfD lw)) from (HOs.out.below HBB0.out).ob)
        have hwlt := HPs.out.lt
        obtain ⟨i0, hi0, hz0, hz1, hz2⟩ := info_parts info12f
        have hEN := fun (fn : Fn) (cs bs : Array Value) (W : World) => eql_func_nil (P := Try.prog) (t := 46) fn cs bs W (by kernel_rfl)
        have HSAME := Aside0.mk same_in
        have HOWS := Aside0.mk (show OB K81 _ (some ⟨b, 0, none⟩) (some (bkOfD lw)) from (HOs.out.below HBB0.out).ob)
        have hwlt := HPs.out.lt
        obtain ⟨i0, hi0, hz0, hz1, hz2⟩ := info_parts info12f
        have hEN := fun (fn : Fn) (cs bs : Array Value) (W : World) => eql_func_nil (P := Try.prog) (t := 46) fn cs bs W (by kernel_rfl)
        have HSAME := Aside0.mk same_in
        have HOWS := Aside0.mk (show OB K81 _ (some ⟨b, 0, none⟩) (some (bkOfD lw)) from (HOs.out.below HBB0.out).ob)
        have hwlt := HPs.out.lt
        obtain ⟨i0, hi0, hz0, hz1, hz2⟩ := info_parts info12f
        have hEN := fun (fn : Fn) (cs bs : Array Value) (W : World) => eql_func_nil (P := Try.prog) (t := 46) fn cs bs W (by kernel_rfl)
        have HSAME := Aside0.mk same_in
        have HOWS := Aside0.mk (show OB K81 _ (some ⟨b, 0, none⟩) (some (bkOfD lw)) from (HOs.out.below HBB0.out).ob)
        have hwlt := HPs.out.lt
        by_cases hm0 : mm = 0
        · have hm1 : decide (0 < (mm : Int)) = false := decide_eq_false (by omega)
          have hm2 : decide (0 < mm) = false := decide_eq_false (by omega)
          obtain ⟨pre, hpre⟩ : ∃ pre : List Int, pre = [] := ⟨_, rfl⟩
          have HPRE := Aside0.mk (show pre = zs.take mm by rw [hpre, hm0]; rfl)
          have HMET : Aside0 (Boxed (((ws.alloc (.cells #[.slice none 0 0] 34)).alloc (.cells #[.pointer (some ⟨b, 0, none⟩)] 31)).alloc (.cells #[.int .u8 (cc : Int)] 5)) ws.heap.size 34 (.slice none pre.length 0)) := ⟨by rw [hpre]; exact HBO.out⟩
          have HMM := Aside0.mk (show Boxed _ w.heap.size 3 (.int .i64 (mm : Int)) from (HBB0.out.block _ HPs.out.lt).trans HPs.out)
          have HBW := Aside0.mk (below_step HBs.out HBB0.out)
          have HOW := HOWS
          have HRW : Aside0 (Kd.R (Kd.int .i64) 3 (((ws.alloc (.cells #[.slice none 0 0] 34)).alloc (.cells #[.pointer (some ⟨b, 0, none⟩)] 31)).alloc (.cells #[.int .u8 (cc : Int)] 5)) ws.heap.size (fun _ => True) (.slice none pre.length 0) pre) := ⟨by rw [hpre]; exact Kd.R_nil _ _ _ _ _⟩
          clear hpre hm0 HOWS HBO HBN HBM HBB0
          generalize (((ws.alloc (.cells #[.slice none 0 0] 34)).alloc (.cells #[.pointer (some ⟨b, 0, none⟩)] 31)).alloc (.cells #[.int .u8 (cc : Int)] 5)) = W at HMET HMM HBW HOW HRW hc8 ⊢
          clear hc8
          have hcM := HMET.out.cell
          have hcm := HMM.out.cell
          have hml : pre.length ≤ zs.length := by rw [HPRE.out, List.length_take]; omega
          by_cases hgt : mm < zs.length
          · have g1 : decide ((mm : Int) < (zs.length : Int)) = true := decide_eq_true (by omega)
            have g2 : decide (mm < zs.length) = true := decide_eq_true hgt
            have hpl : pre.length = mm := by rw [HPRE.out, List.length_take]; omega
            have HPL := Aside0.mk hpl
            clear hpl
            gi_wp2_with (refine ⟨trivial, ?_⟩; gi_at_call 16; refine (callsIn_wide.2 (HOF.out _ HOW.out)).mono ?_; rintro e W2 ⟨v2, rfl, hr2, hb2⟩; obtain ⟨A2, cp2, rfl⟩ := Kd.R_slice hr2; have HB2 := Aside0.mk (below_step HBW.out hb2); have HR2 := Aside0.mk (Kd.R_reads' hr2); have HMET2 := Aside0.mk ((hb2.block _ HMET.out.lt).trans HMET.out); have HMM2 := Aside0.mk ((hb2.block _ HMM.out.lt).trans HMM.out); have HRW2 := Aside0.mk (Kd.C_below (Kd.R_reads' HRW.out).2.2 hb2); have HCW := Aside0.mk (Kd.R_reads' HRW.out).2.1; skip; have hcM2 := Boxed.cell (show Boxed W2 ws.heap.size 34 (.slice none pre.length 0) from HMET2.out); have hcm2 := Boxed.cell (show Boxed W2 w.heap.size 3 (.int .i64 (mm : Int)) from HMM2.out); have hcut := fun W => cut_to (P := Try.prog) 34 3 .i64 Try.underlying34 hi0 A2 zs.length cp2 (mm : Int) (by omega) (by omega) HR2.out.2.1 W; rw [Int.toNat_natCast] at hcut; have HT := Aside0.mk (Kd.C_take (m := mm) HR2.out.2.2 (by omega)); rw [List.length_take, Nat.min_eq_left (by omega)] at HT; clear hr2 hb2 hcM hcm HMET HMM HRW HBW HOW)
            refine ⟨trivial, ?_⟩
            refine (callsIn_wide.2 (HSAME.out pre (zs.take mm) HPRE.out _ _ _ _ _ HRW2.out HCW.out (by rw [List.length_take, Nat.min_eq_left (by omega)]; exact HT.out) (by rw [List.length_take]; have := HR2.out.2.1; omega) mm (by rw [List.length_take]; omega))).mono ?_
            rintro e W3 ⟨rfl, ⟨q3, rfl⟩⟩
            have HB3 := Aside0.mk (pw_below_drewN HB2.out q3)
            skip
            clear HB2 HR2 HMET2 HMM2 HRW2 hcM2 hcm2
            generalize W2.drewN q3 = W3 at HB3  ⊢
            gi_wp2_with (refine ⟨trivial, ?_⟩; gi_at_call 11; refine (callsIn_wide.2 (awake_in _)).mono ?_; rintro e W4 ⟨rfl, hb4⟩; have HB4 := Aside0.mk (below_step HB3.out hb4); skip; clear hb4)
            exact ⟨_, results_tmp rfl _ _ _, rfl, HB4.out⟩
          · have g1 : decide ((mm : Int) < (zs.length : Int)) = false := decide_eq_false (by omega)
            have g2 : decide (mm < zs.length) = false := decide_eq_false hgt
            have HPZ := Aside0.mk (show pre = zs by rw [HPRE.out]; exact List.take_of_length_le (by omega))
            gi_wp2_with (refine ⟨trivial, ?_⟩; gi_at_call 16; refine (callsIn_wide.2 (HOF.out _ HOW.out)).mono ?_; rintro e W2 ⟨v2, rfl, hr2, hb2⟩; obtain ⟨A2, cp2, rfl⟩ := Kd.R_slice hr2; have HB2 := Aside0.mk (below_step HBW.out hb2); have HR2 := Aside0.mk (Kd.R_reads' hr2); have HMET2 := Aside0.mk ((hb2.block _ HMET.out.lt).trans HMET.out); have HMM2 := Aside0.mk ((hb2.block _ HMM.out.lt).trans HMM.out); have HRW2 := Aside0.mk (Kd.C_below (Kd.R_reads' HRW.out).2.2 hb2); have HCW := Aside0.mk (Kd.R_reads' HRW.out).2.1; skip; have hcM2 := Boxed.cell (show Boxed W2 ws.heap.size 34 (.slice none pre.length 0) from HMET2.out); have hcm2 := Boxed.cell (show Boxed W2 w.heap.size 3 (.int .i64 (mm : Int)) from HMM2.out); skip; clear hr2 hb2 hcM hcm HMET HMM HRW HBW HOW)
            refine ⟨trivial, ?_⟩
            refine (callsIn_wide.2 (HSAME.out pre zs HPZ.out _ _ _ _ _ HRW2.out HCW.out HR2.out.2.2 HR2.out.2.1 zs.length rfl)).mono ?_
            rintro e W3 ⟨rfl, ⟨q3, rfl⟩⟩
            have HB3 := Aside0.mk (pw_below_drewN HB2.out q3)
            skip
            clear HB2 HR2 HMET2 HMM2 HRW2 hcM2 hcm2
            generalize W2.drewN q3 = W3 at HB3  ⊢
            gi_wp2_with (refine ⟨trivial, ?_⟩; gi_at_call 11; refine (callsIn_wide.2 (awake_in _)).mono ?_; rintro e W4 ⟨rfl, hb4⟩; have HB4 := Aside0.mk (below_step HB3.out hb4); skip; clear hb4)
            exact ⟨_, results_tmp rfl _ _ _, rfl, HB4.out⟩
        · have hm1 : decide (0 < (mm : Int)) = true := decide_eq_true (by omega)
          have hm2 : decide (0 < mm) = true := decide_eq_true (by omega)
          gi_wp2
          refine wpIn_rangeFunc_ownG rfl (by omega) (gf := 58) (lb := #[.pointer (some ⟨ws.heap.size + 1, 0, none⟩), .pointer (some ⟨ws.heap.size + 2, 0, none⟩)]) rfl trivial (enters_of Try.func58 (by kernel_rfl) rfl)
            (each_stops 2 (by omega) (ws.heap.size + 1) (ws.heap.size + 2) ws.heap.size b cc cap A zs hcc (by omega) hblt _ ⟨by simp <;> omega, by simp⟩ (by simp <;> omega) HBN.out.cell HBM.out.cell ((HBB0.out.cell (p := ⟨b, cc, none⟩) hblt).trans HCELL.out)
              (fun h => by obtain ⟨ad, e, h1, h2⟩ := HA.out h; exact ⟨ad, e, h1, fun j hj => (HBB0.out.cell (p := ad.add j) (by unfold Addr.add; split <;> exact h1)).trans (h2 j hj)⟩)) belowK_t (belowK_b (by simp <;> omega)) (Below.refl _ _) (fun _ => rfl)
            (fun pre W => (∃ v, Boxed W ws.heap.size 34 v ∧ W.ownsRow ws.heap.size 3 1 v pre.length (pre.map (Value.int .i64)) ∧ pre.length < mm) ∧ Below ws.heap.size ws W)
            (fun c pre W => (∃ v, Boxed W ws.heap.size 34 v ∧ W.ownsRow ws.heap.size 3 1 v pre.length (pre.map (Value.int .i64)) ∧ (pre.length = mm ∧ c = Code.exit 4)) ∧ Below ws.heap.size ws W)
            (OwnFrom.and (Own.from (holdsRow_own ws.heap.size ws.heap.size 34 3 1 (fun pre : List Int => pre.length) (fun pre => pre.map (Value.int .i64)) (fun pre v => pre.length < mm)) _) (ownFrom_below (Nat.le_refl _) (by simp <;> omega)))
            (fun c => OwnFrom.and (Own.from (holdsRow_own ws.heap.size ws.heap.size 34 3 1 (fun pre : List Int => pre.length) (fun pre => pre.map (Value.int .i64)) (fun pre v => pre.length = mm ∧ c = Code.exit 4)) _) (ownFrom_below (Nat.le_refl _) (by simp <;> omega)))
            ⟨⟨_, HBO.out, World.ownsRow_nil _ _ _ _, by simp <;> omega⟩, HBB0.out⟩
            ?a1 ?assign ?body ?done ?stop
          case assign =>
            intro l x W K hK
            gi_wp2
            exact hK
          case body =>
            rintro l pre x W ⟨⟨v, hv, hrow, hlt⟩, hB⟩ hpl
            have hc := hv.cell
            have HBX := Aside0.mk (fun (W' : World) (h : Below ws.heap.size W W') => Boxed.cell (show Boxed W' w.heap.size 3 (.int .i64 (mm : Int)) from (h.block _ HPs.out.lt).trans ((hB.block _ HPs.out.lt).trans HPs.out)))
            by_cases hex : pre.length + 1 = mm
            · have e1 : ((pre.length : Int) + 1 == (mm : Int)) = true := beq_iff_eq.2 (by omega)
              have HEX := Aside0.mk hex
              clear hex
              gi_wp2_with (gi_at_builtin; refine wpListIn_append_own _ rfl _ _ 34 rfl ws.heap.size 3 i0 (.int .i64 0) 1 8 Try.underlying34 hi0 hz0 hz1 hz2 rfl (by decide) _ _ _ rfl (hrow.alloc _) ⟨W.heap.size, 0, none⟩ 1 1 [.int .i64 x] rfl rfl (cell_one_new _ _ _) (by simp [Value.oneCell']) (by unfold maxLen; omega) (by omega) (by have := hB.size; simp; omega) ?_; intro v' w1 hown' hgrow _; obtain ⟨g', cap', rfl⟩ := ownsRow_succ hown'; obtain ⟨hv1, hv2, hr2, hk2, hb2⟩ := hv.appended (by decide) hrow hB.size (Nat.le_refl _) hown' hgrow; have hc1 := hv1.cell; have hf1 := hv1.frozen; have hc2 := hv2.cell; have hc3 := HBX.out _ hb2)
              have hex := HEX.out
              exact ⟨hk2.from _, ⟨⟨_, hv2, by simpa using hr2, by simp; omega, rfl⟩, hB.trans hb2⟩⟩
            · have e1 : ((pre.length : Int) + 1 == (mm : Int)) = false := by
                rw [beq_eq_false_iff_ne]
                omega
              gi_wp2_with (gi_at_builtin; refine wpListIn_append_own _ rfl _ _ 34 rfl ws.heap.size 3 i0 (.int .i64 0) 1 8 Try.underlying34 hi0 hz0 hz1 hz2 rfl (by decide) _ _ _ rfl (hrow.alloc _) ⟨W.heap.size, 0, none⟩ 1 1 [.int .i64 x] rfl rfl (cell_one_new _ _ _) (by simp [Value.oneCell']) (by unfold maxLen; omega) (by omega) (by have := hB.size; simp; omega) ?_; intro v' w1 hown' hgrow _; obtain ⟨g', cap', rfl⟩ := ownsRow_succ hown'; obtain ⟨hv1, hv2, hr2, hk2, hb2⟩ := hv.appended (by decide) hrow hB.size (Nat.le_refl _) hown' hgrow; have hc1 := hv1.cell; have hf1 := hv1.frozen; have hc2 := hv2.cell; have hc3 := HBX.out _ hb2)
              exact ⟨hk2.from _, hb2, ⟨⟨_, hv2, by simpa using hr2, by simp; omega⟩, hB.trans hb2⟩⟩
          case done =>
            rintro D ys W hD rfl ⟨⟨v, hv, hrow, hlt⟩, hB⟩ hK
            obtain ⟨pre, hpr⟩ : ∃ pre : List Int, pre = ys := ⟨_, rfl⟩
            have HPRE := Aside0.mk (show pre = ys.take mm by rw [hpr, List.take_of_length_le (by omega)])
            rw [← hpr] at hrow
            have HMET := Aside0.mk hv
            have HMM := Aside0.mk (show Boxed W w.heap.size 3 (.int .i64 (mm : Int)) from (hB.block _ HPs.out.lt).trans HPs.out)
            have HBW := Aside0.mk (below_step HBs.out hB)
            have HOW := Aside0.mk (show OB K81 W (some ⟨b, 0, none⟩) (some (bkOfD lw)) from (HOs.out.below hB).ob)
            have HRW : Aside0 (Kd.R (Kd.int .i64) 3 W ws.heap.size (fun _ => True) v pre) := ⟨Kd.R_of_own (enc := Value.int .i64) (h1 := fun _ => rfl) hrow (fun _ _ => trivial)⟩
            have HK := Aside0.mk hK
            have HD := Aside0.mk (show w.heap.size ≤ D by simp at hD; omega)
            clear hv hrow hlt hB hK hD hpr HOWS HBO HBN HBM HBB0
            have hcM := HMET.out.cell
            have hcm := HMM.out.cell
            obtain ⟨Am, cm, rfl⟩ := Kd.R_slice HRW.out
            have hml : pre.length ≤ ys.length := by rw [HPRE.out, List.length_take]; omega
            by_cases hgt : mm < ys.length
            · have g1 : decide ((mm : Int) < (ys.length : Int)) = true := decide_eq_true (by omega)
              have g2 : decide (mm < ys.length) = true := decide_eq_true hgt
              have hpl : pre.length = mm := by rw [HPRE.out, List.length_take]; omega
              have HPL := Aside0.mk hpl
              clear hpl
              gi_wp2_with (refine ⟨trivial, ?_⟩; gi_at_call 16; refine (callsIn_wide.2 (HOF.out _ HOW.out)).mono ?_; rintro e W2 ⟨v2, rfl, hr2, hb2⟩; obtain ⟨A2, cp2, rfl⟩ := Kd.R_slice hr2; have HB2 := Aside0.mk (below_step HBW.out hb2); have HR2 := Aside0.mk (Kd.R_reads' hr2); have HMET2 := Aside0.mk ((hb2.block _ HMET.out.lt).trans HMET.out); have HMM2 := Aside0.mk ((hb2.block _ HMM.out.lt).trans HMM.out); have HRW2 := Aside0.mk (Kd.C_below (Kd.R_reads' HRW.out).2.2 hb2); have HCW := Aside0.mk (Kd.R_reads' HRW.out).2.1; have HK2 := Aside0.mk ((hb2.block _ (Array.getElem?_eq_some_iff.1 HK.out).1).trans HK.out); have hcM2 := Boxed.cell (show Boxed W2 ws.heap.size 34 (.slice Am pre.length cm) from HMET2.out); have hcm2 := Boxed.cell (show Boxed W2 w.heap.size 3 (.int .i64 (mm : Int)) from HMM2.out); have hcut := fun W => cut_to (P := Try.prog) 34 3 .i64 Try.underlying34 hi0 A2 ys.length cp2 (mm : Int) (by omega) (by omega) HR2.out.2.1 W; rw [Int.toNat_natCast] at hcut; have HT := Aside0.mk (Kd.C_take (m := mm) HR2.out.2.2 (by omega)); rw [List.length_take, Nat.min_eq_left (by omega)] at HT; clear hr2 hb2 hcM hcm HMET HMM HRW HBW HOW)
              refine ⟨trivial, ?_⟩
              refine (callsIn_wide.2 (HSAME.out pre (ys.take mm) HPRE.out _ _ _ _ _ HRW2.out HCW.out (by rw [List.length_take, Nat.min_eq_left (by omega)]; exact HT.out) (by rw [List.length_take]; have := HR2.out.2.1; omega) mm (by rw [List.length_take]; omega))).mono ?_
              rintro e W3 ⟨rfl, ⟨q3, rfl⟩⟩
              have HB3 := Aside0.mk (pw_below_drewN HB2.out q3)
              have HK3 : Aside0 ((W2.drewN q3).heap[D]? = some (.deferred (some []))) := ⟨HK2.out⟩
              clear HK2
              clear HB2 HR2 HMET2 HMM2 HRW2 hcM2 hcm2
              generalize W2.drewN q3 = W3 at HB3 HK3 ⊢
              gi_wp2_with (refine ⟨trivial, ?_⟩; gi_at_call 11; refine (callsIn_wide.2 (awake_in _)).mono ?_; rintro e W4 ⟨rfl, hb4⟩; have HB4 := Aside0.mk (below_step HB3.out hb4); have HK4 := Aside0.mk ((hb4.block _ (Array.getElem?_eq_some_iff.1 HK3.out).1).trans HK3.out); clear hb4)
              refine ⟨by simp, .inl ⟨_, _, rfl, run_takeDeferred HK4.out, ?_⟩⟩
              exact ⟨_, results_tmp rfl _ _ _, rfl, HB4.out.trans (belowK_b (w := w) (Nat.le_refl _) W4 D _ _ (by have := HD.out; omega) HK4.out rfl rfl)⟩
            · have g1 : decide ((mm : Int) < (ys.length : Int)) = false := decide_eq_false (by omega)
              have g2 : decide (mm < ys.length) = false := decide_eq_false hgt
              have HPZ := Aside0.mk (show pre = ys by rw [HPRE.out]; exact List.take_of_length_le (by omega))
              gi_wp2_with (refine ⟨trivial, ?_⟩; gi_at_call 16; refine (callsIn_wide.2 (HOF.out _ HOW.out)).mono ?_; rintro e W2 ⟨v2, rfl, hr2, hb2⟩; obtain ⟨A2, cp2, rfl⟩ := Kd.R_slice hr2; have HB2 := Aside0.mk (below_step HBW.out hb2); have HR2 := Aside0.mk (Kd.R_reads' hr2); have HMET2 := Aside0.mk ((hb2.block _ HMET.out.lt).trans HMET.out); have HMM2 := Aside0.mk ((hb2.block _ HMM.out.lt).trans HMM.out); have HRW2 := Aside0.mk (Kd.C_below (Kd.R_reads' HRW.out).2.2 hb2); have HCW := Aside0.mk (Kd.R_reads' HRW.out).2.1; have HK2 := Aside0.mk ((hb2.block _ (Array.getElem?_eq_some_iff.1 HK.out).1).trans HK.out); have hcM2 := Boxed.cell (show Boxed W2 ws.heap.size 34 (.slice Am pre.length cm) from HMET2.out); have hcm2 := Boxed.cell (show Boxed W2 w.heap.size 3 (.int .i64 (mm : Int)) from HMM2.out); skip; clear hr2 hb2 hcM hcm HMET HMM HRW HBW HOW)
              refine ⟨trivial, ?_⟩
              refine (callsIn_wide.2 (HSAME.out pre ys HPZ.out _ _ _ _ _ HRW2.out HCW.out HR2.out.2.2 HR2.out.2.1 ys.length rfl)).mono ?_
              rintro e W3 ⟨rfl, ⟨q3, rfl⟩⟩
              have HB3 := Aside0.mk (pw_below_drewN HB2.out q3)
              have HK3 : Aside0 ((W2.drewN q3).heap[D]? = some (.deferred (some []))) := ⟨HK2.out⟩
              clear HK2
              clear HB2 HR2 HMET2 HMM2 HRW2 hcM2 hcm2
              generalize W2.drewN q3 = W3 at HB3 HK3 ⊢
              gi_wp2_with (refine ⟨trivial, ?_⟩; gi_at_call 11; refine (callsIn_wide.2 (awake_in _)).mono ?_; rintro e W4 ⟨rfl, hb4⟩; have HB4 := Aside0.mk (below_step HB3.out hb4); have HK4 := Aside0.mk ((hb4.block _ (Array.getElem?_eq_some_iff.1 HK3.out).1).trans HK3.out); clear hb4)
              refine ⟨by simp, .inl ⟨_, _, rfl, run_takeDeferred HK4.out, ?_⟩⟩
              exact ⟨_, results_tmp rfl _ _ _, rfl, HB4.out.trans (belowK_b (w := w) (Nat.le_refl _) W4 D _ _ (by have := HD.out; omega) HK4.out rfl rfl)⟩
          case stop =>
            rintro D c pre W hD hpre ⟨⟨v, hv, hrow, ⟨hpl, rfl⟩⟩, hB⟩ hK
            have HPRE := Aside0.mk (show pre = zs.take mm by rw [← hpl]; exact List.prefix_iff_eq_take.1 hpre)
            have HMET := Aside0.mk hv
            have HMM := Aside0.mk (show Boxed W w.heap.size 3 (.int .i64 (mm : Int)) from (hB.block _ HPs.out.lt).trans HPs.out)
            have HBW := Aside0.mk (below_step HBs.out hB)
            have HOW := Aside0.mk (show OB K81 W (some ⟨b, 0, none⟩) (some (bkOfD lw)) from (HOs.out.below hB).ob)
            have HRW : Aside0 (Kd.R (Kd.int .i64) 3 W ws.heap.size (fun _ => True) v pre) := ⟨Kd.R_of_own (enc := Value.int .i64) (h1 := fun _ => rfl) hrow (fun _ _ => trivial)⟩
            have HK := Aside0.mk hK
            have HD := Aside0.mk (show w.heap.size ≤ D by simp at hD; omega)
            clear hv hrow hB hK hD hpre hpl HOWS HBO HBN HBM HBB0
            have hcM := HMET.out.cell
            have hcm := HMM.out.cell
            obtain ⟨Am, cm, rfl⟩ := Kd.R_slice HRW.out
            have hml : pre.length ≤ zs.length := by rw [HPRE.out, List.length_take]; omega
            by_cases hgt : mm < zs.length
            · have g1 : decide ((mm : Int) < (zs.length : Int)) = true := decide_eq_true (by omega)
              have g2 : decide (mm < zs.length) = true := decide_eq_true hgt
              have hpl : pre.length = mm := by rw [HPRE.out, List.length_take]; omega
              have HPL := Aside0.mk hpl
              clear hpl
              gi_wp2_with (refine ⟨trivial, ?_⟩; gi_at_call 16; refine (callsIn_wide.2 (HOF.out _ HOW.out)).mono ?_; rintro e W2 ⟨v2, rfl, hr2, hb2⟩; obtain ⟨A2, cp2, rfl⟩ := Kd.R_slice hr2; have HB2 := Aside0.mk (below_step HBW.out hb2); have HR2 := Aside0.mk (Kd.R_reads' hr2); have HMET2 := Aside0.mk ((hb2.block _ HMET.out.lt).trans HMET.out); have HMM2 := Aside0.mk ((hb2.block _ HMM.out.lt).trans HMM.out); have HRW2 := Aside0.mk (Kd.C_below (Kd.R_reads' HRW.out).2.2 hb2); have HCW := Aside0.mk (Kd.R_reads' HRW.out).2.1; have HK2 := Aside0.mk ((hb2.block _ (Array.getElem?_eq_some_iff.1 HK.out).1).trans HK.out); have hcM2 := Boxed.cell (show Boxed W2 ws.heap.size 34 (.slice Am pre.length cm) from HMET2.out); have hcm2 := Boxed.cell (show Boxed W2 w.heap.size 3 (.int .i64 (mm : Int)) from HMM2.out); have hcut := fun W => cut_to (P := Try.prog) 34 3 .i64 Try.underlying34 hi0 A2 zs.length cp2 (mm : Int) (by omega) (by omega) HR2.out.2.1 W; rw [Int.toNat_natCast] at hcut; have HT := Aside0.mk (Kd.C_take (m := mm) HR2.out.2.2 (by omega)); rw [List.length_take, Nat.min_eq_left (by omega)] at HT; clear hr2 hb2 hcM hcm HMET HMM HRW HBW HOW)
              refine ⟨trivial, ?_⟩
              refine (callsIn_wide.2 (HSAME.out pre (zs.take mm) HPRE.out _ _ _ _ _ HRW2.out HCW.out (by rw [List.length_take, Nat.min_eq_left (by omega)]; exact HT.out) (by rw [List.length_take]; have := HR2.out.2.1; omega) mm (by rw [List.length_take]; omega))).mono ?_
              rintro e W3 ⟨rfl, ⟨q3, rfl⟩⟩
              have HB3 := Aside0.mk (pw_below_drewN HB2.out q3)
              have HK3 : Aside0 ((W2.drewN q3).heap[D]? = some (.deferred (some []))) := ⟨HK2.out⟩
              clear HK2
              clear HB2 HR2 HMET2 HMM2 HRW2 hcM2 hcm2
              generalize W2.drewN q3 = W3 at HB3 HK3 ⊢
              gi_wp2_with (refine ⟨trivial, ?_⟩; gi_at_call 11; refine (callsIn_wide.2 (awake_in _)).mono ?_; rintro e W4 ⟨rfl, hb4⟩; have HB4 := Aside0.mk (below_step HB3.out hb4); have HK4 := Aside0.mk ((hb4.block _ (Array.getElem?_eq_some_iff.1 HK3.out).1).trans HK3.out); clear hb4)
              refine ⟨by simp, .inl ⟨_, _, rfl, run_takeDeferred HK4.out, ?_⟩⟩
              exact ⟨_, results_tmp rfl _ _ _, rfl, HB4.out.trans (belowK_b (w := w) (Nat.le_refl _) W4 D _ _ (by have := HD.out; omega) HK4.out rfl rfl)⟩
            · have g1 : decide ((mm : Int) < (zs.length : Int)) = false := decide_eq_false (by omega)
              have g2 : decide (mm < zs.length) = false := decide_eq_false hgt
              have HPZ := Aside0.mk (show pre = zs by rw [HPRE.out]; exact List.take_of_length_le (by omega))
              gi_wp2_with (refine ⟨trivial, ?_⟩; gi_at_call 16; refine (callsIn_wide.2 (HOF.out _ HOW.out)).mono ?_; rintro e W2 ⟨v2, rfl, hr2, hb2⟩; obtain ⟨A2, cp2, rfl⟩ := Kd.R_slice hr2; have HB2 := Aside0.mk (below_step HBW.out hb2); have HR2 := Aside0.mk (Kd.R_reads' hr2); have HMET2 := Aside0.mk ((hb2.block _ HMET.out.lt).trans HMET.out); have HMM2 := Aside0.mk ((hb2.block _ HMM.out.lt).trans HMM.out); have HRW2 := Aside0.mk (Kd.C_below (Kd.R_reads' HRW.out).2.2 hb2); have HCW := Aside0.mk (Kd.R_reads' HRW.out).2.1; have HK2 := Aside0.mk ((hb2.block _ (Array.getElem?_eq_some_iff.1 HK.out).1).trans HK.out); have hcM2 := Boxed.cell (show Boxed W2 ws.heap.size 34 (.slice Am pre.length cm) from HMET2.out); have hcm2 := Boxed.cell (show Boxed W2 w.heap.size 3 (.int .i64 (mm : Int)) from HMM2.out); skip; clear hr2 hb2 hcM hcm HMET HMM HRW HBW HOW)
              refine ⟨trivial, ?_⟩
              refine (callsIn_wide.2 (HSAME.out pre zs HPZ.out _ _ _ _ _ HRW2.out HCW.out HR2.out.2.2 HR2.out.2.1 zs.length rfl)).mono ?_
              rintro e W3 ⟨rfl, ⟨q3, rfl⟩⟩
              have HB3 := Aside0.mk (pw_below_drewN HB2.out q3)
              have HK3 : Aside0 ((W2.drewN q3).heap[D]? = some (.deferred (some []))) := ⟨HK2.out⟩
              clear HK2
              clear HB2 HR2 HMET2 HMM2 HRW2 hcM2 hcm2
              generalize W2.drewN q3 = W3 at HB3 HK3 ⊢
              gi_wp2_with (refine ⟨trivial, ?_⟩; gi_at_call 11; refine (callsIn_wide.2 (awake_in _)).mono ?_; rintro e W4 ⟨rfl, hb4⟩; have HB4 := Aside0.mk (below_step HB3.out hb4); have HK4 := Aside0.mk ((hb4.block _ (Array.getElem?_eq_some_iff.1 HK3.out).1).trans HK3.out); clear hb4)
              refine ⟨by simp, .inl ⟨_, _, rfl, run_takeDeferred HK4.out, ?_⟩⟩
              exact ⟨_, results_tmp rfl _ _ _, rfl, HB4.out.trans (belowK_b (w := w) (Nat.le_refl _) W4 D _ _ (by have := HD.out; omega) HK4.out rfl rfl)⟩
set_option maxHeartbeats 1000000 in
theorem juratlaw12_BucketOnce.calls (A0 : Option Addr) (c0 : Nat) (l0 : List ByteArray) (a1 a2 : Int) (r : Bool) (w : World) (hr0 : Kd.C Kd.string w A0 l0.length l0) (hc0 : l0.length ≤ c0) (h : juratlaw12_BucketOnce.f l0 a1 a2 = some r) :
    Calls Try.prog 4 #[.slice A0 l0.length c0, .int .u8 a1, .int .i64 a2] w fun e w' => e = .returned (.bool r) ∧ Below w.heap.size w w' := by
  unfold juratlaw12_BucketOnce.f at h
  by_cases g : (0 ≤ a1 ∧ a1 ≤ 255) ∧ l0.length * 16 ≤ 140737488351232
  rotate_left
  · rw [if_neg g] at h; cases h
  rw [if_pos g] at h
  obtain rfl := Option.some.inj h
  obtain ⟨cc, rfl⟩ : ∃ n : Nat, a1 = n := ⟨a1.toNat, by omega⟩
  exact callsIn_wide.1 (once_in A0 c0 l0 cc a2 w hr0 hc0 (by omega) (by omega))

end Go.Proofs.Ytnpkbnfiadkgnaa.P

/- Proved: for all texts, every byte and every number the law BucketOnce of layer 12 answers true. No condition beyond the statement's own. -/
namespace Go.Proofs.Ytnpkbnfiadkgnaa.Pure
open Go Go.RowKit Go.Proofs.Ytnpkbnfiadkgnaa.P Go.Proofs.Ytnpkbnfiadkgnaa.Base
theorem BucketOnce (l : List ByteArray) (c m : Int) (hl : l.length * 16 ≤ 140737488351232) (_ : ∀ x ∈ l, x.size ≤ maxLen) (hc : (Lit.int .u8 c).wf = true) (_ : (Lit.int .i64 m).wf = true) : juratlaw12_BucketOnce.f l c m = some true := if_pos ⟨⟨(wf8 hc).1, by have := (wf8 hc).2; omega⟩, hl⟩

end Go.Proofs.Ytnpkbnfiadkgnaa.Pure

/- How a law's arguments are opened: slices of texts and of numbers, as lists, with their sizes out of the row's weights. -/
namespace Go.Proofs.Ytnpkbnfiadkgnaa.RowS
open Go Go.ChangeShapes Go.WideShapes Go.RowKit Go.Proofs.YtnpkbnfiadkgnaaW.PrintWords

theorem slice_strings {H : Type} {enc : TypeId × Value → H} {P : Program} {W : World} {t e : TypeId} {a : Option Addr} {len cap : Nat} {d : DataW H} {ps : List MemPlace} {ts : List TypeId} {ds : List (DataW H)} {j : Nat}
    (hsz : (DataW.weightsEach P ts ds).all (· ≤ reachBytes) = true) (ht : ts[j]? = some t) (hd : ds[j]? = some d) (hu : P.underlying t = some (.slice e)) (he : P.underlying e = some .string) (hc : P.cellsOf e = 1) (hB : P.bytesOf e = 16)
    (h : DataW.Trod enc P W 0 (fun _ => true) true t (.slice a len cap) d ps) :
    ∃ l : List ByteArray, l.length = len ∧ len ≤ cap ∧ Kd.C Kd.string W a l.length l ∧ l.length * 16 ≤ 140737488351232 ∧ ∀ s ∈ l, s.size ≤ maxLen := by
  obtain ⟨fuel, hf⟩ := h
  rcases open_strings hu he hc hf with ⟨hcs, _⟩ | ⟨x, l, c, ss, hcs, _, hl, hm, hz, hx, hcell, hw⟩
  · simp [Value.cells] at hcs
    obtain ⟨rfl, rfl, rfl⟩ := hcs
    exact ⟨[], rfl, Nat.le_refl _, Kd.C_nil _ _, by simp, by simp⟩
  · simp [Value.cells] at hcs
    obtain ⟨rfl, rfl, rfl⟩ := hcs
    obtain ⟨hx, _⟩ := Prod.mk.inj hx
    subst hx
    have z := sized_slice hsz ht hd hu
    rw [hB] at z
    rw [if_pos rfl] at hz
    have hl2 : len ≤ ss.length := by omega
    have h1 : (strs (H := H) (ss.take len)).length + (strs (H := H) (ss.drop len)).length = ss.length := by
      simp [strs]
      omega
    rw [h1] at z
    have hlen : (ss.take len).length = len := by rw [List.length_take]; omega
    refine ⟨ss.take len, hlen, hl, Kd.C_of_reads (d := ByteArray.empty) (h1 := fun _ => rfl) ⟨rfl, by rw [hlen]; unfold maxLen at hm; omega, fun _ => ⟨x, rfl, fun i hi => ?_⟩⟩, ?_, fun s hs => hw s (List.mem_of_mem_take hs)⟩
    · rw [hlen] at hi
      rw [hcell i (by omega), List.getD_eq_getElem?_getD, List.getD_eq_getElem?_getD, List.getElem?_take_of_lt hi]
    · rw [hlen]
      exact Nat.le_trans (Nat.mul_le_mul_right _ hl2) z
theorem slice_ints {H : Type} {enc : TypeId × Value → H} {P : Program} {W : World} {t e : TypeId} {k : IntKind} {a : Option Addr} {len cap : Nat} {d : DataW H} {ps : List MemPlace} {ts : List TypeId} {ds : List (DataW H)} {j : Nat}
    (hsz : (DataW.weightsEach P ts ds).all (· ≤ reachBytes) = true) (ht : ts[j]? = some t) (hd : ds[j]? = some d) (hu : P.underlying t = some (.slice e)) (he : P.underlying e = some (.int k)) (hc : P.cellsOf e = 1) {B : Nat} (hB : P.bytesOf e = B)
    (h : DataW.Trod enc P W 0 (fun _ => true) true t (.slice a len cap) d ps) :
    ∃ l : List Int, l.length = len ∧ len ≤ cap ∧ Kd.C (Kd.int k) W a l.length l ∧ l.length ≤ maxLen ∧ l.length * B ≤ 140737488351232 ∧ ∀ n ∈ l, (Lit.int k n).wf = true := by
  have y := sized_ints hsz ht hd hu he hc hB h
  obtain ⟨fuel, hf⟩ := h
  rcases open_ints hu he hc hf with ⟨hcs, _⟩ | ⟨x, l, c, zs, hcs, _, hl, hm, hz, _, hcell, hw⟩
  · simp [Value.cells] at hcs
    obtain ⟨rfl, rfl, rfl⟩ := hcs
    exact ⟨[], rfl, Nat.le_refl _, Kd.C_nil _ _, by simp, by simp, by simp⟩
  · simp [Value.cells] at hcs
    obtain ⟨rfl, rfl, rfl⟩ := hcs
    rw [if_pos rfl] at hz
    have hlen : (zs.take len).length = len := by rw [List.length_take]; omega
    refine ⟨zs.take len, hlen, hl, Kd.C_of_reads (d := (0 : Int)) (h1 := fun _ => rfl) ⟨rfl, by rw [hlen]; unfold maxLen at hm; omega, fun _ => ⟨x, rfl, fun i hi => ?_⟩⟩, by rw [hlen]; omega, by rw [hlen]; exact y, fun s hs => hw s (List.mem_of_mem_take hs)⟩
    rw [hlen] at hi
    rw [hcell i (by omega), List.getD_eq_getElem?_getD, List.getD_eq_getElem?_getD, List.getElem?_take_of_lt hi]

end Go.Proofs.Ytnpkbnfiadkgnaa.RowS

/- The row of the law BucketOnce, out of its plain statement and the walk; written for this claim by a program of this session (wip/mkrow.py). -/
namespace Go.Proofs.Ytnpkbnfiadkgnaa.bucketOnce
open Go.ChangeShapes Go.WideShapes Go.ChangeAt Go.RowKit
open Go.ChangeMaps (open_string shut_string)
set_option linter.unusedVariables false
theorem own : ownKnob Try.prog.godebug = none := by kernel_rfl
theorem laidOut : laidOutB Try.prog = true := by kernel_rfl
set_option maxRecDepth 100000 in
theorem lifted (os : Os) (started : os.Started) (H : Type) (enc : TypeId × Value → H) :
    ReturnsInHanded {} Try.checked os 4 .any (Rows.bucketOnceSpec.pre6 enc Try.prog Try.f4 Rows.bucketOnceRow.domain false) (Rows.bucketOnceSpec.post enc Try.prog Try.f4 false true false false) := by
  refine returnsInHanded_of_change_sized (C := Try.checked) own started (by kernel_rfl) Try.func4
    (ChangeSpec.witness6 (enc := enc) (C := Try.checked) false ⟨#[], #[.slice none 0 0, .int .u8 0, .int .i64 0], []⟩ 8 (by kernel_rfl) (by kernel_rfl) (by kernel_rfl) (by kernel_rfl)) ?_
  intro W base args ds gs before hval0 hW hcnd hsz0 _
  have hsz : (DataW.weightsEach Try.prog (Try.f4.params.toList ++ Rows.bucketOnceSpec.plain.varTypes Try.prog) (ds ++ gs)).all (· ≤ reachBytes) = true := hsz0
  have hval : ∀ (j : Nat) t v, Try.f4.params[j]? = some t → args[j]? = some v → Value.okWide Try.prog W .any base t v := hval0
  have hW' := hW
  obtain ⟨p, q, hA0, hV, rfl, hfz, hnd⟩ := hW
  have hA : DataW.TrodAll enc Try.prog W 0 (fun _ => true) true Try.f4.params.toList args.toList ds p := hA0
  rw [Try.params4] at hA hval hsz
  obtain ⟨v0, vs0, d0, ds0, p0, q0, hargs, rfl, rfl, h0, r0⟩ := trodAll_cons hA
  obtain ⟨v1, vs1, d1, ds1, p1, q1, rfl, rfl, rfl, h1, r1⟩ := trodAll_cons r0
  obtain ⟨v2, vs2, d2, ds2, p2, q2, rfl, rfl, rfl, h2, r2⟩ := trodAll_cons r1
  obtain ⟨rfl, rfl, rfl⟩ := trodAll_nil r2
  obtain rfl : args = #[v0, v1, v2] := by cases args; simp_all
  obtain ⟨rfl, rfl⟩ := trodVars_none hV
  obtain ⟨a0, len0, cap0, rfl⟩ := okWide_slice Try.underlying22 (hval 0 22 v0 rfl rfl)
  have k0 := h0
  have lt0 : ∀ x ∈ p0, x.block < W.heap.size := by obtain ⟨m, hm⟩ := k0; exact DataW.trod_lt m _ _ _ hm
  obtain ⟨l0, hn0, hc0, hr0, y0, w0⟩ := RowS.slice_strings hsz (j := 0) (t := 22) rfl rfl Try.underlying22 Try.underlying9 (by kernel_rfl) (by kernel_rfl) h0
  subst hn0
  obtain ⟨a1, rfl, rfl, rfl, w1⟩ := open_int Try.underlying5 (hval 1 5 v1 rfl rfl) h1
  obtain ⟨a2, rfl, rfl, rfl, w2⟩ := open_int Try.underlying3 (hval 2 3 v2 rfl rfl) h2
  clear hA0 hval0 hsz0 hsz
  have hk := Pure.BucketOnce l0 a1 a2 y0 w0 w1 w2
  refine (P.juratlaw12_BucketOnce.calls a0 cap0 l0 a1 a2 true W hr0 hc0 hk).mono fun e W' ⟨he, bel⟩ => ?_
  subst he
  exact ⟨_, rfl, _, _, _, [], _, [], hW', trodAll_mk1 (shut_bool Try.underlying4 _), (trodAll_cons_mk (Below.trod laidOut (by kernel_rfl) (of_decide_eq_true (by kernel_rfl)) k0 bel lt0) (trodAll_cons_mk (shut_int Try.underlying5 w1) (trodAll_cons_mk (shut_int Try.underlying3 w2) trodAll_mk0))), rfl, bel.frame _, fun h => by cases h⟩
theorem over : Rows.bucketOnceRow.holds Try.pinned (OpenSpec.ofChange Rows.bucketOnceSpec) :=
  OpenClaim.holds_of_wide 4 Try.f4 rfl rfl rfl rfl rfl rfl rfl ⟨rfl, rfl, rfl, rfl, rfl⟩ rfl rfl rfl rfl rfl (by kernel_rfl) Try.func4 (by kernel_rfl)
    (of_decide_eq_true (by kernel_rfl)) (by unfold Func.isWrapper; first | (rw [if_pos (by decide +kernel)]; kernel_rfl) | (rw [if_neg (by decide +kernel)]; exact ⟨rfl, rfl⟩))
    (fun os started H enc _ => lifted os started H enc)
theorem proved : Rows.BucketOnceSaid := over
#print axioms proved
end Go.Proofs.Ytnpkbnfiadkgnaa.bucketOnce
namespace Go.Proofs.Ytnpkbnfiadkgnaa
/-- The row, under a short name, for the claim. -/
theorem bucketOnce_holds : Rows.BucketOnceSaid := bucketOnce.proved
end Go.Proofs.Ytnpkbnfiadkgnaa
