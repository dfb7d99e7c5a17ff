/- Proved here: the row of the law ClassForeign, with the plain texts that lead to it, merged by a program of this session (wip/merge.py); no condition beyond the statement's own. -/
import Derived.Test.YtdfcmkmdioddnaaPx0
import Derived.Test.YtdfcmkmdioddnaaN09
import Derived.Test.YtdfcmkmdioddnaaH10
import Derived.Test.YtdfcmkmdioddnaaH10b
import Derived.Test.YtdfcmkmdioddnaaPx14
import Derived.Test.YtdfcmkmdioddnaaH18
import Derived.Test.YtdfcmkmdioddnaaPx25
import Derived.Test.YtdfcmkmdioddnaaF08
import Derived.Test.YtdfcmkmdioddnaaPx59
import Derived.Test.YtdfcmkmdioddnaaPx28
import Derived.Test.YtdfcmkmdioddnaaPx6
import Derived.SizedLaws
import Derived.SliceStrings
import Derived.Test.YtdfcmkmdioddnaaWWords
import Derived.Test.YtdfcmkmdioddnaaWSized
import Derived.Test.YtdfcmkmdioddnaaRows
import Derived.WalkKit
import Derived.ProofKit
import Derived.OpenShut
import Derived.ShutString
import Derived.ChangeOld
import Derived.Below
import Derived.Carry
/- Proved here: what Go functions of this seat compute, or a law of it; no condition beyond the statement's own. Written for this claim by a program of this session (wip/myprint.py) over the kit's print.py. -/
namespace Go.Proofs.Ytdfcmkmdioddnaa.P
open Go.RowKit Go.Proofs.YtdfcmkmdioddnaaW.PrintWords Go.Proofs.YtdfcmkmdioddnaaW.PrintLast Go.Proofs.YtdfcmkmdioddnaaW.PrintMore
attribute [local go_sem] max2_int min2_int max_two min_two max_three min_three max_four min_four   -- for this text's walks alone
set_option linter.unusedVariables false
set_option linter.unusedSimpArgs false

/-! ### juratref10_Least: function 21 -/
def juratref10_Least.l0 : Nat → List ByteArray → Int → Int → Option (Int)
  | 0, _, _, _ => none
  | k + 1, x0, x3, x4 => if x4 < (x0.length : Int) then (if x4 = 0 then (if 0 ≤ x4 then (juratref10_Least.l0 k x0 ((rdOf ByteArray.empty x0 x4).size : Int) (wrap64 (x4 + 1))) else (none)) else (if 0 ≤ x4 then (if ((rdOf ByteArray.empty x0 x4).size : Int) < x3 then (juratref10_Least.l0 k x0 ((rdOf ByteArray.empty x0 x4).size : Int) (wrap64 (x4 + 1))) else (juratref10_Least.l0 k x0 x3 (wrap64 (x4 + 1)))) else (none))) else (some x3)
def juratref10_Least.f (k : Nat) (l0 : List ByteArray) : Option (Int) := juratref10_Least.l0 k l0 0 0
theorem juratref10_Least.mono_l : ∀ k, (∀ y0 y1 y2, LeO (juratref10_Least.l0 k y0 y1 y2) (juratref10_Least.l0 (k + 1) y0 y1 y2))
  | 0 => fun _ _ _ r h => by simp [juratref10_Least.l0] at h
  | k + 1 => by
    have ih0 := juratref10_Least.mono_l k
    · intro y0 y1 y2
      unfold juratref10_Least.l0
      repeat' first
      | (with_reducible exact ih0 _ _ _)
      | (with_reducible exact LeO.refl _)
      | (with_reducible exact LeO.none _)
      | (with_reducible refine LeO.ite ?_ ?_)
      | (with_reducible refine LeO.bind ?_ (fun _ => ?_))
      | exact ih0 _ _ _
      | exact LeO.none _
      | refine LeO.ite ?_ ?_
      | refine LeO.bind ?_ (fun _ => ?_)
theorem juratref10_Least.mono : ∀ a0 k, LeO (juratref10_Least.f k a0) (juratref10_Least.f (k + 1) a0) := by
  intro a0 k
  have ih0 := juratref10_Least.mono_l k
  unfold juratref10_Least.f
  repeat' first
      | (with_reducible exact ih0 _ _ _)
      | (with_reducible exact LeO.refl _)
      | (with_reducible exact LeO.none _)
      | (with_reducible refine LeO.ite ?_ ?_)
      | (with_reducible refine LeO.bind ?_ (fun _ => ?_))
      | exact ih0 _ _ _
      | exact LeO.none _
      | refine LeO.ite ?_ ?_
      | refine LeO.bind ?_ (fun _ => ?_)
set_option maxHeartbeats 8000000 in
set_option maxRecDepth 100000 in
theorem juratref10_Least.calls (k : Nat) (A0 : Option Addr) (c0 : Nat) (l0 : List ByteArray) (r : Int) (w : World) (hr0 : Kd.C Kd.string w A0 l0.length l0) (hc0 : l0.length ≤ c0) (h : juratref10_Least.f k l0 = some r) :
    Calls Try.prog 21 #[.slice A0 l0.length c0] w fun e w' => e = .returned (.int .i64 r) ∧ Drawn0 w w' := by
  have HR0 := Aside0.mk hr0
  have HC0 := Aside0.mk hc0
  clear hr0 hc0
  have H : (juratref10_Least.l0 k l0 0 0) = some r := h
  clear h
  have H' := Aside0.mk H
  clear H
  go_enter Try.func21, Try.ntmps21
  go_wp2
  go_loopg [3, 4] k (fun kq v3 v4 w' => ∃ (x3_1 : Int) (x4_1 : Int), v3 = .int .i64 x3_1 ∧ v4 = .int .i64 x4_1 ∧ Aside0 (juratref10_Least.l0 kq l0 x3_1 x4_1 = some r) ∧ Aside0 (kq ≤ k) ∧ Drawn0 w w')
  case atStart => exact ⟨(0), (0), (by first | rfl | exact isE_ _ | exact isE2_ _ | (simp; done) | (simp [*]; done)), (by first | rfl | exact isE_ _ | exact isE2_ _ | (simp; done) | (simp [*]; done)), H', ⟨Nat.le_refl _⟩, by repeat (first | exact Drawn0.refl _ | apply Drawn0.step)⟩
  case round =>
    clear H'
    obtain ⟨x3_1, x4_1, rfl, rfl, HA, HK1, ⟨m1, rfl⟩⟩ := hrel
    cases gk with
    | zero => exact absurd HA.out (by simp [juratref10_Least.l0])
    | succ k1 =>
      have H := HA.out
      clear HA
      simp only [juratref10_Least.l0] at H
      by_cases c2 : x4_1 < (l0.length : Int)
      · rw [if_pos c2] at H
        have c2b0 : decide (x4_1 < (l0.length : Int)) = true := decide_eq_true c2
        clear c2
        by_cases c3 : x4_1 = 0
        · rw [if_pos c3] at H
          have c3b0 : (x4_1 == 0) = true := beq_iff_eq.mpr c3
          have c3b1 : (x4_1 != 0) = false := bne_eq_false_iff_eq.mpr c3
          clear c3
          by_cases c4 : 0 ≤ x4_1
          · rw [if_pos c4] at H
            have c4b0 : decide (0 ≤ x4_1) = true := decide_eq_true c4
            clear c4
            have H' := Aside0.mk H
            clear H
            have p179 : 0 ≤ (x4_1 : Int) := of_decide_eq_true (by first | (with_reducible assumption) | assumption)
            have q179 : x4_1 < (l0.length : Int) := of_decide_eq_true (by first | (with_reducible assumption) | assumption)
            obtain ⟨ad179, e179, hx179_0⟩ := Kd.at_string HR0.out x4_1 p179 q179
            cases e179
            replace p179 := eq_true p179
            replace q179 := eq_true q179
            go_wp2
            go_roundg k1
            case measure => have := HK1.out; omega
            case rel => exact ⟨(((rdOf ByteArray.empty l0 x4_1).size : Int)), (wrap64 (x4_1 + 1)), (by first | rfl | exact isE_ _ | exact isE2_ _ | (simp; done) | (simp [*]; done)), (by first | rfl | exact isE_ _ | exact isE2_ _ | (simp; done) | (simp [*]; done)), H', ⟨by have := HK1.out; omega⟩, by repeat (first | exact Drawn0.refl _ | apply Drawn0.step)⟩
          · rw [if_neg c4] at H
            exact absurd H (by simp)
        · rw [if_neg c3] at H
          have c3b0 : (x4_1 == 0) = false := beq_eq_false_iff_ne.mpr c3
          have c3b1 : (x4_1 != 0) = true := bne_iff_ne.mpr c3
          by_cases c5 : 0 ≤ x4_1
          · rw [if_pos c5] at H
            have c5b0 : decide (0 ≤ x4_1) = true := decide_eq_true c5
            clear c5
            by_cases c6 : ((rdOf ByteArray.empty l0 x4_1).size : Int) < x3_1
            · rw [if_pos c6] at H
              have c6b0 : decide (((rdOf ByteArray.empty l0 x4_1).size : Int) < x3_1) = true := decide_eq_true c6
              clear c6
              have H' := Aside0.mk H
              clear H
              have p180 : 0 ≤ (x4_1 : Int) := of_decide_eq_true (by first | (with_reducible assumption) | assumption)
              have q180 : x4_1 < (l0.length : Int) := of_decide_eq_true (by first | (with_reducible assumption) | assumption)
              obtain ⟨ad180, e180, hx180_0⟩ := Kd.at_string HR0.out x4_1 p180 q180
              cases e180
              replace p180 := eq_true p180
              replace q180 := eq_true q180
              have p181 : 0 ≤ (x4_1 : Int) := of_decide_eq_true (by first | (with_reducible assumption) | assumption)
              have q181 : x4_1 < (l0.length : Int) := of_decide_eq_true (by first | (with_reducible assumption) | assumption)
              obtain ⟨ad181, e181, hx181_0⟩ := Kd.at_string HR0.out x4_1 p181 q181
              obtain rfl : ad180 = ad181 := (by injection e181)
              replace p181 := eq_true p181
              replace q181 := eq_true q181
              go_wp2
              go_roundg k1
              case measure => have := HK1.out; omega
              case rel => exact ⟨(((rdOf ByteArray.empty l0 x4_1).size : Int)), (wrap64 (x4_1 + 1)), (by first | rfl | exact isE_ _ | exact isE2_ _ | (simp; done) | (simp [*]; done)), (by first | rfl | exact isE_ _ | exact isE2_ _ | (simp; done) | (simp [*]; done)), H', ⟨by have := HK1.out; omega⟩, by repeat (first | exact Drawn0.refl _ | apply Drawn0.step)⟩
            · rw [if_neg c6] at H
              have c6b0 : decide (((rdOf ByteArray.empty l0 x4_1).size : Int) < x3_1) = false := decide_eq_false c6
              clear c6
              have H' := Aside0.mk H
              clear H
              have p180 : 0 ≤ (x4_1 : Int) := of_decide_eq_true (by first | (with_reducible assumption) | assumption)
              have q180 : x4_1 < (l0.length : Int) := of_decide_eq_true (by first | (with_reducible assumption) | assumption)
              obtain ⟨ad180, e180, hx180_0⟩ := Kd.at_string HR0.out x4_1 p180 q180
              cases e180
              replace p180 := eq_true p180
              replace q180 := eq_true q180
              go_wp2
              go_roundg k1
              case measure => have := HK1.out; omega
              case rel => exact ⟨(x3_1), (wrap64 (x4_1 + 1)), (by first | rfl | exact isE_ _ | exact isE2_ _ | (simp; done) | (simp [*]; done)), (by first | rfl | exact isE_ _ | exact isE2_ _ | (simp; done) | (simp [*]; done)), H', ⟨by have := HK1.out; omega⟩, by repeat (first | exact Drawn0.refl _ | apply Drawn0.step)⟩
          · rw [if_neg c5] at H
            exact absurd H (by simp)
      · rw [if_neg c2] at H
        have c2b0 : decide (x4_1 < (l0.length : Int)) = false := decide_eq_false c2
        clear c2
        obtain rfl := Option.some.inj H
        go_wp2
        go_ret
        exact ⟨by first | rfl | (simp; done) | (simp [*]; done), by repeat (first | exact Drawn0.refl _ | apply Drawn0.step)⟩

end Go.Proofs.Ytdfcmkmdioddnaa.P

/- What layer 10's reference computes, as plain functions on lists of texts, and that layer 10's set is it; no condition beyond the sizes that stand in each statement. -/
namespace Go.Proofs.Ytdfcmkmdioddnaa.Base
open Go Go.RowKit Go.Proofs.YtdfcmkmdioddnaaW.PrintWords Go.Proofs.YtdfcmkmdioddnaaW.PrintMore Go.Proofs.Ytdfcmkmdioddnaa.P
set_option linter.unusedVariables false

/-- The patterns in order, or the error. -/
def newB (l : List ByteArray) : List ByteArray × Int :=
  if l.length = 0 then ([], 14) else if l.length > 65535 then ([], 6) else if badB l ≠ 0 then ([], badB l) else if totalB 0 l > 16777216 then ([], 13) else if twB [] l 0 ≥ 0 then ([], 8) else (sortB l, 0)
theorem rnew_l0 (l : List ByteArray) (hl : l.length ≤ 65535) : ∀ (d i n : Nat), i + d = l.length → n ≤ i * 65535 →
    Ev (fun k => juratref10_New.l0 k l (n : Int) (i : Int)) (if badB (l.drop i) ≠ 0 then ([], badB (l.drop i)) else if totalB n (l.drop i) > 16777216 then ([], 13) else if twB [] l 0 ≥ 0 then ([], 8) else (sortB l, 0)) := by
  intro d
  induction d with
  | zero =>
    intro i n hi hn
    rw [List.drop_of_length_le (by omega), if_neg (by simp [badB])]
    have hn' : totalB n [] = n := rfl
    rw [hn']
    by_cases h1 : n > 16777216
    · rw [if_pos h1]
      refine Ev.ret fun k => ?_
      simp only [juratref10_New.l0]
      rw [if_neg (by omega), if_pos (by omega)]
    · rw [if_neg h1]
      refine Ev.step (f := fun k => (juratref09_Twice.f k l).bind fun t => if t ≥ 0 then some ([], 8) else (juratref09_Sorted.f k l).bind fun s => some (s, 0)) (fun k => ?_) ?_
      · simp only [juratref10_New.l0]
        rw [if_neg (by omega), if_neg (by omega)]
      refine Ev.bind (rtwice_ev l (by omega)) ?_
      by_cases h2 : twB [] l 0 ≥ 0
      · rw [if_pos h2]
        exact Ev.congr (fun k => if_pos h2) (Ev.now _)
      · rw [if_neg h2]
        exact Ev.congr (fun k => if_neg h2) (Ev.bind (rsorted_ev l (by omega)) (Ev.now _))
  | succ d ih =>
    intro i n hi hn
    have hd := getD_drop l i ByteArray.empty (by omega)
    have e : rdOf ByteArray.empty l (i : Int) = l.getD i ByteArray.empty := rfl
    rw [hd]
    generalize l.getD i ByteArray.empty = s at e
    by_cases h0 : s.size = 0
    · have hc : chkB s = 7 := by unfold chkB; rw [if_pos h0]
      have hb : badB (s :: l.drop (i + 1)) = chkB s := by show (if chkB s = 0 then _ else chkB s) = chkB s; rw [if_neg (by omega)]
      rw [hb, hc, if_pos (by omega)]
      refine Ev.ret fun k => ?_
      simp only [juratref10_New.l0]
      rw [if_pos (by omega), if_pos (by omega), e, if_pos (toList_nil.2 h0)]
    by_cases h1 : s.size > 65535
    · have hc : chkB s = 5 := by unfold chkB; rw [if_neg h0, if_pos h1]
      have hb : badB (s :: l.drop (i + 1)) = chkB s := by show (if chkB s = 0 then _ else chkB s) = chkB s; rw [if_neg (by omega)]
      rw [hb, hc, if_pos (by omega)]
      refine Ev.ret fun k => ?_
      simp only [juratref10_New.l0]
      rw [if_pos (by omega), if_pos (by omega), e, if_neg (fun x => h0 (toList_nil.1 x)), if_pos (by omega)]
    have hc : chkB s = 0 := by unfold chkB; rw [if_neg h0, if_neg h1]
    have hb : badB (s :: l.drop (i + 1)) = badB (l.drop (i + 1)) := if_pos hc
    rw [hb]
    have ht : totalB n (s :: l.drop (i + 1)) = totalB (n + s.size) (l.drop (i + 1)) := rfl
    rw [ht]
    refine Ev.step (f := fun k => juratref10_New.l0 k l ((n + s.size : Nat) : Int) ((i + 1 : Nat) : Int)) (fun k => ?_) (ih (i + 1) (n + s.size) (by omega) (by omega))
    simp only [juratref10_New.l0]
    rw [if_pos (by omega), if_pos (by omega), e, if_neg (fun x => h0 (toList_nil.1 x)), if_neg (by omega), wrap_id (by omega) (by omega), wrap_id (by omega) (by omega)]
    rfl
theorem rnew_ev (l : List ByteArray) : Ev (fun k => juratref10_New.f k l) (newB l) := by
  unfold newB
  by_cases h0 : l.length = 0
  · rw [if_pos h0]
    refine Ev.const fun k => ?_
    unfold juratref10_New.f
    rw [if_pos (by omega)]
  rw [if_neg h0]
  by_cases h1 : l.length > 65535
  · rw [if_pos h1]
    refine Ev.const fun k => ?_
    unfold juratref10_New.f
    rw [if_neg (by omega), if_pos (by omega)]
  rw [if_neg h1]
  have h := rnew_l0 l (by omega) l.length 0 0 (by omega) (by omega)
  rw [List.drop_zero] at h
  refine Ev.congr (fun k => ?_) h
  unfold juratref10_New.f
  rw [if_neg (by omega), if_neg (by omega)]
  rfl

/-- What the document tells of a list. -/
def minB (l : List ByteArray) : Nat := leastB (l.getD 0 ByteArray.empty).size l
theorem rleast_l0 (l : List ByteArray) (hl : l.length ≤ 9223372036854775806) : ∀ (d i n : Nat), i + d = l.length → 0 < i →
    Ev (fun k => juratref10_Least.l0 k l (n : Int) (i : Int)) (leastB n (l.drop i) : Int) := by
  intro d
  induction d with
  | zero =>
    intro i n hi h0
    rw [List.drop_of_length_le (by omega)]
    refine Ev.ret fun k => ?_
    simp only [juratref10_Least.l0]
    rw [if_neg (by omega)]
    rfl
  | succ d ih =>
    intro i n hi h0
    have hd := getD_drop l i ByteArray.empty (by omega)
    have e : rdOf ByteArray.empty l (i : Int) = l.getD i ByteArray.empty := rfl
    rw [hd]
    have ht : leastB n (l.getD i ByteArray.empty :: l.drop (i + 1)) = leastB (min n (l.getD i ByteArray.empty).size) (l.drop (i + 1)) := rfl
    rw [ht]
    refine Ev.step (f := fun k => juratref10_Least.l0 k l ((min n (l.getD i ByteArray.empty).size : Nat) : Int) ((i + 1 : Nat) : Int)) (fun k => ?_) (ih (i + 1) _ (by omega) (by omega))
    simp only [juratref10_Least.l0]
    rw [if_pos (by omega), if_neg (by omega), if_pos (by omega), e]
    by_cases h : (l.getD i ByteArray.empty).size < n
    · rw [if_pos (by omega), wrap_id (by omega) (by omega), Nat.min_eq_right (by omega)]; rfl
    · rw [if_neg (by omega), wrap_id (by omega) (by omega), Nat.min_eq_left (by omega)]; rfl
theorem rleast_ev (l : List ByteArray) (hl : l.length ≤ 9223372036854775806) : Ev (fun k => juratref10_Least.f k l) (minB l : Int) := by
  cases l with
  | nil => exact Ev.ret fun k => by simp [juratref10_Least.f, juratref10_Least.l0, minB, leastB, List.getD]
  | cons s l =>
    have h := rleast_l0 (s :: l) hl l.length 1 s.size (by rw [List.length_cons]; omega) (by omega)
    have e : minB (s :: l) = leastB s.size ((s :: l).drop 1) := by
      show leastB (min s.size s.size) l = leastB s.size l
      rw [Nat.min_self]
    rw [e]
    refine Ev.step (f := fun k => juratref10_Least.l0 k (s :: l) (s.size : Int) ((1 : Nat) : Int)) (fun k => ?_) h
    unfold juratref10_Least.f
    simp only [juratref10_Least.l0]
    rw [if_pos (by rw [List.length_cons]; omega), if_pos trivial, if_pos (by omega), wrap_id (by omega) (by omega)]
    rfl
/-- Where a text stands first; -1: nowhere. -/
def findB (s : ByteArray) : List ByteArray → Nat → Int
  | [], _ => -1
  | x :: l, i => if x = s then (i : Int) else findB s l (i + 1)

end Go.Proofs.Ytdfcmkmdioddnaa.Base

/- What is told of a set of patterns, of the list in order and of the list as it came; layer 10's examples; no condition beyond the sizes that stand in each statement. -/
namespace Go.Proofs.Ytdfcmkmdioddnaa.Base
open Go Go.RowKit Go.Proofs.YtdfcmkmdioddnaaW.PrintWords Go.Proofs.YtdfcmkmdioddnaaW.PrintMore Go.Proofs.Ytdfcmkmdioddnaa.P
set_option linter.unusedVariables false

theorem findB_up (s : ByteArray) : ∀ (l : List ByteArray) (i : Nat), upB l → findB s l i = if inB s l = true then ((i + aheadB s l : Nat) : Int) else -1
  | [], i, _ => rfl
  | x :: l, i, h => by
    obtain ⟨h1, h2⟩ := List.pairwise_cons.1 h
    have ih := findB_up s l (i + 1) h2
    have ef : findB s (x :: l) i = if x = s then (i : Int) else findB s l (i + 1) := rfl
    rw [ef]
    by_cases hx : x = s
    · subst hx
      rw [if_pos rfl, if_pos (inB_iff.2 List.mem_cons_self), aheadB_none x (x :: l) (fun y hy => by
        rcases List.mem_cons.1 hy with rfl | hy
        · exact bl_irrefl _
        · exact h1 y hy)]
      rfl
    · rw [if_neg hx, inB_cons, decide_eq_false hx, Bool.false_or, ih]
      cases hb : Op.bytesLess (LL x) (LL s) with
      | true =>
        have e : aheadB s (x :: l) = aheadB s l + 1 := by unfold aheadB; rw [List.countP_cons_of_pos (by simpa using hb)]
        rw [e, show i + 1 + aheadB s l = i + (aheadB s l + 1) by omega]
      | false =>
        have hn : ¬ inB s l = true := fun hi => by
          rcases bl_tri (LL x) (LL s) with h' | h' | h'
          · exact hx (LL_inj h')
          · rw [hb] at h'; cases h'
          · rw [h1 s (inB_iff.1 hi)] at h'; cases h'
        rw [if_neg hn, if_neg hn]
theorem fold_perm {β : Type} (f : β → ByteArray → β) (hc : ∀ a x y, f (f a x) y = f (f a y) x) {l m : List ByteArray} (h : l.Perm m) : ∀ a, l.foldl f a = m.foldl f a := by
  induction h with
  | nil => intro a; rfl
  | cons x _ ih => intro a; exact ih _
  | swap x y l => intro a; simp only [List.foldl_cons]; rw [hc]
  | trans _ _ ih1 ih2 => intro a; rw [ih1, ih2]
theorem total_perm {l m : List ByteArray} (h : l.Perm m) : totalB 0 l = totalB 0 m := fold_perm _ (fun a x y => by omega) h 0
theorem most_perm {l m : List ByteArray} (h : l.Perm m) : mostB 0 l = mostB 0 m := fold_perm _ (fun a x y => by omega) h 0
theorem least_spec : ∀ (l : List ByteArray) (a : Nat), leastB a l ≤ a ∧ (∀ s ∈ l, leastB a l ≤ s.size) ∧ (leastB a l = a ∨ ∃ s ∈ l, leastB a l = s.size)
  | [], a => ⟨Nat.le_refl _, by simp, .inl rfl⟩
  | x :: l, a => by
    obtain ⟨h1, h2, h3⟩ := least_spec l (min a x.size)
    have e : leastB a (x :: l) = leastB (min a x.size) l := rfl
    rw [e]
    refine ⟨by omega, fun s hs => ?_, ?_⟩
    · rcases List.mem_cons.1 hs with rfl | hs
      · omega
      · exact h2 s hs
    · rcases h3 with h3 | ⟨s, hs, h3⟩
      · by_cases ha : a ≤ x.size
        · left; omega
        · right; exact ⟨x, List.mem_cons_self, by omega⟩
      · right; exact ⟨s, List.mem_cons_of_mem _ hs, h3⟩
theorem min_spec (l : List ByteArray) (h : 0 < l.length) : (∀ s ∈ l, minB l ≤ s.size) ∧ ∃ s ∈ l, minB l = s.size := by
  obtain ⟨h1, h2, h3⟩ := least_spec l (l.getD 0 ByteArray.empty).size
  refine ⟨h2, ?_⟩
  rcases h3 with h3 | h3
  · exact ⟨_, getD_mem l 0 ByteArray.empty h, h3⟩
  · exact h3
theorem min_perm {l m : List ByteArray} (h : l.Perm m) (h0 : 0 < l.length) : minB l = minB m := by
  obtain ⟨a1, s, hs, a2⟩ := min_spec l h0
  obtain ⟨b1, t, ht, b2⟩ := min_spec m (by rw [← h.length_eq]; exact h0)
  have := a1 t (h.mem_iff.2 ht)
  have := b1 s (h.mem_iff.1 hs)
  omega

/-- A set that is made of texts. -/
def setB (l : List ByteArray) : SetD := ⟨sortB l, (minB l : Nat), (mostB 0 l : Nat), (totalB 0 l : Nat)⟩
theorem new_cases (l : List ByteArray) :
    (∃ e, e ≠ 0 ∧ pats_New.f l = some (none, e) ∧ newB l = ([], e)) ∨
    (pats_New.f l = some (some (setB l), 0) ∧ newB l = (sortB l, 0) ∧ 0 < l.length ∧ l.length ≤ 65535 ∧ badB l = 0 ∧ totalB 0 l ≤ 16777216 ∧ twB [] l 0 < 0) := by
  unfold pats_New.f newB
  by_cases h0 : l.length = 0
  · exact .inl ⟨14, by decide, by rw [if_pos h0], by rw [if_pos h0]⟩
  by_cases h1 : l.length > 65535
  · exact .inl ⟨6, by decide, by rw [if_neg h0, if_pos h1], by rw [if_neg h0, if_pos h1]⟩
  by_cases h2 : badB l ≠ 0
  · exact .inl ⟨_, h2, by rw [if_neg h0, if_neg h1, if_pos h2], by rw [if_neg h0, if_neg h1, if_pos h2]⟩
  by_cases h3 : totalB 0 l > 16777216
  · exact .inl ⟨13, by decide, by rw [if_neg h0, if_neg h1, if_neg h2, if_pos h3], by rw [if_neg h0, if_neg h1, if_neg h2, if_pos h3]⟩
  by_cases h4 : twB [] l 0 ≥ 0
  · exact .inl ⟨8, by decide, by rw [if_neg h0, if_neg h1, if_neg h2, if_neg h3, if_pos h4], by rw [if_neg h0, if_neg h1, if_neg h2, if_neg h3, if_pos h4]⟩
  refine .inr ⟨by rw [if_neg h0, if_neg h1, if_neg h2, if_neg h3, if_neg h4]; rfl, by rw [if_neg h0, if_neg h1, if_neg h2, if_neg h3, if_neg h4], by omega, by omega, Classical.not_not.1 h2, by omega, by omega⟩


end Go.Proofs.Ytdfcmkmdioddnaa.Base

/- Sets of the same patterns are one, in whatever order these come; a pattern is found by its number; no condition beyond the sizes that stand in each statement. -/
namespace Go.Proofs.Ytdfcmkmdioddnaa.Base
open Go Go.RowKit Go.Proofs.YtdfcmkmdioddnaaW.PrintWords Go.Proofs.YtdfcmkmdioddnaaW.PrintLast Go.Proofs.YtdfcmkmdioddnaaW.PrintMore Go.Proofs.Ytdfcmkmdioddnaa.P
set_option linter.unusedVariables false

theorem twB_iff : ∀ (l seen : List ByteArray) (i : Nat), twB seen l i < 0 ↔ (l.Nodup ∧ ∀ x ∈ l, ¬ inB x seen = true)
  | [], seen, i => by simp [twB]
  | x :: l, seen, i => by
    simp only [twB]
    by_cases h : inB x seen = true
    · rw [if_pos h]
      constructor
      · intro h'; omega
      · rintro ⟨_, h'⟩; exact absurd h (h' x List.mem_cons_self)
    · rw [if_neg h, twB_iff l (seen ++ [x]) (i + 1), List.nodup_cons]
      constructor
      · rintro ⟨h1, h2⟩
        refine ⟨⟨fun hx => ?_, h1⟩, fun y hy => ?_⟩
        · have := h2 x hx
          rw [inB_snoc] at this
          simp at this
        · rcases List.mem_cons.1 hy with rfl | hy
          · exact h
          · have := h2 y hy
            rw [inB_snoc] at this
            intro h3
            rw [h3] at this
            simp at this
      · rintro ⟨⟨h1, h2⟩, h3⟩
        refine ⟨h2, fun y hy => ?_⟩
        rw [inB_snoc]
        intro h4
        rcases Bool.or_eq_true_iff.1 h4 with h4 | h4
        · exact h3 y (List.mem_cons_of_mem _ hy) h4
        · exact h1 (by rw [of_decide_eq_true h4]; exact hy)
theorem nodup_of_tw {l : List ByteArray} (h : twB [] l 0 < 0) : l.Nodup := ((twB_iff l [] 0).1 h).1
theorem tw_of_nodup {l : List ByteArray} (h : l.Nodup) : twB [] l 0 < 0 := (twB_iff l [] 0).2 ⟨h, fun x _ => by simp [inB]⟩
theorem badB_iff : ∀ (l : List ByteArray), badB l = 0 ↔ ∀ s ∈ l, chkB s = 0
  | [] => by simp [badB]
  | s :: l => by
    simp only [badB]
    by_cases h : chkB s = 0
    · rw [if_pos h, badB_iff l]
      simp [h]
    · rw [if_neg h]
      simp [h]
theorem setB_perm {l m : List ByteArray} (h : l.Perm m) (h0 : 0 < l.length) : setB l = setB m := by
  have e : sortB l = sortB m := sortB_of ((sortB_perm l).trans h) (sortB_up l)
  unfold setB
  rw [e, min_perm h h0, most_perm h, total_perm h]
/-- Texts that make a set make it in any order. -/
theorem new_perm {l m : List ByteArray} (h : l.Perm m) (hp : 0 < l.length) (h1 : l.length ≤ 65535) (h2 : badB l = 0) (h3 : totalB 0 l ≤ 16777216) (h4 : twB [] l 0 < 0) :
    pats_New.f m = some (some (setB l), 0) := by
  have e := h.length_eq
  rcases new_cases m with ⟨c, hc, hn, hw⟩ | ⟨hn, _⟩
  · exfalso
    unfold pats_New.f at hn
    have b2 : badB m = 0 := (badB_iff m).2 fun s hs => (badB_iff l).1 h2 s (h.mem_iff.2 hs)
    have b4 := tw_of_nodup ((h.nodup_iff).1 (nodup_of_tw h4))
    rw [if_neg (by omega), if_neg (by omega), if_neg (by rw [b2]; simp), if_neg (by rw [← total_perm h]; omega), if_neg (by omega)] at hn
    have := (Prod.mk.inj (Option.some.inj hn)).1
    cases this
  · rw [hn, setB_perm h hp]
theorem findB_mem (s : ByteArray) : ∀ (l : List ByteArray) (i : Nat), s ∈ l → ∃ n, findB s l i = ((i + n : Nat) : Int) ∧ n < l.length ∧ l.getD n ByteArray.empty = s
  | [], i, h => by cases h
  | x :: l, i, h => by
    have ef : findB s (x :: l) i = if x = s then (i : Int) else findB s l (i + 1) := rfl
    rw [ef]
    by_cases hx : x = s
    · rw [if_pos hx]
      exact ⟨0, rfl, by simp, by simpa using hx⟩
    · rw [if_neg hx]
      rcases List.mem_cons.1 h with rfl | h
      · exact absurd rfl hx
      · obtain ⟨n, h1, h2, h3⟩ := findB_mem s l (i + 1) h
        exact ⟨n + 1, by rw [h1]; congr 1; omega, by rw [List.length_cons]; omega, by rw [List.getD_cons_succ]; exact h3⟩
theorem list_is (l : List ByteArray) (h : l.length ≤ 65535) : pats_Set_List.f (some (setB l)) = some (sortB l) := by
  show (if (sortB l).length ≤ 8796093022208 then some (sortB l) else none) = _
  rw [if_pos (by rw [sortB_length]; omega)]
theorem bits_and_mask (x : Int) (m : Nat) (hm : m < 9223372036854775808) : 0 ≤ Go.bits .and .i64 x (m : Int) ∧ Go.bits .and .i64 x (m : Int) ≤ m := by
  have h : Go.bits .and .i64 x (m : Int) = IntKind.i64.wrap (((BitVec.ofInt 64 x &&& BitVec.ofInt 64 (m : Int)).toNat : Int)) := rfl
  have h2 : (BitVec.ofInt 64 x &&& BitVec.ofInt 64 (m : Int)).toNat ≤ m := by
    rw [BitVec.toNat_and]
    refine Nat.le_trans Nat.and_le_right ?_
    rw [BitVec.toNat_ofInt]
    omega
  rw [h, i64_w, wrap_id (by omega) (by omega)]
  omega

end Go.Proofs.Ytdfcmkmdioddnaa.Base

/- A set of texts and its list, made or not, told together; no condition beyond the sizes that stand in each statement. -/
namespace Go.Proofs.Ytdfcmkmdioddnaa.Base
open Go Go.RowKit Go.Proofs.YtdfcmkmdioddnaaW.PrintWords Go.Proofs.YtdfcmkmdioddnaaW.PrintMore Go.Proofs.Ytdfcmkmdioddnaa.P
set_option linter.unusedVariables false

/-- What is made of texts: a set or none, its list, why there is none. -/
structure SetOk (l : List ByteArray) (x : Option SetD) (w : List ByteArray) (e : Int) : Prop where
  hn : pats_New.f l = some (x, e)
  hw : newB l = (w, e)
  hL : setL x = w
  hM : setM x = minB w
  mem : ∀ s ∈ w, s ∈ l
  len : w.length ≤ l.length
  few : w.length ≤ 65535
  size : ∀ s ∈ w, s.size ≤ 65535
  up : upB w
  pos : ∀ s ∈ w, 0 < s.size
  nodup : w.Nodup
  kind : (e = 0 ∧ 0 < w.length ∧ x = some (setB l) ∧ w = sortB l ∧ w.length = l.length) ∨ (e ≠ 0 ∧ x = none ∧ w = [])
theorem chkB_pos {s : ByteArray} (h : chkB s = 0) : 0 < s.size ∧ s.size ≤ 65535 := by
  unfold chkB at h
  by_cases h1 : s.size = 0
  · rw [if_pos h1] at h; omega
  · rw [if_neg h1] at h
    by_cases h2 : s.size > 65535
    · rw [if_pos h2] at h; omega
    · omega
theorem set_ok (l : List ByteArray) : ∃ x w e, SetOk l x w e := by
  rcases new_cases l with ⟨e, he, hn, hw⟩ | ⟨hn, hw, hp, hl, hb, ht, hd⟩
  · exact ⟨none, [], e, hn, hw, rfl, rfl, by simp, by simp, by simp, by simp, List.Pairwise.nil, by simp, List.nodup_nil, .inr ⟨he, rfl, rfl⟩⟩
  · have hm := fun s => (sortB_perm l).mem_iff (a := s)
    have hlen := sortB_length l
    refine ⟨some (setB l), sortB l, 0, hn, hw, rfl, ?_, fun s hs => (hm s).1 hs, by omega, by omega, fun s hs => (chkB_pos ((badB_iff l).1 hb s ((hm s).1 hs))).2, sortB_up l, fun s hs => (chkB_pos ((badB_iff l).1 hb s ((hm s).1 hs))).1, ((sortB_perm l).nodup_iff).2 (nodup_of_tw hd), .inl ⟨rfl, by omega, rfl, rfl, by omega⟩⟩
    show ((minB l : Nat) : Int) = _
    rw [min_perm (sortB_perm l).symm hp]
theorem min_le {w : List ByteArray} : ∀ s ∈ w, minB w ≤ s.size := fun s hs => (min_spec w (List.length_pos_of_mem hs)).1 s hs
theorem list_ok {l w : List ByteArray} {x : Option SetD} {e : Int} (h : SetOk l x w e) : pats_Set_List.f x = some w := by
  rcases h.kind with ⟨_, _, rfl, rfl, _⟩ | ⟨_, rfl, rfl⟩
  · exact list_is l (by have := h.few; rw [sortB_length] at this; exact this)
  · rfl
theorem rnew_ok {l w : List ByteArray} {x : Option SetD} {e : Int} (h : SetOk l x w e) : Ev (fun k => juratref10_New.f k l) (w, e) := by
  have := rnew_ev l
  rw [h.hw] at this
  exact this

end Go.Proofs.Ytdfcmkmdioddnaa.Base

/- The classes of bytes: which are marked, and that classes rise; layer 18's examples; no condition beyond the sizes that stand in each statement. -/
namespace Go.Proofs.Ytdfcmkmdioddnaa.Base
open Go Go.RowKit Go.Proofs.YtdfcmkmdioddnaaW.PrintWords Go.Proofs.YtdfcmkmdioddnaaW.PrintMore Go.Proofs.Ytdfcmkmdioddnaa.P
set_option linter.unusedVariables false

theorem clFold_at (c : Nat) (hc : c < 256) : ∀ (l : List UInt8) (T : List Int), T.length = 256 → (l.foldl clPut T).getD c 0 = if l.any (fun x => decide (x.toNat = c)) = true then 1 else T.getD c 0
  | [], T, _ => rfl
  | x :: l, T, h => by
    rw [List.foldl_cons, clFold_at c hc l (clPut T x) (by unfold clPut; rw [List.length_set]; exact h), List.any_cons]
    have e : (clPut T x).getD c 0 = if x.toNat = c then 1 else T.getD c 0 := by
      unfold clPut
      rw [List.getD_eq_getElem?_getD, List.getElem?_set]
      by_cases hx : x.toNat = c
      · rw [if_pos hx, if_pos (by rw [h]; exact UInt8.toNat_lt _), if_pos hx]; rfl
      · rw [if_neg hx, if_neg hx, List.getD_eq_getElem?_getD]
    rw [e]
    by_cases h1 : l.any (fun x => decide (x.toNat = c)) = true
    · rw [if_pos h1, h1, Bool.or_true, if_pos rfl]
    · rw [if_neg h1, Bool.eq_false_iff.2 h1, Bool.or_false]
      by_cases hx : x.toNat = c
      · rw [if_pos hx, decide_eq_true hx, if_pos rfl]
      · rw [if_neg hx, decide_eq_false hx, if_neg (by simp)]
/-- Does a byte stand in a pattern? -/
def markB (l : List ByteArray) (c : Nat) : Bool := l.any fun s => (LL s).any fun x => decide (x.toNat = c)
theorem clRows_at (c : Nat) (hc : c < 256) : ∀ (l : List ByteArray) (T : List Int), T.length = 256 → (l.foldl clRow T).getD c 0 = if markB l c = true then 1 else T.getD c 0
  | [], T, _ => rfl
  | s :: l, T, h => by
    rw [List.foldl_cons, clRows_at c hc l (clRow T s) ((clFold_length _ _).trans h)]
    have e := clFold_at c hc (LL s) T h
    change (clRow T s).getD c 0 = _ at e
    rw [e]
    have em : markB (s :: l) c = ((LL s).any (fun x => decide (x.toNat = c)) || markB l c) := rfl
    rw [em]
    by_cases h1 : markB l c = true
    · rw [if_pos h1, h1, Bool.or_true, if_pos rfl]
    · rw [if_neg h1, Bool.eq_false_iff.2 h1, Bool.or_false]
theorem clMarks_at (l : List ByteArray) {c : Nat} (hc : c < 256) : (clMarks l).getD c 0 = if markB l c = true then 1 else 0 := by
  unfold clMarks
  rw [clRows_at c hc l _ List.length_replicate, List.getD_eq_getElem?_getD, List.getElem?_replicate, if_pos hc]
  rfl
theorem markB_iff {l : List ByteArray} {c : Nat} : markB l c = true ↔ ∃ s ∈ l, ∃ x ∈ LL s, x.toNat = c := by
  unfold markB
  simp only [List.any_eq_true, decide_eq_true_eq]
theorem clEnd_at (M : List Int) (hM : M.length = 256) (c : Nat) (hc : c < 256) : ∀ k, k ≤ 256 → (clEnd M k).1.getD c 0 = if c < k ∧ M.getD c 0 > 0 then ((clEnd M c).2.length : Int) + 1 else M.getD c 0
  | 0, _ => by rw [if_neg (by omega)]; rfl
  | k + 1, hk => by
    have ih := clEnd_at M hM c hc k (by omega)
    have hl := (clEnd_length M k).1
    by_cases h : M.getD k 0 > 0
    · have e : (clEnd M (k + 1)).1 = (clEnd M k).1.set k (((clEnd M k).2.length : Int) + 1) := by simp only [clEnd]; rw [if_pos h]
      rw [e, List.getD_eq_getElem?_getD, List.getElem?_set]
      by_cases hck : k = c
      · subst hck
        rw [if_pos rfl, if_pos (by omega), if_pos ⟨by omega, h⟩]
        rfl
      · rw [if_neg hck, ← List.getD_eq_getElem?_getD, ih]
        by_cases h2 : c < k ∧ M.getD c 0 > 0
        · rw [if_pos h2, if_pos ⟨by omega, h2.2⟩]
        · rw [if_neg h2, if_neg (fun h3 => h2 ⟨by omega, h3.2⟩)]
    · have e : (clEnd M (k + 1)).1 = (clEnd M k).1 := by simp only [clEnd]; rw [if_neg h]
      rw [e, ih]
      by_cases h2 : c < k ∧ M.getD c 0 > 0
      · rw [if_pos h2, if_pos ⟨by omega, h2.2⟩]
      · rw [if_neg h2, if_neg (fun h3 => h2 ⟨by
          by_cases hck : c = k
          · subst hck; exact absurd h3.2 h
          · omega, h3.2⟩)]
theorem clEnd_grows (M : List Int) (a : Nat) : ∀ d, (clEnd M a).2.length ≤ (clEnd M (a + d)).2.length
  | 0 => Nat.le_refl _
  | d + 1 => by
    refine Nat.le_trans (clEnd_grows M a d) ?_
    show _ ≤ (clEnd M ((a + d) + 1)).2.length
    simp only [clEnd]
    split
    · simp
    · exact Nat.le_refl _
theorem clEnd_step (M : List Int) (a : Nat) (h : M.getD a 0 > 0) : (clEnd M (a + 1)).2.length = (clEnd M a).2.length + 1 := by
  simp only [clEnd]
  rw [if_pos h]
  simp
/-- A byte's class. -/
def clB (w : List ByteArray) (c : Nat) : Int := (clEnd (clMarks w) 256).1.getD c 0
theorem clB_eq (w : List ByteArray) {c : Nat} (hc : c < 256) : clB w c = if markB w c = true then ((clEnd (clMarks w) c).2.length : Int) + 1 else 0 := by
  unfold clB
  rw [clEnd_at _ (clMarks_length w) c hc 256 (Nat.le_refl _), clMarks_at w hc]
  by_cases h : markB w c = true
  · rw [if_pos h, if_pos h, if_pos ⟨hc, by decide⟩]
  · rw [if_neg h, if_neg h, if_neg (by rintro ⟨_, h⟩; exact absurd h (by decide))]
theorem clB_range (w : List ByteArray) {c : Nat} (hc : c < 256) : 0 ≤ clB w c ∧ clB w c ≤ 256 := by
  rw [clB_eq w hc]
  have := (clEnd_length (clMarks w) c).2
  split <;> omega
theorem clB_pos (w : List ByteArray) {c : Nat} (hc : c < 256) : 0 < clB w c ↔ markB w c = true := by
  rw [clB_eq w hc]
  by_cases h : markB w c = true
  · rw [if_pos h]; exact ⟨fun _ => h, fun _ => by omega⟩
  · rw [if_neg h]; exact ⟨fun h => absurd h (by decide), fun h' => absurd h' h⟩
theorem clB_lt (w : List ByteArray) {a b : Nat} (ha : a < 256) (hb : b < 256) (h1 : 0 < clB w a) (h2 : 0 < clB w b) (h : a < b) : clB w a < clB w b := by
  have m1 := (clB_pos w ha).1 h1
  have m2 := (clB_pos w hb).1 h2
  rw [clB_eq w ha, clB_eq w hb, if_pos m1, if_pos m2]
  have e1 := clEnd_step (clMarks w) a (by rw [clMarks_at w ha, if_pos m1]; decide)
  have e2 := clEnd_grows (clMarks w) (a + 1) (b - (a + 1))
  rw [show a + 1 + (b - (a + 1)) = b by omega] at e2
  omega
theorem clB_mono (w : List ByteArray) {a b : Nat} (ha : a < 256) (hb : b < 256) (h1 : 0 < clB w a) (h2 : 0 < clB w b) : clB w a < clB w b ↔ a < b := by
  constructor
  · intro h
    rcases Nat.lt_trichotomy a b with h' | h' | h'
    · exact h'
    · subst h'; omega
    · have := clB_lt w hb ha h2 h1 h'; omega
  · exact clB_lt w ha hb h1 h2
/-- The classes of a list. -/
abbrev classD (w : List ByteArray) : ClassD := ⟨(clEnd (clMarks w) 256).1, (clEnd (clMarks w) 256).2⟩
theorem class_ok {l w : List ByteArray} {x : Option SetD} {e : Int} (h : SetOk l x w e) : class_New.f x = some (some (classD w)) := by
  unfold class_New.f
  rw [h.hL, if_pos ⟨by have := h.few; omega, fun s hs => by have := h.size s hs; omega⟩]
theorem cof_ok (w : List ByteArray) {c : Nat} (hc : c < 256) : class_Classes_Of.f (some (classD w)) (c : Int) = some (clB w c) := by
  have h := clB_range w hc
  have e : (classD w).of.getD (c : Int).toNat 0 = clB w c := by rw [Int.toNat_natCast]; rfl
  show (if (0 ≤ (c : Int) ∧ (c : Int) ≤ 255) ∧ 0 ≤ (classD w).of.getD (c : Int).toNat 0 ∧ (classD w).of.getD (c : Int).toNat 0 ≤ 65535 then some ((classD w).of.getD (c : Int).toNat 0) else none) = _
  rw [e, if_pos ⟨⟨by omega, by omega⟩, h.1, by omega⟩]

theorem awake18 : Ev (fun k => juratlaw18_awake.f k) true := by
  have hs : sortB [(⟨#[99, 97]⟩ : ByteArray), (⟨#[98]⟩ : ByteArray)] = [(⟨#[98]⟩ : ByteArray), (⟨#[99, 97]⟩ : ByteArray)] := by
    refine (sortB_of ?_ ?_).symm
    · exact List.Perm.swap _ _ _
    · decide
  have n1 : pats_New.f [(⟨#[99, 97]⟩ : ByteArray), (⟨#[98]⟩ : ByteArray)] = some (some ⟨[(⟨#[98]⟩ : ByteArray), (⟨#[99, 97]⟩ : ByteArray)], 1, 2, 3⟩, 0) := by
    unfold pats_New.f
    rw [hs]
    rfl
  have n2 : class_New.f (some ⟨[(⟨#[98]⟩ : ByteArray), (⟨#[99, 97]⟩ : ByteArray)], 1, 2, 3⟩) = some (some (classD [(⟨#[98]⟩ : ByteArray), (⟨#[99, 97]⟩ : ByteArray)])) := by
    unfold class_New.f
    rw [if_pos ⟨by decide, fun s hs => by
      simp only [setL, List.mem_cons, List.not_mem_nil, or_false] at hs
      rcases hs with rfl | rfl <;> decide⟩]
    rfl
  have o1 := fun (c : Nat) (v : Int) (hc : c < 256) (h : clB [(⟨#[98]⟩ : ByteArray), (⟨#[99, 97]⟩ : ByteArray)] c = v) => (cof_ok _ hc).trans (congrArg some h)
  unfold juratlaw18_awake.f
  refine Ev.bind (Ev.const fun _ => n1) (Ev.bind (Ev.const fun _ => n2) ?_)
  refine Ev.congr (fun k => if_pos rfl) ?_
  refine Ev.bind (Ev.const fun _ => o1 97 1 (by decide) (by decide +kernel)) (Ev.congr (fun k => if_pos rfl) ?_)
  refine Ev.bind (Ev.const fun _ => o1 98 2 (by decide) (by decide +kernel)) (Ev.congr (fun k => if_pos rfl) ?_)
  refine Ev.bind (Ev.const fun _ => o1 99 3 (by decide) (by decide +kernel)) (Ev.congr (fun k => if_pos rfl) ?_)
  refine Ev.bind (Ev.const fun _ => o1 120 0 (by decide) (by decide +kernel)) (Ev.congr (fun k => if_pos rfl) ?_)
  refine Ev.bind (Ev.const fun _ => (by decide +kernel : class_Classes_Len.f (some (classD [(⟨#[98]⟩ : ByteArray), (⟨#[99, 97]⟩ : ByteArray)])) = some 4)) (Ev.congr (fun k => if_pos rfl) ?_)
  refine Ev.bind (Ev.of (class_Classes_Foreign.mono _ _) (k := 5) (r := 2) (by decide +kernel)) ?_
  exact Ev.now true

end Go.Proofs.Ytdfcmkmdioddnaa.Base

/- The hits of patterns in a text, as layer 15's reference tells them; no condition beyond the sizes that stand in each statement. -/
namespace Go.Proofs.Ytdfcmkmdioddnaa.Base
open Go Go.RowKit Go.Proofs.YtdfcmkmdioddnaaW.PrintWords Go.Proofs.YtdfcmkmdioddnaaW.PrintMore Go.Proofs.Ytdfcmkmdioddnaa.P
set_option linter.unusedVariables false

/-- Does a pattern end at an end of a text? -/
def standsE (p s : ByteArray) (e : Nat) : Bool := decide (p.size ≤ e ∧ stands s p (e - p.size))
theorem standsE_iff {p s : ByteArray} {e : Nat} : standsE p s e = true ↔ p.size ≤ e ∧ stands s p (e - p.size) := by unfold standsE; exact decide_eq_true_iff
theorem standsE_le {p s : ByteArray} {e : Nat} (h : standsE p s e = true) : e ≤ s.size := by
  obtain ⟨h1, h2, _⟩ := standsE_iff.1 h
  omega
theorem rstands (p s : ByteArray) (e : Nat) (hp : p.size ≤ 1099511627776) (he : e ≤ 1099511627776) : juratref15_Stands.f p s (e : Int) = some (standsE p s e) := by
  unfold juratref15_Stands.f
  by_cases h1 : p.size ≤ e
  · rw [if_pos (by omega)]
    by_cases h2 : e ≤ s.size
    · rw [if_pos (by omega), wrap_id (by omega) (by omega), if_pos (by omega), if_pos (by omega), Int.toNat_natCast, show ((e : Int) - (p.size : Int)).toNat = e - p.size by omega]
      congr 1
      rw [Bool.eq_iff_iff, beq_iff_eq, standsE_iff]
      have := stands_extract (s := s) (t := p) (i := e - p.size) (by omega)
      rw [show e - p.size + p.size = e by omega] at this
      rw [this]
      exact ⟨fun h => ⟨h1, h⟩, fun h => h.2⟩
    · rw [if_neg (by omega)]
      congr 1
      symm
      rw [Bool.eq_false_iff]
      exact fun h => h2 (standsE_le h)
  · rw [if_neg (by omega)]
    congr 1
    symm
    rw [Bool.eq_false_iff]
    exact fun h => h1 (standsE_iff.1 h).1
/-- The numbers of the patterns that end at an end. -/
def idsF (s : ByteArray) (e : Nat) : List ByteArray → Nat → List Int
  | [], _ => []
  | p :: l, i => if standsE p s e = true then (i : Int) :: idsF s e l (i + 1) else idsF s e l (i + 1)
abbrev idsB (w : List ByteArray) (s : ByteArray) (e : Nat) : List Int := idsF s e w 0
theorem idsF_length (s : ByteArray) (e : Nat) : ∀ (l : List ByteArray) (i : Nat), (idsF s e l i).length ≤ l.length
  | [], _ => Nat.le_refl _
  | p :: l, i => by
    have := idsF_length s e l (i + 1)
    simp only [idsF, List.length_cons]
    split
    · rw [List.length_cons]; omega
    · omega
theorem idsF_mem (s : ByteArray) (e : Nat) (q : Int) : ∀ (l : List ByteArray) (i : Nat), q ∈ idsF s e l i ↔ ∃ j, j < l.length ∧ q = ((i + j : Nat) : Int) ∧ standsE (l.getD j ByteArray.empty) s e = true
  | [], i => by simp [idsF]
  | p :: l, i => by
    have ih := idsF_mem s e q l (i + 1)
    have tail : (q ∈ idsF s e l (i + 1)) ↔ ∃ j, j + 1 < (p :: l).length ∧ q = ((i + (j + 1) : Nat) : Int) ∧ standsE ((p :: l).getD (j + 1) ByteArray.empty) s e = true := by
      rw [ih]
      constructor
      · rintro ⟨j, h1, h2, h3⟩
        exact ⟨j, by rw [List.length_cons]; omega, by rw [h2]; congr 1; omega, by rw [List.getD_cons_succ]; exact h3⟩
      · rintro ⟨j, h1, h2, h3⟩
        exact ⟨j, by rw [List.length_cons] at h1; omega, by rw [h2]; congr 1; omega, by rw [List.getD_cons_succ] at h3; exact h3⟩
    simp only [idsF]
    by_cases h : standsE p s e = true
    · rw [if_pos h, List.mem_cons, tail]
      constructor
      · rintro (rfl | ⟨j, h1, h2, h3⟩)
        · exact ⟨0, by simp, rfl, by rw [List.getD_cons_zero]; exact h⟩
        · exact ⟨j + 1, h1, h2, h3⟩
      · rintro ⟨j, h1, h2, h3⟩
        cases j with
        | zero => exact .inl h2
        | succ j => exact .inr ⟨j, h1, h2, h3⟩
    · rw [if_neg h, tail]
      constructor
      · rintro ⟨j, h1, h2, h3⟩
        exact ⟨j + 1, h1, h2, h3⟩
      · rintro ⟨j, h1, h2, h3⟩
        cases j with
        | zero => rw [List.getD_cons_zero] at h3; exact absurd h3 h
        | succ j => exact ⟨j, h1, h2, h3⟩
theorem idsB_mem {w : List ByteArray} {s : ByteArray} {e : Nat} {q : Int} : q ∈ idsB w s e ↔ ∃ j, j < w.length ∧ q = (j : Int) ∧ standsE (w.getD j ByteArray.empty) s e = true := by
  rw [idsF_mem]; simp
/-- The hits that end at an end. -/
def hitsAt (w : List ByteArray) (s : ByteArray) (e : Nat) : List S51 := (idsB w s e).map fun i => (⟨(e : Int), i⟩ : S51)
/-- All hits, from one end on. -/
def hitsF (w : List ByteArray) (s : ByteArray) : Nat → Nat → List S51
  | 0, _ => []
  | d + 1, e => hitsAt w s e ++ hitsF w s d (e + 1)
abbrev hitsB (w : List ByteArray) (s : ByteArray) : List S51 := hitsF w s (s.size + 1) 0
theorem hitsF_length (w : List ByteArray) (s : ByteArray) : ∀ d e, (hitsF w s d e).length ≤ d * w.length
  | 0, _ => by simp [hitsF]
  | d + 1, e => by
    have h1 := hitsF_length w s d (e + 1)
    have h2 : (hitsAt w s e).length ≤ w.length := by unfold hitsAt; rw [List.length_map]; exact idsF_length s e w 0
    simp only [hitsF, List.length_append, Nat.succ_mul]
    omega
theorem hitsF_mem {w : List ByteArray} {s : ByteArray} {h : S51} : ∀ d e, h ∈ hitsF w s d e ↔ ∃ a j, e ≤ a ∧ a < e + d ∧ j < w.length ∧ h = (⟨((a : Nat) : Int), (j : Int)⟩ : S51) ∧ standsE (w.getD j ByteArray.empty) s a = true
  | 0, e => by
    simp only [hitsF, List.not_mem_nil, false_iff]
    rintro ⟨a, j, h1, h2, _⟩
    omega
  | d + 1, e => by
    simp only [hitsF, List.mem_append]
    rw [hitsF_mem d (e + 1)]
    have h0 : h ∈ hitsAt w s e ↔ ∃ j, j < w.length ∧ h = (⟨(e : Int), (j : Int)⟩ : S51) ∧ standsE (w.getD j ByteArray.empty) s e = true := by
      unfold hitsAt
      rw [List.mem_map]
      constructor
      · rintro ⟨q, hq, rfl⟩
        obtain ⟨j, h1, rfl, h2⟩ := idsB_mem.1 hq
        exact ⟨j, h1, rfl, h2⟩
      · rintro ⟨j, h1, rfl, h2⟩
        exact ⟨_, idsB_mem.2 ⟨j, h1, rfl, h2⟩, rfl⟩
    rw [h0]
    constructor
    · rintro (⟨j, h1, h2, h3⟩ | ⟨a, j, h1, h2, h3, h4, h5⟩)
      · exact ⟨e, j, Nat.le_refl _, by omega, h1, h2, h3⟩
      · exact ⟨a, j, by omega, by omega, h3, h4, h5⟩
    · rintro ⟨a, j, h1, h2, h3, h4, h5⟩
      by_cases he : a = e
      · subst he; exact .inl ⟨j, h3, h4, h5⟩
      · exact .inr ⟨a, j, by omega, by omega, h3, h4, h5⟩
theorem hitsB_mem {w : List ByteArray} {s : ByteArray} {h : S51} : h ∈ hitsB w s ↔ ∃ a j, a ≤ s.size ∧ j < w.length ∧ h = (⟨((a : Nat) : Int), (j : Int)⟩ : S51) ∧ standsE (w.getD j ByteArray.empty) s a = true := by
  rw [hitsF_mem]
  constructor
  · rintro ⟨a, j, _, h2, h3, h4, h5⟩
    exact ⟨a, j, by omega, h3, h4, h5⟩
  · rintro ⟨a, j, h2, h3, h4, h5⟩
    exact ⟨a, j, by omega, by omega, h3, h4, h5⟩
theorem rall_l1 (w : List ByteArray) (s : ByteArray) (hw : w.length ≤ 65535) (hz : ∀ t ∈ w, t.size ≤ 65535) (e : Nat) (he : e ≤ 1048576) (r : List S51) : ∀ (d i : Nat) (out : List S51), i + d = w.length → out.length + d ≤ 8796093022207 →
    Ev (fun k => juratref15_All.l0 k w s (out ++ (idsF s e (w.drop i) i).map fun i => (⟨(e : Int), i⟩ : S51)) ((e + 1 : Nat) : Int)) r → Ev (fun k => juratref15_All.l1 k w s out (e : Int) (i : Int)) r := by
  intro d
  induction d with
  | zero =>
    intro i out hi ho h
    rw [List.drop_of_length_le (by omega)] at h
    simp only [idsF, List.map_nil, List.append_nil] at h
    refine Ev.step (fun k => ?_) h
    simp only [juratref15_All.l1]
    rw [if_neg (by omega), wrap_id (by omega) (by omega)]
    rfl
  | succ d ih =>
    intro i out hi ho h
    have hd := getD_drop w i ByteArray.empty (by omega)
    have hz1 := hz _ (getD_mem w i ByteArray.empty (by omega))
    have e1 : rdOf ByteArray.empty w (i : Int) = w.getD i ByteArray.empty := rfl
    rw [hd] at h
    have hst := rstands (w.getD i ByteArray.empty) s e (by omega) (by omega)
    simp only [idsF] at h
    by_cases hs : standsE (w.getD i ByteArray.empty) s e = true
    · rw [if_pos hs, List.map_cons, ← List.singleton_append, ← List.append_assoc] at h
      refine Ev.step (fun k => ?_) (ih (i + 1) (out ++ [(⟨(e : Int), (i : Int)⟩ : S51)]) (by omega) (by simp; omega) h)
      simp only [juratref15_All.l1]
      rw [if_pos (by omega), if_pos (by omega), e1, hst]
      simp only [Option.bind_some]
      rw [if_pos hs, if_pos (by omega), wrap_id (by omega) (by omega)]
      rfl
    · rw [if_neg hs] at h
      refine Ev.step (fun k => ?_) (ih (i + 1) out (by omega) (by omega) h)
      simp only [juratref15_All.l1]
      rw [if_pos (by omega), if_pos (by omega), e1, hst]
      simp only [Option.bind_some]
      rw [if_neg hs, wrap_id (by omega) (by omega)]
      rfl
theorem rall_l0 (w : List ByteArray) (s : ByteArray) (hw : w.length ≤ 65535) (hz : ∀ t ∈ w, t.size ≤ 65535) (hs : s.size ≤ 1048575) : ∀ (d e : Nat) (out : List S51), e + d = s.size + 1 → out.length ≤ e * w.length →
    Ev (fun k => juratref15_All.l0 k w s out (e : Int)) (out ++ hitsF w s d e) := by
  intro d
  induction d with
  | zero =>
    intro e out he ho
    refine Ev.ret fun k => ?_
    simp only [juratref15_All.l0, hitsF, List.append_nil]
    rw [if_neg (by omega)]
  | succ d ih =>
    intro e out he ho
    have hm : e * w.length ≤ 1048576 * 65535 := Nat.mul_le_mul (by omega) hw
    have hid : (idsB w s e).length ≤ w.length := idsF_length s e w 0
    have := ih (e + 1) (out ++ hitsAt w s e) (by omega) (by unfold hitsAt; rw [List.length_append, List.length_map, Nat.succ_mul]; omega)
    rw [List.append_assoc] at this
    refine Ev.step (f := fun k => juratref15_All.l1 k w s out (e : Int) ((0 : Nat) : Int)) (fun k => ?_) (rall_l1 w s hw hz e (by omega) _ w.length 0 out (by omega) (by omega) (by rw [List.drop_zero]; exact this))
    simp only [juratref15_All.l0]
    rw [if_pos (by omega)]
    rfl
theorem rall_ev (w : List ByteArray) (s : ByteArray) (hw : w.length ≤ 65535) (hz : ∀ t ∈ w, t.size ≤ 65535) (hs : s.size ≤ 1048575) : Ev (fun k => juratref15_All.f k w s) (hitsB w s) := by
  have := rall_l0 w s hw hz hs (s.size + 1) 0 [] (by omega) (by simp)
  rw [List.nil_append] at this
  exact this

end Go.Proofs.Ytdfcmkmdioddnaa.Base

/- Proved: for all texts, every text and any two bytes the law ClassForeign of layer 18 answers true. No condition beyond the statement's own. -/
namespace Go.Proofs.Ytdfcmkmdioddnaa.Pure
open Go Go.RowKit Go.Proofs.Ytdfcmkmdioddnaa.P Go.Proofs.YtdfcmkmdioddnaaW.PrintWords Go.Proofs.YtdfcmkmdioddnaaW.PrintLast Go.Proofs.Ytdfcmkmdioddnaa.Base
set_option linter.unusedVariables false

theorem wf8 {x : Int} (h : (Lit.int .u8 x).wf = true) : 0 ≤ x ∧ x ≤ 255 := by
  simp [Lit.wf, IntKind.min, IntKind.max, IntKind.signed, IntKind.bits] at h
  omega
/-- Each byte that a pattern covers is one of the pattern's. -/
theorem covers {w : List ByteArray} {s p : ByteArray} (hp : p ∈ w) {a j : Nat} (h : standsE p s a = true) (h1 : a - p.size ≤ j) (h2 : j < a) : markB w (((LL s).getD j 0).toNat) = true := by
  obtain ⟨h3, h4, h5⟩ := standsE_iff.1 h
  refine markB_iff.2 ⟨p, hp, (LL s).getD j 0, ?_, rfl⟩
  rw [← h5]
  have hl : j - (a - p.size) < (((LL s).drop (a - p.size)).take p.size).length := by rw [List.length_take, List.length_drop, LL_length]; omega
  have e : (LL s).getD j 0 = (((LL s).drop (a - p.size)).take p.size)[j - (a - p.size)]'hl := by
    rw [List.getElem_take, List.getElem_drop, List.getD_eq_getElem?_getD, List.getElem?_eq_getElem (by rw [LL_length]; omega)]
    simp only [Option.getD_some]
    congr 1
    omega
  rw [e]
  exact List.getElem_mem hl
theorem foreign_l1 (s : ByteArray) (w : List ByteArray) (hs : s.size ≤ 100) (H : List S51) (i : Nat) (hi : i < H.length) (a j : Nat) (hh : rd_T51 H (i : Int) = (⟨(a : Int), (j : Int)⟩ : S51)) (hj : j < w.length) (hst : standsE (w.getD j ByteArray.empty) s a = true)
    (hnext : Ev (fun k => juratlaw18_ClassForeign.l0 k s w (some (classD w)) H (wrap64 ((i : Int) + 1))) true) : ∀ (f q : Nat), q + f = a → a - (w.getD j ByteArray.empty).size ≤ q →
    Ev (fun k => juratlaw18_ClassForeign.l1 k s w (some (classD w)) H (i : Int) (q : Int)) true := by
  have ha := standsE_le hst
  intro f
  induction f with
  | zero =>
    intro q hq _
    refine Ev.step (fun k => ?_) hnext
    simp only [juratlaw18_ClassForeign.l1]
    rw [if_pos (by omega), if_pos (by omega), hh, if_neg (by show ¬ (q : Int) < (a : Int); omega)]
  | succ f ih =>
    intro q hq hge
    have hm := covers (getD_mem w j ByteArray.empty hj) hst hge (by omega : q < a)
    have hp := (clB_pos w (c := ((LL s).getD q 0).toNat) (UInt8.toNat_lt _)).2 hm
    have hb : bt s (q : Int) = ((((LL s).getD q 0).toNat : Nat) : Int) := by rw [bt_eq, Int.toNat_natCast]
    refine Ev.step (fun k => ?_) (ih (q + 1) (by omega) (by omega))
    simp only [juratlaw18_ClassForeign.l1]
    rw [if_pos (by omega), if_pos (by omega), hh, if_pos (by show (q : Int) < (a : Int); omega), if_pos (by omega), if_pos (by omega), hb, cof_ok w (UInt8.toNat_lt _)]
    simp only [Option.bind_some]
    rw [if_neg (by omega), wrap_id (by omega) (by omega)]
    rfl
theorem foreign_l0 (s : ByteArray) (w : List ByteArray) (hs : s.size ≤ 100) (hw : w.length ≤ 20) : ∀ (f i : Nat), i + f = (hitsB w s).length →
    Ev (fun k => juratlaw18_ClassForeign.l0 k s w (some (classD w)) (hitsB w s) (i : Int)) true := by
  have hlen : (hitsB w s).length ≤ 101 * 20 := Nat.le_trans (hitsF_length w s _ 0) (Nat.mul_le_mul (by omega) hw)
  intro f
  induction f with
  | zero =>
    intro i hi
    refine Ev.step (f := fun k => (juratlaw18_awake.f k).bind fun t => some t) (fun k => ?_) (Ev.bind awake18 (Ev.now true))
    simp only [juratlaw18_ClassForeign.l0]
    rw [if_neg (by omega)]
  | succ f ih =>
    intro i hi
    obtain ⟨a, j, ha, hj, he, hst⟩ := hitsB_mem.1 (getD_mem (hitsB w s) i z51 (by omega))
    have hh : rd_T51 (hitsB w s) (i : Int) = (⟨(a : Int), (j : Int)⟩ : S51) := by unfold rd_T51; rw [Int.toNat_natCast]; exact he
    have e1 : rdOf ByteArray.empty w (j : Int) = w.getD j ByteArray.empty := rfl
    have hsz := (standsE_iff.1 hst).1
    refine Ev.step (f := fun k => juratlaw18_ClassForeign.l1 k s w (some (classD w)) (hitsB w s) (i : Int) ((a - (w.getD j ByteArray.empty).size : Nat) : Int)) (fun k => ?_) (foreign_l1 s w hs _ i (by omega) a j hh hj hst ?_ (a - (a - (w.getD j ByteArray.empty).size)) _ (by omega) (Nat.le_refl _))
    · simp only [juratlaw18_ClassForeign.l0]
      rw [if_pos (by omega), if_pos (by omega), hh]
      simp only [e1]
      rw [if_pos (by omega), if_pos (by omega), wrap_id (by omega) (by omega)]
      congr 1
      omega
    · rw [wrap_id (by omega) (by omega)]
      exact ih (i + 1) (by omega)

theorem ClassForeign (l : List ByteArray) (s : ByteArray) (a b : Int) (hl : l.length * 16 ≤ 140737488351232) (_ : ∀ x ∈ l, x.size ≤ maxLen) (_ : s.size ≤ 140737488351232) (ha : (Lit.int .u8 a).wf = true) (hb : (Lit.int .u8 b).wf = true) : ∃ k, juratlaw18_ClassForeign.f k l s a b = some true := by
  obtain ⟨a0, a1⟩ := wf8 ha
  obtain ⟨b0, b1⟩ := wf8 hb
  obtain ⟨a, rfl⟩ : ∃ n : Nat, a = n := ⟨a.toNat, by omega⟩
  obtain ⟨b, rfl⟩ : ∃ n : Nat, b = n := ⟨b.toNat, by omega⟩
  have ha8 : a < 256 := by omega
  have hb8 : b < 256 := by omega
  refine Ev.rounds ?_
  have big : Ev (fun k => juratlaw18_ClassForeign.j0 k l s (a : Int) (b : Int) true) true := by
    refine Ev.step (f := fun k => (juratlaw18_awake.f k).bind fun t => some t) (fun k => ?_) (Ev.bind awake18 (Ev.now true))
    simp only [juratlaw18_ClassForeign.j0]
    rw [if_pos trivial]
  unfold juratlaw18_ClassForeign.f
  refine Ev.bind (few_ev l 12 20 (by omega)) ?_
  by_cases h1 : (decide ((l.length : Int) ≤ 12) && fewB l 20) = true
  rotate_left
  · exact Ev.congr (fun k => if_neg h1) big
  refine Ev.congr (fun k => if_pos h1) ?_
  by_cases h2 : (s.size : Int) > 100
  · exact Ev.congr (fun k => by rw [decide_eq_true h2]) big
  rw [decide_eq_false h2]
  have h3 := of_decide_eq_true (Bool.and_eq_true_iff.1 h1).1
  obtain ⟨x, w, er, h⟩ := set_ok l
  have hw : w.length ≤ 20 := by have := h.len; omega
  have tail : Ev (fun k => juratlaw18_ClassForeign.j1 k s w (some (classD w)) false) true := by
    refine Ev.step (f := fun k => (juratref15_All.f k w s).bind fun t304 => (juratlaw18_ClassForeign.l0 k s w (some (classD w)) t304 ((0 : Nat) : Int))) (fun k => ?_) (Ev.bind (rall_ev w s (by omega) h.size (by omega)) (foreign_l0 s w (by omega) hw _ 0 (Nat.zero_add _)))
    simp only [juratlaw18_ClassForeign.j1]
    rw [if_neg (by simp)]
    rfl
  have ea := cof_ok w ha8
  have eb := cof_ok w hb8
  have hm := clB_mono w ha8 hb8
  refine Ev.step (f := fun k => (pats_New.f l).bind fun bt292 => ((juratref10_New.f k l).bind fun bt294 => ((class_New.f bt292.1).bind fun t298 => ((class_Classes_Of.f t298 (a : Int)).bind fun t300 => (if t300 > 0 then ((class_Classes_Of.f t298 (b : Int)).bind fun t301 => (if t301 > 0 then ((class_Classes_Of.f t298 (a : Int)).bind fun t302 => ((class_Classes_Of.f t298 (b : Int)).bind fun t303 => (juratlaw18_ClassForeign.j1 k s bt294.1 t298 ((decide (t302 < t303)) != (decide ((a : Int) < (b : Int))))))) else (juratlaw18_ClassForeign.j1 k s bt294.1 t298 false))) else (juratlaw18_ClassForeign.j1 k s bt294.1 t298 false)))))) (fun k => ?_) ?_
  · simp only [juratlaw18_ClassForeign.j0]
    rw [if_neg (by simp)]
  refine Ev.bind (Ev.const fun _ => h.hn) (Ev.bind (rnew_ok h) (Ev.bind (Ev.const fun _ => class_ok h) ?_))
  refine Ev.bind (Ev.const fun _ => ea) ?_
  by_cases h4 : clB w a > 0
  · refine Ev.congr (fun k => if_pos h4) (Ev.bind (Ev.const fun _ => eb) ?_)
    by_cases h5 : clB w b > 0
    · refine Ev.congr (fun k => if_pos h5) (Ev.bind (Ev.const fun _ => ea) (Ev.bind (Ev.const fun _ => eb) ?_))
      have e : (decide (clB w a < clB w b) != decide ((a : Int) < (b : Int))) = false := by
        by_cases h6 : a < b
        · rw [decide_eq_true ((hm h4 h5).2 h6), decide_eq_true (by omega)]; rfl
        · rw [decide_eq_false (fun h => h6 ((hm h4 h5).1 h)), decide_eq_false (by omega)]; rfl
      rw [e]
      exact tail
    · exact Ev.congr (fun k => if_neg h5) tail
  · exact Ev.congr (fun k => if_neg h4) tail

end Go.Proofs.Ytdfcmkmdioddnaa.Pure

/- How a law's arguments are opened: slices of texts and of numbers, as lists, with their sizes out of the row's weights. -/
namespace Go.Proofs.Ytdfcmkmdioddnaa.RowS
open Go Go.ChangeShapes Go.WideShapes Go.RowKit Go.Proofs.YtdfcmkmdioddnaaW.PrintWords

theorem slice_strings {H : Type} {enc : TypeId × Value → H} {P : Program} {W : World} {t e : TypeId} {a : Option Addr} {len cap : Nat} {d : DataW H} {ps : List MemPlace} {ts : List TypeId} {ds : List (DataW H)} {j : Nat}
    (hsz : (DataW.weightsEach P ts ds).all (· ≤ reachBytes) = true) (ht : ts[j]? = some t) (hd : ds[j]? = some d) (hu : P.underlying t = some (.slice e)) (he : P.underlying e = some .string) (hc : P.cellsOf e = 1) (hB : P.bytesOf e = 16)
    (h : DataW.Trod enc P W 0 (fun _ => true) true t (.slice a len cap) d ps) :
    ∃ l : List ByteArray, l.length = len ∧ len ≤ cap ∧ Kd.C Kd.string W a l.length l ∧ l.length * 16 ≤ 140737488351232 ∧ ∀ s ∈ l, s.size ≤ maxLen := by
  obtain ⟨fuel, hf⟩ := h
  rcases open_strings hu he hc hf with ⟨hcs, _⟩ | ⟨x, l, c, ss, hcs, _, hl, hm, hz, hx, hcell, hw⟩
  · simp [Value.cells] at hcs
    obtain ⟨rfl, rfl, rfl⟩ := hcs
    exact ⟨[], rfl, Nat.le_refl _, Kd.C_nil _ _, by simp, by simp⟩
  · simp [Value.cells] at hcs
    obtain ⟨rfl, rfl, rfl⟩ := hcs
    obtain ⟨hx, _⟩ := Prod.mk.inj hx
    subst hx
    have z := sized_slice hsz ht hd hu
    rw [hB] at z
    rw [if_pos rfl] at hz
    have hl2 : len ≤ ss.length := by omega
    have h1 : (strs (H := H) (ss.take len)).length + (strs (H := H) (ss.drop len)).length = ss.length := by
      simp [strs]
      omega
    rw [h1] at z
    have hlen : (ss.take len).length = len := by rw [List.length_take]; omega
    refine ⟨ss.take len, hlen, hl, Kd.C_of_reads (d := ByteArray.empty) (h1 := fun _ => rfl) ⟨rfl, by rw [hlen]; unfold maxLen at hm; omega, fun _ => ⟨x, rfl, fun i hi => ?_⟩⟩, ?_, fun s hs => hw s (List.mem_of_mem_take hs)⟩
    · rw [hlen] at hi
      rw [hcell i (by omega), List.getD_eq_getElem?_getD, List.getD_eq_getElem?_getD, List.getElem?_take_of_lt hi]
    · rw [hlen]
      exact Nat.le_trans (Nat.mul_le_mul_right _ hl2) z
theorem slice_ints {H : Type} {enc : TypeId × Value → H} {P : Program} {W : World} {t e : TypeId} {k : IntKind} {a : Option Addr} {len cap : Nat} {d : DataW H} {ps : List MemPlace} {ts : List TypeId} {ds : List (DataW H)} {j : Nat}
    (hsz : (DataW.weightsEach P ts ds).all (· ≤ reachBytes) = true) (ht : ts[j]? = some t) (hd : ds[j]? = some d) (hu : P.underlying t = some (.slice e)) (he : P.underlying e = some (.int k)) (hc : P.cellsOf e = 1) {B : Nat} (hB : P.bytesOf e = B)
    (h : DataW.Trod enc P W 0 (fun _ => true) true t (.slice a len cap) d ps) :
    ∃ l : List Int, l.length = len ∧ len ≤ cap ∧ Kd.C (Kd.int k) W a l.length l ∧ l.length ≤ maxLen ∧ l.length * B ≤ 140737488351232 ∧ ∀ n ∈ l, (Lit.int k n).wf = true := by
  have y := sized_ints hsz ht hd hu he hc hB h
  obtain ⟨fuel, hf⟩ := h
  rcases open_ints hu he hc hf with ⟨hcs, _⟩ | ⟨x, l, c, zs, hcs, _, hl, hm, hz, _, hcell, hw⟩
  · simp [Value.cells] at hcs
    obtain ⟨rfl, rfl, rfl⟩ := hcs
    exact ⟨[], rfl, Nat.le_refl _, Kd.C_nil _ _, by simp, by simp, by simp⟩
  · simp [Value.cells] at hcs
    obtain ⟨rfl, rfl, rfl⟩ := hcs
    rw [if_pos rfl] at hz
    have hlen : (zs.take len).length = len := by rw [List.length_take]; omega
    refine ⟨zs.take len, hlen, hl, Kd.C_of_reads (d := (0 : Int)) (h1 := fun _ => rfl) ⟨rfl, by rw [hlen]; unfold maxLen at hm; omega, fun _ => ⟨x, rfl, fun i hi => ?_⟩⟩, by rw [hlen]; omega, by rw [hlen]; exact y, fun s hs => hw s (List.mem_of_mem_take hs)⟩
    rw [hlen] at hi
    rw [hcell i (by omega), List.getD_eq_getElem?_getD, List.getD_eq_getElem?_getD, List.getElem?_take_of_lt hi]

end Go.Proofs.Ytdfcmkmdioddnaa.RowS

/- The row of the law ClassForeign, out of its plain statement and the walk; written for this claim by a program of this session (wip/mkrow.py). -/
namespace Go.Proofs.Ytdfcmkmdioddnaa.classForeign
open Go.ChangeShapes Go.WideShapes Go.ChangeAt Go.RowKit
open Go.ChangeMaps (open_string shut_string)
set_option linter.unusedVariables false
theorem own : ownKnob Try.prog.godebug = none := by kernel_rfl
theorem laidOut : laidOutB Try.prog = true := by kernel_rfl
set_option maxRecDepth 100000 in
theorem lifted (os : Os) (started : os.Started) (H : Type) (enc : TypeId × Value → H) :
    ReturnsInHanded {} Try.checked os 6 .any (Rows.classForeignSpec.pre6 enc Try.prog Try.f6 Rows.classForeignRow.domain false) (Rows.classForeignSpec.post enc Try.prog Try.f6 false true false false) := by
  refine returnsInHanded_of_change_sized (C := Try.checked) own started (by kernel_rfl) Try.func6
    (ChangeSpec.witness6 (enc := enc) (C := Try.checked) false ⟨#[], #[.slice none 0 0, .string ByteArray.empty, .int .u8 0, .int .u8 0], []⟩ 8 (by kernel_rfl) (by kernel_rfl) (by kernel_rfl) (by kernel_rfl)) ?_
  intro W base args ds gs before hval0 hW hcnd hsz0 _
  have hsz : (DataW.weightsEach Try.prog (Try.f6.params.toList ++ Rows.classForeignSpec.plain.varTypes Try.prog) (ds ++ gs)).all (· ≤ reachBytes) = true := hsz0
  have hval : ∀ (j : Nat) t v, Try.f6.params[j]? = some t → args[j]? = some v → Value.okWide Try.prog W .any base t v := hval0
  have hW' := hW
  obtain ⟨p, q, hA0, hV, rfl, hfz, hnd⟩ := hW
  have hA : DataW.TrodAll enc Try.prog W 0 (fun _ => true) true Try.f6.params.toList args.toList ds p := hA0
  rw [Try.params6] at hA hval hsz
  obtain ⟨v0, vs0, d0, ds0, p0, q0, hargs, rfl, rfl, h0, r0⟩ := trodAll_cons hA
  obtain ⟨v1, vs1, d1, ds1, p1, q1, rfl, rfl, rfl, h1, r1⟩ := trodAll_cons r0
  obtain ⟨v2, vs2, d2, ds2, p2, q2, rfl, rfl, rfl, h2, r2⟩ := trodAll_cons r1
  obtain ⟨v3, vs3, d3, ds3, p3, q3, rfl, rfl, rfl, h3, r3⟩ := trodAll_cons r2
  obtain ⟨rfl, rfl, rfl⟩ := trodAll_nil r3
  obtain rfl : args = #[v0, v1, v2, v3] := by cases args; simp_all
  obtain ⟨rfl, rfl⟩ := trodVars_none hV
  obtain ⟨a0, len0, cap0, rfl⟩ := okWide_slice Try.underlying22 (hval 0 22 v0 rfl rfl)
  have k0 := h0
  have lt0 : ∀ x ∈ p0, x.block < W.heap.size := by obtain ⟨m, hm⟩ := k0; exact DataW.trod_lt m _ _ _ hm
  obtain ⟨l0, hn0, hc0, hr0, y0, w0⟩ := RowS.slice_strings hsz (j := 0) (t := 22) rfl rfl Try.underlying22 Try.underlying9 (by kernel_rfl) (by kernel_rfl) h0
  subst hn0
  obtain ⟨a1, rfl, rfl, rfl, y1⟩ := open_string Try.underlying9 (hval 1 9 v1 rfl rfl) h1
  have w1 : a1.size ≤ 140737488351232 := by
    have z := sized_string hsz (j := 1) (t := 9) rfl rfl
    rw [Array.length_toList] at z
    exact z
  obtain ⟨a2, rfl, rfl, rfl, w2⟩ := open_int Try.underlying5 (hval 2 5 v2 rfl rfl) h2
  obtain ⟨a3, rfl, rfl, rfl, w3⟩ := open_int Try.underlying5 (hval 3 5 v3 rfl rfl) h3
  clear hA0 hval0 hsz0 hsz
  obtain ⟨k, hk⟩ := Pure.ClassForeign l0 a1 a2 a3 y0 w0 w1 w2 w3
  refine (P.juratlaw18_ClassForeign.calls k a0 cap0 l0 a1 a2 a3 true W hr0 hc0 hk).mono fun e W' ⟨he, bel⟩ => ?_
  subst he
  exact ⟨_, rfl, _, _, _, [], _, [], hW', trodAll_mk1 (shut_bool Try.underlying4 _), (trodAll_cons_mk (Below.trod laidOut (by kernel_rfl) (of_decide_eq_true (by kernel_rfl)) k0 bel lt0) (trodAll_cons_mk (shut_string Try.underlying9 y1) (trodAll_cons_mk (shut_int Try.underlying5 w2) (trodAll_cons_mk (shut_int Try.underlying5 w3) trodAll_mk0)))), rfl, bel.frame _, fun h => by cases h⟩
theorem over : Rows.classForeignRow.holds Try.pinned (OpenSpec.ofChange Rows.classForeignSpec) :=
  OpenClaim.holds_of_wide 6 Try.f6 rfl rfl rfl rfl rfl rfl rfl ⟨rfl, rfl, rfl, rfl, rfl⟩ rfl rfl rfl rfl rfl (by kernel_rfl) Try.func6 (by kernel_rfl)
    (of_decide_eq_true (by kernel_rfl)) (by unfold Func.isWrapper; first | (rw [if_pos (by decide +kernel)]; kernel_rfl) | (rw [if_neg (by decide +kernel)]; exact ⟨rfl, rfl⟩))
    (fun os started H enc _ => lifted os started H enc)
theorem proved : Rows.ClassForeignSaid := over
#print axioms proved
end Go.Proofs.Ytdfcmkmdioddnaa.classForeign
namespace Go.Proofs.Ytdfcmkmdioddnaa
/-- The row, under a short name, for the claim. -/
theorem classForeign_holds : Rows.ClassForeignSaid := classForeign.proved
end Go.Proofs.Ytdfcmkmdioddnaa
