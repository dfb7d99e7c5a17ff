/- Proved here: the row of the law OccGrows, with texts that lead to it, merged by a program of this session (wip/merge.py), part 2 of 2; no condition beyond the statement's own. -/
import Derived.Test.YtekdmkdidnnpbaaPx0
import Derived.Test.YtekdmkdidnnpbaaH10b
import Derived.Test.YtekdmkdidnnpbaaOb10
import Derived.Test.YtekdmkdidnnpbaaH10a
import Derived.Test.YtekdmkdidnnpbaaH15
import Derived.Test.YtekdmkdidnnpbaaSame1
import Derived.Test.YtekdmkdidnnpbaaPx16
import Derived.SizedLaws
import Derived.SliceStrings
import Derived.Test.YtekdmkdidnnpbaaWWords
import Derived.Test.YtekdmkdidnnpbaaWSized
import Derived.Test.YtekdmkdidnnpbaaRows
import Derived.WalkKit
import Derived.ProofKit
import Derived.OpenShut
import Derived.ShutString
import Derived.ChangeOld
import Derived.Below
import Derived.Carry
import Derived.Test.YtekdmkdidnnpbaaZOccGrowsa
/- Proved here: what Go functions of this seat compute, or a law of it; no condition beyond the statement's own. Written for this claim by a program of this session (wip/myprint.py) over the kit's print.py. -/
namespace Go.Proofs.Ytekdmkdidnnpbaa.P
open Go.RowKit Go.Proofs.YtekdmkdidnnpbaaW.PrintWords Go.Proofs.YtekdmkdidnnpbaaW.PrintLast Go.Proofs.YtekdmkdidnnpbaaW.PrintMore
attribute [local go_sem] max2_int min2_int max_two min_two max_three min_three max_four min_four   -- for this text's walks alone
set_option linter.unusedVariables false
set_option linter.unusedSimpArgs false

/-! ### juratref09_Prefix: function 80 -/
def juratref09_Prefix.l0 : Nat → ByteArray → ByteArray → Int → Option (Int)
  | 0, _, _, _ => none
  | k + 1, x0, x1, x5 => if x5 < (x0.size : Int) then (if x5 < (x1.size : Int) then (if 0 ≤ x5 then (if (bt x0 x5) = (bt x1 x5) then (juratref09_Prefix.l0 k x0 x1 (wrap64 (x5 + 1))) else (some x5)) else (none)) else (some x5)) else (some x5)
def juratref09_Prefix.f (k : Nat) (a0 : ByteArray) (a1 : ByteArray) : Option (Int) := juratref09_Prefix.l0 k a0 a1 0
theorem juratref09_Prefix.mono_l : ∀ k, (∀ y0 y1 y2, LeO (juratref09_Prefix.l0 k y0 y1 y2) (juratref09_Prefix.l0 (k + 1) y0 y1 y2))
  | 0 => fun _ _ _ r h => by simp [juratref09_Prefix.l0] at h
  | k + 1 => by
    have ih0 := juratref09_Prefix.mono_l k
    · intro y0 y1 y2
      unfold juratref09_Prefix.l0
      repeat' first
      | (with_reducible exact ih0 _ _ _)
      | (with_reducible exact LeO.refl _)
      | (with_reducible exact LeO.none _)
      | (with_reducible refine LeO.ite ?_ ?_)
      | (with_reducible refine LeO.bind ?_ (fun _ => ?_))
      | exact ih0 _ _ _
      | exact LeO.none _
      | refine LeO.ite ?_ ?_
      | refine LeO.bind ?_ (fun _ => ?_)
theorem juratref09_Prefix.mono : ∀ a0 a1 k, LeO (juratref09_Prefix.f k a0 a1) (juratref09_Prefix.f (k + 1) a0 a1) := by
  intro a0 a1 k
  have ih0 := juratref09_Prefix.mono_l k
  unfold juratref09_Prefix.f
  repeat' first
      | (with_reducible exact ih0 _ _ _)
      | (with_reducible exact LeO.refl _)
      | (with_reducible exact LeO.none _)
      | (with_reducible refine LeO.ite ?_ ?_)
      | (with_reducible refine LeO.bind ?_ (fun _ => ?_))
      | exact ih0 _ _ _
      | exact LeO.none _
      | refine LeO.ite ?_ ?_
      | refine LeO.bind ?_ (fun _ => ?_)
set_option maxHeartbeats 8000000 in
set_option maxRecDepth 100000 in
theorem juratref09_Prefix.calls (k : Nat) (a0 : ByteArray) (a1 : ByteArray) (r : Int) (w : World) (h : juratref09_Prefix.f k a0 a1 = some r) :
    Calls Try.prog 80 #[.string a0, .string a1] w fun e w' => e = .returned (.int .i64 r) ∧ Drawn0 w w' := by
  have H : (juratref09_Prefix.l0 k a0 a1 0) = some r := h
  clear h
  have H' := Aside0.mk H
  clear H
  go_enter Try.func80, Try.ntmps80
  go_wp2
  repeat (go_quiet (fail); try go_wp2)
  go_loopg [5] k (fun kq v5 w' => ∃ (x5_1 : Int), v5 = .int .i64 x5_1 ∧ Aside0 (juratref09_Prefix.l0 kq a0 a1 x5_1 = some r) ∧ Aside0 (kq ≤ k) ∧ Drawn0 w w')
  case atStart => exact ⟨(0), (by first | rfl | exact isE_ _ | exact isE2_ _ | (simp; done) | (simp [*]; done)), H', ⟨Nat.le_refl _⟩, by repeat (first | exact Drawn0.refl _ | apply Drawn0.step)⟩
  case round =>
    clear H'
    try clear p2
    obtain ⟨x5_1, rfl, HA, HK1, ⟨m1, rfl⟩⟩ := hrel
    cases gk with
    | zero => exact absurd HA.out (by simp [juratref09_Prefix.l0])
    | succ k1 =>
      have H := HA.out
      clear HA
      simp only [juratref09_Prefix.l0] at H
      by_cases c3 : x5_1 < (a0.size : Int)
      · rw [if_pos c3] at H
        have c3b0 : decide (x5_1 < (a0.size : Int)) = true := decide_eq_true c3
        clear c3
        by_cases c4 : x5_1 < (a1.size : Int)
        · rw [if_pos c4] at H
          have c4b0 : decide (x5_1 < (a1.size : Int)) = true := decide_eq_true c4
          clear c4
          by_cases c5 : 0 ≤ x5_1
          · rw [if_pos c5] at H
            have c5b0 : decide (0 ≤ x5_1) = true := decide_eq_true c5
            clear c5
            by_cases c8 : (bt a0 x5_1) = (bt a1 x5_1)
            · rw [if_pos c8] at H
              have c8b0 : ((bt a0 x5_1) == (bt a1 x5_1)) = true := beq_iff_eq.mpr c8
              have c8b1 : ((bt a0 x5_1) != (bt a1 x5_1)) = false := bne_eq_false_iff_eq.mpr c8
              clear c8
              have H' := Aside0.mk H
              clear H
              have p6 : 0 ≤ (x5_1 : Int) := of_decide_eq_true (by first | (with_reducible assumption) | assumption)
              have q6 : x5_1 < (a0.size : Int) := of_decide_eq_true (by first | (with_reducible assumption) | assumption)
              have hx6 := bt_at a0 x5_1
              replace p6 := eq_true p6
              replace q6 := eq_true q6
              have p7 : 0 ≤ (x5_1 : Int) := of_decide_eq_true (by first | (with_reducible assumption) | assumption)
              have q7 : x5_1 < (a1.size : Int) := of_decide_eq_true (by first | (with_reducible assumption) | assumption)
              have hx7 := bt_at a1 x5_1
              replace p7 := eq_true p7
              replace q7 := eq_true q7
              go_wp2
              repeat (go_quiet (fail); try go_wp2)
              go_roundg k1
              case measure => have := HK1.out; omega
              case rel => exact ⟨(wrap64 (x5_1 + 1)), (by first | rfl | exact isE_ _ | exact isE2_ _ | (simp; done) | (simp [*]; done)), H', ⟨by have := HK1.out; omega⟩, by repeat (first | exact Drawn0.refl _ | apply Drawn0.step)⟩
            · rw [if_neg c8] at H
              have c8b0 : ((bt a0 x5_1) == (bt a1 x5_1)) = false := beq_eq_false_iff_ne.mpr c8
              have c8b1 : ((bt a0 x5_1) != (bt a1 x5_1)) = true := bne_iff_ne.mpr c8
              obtain rfl := Option.some.inj H
              have p6 : 0 ≤ (x5_1 : Int) := of_decide_eq_true (by first | (with_reducible assumption) | assumption)
              have q6 : x5_1 < (a0.size : Int) := of_decide_eq_true (by first | (with_reducible assumption) | assumption)
              have hx6 := bt_at a0 x5_1
              replace p6 := eq_true p6
              replace q6 := eq_true q6
              have p7 : 0 ≤ (x5_1 : Int) := of_decide_eq_true (by first | (with_reducible assumption) | assumption)
              have q7 : x5_1 < (a1.size : Int) := of_decide_eq_true (by first | (with_reducible assumption) | assumption)
              have hx7 := bt_at a1 x5_1
              replace p7 := eq_true p7
              replace q7 := eq_true q7
              go_wp2
              repeat (go_quiet (fail); try go_wp2)
              go_ret
              exact ⟨by first | rfl | (simp; done) | (simp [*]; done), by repeat (first | exact Drawn0.refl _ | apply Drawn0.step)⟩
          · rw [if_neg c5] at H
            exact absurd H (by simp)
        · rw [if_neg c4] at H
          have c4b0 : decide (x5_1 < (a1.size : Int)) = false := decide_eq_false c4
          clear c4
          obtain rfl := Option.some.inj H
          go_wp2
          repeat (go_quiet (fail); try go_wp2)
          go_ret
          exact ⟨by first | rfl | (simp; done) | (simp [*]; done), by repeat (first | exact Drawn0.refl _ | apply Drawn0.step)⟩
      · rw [if_neg c3] at H
        have c3b0 : decide (x5_1 < (a0.size : Int)) = false := decide_eq_false c3
        clear c3
        obtain rfl := Option.some.inj H
        go_wp2
        repeat (go_quiet (fail); try go_wp2)
        go_ret
        exact ⟨by first | rfl | (simp; done) | (simp [*]; done), by repeat (first | exact Drawn0.refl _ | apply Drawn0.step)⟩

end Go.Proofs.Ytekdmkdidnnpbaa.P

/- What layer 9 and its reference compute beside sorting, as plain functions on lists of bytes; no condition beyond the sizes that stand in each statement. -/
namespace Go.Proofs.Ytekdmkdidnnpbaa.Base
open Go Go.RowKit Go.Proofs.YtekdmkdidnnpbaaW.PrintWords Go.Proofs.YtekdmkdidnnpbaaW.PrintMore Go.Proofs.Ytekdmkdidnnpbaa.P
set_option linter.unusedVariables false

/-! alike at the beginning, at the end -/
theorem rprefix_l0 (a b : ByteArray) (ha : a.size < 4611686018427387904) : ∀ (d i : Nat), i + d = min a.size b.size →
    Ev (fun k => juratref09_Prefix.l0 k a b (i : Int)) (((i + pre ((LL a).drop i) ((LL b).drop i) : Nat)) : Int) := by
  intro d
  induction d with
  | zero =>
    intro i hi
    refine Ev.ret fun k => ?_
    have : pre ((LL a).drop i) ((LL b).drop i) = 0 := by
      have h := pre_le ((LL a).drop i) ((LL b).drop i)
      rw [List.length_drop, List.length_drop, LL_length, LL_length] at h
      omega
    rw [this]
    simp only [juratref09_Prefix.l0]
    by_cases h : i < a.size
    · rw [if_pos (by omega), if_neg (by omega)]; rfl
    · rw [if_neg (by omega)]; rfl
  | succ d ih =>
    intro i hi
    have h1 : i < (LL a).length := by rw [LL_length]; omega
    have h2 : i < (LL b).length := by rw [LL_length]; omega
    rw [getD_drop (LL a) i 0 h1, getD_drop (LL b) i 0 h2]
    by_cases h : bt a i = bt b i
    · have h' : (LL a).getD i 0 = (LL b).getD i 0 := by
        rw [bt_eq, bt_eq, Int.toNat_natCast] at h
        exact UInt8.toNat_inj.1 (by omega)
      refine Ev.step (f := fun k => juratref09_Prefix.l0 k a b ((i + 1 : Nat) : Int)) (fun k => ?_) ?_
      · simp only [juratref09_Prefix.l0]
        rw [if_pos (by omega), if_pos (by omega), if_pos (by omega), if_pos h, wrap_id (by omega) (by omega)]
        rfl
      · have := ih (i + 1) (by omega)
        simp only [pre, if_pos h']
        rw [show i + (pre ((LL a).drop (i + 1)) ((LL b).drop (i + 1)) + 1) = i + 1 + pre ((LL a).drop (i + 1)) ((LL b).drop (i + 1)) by omega]
        exact this
    · have h' : ¬ (LL a).getD i 0 = (LL b).getD i 0 := fun e => h (by rw [bt_eq, bt_eq, Int.toNat_natCast, e])
      refine Ev.ret fun k => ?_
      simp only [juratref09_Prefix.l0]
      rw [if_pos (by omega), if_pos (by omega), if_pos (by omega), if_neg h]
      simp only [pre, if_neg h']
      rfl
theorem rprefix_ev (a b : ByteArray) (ha : a.size < 4611686018427387904) : Ev (fun k => juratref09_Prefix.f k a b) (pre (LL a) (LL b) : Int) := by
  have h := rprefix_l0 a b ha (min a.size b.size) 0 (by omega)
  rw [List.drop_zero, List.drop_zero, Nat.zero_add] at h
  exact h

theorem bt_rev {a : ByteArray} {i : Nat} (hi : i < a.size) : bt a ((a.size : Int) - 1 - (i : Int)) = (((LL a).reverse.getD i 0).toNat : Int) := by
  rw [bt_eq, show ((a.size : Int) - 1 - (i : Int)).toNat = a.size - 1 - i by omega]
  have h1 : i < (LL a).length := by rw [LL_length]; exact hi
  rw [List.getD_eq_getElem?_getD, List.getD_eq_getElem?_getD, List.getElem?_reverse h1, LL_length]
def suf (a b : ByteArray) : Nat := pre (LL a).reverse (LL b).reverse
theorem LL_rev_length (s : ByteArray) : (LL s).reverse.length = s.size := by rw [List.length_reverse, LL_length]
theorem suffix_l0 (a b : ByteArray) (ha : a.size < 4611686018427387904) (hb : b.size < 4611686018427387904) (n : Int) (hn : n = (min a.size b.size : Nat)) : ∀ (d i : Nat), i + d = min a.size b.size →
    Ev (fun k => affix_Suffix.l0 k a b n n (i : Int)) (((i + pre ((LL a).reverse.drop i) ((LL b).reverse.drop i) : Nat)) : Int) := by
  intro d
  induction d with
  | zero =>
    intro i hi
    refine Ev.ret fun k => ?_
    simp only [affix_Suffix.l0]
    rw [if_neg (by omega)]
    have : pre ((LL a).reverse.drop i) ((LL b).reverse.drop i) = 0 := by
      have h := pre_le ((LL a).reverse.drop i) ((LL b).reverse.drop i)
      rw [List.length_drop, List.length_drop, LL_rev_length, LL_rev_length] at h
      omega
    rw [this]
    congr 1
    omega
  | succ d ih =>
    intro i hi
    have h1 : i < (LL a).reverse.length := by rw [LL_rev_length]; omega
    have h2 : i < (LL b).reverse.length := by rw [LL_rev_length]; omega
    rw [getD_drop (LL a).reverse i 0 h1, getD_drop (LL b).reverse i 0 h2]
    have b1 := bt_rev (a := a) (i := i) (by omega)
    have b2 := bt_rev (a := b) (i := i) (by omega)
    by_cases h : (LL a).reverse.getD i 0 = (LL b).reverse.getD i 0
    · refine Ev.step (f := fun k => affix_Suffix.l0 k a b n n ((i + 1 : Nat) : Int)) (fun k => ?_) ?_
      · simp only [affix_Suffix.l0]
        rw [wrap_id (x := (a.size : Int) - 1) (by omega) (by omega), wrap_id (x := (b.size : Int) - 1) (by omega) (by omega), wrap_id (x := (a.size : Int) - 1 - (i : Int)) (by omega) (by omega), wrap_id (x := (b.size : Int) - 1 - (i : Int)) (by omega) (by omega), b1, b2]
        rw [if_pos (by omega), if_pos (by omega), if_pos (by omega), if_pos (by omega), if_pos (by omega), if_pos (by rw [h]), wrap_id (by omega) (by omega)]
        rfl
      · have := ih (i + 1) (by omega)
        simp only [pre, if_pos h]
        rw [show i + (pre ((LL a).reverse.drop (i + 1)) ((LL b).reverse.drop (i + 1)) + 1) = i + 1 + pre ((LL a).reverse.drop (i + 1)) ((LL b).reverse.drop (i + 1)) by omega]
        exact this
    · refine Ev.ret fun k => ?_
      simp only [affix_Suffix.l0]
      rw [wrap_id (x := (a.size : Int) - 1) (by omega) (by omega), wrap_id (x := (b.size : Int) - 1) (by omega) (by omega), wrap_id (x := (a.size : Int) - 1 - (i : Int)) (by omega) (by omega), wrap_id (x := (b.size : Int) - 1 - (i : Int)) (by omega) (by omega), b1, b2]
      rw [if_pos (by omega), if_pos (by omega), if_pos (by omega), if_pos (by omega), if_pos (by omega), if_neg (fun e => h (UInt8.toNat_inj.1 (by omega)))]
      simp only [pre, if_neg h]
      rfl
theorem suffix_ev (a b : ByteArray) (ha : a.size < 4611686018427387904) (hb : b.size < 4611686018427387904) : Ev (fun k => affix_Suffix.f k a b) (suf a b : Int) := by
  have h := suffix_l0 a b ha hb _ (mn_eq a.size b.size) (min a.size b.size) 0 (by omega)
  rw [List.drop_zero, List.drop_zero, Nat.zero_add] at h
  exact h
theorem ends_ev (a b : ByteArray) (ha : a.size < 4611686018427387904) (hb : b.size < 4611686018427387904) : Ev (fun k => affix_Ends.f k a b) ((suf a b : Int) == (b.size : Int)) := by
  unfold affix_Ends.f
  exact Ev.bind (suffix_ev a b ha hb) (Ev.now _)

/-! where a text stands -/

/-! what neighbours share -/
def sharedL (l : List ByteArray) : List Int := (List.range l.length).map fun i => if i = 0 then 0 else (pre (LL (l.getD (i - 1) ByteArray.empty)) (LL (l.getD i ByteArray.empty)) : Int)
theorem sharedL_length (l : List ByteArray) : (sharedL l).length = l.length := by unfold sharedL; simp
theorem sharedL_getD (l : List ByteArray) (i : Nat) (h : i < l.length) : (sharedL l).getD i 0 = if i = 0 then 0 else (pre (LL (l.getD (i - 1) ByteArray.empty)) (LL (l.getD i ByteArray.empty)) : Int) := by
  unfold sharedL
  rw [List.getD_eq_getElem?_getD, List.getElem?_map, List.getElem?_range h]
  rfl

end Go.Proofs.Ytekdmkdidnnpbaa.Base

/- Proved here: what Go functions of this seat compute, or a law of it; no condition beyond the statement's own. Written for this claim by a program of this session (wip/myprint.py) over the kit's print.py. -/
namespace Go.Proofs.Ytekdmkdidnnpbaa.P
open Go.RowKit Go.Proofs.YtekdmkdidnnpbaaW.PrintWords Go.Proofs.YtekdmkdidnnpbaaW.PrintLast Go.Proofs.YtekdmkdidnnpbaaW.PrintMore
attribute [local go_sem] max2_int min2_int max_two min_two max_three min_three max_four min_four   -- for this text's walks alone
set_option linter.unusedVariables false
set_option linter.unusedSimpArgs false

/-! ### occ_At: function 27 -/
mutual
def occ_At.j0 : Nat → Option D90 → ByteArray → Int → Bool → Option (List Int)
  | 0, _, _, _, _ => none
  | k + 1, x0, x1, x2, x17 => if x17 = true then (some ([] : List Int)) else ((pats_Set_List.f x0).bind fun t275 => (occ_At.l0 k x1 x2 ([] : List Int) t275 (t275.length : Int) 0))
def occ_At.l0 : Nat → ByteArray → Int → List Int → List ByteArray → Int → Int → Option (List Int)
  | 0, _, _, _, _, _, _ => none
  | k + 1, x1, x2, x7, x19, x20, x21 => if x21 < x20 then (if 0 ≤ x21 then (if x21 < (x19.length : Int) then (if 0 ≤ x2 then (if x2 ≤ (x1.size : Int) then ((affix_Ends.f k (x1.extract 0 (x2 : Int).toNat) (rdOf ByteArray.empty x19 x21)).bind fun t279 => (if t279 = true then (if x7.length < 17592186044416 then (occ_At.l0 k x1 x2 (x7 ++ [x21]) x19 x20 (wrap64 (x21 + 1))) else (none)) else (occ_At.l0 k x1 x2 x7 x19 x20 (wrap64 (x21 + 1))))) else (none)) else (none)) else (none)) else (none)) else (some x7)
end
def occ_At.f (k : Nat) (a0 : Option D90) (a1 : ByteArray) (a2 : Int) : Option (List Int) := if a2 < 0 then (occ_At.j0 k a0 a1 a2 true) else (occ_At.j0 k a0 a1 a2 (decide (a2 > (a1.size : Int))))
theorem occ_At.mono_l : ∀ k, (∀ y0 y1 y2 y3, LeO (occ_At.j0 k y0 y1 y2 y3) (occ_At.j0 (k + 1) y0 y1 y2 y3)) ∧ (∀ y0 y1 y2 y3 y4 y5, LeO (occ_At.l0 k y0 y1 y2 y3 y4 y5) (occ_At.l0 (k + 1) y0 y1 y2 y3 y4 y5))
  | 0 => ⟨fun _ _ _ _ r h => by simp [occ_At.j0] at h, fun _ _ _ _ _ _ r h => by simp [occ_At.l0] at h⟩
  | k + 1 => by
    obtain ⟨ih0, ih1⟩ := occ_At.mono_l k
    refine ⟨?_, ?_⟩
    · intro y0 y1 y2 y3
      unfold occ_At.j0
      repeat' first
      | (with_reducible exact ih0 _ _ _ _)
      | (with_reducible exact ih1 _ _ _ _ _ _)
      | (with_reducible exact affix_Ends.mono _ _ _)
      | (with_reducible exact LeO.refl _)
      | (with_reducible exact LeO.none _)
      | (with_reducible refine LeO.ite ?_ ?_)
      | (with_reducible refine LeO.bind ?_ (fun _ => ?_))
      | exact ih0 _ _ _ _
      | exact ih1 _ _ _ _ _ _
      | exact affix_Ends.mono _ _ _
      | exact LeO.none _
      | refine LeO.ite ?_ ?_
      | refine LeO.bind ?_ (fun _ => ?_)
    · intro y0 y1 y2 y3 y4 y5
      unfold occ_At.l0
      repeat' first
      | (with_reducible exact ih0 _ _ _ _)
      | (with_reducible exact ih1 _ _ _ _ _ _)
      | (with_reducible exact affix_Ends.mono _ _ _)
      | (with_reducible exact LeO.refl _)
      | (with_reducible exact LeO.none _)
      | (with_reducible refine LeO.ite ?_ ?_)
      | (with_reducible refine LeO.bind ?_ (fun _ => ?_))
      | exact ih0 _ _ _ _
      | exact ih1 _ _ _ _ _ _
      | exact affix_Ends.mono _ _ _
      | exact LeO.none _
      | refine LeO.ite ?_ ?_
      | refine LeO.bind ?_ (fun _ => ?_)
theorem occ_At.mono : ∀ a0 a1 a2 k, LeO (occ_At.f k a0 a1 a2) (occ_At.f (k + 1) a0 a1 a2) := by
  intro a0 a1 a2 k
  obtain ⟨ih0, ih1⟩ := occ_At.mono_l k
  unfold occ_At.f
  repeat' first
      | (with_reducible exact ih0 _ _ _ _)
      | (with_reducible exact ih1 _ _ _ _ _ _)
      | (with_reducible exact affix_Ends.mono _ _ _)
      | (with_reducible exact LeO.refl _)
      | (with_reducible exact LeO.none _)
      | (with_reducible refine LeO.ite ?_ ?_)
      | (with_reducible refine LeO.bind ?_ (fun _ => ?_))
      | exact ih0 _ _ _ _
      | exact ih1 _ _ _ _ _ _
      | exact affix_Ends.mono _ _ _
      | exact LeO.none _
      | refine LeO.ite ?_ ?_
      | refine LeO.bind ?_ (fun _ => ?_)
set_option maxHeartbeats 8000000 in
set_option maxRecDepth 100000 in
theorem occ_At.calls (k : Nat) (Pa0 : Option Addr) (a0 : Option D90) (a1 : ByteArray) (a2 : Int) (r : List Int) (w : World) (ho0 : OB K90 w Pa0 a0) (h : occ_At.f k a0 a1 a2 = some r) :
    Calls Try.prog 27 #[.pointer Pa0, .string a1, .int .i64 a2] w fun e w' => ∃ v0_ : Value, e = .returned (v0_) ∧ Kd.R (Kd.int .i64) 3 w' w.heap.size (fun _ => True) v0_ r ∧ Below w.heap.size w w' := by
  have HO_a0 := Aside0.mk ho0
  clear ho0
  have HB := Aside0.mk (Below.refl w.heap.size w)
  have H : (if a2 < 0 then (occ_At.j0 k a0 a1 a2 true) else (occ_At.j0 k a0 a1 a2 (decide (a2 > (a1.size : Int))))) = some r := h
  clear h
  have HC4 := Aside0.mk H
  clear H
  go_enter Try.func27, Try.ntmps27
  go_upto_region 1 with (fail)
  go_cut [17] (fun v17 wc => ∃ (kq : Nat) (x17_3 : Bool), v17 = .bool x17_3 ∧ Aside0 (occ_At.j0 kq a0 a1 a2 x17_3 = some r) ∧ Aside0 (kq ≤ k) ∧ Aside0 (Below w.heap.size w wc))
  case first =>
    have H := HC4.out
    clear HC4
    by_cases c5 : a2 < 0
    · rw [if_pos c5] at H
      have c5b0 : decide (a2 < 0) = true := decide_eq_true c5
      clear c5
      (first | rw [c5b0] | rw [c5b1] | (simp only [i64_w, i32_w]; rw [c5b0]) | skip)
      have H' := Aside0.mk H
      clear H
      go_wp2
      go_meet
      case rel => exact ⟨_, (true), (by first | rfl | exact isE_ _ | exact isE2_ _ | (simp; done) | (simp [*]; done)), H', ⟨by first | omega | exact Nat.le_refl _⟩, ⟨by repeat (first | (with_reducible first | exact HB.out | apply below_alloc | apply pw_below_drewN | apply below_drew1) | exact HB.out)⟩⟩
    · rw [if_neg c5] at H
      have c5b0 : decide (a2 < 0) = false := decide_eq_false c5
      clear c5
      (first | rw [c5b0] | rw [c5b1] | (simp only [i64_w, i32_w]; rw [c5b0]) | skip)
      have H' := Aside0.mk H
      clear H
      go_wp2
      go_meet
      case rel => exact ⟨_, (decide (a2 > (a1.size : Int))), (by first | rfl | exact isE_ _ | exact isE2_ _ | (simp; done) | (simp [*]; done)), H', ⟨by first | omega | exact Nat.le_refl _⟩, ⟨by repeat (first | (with_reducible first | exact HB.out | apply below_alloc | apply pw_below_drewN | apply below_drew1) | exact HB.out)⟩⟩
  case rest =>
    clear HC4
    try clear c2
    try clear p2
    try clear c5
    try clear c5b0
    obtain ⟨kq, x17_3, rfl, HA, HJ3, HB⟩ := hcut
    cases kq with
    | zero => exact absurd HA.out (by simp [occ_At.j0])
    | succ kj3 =>
      have H := HA.out
      clear HA
      simp only [occ_At.j0] at H
      by_cases c6 : x17_3 = true
      · subst c6
        have H1 : (some ([] : List Int)) = some r := by rw [if_pos rfl] at H; exact H
        clear H
        have H := H1
        clear H1
        obtain rfl := Option.some.inj H
        go_wp2
        go_ret
        exact ⟨_, by first | rfl | (simp [errW_none, errW_some] <;> rfl) | (simp [*, errW_none, errW_some] <;> rfl), by first | exact Kd.R_nil _ _ _ _ _ | exact Kd.N_nil _ _ _ _ _ | exact Kd.V_nil _ _ _ _ _ | exact Kd.Q_nil _ _ _ _ _ | exact Kd.S_nil _ _ _ _ _, by repeat (first | (with_reducible first | exact HB.out | apply below_alloc | apply pw_below_drewN | apply below_drew1) | exact HB.out)⟩
      · replace c6 := Bool.eq_false_iff.mpr c6
        subst c6
        have H1 : ((pats_Set_List.f a0).bind fun t275 => (occ_At.l0 kj3 a1 a2 ([] : List Int) t275 (t275.length : Int) 0)) = some r := by rw [if_neg (show ¬ (false = true) by decide)] at H; exact H
        clear H
        have H := H1
        clear H1
        replace H := Option.bind_eq_some_iff.mp H
        obtain ⟨t275, A70, H⟩ := H
        replace H : (occ_At.l0 kj3 a1 a2 ([] : List Int) t275 (t275.length : Int) 0) = some r := H
        have A7 := Aside0.mk A70
        clear A70
        have H' := Aside0.mk H
        clear H
        go_wp2_with (first | ((with_reducible refine gate_callee (f := 22) rfl ?_); refine goesL_ (some 19) rfl rfl Try.func22 (by kernel_rfl) rfl #[.pointer Pa0] rfl (by (try simp only [List.map_toArray, List.map_cons, List.map_nil]); first | done | rfl | (simp only [List.length_drop, List.length_take]; rfl)) ?_; (with_reducible refine (pats_Set_List.calls _ a0 t275 _ ?side1 A7.out).mono ?_); (case side1 => first | exact HO_a0.out | exact OB.drewN HO_a0.out _ | exact OB.below (by repeat (first | (with_reducible first | exact HB.out | apply below_alloc | apply pw_below_drewN | apply below_drew1) | exact HB.out)) HO_a0.out); rintro e w8 ⟨v276, rfl, ho0, hb⟩; refine ⟨_, rfl, ?_⟩; have n0_ := Aside0.mk (Kd.R_lower ho0 (below_size (by repeat (first | (with_reducible first | exact HB.out | apply below_alloc | apply pw_below_drewN | apply below_drew1) | exact HB.out)))); have n1_ := Aside0.mk (below_step (by repeat (first | (with_reducible first | exact HB.out | apply below_alloc | apply pw_below_drewN | apply below_drew1) | exact HB.out)) hb); clear HB; have HO277 := n0_; have HB := n1_; clear n0_ n1_; (try clear hb); (try clear hb2); (try clear hk); (try clear hi); (try clear ho0); obtain ⟨Ao9, co9, eo9⟩ := Kd.R_slice HO277.out; subst eo9))
        go_loopg [7, 21] kj3 (fun kq v7 v21 w' => ∃ (x7_2 : List Int) (x21_2 : Int), v21 = .int .i64 x21_2 ∧ Aside0 (occ_At.l0 kq a1 a2 x7_2 t275 (t275.length : Int) x21_2 = some r) ∧ Aside0 (kq ≤ kj3) ∧ Aside0 (Kd.R (Kd.int .i64) 3 w' w.heap.size (fun _ => True) v7 x7_2) ∧ Aside0 (Kd.R Kd.string 9 w' w.heap.size (fun _ => True) (.slice Ao9 t275.length co9) t275) ∧ Aside0 (Below w.heap.size w w'))
        case atStart => exact ⟨(([] : List Int)), (0), (by first | rfl | exact isE_ _ | exact isE2_ _ | (simp; done) | (simp [*]; done)), H', ⟨Nat.le_refl _⟩, ⟨by first | exact Kd.R_nil _ _ _ _ _ | exact Kd.N_nil _ _ _ _ _ | exact Kd.V_nil _ _ _ _ _ | exact Kd.Q_nil _ _ _ _ _ | exact Kd.S_nil _ _ _ _ _⟩, ⟨by (with_reducible repeat (first | apply Kd.R_alloc | apply Kd.R_drewN | apply Kd.R_drew)); exact HO277.out⟩, ⟨by repeat (first | (with_reducible first | exact HB.out | apply below_alloc | apply pw_below_drewN | apply below_drew1) | exact HB.out)⟩⟩
        case round =>
          clear H'
          try clear c2
          try clear p2
          try clear c5
          try clear c5b0
          try clear c6
          try clear p2
          obtain ⟨x7_2, x21_2, rfl, HA, HK2, HO_7, HO_19, HB⟩ := hrel
          cases gk with
          | zero => exact absurd HA.out (by simp [occ_At.l0])
          | succ k2 =>
            have H := HA.out
            clear HA
            simp only [occ_At.l0] at H
            by_cases c10 : x21_2 < (t275.length : Int)
            · rw [if_pos c10] at H
              have c10b0 : decide (x21_2 < (t275.length : Int)) = true := decide_eq_true c10
              clear c10
              by_cases c11 : 0 ≤ x21_2
              · rw [if_pos c11] at H
                have c11b0 : decide (0 ≤ x21_2) = true := decide_eq_true c11
                clear c11
                by_cases c12 : x21_2 < (t275.length : Int)
                · rw [if_pos c12] at H
                  have c12b0 : decide (x21_2 < (t275.length : Int)) = true := decide_eq_true c12
                  clear c12
                  by_cases c13 : 0 ≤ a2
                  · rw [if_pos c13] at H
                    have c13b0 := eq_true c13
                    have c13b1 : decide (0 ≤ a2) = true := decide_eq_true c13
                    clear c13
                    by_cases c14 : a2 ≤ (a1.size : Int)
                    · rw [if_pos c14] at H
                      have c14b0 := eq_true c14
                      have c14b1 : decide (a2 ≤ (a1.size : Int)) = true := decide_eq_true c14
                      clear c14
                      replace H := Option.bind_eq_some_iff.mp H
                      obtain ⟨t279, A150, H⟩ := H
                      replace H : (if t279 = true then (if x7_2.length < 17592186044416 then (occ_At.l0 k2 a1 a2 (x7_2 ++ [x21_2]) t275 (t275.length : Int) (wrap64 (x21_2 + 1))) else (none)) else (occ_At.l0 k2 a1 a2 x7_2 t275 (t275.length : Int) (wrap64 (x21_2 + 1)))) = some r := H
                      have A15 := Aside0.mk A150
                      clear A150
                      by_cases c16 : t279 = true
                      · subst c16
                        have H1 : (if x7_2.length < 17592186044416 then (occ_At.l0 k2 a1 a2 (x7_2 ++ [x21_2]) t275 (t275.length : Int) (wrap64 (x21_2 + 1))) else (none)) = some r := by rw [if_pos rfl] at H; exact H
                        clear H
                        have H := H1
                        clear H1
                        by_cases c17 : x7_2.length < 17592186044416
                        · rw [if_pos c17] at H
                          have LMc17 := Aside0.mk c17
                          clear c17
                          obtain ⟨y280, hy280⟩ : ∃ y_ : List Int, y_ = (x7_2 ++ [x21_2]) := ⟨_, rfl⟩
                          replace H : (occ_At.l0 k2 a1 a2 y280 t275 (t275.length : Int) (wrap64 (x21_2 + 1))) = some r := by first | (rw [hy280]; with_reducible exact H) | (have H2_ := (Option.bind_some _ _).symm.trans H; rw [hy280]; with_reducible exact H2_) | (have H2_ := (Option.bind_some _ _).symm.trans H; with_reducible exact H2_) | with_reducible exact H | (rw [hy280]; exact H) | exact H
                          have Ny280 := Aside0.mk hy280
                          clear hy280
                          have H' := Aside0.mk H
                          clear H
                          have p278 : 0 ≤ (x21_2 : Int) := of_decide_eq_true (by first | (with_reducible assumption) | assumption)
                          have q278 : x21_2 < (t275.length : Int) := of_decide_eq_true (by first | (with_reducible assumption) | assumption)
                          obtain ⟨ad278, e278, hx278_0⟩ := Kd.at_string (Kd.R_reads' HO_19.out).2.2 x21_2 p278 q278
                          cases e278
                          replace p278 := eq_true p278
                          replace q278 := eq_true q278
                          go_wp2_with (first | ((with_reducible refine gate_callee (f := 71) rfl ?_); refine goesL_ (some 30) rfl rfl Try.func71 (by kernel_rfl) rfl #[.string (a1.extract 0 (a2 : Int).toNat), .string (rdOf ByteArray.empty t275 x21_2)] rfl (by (try simp only [List.map_toArray, List.map_cons, List.map_nil]); first | done | rfl | (simp only [List.length_drop, List.length_take]; rfl)) ?_; (with_reducible refine (affix_Ends.calls k2 (a1.extract 0 (a2 : Int).toNat) (rdOf ByteArray.empty t275 x21_2) true _ A15.out).mono ?_); rintro e w' ⟨rfl, ⟨nd, rfl⟩⟩; refine ⟨_, rfl, ?_⟩) | ((with_reducible refine gate_builtin (b := .append) (xs := #[.tmp 31, .tmp 33]) rfl ?_); (try (refine gate_guard (by rfl) ?_; dsimp only)); at_builtin; refine Kd.R_append (Kd.int .i64) (w0 := w) w.heap.size rfl (.tmp 31) (.tmp 33) 43 3 (.int .i64 0) 8 rfl Try.underlying43 info3 rfl (by decide) (by omega) u7 x7_2 x21_2 [.int .i64 x21_2] (fun _ => True) (fun _ => False) rfl rfl ?aP (fun _ hk => hk.elim) ?aF ?aO ?aB ?aS ?aL ?_; (case aP => exact rfl); (case aB => exact (by repeat (first | (with_reducible first | exact HB.out | apply below_alloc | apply pw_below_drewN | apply below_drew1) | exact HB.out))); (case aF => exact (fun _ _ => trivial)); (case aO => exact (by (with_reducible repeat (first | apply Kd.R_alloc | apply Kd.R_drewN | apply Kd.R_drew)); exact HO_7.out)); (case aS => exact (below_size (by repeat (first | (with_reducible first | exact HB.out | apply below_alloc | apply pw_below_drewN | apply below_drew1) | exact HB.out)))); (case aL => have := LMc17.out; omega); intro v281 w18 ho hb hg hat; rw [← Ny280.out] at ho; have n0_ := Aside0.mk (Kd.R_over' (by (with_reducible repeat (first | apply Kd.R_alloc | apply Kd.R_drewN | apply Kd.R_drew)); exact HO_19.out) (Kd.R_typed (by (with_reducible repeat (first | apply Kd.R_alloc | apply Kd.R_drewN | apply Kd.R_drew)); exact HO_7.out)) (by decide) hg); have n1_ := Aside0.mk (hb); have n2_ := Aside0.mk (ho); clear HO_19; clear HB; clear HO_7; have HO_19 := n0_; have HB := n1_; have HO282 := n2_; clear n0_ n1_ n2_; clear ho hb hg hat))
                          go_roundg k2
                          case measure => have := HJ3.out; have := HK2.out; omega
                          case rel => exact ⟨(y280), (wrap64 (x21_2 + 1)), (by first | rfl | exact isE_ _ | exact isE2_ _ | (simp; done) | (simp [*]; done)), H', ⟨by have := HJ3.out; have := HK2.out; omega⟩, ⟨by (with_reducible repeat (first | apply Kd.R_alloc | apply Kd.R_drewN | apply Kd.R_drew)); exact HO282.out⟩, ⟨by (with_reducible repeat (first | apply Kd.R_alloc | apply Kd.R_drewN | apply Kd.R_drew)); exact HO_19.out⟩, ⟨by repeat (first | (with_reducible first | exact HB.out | apply below_alloc | apply pw_below_drewN | apply below_drew1) | exact HB.out)⟩⟩
                        · rw [if_neg c17] at H
                          exact absurd H (by simp)
                      · replace c16 := Bool.eq_false_iff.mpr c16
                        subst c16
                        have H1 : (occ_At.l0 k2 a1 a2 x7_2 t275 (t275.length : Int) (wrap64 (x21_2 + 1))) = some r := by rw [if_neg (show ¬ (false = true) by decide)] at H; exact H
                        clear H
                        have H := H1
                        clear H1
                        have H' := Aside0.mk H
                        clear H
                        have p278 : 0 ≤ (x21_2 : Int) := of_decide_eq_true (by first | (with_reducible assumption) | assumption)
                        have q278 : x21_2 < (t275.length : Int) := of_decide_eq_true (by first | (with_reducible assumption) | assumption)
                        obtain ⟨ad278, e278, hx278_0⟩ := Kd.at_string (Kd.R_reads' HO_19.out).2.2 x21_2 p278 q278
                        cases e278
                        replace p278 := eq_true p278
                        replace q278 := eq_true q278
                        go_wp2_with (first | ((with_reducible refine gate_callee (f := 71) rfl ?_); refine goesL_ (some 30) rfl rfl Try.func71 (by kernel_rfl) rfl #[.string (a1.extract 0 (a2 : Int).toNat), .string (rdOf ByteArray.empty t275 x21_2)] rfl (by (try simp only [List.map_toArray, List.map_cons, List.map_nil]); first | done | rfl | (simp only [List.length_drop, List.length_take]; rfl)) ?_; (with_reducible refine (affix_Ends.calls k2 (a1.extract 0 (a2 : Int).toNat) (rdOf ByteArray.empty t275 x21_2) false _ A15.out).mono ?_); rintro e w' ⟨rfl, ⟨nd, rfl⟩⟩; refine ⟨_, rfl, ?_⟩))
                        go_roundg k2
                        case measure => have := HJ3.out; have := HK2.out; omega
                        case rel => exact ⟨(x7_2), (wrap64 (x21_2 + 1)), (by first | rfl | exact isE_ _ | exact isE2_ _ | (simp; done) | (simp [*]; done)), H', ⟨by have := HJ3.out; have := HK2.out; omega⟩, ⟨by (with_reducible repeat (first | apply Kd.R_alloc | apply Kd.R_drewN | apply Kd.R_drew)); exact HO_7.out⟩, ⟨by (with_reducible repeat (first | apply Kd.R_alloc | apply Kd.R_drewN | apply Kd.R_drew)); exact HO_19.out⟩, ⟨by repeat (first | (with_reducible first | exact HB.out | apply below_alloc | apply pw_below_drewN | apply below_drew1) | exact HB.out)⟩⟩
                    · rw [if_neg c14] at H
                      exact absurd H (by simp)
                  · rw [if_neg c13] at H
                    exact absurd H (by simp)
                · rw [if_neg c12] at H
                  exact absurd H (by simp)
              · rw [if_neg c11] at H
                exact absurd H (by simp)
            · rw [if_neg c10] at H
              have c10b0 : decide (x21_2 < (t275.length : Int)) = false := decide_eq_false c10
              clear c10
              obtain rfl := Option.some.inj H
              go_wp2
              go_ret
              exact ⟨_, by first | rfl | (simp [errW_none, errW_some] <;> rfl) | (simp [*, errW_none, errW_some] <;> rfl), by (with_reducible repeat (first | apply Kd.R_alloc | apply Kd.R_drewN | apply Kd.R_drew)); exact HO_7.out, by repeat (first | (with_reducible first | exact HB.out | apply below_alloc | apply pw_below_drewN | apply below_drew1) | exact HB.out)⟩

end Go.Proofs.Ytekdmkdidnnpbaa.P

/- Proved here: what Go functions of this seat compute, or a law of it; no condition beyond the statement's own. Written for this claim by a program of this session (wip/myprint.py) over the kit's print.py. -/
namespace Go.Proofs.Ytekdmkdidnnpbaa.P
open Go.RowKit Go.Proofs.YtekdmkdidnnpbaaW.PrintWords Go.Proofs.YtekdmkdidnnpbaaW.PrintLast Go.Proofs.YtekdmkdidnnpbaaW.PrintMore
attribute [local go_sem] max2_int min2_int max_two min_two max_three min_three max_four min_four   -- for this text's walks alone
set_option linter.unusedVariables false
set_option linter.unusedSimpArgs false

/-! ### occ_Counts: function 25 -/
def occ_Counts.l0 : Nat → List Int → List (S23) → Int → Int → Option (List Int)
  | 0, _, _, _, _ => none
  | k + 1, x5, x13, x14, x15 => if x15 < x14 then (if 0 ≤ x15 then (if x15 < (x13.length : Int) then (if 0 ≤ ((rd_T23 x13 x15).f1) then (if ((rd_T23 x13 x15).f1) < (x5.length : Int) then (occ_Counts.l0 k (x5.set (((rd_T23 x13 x15).f1) : Int).toNat (wrap64 ((rd x5 ((rd_T23 x13 x15).f1)) + 1))) x13 x14 (wrap64 (x15 + 1))) else (none)) else (none)) else (none)) else (none)) else (some x5)
def occ_Counts.f (k : Nat) (a0 : Option D90) (a1 : ByteArray) : Option (List Int) := (pats_Set_Len.f a0).bind fun t261 => (if 0 ≤ t261 then (if (t261 : Int).toNat ≤ 35184372088832 then ((occ_All.f a0 a1).bind fun t265 => (occ_Counts.l0 k (List.replicate (t261 : Int).toNat 0) t265 (t265.length : Int) 0)) else (none)) else (none))
theorem occ_Counts.mono_l : ∀ k, (∀ y0 y1 y2 y3, LeO (occ_Counts.l0 k y0 y1 y2 y3) (occ_Counts.l0 (k + 1) y0 y1 y2 y3))
  | 0 => fun _ _ _ _ r h => by simp [occ_Counts.l0] at h
  | k + 1 => by
    have ih0 := occ_Counts.mono_l k
    · intro y0 y1 y2 y3
      unfold occ_Counts.l0
      repeat' first
      | (with_reducible exact ih0 _ _ _ _)
      | (with_reducible exact LeO.refl _)
      | (with_reducible exact LeO.none _)
      | (with_reducible refine LeO.ite ?_ ?_)
      | (with_reducible refine LeO.bind ?_ (fun _ => ?_))
      | exact ih0 _ _ _ _
      | exact LeO.none _
      | refine LeO.ite ?_ ?_
      | refine LeO.bind ?_ (fun _ => ?_)
theorem occ_Counts.mono : ∀ a0 a1 k, LeO (occ_Counts.f k a0 a1) (occ_Counts.f (k + 1) a0 a1) := by
  intro a0 a1 k
  have ih0 := occ_Counts.mono_l k
  unfold occ_Counts.f
  repeat' first
      | (with_reducible exact ih0 _ _ _ _)
      | (with_reducible exact LeO.refl _)
      | (with_reducible exact LeO.none _)
      | (with_reducible refine LeO.ite ?_ ?_)
      | (with_reducible refine LeO.bind ?_ (fun _ => ?_))
      | exact ih0 _ _ _ _
      | exact LeO.none _
      | refine LeO.ite ?_ ?_
      | refine LeO.bind ?_ (fun _ => ?_)
set_option maxHeartbeats 8000000 in
set_option maxRecDepth 100000 in
theorem occ_Counts.calls (k : Nat) (Pa0 : Option Addr) (a0 : Option D90) (a1 : ByteArray) (r : List Int) (w : World) (ho0 : OB K90 w Pa0 a0) (h : occ_Counts.f k a0 a1 = some r) :
    Calls Try.prog 25 #[.pointer Pa0, .string a1] w fun e w' => ∃ v0_ : Value, e = .returned (v0_) ∧ Kd.R (Kd.int .i64) 3 w' w.heap.size (fun _ => True) v0_ r ∧ Below w.heap.size w w' := by
  have hu23 := Try.underlying23
  have HO_a0 := Aside0.mk ho0
  clear ho0
  have HB := Aside0.mk (Below.refl w.heap.size w)
  have H : ((pats_Set_Len.f a0).bind fun t261 => (if 0 ≤ t261 then (if (t261 : Int).toNat ≤ 35184372088832 then ((occ_All.f a0 a1).bind fun t265 => (occ_Counts.l0 k (List.replicate (t261 : Int).toNat 0) t265 (t265.length : Int) 0)) else (none)) else (none))) = some r := h
  clear h
  replace H := Option.bind_eq_some_iff.mp H
  obtain ⟨t261, A30, H⟩ := H
  replace H : (if 0 ≤ t261 then (if (t261 : Int).toNat ≤ 35184372088832 then ((occ_All.f a0 a1).bind fun t265 => (occ_Counts.l0 k (List.replicate (t261 : Int).toNat 0) t265 (t265.length : Int) 0)) else (none)) else (none)) = some r := H
  have A3 := Aside0.mk A30
  clear A30
  by_cases c4 : 0 ≤ t261
  · rw [if_pos c4] at H
    have c4b0 := eq_true c4
    have c4b1 : decide (0 ≤ t261) = true := decide_eq_true c4
    clear c4
    by_cases c5 : (t261 : Int).toNat ≤ 35184372088832
    · rw [if_pos c5] at H
      have c5b0 := eq_true c5
      have c5b1 : decide ((t261 : Int).toNat ≤ 35184372088832) = true := decide_eq_true c5
      clear c5
      obtain ⟨y262, hy262⟩ : ∃ y_ : List Int, y_ = (List.replicate (t261 : Int).toNat 0) := ⟨_, rfl⟩
      replace H : ((occ_All.f a0 a1).bind fun t265 => (occ_Counts.l0 k y262 t265 (t265.length : Int) 0)) = some r := by first | (rw [hy262]; with_reducible exact H) | (have H2_ := (Option.bind_some _ _).symm.trans H; rw [hy262]; with_reducible exact H2_) | (have H2_ := (Option.bind_some _ _).symm.trans H; with_reducible exact H2_) | with_reducible exact H | (rw [hy262]; exact H) | exact H
      have Ny262 := Aside0.mk hy262
      clear hy262
      replace H := Option.bind_eq_some_iff.mp H
      obtain ⟨t265, A60, H⟩ := H
      replace H : (occ_Counts.l0 k y262 t265 (t265.length : Int) 0) = some r := H
      have A6 := Aside0.mk A60
      clear A60
      have H' := Aside0.mk H
      clear H
      go_enter Try.func25, Try.ntmps25
      go_wp2_with (first | ((with_reducible refine gate_callee (f := 70) rfl ?_); refine goesL_ (some 9) rfl rfl Try.func70 (by kernel_rfl) rfl #[.pointer Pa0] rfl (by (try simp only [List.map_toArray, List.map_cons, List.map_nil]); first | done | rfl | (simp only [List.length_drop, List.length_take]; rfl)) ?_; (with_reducible refine (pats_Set_Len.calls _ a0 t261 _ ?side1 A3.out).mono ?_); (case side1 => first | exact HO_a0.out | exact OB.drewN HO_a0.out _ | exact OB.below (by repeat (first | (with_reducible first | exact HB.out | apply below_alloc | apply pw_below_drewN | apply below_drew1) | exact HB.out)) HO_a0.out); rintro e w' ⟨rfl, ⟨nd, rfl⟩⟩; refine ⟨_, rfl, ?_⟩) | ((with_reducible refine gate_dst (N := 10) rfl ?_); refine Kd.R_make (Kd.int .i64) _ 3 rfl (N := 10) rfl 43 _ _ rfl t261 rfl rfl Try.underlying43 (.int .i64 0) 8 info3 rfl (by decide) (by omega) 0 (ok := fun _ => True) (okp := fun _ => True) rfl (fun _ hk => hk) trivial (of_decide_eq_true (by first | (with_reducible assumption) | assumption)) (Nat.le_trans (Nat.mul_le_mul_right _ (of_decide_eq_true (by first | (with_reducible assumption) | assumption) : t261.toNat ≤ 35184372088832)) (by omega)) (Below.refl _ _) (Nat.le_refl _) ?_; intro v263 w7 ho8 hb hg_ hnew_; clear hg_ hnew_; (first | rw [← Ny262.out] at ho8 | (simp only [Int.reduceToNat] at ho8; rw [← Ny262.out] at ho8)); have n0_ := Aside0.mk (Kd.R_lower ho8 (below_size (by repeat (first | (with_reducible first | exact HB.out | apply below_alloc | apply pw_below_drewN | apply below_drew1) | exact HB.out)))); have n1_ := Aside0.mk (below_step (by repeat (first | (with_reducible first | exact HB.out | apply below_alloc | apply pw_below_drewN | apply below_drew1) | exact HB.out)) hb); clear HB; have HO264 := n0_; have HB := n1_; clear n0_ n1_; clear hb ho8) | ((with_reducible refine gate_callee (f := 20) rfl ?_); refine goesL_ (some 13) rfl rfl Try.func20 (by kernel_rfl) rfl #[.pointer Pa0, .string a1] rfl (by (try simp only [List.map_toArray, List.map_cons, List.map_nil]); first | done | rfl | (simp only [List.length_drop, List.length_take]; rfl)) ?_; (with_reducible refine (occ_All.calls _ a0 a1 t265 _ ?side1 A6.out).mono ?_); (case side1 => first | exact HO_a0.out | exact OB.drewN HO_a0.out _ | exact OB.below (by repeat (first | (with_reducible first | exact HB.out | apply below_alloc | apply pw_below_drewN | apply below_drew1) | exact HB.out)) HO_a0.out); rintro e w9 ⟨v266, rfl, ho0, hb⟩; refine ⟨_, rfl, ?_⟩; have n0_ := Aside0.mk (Kd.R_below (by (with_reducible repeat (first | apply Kd.R_alloc | apply Kd.R_drewN | apply Kd.R_drew)); exact HO264.out) hb); have n1_ := Aside0.mk (Kd.R_lower ho0 (below_size (by repeat (first | (with_reducible first | exact HB.out | apply below_alloc | apply pw_below_drewN | apply below_drew1) | exact HB.out)))); have n2_ := Aside0.mk (below_step (by repeat (first | (with_reducible first | exact HB.out | apply below_alloc | apply pw_below_drewN | apply below_drew1) | exact HB.out)) hb); clear HO264; clear HB; have HO264 := n0_; have HO267 := n1_; have HB := n2_; clear n0_ n1_ n2_; (try clear hb); (try clear hb2); (try clear hk); (try clear hi); (try clear ho0); obtain ⟨Ao10, co10, eo10⟩ := Kd.R_slice HO267.out; subst eo10))
      go_loopg [15] k (fun kq v15 w' => ∃ (x5_1 : List Int) (x15_1 : Int), v15 = .int .i64 x15_1 ∧ Aside0 (occ_Counts.l0 kq x5_1 t265 (t265.length : Int) x15_1 = some r) ∧ Aside0 (kq ≤ k) ∧ Aside0 (Kd.R (Kd.int .i64) 3 w' w.heap.size (fun _ => True) v263 x5_1) ∧ Aside0 (Kd.R k23 23 w' w.heap.size (fun _ => True) (.slice Ao10 t265.length co10) t265) ∧ Aside0 (Below w.heap.size w w'))
      case atStart => exact ⟨(y262), (0), (by first | rfl | exact isE_ _ | exact isE2_ _ | (simp; done) | (simp [*]; done)), H', ⟨Nat.le_refl _⟩, ⟨by (with_reducible repeat (first | apply Kd.R_alloc | apply Kd.R_drewN | apply Kd.R_drew)); exact HO264.out⟩, ⟨by (with_reducible repeat (first | apply Kd.R_alloc | apply Kd.R_drewN | apply Kd.R_drew)); exact HO267.out⟩, ⟨by repeat (first | (with_reducible first | exact HB.out | apply below_alloc | apply pw_below_drewN | apply below_drew1) | exact HB.out)⟩⟩
      case round =>
        clear H'
        try clear c2
        try clear p2
        try clear c4
        try clear c4b0
        try clear c4b1
        try clear c5
        try clear c5b0
        try clear c5b1
        try clear c7
        obtain ⟨x5_1, x15_1, rfl, HA, HK1, HO_5, HO_13, HB⟩ := hrel
        cases gk with
        | zero => exact absurd HA.out (by simp [occ_Counts.l0])
        | succ k1 =>
          have H := HA.out
          clear HA
          simp only [occ_Counts.l0] at H
          by_cases c11 : x15_1 < (t265.length : Int)
          · rw [if_pos c11] at H
            have c11b0 : decide (x15_1 < (t265.length : Int)) = true := decide_eq_true c11
            clear c11
            by_cases c12 : 0 ≤ x15_1
            · rw [if_pos c12] at H
              have c12b0 : decide (0 ≤ x15_1) = true := decide_eq_true c12
              clear c12
              by_cases c13 : x15_1 < (t265.length : Int)
              · rw [if_pos c13] at H
                have c13b0 : decide (x15_1 < (t265.length : Int)) = true := decide_eq_true c13
                clear c13
                by_cases c14 : 0 ≤ ((rd_T23 t265 x15_1).f1)
                · rw [if_pos c14] at H
                  have c14b0 : decide (0 ≤ ((rd_T23 t265 x15_1).f1)) = true := decide_eq_true c14
                  clear c14
                  by_cases c15 : ((rd_T23 t265 x15_1).f1) < (x5_1.length : Int)
                  · rw [if_pos c15] at H
                    have c15b0 : decide (((rd_T23 t265 x15_1).f1) < (x5_1.length : Int)) = true := decide_eq_true c15
                    clear c15
                    obtain ⟨y271, hy271⟩ : ∃ y_ : List Int, y_ = (x5_1.set (((rd_T23 t265 x15_1).f1) : Int).toNat (wrap64 ((rd x5_1 ((rd_T23 t265 x15_1).f1)) + 1))) := ⟨_, rfl⟩
                    replace H : (occ_Counts.l0 k1 y271 t265 (t265.length : Int) (wrap64 (x15_1 + 1))) = some r := by first | (rw [hy271]; with_reducible exact H) | (have H2_ := (Option.bind_some _ _).symm.trans H; rw [hy271]; with_reducible exact H2_) | (have H2_ := (Option.bind_some _ _).symm.trans H; with_reducible exact H2_) | with_reducible exact H | (rw [hy271]; exact H) | exact H
                    have Ny271 := Aside0.mk hy271
                    clear hy271
                    have H' := Aside0.mk H
                    clear H
                    have p268 : 0 ≤ (x15_1 : Int) := of_decide_eq_true (by first | (with_reducible assumption) | assumption)
                    have q268 : x15_1 < (t265.length : Int) := of_decide_eq_true (by first | (with_reducible assumption) | assumption)
                    obtain ⟨ad268, e268, hx268_0, hx268_1⟩ := at_T23 (Kd.R_reads' HO_13.out).2.2 x15_1 p268 q268
                    cases e268
                    replace p268 := eq_true p268
                    replace q268 := eq_true q268
                    go_wp2_with (first | ((with_reducible refine gate_dst (N := 7) rfl ?_); refine box_event ?hg (N := 7) ?hd (cs := #[.int .i64 0, .int .i64 0]) (t := 23) ?hr ?_; (case hd => rfl); (case hg => rfl); (case hr => first | (go_simp; done) | (go_simp; rfl)); intro gb269 hg w17 hbox hb; have n0_ := Aside0.mk (Kd.R_below (by (with_reducible repeat (first | apply Kd.R_alloc | apply Kd.R_drewN | apply Kd.R_drew)); exact HO_5.out) hb); have n1_ := Aside0.mk (Kd.R_below (Kd.R_elderB (by (with_reducible repeat (first | apply Kd.R_alloc | apply Kd.R_drewN | apply Kd.R_drew)); exact HO_13.out) gb269 (Nat.le_of_eq hg.symm)) hb); have n2_ := Aside0.mk (below_step (by repeat (first | (with_reducible first | exact HB.out | apply below_alloc | apply pw_below_drewN | apply below_drew1) | exact HB.out)) hb); have n3_ := Aside0.mk (hbox); have n4_ := Aside0.mk ((by rw [hg]; exact (below_size (by repeat (first | (with_reducible first | exact HB.out | apply below_alloc | apply pw_below_drewN | apply below_drew1) | exact HB.out))) : w.heap.size ≤ gb269)); have n5_ := Aside0.mk ((by rw [hg]; exact (below_size (by repeat (first | (with_reducible first | exact HB.out | apply below_alloc | apply pw_below_drewN | apply below_drew1) | exact HB.out))) : w.heap.size ≤ gb269)); clear HO_5; clear HO_13; clear HB; have HO_5 := n0_; have HO_13 := n1_; have HB := n2_; have BK269 := n3_; have GW269 := n4_; have GE269 := n5_; clear n0_ n1_ n2_ n3_ n4_ n5_; clear hb hbox hg; have hcz18_0 : w17.cell? ⟨gb269, 0, none⟩ = some (.int .i64 0) := (blk_cell BK269.out 0).trans rfl; have hcz18_1 : w17.cell? ⟨gb269, 1, none⟩ = some (.int .i64 0) := (blk_cell BK269.out 1).trans rfl; have hfz18_0 := blk_frozen BK269.out 0; have hfz18_1 := blk_frozen BK269.out 1) | ((with_reducible refine gate_store (t := 23) (p := 7) rfl ?_); refine store_event (t := 23) (p := 7) (v := ?vo_w19) (w1 := ((w17.setCell ⟨gb269, 0, none⟩ (.int .i64 ((rd_T23 t265 x15_1).f0))).setCell ⟨gb269, 1, none⟩ (.int .i64 ((rd_T23 t265 x15_1).f1)))) ?hg ?ho ?hn ?hr ?_; (case ho => rfl); (case hg => rfl); (case hn => rfl); (case hr => first | (go_simp; done) | (go_simp; rfl)); intro w19 hw; have n0_ : Aside0 (Kd.R (Kd.int .i64) 3 w19 w.heap.size (fun _ => True) v263 x5_1) := ⟨(by rw [hw]; exact (by (with_reducible repeat (first | apply Kd.R_alloc | apply Kd.R_drewN | apply Kd.R_drew)); exact Kd.R_mono (Kd.R_far (p := ⟨gb269, 1, none⟩) (Kd.R_far (p := ⟨gb269, 0, none⟩) (Kd.R_types HO_5.out BK269.out (by decide)) (fun _ hk => hk.2) (.int .i64 ((rd_T23 t265 x15_1).f0))) (fun _ hk => hk.2) (.int .i64 ((rd_T23 t265 x15_1).f1))) (fun _ hk => trivial)))⟩; have n1_ : Aside0 (Kd.R k23 23 w19 w.heap.size (fun k_ => k_ ≠ gb269) (.slice (some ad268) t265.length co10) t265) := ⟨(by rw [hw]; exact (by (with_reducible repeat (first | apply Kd.R_alloc | apply Kd.R_drewN | apply Kd.R_drew)); exact Kd.R_mono (Kd.R_far (p := ⟨gb269, 1, none⟩) (Kd.R_far (p := ⟨gb269, 0, none⟩) (Kd.R_mono HO_13.out (fun k_ hk => (⟨hk, hk.2⟩ : _ ∧ k_ ≠ gb269))) (fun _ hk => hk.2) (.int .i64 ((rd_T23 t265 x15_1).f0))) (fun _ hk => hk.2) (.int .i64 ((rd_T23 t265 x15_1).f1))) (fun _ hk => hk.1.2)))⟩; have n2_ : Aside0 (w19.heap[gb269]? = some (.cells #[.int .i64 ((rd_T23 t265 x15_1).f0), .int .i64 ((rd_T23 t265 x15_1).f1)] 23 (0, 0))) := ⟨(by rw [hw]; exact (by (with_reducible repeat (first | refine blk_drewN ?_ _ | refine blk_drew ?_ | refine blk_alloc ?_ _)); refine blk_put (cs := #[.int .i64 ((rd_T23 t265 x15_1).f0), .int .i64 0]) ?_ 1 _ rfl; (with_reducible repeat (first | refine blk_drewN ?_ _ | refine blk_drew ?_ | refine blk_alloc ?_ _)); refine blk_put (cs := #[.int .i64 0, .int .i64 0]) ?_ 0 _ rfl; (with_reducible repeat (first | refine blk_drewN ?_ _ | refine blk_drew ?_ | refine blk_alloc ?_ _)); exact BK269.out))⟩; have n3_ : Aside0 (Below w.heap.size w w19) := ⟨(by rw [hw]; exact (by repeat (first | (with_reducible first | exact HB.out | apply below_alloc | apply pw_below_drewN | apply below_drew1 | refine below_set ?_ GE269.out) | exact HB.out)))⟩; clear hw; clear HO_5; clear HO_13; clear BK269; clear HB; have HO_5 := n0_; have HO_13 := n1_; have BK269 := n2_; have HB := n3_; clear n0_ n1_ n2_ n3_; have hcz20_0 : w19.cell? ⟨gb269, 0, none⟩ = some (.int .i64 ((rd_T23 t265 x15_1).f0)) := (blk_cell BK269.out 0).trans rfl; have hcz20_1 : w19.cell? ⟨gb269, 1, none⟩ = some (.int .i64 ((rd_T23 t265 x15_1).f1)) := (blk_cell BK269.out 1).trans rfl; have hfz20_0 := blk_frozen BK269.out 0; have hfz20_1 := blk_frozen BK269.out 1; obtain ⟨Ao21, co21, eo21⟩ := Kd.R_slice HO_5.out; subst eo21; have p270 : 0 ≤ (((rd_T23 t265 x15_1).f1) : Int) := of_decide_eq_true (by first | (with_reducible assumption) | assumption); have q270 : ((rd_T23 t265 x15_1).f1) < (x5_1.length : Int) := of_decide_eq_true (by first | (with_reducible assumption) | assumption); obtain ⟨ad270, e270, hx270_0⟩ := Kd.at_int (Kd.R_reads' HO_5.out).2.2 ((rd_T23 t265 x15_1).f1) p270 q270; cases e270; (try simp only [Int.toNat_natCast] at hx270_0); replace p270 := eq_true p270; replace q270 := eq_true q270; have p16 : 0 ≤ (((rd_T23 t265 x15_1).f1) : Int) := of_decide_eq_true (by first | (with_reducible assumption) | assumption); have q16 : (((rd_T23 t265 x15_1).f1) : Int) < ((x5_1.length : Int) : Int) := of_decide_eq_true (by first | (with_reducible assumption) | assumption); obtain ⟨go16, co16, eo16, gb16, gl16, cl16, HG16⟩ := Kd.R_form HO_5.out (by omega); (first | cases eo16 | (injection eo16 with ea_ en_ ec_; (first | subst ea_ | (injection ea_ with ea_; subst ea_)); subst ec_; clear en_)); have GB16 := Aside0.mk gb16; have GG16 := Aside0.mk HG16; clear gb16 gl16 HG16; (first | simp only [add_plain] at hx270_0 | skip); obtain ⟨hx16_0, hf16_0⟩ := Kd.R_celln 0 HO_5.out (((rd_T23 t265 x15_1).f1) : Int) p16 q16; replace p16 := eq_true p16; replace q16 := eq_true q16; obtain ⟨hy22_, hz22_⟩ := Kd.R_celln 0 HO_5.out (((rd_T23 t265 x15_1).f1) : Int) (of_decide_eq_true (by first | (with_reducible assumption) | assumption)) (of_decide_eq_true (by first | (with_reducible assumption) | assumption)); have HP22 := Kd.R_putg HO_5.out (((rd_T23 t265 x15_1).f1) : Int) (wrap64 ((rd x5_1 ((rd_T23 t265 x15_1).f1)) + 1))) | ((with_reducible refine gate_store (t := 3) (p := 25) rfl ?_); refine store_event (t := 3) (p := 25) (v := ?vo_w23) (w1 := (w19.setCell ⟨go16, (((rd_T23 t265 x15_1).f1) : Int).toNat, none⟩ (.int .i64 (wrap64 ((rd x5_1 ((rd_T23 t265 x15_1).f1)) + 1))))) ?hg ?ho ?hn ?hr ?_; (case ho => rfl); (case hg => rfl); (case hn => rfl); (case hr => first | (go_simp; done) | (go_simp; rfl)); intro w23 hw; have hg : w19.grownBy w23 (some go16) := (by rw [hw]; exact HP22.2); have hp_ : Kd.R (Kd.int .i64) 3 w23 w.heap.size (fun _ => True) (.slice (some ⟨go16, 0, none⟩) x5_1.length co21) y271 := (by rw [hw, Ny271.out]; exact HP22.1); clear HP22; have n0_ := Aside0.mk (hp_); have n1_ := Aside0.mk (Kd.R_over' (v := (.slice (some ⟨go16, 0, none⟩) x5_1.length co21)) (by (with_reducible repeat (first | apply Kd.R_alloc | apply Kd.R_drewN | apply Kd.R_drew)); exact HO_13.out) (Kd.R_typed HO_5.out) (by decide) hg); have n2_ := Aside0.mk (blk_grown (g := gb269) (o := .cells #[.int .i64 ((rd_T23 t265 x15_1).f0), .int .i64 ((rd_T23 t265 x15_1).f1)] 23 (0, 0)) (by (with_reducible repeat (first | refine blk_drewN ?_ _ | refine blk_drew ?_ | refine blk_alloc ?_ _)); exact BK269.out) hg (Kd.R_ne HO_5.out BK269.out (by decide))); have n3_ := Aside0.mk ((by rw [hw]; exact below_set (HB.out) GB16.out : Below w.heap.size w w23)); clear HO_5; clear HO_13; clear BK269; clear HB; have HO_5 := n0_; have HO_13 := n1_; have BK269 := n2_; have HB := n3_; clear n0_ n1_ n2_ n3_; clear hg hw hp_))
                    go_roundg k1
                    case measure => have := HK1.out; omega
                    case rel => exact ⟨(y271), (wrap64 (x15_1 + 1)), (by first | rfl | exact isE_ _ | exact isE2_ _ | (simp; done) | (simp [*]; done)), H', ⟨by have := HK1.out; omega⟩, ⟨by (with_reducible repeat (first | apply Kd.R_alloc | apply Kd.R_drewN | apply Kd.R_drew)); exact HO_5.out⟩, ⟨by (with_reducible repeat (first | apply Kd.R_alloc | apply Kd.R_drewN | apply Kd.R_drew)); exact Kd.R_mono HO_13.out (fun _ hk => trivial)⟩, ⟨by repeat (first | (with_reducible first | exact HB.out | apply below_alloc | apply pw_below_drewN | apply below_drew1 | refine below_set ?_ GE269.out) | exact HB.out)⟩⟩
                  · rw [if_neg c15] at H
                    exact absurd H (by simp)
                · rw [if_neg c14] at H
                  exact absurd H (by simp)
              · rw [if_neg c13] at H
                exact absurd H (by simp)
            · rw [if_neg c12] at H
              exact absurd H (by simp)
          · rw [if_neg c11] at H
            have c11b0 : decide (x15_1 < (t265.length : Int)) = false := decide_eq_false c11
            clear c11
            obtain rfl := Option.some.inj H
            go_wp2
            go_ret
            exact ⟨_, by first | rfl | (simp [errW_none, errW_some] <;> rfl) | (simp [*, errW_none, errW_some] <;> rfl), by (with_reducible repeat (first | apply Kd.R_alloc | apply Kd.R_drewN | apply Kd.R_drew)); exact HO_5.out, by repeat (first | (with_reducible first | exact HB.out | apply below_alloc | apply pw_below_drewN | apply below_drew1) | exact HB.out)⟩
    · rw [if_neg c5] at H
      exact absurd H (by simp)
  · rw [if_neg c4] at H
    exact absurd H (by simp)

end Go.Proofs.Ytekdmkdidnnpbaa.P

/- Proved here: what Go functions of this seat compute, or a law of it; no condition beyond the statement's own. Written for this claim by a program of this session (wip/myprint.py) over the kit's print.py. -/
namespace Go.Proofs.Ytekdmkdidnnpbaa.P
open Go.RowKit Go.Proofs.YtekdmkdidnnpbaaW.PrintWords Go.Proofs.YtekdmkdidnnpbaaW.PrintLast Go.Proofs.YtekdmkdidnnpbaaW.PrintMore
attribute [local go_sem] max2_int min2_int max_two min_two max_three min_three max_four min_four   -- for this text's walks alone
set_option linter.unusedVariables false
set_option linter.unusedSimpArgs false

/-! ### juratref15_At: function 28 -/
def juratref15_At.l0 : Nat → List ByteArray → ByteArray → Int → List Int → Int → Option (List Int)
  | 0, _, _, _, _, _ => none
  | k + 1, x0, x1, x2, x7, x8 => if x8 < (x0.length : Int) then (if x2 ≥ 0 then (if 0 ≤ x8 then ((juratref15_Stands.f (rdOf ByteArray.empty x0 x8) x1 x2).bind fun t287 => (if t287 = true then (if x7.length < 17592186044416 then (juratref15_At.l0 k x0 x1 x2 (x7 ++ [x8]) (wrap64 (x8 + 1))) else (none)) else (juratref15_At.l0 k x0 x1 x2 x7 (wrap64 (x8 + 1))))) else (none)) else (juratref15_At.l0 k x0 x1 x2 x7 (wrap64 (x8 + 1)))) else (some x7)
def juratref15_At.f (k : Nat) (l0 : List ByteArray) (a1 : ByteArray) (a2 : Int) : Option (List Int) := juratref15_At.l0 k l0 a1 a2 (([] : List Int)) 0
theorem juratref15_At.mono_l : ∀ k, (∀ y0 y1 y2 y3 y4, LeO (juratref15_At.l0 k y0 y1 y2 y3 y4) (juratref15_At.l0 (k + 1) y0 y1 y2 y3 y4))
  | 0 => fun _ _ _ _ _ r h => by simp [juratref15_At.l0] at h
  | k + 1 => by
    have ih0 := juratref15_At.mono_l k
    · intro y0 y1 y2 y3 y4
      unfold juratref15_At.l0
      repeat' first
      | (with_reducible exact ih0 _ _ _ _ _)
      | (with_reducible exact LeO.refl _)
      | (with_reducible exact LeO.none _)
      | (with_reducible refine LeO.ite ?_ ?_)
      | (with_reducible refine LeO.bind ?_ (fun _ => ?_))
      | exact ih0 _ _ _ _ _
      | exact LeO.none _
      | refine LeO.ite ?_ ?_
      | refine LeO.bind ?_ (fun _ => ?_)
theorem juratref15_At.mono : ∀ a0 a1 a2 k, LeO (juratref15_At.f k a0 a1 a2) (juratref15_At.f (k + 1) a0 a1 a2) := by
  intro a0 a1 a2 k
  have ih0 := juratref15_At.mono_l k
  unfold juratref15_At.f
  repeat' first
      | (with_reducible exact ih0 _ _ _ _ _)
      | (with_reducible exact LeO.refl _)
      | (with_reducible exact LeO.none _)
      | (with_reducible refine LeO.ite ?_ ?_)
      | (with_reducible refine LeO.bind ?_ (fun _ => ?_))
      | exact ih0 _ _ _ _ _
      | exact LeO.none _
      | refine LeO.ite ?_ ?_
      | refine LeO.bind ?_ (fun _ => ?_)
set_option maxHeartbeats 8000000 in
set_option maxRecDepth 100000 in
theorem juratref15_At.calls (k : Nat) (A0 : Option Addr) (c0 : Nat) (l0 : List ByteArray) (a1 : ByteArray) (a2 : Int) (r : List Int) (w : World) (hr0 : Kd.C Kd.string w A0 l0.length l0) (hc0 : l0.length ≤ c0) (h : juratref15_At.f k l0 a1 a2 = some r) :
    Calls Try.prog 28 #[.slice A0 l0.length c0, .string a1, .int .i64 a2] w fun e w' => ∃ v0_ : Value, e = .returned (v0_) ∧ Kd.R (Kd.int .i64) 3 w' w.heap.size (fun _ => True) v0_ r ∧ Below w.heap.size w w' := by
  have HR0 := Aside0.mk hr0
  have HC0 := Aside0.mk hc0
  clear hr0 hc0
  have HB := Aside0.mk (Below.refl w.heap.size w)
  have H : (juratref15_At.l0 k l0 a1 a2 (([] : List Int)) 0) = some r := h
  clear h
  obtain ⟨y283, hy283⟩ : ∃ y_ : List Int, y_ = (([] : List Int)) := ⟨_, rfl⟩
  replace H : (juratref15_At.l0 k l0 a1 a2 y283 0) = some r := by first | (rw [hy283]; with_reducible exact H) | (have H2_ := (Option.bind_some _ _).symm.trans H; rw [hy283]; with_reducible exact H2_) | (have H2_ := (Option.bind_some _ _).symm.trans H; with_reducible exact H2_) | with_reducible exact H | (rw [hy283]; exact H) | exact H
  have Ny283 := Aside0.mk hy283
  clear hy283
  have H' := Aside0.mk H
  clear H
  go_enter Try.func28, Try.ntmps28
  go_wp2_with (first | ((with_reducible refine gate_dst (N := 9) rfl ?_); refine Kd.R_lit (Kd.int .i64) _ 3 ?hg (N := 9) ?hd (xs := ([] : List Int)) (inner := []) (ok := fun _ => True) (okp := fun _ => True) ?hr ?hp (fun _ hk => hk) trivial (Below.refl _ _) (Nat.le_refl _) (by simp) ?_; (case hd => rfl); (case hg => rfl); (case hr => first | (go_simp; done) | (go_simp; rfl)); (case hp => exact (Reps.none _ _)); intro v284 w4 ho5 hb hg_ hnew_; clear hg_ hnew_; (first | rw [← Ny283.out] at ho5 | (simp only [Int.reduceToNat] at ho5; rw [← Ny283.out] at ho5)); have n0_ := Aside0.mk (Kd.R_lower ho5 (below_size (by repeat (first | (with_reducible first | exact HB.out | apply below_alloc | apply pw_below_drewN | apply below_drew1) | exact HB.out)))); have n1_ := Aside0.mk (below_step (by repeat (first | (with_reducible first | exact HB.out | apply below_alloc | apply pw_below_drewN | apply below_drew1) | exact HB.out)) hb); clear HB; have HO285 := n0_; have HB := n1_; clear n0_ n1_; clear hb ho5))
  go_loopg [7, 8] k (fun kq v7 v8 w' => ∃ (x7_1 : List Int) (x8_1 : Int), v8 = .int .i64 x8_1 ∧ Aside0 (juratref15_At.l0 kq l0 a1 a2 x7_1 x8_1 = some r) ∧ Aside0 (kq ≤ k) ∧ Aside0 (Kd.R (Kd.int .i64) 3 w' w.heap.size (fun _ => True) v7 x7_1) ∧ Aside0 (Below w.heap.size w w'))
  case atStart => exact ⟨(y283), (0), (by first | rfl | exact isE_ _ | exact isE2_ _ | (simp; done) | (simp [*]; done)), H', ⟨Nat.le_refl _⟩, ⟨by (with_reducible repeat (first | apply Kd.R_alloc | apply Kd.R_drewN | apply Kd.R_drew)); exact HO285.out⟩, ⟨by repeat (first | (with_reducible first | exact HB.out | apply below_alloc | apply pw_below_drewN | apply below_drew1) | exact HB.out)⟩⟩
  case round =>
    clear H'
    try clear c2
    try clear p2
    obtain ⟨x7_1, x8_1, rfl, HA, HK1, HO_7, HB⟩ := hrel
    cases gk with
    | zero => exact absurd HA.out (by simp [juratref15_At.l0])
    | succ k1 =>
      have H := HA.out
      clear HA
      simp only [juratref15_At.l0] at H
      by_cases c6 : x8_1 < (l0.length : Int)
      · rw [if_pos c6] at H
        have c6b0 : decide (x8_1 < (l0.length : Int)) = true := decide_eq_true c6
        clear c6
        by_cases c7 : a2 ≥ 0
        · rw [if_pos c7] at H
          have c7b0 : decide (0 ≤ a2) = true := decide_eq_true c7
          clear c7
          by_cases c8 : 0 ≤ x8_1
          · rw [if_pos c8] at H
            have c8b0 : decide (0 ≤ x8_1) = true := decide_eq_true c8
            clear c8
            replace H := Option.bind_eq_some_iff.mp H
            obtain ⟨t287, A90, H⟩ := H
            replace H : (if t287 = true then (if x7_1.length < 17592186044416 then (juratref15_At.l0 k1 l0 a1 a2 (x7_1 ++ [x8_1]) (wrap64 (x8_1 + 1))) else (none)) else (juratref15_At.l0 k1 l0 a1 a2 x7_1 (wrap64 (x8_1 + 1)))) = some r := H
            have A9 := Aside0.mk A90
            clear A90
            by_cases c10 : t287 = true
            · subst c10
              have H1 : (if x7_1.length < 17592186044416 then (juratref15_At.l0 k1 l0 a1 a2 (x7_1 ++ [x8_1]) (wrap64 (x8_1 + 1))) else (none)) = some r := by rw [if_pos rfl] at H; exact H
              clear H
              have H := H1
              clear H1
              by_cases c11 : x7_1.length < 17592186044416
              · rw [if_pos c11] at H
                have LMc11 := Aside0.mk c11
                clear c11
                obtain ⟨y288, hy288⟩ : ∃ y_ : List Int, y_ = (x7_1 ++ [x8_1]) := ⟨_, rfl⟩
                replace H : (juratref15_At.l0 k1 l0 a1 a2 y288 (wrap64 (x8_1 + 1))) = some r := by first | (rw [hy288]; with_reducible exact H) | (have H2_ := (Option.bind_some _ _).symm.trans H; rw [hy288]; with_reducible exact H2_) | (have H2_ := (Option.bind_some _ _).symm.trans H; with_reducible exact H2_) | with_reducible exact H | (rw [hy288]; exact H) | exact H
                have Ny288 := Aside0.mk hy288
                clear hy288
                have H' := Aside0.mk H
                clear H
                have p286 : 0 ≤ (x8_1 : Int) := of_decide_eq_true (by first | (with_reducible assumption) | assumption)
                have q286 : x8_1 < (l0.length : Int) := of_decide_eq_true (by first | (with_reducible assumption) | assumption)
                obtain ⟨ad286, e286, hx286_0⟩ := Kd.at_string HR0.out x8_1 p286 q286
                cases e286
                replace hx286_0 := (HB.out.cell (World.block_lt_of_cell? w _ hx286_0)).trans hx286_0
                replace p286 := eq_true p286
                replace q286 := eq_true q286
                go_wp2_with (first | (go_at_call 69; (with_reducible refine (juratref15_Stands.calls (rdOf ByteArray.empty l0 x8_1) a1 a2 true _ A9.out).mono ?_); rintro e w' ⟨rfl, ⟨nd, rfl⟩⟩) | ((with_reducible refine gate_builtin (b := .append) (xs := #[.tmp 27, .tmp 29]) rfl ?_); at_builtin; refine Kd.R_append (Kd.int .i64) (w0 := w) w.heap.size rfl (.tmp 27) (.tmp 29) 43 3 (.int .i64 0) 8 rfl Try.underlying43 info3 rfl (by decide) (by omega) u7 x7_1 x8_1 [.int .i64 x8_1] (fun _ => True) (fun _ => False) rfl rfl ?aP (fun _ hk => hk.elim) ?aF ?aO ?aB ?aS ?aL ?_; (case aP => exact rfl); (case aB => exact (by repeat (first | (with_reducible first | exact HB.out | apply below_alloc | apply pw_below_drewN | apply below_drew1) | exact HB.out))); (case aF => exact (fun _ _ => trivial)); (case aO => exact (by (with_reducible repeat (first | apply Kd.R_alloc | apply Kd.R_drewN | apply Kd.R_drew)); exact HO_7.out)); (case aS => exact (below_size (by repeat (first | (with_reducible first | exact HB.out | apply below_alloc | apply pw_below_drewN | apply below_drew1) | exact HB.out)))); (case aL => have := LMc11.out; omega); intro v289 w12 ho hb hg hat; rw [← Ny288.out] at ho; have n0_ := Aside0.mk (hb); have n1_ := Aside0.mk (ho); clear HB; clear HO_7; have HB := n0_; have HO290 := n1_; clear n0_ n1_; clear ho hb hg hat))
                go_roundg k1
                case measure => have := HK1.out; omega
                case rel => exact ⟨(y288), (wrap64 (x8_1 + 1)), (by first | rfl | exact isE_ _ | exact isE2_ _ | (simp; done) | (simp [*]; done)), H', ⟨by have := HK1.out; omega⟩, ⟨by (with_reducible repeat (first | apply Kd.R_alloc | apply Kd.R_drewN | apply Kd.R_drew)); exact HO290.out⟩, ⟨by repeat (first | (with_reducible first | exact HB.out | apply below_alloc | apply pw_below_drewN | apply below_drew1) | exact HB.out)⟩⟩
              · rw [if_neg c11] at H
                exact absurd H (by simp)
            · replace c10 := Bool.eq_false_iff.mpr c10
              subst c10
              have H1 : (juratref15_At.l0 k1 l0 a1 a2 x7_1 (wrap64 (x8_1 + 1))) = some r := by rw [if_neg (show ¬ (false = true) by decide)] at H; exact H
              clear H
              have H := H1
              clear H1
              have H' := Aside0.mk H
              clear H
              have p286 : 0 ≤ (x8_1 : Int) := of_decide_eq_true (by first | (with_reducible assumption) | assumption)
              have q286 : x8_1 < (l0.length : Int) := of_decide_eq_true (by first | (with_reducible assumption) | assumption)
              obtain ⟨ad286, e286, hx286_0⟩ := Kd.at_string HR0.out x8_1 p286 q286
              cases e286
              replace hx286_0 := (HB.out.cell (World.block_lt_of_cell? w _ hx286_0)).trans hx286_0
              replace p286 := eq_true p286
              replace q286 := eq_true q286
              go_wp2_with (first | (go_at_call 69; (with_reducible refine (juratref15_Stands.calls (rdOf ByteArray.empty l0 x8_1) a1 a2 false _ A9.out).mono ?_); rintro e w' ⟨rfl, ⟨nd, rfl⟩⟩))
              go_roundg k1
              case measure => have := HK1.out; omega
              case rel => exact ⟨(x7_1), (wrap64 (x8_1 + 1)), (by first | rfl | exact isE_ _ | exact isE2_ _ | (simp; done) | (simp [*]; done)), H', ⟨by have := HK1.out; omega⟩, ⟨by (with_reducible repeat (first | apply Kd.R_alloc | apply Kd.R_drewN | apply Kd.R_drew)); exact HO_7.out⟩, ⟨by repeat (first | (with_reducible first | exact HB.out | apply below_alloc | apply pw_below_drewN | apply below_drew1) | exact HB.out)⟩⟩
          · rw [if_neg c8] at H
            exact absurd H (by simp)
        · rw [if_neg c7] at H
          have c7b0 : decide (0 ≤ a2) = false := decide_eq_false c7
          clear c7
          have H' := Aside0.mk H
          clear H
          go_wp2
          go_roundg k1
          case measure => have := HK1.out; omega
          case rel => exact ⟨(x7_1), (wrap64 (x8_1 + 1)), (by first | rfl | exact isE_ _ | exact isE2_ _ | (simp; done) | (simp [*]; done)), H', ⟨by have := HK1.out; omega⟩, ⟨by (with_reducible repeat (first | apply Kd.R_alloc | apply Kd.R_drewN | apply Kd.R_drew)); exact HO_7.out⟩, ⟨by repeat (first | (with_reducible first | exact HB.out | apply below_alloc | apply pw_below_drewN | apply below_drew1) | exact HB.out)⟩⟩
      · rw [if_neg c6] at H
        have c6b0 : decide (x8_1 < (l0.length : Int)) = false := decide_eq_false c6
        clear c6
        obtain rfl := Option.some.inj H
        go_wp2
        go_ret
        exact ⟨_, by first | rfl | (simp [errW_none, errW_some] <;> rfl) | (simp [*, errW_none, errW_some] <;> rfl), by (with_reducible repeat (first | apply Kd.R_alloc | apply Kd.R_drewN | apply Kd.R_drew)); exact HO_7.out, by repeat (first | (with_reducible first | exact HB.out | apply below_alloc | apply pw_below_drewN | apply below_drew1) | exact HB.out)⟩

end Go.Proofs.Ytekdmkdidnnpbaa.P

/- What ends at an end, how often each pattern stands, whether one stands: layer 15's answers are the reference's; no condition beyond the sizes that stand in each statement. -/
namespace Go.Proofs.Ytekdmkdidnnpbaa.Base
open Go Go.RowKit Go.Lib Go.Proofs.YtekdmkdidnnpbaaW.PrintWords Go.Proofs.YtekdmkdidnnpbaaW.PrintMore Go.Proofs.Ytekdmkdidnnpbaa.P
set_option linter.unusedVariables false

/-! the same hits -/
theorem sameH_l0 (a : List HitS) (hm : a.length ≤ 8796093022208) : ∀ (d i : Nat), i + d = a.length → Ev (fun k => juratref15_Same.l0 k a a (i : Int)) true := by
  intro d
  induction d with
  | zero =>
    intro i hi
    refine Ev.ret fun k => ?_
    simp only [juratref15_Same.l0]
    rw [if_neg (by omega)]
  | succ d ih =>
    intro i hi
    refine Ev.step (fun k => ?_) (ih (i + 1) (by omega))
    simp only [juratref15_Same.l0]
    rw [if_pos (by omega), if_pos (by omega), if_pos (by omega), if_neg (by simp), wrap_id (by omega) (by omega)]
    rfl
theorem sameH (a : List HitS) (hm : a.length ≤ 8796093022208) : Ev (fun k => juratref15_Same.f k a a) true := by
  unfold juratref15_Same.f
  exact Ev.congr (fun k => if_pos rfl) (sameH_l0 a hm a.length 0 (by omega))

/-! what ends at an end -/
theorem pre_full : ∀ x y : List UInt8, pre x y = y.length ↔ x.take y.length = y
  | x, [] => by cases x <;> simp [pre]
  | [], b :: y => by simp [pre]
  | a :: x, b :: y => by
    simp only [pre, List.length_cons, List.take_succ_cons, List.cons.injEq]
    by_cases h : a = b
    · rw [if_pos h]
      have := pre_full x y
      constructor
      · intro e; exact ⟨h, this.1 (by omega)⟩
      · intro e; have := this.2 e.2; omega
    · rw [if_neg h]
      constructor
      · intro e; omega
      · intro e; exact absurd e.1 h
theorem suf_stands (p s : ByteArray) (e : Nat) (he : e ≤ s.size) : (((suf (s.extract 0 e) p : Nat) : Int) == (p.size : Int)) = standsE p s e := by
  have h1 : LL (s.extract 0 e) = (LL s).take e := by rw [LL_extract, List.drop_zero]
  have hl : ((LL s).take e).length = e := by rw [List.length_take, LL_length]; omega
  rw [Bool.eq_iff_iff, beq_iff_eq, standsE_iff]
  unfold suf
  rw [h1]
  have h2 := pre_full ((LL s).take e).reverse (LL p).reverse
  rw [LL_rev_length] at h2
  have h3 : (((pre ((LL s).take e).reverse (LL p).reverse : Nat)) : Int) = (p.size : Int) ↔ pre ((LL s).take e).reverse (LL p).reverse = p.size := by omega
  rw [h3, h2, List.take_reverse, List.reverse_inj, hl, List.drop_take]
  unfold stands
  constructor
  · intro h
    have hlen := congrArg List.length h
    rw [List.length_take, List.length_drop, LL_length, LL_length] at hlen
    have hp : p.size ≤ e := by omega
    refine ⟨hp, by omega, ?_⟩
    rw [show e - (e - p.size) = p.size by omega] at h
    exact h
  · rintro ⟨hp, _, h⟩
    rw [show e - (e - p.size) = p.size by omega]
    exact h
def idsG (g : ByteArray → Bool) : List ByteArray → Nat → List Int
  | [], _ => []
  | p :: l, i => if g p = true then (i : Int) :: idsG g l (i + 1) else idsG g l (i + 1)
theorem idsG_none (g : ByteArray → Bool) (hg : ∀ p, g p = false) : ∀ (l : List ByteArray) (i : Nat), idsG g l i = []
  | [], _ => rfl
  | p :: l, i => by
    simp only [idsG]
    rw [if_neg (by rw [hg]; decide)]
    exact idsG_none g hg l (i + 1)
theorem idsG_length (g : ByteArray → Bool) : ∀ (l : List ByteArray) (i : Nat), (idsG g l i).length ≤ l.length
  | [], _ => Nat.le_refl _
  | p :: l, i => by
    have := idsG_length g l (i + 1)
    simp only [idsG, List.length_cons]
    split
    · rw [List.length_cons]; omega
    · omega
theorem rat_l0 (w : List ByteArray) (hw : w.length ≤ 65535) (s : ByteArray) (e : Int) (g : ByteArray → Bool) (hst : e ≥ 0 → ∀ p ∈ w, juratref15_Stands.f p s e = some (g p)) (hneg : ¬ e ≥ 0 → ∀ p, g p = false) : ∀ (d i : Nat) (out : List Int), i + d = w.length → out.length ≤ i →
    Ev (fun k => juratref15_At.l0 k w s e out (i : Int)) (out ++ idsG g (w.drop i) i) := by
  intro d
  induction d with
  | zero =>
    intro i out hi ho
    rw [List.drop_of_length_le (by omega)]
    refine Ev.ret fun k => ?_
    simp only [juratref15_At.l0, idsG, List.append_nil]
    rw [if_neg (by omega)]
  | succ d ih =>
    intro i out hi ho
    have hd := getD_drop w i ByteArray.empty (by omega)
    have hm := getD_mem w i ByteArray.empty (by omega)
    have e1 : rdOf ByteArray.empty w (i : Int) = w.getD i ByteArray.empty := rfl
    have w1 : wrap64 ((i : Int) + 1) = ((i + 1 : Nat) : Int) := by rw [wrap_id (by omega) (by omega)]; rfl
    rw [hd]
    simp only [idsG]
    by_cases he : e ≥ 0
    · have hs := hst he _ hm
      by_cases hg : g (w.getD i ByteArray.empty) = true
      · rw [if_pos hg]
        have := ih (i + 1) (out ++ [(i : Int)]) (by omega) (by simp; omega)
        rw [List.append_assoc, List.singleton_append] at this
        refine Ev.step (fun k => ?_) this
        simp only [juratref15_At.l0]
        rw [if_pos (by omega), if_pos he, if_pos (by omega), e1, hs]
        simp only [Option.bind_some]
        rw [if_pos hg, if_pos (by omega), w1]
      · rw [if_neg hg]
        refine Ev.step (fun k => ?_) (ih (i + 1) out (by omega) (by omega))
        simp only [juratref15_At.l0]
        rw [if_pos (by omega), if_pos he, if_pos (by omega), e1, hs]
        simp only [Option.bind_some]
        rw [if_neg hg, w1]
    · rw [if_neg (by rw [hneg he]; decide)]
      refine Ev.step (fun k => ?_) (ih (i + 1) out (by omega) (by omega))
      simp only [juratref15_At.l0]
      rw [if_pos (by omega), if_neg he, w1]
theorem at_l0 (w : List ByteArray) (hw : w.length ≤ 65535) (s : ByteArray) (e : Int) (he : 0 ≤ e) (hes : e ≤ (s.size : Int)) (g : ByteArray → Bool) (hst : ∀ p ∈ w, Ev (fun k => affix_Ends.f k (s.extract 0 e.toNat) p) (g p)) : ∀ (d i : Nat) (out : List Int), i + d = w.length → out.length ≤ i →
    Ev (fun k => occ_At.l0 k s e out w (w.length : Int) (i : Int)) (out ++ idsG g (w.drop i) i) := by
  intro d
  induction d with
  | zero =>
    intro i out hi ho
    rw [List.drop_of_length_le (by omega)]
    refine Ev.ret fun k => ?_
    simp only [occ_At.l0, idsG, List.append_nil]
    rw [if_neg (by omega)]
  | succ d ih =>
    intro i out hi ho
    have hd := getD_drop w i ByteArray.empty (by omega)
    have hm := getD_mem w i ByteArray.empty (by omega)
    have e1 : rdOf ByteArray.empty w (i : Int) = w.getD i ByteArray.empty := rfl
    have w1 : wrap64 ((i : Int) + 1) = ((i + 1 : Nat) : Int) := by rw [wrap_id (by omega) (by omega)]; rfl
    have hs := hst _ hm
    rw [hd]
    simp only [idsG]
    refine Ev.step (f := fun k => (affix_Ends.f k (s.extract 0 e.toNat) (w.getD i ByteArray.empty)).bind fun t279 => (if t279 = true then (occ_At.l0 k s e (out ++ [(i : Int)]) w (w.length : Int) ((i + 1 : Nat) : Int)) else (occ_At.l0 k s e out w (w.length : Int) ((i + 1 : Nat) : Int)))) (fun k => ?_) ?_
    · simp only [occ_At.l0]
      rw [if_pos (by omega), if_pos (by omega), if_pos (by omega), if_pos he, if_pos hes, e1, if_pos (by omega), w1]
    refine Ev.bind hs ?_
    by_cases hg : g (w.getD i ByteArray.empty) = true
    · rw [if_pos hg]
      have := ih (i + 1) (out ++ [(i : Int)]) (by omega) (by simp; omega)
      rw [List.append_assoc, List.singleton_append] at this
      exact Ev.congr (fun k => if_pos hg) this
    · rw [if_neg hg]
      exact Ev.congr (fun k => if_neg hg) (ih (i + 1) out (by omega) (by omega))
/-- The numbers of the patterns that end at an end, be it one of the text's or not. -/
def atB (w : List ByteArray) (s : ByteArray) (e : Int) : List Int := if 0 ≤ e ∧ e ≤ (s.size : Int) then idsG (fun p => standsE p s e.toNat) w 0 else []
theorem at_ev {l w : List ByteArray} {x : Option SetD} {er : Int} (h : SetOk l x w er) (s : ByteArray) (hs : s.size ≤ 1048575) (e : Int) : Ev (fun k => occ_At.f k x s e) (atB w s e) := by
  have out : ¬ (0 ≤ e ∧ e ≤ (s.size : Int)) → Ev (fun k => occ_At.j0 k x s e true) (atB w s e) := fun hn => by
    unfold atB
    rw [if_neg hn]
    refine Ev.ret fun k => ?_
    simp only [occ_At.j0]
    rw [if_pos trivial]
  unfold occ_At.f
  by_cases h1 : e < 0
  · exact Ev.congr (fun k => if_pos h1) (out (by omega))
  refine Ev.congr (fun k => if_neg h1) ?_
  by_cases h2 : e > (s.size : Int)
  · rw [decide_eq_true h2]; exact out (by omega)
  · rw [decide_eq_false h2]
    refine Ev.step (f := fun k => (pats_Set_List.f x).bind fun t275 => (occ_At.l0 k s e ([] : List Int) t275 (t275.length : Int) 0)) (fun k => ?_) ?_
    · simp only [occ_At.j0]
      rw [if_neg (by decide)]
    refine Ev.bind (Ev.const fun _ => list_ok h) ?_
    have := at_l0 w h.few s e (by omega) (by omega) (fun p => standsE p s e.toNat) (fun p hp => by
      have hz := h.size p hp
      have := ends_ev (s.extract 0 e.toNat) p (by rw [ByteArray.size_extract]; omega) (by omega)
      rw [suf_stands p s e.toNat (by omega)] at this
      exact this) w.length 0 [] (by omega) (Nat.le_refl _)
    rw [List.drop_zero, List.nil_append] at this
    unfold atB
    rw [if_pos ⟨by omega, by omega⟩]
    exact this
theorem rat_ev {l w : List ByteArray} {x : Option SetD} {er : Int} (h : SetOk l x w er) (s : ByteArray) (hs : s.size ≤ 1048575) (e : Int) : Ev (fun k => juratref15_At.f k w s e) (atB w s e) := by
  unfold juratref15_At.f atB
  by_cases h1 : 0 ≤ e ∧ e ≤ (s.size : Int)
  · rw [if_pos h1]
    have := rat_l0 w h.few s e (fun p => standsE p s e.toNat) (fun _ p hp => by
      have := rstands p s e.toNat (by have := h.size p hp; omega) (by omega)
      rw [Int.toNat_of_nonneg h1.1] at this
      exact this) (fun hn => absurd h1.1 hn) w.length 0 [] (by omega) (Nat.le_refl _)
    rw [List.drop_zero, List.nil_append] at this
    exact this
  · rw [if_neg h1]
    have := rat_l0 w h.few s e (fun _ => false) (fun he p hp => by
      unfold juratref15_Stands.f
      by_cases h2 : e ≥ (p.size : Int)
      · rw [if_pos h2, if_neg (by omega)]
      · rw [if_neg h2]) (fun _ _ => rfl) w.length 0 [] (by omega) (Nat.le_refl _)
    rw [List.drop_zero, List.nil_append, idsG_none _ (fun _ => rfl)] at this
    exact this
theorem atB_length (w : List ByteArray) (s : ByteArray) (e : Int) : (atB w s e).length ≤ w.length := by
  unfold atB
  split
  · exact idsG_length _ _ _
  · simp

/-! does one stand? -/
theorem raw_perm {l w : List ByteArray} {x : Option SetD} {e : Int} (h : SetOk l x w e) (s : ByteArray) (hs : s.size ≤ 1048575) : (rawF s w 0).Perm (hitsB w s) := by
  refine (List.perm_ext_iff_of_nodup (raw_nodup hs w 0 h.pos) (up_nodup (hitsF_up15 w s (s.size + 1) 0))).2 (fun y => ?_)
  rw [raw_mem hs w 0 h.pos, hitsB_mem]
  simp only [Nat.zero_add]
theorem raw_any (s : ByteArray) : ∀ (l : List ByteArray) (i : Nat), l.any (hasB s) = decide (0 < (rawF s l i).length)
  | [], i => rfl
  | p :: l, i => by
    rw [List.any_cons, raw_any s l (i + 1)]
    simp only [rawF, List.length_append, List.length_map, hasB]
    rw [Bool.eq_iff_iff, Bool.or_eq_true, decide_eq_true_iff, decide_eq_true_iff, decide_eq_true_iff]
    omega
theorem any_is {l w : List ByteArray} {x : Option SetD} {e : Int} (h : SetOk l x w e) (s : ByteArray) (hs : s.size ≤ 1048575) : occ_Any.f x s = some (decide (0 < (hitsB w s).length)) := by
  unfold occ_Any.f
  rw [h.hL, if_pos ⟨by have := h.few; omega, by omega, fun t ht => by have := h.size t ht; omega⟩, raw_any s w 0, (raw_perm h s hs).length_eq]

/-! how often each stands -/
def cntsH (n : Nat) (H : List HitS) : List Int := (List.range n).map fun j : Nat => ((H.countP (fun h => decide (h.f1 = (j : Int))) : Nat) : Int)
theorem cntsH_length (n : Nat) (H : List HitS) : (cntsH n H).length = n := by unfold cntsH; simp
theorem cntsH_getD (n : Nat) (H : List HitS) (j : Nat) (hj : j < n) : (cntsH n H).getD j 0 = ((H.countP (fun h => decide (h.f1 = (j : Int))) : Nat) : Int) := by
  unfold cntsH
  rw [List.getD_eq_getElem?_getD, List.getElem?_map, List.getElem?_range hj]
  rfl
theorem cntsH_snoc (n : Nat) (H : List HitS) (h : HitS) (j : Nat) (hj : h.f1 = (j : Int)) (hn : j < n) : cntsH n (H ++ [h]) = (cntsH n H).set j ((cntsH n H).getD j 0 + 1) := by
  apply List.ext_getElem?
  intro i
  rw [List.getElem?_set, cntsH_length]
  by_cases hi : i < n
  · have a1 : (cntsH n (H ++ [h]))[i]? = some (((H ++ [h]).countP (fun h => decide (h.f1 = (i : Int))) : Nat) : Int) := by
      unfold cntsH; rw [List.getElem?_map, List.getElem?_range hi]; rfl
    have a2 : (cntsH n H)[i]? = some ((H.countP (fun h => decide (h.f1 = (i : Int))) : Nat) : Int) := by
      unfold cntsH; rw [List.getElem?_map, List.getElem?_range hi]; rfl
    rw [a1, a2, List.countP_append]
    by_cases hij : j = i
    · subst hij
      rw [if_pos rfl, if_pos hn, cntsH_getD n H j hn, List.countP_cons, if_pos (decide_eq_true hj)]
      simp
    · rw [if_neg hij, List.countP_cons, if_neg (by rw [decide_eq_true_iff, hj]; omega)]
      simp
  · rw [List.getElem?_eq_none (by rw [cntsH_length]; omega), List.getElem?_eq_none (by rw [cntsH_length]; omega)]
    split
    · omega
    · rfl
theorem counts_l0 (n : Nat) (H : List HitS) (hH : H.length ≤ 8796093022208) (hz : ∀ h ∈ H, ∃ j : Nat, j < n ∧ h.f1 = (j : Int)) : ∀ (d i : Nat), i + d = H.length →
    Ev (fun k => occ_Counts.l0 k (cntsH n (H.take i)) H (H.length : Int) (i : Int)) (cntsH n H) := by
  intro d
  induction d with
  | zero =>
    intro i hi
    refine Ev.ret fun k => ?_
    simp only [occ_Counts.l0]
    rw [if_neg (by omega), List.take_of_length_le (by omega)]
  | succ d ih =>
    intro i hi
    have hm := getD_mem H i z23 (by omega)
    obtain ⟨j, hj, hf⟩ := hz _ hm
    have e1 : rd_T23 H (i : Int) = H.getD i z23 := rfl
    have ht : H.take (i + 1) = H.take i ++ [H.getD i z23] := by
      rw [List.take_succ_eq_append_getElem (by omega), List.getD_eq_getElem?_getD, List.getElem?_eq_getElem (by omega)]; rfl
    have hs := cntsH_snoc n (H.take i) _ j hf hj
    rw [← ht] at hs
    have ih := ih (i + 1) (by omega)
    rw [hs] at ih
    have hc : (cntsH n (H.take i)).getD j 0 ≤ 8796093022208 ∧ 0 ≤ (cntsH n (H.take i)).getD j 0 := by
      rw [cntsH_getD _ _ _ hj]
      have := List.countP_le_length (p := fun h : HitS => decide (h.f1 = (j : Int))) (l := H.take i)
      rw [List.length_take] at this
      omega
    have e2 : rd (cntsH n (H.take i)) (j : Int) = (cntsH n (H.take i)).getD j 0 := rfl
    have hl := cntsH_length n (H.take i)
    refine Ev.step (fun k => ?_) ih
    simp only [occ_Counts.l0]
    rw [if_pos (by omega), if_pos (by omega), if_pos (by omega), e1, hf, if_pos (by omega), if_pos (by rw [hl]; omega), e2, wrap_id (x := (i : Int) + 1) (by omega) (by omega), wrap_id (by omega) (by omega), Int.toNat_natCast]
    rfl
theorem hits_ids (w : List ByteArray) (s : ByteArray) : ∀ h ∈ hitsB w s, ∃ j : Nat, j < w.length ∧ h.f1 = (j : Int) := fun h hh => by
  obtain ⟨a, j, _, h2, rfl, _⟩ := hitsB_mem.1 hh
  exact ⟨j, h2, rfl⟩
theorem hits_len {l w : List ByteArray} {x : Option SetD} {e : Int} (h : SetOk l x w e) (s : ByteArray) (hs : s.size ≤ 1048575) : (hitsB w s).length ≤ 8796093022208 := by
  have h1 := hitsF_length w s (s.size + 1) 0
  have h2 := h.few
  refine Nat.le_trans h1 (Nat.le_trans (Nat.mul_le_mul (show s.size + 1 ≤ 1048576 by omega) h2) (by decide))
theorem counts_ev {l w : List ByteArray} {x : Option SetD} {e : Int} (h : SetOk l x w e) (s : ByteArray) (hs : s.size ≤ 1048575) : Ev (fun k => occ_Counts.f k x s) (cntsH w.length (hitsB w s)) := by
  have hl : pats_Set_Len.f x = some ((w.length : Nat) : Int) := by
    rw [← h.hL]
    cases x <;> rfl
  have hw := h.few
  unfold occ_Counts.f
  refine Ev.bind (Ev.const fun _ => hl) (Ev.congr (fun k => if_pos (by omega)) (Ev.congr (fun k => if_pos (by rw [Int.toNat_natCast]; omega)) (Ev.bind (Ev.const fun _ => all_is h s hs) ?_)))
  have := counts_l0 w.length (hitsB w s) (hits_len h s hs) (hits_ids w s) (hitsB w s).length 0 (by omega)
  rw [List.take_zero] at this
  have e0 : cntsH w.length [] = List.replicate w.length 0 := by
    unfold cntsH
    apply List.ext_getElem?
    intro i
    rw [List.getElem?_map, List.getElem?_replicate]
    by_cases hi : i < w.length
    · rw [List.getElem?_range hi, if_pos hi]; rfl
    · rw [List.getElem?_eq_none (by rw [List.length_range]; omega), if_neg hi]; rfl
  rw [e0] at this
  rw [Int.toNat_natCast]
  exact this
theorem cnts_at (w : List ByteArray) (s : ByteArray) (j : Nat) (hj : j < w.length) : (cntsH w.length (hitsB w s)).getD j 0 = (cntF15 (w.getD j ByteArray.empty) s (s.size + 1) 0 : Int) := by
  rw [cntsH_getD _ _ _ hj, hits_count15 w s j hj]

end Go.Proofs.Ytekdmkdidnnpbaa.Base

/- Whether hits rise, as layer 15 tells it. -/
namespace Go.Proofs.Ytekdmkdidnnpbaa.Base
open Go Go.RowKit Go.Proofs.YtekdmkdidnnpbaaW.PrintWords Go.Proofs.YtekdmkdidnnpbaaW.PrintMore Go.Proofs.Ytekdmkdidnnpbaa.P
set_option linter.unusedVariables false

/-- Each ahead of the one behind it? -/
def risS : List HitS → Bool
  | a :: b :: l => lessH a b && risS (b :: l)
  | _ => true
theorem order15 (a b : HitS) : (if cmpI a.f0 b.f0 ≠ 0 then cmpI a.f0 b.f0 else cmpI a.f1 b.f1) ≥ 0 ↔ ¬ lessH a b = true := by
  unfold lessH
  rw [decide_eq_true_iff]
  unfold cmpI
  by_cases h1 : a.f0 < b.f0
  · rw [if_pos h1, if_pos (by decide)]; simp [h1]
  · rw [if_neg h1]
    by_cases h2 : b.f0 < a.f0
    · rw [if_pos h2, if_pos (by decide)]
      simp only [ge_iff_le, Int.zero_le_ofNat, true_iff, not_or, not_and]
      exact ⟨h1, fun h => by omega⟩
    · have h3 : a.f0 = b.f0 := by omega
      rw [if_neg h2, if_neg (by simp)]
      by_cases h4 : a.f1 < b.f1
      · rw [if_pos h4]; simp [h3, h4]
      · rw [if_neg h4]
        have : ¬ (a.f0 < b.f0 ∨ a.f0 = b.f0 ∧ a.f1 < b.f1) := by rintro (h | ⟨_, h⟩); exact h1 h; exact h4 h
        simp only [this, not_false_eq_true, iff_true]
        split <;> omega
theorem risS_drop (l : List HitS) (i : Nat) (h : i + 1 < l.length) : risS (l.drop i) = (lessH (l.getD i z23) (l.getD (i + 1) z23) && risS (l.drop (i + 1))) := by
  rw [getD_drop l i z23 (by omega), getD_drop l (i + 1) z23 h]
  rfl
theorem risS_short (l : List HitS) (h : l.length ≤ 1) : risS l = true := by
  match l, h with
  | [], _ => rfl
  | [_], _ => rfl
theorem rising15_l0 (l : List HitS) (hl : l.length ≤ 8796093022208) : ∀ (d i : Nat), i + d = l.length → 1 ≤ i → Ev (fun k => occ_Rising.l0 k l (i : Int)) (risS (l.drop (i - 1))) := by
  intro d
  induction d with
  | zero =>
    intro i hi h1
    rw [risS_short _ (by rw [List.length_drop]; omega)]
    refine Ev.ret fun k => ?_
    simp only [occ_Rising.l0]
    rw [if_neg (by omega)]
  | succ d ih =>
    intro i hi h1
    have hr := risS_drop l (i - 1) (by omega)
    rw [show i - 1 + 1 = i by omega] at hr
    rw [hr]
    have e1 : rd_T23 l ((i : Int) - 1) = l.getD (i - 1) z23 := by unfold rd_T23; congr 1; omega
    have e2 : rd_T23 l (i : Int) = l.getD i z23 := rfl
    have ha := order15 (l.getD (i - 1) z23) (l.getD i z23)
    generalize l.getD (i - 1) z23 = a at e1 ha
    generalize l.getD i z23 = b at e2 ha
    by_cases h : lessH a b = true
    · rw [h, Bool.true_and]
      refine Ev.step (fun k => ?_) (ih (i + 1) (by omega) (by omega))
      simp only [occ_Rising.l0]
      rw [if_pos (by omega), wrap_id (x := (i : Int) - 1) (by omega) (by omega), if_pos (by omega), if_pos (by omega), if_pos (by omega), e1, e2]
      simp only [occ_Order.f, Option.bind_some]
      rw [if_neg (fun h' => (ha.1 h') h), wrap_id (by omega) (by omega)]
      rfl
    · rw [Bool.eq_false_iff.2 h, Bool.false_and]
      refine Ev.ret fun k => ?_
      simp only [occ_Rising.l0]
      rw [if_pos (by omega), wrap_id (x := (i : Int) - 1) (by omega) (by omega), if_pos (by omega), if_pos (by omega), if_pos (by omega), e1, e2]
      simp only [occ_Order.f, Option.bind_some]
      rw [if_pos (ha.2 h)]
theorem rising15 (l : List HitS) (hl : l.length ≤ 8796093022208) : Ev (fun k => occ_Rising.f k l) (risS l) := by
  rcases Nat.eq_zero_or_pos l.length with h | h
  · have : l = [] := List.length_eq_zero_iff.1 h
    subst this
    refine Ev.ret fun k => ?_
    simp [occ_Rising.f, occ_Rising.l0, risS]
  · exact rising15_l0 l hl (l.length - 1) 1 (by omega) (Nat.le_refl _)
/-- Hits that rise: each ahead of all behind it. -/
theorem risS_pairwise : ∀ {l : List HitS}, risS l = true → l.Pairwise (fun a b => lessH a b = true)
  | [], _ => List.Pairwise.nil
  | [a], _ => List.pairwise_singleton _ _
  | a :: b :: l, h => by
    obtain ⟨h1, h2⟩ := Bool.and_eq_true_iff.1 h
    have ih := risS_pairwise h2
    refine List.pairwise_cons.2 ⟨fun x hx => ?_, ih⟩
    rcases List.mem_cons.1 hx with rfl | hx
    · exact h1
    · exact less_trans h1 ((List.pairwise_cons.1 ih).1 x hx)
theorem pairwise_risS : ∀ {l : List HitS}, l.Pairwise (fun a b => lessH a b = true) → risS l = true
  | [], _ => rfl
  | [a], _ => rfl
  | a :: b :: l, h => by
    obtain ⟨h1, h2⟩ := List.pairwise_cons.1 h
    show (lessH a b && risS (b :: l)) = true
    rw [h1 b List.mem_cons_self, pairwise_risS h2]
    rfl


end Go.Proofs.Ytekdmkdidnnpbaa.Base

/- Proved: for all texts and both texts the law OccGrows of layer 15 answers true. No condition beyond the statement's own. -/
namespace Go.Proofs.Ytekdmkdidnnpbaa.Pure
open Go Go.RowKit Go.Proofs.Ytekdmkdidnnpbaa.P Go.Proofs.YtekdmkdidnnpbaaW.PrintWords Go.Proofs.YtekdmkdidnnpbaaW.PrintLast Go.Proofs.Ytekdmkdidnnpbaa.Base
set_option linter.unusedVariables false

/-! a longer text -/
theorem stands_more (p s t : ByteArray) (e : Nat) (he : e ≤ s.size) : standsE p (s ++ t) e = standsE p s e := by
  rw [Bool.eq_iff_iff, standsE_iff, standsE_iff]
  unfold stands
  rw [LL_append, ByteArray.size_append]
  constructor
  · rintro ⟨h1, h2, h3⟩
    refine ⟨h1, by omega, ?_⟩
    rw [List.drop_append_of_le_length (by rw [LL_length]; omega), List.take_append_of_le_length (by rw [List.length_drop, LL_length]; omega)] at h3
    exact h3
  · rintro ⟨h1, h2, h3⟩
    refine ⟨h1, by omega, ?_⟩
    rw [List.drop_append_of_le_length (by rw [LL_length]; omega), List.take_append_of_le_length (by rw [List.length_drop, LL_length]; omega)]
    exact h3
theorem ids_more (s t : ByteArray) (e : Nat) (he : e ≤ s.size) : ∀ (l : List ByteArray) (i : Nat), idsF (s ++ t) e l i = idsF s e l i
  | [], _ => rfl
  | p :: l, i => by simp only [idsF]; rw [stands_more p s t e he, ids_more s t e he l (i + 1)]
theorem hits_more (w : List ByteArray) (s t : ByteArray) : ∀ d e, e + d ≤ s.size + 1 → hitsF w (s ++ t) d e = hitsF w s d e
  | 0, _, _ => rfl
  | d + 1, e, h => by
    simp only [hitsF, hitsAt]
    rw [hits_more w s t d (e + 1) (by omega), show idsB w (s ++ t) e = idsB w s e from ids_more s t e (by omega) w 0]
theorem hits_add (w : List ByteArray) (s : ByteArray) (d2 : Nat) : ∀ d1 e, hitsF w s (d1 + d2) e = hitsF w s d1 e ++ hitsF w s d2 (e + d1)
  | 0, e => by rw [Nat.zero_add]; rfl
  | d + 1, e => by
    rw [show d + 1 + d2 = d + d2 + 1 by omega]
    simp only [hitsF]
    rw [hits_add w s d2 d (e + 1), List.append_assoc, show e + 1 + d = e + (d + 1) by omega]
theorem hits_grow (w : List ByteArray) (s t : ByteArray) : hitsB w (s ++ t) = hitsB w s ++ hitsF w (s ++ t) t.size (s.size + 1) := by
  show hitsF w (s ++ t) ((s ++ t).size + 1) 0 = _
  rw [ByteArray.size_append, show s.size + t.size + 1 = (s.size + 1) + t.size by omega, hits_add, hits_more w s t (s.size + 1) 0 (by omega), Nat.zero_add]

/-! one pattern less -/
theorem hits_less (w : List ByteArray) (s : ByteArray) (n : Nat) (hn : n ≤ w.length) : (hitsB w s).filter (fun h => decide (h.f1 < (n : Int))) = hitsB (w.take n) s := by
  have h1 := hitsF_up15 w s (s.size + 1) 0
  have h2 := hitsF_up15 (w.take n) s (s.size + 1) 0
  have h3 := h1.filter (fun h => decide (h.f1 < (n : Int)))
  have fl : ∀ {a b : HitS}, lessH a b = true → lessH b a = false := fun {a b} h => by rw [lessH_iff] at h; rw [lessH_not]; omega
  refine rise_unique ?_ (h3.imp fl) (h2.imp fl)
  refine (List.perm_ext_iff_of_nodup (up_nodup h3) (up_nodup h2)).2 (fun y => ?_)
  rw [List.mem_filter, hitsB_mem, hitsB_mem, decide_eq_true_iff]
  have hg : ∀ j, j < n → (w.take n).getD j ByteArray.empty = w.getD j ByteArray.empty := fun j hj => by
    rw [List.getD_eq_getElem?_getD, List.getD_eq_getElem?_getD, List.getElem?_take_of_lt hj]
  constructor
  · rintro ⟨⟨a, j, g1, g2, rfl, g4⟩, g5⟩
    have hj : j < n := by have g5 : (j : Int) < (n : Int) := g5; omega
    exact ⟨a, j, g1, by rw [List.length_take]; omega, rfl, by rw [hg j hj]; exact g4⟩
  · rintro ⟨a, j, g1, g2, rfl, g4⟩
    rw [List.length_take] at g2
    refine ⟨⟨a, j, g1, by omega, rfl, by rw [← hg j (by omega)]; exact g4⟩, ?_⟩
    show (j : Int) < (n : Int)
    omega
theorem less_ok {l w : List ByteArray} {x : Option SetD} {e : Int} (h : SetOk l x w e) (hw : w.length ≤ 12) (n : Nat) (h0 : 0 < n) (hn : n ≤ w.length) : ∃ y, SetOk (w.take n) y (w.take n) 0 := by
  obtain ⟨y, v, e', h'⟩ := set_ok (w.take n)
  have hl : (w.take n).length = n := by rw [List.length_take]; omega
  have hmem : ∀ s ∈ w.take n, s ∈ w := fun s hs => List.mem_of_mem_take hs
  have hz : ∀ s ∈ w.take n, s.size ≤ 65535 := fun s hs => h.size s (hmem s hs)
  have hup : upB (w.take n) := h.up.sublist (List.take_sublist n w)
  have hnd : (w.take n).Nodup := h.nodup.sublist (List.take_sublist n w)
  have h1 : badB (w.take n) = 0 := (badB_iff _).2 fun s hs => by
    have g1 := h.pos s (hmem s hs)
    have g2 := hz s hs
    unfold chkB
    rw [if_neg (by omega), if_neg (by omega)]
  have h2 : totalB 0 (w.take n) ≤ 16777216 := by
    have := total_bound (w.take n) 0 hz
    rw [hl] at this
    have : n * 65535 ≤ 12 * 65535 := Nat.mul_le_mul_right _ (by omega)
    omega
  have h3 := tw_of_nodup hnd
  have hf : ∃ d, pats_New.f (w.take n) = some (some d, 0) := by
    unfold pats_New.f
    rw [if_neg (by omega), if_neg (by omega), if_neg (by rw [h1]; simp), if_neg (by omega), if_neg (by omega)]
    exact ⟨_, rfl⟩
  obtain ⟨d, hd⟩ := hf
  have hh := h'.hn
  rw [hd] at hh
  obtain ⟨hy, he⟩ := Prod.mk.inj (Option.some.inj hh)
  have hs : w.take n = sortB (w.take n) := sortB_of (List.Perm.refl _) hup
  rcases h'.kind with ⟨_, _, _, g4, _⟩ | ⟨g1, _, _⟩
  · rw [← he] at h'
    rw [g4, ← hs] at h'
    exact ⟨y, h'⟩
  · exact absurd he.symm g1

theorem grows_big (l : List ByteArray) (s t : ByteArray) : Ev (fun k => juratlaw15_OccGrows.j0 k l s t true) true := by
  refine Ev.step (f := fun k => (juratlaw15_awake.f k).bind fun t => some t) (fun k => ?_) (Ev.bind awake15 (Ev.now true))
  simp only [juratlaw15_OccGrows.j0]
  rw [if_pos trivial]
theorem grows_l0 (s : ByteArray) (A : List HitS) (w : List ByteArray) (y : Option SetD) (hA : A.length ≤ 8796093022207) (hw : 1 ≤ w.length) (hw2 : w.length ≤ 65535) (r : Bool)
    (next : Ev (fun k => (occ_All.f y s).bind fun t192 => ((juratref15_Same.f k t192 (A.filter fun h => decide (h.f1 < ((w.length - 1 : Nat) : Int)))).bind fun t195 => (if t195 = true then ((juratlaw15_awake.f k).bind fun t196 => (some t196)) else (some false)))) r) :
    ∀ (d i : Nat), i + d = A.length → Ev (fun k => juratlaw15_OccGrows.l0 k s A w y 0 ((A.take i).filter fun h => decide (h.f1 < ((w.length - 1 : Nat) : Int))) (i : Int)) r := by
  intro d
  induction d with
  | zero =>
    intro i hi
    refine Ev.step (fun k => ?_) next
    simp only [juratlaw15_OccGrows.l0]
    rw [if_neg (by omega), if_pos trivial, List.take_of_length_le (by omega)]
  | succ d ih =>
    intro i hi
    have e1 : rd_T23 A (i : Int) = A.getD i z23 := rfl
    have ht : A.take (i + 1) = A.take i ++ [A.getD i z23] := by
      rw [List.take_succ_eq_append_getElem (by omega), List.getD_eq_getElem?_getD, List.getElem?_eq_getElem (by omega)]; rfl
    have hfl : ((A.take i).filter fun h => decide (h.f1 < ((w.length - 1 : Nat) : Int))).length < 8796093022208 := by
      have := List.length_filter_le (fun h : HitS => decide (h.f1 < ((w.length - 1 : Nat) : Int))) (A.take i)
      rw [List.length_take] at this
      omega
    have ih := ih (i + 1) (by omega)
    rw [ht, List.filter_append] at ih
    have p1 : (i : Int) < (A.length : Int) := by omega
    have p2 : (0 : Int) ≤ (i : Int) := by omega
    have w1 : wrap64 ((w.length : Int) - 1) = ((w.length - 1 : Nat) : Int) := by rw [wrap_id (by omega) (by omega)]; omega
    have w2 : wrap64 ((i : Int) + 1) = ((i + 1 : Nat) : Int) := by rw [wrap_id (by omega) (by omega)]; rfl
    by_cases hc : (A.getD i z23).f1 < ((w.length - 1 : Nat) : Int)
    · rw [List.filter_cons_of_pos (p := fun h : HitS => decide (h.f1 < ((w.length - 1 : Nat) : Int))) (decide_eq_true hc), List.filter_nil] at ih
      refine Ev.step (fun k => ?_) ih
      simp only [juratlaw15_OccGrows.l0]
      rw [if_pos p1, if_pos p2, e1, w1, if_pos hc, if_pos hfl, w2]
    · rw [List.filter_cons_of_neg (p := fun h : HitS => decide (h.f1 < ((w.length - 1 : Nat) : Int))) (fun h => hc (of_decide_eq_true h)), List.filter_nil, List.append_nil] at ih
      refine Ev.step (fun k => ?_) ih
      simp only [juratlaw15_OccGrows.l0]
      rw [if_pos p1, if_pos p2, e1, w1, if_neg hc, w2]
theorem grows_j1 {l w : List ByteArray} {x : Option SetD} {e : Int} (h : SetOk l x w e) (hl : l.length ≤ 12) (s : ByteArray) (hs : s.size ≤ 1048575) : Ev (fun k => juratlaw15_OccGrows.j1 k s x (hitsB w s) false) true := by
  have hlen := hits_len h s hs
  have hw12 : w.length ≤ 12 := Nat.le_trans h.len hl
  have hbound : (hitsB w s).length ≤ 8796093022207 := by
    have h1 := hitsF_length w s (s.size + 1) 0
    refine Nat.le_trans h1 (Nat.le_trans (Nat.mul_le_mul (show s.size + 1 ≤ 1048576 by omega) hw12) (by decide))
  refine Ev.step (f := fun k => (pats_Set_List.f x).bind fun t170 => (if (t170.length : Int) < 2 then ((juratlaw15_awake.f k).bind fun t173 => (some t173)) else (if 0 ≤ (wrap64 ((t170.length : Int) - 1)) then (if (wrap64 ((t170.length : Int) - 1)) ≤ (t170.length : Int) then ((pats_New.f (t170.take ((wrap64 ((t170.length : Int) - 1)) : Int).toNat)).bind fun bt178 => (juratlaw15_OccGrows.l0 k s (hitsB w s) t170 bt178.1 bt178.2 ([] : List HitS) 0)) else (none)) else (none)))) (fun k => ?_) ?_
  · simp only [juratlaw15_OccGrows.j1]
    rw [if_neg (by decide)]
  refine Ev.bind (Ev.const fun _ => list_ok h) ?_
  by_cases h2 : (w.length : Int) < 2
  · exact Ev.congr (fun k => if_pos h2) (Ev.bind awake15 (Ev.now true))
  have w1 : wrap64 ((w.length : Int) - 1) = ((w.length - 1 : Nat) : Int) := by rw [wrap_id (by omega) (by omega)]; omega
  have p1 : (0 : Int) ≤ wrap64 ((w.length : Int) - 1) := by rw [w1]; exact Int.natCast_nonneg _
  have p2 : wrap64 ((w.length : Int) - 1) ≤ (w.length : Int) := by rw [w1]; exact Int.ofNat_le.2 (Nat.sub_le _ _)
  have p3 : (wrap64 ((w.length : Int) - 1)).toNat = w.length - 1 := by rw [w1]; rfl
  clear w1
  refine Ev.congr (fun k => if_neg h2) (Ev.congr (fun k => if_pos p1) (Ev.congr (fun k => if_pos p2) ?_))
  rw [p3]
  clear p1 p2 p3
  obtain ⟨y, hy⟩ := less_ok h hw12 (w.length - 1) (by omega) (by omega)
  refine Ev.bind (Ev.const fun _ => hy.hn) ?_
  have hless := hits_less w s (w.length - 1) (by omega)
  have hfin : Ev (fun k => (occ_All.f y s).bind fun t192 => ((juratref15_Same.f k t192 ((hitsB w s).filter fun h => decide (h.f1 < ((w.length - 1 : Nat) : Int)))).bind fun t195 => (if t195 = true then ((juratlaw15_awake.f k).bind fun t196 => (some t196)) else (some false)))) true := by
    rw [hless]
    refine Ev.bind (Ev.const fun _ => all_is hy s hs) (Ev.bind (sameH _ (hits_len hy s hs)) (Ev.congr (fun k => if_pos rfl) (Ev.bind awake15 (Ev.now true))))
  have := grows_l0 s (hitsB w s) w y hbound (by omega) h.few true hfin (hitsB w s).length 0 (by omega)
  exact this
theorem OccGrows (l : List ByteArray) (s t : ByteArray) (hl : l.length * 16 ≤ 140737488351232) (_ : ∀ x ∈ l, x.size ≤ maxLen) (_ : s.size ≤ 140737488351232) (_ : t.size ≤ 140737488351232) : ∃ k, juratlaw15_OccGrows.f k l s t = some true := by
  refine Ev.rounds ?_
  unfold juratlaw15_OccGrows.f
  refine Ev.bind (few_ev l 12 20 (by omega)) ?_
  by_cases h1 : (decide ((l.length : Int) ≤ 12) && fewB l 20) = true
  rotate_left
  · exact Ev.congr (fun k => if_neg h1) (grows_big l s t)
  refine Ev.congr (fun k => if_pos h1) ?_
  have hl12 : l.length ≤ 12 := by
    have := of_decide_eq_true (Bool.and_eq_true_iff.1 h1).1
    omega
  by_cases h2 : (s.size : Int) > 100
  · exact Ev.congr (fun k => if_pos h2) (grows_big l s t)
  refine Ev.congr (fun k => if_neg h2) ?_
  by_cases h3 : (t.size : Int) > 100
  · rw [decide_eq_true h3]; exact grows_big l s t
  rw [decide_eq_false h3]
  obtain ⟨x, w, er, h⟩ := set_ok l
  have hs : s.size ≤ 1048575 := by omega
  have hst : (s ++ t).size ≤ 1048575 := by rw [ByteArray.size_append]; omega
  have hB := hits_grow w s t
  have hAl := hits_len h s hs
  have hBl := hits_len h (s ++ t) hst
  have hj1 := grows_j1 h hl12 s hs
  have hris : risS (hitsB w (s ++ t)) = true := pairwise_risS (hitsF_up15 w (s ++ t) ((s ++ t).size + 1) 0)
  have hri := rising15 (hitsB w (s ++ t)) hBl
  rw [hris] at hri
  have hall := all_is h (s ++ t) hst
  have hC : ∀ y ∈ hitsF w (s ++ t) t.size (s.size + 1), ¬ y.f0 ≤ (s.size : Int) := fun y hy => by
    obtain ⟨a, j, g1, _, _, rfl, _⟩ := (hitsF_mem t.size (s.size + 1)).1 hy
    show ¬ (a : Int) ≤ (s.size : Int)
    omega
  generalize hitsF w (s ++ t) t.size (s.size + 1) = C at hB hC
  generalize hitsB w (s ++ t) = B at hB hBl hri hall
  have hsame := sameH (hitsB w s) hAl
  have hallA := all_is h s hs
  generalize hitsB w s = A at hB hAl hj1 hsame hallA
  have hlen : B.length = A.length + C.length := by rw [hB, List.length_append]
  have htake : B.take A.length = A := by rw [hB, List.take_left]
  refine Ev.step (f := fun k => (pats_New.f l).bind fun bt155 => ((occ_All.f bt155.1 s).bind fun t157 => (if s.size + t.size ≤ 9223372036854775807 then ((occ_All.f bt155.1 (s ++ t)).bind fun t160 => (if (t157.length : Int) > (t160.length : Int) then (juratlaw15_OccGrows.j1 k s bt155.1 t157 true) else (if 0 ≤ (t157.length : Int) then (if (t157.length : Int) ≤ (t160.length : Int) then ((juratref15_Same.f k t157 (t160.take ((t157.length : Int) : Int).toNat)).bind fun t167 => (if t167 = true then ((occ_Rising.f k t160).bind fun t168 => (if t168 = true then (if (t160.length : Int) > (t157.length : Int) then (if (t157.length : Int) < (t160.length : Int) then (juratlaw15_OccGrows.j1 k s bt155.1 t157 (decide (((rd_T23 t160 (t157.length : Int)).f0) ≤ (s.size : Int)))) else (none)) else (juratlaw15_OccGrows.j1 k s bt155.1 t157 false)) else (juratlaw15_OccGrows.j1 k s bt155.1 t157 true))) else (juratlaw15_OccGrows.j1 k s bt155.1 t157 true))) else (none)) else (none)))) else (none)))) (fun k => ?_) ?_
  · simp only [juratlaw15_OccGrows.j0]
    rw [if_neg (by decide)]
  refine Ev.bind (Ev.const fun _ => h.hn) (Ev.bind (Ev.const fun _ => hallA) (Ev.congr (fun k => if_pos (by omega)) (Ev.bind (Ev.const fun _ => hall) ?_)))
  refine Ev.congr (fun k => if_neg (by omega)) (Ev.congr (fun k => if_pos (by omega)) (Ev.congr (fun k => if_pos (by omega)) ?_))
  rw [Int.toNat_natCast, htake]
  refine Ev.bind hsame (Ev.congr (fun k => if_pos rfl) (Ev.bind hri (Ev.congr (fun k => if_pos rfl) ?_)))
  by_cases hc : (B.length : Int) > (A.length : Int)
  · refine Ev.congr (fun k => if_pos hc) (Ev.congr (fun k => if_pos (by omega)) ?_)
    have e1 : rd_T23 B (A.length : Int) = B.getD A.length z23 := rfl
    have hm : B.getD A.length z23 ∈ C := by
      rw [hB, List.getD_eq_getElem?_getD, List.getElem?_append_right (Nat.le_refl _), Nat.sub_self, ← List.getD_eq_getElem?_getD]
      exact getD_mem C 0 _ (by omega)
    rw [e1, decide_eq_false (hC _ hm)]
    exact hj1
  · exact Ev.congr (fun k => if_neg hc) hj1

end Go.Proofs.Ytekdmkdidnnpbaa.Pure

/- How a law's arguments are opened: slices of texts and of numbers, as lists, with their sizes out of the row's weights. -/
namespace Go.Proofs.Ytekdmkdidnnpbaa.RowS
open Go Go.ChangeShapes Go.WideShapes Go.RowKit Go.Proofs.YtekdmkdidnnpbaaW.PrintWords

theorem slice_strings {H : Type} {enc : TypeId × Value → H} {P : Program} {W : World} {t e : TypeId} {a : Option Addr} {len cap : Nat} {d : DataW H} {ps : List MemPlace} {ts : List TypeId} {ds : List (DataW H)} {j : Nat}
    (hsz : (DataW.weightsEach P ts ds).all (· ≤ reachBytes) = true) (ht : ts[j]? = some t) (hd : ds[j]? = some d) (hu : P.underlying t = some (.slice e)) (he : P.underlying e = some .string) (hc : P.cellsOf e = 1) (hB : P.bytesOf e = 16)
    (h : DataW.Trod enc P W 0 (fun _ => true) true t (.slice a len cap) d ps) :
    ∃ l : List ByteArray, l.length = len ∧ len ≤ cap ∧ Kd.C Kd.string W a l.length l ∧ l.length * 16 ≤ 140737488351232 ∧ ∀ s ∈ l, s.size ≤ maxLen := by
  obtain ⟨fuel, hf⟩ := h
  rcases open_strings hu he hc hf with ⟨hcs, _⟩ | ⟨x, l, c, ss, hcs, _, hl, hm, hz, hx, hcell, hw⟩
  · simp [Value.cells] at hcs
    obtain ⟨rfl, rfl, rfl⟩ := hcs
    exact ⟨[], rfl, Nat.le_refl _, Kd.C_nil _ _, by simp, by simp⟩
  · simp [Value.cells] at hcs
    obtain ⟨rfl, rfl, rfl⟩ := hcs
    obtain ⟨hx, _⟩ := Prod.mk.inj hx
    subst hx
    have z := sized_slice hsz ht hd hu
    rw [hB] at z
    rw [if_pos rfl] at hz
    have hl2 : len ≤ ss.length := by omega
    have h1 : (strs (H := H) (ss.take len)).length + (strs (H := H) (ss.drop len)).length = ss.length := by
      simp [strs]
      omega
    rw [h1] at z
    have hlen : (ss.take len).length = len := by rw [List.length_take]; omega
    refine ⟨ss.take len, hlen, hl, Kd.C_of_reads (d := ByteArray.empty) (h1 := fun _ => rfl) ⟨rfl, by rw [hlen]; unfold maxLen at hm; omega, fun _ => ⟨x, rfl, fun i hi => ?_⟩⟩, ?_, fun s hs => hw s (List.mem_of_mem_take hs)⟩
    · rw [hlen] at hi
      rw [hcell i (by omega), List.getD_eq_getElem?_getD, List.getD_eq_getElem?_getD, List.getElem?_take_of_lt hi]
    · rw [hlen]
      exact Nat.le_trans (Nat.mul_le_mul_right _ hl2) z
theorem slice_ints {H : Type} {enc : TypeId × Value → H} {P : Program} {W : World} {t e : TypeId} {k : IntKind} {a : Option Addr} {len cap : Nat} {d : DataW H} {ps : List MemPlace} {ts : List TypeId} {ds : List (DataW H)} {j : Nat}
    (hsz : (DataW.weightsEach P ts ds).all (· ≤ reachBytes) = true) (ht : ts[j]? = some t) (hd : ds[j]? = some d) (hu : P.underlying t = some (.slice e)) (he : P.underlying e = some (.int k)) (hc : P.cellsOf e = 1) {B : Nat} (hB : P.bytesOf e = B)
    (h : DataW.Trod enc P W 0 (fun _ => true) true t (.slice a len cap) d ps) :
    ∃ l : List Int, l.length = len ∧ len ≤ cap ∧ Kd.C (Kd.int k) W a l.length l ∧ l.length ≤ maxLen ∧ l.length * B ≤ 140737488351232 ∧ ∀ n ∈ l, (Lit.int k n).wf = true := by
  have y := sized_ints hsz ht hd hu he hc hB h
  obtain ⟨fuel, hf⟩ := h
  rcases open_ints hu he hc hf with ⟨hcs, _⟩ | ⟨x, l, c, zs, hcs, _, hl, hm, hz, _, hcell, hw⟩
  · simp [Value.cells] at hcs
    obtain ⟨rfl, rfl, rfl⟩ := hcs
    exact ⟨[], rfl, Nat.le_refl _, Kd.C_nil _ _, by simp, by simp, by simp⟩
  · simp [Value.cells] at hcs
    obtain ⟨rfl, rfl, rfl⟩ := hcs
    rw [if_pos rfl] at hz
    have hlen : (zs.take len).length = len := by rw [List.length_take]; omega
    refine ⟨zs.take len, hlen, hl, Kd.C_of_reads (d := (0 : Int)) (h1 := fun _ => rfl) ⟨rfl, by rw [hlen]; unfold maxLen at hm; omega, fun _ => ⟨x, rfl, fun i hi => ?_⟩⟩, by rw [hlen]; omega, by rw [hlen]; exact y, fun s hs => hw s (List.mem_of_mem_take hs)⟩
    rw [hlen] at hi
    rw [hcell i (by omega), List.getD_eq_getElem?_getD, List.getD_eq_getElem?_getD, List.getElem?_take_of_lt hi]

end Go.Proofs.Ytekdmkdidnnpbaa.RowS

/- The row of the law OccGrows, out of its plain statement and the walk; written for this claim by a program of this session (wip/mkrow.py). -/
namespace Go.Proofs.Ytekdmkdidnnpbaa.occGrows
open Go.ChangeShapes Go.WideShapes Go.ChangeAt Go.RowKit
open Go.ChangeMaps (open_string shut_string)
set_option linter.unusedVariables false
theorem own : ownKnob Try.prog.godebug = none := by kernel_rfl
theorem laidOut : laidOutB Try.prog = true := by kernel_rfl
set_option maxRecDepth 100000 in
theorem lifted (os : Os) (started : os.Started) (H : Type) (enc : TypeId × Value → H) :
    ReturnsInHanded {} Try.checked os 4 .any (Rows.occGrowsSpec.pre6 enc Try.prog Try.f4 Rows.occGrowsRow.domain false) (Rows.occGrowsSpec.post enc Try.prog Try.f4 false true false false) := by
  refine returnsInHanded_of_change_sized (C := Try.checked) own started (by kernel_rfl) Try.func4
    (ChangeSpec.witness6 (enc := enc) (C := Try.checked) false ⟨#[], #[.slice none 0 0, .string ByteArray.empty, .string ByteArray.empty], []⟩ 8 (by kernel_rfl) (by kernel_rfl) (by kernel_rfl) (by kernel_rfl)) ?_
  intro W base args ds gs before hval0 hW hcnd hsz0 _
  have hsz : (DataW.weightsEach Try.prog (Try.f4.params.toList ++ Rows.occGrowsSpec.plain.varTypes Try.prog) (ds ++ gs)).all (· ≤ reachBytes) = true := hsz0
  have hval : ∀ (j : Nat) t v, Try.f4.params[j]? = some t → args[j]? = some v → Value.okWide Try.prog W .any base t v := hval0
  have hW' := hW
  obtain ⟨p, q, hA0, hV, rfl, hfz, hnd⟩ := hW
  have hA : DataW.TrodAll enc Try.prog W 0 (fun _ => true) true Try.f4.params.toList args.toList ds p := hA0
  rw [Try.params4] at hA hval hsz
  obtain ⟨v0, vs0, d0, ds0, p0, q0, hargs, rfl, rfl, h0, r0⟩ := trodAll_cons hA
  obtain ⟨v1, vs1, d1, ds1, p1, q1, rfl, rfl, rfl, h1, r1⟩ := trodAll_cons r0
  obtain ⟨v2, vs2, d2, ds2, p2, q2, rfl, rfl, rfl, h2, r2⟩ := trodAll_cons r1
  obtain ⟨rfl, rfl, rfl⟩ := trodAll_nil r2
  obtain rfl : args = #[v0, v1, v2] := by cases args; simp_all
  obtain ⟨rfl, rfl⟩ := trodVars_none hV
  obtain ⟨a0, len0, cap0, rfl⟩ := okWide_slice Try.underlying30 (hval 0 30 v0 rfl rfl)
  have k0 := h0
  have lt0 : ∀ x ∈ p0, x.block < W.heap.size := by obtain ⟨m, hm⟩ := k0; exact DataW.trod_lt m _ _ _ hm
  obtain ⟨l0, hn0, hc0, hr0, y0, w0⟩ := RowS.slice_strings hsz (j := 0) (t := 30) rfl rfl Try.underlying30 Try.underlying9 (by kernel_rfl) (by kernel_rfl) h0
  subst hn0
  obtain ⟨a1, rfl, rfl, rfl, y1⟩ := open_string Try.underlying9 (hval 1 9 v1 rfl rfl) h1
  have w1 : a1.size ≤ 140737488351232 := by
    have z := sized_string hsz (j := 1) (t := 9) rfl rfl
    rw [Array.length_toList] at z
    exact z
  obtain ⟨a2, rfl, rfl, rfl, y2⟩ := open_string Try.underlying9 (hval 2 9 v2 rfl rfl) h2
  have w2 : a2.size ≤ 140737488351232 := by
    have z := sized_string hsz (j := 2) (t := 9) rfl rfl
    rw [Array.length_toList] at z
    exact z
  clear hA0 hval0 hsz0 hsz
  obtain ⟨k, hk⟩ := Pure.OccGrows l0 a1 a2 y0 w0 w1 w2
  refine (P.juratlaw15_OccGrows.calls k a0 cap0 l0 a1 a2 true W hr0 hc0 hk).mono fun e W' ⟨he, bel⟩ => ?_
  subst he
  exact ⟨_, rfl, _, _, _, [], _, [], hW', trodAll_mk1 (shut_bool Try.underlying4 _), (trodAll_cons_mk (Below.trod laidOut (by kernel_rfl) (of_decide_eq_true (by kernel_rfl)) k0 bel lt0) (trodAll_cons_mk (shut_string Try.underlying9 y1) (trodAll_cons_mk (shut_string Try.underlying9 y2) trodAll_mk0))), rfl, bel.frame _, fun h => by cases h⟩
theorem over : Rows.occGrowsRow.holds Try.pinned (OpenSpec.ofChange Rows.occGrowsSpec) :=
  OpenClaim.holds_of_wide 4 Try.f4 rfl rfl rfl rfl rfl rfl rfl ⟨rfl, rfl, rfl, rfl, rfl⟩ rfl rfl rfl rfl rfl (by kernel_rfl) Try.func4 (by kernel_rfl)
    (of_decide_eq_true (by kernel_rfl)) (by unfold Func.isWrapper; first | (rw [if_pos (by decide +kernel)]; kernel_rfl) | (rw [if_neg (by decide +kernel)]; exact ⟨rfl, rfl⟩))
    (fun os started H enc _ => lifted os started H enc)
theorem proved : Rows.OccGrowsSaid := over
#print axioms proved
end Go.Proofs.Ytekdmkdidnnpbaa.occGrows
namespace Go.Proofs.Ytekdmkdidnnpbaa
/-- The row, under a short name, for the claim. -/
theorem occGrows_holds : Rows.OccGrowsSaid := occGrows.proved
end Go.Proofs.Ytekdmkdidnnpbaa
