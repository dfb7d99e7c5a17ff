/- Proved here: the row of the law ShiftEnds, with the plain texts that lead to it, merged by a program of this session (wip/merge.py); no condition beyond the statement's own. -/
import Derived.Test.YtdfcmkmdioddnaaH09t
import Derived.Test.YtdfcmkmdioddnaaPx11
import Derived.Test.YtdfcmkmdioddnaaPx53
import Derived.Test.YtdfcmkmdioddnaaPx52
import Derived.Test.YtdfcmkmdioddnaaH10
import Derived.Test.YtdfcmkmdioddnaaH10b
import Derived.Test.YtdfcmkmdioddnaaPx14
import Derived.Test.YtdfcmkmdioddnaaPx21
import Derived.Test.YtdfcmkmdioddnaaH13
import Derived.Test.YtdfcmkmdioddnaaPx22
import Derived.Test.YtdfcmkmdioddnaaPx56
import Derived.Test.YtdfcmkmdioddnaaBase
import Derived.Test.YtdfcmkmdioddnaaPx17
import Derived.Test.YtdfcmkmdioddnaaH13b
import Derived.Test.YtdfcmkmdioddnaaPx12
import Derived.Test.YtdfcmkmdioddnaaPx19
import Derived.Test.YtdfcmkmdioddnaaPx4
import Derived.Test.YtdfcmkmdioddnaaPx3
import Derived.Test.YtdfcmkmdioddnaaPx18
import Derived.SizedLaws
import Derived.SliceStrings
import Derived.Test.YtdfcmkmdioddnaaWWords
import Derived.Test.YtdfcmkmdioddnaaWSized
import Derived.Test.YtdfcmkmdioddnaaRows
import Derived.WalkKit
import Derived.ProofKit
import Derived.OpenShut
import Derived.ShutString
import Derived.ChangeOld
import Derived.Below
import Derived.Carry
/- What layer 9 and its reference compute, as plain functions on lists of bytes; no condition beyond the sizes that stand in each statement. -/
namespace Go.Proofs.Ytdfcmkmdioddnaa.Base
open Go Go.RowKit Go.Proofs.YtdfcmkmdioddnaaW.PrintWords Go.Proofs.YtdfcmkmdioddnaaW.PrintMore Go.Proofs.Ytdfcmkmdioddnaa.P
set_option linter.unusedVariables false

/-! few texts, of few bytes -/
def fewB (l : List ByteArray) (b : Int) : Bool := l.all fun s => decide ((s.size : Int) ≤ b)
theorem fewB_iff {l : List ByteArray} {b : Int} : fewB l b = true ↔ ∀ s ∈ l, (s.size : Int) ≤ b := by unfold fewB; rw [List.all_eq_true]; simp
theorem few_l0 (l : List ByteArray) (b : Int) (hm : l.length ≤ 9223372036854775807) : ∀ (d i : Nat), i + d = l.length →
    Ev (fun k => juratref09_Few.l0 k l b (i : Int)) (fewB (l.drop i) b) := by
  intro d
  induction d with
  | zero =>
    intro i hi
    refine Ev.ret fun k => ?_
    simp only [juratref09_Few.l0]
    rw [if_neg (by omega), List.drop_of_length_le (by omega)]
    rfl
  | succ d ih =>
    intro i hi
    have hd := getD_drop l i ByteArray.empty (by omega)
    have e : rdOf ByteArray.empty l (i : Int) = l.getD i ByteArray.empty := rfl
    have e2 : fewB (l.drop i) b = (decide (((l.getD i ByteArray.empty).size : Int) ≤ b) && fewB (l.drop (i + 1)) b) := by rw [hd]; rfl
    rw [e2]
    by_cases h : ((l.getD i ByteArray.empty).size : Int) > b
    · refine Ev.ret fun k => ?_
      simp only [juratref09_Few.l0]
      rw [if_pos (by omega), if_pos (by omega), e, if_pos h, decide_eq_false (by omega)]
      rfl
    · rw [decide_eq_true (by omega), Bool.true_and]
      refine Ev.step (f := fun k => juratref09_Few.l0 k l b ((i + 1 : Nat) : Int)) (fun k => ?_) (ih (i + 1) (by omega))
      simp only [juratref09_Few.l0]
      rw [if_pos (by omega), if_pos (by omega), e, if_neg h, wrap_id (by omega) (by omega)]
      rfl
theorem few_ev (l : List ByteArray) (m b : Int) (hm : l.length ≤ 9223372036854775807) : Ev (fun k => juratref09_Few.f k l m b) (decide ((l.length : Int) ≤ m) && fewB l b) := by
  by_cases h : (l.length : Int) > m
  · rw [decide_eq_false (by omega)]
    refine Ev.const fun k => ?_
    unfold juratref09_Few.f
    rw [if_pos h]
    rfl
  · have h' := few_l0 l b hm l.length 0 (by omega)
    rw [List.drop_zero] at h'
    rw [decide_eq_true (by omega), Bool.true_and]
    refine Ev.congr (fun k => ?_) h'
    unfold juratref09_Few.f
    rw [if_neg h]
    rfl

/-! sorted: two lists in order with the same texts are one -/
theorem up_unique : ∀ {l m : List ByteArray}, l.Perm m → upB l → upB m → l = m
  | [], m, h, _, _ => by rw [List.nil_perm.1 h]
  | x :: l, [], h, _, _ => by have := h.length_eq; simp at this
  | x :: l, y :: m, h, hl, hm => by
    obtain ⟨hl1, hl2⟩ := List.pairwise_cons.1 hl
    obtain ⟨hm1, hm2⟩ := List.pairwise_cons.1 hm
    have e : x = y := by
      rcases bl_tri (LL x) (LL y) with h' | h' | h'
      · exact LL_inj h'
      · rcases List.mem_cons.1 (h.mem_iff.1 List.mem_cons_self : x ∈ y :: m) with rfl | hx
        · rfl
        · rw [hm1 x hx] at h'; cases h'
      · rcases List.mem_cons.1 (h.mem_iff.2 List.mem_cons_self : y ∈ x :: l) with rfl | hy
        · rfl
        · rw [hl1 y hy] at h'; cases h'
    subst e
    rw [up_unique (List.Perm.cons_inv h) hl2 hm2]
theorem sortB_up (l : List ByteArray) : upB (sortB l) := by
  have h := List.pairwise_mergeSort (le := fun x y : ByteArray => !Op.bytesLess (LL y) (LL x)) (fun a b c h1 h2 => by
      simp only [Bool.not_eq_true'] at h1 h2 ⊢
      exact bl_ntrans h2 h1) (fun a b => by
      rcases bl_tri (LL a) (LL b) with h | h | h
      · rw [h, bl_irrefl]; rfl
      · rw [bl_asym h]; rfl
      · rw [bl_asym h]; simp) l
  exact h.imp (fun h => by simpa using h)
theorem sortB_perm (l : List ByteArray) : (sortB l).Perm l := List.mergeSort_perm _ _
theorem sortB_of {l m : List ByteArray} (h : m.Perm l) (hu : upB m) : m = sortB l := up_unique (h.trans (sortB_perm l).symm) hu (sortB_up l)
theorem sortB_sized {l : List ByteArray} (h : sizedB l) : sizedB (sortB l) := ⟨by rw [sortB_length]; exact h.1, fun s hs => h.2 s ((sortB_perm l).mem_iff.1 hs)⟩

theorem take_snoc {α : Type} (l : List α) (i : Nat) (z : α) (h : i < l.length) : l.take (i + 1) = l.take i ++ [l.getD i z] := by
  rw [List.take_succ_eq_append_getElem h, List.getD_eq_getElem?_getD, List.getElem?_eq_getElem h]; rfl

end Go.Proofs.Ytdfcmkmdioddnaa.Base

/- What layer 9's reference computes by sorting and looking for what is there twice, as plain functions on lists of texts; no condition beyond the sizes that stand in each statement. -/
namespace Go.Proofs.Ytdfcmkmdioddnaa.Base
open Go Go.RowKit Go.Proofs.YtdfcmkmdioddnaaW.PrintWords Go.Proofs.YtdfcmkmdioddnaaW.PrintMore Go.Proofs.Ytdfcmkmdioddnaa.P
set_option linter.unusedVariables false

/-! sorted by insertion -/
theorem rsorted_put (l out : List ByteArray) (i j : Nat) (hi : i < l.length) (hl : l.length ≤ 8796093022200) (ho : out.length = i) (hj : j ≤ out.length) (hup : upB out)
    (hbelow : ∀ t, t < j → Op.bytesLess (LL (l.getD i ByteArray.empty)) (LL (out.getD t ByteArray.empty)) = false) (habove : ∀ t, j ≤ t → t < out.length → Op.bytesLess (LL (l.getD i ByteArray.empty)) (LL (out.getD t ByteArray.empty)) = true) :
    upB (out.take j ++ l.getD i ByteArray.empty :: out.drop j) ∧ (out.take j ++ l.getD i ByteArray.empty :: out.drop j).Perm (l.getD i ByteArray.empty :: out) := by
  refine ⟨?_, ?_⟩
  · have h1 : ∀ x ∈ out.take j, Op.bytesLess (LL (l.getD i ByteArray.empty)) (LL x) = false := fun x hx => by
      obtain ⟨t, ht, rfl⟩ := List.mem_iff_getElem.1 hx
      rw [List.length_take] at ht
      have := hbelow t (by omega)
      rw [List.getD_eq_getElem?_getD (l := out), List.getElem?_eq_getElem (by omega : t < out.length)] at this
      rw [List.getElem_take]
      exact this
    have h2 : ∀ x ∈ out.drop j, Op.bytesLess (LL (l.getD i ByteArray.empty)) (LL x) = true := fun x hx => by
      obtain ⟨t, ht, rfl⟩ := List.mem_iff_getElem.1 hx
      rw [List.length_drop] at ht
      have := habove (j + t) (by omega) (by omega)
      rw [List.getD_eq_getElem?_getD (l := out), List.getElem?_eq_getElem (by omega : j + t < out.length)] at this
      rw [List.getElem_drop]
      exact this
    have hsplit : (out.take j ++ out.drop j).Pairwise (fun x y => Op.bytesLess (LL y) (LL x) = false) := by rw [List.take_append_drop]; exact hup
    obtain ⟨p1, p2, p3⟩ := List.pairwise_append.1 hsplit
    refine List.pairwise_append.2 ⟨p1, List.pairwise_cons.2 ⟨fun y hy => bl_asym (h2 y hy), p2⟩, fun x hx y hy => ?_⟩
    rcases List.mem_cons.1 hy with rfl | hy
    · exact h1 x hx
    · exact p3 x hx y hy
  · refine List.perm_middle.trans ?_
    rw [List.take_append_drop]
theorem rsorted_both (l : List ByteArray) (hl : l.length ≤ 8796093022200) : ∀ (d i : Nat), i + d = l.length → ∀ out : List ByteArray, out.Perm (l.take i) → upB out →
    Ev (fun k => juratref09_Sorted.l0 k l out (i : Int)) (sortB l) := by
  intro d
  induction d with
  | zero =>
    intro i hi out hp hu
    rw [List.take_of_length_le (by omega)] at hp
    refine Ev.ret fun k => ?_
    simp only [juratref09_Sorted.l0]
    rw [if_neg (by omega), sortB_of hp hu]
  | succ d ih =>
    intro i hi out hp hu
    have ho : out.length = i := by rw [hp.length_eq, List.length_take]; omega
    have hx : rdOf ByteArray.empty l (i : Int) = l.getD i ByteArray.empty := rfl
    have fin : ∀ j, j ≤ out.length → (∀ t, t < j → Op.bytesLess (LL (l.getD i ByteArray.empty)) (LL (out.getD t ByteArray.empty)) = false) → (∀ t, j ≤ t → t < out.length → Op.bytesLess (LL (l.getD i ByteArray.empty)) (LL (out.getD t ByteArray.empty)) = true) →
        Ev (fun k => juratref09_Sorted.l0 k l ((([] ++ out.take j) ++ [l.getD i ByteArray.empty]) ++ out.drop j) ((i + 1 : Nat) : Int)) (sortB l) := fun j hj hb ha => by
      obtain ⟨u, p⟩ := rsorted_put l out i j (by omega) hl ho hj hu hb ha
      rw [List.nil_append, List.append_assoc, List.singleton_append]
      refine ih (i + 1) (by omega) _ (p.trans ?_) u
      rw [take_snoc l i ByteArray.empty (by omega)]
      exact (List.Perm.cons _ hp).trans (List.perm_append_singleton _ _).symm
    have inner : ∀ j, j ≤ out.length → (∀ t, j ≤ t → t < out.length → Op.bytesLess (LL (l.getD i ByteArray.empty)) (LL (out.getD t ByteArray.empty)) = true) →
        Ev (fun k => juratref09_Sorted.l1 k l out (i : Int) (j : Int)) (sortB l) := by
      intro j
      induction j with
      | zero =>
        intro hj ha
        refine Ev.step (f := fun k => juratref09_Sorted.l0 k l ((([] ++ out.take 0) ++ [l.getD i ByteArray.empty]) ++ out.drop 0) ((i + 1 : Nat) : Int)) (fun k => ?_) (fin 0 hj (fun t ht => absurd ht (Nat.not_lt_zero _)) ha)
        simp only [juratref09_Sorted.l1, Option.bind_some]
        rw [if_neg (by omega), if_pos (by omega), if_pos (by omega), if_pos (by simp), if_pos (by omega), if_pos (by omega), if_pos (by simp), hx, Int.toNat_natCast, if_pos (by simp; omega), wrap_id (by omega) (by omega)]
        rfl
      | succ j ihj =>
        intro hj ha
        have hy : rdOf ByteArray.empty out (((j + 1 : Nat) : Int) - 1) = out.getD j ByteArray.empty := by unfold rdOf; rw [show (((j + 1 : Nat) : Int) - 1).toNat = j by omega]
        cases hlt : Op.bytesLess (LL (l.getD i ByteArray.empty)) (LL (out.getD j ByteArray.empty)) with
        | true =>
          refine Ev.step (f := fun k => juratref09_Sorted.l1 k l out (i : Int) (j : Int)) (fun k => ?_) (ihj (by omega) (fun t h1 h2 => by
            by_cases he : t = j
            · subst he; exact hlt
            · exact ha t (by omega) h2))
          simp only [juratref09_Sorted.l1, Option.bind_some]
          rw [wrap_id (x := ((j + 1 : Nat) : Int) - 1) (by omega) (by omega), if_pos (by omega), if_pos (by omega), if_pos (by omega), if_pos (by omega), if_pos (by omega), hx, hy, if_pos (by rw [ByteArray.toList_eq, ByteArray.toList_eq]; exact hlt), show ((j + 1 : Nat) : Int) - 1 = (j : Int) by omega]
        | false =>
          refine Ev.step (f := fun k => juratref09_Sorted.l0 k l ((([] ++ out.take (j + 1)) ++ [l.getD i ByteArray.empty]) ++ out.drop (j + 1)) ((i + 1 : Nat) : Int)) (fun k => ?_) (fin (j + 1) hj (fun t ht => by
            by_cases he : t = j
            · subst he; exact hlt
            · have hp := List.pairwise_iff_getElem.1 hu t j (by omega) (by omega) (by omega)
              rw [List.getD_eq_getElem?_getD (l := out), List.getElem?_eq_getElem (by omega : j < out.length)] at hlt
              rw [List.getD_eq_getElem?_getD (l := out), List.getElem?_eq_getElem (by omega : t < out.length)]
              exact bl_ntrans hlt hp) ha)
          simp only [juratref09_Sorted.l1, Option.bind_some]
          rw [wrap_id (x := ((j + 1 : Nat) : Int) - 1) (by omega) (by omega), if_pos (by omega), if_pos (by omega), if_pos (by omega), if_pos (by omega), if_pos (by omega), hx, hy, if_neg (by rw [ByteArray.toList_eq, ByteArray.toList_eq, hlt]; simp), if_pos (by omega), if_pos (by omega), Int.toNat_natCast,
            if_pos (by simp; omega), if_pos (by simp; omega), if_pos (by simp; omega), wrap_id (by omega) (by omega)]
          rfl
    refine Ev.step (f := fun k => juratref09_Sorted.l1 k l out (i : Int) (out.length : Int)) (fun k => ?_) (inner out.length (Nat.le_refl _) (fun t h1 h2 => by omega))
    simp only [juratref09_Sorted.l0]
    rw [if_pos (by omega)]
theorem rsorted_ev (l : List ByteArray) (hl : l.length ≤ 8796093022200) : Ev (fun k => juratref09_Sorted.f k l) (sortB l) :=
  rsorted_both l hl l.length 0 (by omega) [] (by rw [List.take_zero]) List.Pairwise.nil

/-! there already -/
theorem inB_take (s : ByteArray) (l : List ByteArray) (i : Nat) : inB s (l.take i) = true ↔ ∃ t, t < i ∧ t < l.length ∧ l.getD t ByteArray.empty = s := by
  rw [inB_iff, List.mem_iff_getElem]
  constructor
  · rintro ⟨t, ht, rfl⟩
    rw [List.length_take] at ht
    refine ⟨t, by omega, by omega, ?_⟩
    rw [List.getD_eq_getElem?_getD, List.getElem?_eq_getElem (by omega : t < l.length), List.getElem_take]; rfl
  · rintro ⟨t, h1, h2, rfl⟩
    refine ⟨t, by rw [List.length_take]; omega, ?_⟩
    rw [List.getD_eq_getElem?_getD, List.getElem?_eq_getElem (by omega : t < l.length), List.getElem_take]; rfl
theorem rtwice_both (l : List ByteArray) (hl : l.length ≤ 9223372036854775806) : ∀ (d i : Nat), i + d = l.length →
    Ev (fun k => juratref09_Twice.l0 k l (i : Int)) (twB (l.take i) (l.drop i) i) := by
  intro d
  induction d with
  | zero =>
    intro i hi
    refine Ev.ret fun k => ?_
    simp only [juratref09_Twice.l0]
    rw [if_neg (by omega), List.drop_of_length_le (by omega)]
    rfl
  | succ d ih =>
    intro i hi
    have ih' := ih (i + 1) (by omega)
    rw [take_snoc l i ByteArray.empty (by omega)] at ih'
    rw [getD_drop l i ByteArray.empty (by omega)]
    have inner : ∀ e j, j + e = i → (∀ t, t < j → ¬ l.getD t ByteArray.empty = l.getD i ByteArray.empty) →
        Ev (fun k => juratref09_Twice.l1 k l (i : Int) (j : Int)) (twB (l.take i) (l.getD i ByteArray.empty :: l.drop (i + 1)) i) := by
      intro e
      induction e with
      | zero =>
        intro j hj hn
        have hin : ¬ inB (l.getD i ByteArray.empty) (l.take i) = true := fun h => by
          obtain ⟨t, h1, h2, h3⟩ := (inB_take _ _ _).1 h
          exact hn t (by omega) h3
        simp only [twB]
        rw [if_neg hin]
        refine Ev.step (f := fun k => juratref09_Twice.l0 k l ((i + 1 : Nat) : Int)) (fun k => ?_) ih'
        simp only [juratref09_Twice.l1]
        rw [if_neg (by omega), wrap_id (by omega) (by omega)]
        rfl
      | succ e ihe =>
        intro j hj hn
        have e1 : rdOf ByteArray.empty l (i : Int) = l.getD i ByteArray.empty := rfl
        have e2 : rdOf ByteArray.empty l (j : Int) = l.getD j ByteArray.empty := rfl
        by_cases h : l.getD j ByteArray.empty = l.getD i ByteArray.empty
        · have hin : inB (l.getD i ByteArray.empty) (l.take i) = true := (inB_take _ _ _).2 ⟨j, by omega, by omega, h⟩
          simp only [twB]
          rw [if_pos hin]
          refine Ev.ret fun k => ?_
          simp only [juratref09_Twice.l1]
          rw [if_pos (by omega), if_pos (by omega), if_pos (by omega), if_pos (by omega), if_pos (by omega), e1, e2, if_pos (toList_iff.2 h)]
        · refine Ev.step (f := fun k => juratref09_Twice.l1 k l (i : Int) ((j + 1 : Nat) : Int)) (fun k => ?_) (ihe (j + 1) (by omega) (fun t ht => by
            by_cases he : t = j
            · subst he; exact h
            · exact hn t (by omega)))
          simp only [juratref09_Twice.l1]
          rw [if_pos (by omega), if_pos (by omega), if_pos (by omega), if_pos (by omega), if_pos (by omega), e1, e2, if_neg (fun x => h (toList_iff.1 x)), wrap_id (by omega) (by omega)]
          rfl
    refine Ev.step (f := fun k => juratref09_Twice.l1 k l (i : Int) ((0 : Nat) : Int)) (fun k => ?_) (inner i 0 (by omega) (fun t ht => absurd ht (Nat.not_lt_zero _)))
    simp only [juratref09_Twice.l0]
    rw [if_pos (by omega)]
    rfl
theorem rtwice_ev (l : List ByteArray) (hl : l.length ≤ 9223372036854775806) : Ev (fun k => juratref09_Twice.f k l) (twB [] l 0) := by
  have h := rtwice_both l hl l.length 0 (by omega)
  rw [List.take_zero, List.drop_zero] at h
  exact h

end Go.Proofs.Ytdfcmkmdioddnaa.Base

/- What layer 10's reference computes, as plain functions on lists of texts, and that layer 10's set is it; no condition beyond the sizes that stand in each statement. -/
namespace Go.Proofs.Ytdfcmkmdioddnaa.Base
open Go Go.RowKit Go.Proofs.YtdfcmkmdioddnaaW.PrintWords Go.Proofs.YtdfcmkmdioddnaaW.PrintMore Go.Proofs.Ytdfcmkmdioddnaa.P
set_option linter.unusedVariables false

/-- The patterns in order, or the error. -/
def newB (l : List ByteArray) : List ByteArray × Int :=
  if l.length = 0 then ([], 14) else if l.length > 65535 then ([], 6) else if badB l ≠ 0 then ([], badB l) else if totalB 0 l > 16777216 then ([], 13) else if twB [] l 0 ≥ 0 then ([], 8) else (sortB l, 0)
theorem rnew_l0 (l : List ByteArray) (hl : l.length ≤ 65535) : ∀ (d i n : Nat), i + d = l.length → n ≤ i * 65535 →
    Ev (fun k => juratref10_New.l0 k l (n : Int) (i : Int)) (if badB (l.drop i) ≠ 0 then ([], badB (l.drop i)) else if totalB n (l.drop i) > 16777216 then ([], 13) else if twB [] l 0 ≥ 0 then ([], 8) else (sortB l, 0)) := by
  intro d
  induction d with
  | zero =>
    intro i n hi hn
    rw [List.drop_of_length_le (by omega), if_neg (by simp [badB])]
    have hn' : totalB n [] = n := rfl
    rw [hn']
    by_cases h1 : n > 16777216
    · rw [if_pos h1]
      refine Ev.ret fun k => ?_
      simp only [juratref10_New.l0]
      rw [if_neg (by omega), if_pos (by omega)]
    · rw [if_neg h1]
      refine Ev.step (f := fun k => (juratref09_Twice.f k l).bind fun t => if t ≥ 0 then some ([], 8) else (juratref09_Sorted.f k l).bind fun s => some (s, 0)) (fun k => ?_) ?_
      · simp only [juratref10_New.l0]
        rw [if_neg (by omega), if_neg (by omega)]
      refine Ev.bind (rtwice_ev l (by omega)) ?_
      by_cases h2 : twB [] l 0 ≥ 0
      · rw [if_pos h2]
        exact Ev.congr (fun k => if_pos h2) (Ev.now _)
      · rw [if_neg h2]
        exact Ev.congr (fun k => if_neg h2) (Ev.bind (rsorted_ev l (by omega)) (Ev.now _))
  | succ d ih =>
    intro i n hi hn
    have hd := getD_drop l i ByteArray.empty (by omega)
    have e : rdOf ByteArray.empty l (i : Int) = l.getD i ByteArray.empty := rfl
    rw [hd]
    generalize l.getD i ByteArray.empty = s at e
    by_cases h0 : s.size = 0
    · have hc : chkB s = 7 := by unfold chkB; rw [if_pos h0]
      have hb : badB (s :: l.drop (i + 1)) = chkB s := by show (if chkB s = 0 then _ else chkB s) = chkB s; rw [if_neg (by omega)]
      rw [hb, hc, if_pos (by omega)]
      refine Ev.ret fun k => ?_
      simp only [juratref10_New.l0]
      rw [if_pos (by omega), if_pos (by omega), e, if_pos (toList_nil.2 h0)]
    by_cases h1 : s.size > 65535
    · have hc : chkB s = 5 := by unfold chkB; rw [if_neg h0, if_pos h1]
      have hb : badB (s :: l.drop (i + 1)) = chkB s := by show (if chkB s = 0 then _ else chkB s) = chkB s; rw [if_neg (by omega)]
      rw [hb, hc, if_pos (by omega)]
      refine Ev.ret fun k => ?_
      simp only [juratref10_New.l0]
      rw [if_pos (by omega), if_pos (by omega), e, if_neg (fun x => h0 (toList_nil.1 x)), if_pos (by omega)]
    have hc : chkB s = 0 := by unfold chkB; rw [if_neg h0, if_neg h1]
    have hb : badB (s :: l.drop (i + 1)) = badB (l.drop (i + 1)) := if_pos hc
    rw [hb]
    have ht : totalB n (s :: l.drop (i + 1)) = totalB (n + s.size) (l.drop (i + 1)) := rfl
    rw [ht]
    refine Ev.step (f := fun k => juratref10_New.l0 k l ((n + s.size : Nat) : Int) ((i + 1 : Nat) : Int)) (fun k => ?_) (ih (i + 1) (n + s.size) (by omega) (by omega))
    simp only [juratref10_New.l0]
    rw [if_pos (by omega), if_pos (by omega), e, if_neg (fun x => h0 (toList_nil.1 x)), if_neg (by omega), wrap_id (by omega) (by omega), wrap_id (by omega) (by omega)]
    rfl
theorem rnew_ev (l : List ByteArray) : Ev (fun k => juratref10_New.f k l) (newB l) := by
  unfold newB
  by_cases h0 : l.length = 0
  · rw [if_pos h0]
    refine Ev.const fun k => ?_
    unfold juratref10_New.f
    rw [if_pos (by omega)]
  rw [if_neg h0]
  by_cases h1 : l.length > 65535
  · rw [if_pos h1]
    refine Ev.const fun k => ?_
    unfold juratref10_New.f
    rw [if_neg (by omega), if_pos (by omega)]
  rw [if_neg h1]
  have h := rnew_l0 l (by omega) l.length 0 0 (by omega) (by omega)
  rw [List.drop_zero] at h
  refine Ev.congr (fun k => ?_) h
  unfold juratref10_New.f
  rw [if_neg (by omega), if_neg (by omega)]
  rfl

/-- What the document tells of a list. -/
def minB (l : List ByteArray) : Nat := leastB (l.getD 0 ByteArray.empty).size l
theorem rleast_l0 (l : List ByteArray) (hl : l.length ≤ 9223372036854775806) : ∀ (d i n : Nat), i + d = l.length → 0 < i →
    Ev (fun k => juratref10_Least.l0 k l (n : Int) (i : Int)) (leastB n (l.drop i) : Int) := by
  intro d
  induction d with
  | zero =>
    intro i n hi h0
    rw [List.drop_of_length_le (by omega)]
    refine Ev.ret fun k => ?_
    simp only [juratref10_Least.l0]
    rw [if_neg (by omega)]
    rfl
  | succ d ih =>
    intro i n hi h0
    have hd := getD_drop l i ByteArray.empty (by omega)
    have e : rdOf ByteArray.empty l (i : Int) = l.getD i ByteArray.empty := rfl
    rw [hd]
    have ht : leastB n (l.getD i ByteArray.empty :: l.drop (i + 1)) = leastB (min n (l.getD i ByteArray.empty).size) (l.drop (i + 1)) := rfl
    rw [ht]
    refine Ev.step (f := fun k => juratref10_Least.l0 k l ((min n (l.getD i ByteArray.empty).size : Nat) : Int) ((i + 1 : Nat) : Int)) (fun k => ?_) (ih (i + 1) _ (by omega) (by omega))
    simp only [juratref10_Least.l0]
    rw [if_pos (by omega), if_neg (by omega), if_pos (by omega), e]
    by_cases h : (l.getD i ByteArray.empty).size < n
    · rw [if_pos (by omega), wrap_id (by omega) (by omega), Nat.min_eq_right (by omega)]; rfl
    · rw [if_neg (by omega), wrap_id (by omega) (by omega), Nat.min_eq_left (by omega)]; rfl
theorem rleast_ev (l : List ByteArray) (hl : l.length ≤ 9223372036854775806) : Ev (fun k => juratref10_Least.f k l) (minB l : Int) := by
  cases l with
  | nil => exact Ev.ret fun k => by simp [juratref10_Least.f, juratref10_Least.l0, minB, leastB, List.getD]
  | cons s l =>
    have h := rleast_l0 (s :: l) hl l.length 1 s.size (by rw [List.length_cons]; omega) (by omega)
    have e : minB (s :: l) = leastB s.size ((s :: l).drop 1) := by
      show leastB (min s.size s.size) l = leastB s.size l
      rw [Nat.min_self]
    rw [e]
    refine Ev.step (f := fun k => juratref10_Least.l0 k (s :: l) (s.size : Int) ((1 : Nat) : Int)) (fun k => ?_) h
    unfold juratref10_Least.f
    simp only [juratref10_Least.l0]
    rw [if_pos (by rw [List.length_cons]; omega), if_pos trivial, if_pos (by omega), wrap_id (by omega) (by omega)]
    rfl
/-- Where a text stands first; -1: nowhere. -/
def findB (s : ByteArray) : List ByteArray → Nat → Int
  | [], _ => -1
  | x :: l, i => if x = s then (i : Int) else findB s l (i + 1)

end Go.Proofs.Ytdfcmkmdioddnaa.Base

/- What is told of a set of patterns, of the list in order and of the list as it came; layer 10's examples; no condition beyond the sizes that stand in each statement. -/
namespace Go.Proofs.Ytdfcmkmdioddnaa.Base
open Go Go.RowKit Go.Proofs.YtdfcmkmdioddnaaW.PrintWords Go.Proofs.YtdfcmkmdioddnaaW.PrintMore Go.Proofs.Ytdfcmkmdioddnaa.P
set_option linter.unusedVariables false

theorem findB_up (s : ByteArray) : ∀ (l : List ByteArray) (i : Nat), upB l → findB s l i = if inB s l = true then ((i + aheadB s l : Nat) : Int) else -1
  | [], i, _ => rfl
  | x :: l, i, h => by
    obtain ⟨h1, h2⟩ := List.pairwise_cons.1 h
    have ih := findB_up s l (i + 1) h2
    have ef : findB s (x :: l) i = if x = s then (i : Int) else findB s l (i + 1) := rfl
    rw [ef]
    by_cases hx : x = s
    · subst hx
      rw [if_pos rfl, if_pos (inB_iff.2 List.mem_cons_self), aheadB_none x (x :: l) (fun y hy => by
        rcases List.mem_cons.1 hy with rfl | hy
        · exact bl_irrefl _
        · exact h1 y hy)]
      rfl
    · rw [if_neg hx, inB_cons, decide_eq_false hx, Bool.false_or, ih]
      cases hb : Op.bytesLess (LL x) (LL s) with
      | true =>
        have e : aheadB s (x :: l) = aheadB s l + 1 := by unfold aheadB; rw [List.countP_cons_of_pos (by simpa using hb)]
        rw [e, show i + 1 + aheadB s l = i + (aheadB s l + 1) by omega]
      | false =>
        have hn : ¬ inB s l = true := fun hi => by
          rcases bl_tri (LL x) (LL s) with h' | h' | h'
          · exact hx (LL_inj h')
          · rw [hb] at h'; cases h'
          · rw [h1 s (inB_iff.1 hi)] at h'; cases h'
        rw [if_neg hn, if_neg hn]
theorem fold_perm {β : Type} (f : β → ByteArray → β) (hc : ∀ a x y, f (f a x) y = f (f a y) x) {l m : List ByteArray} (h : l.Perm m) : ∀ a, l.foldl f a = m.foldl f a := by
  induction h with
  | nil => intro a; rfl
  | cons x _ ih => intro a; exact ih _
  | swap x y l => intro a; simp only [List.foldl_cons]; rw [hc]
  | trans _ _ ih1 ih2 => intro a; rw [ih1, ih2]
theorem total_perm {l m : List ByteArray} (h : l.Perm m) : totalB 0 l = totalB 0 m := fold_perm _ (fun a x y => by omega) h 0
theorem most_perm {l m : List ByteArray} (h : l.Perm m) : mostB 0 l = mostB 0 m := fold_perm _ (fun a x y => by omega) h 0
theorem least_spec : ∀ (l : List ByteArray) (a : Nat), leastB a l ≤ a ∧ (∀ s ∈ l, leastB a l ≤ s.size) ∧ (leastB a l = a ∨ ∃ s ∈ l, leastB a l = s.size)
  | [], a => ⟨Nat.le_refl _, by simp, .inl rfl⟩
  | x :: l, a => by
    obtain ⟨h1, h2, h3⟩ := least_spec l (min a x.size)
    have e : leastB a (x :: l) = leastB (min a x.size) l := rfl
    rw [e]
    refine ⟨by omega, fun s hs => ?_, ?_⟩
    · rcases List.mem_cons.1 hs with rfl | hs
      · omega
      · exact h2 s hs
    · rcases h3 with h3 | ⟨s, hs, h3⟩
      · by_cases ha : a ≤ x.size
        · left; omega
        · right; exact ⟨x, List.mem_cons_self, by omega⟩
      · right; exact ⟨s, List.mem_cons_of_mem _ hs, h3⟩
theorem min_spec (l : List ByteArray) (h : 0 < l.length) : (∀ s ∈ l, minB l ≤ s.size) ∧ ∃ s ∈ l, minB l = s.size := by
  obtain ⟨h1, h2, h3⟩ := least_spec l (l.getD 0 ByteArray.empty).size
  refine ⟨h2, ?_⟩
  rcases h3 with h3 | h3
  · exact ⟨_, getD_mem l 0 ByteArray.empty h, h3⟩
  · exact h3
theorem min_perm {l m : List ByteArray} (h : l.Perm m) (h0 : 0 < l.length) : minB l = minB m := by
  obtain ⟨a1, s, hs, a2⟩ := min_spec l h0
  obtain ⟨b1, t, ht, b2⟩ := min_spec m (by rw [← h.length_eq]; exact h0)
  have := a1 t (h.mem_iff.2 ht)
  have := b1 s (h.mem_iff.1 hs)
  omega

/-- A set that is made of texts. -/
def setB (l : List ByteArray) : SetD := ⟨sortB l, (minB l : Nat), (mostB 0 l : Nat), (totalB 0 l : Nat)⟩
theorem new_cases (l : List ByteArray) :
    (∃ e, e ≠ 0 ∧ pats_New.f l = some (none, e) ∧ newB l = ([], e)) ∨
    (pats_New.f l = some (some (setB l), 0) ∧ newB l = (sortB l, 0) ∧ 0 < l.length ∧ l.length ≤ 65535 ∧ badB l = 0 ∧ totalB 0 l ≤ 16777216 ∧ twB [] l 0 < 0) := by
  unfold pats_New.f newB
  by_cases h0 : l.length = 0
  · exact .inl ⟨14, by decide, by rw [if_pos h0], by rw [if_pos h0]⟩
  by_cases h1 : l.length > 65535
  · exact .inl ⟨6, by decide, by rw [if_neg h0, if_pos h1], by rw [if_neg h0, if_pos h1]⟩
  by_cases h2 : badB l ≠ 0
  · exact .inl ⟨_, h2, by rw [if_neg h0, if_neg h1, if_pos h2], by rw [if_neg h0, if_neg h1, if_pos h2]⟩
  by_cases h3 : totalB 0 l > 16777216
  · exact .inl ⟨13, by decide, by rw [if_neg h0, if_neg h1, if_neg h2, if_pos h3], by rw [if_neg h0, if_neg h1, if_neg h2, if_pos h3]⟩
  by_cases h4 : twB [] l 0 ≥ 0
  · exact .inl ⟨8, by decide, by rw [if_neg h0, if_neg h1, if_neg h2, if_neg h3, if_pos h4], by rw [if_neg h0, if_neg h1, if_neg h2, if_neg h3, if_pos h4]⟩
  refine .inr ⟨by rw [if_neg h0, if_neg h1, if_neg h2, if_neg h3, if_neg h4]; rfl, by rw [if_neg h0, if_neg h1, if_neg h2, if_neg h3, if_neg h4], by omega, by omega, Classical.not_not.1 h2, by omega, by omega⟩


end Go.Proofs.Ytdfcmkmdioddnaa.Base

/- Sets of the same patterns are one, in whatever order these come; a pattern is found by its number; no condition beyond the sizes that stand in each statement. -/
namespace Go.Proofs.Ytdfcmkmdioddnaa.Base
open Go Go.RowKit Go.Proofs.YtdfcmkmdioddnaaW.PrintWords Go.Proofs.YtdfcmkmdioddnaaW.PrintLast Go.Proofs.YtdfcmkmdioddnaaW.PrintMore Go.Proofs.Ytdfcmkmdioddnaa.P
set_option linter.unusedVariables false

theorem twB_iff : ∀ (l seen : List ByteArray) (i : Nat), twB seen l i < 0 ↔ (l.Nodup ∧ ∀ x ∈ l, ¬ inB x seen = true)
  | [], seen, i => by simp [twB]
  | x :: l, seen, i => by
    simp only [twB]
    by_cases h : inB x seen = true
    · rw [if_pos h]
      constructor
      · intro h'; omega
      · rintro ⟨_, h'⟩; exact absurd h (h' x List.mem_cons_self)
    · rw [if_neg h, twB_iff l (seen ++ [x]) (i + 1), List.nodup_cons]
      constructor
      · rintro ⟨h1, h2⟩
        refine ⟨⟨fun hx => ?_, h1⟩, fun y hy => ?_⟩
        · have := h2 x hx
          rw [inB_snoc] at this
          simp at this
        · rcases List.mem_cons.1 hy with rfl | hy
          · exact h
          · have := h2 y hy
            rw [inB_snoc] at this
            intro h3
            rw [h3] at this
            simp at this
      · rintro ⟨⟨h1, h2⟩, h3⟩
        refine ⟨h2, fun y hy => ?_⟩
        rw [inB_snoc]
        intro h4
        rcases Bool.or_eq_true_iff.1 h4 with h4 | h4
        · exact h3 y (List.mem_cons_of_mem _ hy) h4
        · exact h1 (by rw [of_decide_eq_true h4]; exact hy)
theorem nodup_of_tw {l : List ByteArray} (h : twB [] l 0 < 0) : l.Nodup := ((twB_iff l [] 0).1 h).1
theorem tw_of_nodup {l : List ByteArray} (h : l.Nodup) : twB [] l 0 < 0 := (twB_iff l [] 0).2 ⟨h, fun x _ => by simp [inB]⟩
theorem badB_iff : ∀ (l : List ByteArray), badB l = 0 ↔ ∀ s ∈ l, chkB s = 0
  | [] => by simp [badB]
  | s :: l => by
    simp only [badB]
    by_cases h : chkB s = 0
    · rw [if_pos h, badB_iff l]
      simp [h]
    · rw [if_neg h]
      simp [h]
theorem setB_perm {l m : List ByteArray} (h : l.Perm m) (h0 : 0 < l.length) : setB l = setB m := by
  have e : sortB l = sortB m := sortB_of ((sortB_perm l).trans h) (sortB_up l)
  unfold setB
  rw [e, min_perm h h0, most_perm h, total_perm h]
/-- Texts that make a set make it in any order. -/
theorem new_perm {l m : List ByteArray} (h : l.Perm m) (hp : 0 < l.length) (h1 : l.length ≤ 65535) (h2 : badB l = 0) (h3 : totalB 0 l ≤ 16777216) (h4 : twB [] l 0 < 0) :
    pats_New.f m = some (some (setB l), 0) := by
  have e := h.length_eq
  rcases new_cases m with ⟨c, hc, hn, hw⟩ | ⟨hn, _⟩
  · exfalso
    unfold pats_New.f at hn
    have b2 : badB m = 0 := (badB_iff m).2 fun s hs => (badB_iff l).1 h2 s (h.mem_iff.2 hs)
    have b4 := tw_of_nodup ((h.nodup_iff).1 (nodup_of_tw h4))
    rw [if_neg (by omega), if_neg (by omega), if_neg (by rw [b2]; simp), if_neg (by rw [← total_perm h]; omega), if_neg (by omega)] at hn
    have := (Prod.mk.inj (Option.some.inj hn)).1
    cases this
  · rw [hn, setB_perm h hp]
theorem findB_mem (s : ByteArray) : ∀ (l : List ByteArray) (i : Nat), s ∈ l → ∃ n, findB s l i = ((i + n : Nat) : Int) ∧ n < l.length ∧ l.getD n ByteArray.empty = s
  | [], i, h => by cases h
  | x :: l, i, h => by
    have ef : findB s (x :: l) i = if x = s then (i : Int) else findB s l (i + 1) := rfl
    rw [ef]
    by_cases hx : x = s
    · rw [if_pos hx]
      exact ⟨0, rfl, by simp, by simpa using hx⟩
    · rw [if_neg hx]
      rcases List.mem_cons.1 h with rfl | h
      · exact absurd rfl hx
      · obtain ⟨n, h1, h2, h3⟩ := findB_mem s l (i + 1) h
        exact ⟨n + 1, by rw [h1]; congr 1; omega, by rw [List.length_cons]; omega, by rw [List.getD_cons_succ]; exact h3⟩
theorem list_is (l : List ByteArray) (h : l.length ≤ 65535) : pats_Set_List.f (some (setB l)) = some (sortB l) := by
  show (if (sortB l).length ≤ 8796093022208 then some (sortB l) else none) = _
  rw [if_pos (by rw [sortB_length]; omega)]
theorem bits_and_mask (x : Int) (m : Nat) (hm : m < 9223372036854775808) : 0 ≤ Go.bits .and .i64 x (m : Int) ∧ Go.bits .and .i64 x (m : Int) ≤ m := by
  have h : Go.bits .and .i64 x (m : Int) = IntKind.i64.wrap (((BitVec.ofInt 64 x &&& BitVec.ofInt 64 (m : Int)).toNat : Int)) := rfl
  have h2 : (BitVec.ofInt 64 x &&& BitVec.ofInt 64 (m : Int)).toNat ≤ m := by
    rw [BitVec.toNat_and]
    refine Nat.le_trans Nat.and_le_right ?_
    rw [BitVec.toNat_ofInt]
    omega
  rw [h, i64_w, wrap_id (by omega) (by omega)]
  omega

end Go.Proofs.Ytdfcmkmdioddnaa.Base

/- A set of texts and its list, made or not, told together; no condition beyond the sizes that stand in each statement. -/
namespace Go.Proofs.Ytdfcmkmdioddnaa.Base
open Go Go.RowKit Go.Proofs.YtdfcmkmdioddnaaW.PrintWords Go.Proofs.YtdfcmkmdioddnaaW.PrintMore Go.Proofs.Ytdfcmkmdioddnaa.P
set_option linter.unusedVariables false

/-- What is made of texts: a set or none, its list, why there is none. -/
structure SetOk (l : List ByteArray) (x : Option SetD) (w : List ByteArray) (e : Int) : Prop where
  hn : pats_New.f l = some (x, e)
  hw : newB l = (w, e)
  hL : setL x = w
  hM : setM x = minB w
  mem : ∀ s ∈ w, s ∈ l
  len : w.length ≤ l.length
  few : w.length ≤ 65535
  size : ∀ s ∈ w, s.size ≤ 65535
  up : upB w
  pos : ∀ s ∈ w, 0 < s.size
  nodup : w.Nodup
  kind : (e = 0 ∧ 0 < w.length ∧ x = some (setB l) ∧ w = sortB l ∧ w.length = l.length) ∨ (e ≠ 0 ∧ x = none ∧ w = [])
theorem chkB_pos {s : ByteArray} (h : chkB s = 0) : 0 < s.size ∧ s.size ≤ 65535 := by
  unfold chkB at h
  by_cases h1 : s.size = 0
  · rw [if_pos h1] at h; omega
  · rw [if_neg h1] at h
    by_cases h2 : s.size > 65535
    · rw [if_pos h2] at h; omega
    · omega
theorem set_ok (l : List ByteArray) : ∃ x w e, SetOk l x w e := by
  rcases new_cases l with ⟨e, he, hn, hw⟩ | ⟨hn, hw, hp, hl, hb, ht, hd⟩
  · exact ⟨none, [], e, hn, hw, rfl, rfl, by simp, by simp, by simp, by simp, List.Pairwise.nil, by simp, List.nodup_nil, .inr ⟨he, rfl, rfl⟩⟩
  · have hm := fun s => (sortB_perm l).mem_iff (a := s)
    have hlen := sortB_length l
    refine ⟨some (setB l), sortB l, 0, hn, hw, rfl, ?_, fun s hs => (hm s).1 hs, by omega, by omega, fun s hs => (chkB_pos ((badB_iff l).1 hb s ((hm s).1 hs))).2, sortB_up l, fun s hs => (chkB_pos ((badB_iff l).1 hb s ((hm s).1 hs))).1, ((sortB_perm l).nodup_iff).2 (nodup_of_tw hd), .inl ⟨rfl, by omega, rfl, rfl, by omega⟩⟩
    show ((minB l : Nat) : Int) = _
    rw [min_perm (sortB_perm l).symm hp]
theorem min_le {w : List ByteArray} : ∀ s ∈ w, minB w ≤ s.size := fun s hs => (min_spec w (List.length_pos_of_mem hs)).1 s hs
theorem list_ok {l w : List ByteArray} {x : Option SetD} {e : Int} (h : SetOk l x w e) : pats_Set_List.f x = some w := by
  rcases h.kind with ⟨_, _, rfl, rfl, _⟩ | ⟨_, rfl, rfl⟩
  · exact list_is l (by have := h.few; rw [sortB_length] at this; exact this)
  · rfl
theorem rnew_ok {l w : List ByteArray} {x : Option SetD} {e : Int} (h : SetOk l x w e) : Ev (fun k => juratref10_New.f k l) (w, e) := by
  have := rnew_ev l
  rw [h.hw] at this
  exact this

end Go.Proofs.Ytdfcmkmdioddnaa.Base

/- A byte's shift by its definition, and that the table of shifts and layer 13's reference tell it; no condition beyond the sizes that stand in each statement. -/
namespace Go.Proofs.Ytdfcmkmdioddnaa.Base
open Go Go.RowKit Go.Proofs.YtdfcmkmdioddnaaW.PrintWords Go.Proofs.YtdfcmkmdioddnaaW.PrintMore Go.Proofs.Ytdfcmkmdioddnaa.P
set_option linter.unusedVariables false

/-- The byte of a text at a distance from its end. -/
def byteAt (s : ByteArray) (d : Nat) : Nat := ((LL s).getD (s.size - 1 - d) 0).toNat
theorem byteAt_lt (s : ByteArray) (d : Nat) : byteAt s d < 256 := UInt8.toNat_lt _
theorem getD_set {T : List Int} {b c : Nat} {v : Int} (hb : b < T.length) : (T.set b v).getD c 0 = if b = c then v else T.getD c 0 := by
  rw [List.getD_eq_getElem?_getD, List.getD_eq_getElem?_getD, List.getElem?_set]
  by_cases h : b = c
  · subst h; rw [if_pos rfl, if_pos hb, if_pos rfl]; rfl
  · rw [if_neg h, if_neg h]
/-- What is known of one byte's shift, of the pairs that were seen. -/
def ShInv (m c : Nat) (seen : ByteArray → Nat → Prop) (T : List Int) : Prop :=
  T.length = 256 ∧ 0 ≤ T.getD c 0 ∧ T.getD c 0 ≤ m ∧ (∀ s d, seen s d → byteAt s d = c → T.getD c 0 ≤ (d : Int)) ∧ (T.getD c 0 = m ∨ ∃ s d, seen s d ∧ byteAt s d = c ∧ T.getD c 0 = (d : Int))
theorem shInv_put {m c : Nat} {seen : ByteArray → Nat → Prop} {T : List Int} (h : ShInv m c seen T) (s : ByteArray) (d : Nat) : ShInv m c (fun s' d' => seen s' d' ∨ s' = s ∧ d' = d) (shPut s T d) := by
  obtain ⟨h1, h2, h3, h4, h5⟩ := h
  have e : (shPut s T d).getD c 0 = if byteAt s d = c then min (T.getD c 0) (d : Int) else T.getD c 0 := by
    unfold shPut
    rw [getD_set (by rw [h1]; exact UInt8.toNat_lt _)]
    by_cases hc : byteAt s d = c
    · have hc' : ((LL s).getD (s.size - 1 - d) 0).toNat = c := hc
      rw [if_pos hc, if_pos hc', hc']
    · have hc' : ¬ ((LL s).getD (s.size - 1 - d) 0).toNat = c := hc
      rw [if_neg hc, if_neg hc']
  refine ⟨by rw [shPut_length]; exact h1, ?_, ?_, ?_, ?_⟩ <;> rw [e]
  · split <;> omega
  · split <;> omega
  · rintro s' d' (hs | ⟨rfl, rfl⟩) hb
    · have := h4 s' d' hs hb
      split <;> omega
    · rw [if_pos hb]; omega
  · by_cases hc : byteAt s d = c
    · rw [if_pos hc]
      by_cases hd : T.getD c 0 ≤ (d : Int)
      · rw [show min (T.getD c 0) (d : Int) = T.getD c 0 by omega]
        rcases h5 with h5 | ⟨s', d', a, b, h5⟩
        · exact .inl h5
        · exact .inr ⟨s', d', .inl a, b, h5⟩
      · exact .inr ⟨s, d, .inr ⟨rfl, rfl⟩, hc, by omega⟩
    · rw [if_neg hc]
      rcases h5 with h5 | ⟨s', d', a, b, h5⟩
      · exact .inl h5
      · exact .inr ⟨s', d', .inl a, b, h5⟩
theorem shInv_imp {m c : Nat} {seen seen' : ByteArray → Nat → Prop} {T : List Int} (h : ShInv m c seen T) (hi : ∀ s d, seen s d ↔ seen' s d) : ShInv m c seen' T := by
  have : seen = seen' := by funext s d; exact propext (hi s d)
  rw [← this]; exact h
theorem shInv_row {m c : Nat} {seen : ByteArray → Nat → Prop} {T : List Int} (h : ShInv m c seen T) (s : ByteArray) : ∀ n, ShInv m c (fun s' d' => seen s' d' ∨ s' = s ∧ d' < n) ((List.range n).foldl (shPut s) T)
  | 0 => shInv_imp h (fun s' d' => by simp)
  | n + 1 => by
    rw [List.range_succ, List.foldl_append]
    refine shInv_imp (shInv_put (shInv_row h s n) s n) (fun s' d' => ?_)
    constructor
    · rintro ((h | ⟨h1, h2⟩) | ⟨h1, h2⟩)
      · exact .inl h
      · exact .inr ⟨h1, by omega⟩
      · exact .inr ⟨h1, by omega⟩
    · rintro (h | ⟨h1, h2⟩)
      · exact .inl (.inl h)
      · by_cases h3 : d' = n
        · exact .inr ⟨h1, h3⟩
        · exact .inl (.inr ⟨h1, by omega⟩)
theorem shInv_fold {m c : Nat} : ∀ (l : List ByteArray) (seen : ByteArray → Nat → Prop) (T : List Int), ShInv m c seen T → ShInv m c (fun s' d' => seen s' d' ∨ s' ∈ l ∧ d' < m) (l.foldl (shRow m) T)
  | [], seen, T, h => shInv_imp h (fun s' d' => by simp)
  | s :: l, seen, T, h => by
    refine shInv_imp (shInv_fold l _ _ (shInv_row h s m)) (fun s' d' => ?_)
    rw [List.mem_cons]
    constructor
    · rintro ((h | ⟨rfl, h2⟩) | ⟨h1, h2⟩)
      · exact .inl h
      · exact .inr ⟨.inl rfl, h2⟩
      · exact .inr ⟨.inr h1, h2⟩
    · rintro (h | ⟨rfl | h1, h2⟩)
      · exact .inl (.inl h)
      · exact .inl (.inr ⟨rfl, h2⟩)
      · exact .inr ⟨h1, h2⟩
/-- A byte's shift. -/
def shB (w : List ByteArray) (c : Nat) : Int := (shTab (minB w) w).getD c 0
theorem shB_spec (w : List ByteArray) {c : Nat} (hc : c < 256) : 0 ≤ shB w c ∧ shB w c ≤ minB w ∧ (∀ s ∈ w, ∀ d, d < minB w → byteAt s d = c → shB w c ≤ (d : Int)) ∧ (shB w c = minB w ∨ ∃ s ∈ w, ∃ d, d < minB w ∧ byteAt s d = c ∧ shB w c = (d : Int)) := by
  have e : (List.replicate 256 (minB w : Int)).getD c 0 = minB w := by rw [List.getD_eq_getElem?_getD, List.getElem?_replicate, if_pos hc]; rfl
  have h : ShInv (minB w) c (fun _ _ => False) (List.replicate 256 (minB w : Int)) := ⟨List.length_replicate, by rw [e]; omega, by rw [e]; exact Int.le_refl _, fun _ _ h => h.elim, .inl e⟩
  obtain ⟨h1, h2, h3, h4, h5⟩ := shInv_fold w _ _ h
  refine ⟨h2, h3, fun s hs d hd hb => h4 s d (.inr ⟨hs, hd⟩) hb, ?_⟩
  rcases h5 with h5 | ⟨s, d, a | ⟨a, a'⟩, b, h5⟩
  · exact .inl h5
  · exact a.elim
  · exact .inr ⟨s, a, d, a', b, h5⟩

/-- Has a pattern a byte at a distance? -/
def hasB (l : List ByteArray) (c d : Nat) : Bool := l.any fun s => decide (d < s.size ∧ byteAt s d = c)
theorem bt_byteAt {s : ByteArray} {d : Nat} (h : d < s.size) : bt s ((s.size : Int) - 1 - d) = (byteAt s d : Int) := by
  rw [bt_eq]; unfold byteAt; congr 3; omega
theorem rhas_l0 (l : List ByteArray) (hl : l.length ≤ 9223372036854775806) (hs : ∀ s ∈ l, s.size ≤ 9223372036854775806) (c d : Nat) : ∀ (f i : Nat), i + f = l.length →
    Ev (fun k => juratref13_Has.l0 k l (c : Int) (d : Int) (i : Int)) (hasB (l.drop i) c d) := by
  intro f
  induction f with
  | zero =>
    intro i hi
    refine Ev.ret fun k => ?_
    simp only [juratref13_Has.l0]
    rw [if_neg (by omega), List.drop_of_length_le (by omega)]
    rfl
  | succ f ih =>
    intro i hi
    have hd := getD_drop l i ByteArray.empty (by omega)
    have hz := hs _ (getD_mem l i ByteArray.empty (by omega))
    have e : rdOf ByteArray.empty l (i : Int) = l.getD i ByteArray.empty := rfl
    have e2 : hasB (l.drop i) c d = (decide (d < (l.getD i ByteArray.empty).size ∧ byteAt (l.getD i ByteArray.empty) d = c) || hasB (l.drop (i + 1)) c d) := by rw [hd]; rfl
    rw [e2]
    have step : Ev (fun k => juratref13_Has.l0 k l (c : Int) (d : Int) (wrap64 ((i : Int) + 1))) (hasB (l.drop (i + 1)) c d) := by
      rw [wrap_id (by omega) (by omega)]
      exact ih (i + 1) (by omega)
    generalize l.getD i ByteArray.empty = s at e hz
    by_cases h1 : d < s.size
    · have hb := bt_byteAt h1
      by_cases h2 : byteAt s d = c
      · rw [decide_eq_true ⟨h1, h2⟩, Bool.true_or]
        refine Ev.ret fun k => ?_
        simp only [juratref13_Has.l0]
        rw [if_pos (by omega), if_pos (by omega), e, wrap_id (x := (s.size : Int) - 1) (by omega) (by omega), wrap_id (by omega) (by omega), if_pos (by omega), if_pos (by omega), if_pos (by omega), hb, if_pos (by omega)]
      · rw [decide_eq_false (fun h => h2 h.2), Bool.false_or]
        refine Ev.step (fun k => ?_) step
        simp only [juratref13_Has.l0]
        rw [if_pos (by omega), if_pos (by omega), e, wrap_id (x := (s.size : Int) - 1) (by omega) (by omega), wrap_id (x := (s.size : Int) - 1 - d) (by omega) (by omega), if_pos (by omega), if_pos (by omega), if_pos (by omega), hb, if_neg (by omega)]
    · rw [decide_eq_false (fun h => h1 h.1), Bool.false_or]
      refine Ev.step (fun k => ?_) step
      simp only [juratref13_Has.l0]
      rw [if_pos (by omega), if_pos (by omega), e, if_neg (by omega)]
theorem rhas_ev (l : List ByteArray) (hl : l.length ≤ 9223372036854775806) (hs : ∀ s ∈ l, s.size ≤ 9223372036854775806) (c d : Nat) : Ev (fun k => juratref13_Has.f k l (c : Int) (d : Int)) (hasB l c d) := rhas_l0 l hl hs c d l.length 0 (by omega)
theorem hasB_iff {l : List ByteArray} {c d : Nat} : hasB l c d = true ↔ ∃ s ∈ l, d < s.size ∧ byteAt s d = c := by
  unfold hasB; rw [List.any_eq_true]; simp
theorem rfirst_l0 (w : List ByteArray) (hl : w.length ≤ 65535) (hs : ∀ s ∈ w, s.size ≤ 65535) {c : Nat} (hc : c < 256) : ∀ (f i : Nat), i + f = minB w → (∀ d, d < i → hasB w c d = false) →
    Ev (fun k => juratref13_First.l0 k w (c : Int) (minB w : Int) (i : Int)) (shB w c) := by
  obtain ⟨h1, h2, h3, h4⟩ := shB_spec w hc
  have hmin := fun s hs => min_le (w := w) s hs
  intro f
  induction f with
  | zero =>
    intro i hi hno
    refine Ev.ret fun k => ?_
    simp only [juratref13_First.l0]
    rw [if_neg (by omega)]
    rcases h4 with h4 | ⟨s, hs, d, hd, hb, h4⟩
    · rw [h4]
    · have := hno d (by omega)
      rw [hasB_iff.2 ⟨s, hs, by have := hmin s hs; omega, hb⟩] at this
      cases this
  | succ f ih =>
    intro i hi hno
    refine Ev.step (f := fun k => (juratref13_Has.f k w (c : Int) (i : Int)).bind fun t => (if t = true then (some (i : Int)) else (juratref13_First.l0 k w (c : Int) (minB w : Int) (wrap64 ((i : Int) + 1))))) (fun k => ?_) ?_
    · simp only [juratref13_First.l0]
      rw [if_pos (by omega)]
    refine Ev.bind (rhas_ev w (by omega) (fun s h => by have := hs s h; omega) c i) ?_
    cases hh : hasB w c i with
    | true =>
      refine Ev.congr (fun k => if_pos rfl) ?_
      obtain ⟨s, hs, hd, hb⟩ := hasB_iff.1 hh
      have hle := h3 s hs i (by omega) hb
      have : shB w c = i := by
        rcases h4 with h4 | ⟨s', hs', d, hd', hb', h4⟩
        · omega
        · by_cases hlt : d < i
          · have := hno d hlt
            rw [hasB_iff.2 ⟨s', hs', by have := hmin s' hs'; omega, hb'⟩] at this
            cases this
          · omega
      rw [this]
      exact Ev.now _
    | false =>
      refine Ev.congr (fun k => if_neg (by simp)) ?_
      have hm : minB w ≤ 65535 := by
        cases w with
        | nil => simp [minB, leastB] at hi
        | cons s w => have := hmin s List.mem_cons_self; have := hs s List.mem_cons_self; omega
      rw [wrap_id (by omega) (by omega)]
      refine ih (i + 1) (by omega) (fun d hd => ?_)
      by_cases h : d = i
      · rw [h]; exact hh
      · exact hno d (by omega)
theorem rfirst_ev (w : List ByteArray) (hl : w.length ≤ 65535) (hs : ∀ s ∈ w, s.size ≤ 65535) {c : Nat} (hc : c < 256) : Ev (fun k => juratref13_First.f k w (c : Int)) (shB w c) := by
  unfold juratref13_First.f
  exact Ev.bind (rleast_ev w (by omega)) (rfirst_l0 w hl hs hc (minB w) 0 (by omega) (fun d hd => by omega))
theorem shift_ok {l w : List ByteArray} {x : Option SetD} {e : Int} (h : SetOk l x w e) : shift_New.f x = some (some ⟨shTab (minB w) w, minB w⟩) := by
  unfold shift_New.f
  rw [h.hL, h.hM, if_pos ⟨by omega, by have := h.few; omega, fun s hs => ⟨by have := min_le s hs; omega, by have := h.size s hs; omega⟩⟩, Int.toNat_natCast]
theorem sfirst_ok (w : List ByteArray) {c : Nat} (hc : c < 256) : shift_Table_First.f (some ⟨shTab (minB w) w, minB w⟩) (c : Int) = some (shB w c) := by
  show (if 0 ≤ (c : Int) ∧ (c : Int) ≤ 255 then some ((shTab (minB w) w).getD (c : Int).toNat 0) else none) = _
  rw [if_pos ⟨by omega, by omega⟩, Int.toNat_natCast]
  rfl

end Go.Proofs.Ytdfcmkmdioddnaa.Base

/- Whether two lists of numbers are the same; no condition beyond the sizes that stand in each statement. -/
namespace Go.Proofs.Ytdfcmkmdioddnaa.Base
open Go Go.RowKit Go.Proofs.YtdfcmkmdioddnaaW.PrintWords Go.Proofs.YtdfcmkmdioddnaaW.PrintMore Go.Proofs.Ytdfcmkmdioddnaa.P

/-! the same numbers -/
theorem same1_l0 (a b : List Int) (he : a.length = b.length) (hm : a.length ≤ 9223372036854775807) : ∀ (d i : Nat), i + d = a.length →
    Ev (fun k => juratref01_Same.l0 k a b (i : Int)) (decide (a.drop i = b.drop i)) := by
  intro d
  induction d with
  | zero =>
    intro i hi
    refine Ev.ret fun k => ?_
    simp only [juratref01_Same.l0]
    rw [if_neg (by omega), List.drop_of_length_le (by omega), List.drop_of_length_le (by omega)]
    rfl
  | succ d ih =>
    intro i hi
    by_cases h : rd a (i : Int) = rd b (i : Int)
    · refine Ev.step (f := fun k => juratref01_Same.l0 k a b ((i + 1 : Nat) : Int)) (fun k => ?_) ?_
      · simp only [juratref01_Same.l0]
        rw [if_pos (by omega), if_pos (by omega), if_pos (by omega), if_pos h, wrap_id (by omega) (by omega)]
        rfl
      · have e : decide (a.drop i = b.drop i) = decide (a.drop (i + 1) = b.drop (i + 1)) := by
          rw [getD_drop a i 0 (by omega), getD_drop b i 0 (by omega)]
          have h' : a.getD i 0 = b.getD i 0 := h
          rw [h']
          simp
        rw [e]
        exact ih (i + 1) (by omega)
    · refine Ev.ret fun k => ?_
      simp only [juratref01_Same.l0]
      rw [if_pos (by omega), if_pos (by omega), if_pos (by omega), if_neg h]
      rw [getD_drop a i 0 (by omega), getD_drop b i 0 (by omega)]
      have h' : ¬ a.getD i 0 = b.getD i 0 := h
      rw [decide_eq_false (fun e => h' (List.cons.inj e).1)]
theorem same1 (a b : List Int) (hm : a.length ≤ 9223372036854775807) : Ev (fun k => juratref01_Same.f k a b) (decide (a = b)) := by
  by_cases he : a.length = b.length
  · have h := same1_l0 a b he hm a.length 0 (by omega)
    rw [List.drop_zero, List.drop_zero] at h
    refine Ev.congr (fun k => ?_) h
    unfold juratref01_Same.f
    rw [if_pos (by omega)]
    rfl
  · rw [decide_eq_false (fun e => he (by rw [e]))]
    refine Ev.const fun k => ?_
    unfold juratref01_Same.f
    rw [if_neg (by omega)]

end Go.Proofs.Ytdfcmkmdioddnaa.Base

/- Layer 13's examples; no condition. -/
namespace Go.Proofs.Ytdfcmkmdioddnaa.Base
open Go Go.RowKit Go.Proofs.YtdfcmkmdioddnaaW.PrintWords Go.Proofs.YtdfcmkmdioddnaaW.PrintMore Go.Proofs.Ytdfcmkmdioddnaa.P
set_option linter.unusedVariables false

theorem new13 : pats_New.f [(⟨#[97, 98, 99]⟩ : ByteArray), (⟨#[98, 99]⟩ : ByteArray)] = some (some ⟨[(⟨#[97, 98, 99]⟩ : ByteArray), (⟨#[98, 99]⟩ : ByteArray)], 2, 3, 5⟩, 0) := by
  have hs : sortB [(⟨#[97, 98, 99]⟩ : ByteArray), (⟨#[98, 99]⟩ : ByteArray)] = [(⟨#[97, 98, 99]⟩ : ByteArray), (⟨#[98, 99]⟩ : ByteArray)] := (sortB_of (List.Perm.refl _) (by decide)).symm
  unfold pats_New.f
  rw [hs]
  rfl
abbrev tab13 : List Int := shTab 2 [(⟨#[97, 98, 99]⟩ : ByteArray), (⟨#[98, 99]⟩ : ByteArray)]
theorem shift13 : shift_New.f (some ⟨[(⟨#[97, 98, 99]⟩ : ByteArray), (⟨#[98, 99]⟩ : ByteArray)], 2, 3, 5⟩) = some (some ⟨tab13, 2⟩) := by
  unfold shift_New.f
  rw [if_pos ⟨by decide, by decide, fun s hs => by
    simp only [setL, List.mem_cons, List.not_mem_nil, or_false] at hs
    rcases hs with rfl | rfl <;> decide⟩]
  rfl
theorem first13 (c : Int) (v : Int) (h : 0 ≤ c ∧ c ≤ 255) (hv : tab13.getD c.toNat 0 = v) : shift_Table_First.f (some ⟨tab13, 2⟩) c = some v := by
  simp only [shift_Table_First.f]
  rw [if_pos h, hv]
theorem ends13 : shift_Table_Ends.f (some ⟨tab13, 2⟩) (⟨#[120, 97, 98, 99, 120]⟩ : ByteArray) = some [4] := by
  simp only [shift_Table_Ends.f]
  rw [if_neg (by decide), if_pos ⟨by decide, by decide, by decide +kernel, by decide⟩]
  exact congrArg some (by decide +kernel)
theorem awake13 : Ev (fun k => juratlaw13_awake.f k) true := by
  unfold juratlaw13_awake.f
  refine Ev.bind (Ev.const fun _ => new13) (Ev.bind (Ev.const fun _ => shift13) ?_)
  refine Ev.congr (fun k => if_pos rfl) ?_
  refine Ev.bind (Ev.const fun _ => first13 99 0 (by decide) (by decide +kernel)) (Ev.congr (fun k => if_pos rfl) ?_)
  refine Ev.bind (Ev.const fun _ => first13 98 1 (by decide) (by decide +kernel)) (Ev.congr (fun k => if_pos rfl) ?_)
  refine Ev.bind (Ev.const fun _ => first13 97 2 (by decide) (by decide +kernel)) (Ev.congr (fun k => if_pos rfl) ?_)
  refine Ev.bind (Ev.const fun _ => first13 120 2 (by decide) (by decide +kernel)) (Ev.congr (fun k => if_pos rfl) ?_)
  refine Ev.bind (Ev.const fun _ => ends13) ?_
  have s1 := same1 [4] [4] (by simp)
  rw [decide_eq_true rfl] at s1
  exact Ev.bind s1 (Ev.now true)
theorem wf8 {x : Int} (h : (Lit.int .u8 x).wf = true) : 0 ≤ x ∧ x ≤ 255 := by
  simp [Lit.wf, IntKind.min, IntKind.max, IntKind.signed, IntKind.bits] at h
  omega

end Go.Proofs.Ytdfcmkmdioddnaa.Base

/- Where a text stands in another one, as layer 8's reference finds it; no condition beyond the sizes that stand in each statement. -/
namespace Go.Proofs.Ytdfcmkmdioddnaa.Base
open Go Go.RowKit Go.Proofs.YtdfcmkmdioddnaaW.PrintWords Go.Proofs.YtdfcmkmdioddnaaW.PrintMore Go.Proofs.Ytdfcmkmdioddnaa.P
set_option linter.unusedVariables false

/-- Does a text stand at a place? -/
def stands (s t : ByteArray) (p : Nat) : Prop := p + t.size ≤ s.size ∧ ((LL s).drop p).take t.size = LL t
instance (s t : ByteArray) (p : Nat) : Decidable (stands s t p) := inferInstanceAs (Decidable (_ ∧ _))
/-- The places from one on. -/
def occF (s t : ByteArray) : Nat → Nat → List Int
  | 0, _ => []
  | d + 1, i => if i + t.size ≤ s.size ∧ t.size ≠ 0 then (if stands s t i then (i : Int) :: occF s t d (i + 1) else occF s t d (i + 1)) else []
def occB (s t : ByteArray) : List Int := occF s t (s.size + 2) 0
theorem stands_extract {s t : ByteArray} {i : Nat} (h : i + t.size ≤ s.size) : (s.extract i (i + t.size)).toList = t.toList ↔ stands s t i := by
  rw [toList_iff, LL_iff, LL_extract, List.drop_take, Nat.add_sub_cancel_left]
  exact ⟨fun e => ⟨h, e⟩, fun e => e.2⟩
theorem occF_length (s t : ByteArray) : ∀ d i, (occF s t d i).length ≤ d
  | 0, _ => Nat.le_refl _
  | d + 1, i => by
    have := occF_length s t d (i + 1)
    simp only [occF]
    split
    · split
      · rw [List.length_cons]; omega
      · omega
    · simp
theorem occF_mem (s t : ByteArray) (q : Int) : ∀ d i, s.size < i + d → (q ∈ occF s t d i ↔ ∃ p : Nat, q = p ∧ i ≤ p ∧ t.size ≠ 0 ∧ stands s t p)
  | 0, i, h => by
    simp only [occF, List.not_mem_nil, false_iff]
    rintro ⟨p, _, h1, _, h2, _⟩
    omega
  | d + 1, i, h => by
    have ih := occF_mem s t q d (i + 1) (by omega)
    simp only [occF]
    by_cases h1 : i + t.size ≤ s.size ∧ t.size ≠ 0
    · rw [if_pos h1]
      by_cases h2 : stands s t i
      · rw [if_pos h2, List.mem_cons, ih]
        constructor
        · rintro (rfl | ⟨p, rfl, h3, h4, h5⟩)
          · exact ⟨i, rfl, Nat.le_refl _, h1.2, h2⟩
          · exact ⟨p, rfl, by omega, h4, h5⟩
        · rintro ⟨p, rfl, h3, h4, h5⟩
          by_cases h6 : p = i
          · exact .inl (by rw [h6])
          · exact .inr ⟨p, rfl, by omega, h4, h5⟩
      · rw [if_neg h2, ih]
        constructor
        · rintro ⟨p, rfl, h3, h4, h5⟩
          exact ⟨p, rfl, by omega, h4, h5⟩
        · rintro ⟨p, rfl, h3, h4, h5⟩
          refine ⟨p, rfl, ?_, h4, h5⟩
          by_cases h6 : p = i
          · subst h6; exact absurd h5 h2
          · omega
    · rw [if_neg h1]
      simp only [List.not_mem_nil, false_iff]
      rintro ⟨p, _, h3, h4, h5, _⟩
      exact h1 ⟨by omega, h4⟩
theorem occB_mem (s t : ByteArray) (q : Int) : q ∈ occB s t ↔ ∃ p : Nat, q = p ∧ t.size ≠ 0 ∧ stands s t p := by
  unfold occB
  rw [occF_mem s t q _ 0 (by omega)]
  exact ⟨fun ⟨p, h1, _, h2⟩ => ⟨p, h1, h2⟩, fun ⟨p, h1, h2⟩ => ⟨p, h1, Nat.zero_le _, h2⟩⟩
theorem occB_length (s t : ByteArray) : (occB s t).length ≤ s.size + 2 := occF_length s t _ _
theorem rocc_l0 (s t : ByteArray) (hs : s.size ≤ 1099511627776) (ht : t.size ≤ 1099511627776) : ∀ (d i : Nat) (out : List Int), i ≤ s.size + 1 → s.size + 1 < i + d → out.length ≤ i →
    Ev (fun k => juratref08_Find.l0 k s t out (i : Int)) (out ++ occF s t d i) := by
  intro d
  induction d with
  | zero => intro i out h0 h1 h2; omega
  | succ d ih =>
    intro i out h0 h1 h2
    have w1 : wrap64 ((i : Int) + (t.size : Int)) = ((i + t.size : Nat) : Int) := by rw [wrap_id (by omega) (by omega)]; rfl
    simp only [occF]
    by_cases h3 : i + t.size ≤ s.size ∧ t.size ≠ 0
    · rw [if_pos h3]
      have e : (t.toList != ([] : List UInt8)) = true := by rw [bne_iff_ne]; exact fun e => h3.2 (toList_nil.1 e)
      by_cases h4 : stands s t i
      · rw [if_pos h4]
        have := ih (i + 1) (out ++ [(i : Int)]) (by omega) (by omega) (by simp; omega)
        rw [List.append_assoc] at this
        refine Ev.step (f := fun k => juratref08_Find.j1 k s t out (i : Int) true) (fun k => ?_) (Ev.step (fun k => ?_) this)
        · simp only [juratref08_Find.l0, w1]
          rw [if_pos (by omega), e]
        · simp only [juratref08_Find.j1, w1]
          rw [if_pos trivial, if_pos (by omega), if_pos (by omega), if_pos (by omega), Int.toNat_natCast, Int.toNat_natCast, if_pos ((stands_extract h3.1).2 h4), if_pos (by omega), wrap_id (by omega) (by omega)]
          rfl
      · rw [if_neg h4]
        refine Ev.step (f := fun k => juratref08_Find.j1 k s t out (i : Int) true) (fun k => ?_) (Ev.step (fun k => ?_) (ih (i + 1) out (by omega) (by omega) (by omega)))
        · simp only [juratref08_Find.l0, w1]
          rw [if_pos (by omega), e]
        · simp only [juratref08_Find.j1, w1]
          rw [if_pos trivial, if_pos (by omega), if_pos (by omega), if_pos (by omega), Int.toNat_natCast, Int.toNat_natCast, if_neg (fun x => h4 ((stands_extract h3.1).1 x)), wrap_id (by omega) (by omega)]
          rfl
    · rw [if_neg h3, List.append_nil]
      refine Ev.step (f := fun k => juratref08_Find.j1 k s t out (i : Int) false) (fun k => ?_) (Ev.ret fun k => ?_)
      · simp only [juratref08_Find.l0, w1]
        by_cases h5 : i + t.size ≤ s.size
        · have e : (t.toList != ([] : List UInt8)) = false := by
            rw [bne_eq_false_iff_eq]
            exact toList_nil.2 (Classical.not_not.1 fun h => h3 ⟨h5, h⟩)
          rw [if_pos (by omega), e]
        · rw [if_neg (by omega)]
      · simp only [juratref08_Find.j1]
        rw [if_neg (by simp)]
theorem rocc_ev (s t : ByteArray) (hs : s.size ≤ 1099511627776) (ht : t.size ≤ 1099511627776) : Ev (fun k => juratref08_Find.f k s t) (occB s t) := by
  have h := rocc_l0 s t hs ht (s.size + 2) 0 [] (by omega) (by omega) (by simp)
  rw [List.nil_append] at h
  exact h

end Go.Proofs.Ytdfcmkmdioddnaa.Base

/- Proved: for all texts, every text and every number the law ShiftClears of layer 13 answers true. No condition beyond the statement's own. -/
namespace Go.Proofs.Ytdfcmkmdioddnaa.Pure
open Go Go.RowKit Go.Proofs.Ytdfcmkmdioddnaa.P Go.Proofs.YtdfcmkmdioddnaaW.PrintWords Go.Proofs.YtdfcmkmdioddnaaW.PrintLast Go.Proofs.Ytdfcmkmdioddnaa.Base
set_option linter.unusedVariables false

/-- Where a text stands, its last bytes are those of the other one. -/
theorem stands_byte {s t : ByteArray} {p d : Nat} (h : stands s t p) (hd : d < t.size) : byteAt t d = ((LL s).getD (p + t.size - 1 - d) 0).toNat := by
  unfold byteAt
  rw [← h.2, List.getD_eq_getElem?_getD, List.getD_eq_getElem?_getD, List.getElem?_take_of_lt (by omega), List.getElem?_drop]
  congr 3
  congr 1
  omega
/-- No pattern ends where a byte's shift says so. -/
theorem clears_pat {w : List ByteArray} {s t : ByteArray} {p e : Nat} (ht : t ∈ w) (h : stands s t p) (h0 : 0 < e) (h1 : e ≤ p + t.size) (h2 : (p + t.size : Nat) < (e : Int) + shB w ((LL s).getD (e - 1) 0).toNat) : False := by
  obtain ⟨a1, a2, a3, a4⟩ := shB_spec w (c := ((LL s).getD (e - 1) 0).toNat) (UInt8.toNat_lt _)
  have hm := min_le t ht
  have hd : p + t.size - e < minB w := by omega
  have := a3 t ht (p + t.size - e) hd (by
    rw [stands_byte h (by omega)]
    congr 2
    omega)
  omega
theorem clears_l1 (s : ByteArray) (w : List ByteArray) (hs : s.size ≤ 100) (hw : w.length ≤ 65535) (hz : ∀ t ∈ w, t.size ≤ 65535) (e : Nat) (h0 : 0 < e) (h1 : e ≤ s.size) (i : Nat) (hi : i < w.length) :
    ∀ (f j : Nat), j + f = (occB s (w.getD i ByteArray.empty)).length → Ev (fun k => juratlaw13_ShiftClears.l0 k s (e : Int) w (shB w ((LL s).getD (e - 1) 0).toNat) ((i + 1 : Nat) : Int)) true →
    Ev (fun k => juratlaw13_ShiftClears.l1 k s (e : Int) w (shB w ((LL s).getD (e - 1) 0).toNat) (i : Int) (occB s (w.getD i ByteArray.empty)) (j : Int)) true := by
  have ht := getD_mem w i ByteArray.empty hi
  have htz := hz _ ht
  have e1 : rdOf ByteArray.empty w (i : Int) = w.getD i ByteArray.empty := rfl
  obtain ⟨a1, a2, _, _⟩ := shB_spec w (c := ((LL s).getD (e - 1) 0).toNat) (UInt8.toNat_lt _)
  have hm := min_le _ ht
  have hmem := occB_mem s (w.getD i ByteArray.empty)
  have hlen := occB_length s (w.getD i ByteArray.empty)
  generalize hO : occB s (w.getD i ByteArray.empty) = O at *
  intro f
  induction f with
  | zero =>
    intro j hj hnext
    refine Ev.step (fun k => ?_) hnext
    simp only [juratlaw13_ShiftClears.l1]
    rw [if_neg (by omega), wrap_id (by omega) (by omega)]
    rfl
  | succ f ih =>
    intro j hj hnext
    obtain ⟨p, hp, _, hst⟩ := (hmem _).1 (getD_mem O j 0 (by omega))
    have hrd : rd O (j : Int) = (p : Int) := by unfold rd; rw [Int.toNat_natCast]; exact hp
    have hps := hst.1
    refine Ev.step (fun k => ?_) (ih (j + 1) (by omega) hnext)
    simp only [juratlaw13_ShiftClears.l1]
    rw [if_pos (by omega), if_pos (by omega), if_pos (by omega), if_pos (by omega), e1, hrd, wrap_id (x := (p : Int) + _) (by omega) (by omega), wrap_id (x := (j : Int) + 1) (by omega) (by omega)]
    by_cases h2 : (p : Int) + ((w.getD i ByteArray.empty).size : Int) ≥ (e : Int)
    · rw [if_pos h2, wrap_id (by omega) (by omega), if_neg (fun h3 => clears_pat ht hst h0 (by omega) (by omega))]
      rfl
    · rw [if_neg h2]
      rfl
theorem clears_l0 (s : ByteArray) (w : List ByteArray) (hs : s.size ≤ 100) (hw : w.length ≤ 65535) (hz : ∀ t ∈ w, t.size ≤ 65535) (e : Nat) (h0 : 0 < e) (h1 : e ≤ s.size) : ∀ (f i : Nat), i + f = w.length →
    Ev (fun k => juratlaw13_ShiftClears.l0 k s (e : Int) w (shB w ((LL s).getD (e - 1) 0).toNat) (i : Int)) true := by
  intro f
  induction f with
  | zero =>
    intro i hi
    refine Ev.step (f := fun k => (juratlaw13_awake.f k).bind fun t => some t) (fun k => ?_) (Ev.bind awake13 (Ev.now true))
    simp only [juratlaw13_ShiftClears.l0]
    rw [if_neg (by omega)]
  | succ f ih =>
    intro i hi
    have e1 : rdOf ByteArray.empty w (i : Int) = w.getD i ByteArray.empty := rfl
    refine Ev.step (f := fun k => (juratref08_Find.f k s (w.getD i ByteArray.empty)).bind fun t240 => (juratlaw13_ShiftClears.l1 k s (e : Int) w (shB w ((LL s).getD (e - 1) 0).toNat) (i : Int) t240 ((0 : Nat) : Int))) (fun k => ?_) ?_
    · simp only [juratlaw13_ShiftClears.l0]
      rw [if_pos (by omega), if_pos (by omega), e1]
      rfl
    have hz1 := hz _ (getD_mem w i ByteArray.empty (by omega))
    refine Ev.bind (rocc_ev s (w.getD i ByteArray.empty) (by omega) (by omega)) ?_
    exact clears_l1 s w hs hw hz e h0 h1 i (by omega) (occB s (w.getD i ByteArray.empty)).length 0 (by omega) (ih (i + 1) (by omega))

theorem ShiftClears (l : List ByteArray) (s : ByteArray) (e : Int) (hl : l.length * 16 ≤ 140737488351232) (_ : ∀ x ∈ l, x.size ≤ maxLen) (_ : s.size ≤ 140737488351232) (he : (Lit.int .i64 e).wf = true) : ∃ k, juratlaw13_ShiftClears.f k l s e = some true := by
  have he' := wf64 he
  refine Ev.rounds ?_
  have big : Ev (fun k => juratlaw13_ShiftClears.j0 k l s e true) true := by
    refine Ev.step (f := fun k => (juratlaw13_awake.f k).bind fun t => some t) (fun k => ?_) (Ev.bind awake13 (Ev.now true))
    simp only [juratlaw13_ShiftClears.j0]
    rw [if_pos trivial]
  unfold juratlaw13_ShiftClears.f
  refine Ev.bind (few_ev l 20 50 (by omega)) ?_
  by_cases h1 : (decide ((l.length : Int) ≤ 20) && fewB l 50) = true
  rotate_left
  · exact Ev.congr (fun k => if_neg h1) big
  refine Ev.congr (fun k => if_pos h1) ?_
  by_cases h2 : (s.size : Int) > 100
  · exact Ev.congr (fun k => if_pos h2) big
  refine Ev.congr (fun k => if_neg h2) ?_
  by_cases h3 : e < 1
  · exact Ev.congr (fun k => if_pos h3) big
  refine Ev.congr (fun k => if_neg h3) ?_
  by_cases h4 : e > (s.size : Int)
  · exact Ev.congr (fun k => by rw [decide_eq_true h4]) big
  obtain ⟨e, rfl⟩ : ∃ n : Nat, e = n := ⟨e.toNat, by omega⟩
  obtain ⟨x, w, er, h⟩ := set_ok l
  obtain ⟨a1, a2, _, _⟩ := shB_spec w (c := ((LL s).getD (e - 1) 0).toNat) (UInt8.toNat_lt _)
  have hbt : bt s ((e : Int) - 1) = ((((LL s).getD (e - 1) 0).toNat : Nat) : Int) := by rw [bt_eq]; congr 3; omega
  refine Ev.step (f := fun k => (pats_New.f l).bind fun bt228 => ((juratref10_New.f k l).bind fun bt230 => ((shift_New.f bt228.1).bind fun t234 => ((shift_Table_First.f t234 (bt s ((e : Int) - 1))).bind fun t236 => ((juratref10_Least.f k bt230.1).bind fun t237 => (if t236 > t237 then (some false) else (juratlaw13_ShiftClears.l0 k s (e : Int) bt230.1 t236 ((0 : Nat) : Int)))))))) (fun k => ?_) ?_
  · rw [decide_eq_false h4]
    simp only [juratlaw13_ShiftClears.j0]
    rw [if_neg (by simp), wrap_id (by omega) (by omega)]
    simp only [if_pos (show 0 ≤ (e : Int) - 1 by omega), if_pos (show (e : Int) - 1 < (s.size : Int) by omega)]
    rfl
  refine Ev.bind (Ev.const fun _ => h.hn) (Ev.bind (rnew_ok h) (Ev.bind (Ev.const fun _ => shift_ok h) ?_))
  refine Ev.bind (Ev.const fun _ => by rw [hbt]; exact sfirst_ok w (UInt8.toNat_lt _)) (Ev.bind (rleast_ev w (by have := h.few; omega)) ?_)
  refine Ev.congr (fun k => if_neg (by omega)) ?_
  exact clears_l0 s w (by omega) h.few h.size e (by omega) (by omega) w.length 0 (by omega)

end Go.Proofs.Ytdfcmkmdioddnaa.Pure

/- Proved: for all texts and every text the law ShiftEnds of layer 13 answers true. No condition beyond the statement's own. -/
namespace Go.Proofs.Ytdfcmkmdioddnaa.Pure
open Go Go.RowKit Go.Proofs.Ytdfcmkmdioddnaa.P Go.Proofs.YtdfcmkmdioddnaaW.PrintWords Go.Proofs.YtdfcmkmdioddnaaW.PrintLast Go.Proofs.Ytdfcmkmdioddnaa.Base
set_option linter.unusedVariables false

/-- A byte's shift ahead of an end, as the table tells it. -/
abbrev tabB (w : List ByteArray) : List Int := shTab (minB w) w
theorem shAt_eq (w : List ByteArray) (s : ByteArray) (e : Nat) : (shAt (tabB w) s e : Int) = shB w ((LL s).getD (e - 1) 0).toNat := by
  obtain ⟨a1, _⟩ := shB_spec w (c := ((LL s).getD (e - 1) 0).toNat) (UInt8.toNat_lt _)
  unfold shAt
  show (((shB w ((LL s).getD (e - 1) 0).toNat)).toNat : Int) = _
  omega
theorem rends_l0 (w : List ByteArray) (s : ByteArray) (hs : s.size ≤ 100) (hw : w.length ≤ 65535) (hz : ∀ t ∈ w, t.size ≤ 65535) (hm : minB w ≤ 65535) : ∀ (f e : Nat) (out : List Int), s.size < e + f → 0 < e → e ≤ 131072 → out.length ≤ e →
    Ev (fun k => juratref13_Ends.l0 k w s out (e : Int)) (out ++ endsB (tabB w) s f e) := by
  intro f
  induction f with
  | zero =>
    intro e out he h0 h1 ho
    rw [show endsB (tabB w) s 0 e = [] from rfl, List.append_nil]
    refine Ev.step (f := fun k => juratref13_Ends.j1 k w s out (e : Int) false) (fun k => ?_) (Ev.ret fun k => ?_)
    · simp only [juratref13_Ends.l0]
      rw [if_pos (by omega), decide_eq_false (by omega)]
    · simp only [juratref13_Ends.j1]
      rw [if_neg (by simp)]
  | succ f ih =>
    intro e out he h0 h1 ho
    simp only [endsB]
    by_cases hle : e ≤ s.size
    · rw [if_pos hle]
      obtain ⟨a1, a2, _, _⟩ := shB_spec w (c := ((LL s).getD (e - 1) 0).toNat) (UInt8.toNat_lt _)
      have hsh := shAt_eq w s e
      have hbt : bt s ((e : Int) - 1) = ((((LL s).getD (e - 1) 0).toNat : Nat) : Int) := by rw [bt_eq]; congr 3; omega
      have hfi := rfirst_ev w hw hz (c := ((LL s).getD (e - 1) 0).toNat) (UInt8.toNat_lt _)
      rw [← hsh] at hfi a1 a2
      have hsa : shAt (tabB w) s e ≤ 65535 := by omega
      generalize shAt (tabB w) s e = n at hfi hsa ⊢
      refine Ev.step (f := fun k => juratref13_Ends.j1 k w s out (e : Int) true) (fun k => ?_) (Ev.step (f := fun k => (juratref13_First.f k w (((LL s).getD (e - 1) 0).toNat : Int)).bind fun t191 => (if t191 = 0 then (if out.length < 17592186044416 then (juratref13_Ends.l0 k w s (out ++ [(e : Int)]) (wrap64 ((e : Int) + 1))) else (none)) else (juratref13_Ends.l0 k w s out (wrap64 ((e : Int) + t191))))) (fun k => ?_) (Ev.bind hfi ?_))
      · simp only [juratref13_Ends.l0]
        rw [if_pos (by omega), decide_eq_true (by omega)]
      · simp only [juratref13_Ends.j1]
        rw [if_pos trivial, wrap_id (x := (e : Int) - 1) (by omega) (by omega), if_pos (by omega), if_pos (by omega), hbt]
      by_cases hn : n = 0
      · rw [if_pos hn]
        refine Ev.congr (fun k => if_pos (by omega)) (Ev.congr (fun k => if_pos (by omega)) ?_)
        have := ih (e + 1) (out ++ [(e : Int)]) (by omega) (by omega) (by omega) (by simp; omega)
        rw [List.append_assoc] at this
        rw [wrap_id (by omega) (by omega)]
        exact this
      · rw [if_neg hn]
        refine Ev.congr (fun k => if_neg (by omega)) ?_
        rw [wrap_id (by omega) (by omega)]
        exact ih (e + n) out (by omega) (by omega) (by omega) (by omega)
    · rw [if_neg hle, List.append_nil]
      refine Ev.step (f := fun k => juratref13_Ends.j1 k w s out (e : Int) false) (fun k => ?_) (Ev.ret fun k => ?_)
      · simp only [juratref13_Ends.l0]
        rw [if_pos (by omega), decide_eq_false (by omega)]
      · simp only [juratref13_Ends.j1]
        rw [if_neg (by simp)]
/-- The ends that are told of a list. -/
def endsW (w : List ByteArray) (s : ByteArray) : List Int := if minB w = 0 then [] else endsB (tabB w) s (s.size + 1) (minB w)
theorem rends_ev (w : List ByteArray) (s : ByteArray) (hs : s.size ≤ 100) (hw : w.length ≤ 65535) (hz : ∀ t ∈ w, t.size ≤ 65535) (hm : minB w ≤ 65535) : Ev (fun k => juratref13_Ends.f k w s) (endsW w s) := by
  unfold juratref13_Ends.f
  refine Ev.bind (rleast_ev w (by omega)) ?_
  unfold endsW
  by_cases h0 : minB w = 0
  · rw [if_pos h0, h0]
    refine Ev.step (f := fun k => juratref13_Ends.j1 k w s [] ((0 : Nat) : Int) false) (fun k => ?_) (Ev.ret fun k => ?_)
    · simp only [juratref13_Ends.l0]
      rw [if_neg (by omega)]
    · simp only [juratref13_Ends.j1]
      rw [if_neg (by simp)]
  · rw [if_neg h0]
    have := rends_l0 w s hs hw hz hm (s.size + 1) (minB w) [] (by omega) (by omega) (by omega) (by simp)
    rw [List.nil_append] at this
    exact this
theorem endsB_length (T : List Int) (s : ByteArray) : ∀ f e, (endsB T s f e).length ≤ f
  | 0, _ => Nat.le_refl _
  | f + 1, e => by
    have h1 := endsB_length T s f (e + 1)
    have h2 := endsB_length T s f (e + shAt T s e)
    simp only [endsB]
    split
    · split
      · rw [List.length_cons]; omega
      · omega
    · simp
theorem endsW_length (w : List ByteArray) (s : ByteArray) : (endsW w s).length ≤ s.size + 1 := by
  unfold endsW
  split
  · simp
  · exact endsB_length _ _ _ _
/-- Each end at which a pattern stands is told. -/
theorem ends_all {w : List ByteArray} {s t : ByteArray} {p : Nat} (ht : t ∈ w) (h : stands s t p) : ∀ f e, s.size < e + f → 0 < e → e ≤ p + t.size → ((p + t.size : Nat) : Int) ∈ endsB (tabB w) s f e
  | 0, e, h0, _, h1 => by have := h.1; omega
  | f + 1, e, h0, hp, h1 => by
    have hps := h.1
    simp only [endsB]
    rw [if_pos (by omega)]
    have hsh := shAt_eq w s e
    by_cases hz : shAt (tabB w) s e = 0
    · rw [if_pos hz]
      by_cases he : e = p + t.size
      · rw [he]; exact List.mem_cons_self
      · exact List.mem_cons_of_mem _ (ends_all ht h f (e + 1) (by omega) (by omega) (by omega))
    · rw [if_neg hz]
      refine ends_all ht h f _ (by omega) (by omega) ?_
      by_cases hlt : e + shAt (tabB w) s e ≤ p + t.size
      · exact hlt
      · exact (clears_pat ht h hp h1 (by rw [← hsh]; omega)).elim
theorem ends_in {w : List ByteArray} {s t : ByteArray} {p : Nat} (ht : t ∈ w) (htz : t.size ≠ 0) (h : stands s t p) (hpos : ∀ t ∈ w, 0 < t.size) : ((p + t.size : Nat) : Int) ∈ endsW w s := by
  have hm := min_le t ht
  have h0 : minB w ≠ 0 := by
    obtain ⟨_, u, hu, e⟩ := min_spec w (List.length_pos_of_mem ht)
    have := hpos u hu
    omega
  unfold endsW
  rw [if_neg h0]
  exact ends_all ht h _ _ (by omega) (by omega) (by omega)

theorem ends_l2 (s : ByteArray) (w : List ByteArray) (ends O : List Int) (i j : Nat) (hi : i < w.length) (hj : j < O.length) (v : Int) (hv : wrap64 (rd O (j : Int) + ((w.getD i ByteArray.empty).size : Int)) = v) (he : ends.length ≤ 1000)
    (hnext : Ev (fun k => juratlaw13_ShiftEnds.l1 k s w ends (i : Int) O (wrap64 ((j : Int) + 1))) true) : ∀ (f n : Nat) (b : Bool), n + f = ends.length → (b = true ∨ v ∈ ends.drop n) →
    Ev (fun k => juratlaw13_ShiftEnds.l2 k s w ends (i : Int) O (j : Int) b (n : Int)) true := by
  have e1 : rdOf ByteArray.empty w (i : Int) = w.getD i ByteArray.empty := rfl
  intro f
  induction f with
  | zero =>
    intro n b hn hb
    rw [List.drop_of_length_le (by omega)] at hb
    have hb : b = true := by rcases hb with h | h; exact h; cases h
    subst hb
    refine Ev.step (fun k => ?_) hnext
    simp only [juratlaw13_ShiftEnds.l2]
    rw [if_neg (by omega), if_pos trivial]
  | succ f ih =>
    intro n b hn hb
    cases b with
    | true =>
      refine Ev.step (fun k => ?_) (ih (n + 1) true (by omega) (.inl rfl))
      simp only [juratlaw13_ShiftEnds.l2]
      rw [if_pos (by omega), if_pos trivial, wrap_id (by omega) (by omega)]
      rfl
    | false =>
      have hd := getD_drop ends n 0 (by omega)
      rw [hd] at hb
      have hb : v ∈ ends.getD n 0 :: ends.drop (n + 1) := by rcases hb with h | h; cases h; exact h
      refine Ev.step (f := fun k => juratlaw13_ShiftEnds.l2 k s w ends (i : Int) O (j : Int) (ends.getD n 0 == v) ((n + 1 : Nat) : Int)) (fun k => ?_) (ih (n + 1) _ (by omega) ?_)
      · simp only [juratlaw13_ShiftEnds.l2]
        rw [if_pos (by omega), if_neg (by simp), if_pos (by omega), if_pos (by omega), if_pos (by omega), if_pos (by omega), if_pos (by omega), e1, hv, wrap_id (by omega) (by omega)]
        rfl
      · rcases List.mem_cons.1 hb with h | h
        · exact .inl (by rw [h]; exact beq_self_eq_true _)
        · exact .inr h
theorem ends_l1 (s : ByteArray) (w : List ByteArray) (hs : s.size ≤ 100) (hw : w.length ≤ 65535) (hz : ∀ t ∈ w, t.size ≤ 65535) (hpos : ∀ t ∈ w, 0 < t.size) (i : Nat) (hi : i < w.length) :
    ∀ (f j : Nat), j + f = (occB s (w.getD i ByteArray.empty)).length → Ev (fun k => juratlaw13_ShiftEnds.l0 k s w (endsW w s) ((i + 1 : Nat) : Int)) true →
    Ev (fun k => juratlaw13_ShiftEnds.l1 k s w (endsW w s) (i : Int) (occB s (w.getD i ByteArray.empty)) (j : Int)) true := by
  have ht := getD_mem w i ByteArray.empty hi
  have htz := hz _ ht
  have hlen := occB_length s (w.getD i ByteArray.empty)
  have hle := endsW_length w s
  intro f
  induction f with
  | zero =>
    intro j hj hnext
    refine Ev.step (fun k => ?_) hnext
    simp only [juratlaw13_ShiftEnds.l1]
    rw [if_neg (by omega), wrap_id (by omega) (by omega)]
    rfl
  | succ f ih =>
    intro j hj hnext
    obtain ⟨p, hp, h0, hst⟩ := (occB_mem s (w.getD i ByteArray.empty) _).1 (getD_mem (occB s (w.getD i ByteArray.empty)) j 0 (by omega))
    have hps := hst.1
    have hrd : rd (occB s (w.getD i ByteArray.empty)) (j : Int) = (p : Int) := by unfold rd; rw [Int.toNat_natCast]; exact hp
    have hv : wrap64 (rd (occB s (w.getD i ByteArray.empty)) (j : Int) + ((w.getD i ByteArray.empty).size : Int)) = ((p + (w.getD i ByteArray.empty).size : Nat) : Int) := by rw [hrd, wrap_id (by omega) (by omega)]; rfl
    have hin := ends_in ht h0 hst hpos
    refine Ev.step (f := fun k => juratlaw13_ShiftEnds.l2 k s w (endsW w s) (i : Int) (occB s (w.getD i ByteArray.empty)) (j : Int) false ((0 : Nat) : Int)) (fun k => ?_) (ends_l2 s w (endsW w s) _ i j hi (by omega) _ hv (by omega) ?_ (endsW w s).length 0 false (by omega) (.inr hin))
    · simp only [juratlaw13_ShiftEnds.l1]
      rw [if_pos (by omega)]
      rfl
    · rw [wrap_id (by omega) (by omega)]
      exact ih (j + 1) (by omega) hnext
theorem ends_l0 (s : ByteArray) (w : List ByteArray) (hs : s.size ≤ 100) (hw : w.length ≤ 65535) (hz : ∀ t ∈ w, t.size ≤ 65535) (hpos : ∀ t ∈ w, 0 < t.size) : ∀ (f i : Nat), i + f = w.length →
    Ev (fun k => juratlaw13_ShiftEnds.l0 k s w (endsW w s) (i : Int)) true := by
  intro f
  induction f with
  | zero =>
    intro i hi
    refine Ev.step (f := fun k => (juratlaw13_awake.f k).bind fun t => some t) (fun k => ?_) (Ev.bind awake13 (Ev.now true))
    simp only [juratlaw13_ShiftEnds.l0]
    rw [if_neg (by omega)]
  | succ f ih =>
    intro i hi
    have e1 : rdOf ByteArray.empty w (i : Int) = w.getD i ByteArray.empty := rfl
    have hz1 := hz _ (getD_mem w i ByteArray.empty (by omega))
    refine Ev.step (f := fun k => (juratref08_Find.f k s (w.getD i ByteArray.empty)).bind fun t220 => (juratlaw13_ShiftEnds.l1 k s w (endsW w s) (i : Int) t220 ((0 : Nat) : Int))) (fun k => ?_) ?_
    · simp only [juratlaw13_ShiftEnds.l0]
      rw [if_pos (by omega), if_pos (by omega), e1]
      rfl
    refine Ev.bind (rocc_ev s (w.getD i ByteArray.empty) (by omega) (by omega)) ?_
    exact ends_l1 s w hs hw hz hpos i (by omega) (occB s (w.getD i ByteArray.empty)).length 0 (by omega) (ih (i + 1) (by omega))

theorem ShiftEnds (l : List ByteArray) (s : ByteArray) (hl : l.length * 16 ≤ 140737488351232) (_ : ∀ x ∈ l, x.size ≤ maxLen) (_ : s.size ≤ 140737488351232) : ∃ k, juratlaw13_ShiftEnds.f k l s = some true := by
  refine Ev.rounds ?_
  have big : Ev (fun k => juratlaw13_ShiftEnds.j0 k l s true) true := by
    refine Ev.step (f := fun k => (juratlaw13_awake.f k).bind fun t => some t) (fun k => ?_) (Ev.bind awake13 (Ev.now true))
    simp only [juratlaw13_ShiftEnds.j0]
    rw [if_pos trivial]
  unfold juratlaw13_ShiftEnds.f
  refine Ev.bind (few_ev l 20 50 (by omega)) ?_
  by_cases h1 : (decide ((l.length : Int) ≤ 20) && fewB l 50) = true
  rotate_left
  · exact Ev.congr (fun k => if_neg h1) big
  refine Ev.congr (fun k => if_pos h1) ?_
  by_cases h2 : (s.size : Int) > 100
  · exact Ev.congr (fun k => by rw [decide_eq_true h2]) big
  rw [decide_eq_false h2]
  obtain ⟨x, w, er, h⟩ := set_ok l
  have hm : minB w ≤ 65535 := by
    rcases Nat.eq_zero_or_pos w.length with h0 | h0
    · rw [List.length_eq_zero_iff.1 h0]; decide
    · obtain ⟨_, u, hu, e⟩ := min_spec w h0
      have := h.size u hu
      omega
  have hle := endsW_length w s
  refine Ev.step (f := fun k => (pats_New.f l).bind fun bt203 => ((juratref10_New.f k l).bind fun bt205 => ((shift_New.f bt203.1).bind fun t209 => ((shift_Table_Ends.f t209 s).bind fun t211 => ((juratref13_Ends.f k bt205.1 s).bind fun t214 => ((juratref01_Same.f k t211 t214).bind fun t217 => (if t217 = true then (juratlaw13_ShiftEnds.l0 k s bt205.1 t211 ((0 : Nat) : Int)) else (some false)))))))) (fun k => ?_) ?_
  · simp only [juratlaw13_ShiftEnds.j0]
    rw [if_neg (by simp)]
    rfl
  refine Ev.bind (Ev.const fun _ => h.hn) (Ev.bind (rnew_ok h) (Ev.bind (Ev.const fun _ => shift_ok h) ?_))
  have hall : ∀ n ∈ shTab (minB w) w, 0 ≤ n ∧ n ≤ 1099511627776 := fun n hn => by
    obtain ⟨c, hc, rfl⟩ := List.mem_iff_getElem.1 hn
    have hc' := hc
    rw [shTab_length] at hc'
    obtain ⟨a1, a2, _, _⟩ := shB_spec w hc'
    have e : shB w c = (shTab (minB w) w)[c]'hc := by
      unfold shB
      rw [List.getD_eq_getElem?_getD, List.getElem?_eq_getElem hc]
      rfl
    omega
  have he : shift_Table_Ends.f (some ⟨shTab (minB w) w, minB w⟩) s = some (endsW w s) := by
    simp only [shift_Table_Ends.f]
    unfold endsW
    by_cases h0 : minB w = 0
    · rw [if_pos (by omega), if_pos h0]
    · rw [if_neg (by omega), if_neg h0, if_pos ⟨by omega, by omega, hall, by omega⟩, Int.toNat_natCast]
  refine Ev.bind (Ev.const fun _ => he) (Ev.bind (rends_ev w s (by omega) h.few h.size hm) ?_)
  have s1 := same1 (endsW w s) (endsW w s) (by omega)
  rw [decide_eq_true rfl] at s1
  refine Ev.bind s1 (Ev.congr (fun k => if_pos rfl) ?_)
  exact ends_l0 s w (by omega) h.few h.size h.pos w.length 0 (by omega)

end Go.Proofs.Ytdfcmkmdioddnaa.Pure

/- How a law's arguments are opened: slices of texts and of numbers, as lists, with their sizes out of the row's weights. -/
namespace Go.Proofs.Ytdfcmkmdioddnaa.RowS
open Go Go.ChangeShapes Go.WideShapes Go.RowKit Go.Proofs.YtdfcmkmdioddnaaW.PrintWords

theorem slice_strings {H : Type} {enc : TypeId × Value → H} {P : Program} {W : World} {t e : TypeId} {a : Option Addr} {len cap : Nat} {d : DataW H} {ps : List MemPlace} {ts : List TypeId} {ds : List (DataW H)} {j : Nat}
    (hsz : (DataW.weightsEach P ts ds).all (· ≤ reachBytes) = true) (ht : ts[j]? = some t) (hd : ds[j]? = some d) (hu : P.underlying t = some (.slice e)) (he : P.underlying e = some .string) (hc : P.cellsOf e = 1) (hB : P.bytesOf e = 16)
    (h : DataW.Trod enc P W 0 (fun _ => true) true t (.slice a len cap) d ps) :
    ∃ l : List ByteArray, l.length = len ∧ len ≤ cap ∧ Kd.C Kd.string W a l.length l ∧ l.length * 16 ≤ 140737488351232 ∧ ∀ s ∈ l, s.size ≤ maxLen := by
  obtain ⟨fuel, hf⟩ := h
  rcases open_strings hu he hc hf with ⟨hcs, _⟩ | ⟨x, l, c, ss, hcs, _, hl, hm, hz, hx, hcell, hw⟩
  · simp [Value.cells] at hcs
    obtain ⟨rfl, rfl, rfl⟩ := hcs
    exact ⟨[], rfl, Nat.le_refl _, Kd.C_nil _ _, by simp, by simp⟩
  · simp [Value.cells] at hcs
    obtain ⟨rfl, rfl, rfl⟩ := hcs
    obtain ⟨hx, _⟩ := Prod.mk.inj hx
    subst hx
    have z := sized_slice hsz ht hd hu
    rw [hB] at z
    rw [if_pos rfl] at hz
    have hl2 : len ≤ ss.length := by omega
    have h1 : (strs (H := H) (ss.take len)).length + (strs (H := H) (ss.drop len)).length = ss.length := by
      simp [strs]
      omega
    rw [h1] at z
    have hlen : (ss.take len).length = len := by rw [List.length_take]; omega
    refine ⟨ss.take len, hlen, hl, Kd.C_of_reads (d := ByteArray.empty) (h1 := fun _ => rfl) ⟨rfl, by rw [hlen]; unfold maxLen at hm; omega, fun _ => ⟨x, rfl, fun i hi => ?_⟩⟩, ?_, fun s hs => hw s (List.mem_of_mem_take hs)⟩
    · rw [hlen] at hi
      rw [hcell i (by omega), List.getD_eq_getElem?_getD, List.getD_eq_getElem?_getD, List.getElem?_take_of_lt hi]
    · rw [hlen]
      exact Nat.le_trans (Nat.mul_le_mul_right _ hl2) z
theorem slice_ints {H : Type} {enc : TypeId × Value → H} {P : Program} {W : World} {t e : TypeId} {k : IntKind} {a : Option Addr} {len cap : Nat} {d : DataW H} {ps : List MemPlace} {ts : List TypeId} {ds : List (DataW H)} {j : Nat}
    (hsz : (DataW.weightsEach P ts ds).all (· ≤ reachBytes) = true) (ht : ts[j]? = some t) (hd : ds[j]? = some d) (hu : P.underlying t = some (.slice e)) (he : P.underlying e = some (.int k)) (hc : P.cellsOf e = 1) {B : Nat} (hB : P.bytesOf e = B)
    (h : DataW.Trod enc P W 0 (fun _ => true) true t (.slice a len cap) d ps) :
    ∃ l : List Int, l.length = len ∧ len ≤ cap ∧ Kd.C (Kd.int k) W a l.length l ∧ l.length ≤ maxLen ∧ l.length * B ≤ 140737488351232 ∧ ∀ n ∈ l, (Lit.int k n).wf = true := by
  have y := sized_ints hsz ht hd hu he hc hB h
  obtain ⟨fuel, hf⟩ := h
  rcases open_ints hu he hc hf with ⟨hcs, _⟩ | ⟨x, l, c, zs, hcs, _, hl, hm, hz, _, hcell, hw⟩
  · simp [Value.cells] at hcs
    obtain ⟨rfl, rfl, rfl⟩ := hcs
    exact ⟨[], rfl, Nat.le_refl _, Kd.C_nil _ _, by simp, by simp, by simp⟩
  · simp [Value.cells] at hcs
    obtain ⟨rfl, rfl, rfl⟩ := hcs
    rw [if_pos rfl] at hz
    have hlen : (zs.take len).length = len := by rw [List.length_take]; omega
    refine ⟨zs.take len, hlen, hl, Kd.C_of_reads (d := (0 : Int)) (h1 := fun _ => rfl) ⟨rfl, by rw [hlen]; unfold maxLen at hm; omega, fun _ => ⟨x, rfl, fun i hi => ?_⟩⟩, by rw [hlen]; omega, by rw [hlen]; exact y, fun s hs => hw s (List.mem_of_mem_take hs)⟩
    rw [hlen] at hi
    rw [hcell i (by omega), List.getD_eq_getElem?_getD, List.getD_eq_getElem?_getD, List.getElem?_take_of_lt hi]

end Go.Proofs.Ytdfcmkmdioddnaa.RowS

/- The row of the law ShiftEnds, out of its plain statement and the walk; written for this claim by a program of this session (wip/mkrow.py). -/
namespace Go.Proofs.Ytdfcmkmdioddnaa.shiftEnds
open Go.ChangeShapes Go.WideShapes Go.ChangeAt Go.RowKit
open Go.ChangeMaps (open_string shut_string)
set_option linter.unusedVariables false
theorem own : ownKnob Try.prog.godebug = none := by kernel_rfl
theorem laidOut : laidOutB Try.prog = true := by kernel_rfl
set_option maxRecDepth 100000 in
theorem lifted (os : Os) (started : os.Started) (H : Type) (enc : TypeId × Value → H) :
    ReturnsInHanded {} Try.checked os 3 .any (Rows.shiftEndsSpec.pre6 enc Try.prog Try.f3 Rows.shiftEndsRow.domain false) (Rows.shiftEndsSpec.post enc Try.prog Try.f3 false true false false) := by
  refine returnsInHanded_of_change_sized (C := Try.checked) own started (by kernel_rfl) Try.func3
    (ChangeSpec.witness6 (enc := enc) (C := Try.checked) false ⟨#[], #[.slice none 0 0, .string ByteArray.empty], []⟩ 8 (by kernel_rfl) (by kernel_rfl) (by kernel_rfl) (by kernel_rfl)) ?_
  intro W base args ds gs before hval0 hW hcnd hsz0 _
  have hsz : (DataW.weightsEach Try.prog (Try.f3.params.toList ++ Rows.shiftEndsSpec.plain.varTypes Try.prog) (ds ++ gs)).all (· ≤ reachBytes) = true := hsz0
  have hval : ∀ (j : Nat) t v, Try.f3.params[j]? = some t → args[j]? = some v → Value.okWide Try.prog W .any base t v := hval0
  have hW' := hW
  obtain ⟨p, q, hA0, hV, rfl, hfz, hnd⟩ := hW
  have hA : DataW.TrodAll enc Try.prog W 0 (fun _ => true) true Try.f3.params.toList args.toList ds p := hA0
  rw [Try.params3] at hA hval hsz
  obtain ⟨v0, vs0, d0, ds0, p0, q0, hargs, rfl, rfl, h0, r0⟩ := trodAll_cons hA
  obtain ⟨v1, vs1, d1, ds1, p1, q1, rfl, rfl, rfl, h1, r1⟩ := trodAll_cons r0
  obtain ⟨rfl, rfl, rfl⟩ := trodAll_nil r1
  obtain rfl : args = #[v0, v1] := by cases args; simp_all
  obtain ⟨rfl, rfl⟩ := trodVars_none hV
  obtain ⟨a0, len0, cap0, rfl⟩ := okWide_slice Try.underlying22 (hval 0 22 v0 rfl rfl)
  have k0 := h0
  have lt0 : ∀ x ∈ p0, x.block < W.heap.size := by obtain ⟨m, hm⟩ := k0; exact DataW.trod_lt m _ _ _ hm
  obtain ⟨l0, hn0, hc0, hr0, y0, w0⟩ := RowS.slice_strings hsz (j := 0) (t := 22) rfl rfl Try.underlying22 Try.underlying9 (by kernel_rfl) (by kernel_rfl) h0
  subst hn0
  obtain ⟨a1, rfl, rfl, rfl, y1⟩ := open_string Try.underlying9 (hval 1 9 v1 rfl rfl) h1
  have w1 : a1.size ≤ 140737488351232 := by
    have z := sized_string hsz (j := 1) (t := 9) rfl rfl
    rw [Array.length_toList] at z
    exact z
  clear hA0 hval0 hsz0 hsz
  obtain ⟨k, hk⟩ := Pure.ShiftEnds l0 a1 y0 w0 w1
  refine (P.juratlaw13_ShiftEnds.calls k a0 cap0 l0 a1 true W hr0 hc0 hk).mono fun e W' ⟨he, bel⟩ => ?_
  subst he
  exact ⟨_, rfl, _, _, _, [], _, [], hW', trodAll_mk1 (shut_bool Try.underlying4 _), (trodAll_cons_mk (Below.trod laidOut (by kernel_rfl) (of_decide_eq_true (by kernel_rfl)) k0 bel lt0) (trodAll_cons_mk (shut_string Try.underlying9 y1) trodAll_mk0)), rfl, bel.frame _, fun h => by cases h⟩
theorem over : Rows.shiftEndsRow.holds Try.pinned (OpenSpec.ofChange Rows.shiftEndsSpec) :=
  OpenClaim.holds_of_wide 3 Try.f3 rfl rfl rfl rfl rfl rfl rfl ⟨rfl, rfl, rfl, rfl, rfl⟩ rfl rfl rfl rfl rfl (by kernel_rfl) Try.func3 (by kernel_rfl)
    (of_decide_eq_true (by kernel_rfl)) (by unfold Func.isWrapper; first | (rw [if_pos (by decide +kernel)]; kernel_rfl) | (rw [if_neg (by decide +kernel)]; exact ⟨rfl, rfl⟩))
    (fun os started H enc _ => lifted os started H enc)
theorem proved : Rows.ShiftEndsSaid := over
#print axioms proved
end Go.Proofs.Ytdfcmkmdioddnaa.shiftEnds
namespace Go.Proofs.Ytdfcmkmdioddnaa
/-- The row, under a short name, for the claim. -/
theorem shiftEnds_holds : Rows.ShiftEndsSaid := shiftEnds.proved
end Go.Proofs.Ytdfcmkmdioddnaa
