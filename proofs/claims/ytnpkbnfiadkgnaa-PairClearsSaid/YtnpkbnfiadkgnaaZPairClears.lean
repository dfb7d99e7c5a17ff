/- Proved here: the row of the law PairClears, with texts that lead to it, merged by a program of this session (wip/merge.py), part 1 of 1; no condition beyond the statement's own. -/
import Derived.Test.YtnpkbnfiadkgnaaH09t
import Derived.Test.YtnpkbnfiadkgnaaPx10
import Derived.Test.YtnpkbnfiadkgnaaPx56
import Derived.Test.YtnpkbnfiadkgnaaPx55
import Derived.Test.YtnpkbnfiadkgnaaP10
import Derived.Test.YtnpkbnfiadkgnaaPx13
import Derived.Test.YtnpkbnfiadkgnaaPx60
import Derived.Test.YtnpkbnfiadkgnaaPx0
import Derived.Test.YtnpkbnfiadkgnaaH10
import Derived.Test.YtnpkbnfiadkgnaaH10b
import Derived.Test.YtnpkbnfiadkgnaaBase
import Derived.Test.YtnpkbnfiadkgnaaWLast
import Derived.Laws.BitsLemmas
import Derived.Test.YtnpkbnfiadkgnaaOb14
import Derived.Test.YtnpkbnfiadkgnaaPx30
import Derived.Test.YtnpkbnfiadkgnaaH14
import Derived.Test.YtnpkbnfiadkgnaaPx35
import Derived.Test.YtnpkbnfiadkgnaaPx25
import Derived.Test.YtnpkbnfiadkgnaaPx29
import Derived.Test.YtnpkbnfiadkgnaaPx61
import Derived.Test.YtnpkbnfiadkgnaaPx31
import Derived.Test.YtnpkbnfiadkgnaaPx5
import Derived.SizedLaws
import Derived.SliceStrings
import Derived.Test.YtnpkbnfiadkgnaaWWords
import Derived.Test.YtnpkbnfiadkgnaaWSized
import Derived.Test.YtnpkbnfiadkgnaaRows
import Derived.WalkKit
import Derived.ProofKit
import Derived.OpenShut
import Derived.ShutString
import Derived.ChangeOld
import Derived.Below
import Derived.Carry
/- What layer 9 and its reference compute, as plain functions on lists of bytes; no condition beyond the sizes that stand in each statement. -/
namespace Go.Proofs.Ytnpkbnfiadkgnaa.Base
open Go Go.RowKit Go.Proofs.YtnpkbnfiadkgnaaW.PrintWords Go.Proofs.YtnpkbnfiadkgnaaW.PrintMore Go.Proofs.Ytnpkbnfiadkgnaa.P
set_option linter.unusedVariables false

/-! few texts, of few bytes -/
def fewB (l : List ByteArray) (b : Int) : Bool := l.all fun s => decide ((s.size : Int) ≤ b)
theorem fewB_iff {l : List ByteArray} {b : Int} : fewB l b = true ↔ ∀ s ∈ l, (s.size : Int) ≤ b := by unfold fewB; rw [List.all_eq_true]; simp
theorem few_l0 (l : List ByteArray) (b : Int) (hm : l.length ≤ 9223372036854775807) : ∀ (d i : Nat), i + d = l.length →
    Ev (fun k => juratref09_Few.l0 k l b (i : Int)) (fewB (l.drop i) b) := by
  intro d
  induction d with
  | zero =>
    intro i hi
    refine Ev.ret fun k => ?_
    simp only [juratref09_Few.l0]
    rw [if_neg (by omega), List.drop_of_length_le (by omega)]
    rfl
  | succ d ih =>
    intro i hi
    have hd := getD_drop l i ByteArray.empty (by omega)
    have e : rdOf ByteArray.empty l (i : Int) = l.getD i ByteArray.empty := rfl
    have e2 : fewB (l.drop i) b = (decide (((l.getD i ByteArray.empty).size : Int) ≤ b) && fewB (l.drop (i + 1)) b) := by rw [hd]; rfl
    rw [e2]
    by_cases h : ((l.getD i ByteArray.empty).size : Int) > b
    · refine Ev.ret fun k => ?_
      simp only [juratref09_Few.l0]
      rw [if_pos (by omega), if_pos (by omega), e, if_pos h, decide_eq_false (by omega)]
      rfl
    · rw [decide_eq_true (by omega), Bool.true_and]
      refine Ev.step (f := fun k => juratref09_Few.l0 k l b ((i + 1 : Nat) : Int)) (fun k => ?_) (ih (i + 1) (by omega))
      simp only [juratref09_Few.l0]
      rw [if_pos (by omega), if_pos (by omega), e, if_neg h, wrap_id (by omega) (by omega)]
      rfl
theorem few_ev (l : List ByteArray) (m b : Int) (hm : l.length ≤ 9223372036854775807) : Ev (fun k => juratref09_Few.f k l m b) (decide ((l.length : Int) ≤ m) && fewB l b) := by
  by_cases h : (l.length : Int) > m
  · rw [decide_eq_false (by omega)]
    refine Ev.const fun k => ?_
    unfold juratref09_Few.f
    rw [if_pos h]
    rfl
  · have h' := few_l0 l b hm l.length 0 (by omega)
    rw [List.drop_zero] at h'
    rw [decide_eq_true (by omega), Bool.true_and]
    refine Ev.congr (fun k => ?_) h'
    unfold juratref09_Few.f
    rw [if_neg h]
    rfl

/-! sorted: two lists in order with the same texts are one -/
theorem up_unique : ∀ {l m : List ByteArray}, l.Perm m → upB l → upB m → l = m
  | [], m, h, _, _ => by rw [List.nil_perm.1 h]
  | x :: l, [], h, _, _ => by have := h.length_eq; simp at this
  | x :: l, y :: m, h, hl, hm => by
    obtain ⟨hl1, hl2⟩ := List.pairwise_cons.1 hl
    obtain ⟨hm1, hm2⟩ := List.pairwise_cons.1 hm
    have e : x = y := by
      rcases bl_tri (LL x) (LL y) with h' | h' | h'
      · exact LL_inj h'
      · rcases List.mem_cons.1 (h.mem_iff.1 List.mem_cons_self : x ∈ y :: m) with rfl | hx
        · rfl
        · rw [hm1 x hx] at h'; cases h'
      · rcases List.mem_cons.1 (h.mem_iff.2 List.mem_cons_self : y ∈ x :: l) with rfl | hy
        · rfl
        · rw [hl1 y hy] at h'; cases h'
    subst e
    rw [up_unique (List.Perm.cons_inv h) hl2 hm2]
theorem sortB_up (l : List ByteArray) : upB (sortB l) := by
  have h := List.pairwise_mergeSort (le := fun x y : ByteArray => !Op.bytesLess (LL y) (LL x)) (fun a b c h1 h2 => by
      simp only [Bool.not_eq_true'] at h1 h2 ⊢
      exact bl_ntrans h2 h1) (fun a b => by
      rcases bl_tri (LL a) (LL b) with h | h | h
      · rw [h, bl_irrefl]; rfl
      · rw [bl_asym h]; rfl
      · rw [bl_asym h]; simp) l
  exact h.imp (fun h => by simpa using h)
theorem sortB_perm (l : List ByteArray) : (sortB l).Perm l := List.mergeSort_perm _ _
theorem sortB_of {l m : List ByteArray} (h : m.Perm l) (hu : upB m) : m = sortB l := up_unique (h.trans (sortB_perm l).symm) hu (sortB_up l)
theorem sortB_sized {l : List ByteArray} (h : sizedB l) : sizedB (sortB l) := ⟨by rw [sortB_length]; exact h.1, fun s hs => h.2 s ((sortB_perm l).mem_iff.1 hs)⟩

theorem take_snoc {α : Type} (l : List α) (i : Nat) (z : α) (h : i < l.length) : l.take (i + 1) = l.take i ++ [l.getD i z] := by
  rw [List.take_succ_eq_append_getElem h, List.getD_eq_getElem?_getD, List.getElem?_eq_getElem h]; rfl

end Go.Proofs.Ytnpkbnfiadkgnaa.Base

/- What layer 9's reference computes by sorting and looking for what is there twice, as plain functions on lists of texts; no condition beyond the sizes that stand in each statement. -/
namespace Go.Proofs.Ytnpkbnfiadkgnaa.Base
open Go Go.RowKit Go.Proofs.YtnpkbnfiadkgnaaW.PrintWords Go.Proofs.YtnpkbnfiadkgnaaW.PrintMore Go.Proofs.Ytnpkbnfiadkgnaa.P
set_option linter.unusedVariables false

/-! sorted by insertion -/
theorem rsorted_put (l out : List ByteArray) (i j : Nat) (hi : i < l.length) (hl : l.length ≤ 8796093022200) (ho : out.length = i) (hj : j ≤ out.length) (hup : upB out)
    (hbelow : ∀ t, t < j → Op.bytesLess (LL (l.getD i ByteArray.empty)) (LL (out.getD t ByteArray.empty)) = false) (habove : ∀ t, j ≤ t → t < out.length → Op.bytesLess (LL (l.getD i ByteArray.empty)) (LL (out.getD t ByteArray.empty)) = true) :
    upB (out.take j ++ l.getD i ByteArray.empty :: out.drop j) ∧ (out.take j ++ l.getD i ByteArray.empty :: out.drop j).Perm (l.getD i ByteArray.empty :: out) := by
  refine ⟨?_, ?_⟩
  · have h1 : ∀ x ∈ out.take j, Op.bytesLess (LL (l.getD i ByteArray.empty)) (LL x) = false := fun x hx => by
      obtain ⟨t, ht, rfl⟩ := List.mem_iff_getElem.1 hx
      rw [List.length_take] at ht
      have := hbelow t (by omega)
      rw [List.getD_eq_getElem?_getD (l := out), List.getElem?_eq_getElem (by omega : t < out.length)] at this
      rw [List.getElem_take]
      exact this
    have h2 : ∀ x ∈ out.drop j, Op.bytesLess (LL (l.getD i ByteArray.empty)) (LL x) = true := fun x hx => by
      obtain ⟨t, ht, rfl⟩ := List.mem_iff_getElem.1 hx
      rw [List.length_drop] at ht
      have := habove (j + t) (by omega) (by omega)
      rw [List.getD_eq_getElem?_getD (l := out), List.getElem?_eq_getElem (by omega : j + t < out.length)] at this
      rw [List.getElem_drop]
      exact this
    have hsplit : (out.take j ++ out.drop j).Pairwise (fun x y => Op.bytesLess (LL y) (LL x) = false) := by rw [List.take_append_drop]; exact hup
    obtain ⟨p1, p2, p3⟩ := List.pairwise_append.1 hsplit
    refine List.pairwise_append.2 ⟨p1, List.pairwise_cons.2 ⟨fun y hy => bl_asym (h2 y hy), p2⟩, fun x hx y hy => ?_⟩
    rcases List.mem_cons.1 hy with rfl | hy
    · exact h1 x hx
    · exact p3 x hx y hy
  · refine List.perm_middle.trans ?_
    rw [List.take_append_drop]
theorem rsorted_both (l : List ByteArray) (hl : l.length ≤ 8796093022200) : ∀ (d i : Nat), i + d = l.length → ∀ out : List ByteArray, out.Perm (l.take i) → upB out →
    Ev (fun k => juratref09_Sorted.l0 k l out (i : Int)) (sortB l) := by
  intro d
  induction d with
  | zero =>
    intro i hi out hp hu
    rw [List.take_of_length_le (by omega)] at hp
    refine Ev.ret fun k => ?_
    simp only [juratref09_Sorted.l0]
    rw [if_neg (by omega), sortB_of hp hu]
  | succ d ih =>
    intro i hi out hp hu
    have ho : out.length = i := by rw [hp.length_eq, List.length_take]; omega
    have hx : rdOf ByteArray.empty l (i : Int) = l.getD i ByteArray.empty := rfl
    have fin : ∀ j, j ≤ out.length → (∀ t, t < j → Op.bytesLess (LL (l.getD i ByteArray.empty)) (LL (out.getD t ByteArray.empty)) = false) → (∀ t, j ≤ t → t < out.length → Op.bytesLess (LL (l.getD i ByteArray.empty)) (LL (out.getD t ByteArray.empty)) = true) →
        Ev (fun k => juratref09_Sorted.l0 k l ((([] ++ out.take j) ++ [l.getD i ByteArray.empty]) ++ out.drop j) ((i + 1 : Nat) : Int)) (sortB l) := fun j hj hb ha => by
      obtain ⟨u, p⟩ := rsorted_put l out i j (by omega) hl ho hj hu hb ha
      rw [List.nil_append, List.append_assoc, List.singleton_append]
      refine ih (i + 1) (by omega) _ (p.trans ?_) u
      rw [take_snoc l i ByteArray.empty (by omega)]
      exact (List.Perm.cons _ hp).trans (List.perm_append_singleton _ _).symm
    have inner : ∀ j, j ≤ out.length → (∀ t, j ≤ t → t < out.length → Op.bytesLess (LL (l.getD i ByteArray.empty)) (LL (out.getD t ByteArray.empty)) = true) →
        Ev (fun k => juratref09_Sorted.l1 k l out (i : Int) (j : Int)) (sortB l) := by
      intro j
      induction j with
      | zero =>
        intro hj ha
        refine Ev.step (f := fun k => juratref09_Sorted.l0 k l ((([] ++ out.take 0) ++ [l.getD i ByteArray.empty]) ++ out.drop 0) ((i + 1 : Nat) : Int)) (fun k => ?_) (fin 0 hj (fun t ht => absurd ht (Nat.not_lt_zero _)) ha)
        simp only [juratref09_Sorted.l1, Option.bind_some]
        rw [if_neg (by omega), if_pos (by omega), if_pos (by omega), if_pos (by simp), if_pos (by omega), if_pos (by omega), if_pos (by simp), hx, Int.toNat_natCast, if_pos (by simp; omega), wrap_id (by omega) (by omega)]
        rfl
      | succ j ihj =>
        intro hj ha
        have hy : rdOf ByteArray.empty out (((j + 1 : Nat) : Int) - 1) = out.getD j ByteArray.empty := by unfold rdOf; rw [show (((j + 1 : Nat) : Int) - 1).toNat = j by omega]
        cases hlt : Op.bytesLess (LL (l.getD i ByteArray.empty)) (LL (out.getD j ByteArray.empty)) with
        | true =>
          refine Ev.step (f := fun k => juratref09_Sorted.l1 k l out (i : Int) (j : Int)) (fun k => ?_) (ihj (by omega) (fun t h1 h2 => by
            by_cases he : t = j
            · subst he; exact hlt
            · exact ha t (by omega) h2))
          simp only [juratref09_Sorted.l1, Option.bind_some]
          rw [wrap_id (x := ((j + 1 : Nat) : Int) - 1) (by omega) (by omega), if_pos (by omega), if_pos (by omega), if_pos (by omega), if_pos (by omega), if_pos (by omega), hx, hy, if_pos (by rw [ByteArray.toList_eq, ByteArray.toList_eq]; exact hlt), show ((j + 1 : Nat) : Int) - 1 = (j : Int) by omega]
        | false =>
          refine Ev.step (f := fun k => juratref09_Sorted.l0 k l ((([] ++ out.take (j + 1)) ++ [l.getD i ByteArray.empty]) ++ out.drop (j + 1)) ((i + 1 : Nat) : Int)) (fun k => ?_) (fin (j + 1) hj (fun t ht => by
            by_cases he : t = j
            · subst he; exact hlt
            · have hp := List.pairwise_iff_getElem.1 hu t j (by omega) (by omega) (by omega)
              rw [List.getD_eq_getElem?_getD (l := out), List.getElem?_eq_getElem (by omega : j < out.length)] at hlt
              rw [List.getD_eq_getElem?_getD (l := out), List.getElem?_eq_getElem (by omega : t < out.length)]
              exact bl_ntrans hlt hp) ha)
          simp only [juratref09_Sorted.l1, Option.bind_some]
          rw [wrap_id (x := ((j + 1 : Nat) : Int) - 1) (by omega) (by omega), if_pos (by omega), if_pos (by omega), if_pos (by omega), if_pos (by omega), if_pos (by omega), hx, hy, if_neg (by rw [ByteArray.toList_eq, ByteArray.toList_eq, hlt]; simp), if_pos (by omega), if_pos (by omega), Int.toNat_natCast,
            if_pos (by simp; omega), if_pos (by simp; omega), if_pos (by simp; omega), wrap_id (by omega) (by omega)]
          rfl
    refine Ev.step (f := fun k => juratref09_Sorted.l1 k l out (i : Int) (out.length : Int)) (fun k => ?_) (inner out.length (Nat.le_refl _) (fun t h1 h2 => by omega))
    simp only [juratref09_Sorted.l0]
    rw [if_pos (by omega)]
theorem rsorted_ev (l : List ByteArray) (hl : l.length ≤ 8796093022200) : Ev (fun k => juratref09_Sorted.f k l) (sortB l) :=
  rsorted_both l hl l.length 0 (by omega) [] (by rw [List.take_zero]) List.Pairwise.nil

/-! there already -/
theorem inB_take (s : ByteArray) (l : List ByteArray) (i : Nat) : inB s (l.take i) = true ↔ ∃ t, t < i ∧ t < l.length ∧ l.getD t ByteArray.empty = s := by
  rw [inB_iff, List.mem_iff_getElem]
  constructor
  · rintro ⟨t, ht, rfl⟩
    rw [List.length_take] at ht
    refine ⟨t, by omega, by omega, ?_⟩
    rw [List.getD_eq_getElem?_getD, List.getElem?_eq_getElem (by omega : t < l.length), List.getElem_take]; rfl
  · rintro ⟨t, h1, h2, rfl⟩
    refine ⟨t, by rw [List.length_take]; omega, ?_⟩
    rw [List.getD_eq_getElem?_getD, List.getElem?_eq_getElem (by omega : t < l.length), List.getElem_take]; rfl
theorem rtwice_both (l : List ByteArray) (hl : l.length ≤ 9223372036854775806) : ∀ (d i : Nat), i + d = l.length →
    Ev (fun k => juratref09_Twice.l0 k l (i : Int)) (twB (l.take i) (l.drop i) i) := by
  intro d
  induction d with
  | zero =>
    intro i hi
    refine Ev.ret fun k => ?_
    simp only [juratref09_Twice.l0]
    rw [if_neg (by omega), List.drop_of_length_le (by omega)]
    rfl
  | succ d ih =>
    intro i hi
    have ih' := ih (i + 1) (by omega)
    rw [take_snoc l i ByteArray.empty (by omega)] at ih'
    rw [getD_drop l i ByteArray.empty (by omega)]
    have inner : ∀ e j, j + e = i → (∀ t, t < j → ¬ l.getD t ByteArray.empty = l.getD i ByteArray.empty) →
        Ev (fun k => juratref09_Twice.l1 k l (i : Int) (j : Int)) (twB (l.take i) (l.getD i ByteArray.empty :: l.drop (i + 1)) i) := by
      intro e
      induction e with
      | zero =>
        intro j hj hn
        have hin : ¬ inB (l.getD i ByteArray.empty) (l.take i) = true := fun h => by
          obtain ⟨t, h1, h2, h3⟩ := (inB_take _ _ _).1 h
          exact hn t (by omega) h3
        simp only [twB]
        rw [if_neg hin]
        refine Ev.step (f := fun k => juratref09_Twice.l0 k l ((i + 1 : Nat) : Int)) (fun k => ?_) ih'
        simp only [juratref09_Twice.l1]
        rw [if_neg (by omega), wrap_id (by omega) (by omega)]
        rfl
      | succ e ihe =>
        intro j hj hn
        have e1 : rdOf ByteArray.empty l (i : Int) = l.getD i ByteArray.empty := rfl
        have e2 : rdOf ByteArray.empty l (j : Int) = l.getD j ByteArray.empty := rfl
        by_cases h : l.getD j ByteArray.empty = l.getD i ByteArray.empty
        · have hin : inB (l.getD i ByteArray.empty) (l.take i) = true := (inB_take _ _ _).2 ⟨j, by omega, by omega, h⟩
          simp only [twB]
          rw [if_pos hin]
          refine Ev.ret fun k => ?_
          simp only [juratref09_Twice.l1]
          rw [if_pos (by omega), if_pos (by omega), if_pos (by omega), if_pos (by omega), if_pos (by omega), e1, e2, if_pos (toList_iff.2 h)]
        · refine Ev.step (f := fun k => juratref09_Twice.l1 k l (i : Int) ((j + 1 : Nat) : Int)) (fun k => ?_) (ihe (j + 1) (by omega) (fun t ht => by
            by_cases he : t = j
            · subst he; exact h
            · exact hn t (by omega)))
          simp only [juratref09_Twice.l1]
          rw [if_pos (by omega), if_pos (by omega), if_pos (by omega), if_pos (by omega), if_pos (by omega), e1, e2, if_neg (fun x => h (toList_iff.1 x)), wrap_id (by omega) (by omega)]
          rfl
    refine Ev.step (f := fun k => juratref09_Twice.l1 k l (i : Int) ((0 : Nat) : Int)) (fun k => ?_) (inner i 0 (by omega) (fun t ht => absurd ht (Nat.not_lt_zero _)))
    simp only [juratref09_Twice.l0]
    rw [if_pos (by omega)]
    rfl
theorem rtwice_ev (l : List ByteArray) (hl : l.length ≤ 9223372036854775806) : Ev (fun k => juratref09_Twice.f k l) (twB [] l 0) := by
  have h := rtwice_both l hl l.length 0 (by omega)
  rw [List.take_zero, List.drop_zero] at h
  exact h

end Go.Proofs.Ytnpkbnfiadkgnaa.Base

/- What layer 10's reference makes of texts, as plain functions; no condition beyond the sizes that stand in each statement. -/
namespace Go.Proofs.Ytnpkbnfiadkgnaa.Base
open Go Go.RowKit Go.Proofs.YtnpkbnfiadkgnaaW.PrintWords Go.Proofs.YtnpkbnfiadkgnaaW.PrintMore Go.Proofs.Ytnpkbnfiadkgnaa.P
set_option linter.unusedVariables false

/-- The patterns in order, or the error. -/
def newB (l : List ByteArray) : List ByteArray × Int :=
  if l.length = 0 then ([], 14) else if l.length > 65535 then ([], 6) else if badB l ≠ 0 then ([], badB l) else if totalB 0 l > 16777216 then ([], 13) else if twB [] l 0 ≥ 0 then ([], 8) else (sortB l, 0)
theorem rnew_l0 (l : List ByteArray) (hl : l.length ≤ 65535) : ∀ (d i n : Nat), i + d = l.length → n ≤ i * 65535 →
    Ev (fun k => juratref10_New.l0 k l (n : Int) (i : Int)) (if badB (l.drop i) ≠ 0 then ([], badB (l.drop i)) else if totalB n (l.drop i) > 16777216 then ([], 13) else if twB [] l 0 ≥ 0 then ([], 8) else (sortB l, 0)) := by
  intro d
  induction d with
  | zero =>
    intro i n hi hn
    rw [List.drop_of_length_le (by omega), if_neg (by simp [badB])]
    have hn' : totalB n [] = n := rfl
    rw [hn']
    by_cases h1 : n > 16777216
    · rw [if_pos h1]
      refine Ev.ret fun k => ?_
      simp only [juratref10_New.l0]
      rw [if_neg (by omega), if_pos (by omega)]
    · rw [if_neg h1]
      refine Ev.step (f := fun k => (juratref09_Twice.f k l).bind fun t => if t ≥ 0 then some ([], 8) else (juratref09_Sorted.f k l).bind fun s => some (s, 0)) (fun k => ?_) ?_
      · simp only [juratref10_New.l0]
        rw [if_neg (by omega), if_neg (by omega)]
      refine Ev.bind (rtwice_ev l (by omega)) ?_
      by_cases h2 : twB [] l 0 ≥ 0
      · rw [if_pos h2]
        exact Ev.congr (fun k => if_pos h2) (Ev.now _)
      · rw [if_neg h2]
        exact Ev.congr (fun k => if_neg h2) (Ev.bind (rsorted_ev l (by omega)) (Ev.now _))
  | succ d ih =>
    intro i n hi hn
    have hd := getD_drop l i ByteArray.empty (by omega)
    have e : rdOf ByteArray.empty l (i : Int) = l.getD i ByteArray.empty := rfl
    rw [hd]
    generalize l.getD i ByteArray.empty = s at e
    by_cases h0 : s.size = 0
    · have hc : chkB s = 7 := by unfold chkB; rw [if_pos h0]
      have hb : badB (s :: l.drop (i + 1)) = chkB s := by show (if chkB s = 0 then _ else chkB s) = chkB s; rw [if_neg (by omega)]
      rw [hb, hc, if_pos (by omega)]
      refine Ev.ret fun k => ?_
      simp only [juratref10_New.l0]
      rw [if_pos (by omega), if_pos (by omega), e, if_pos (toList_nil.2 h0)]
    by_cases h1 : s.size > 65535
    · have hc : chkB s = 5 := by unfold chkB; rw [if_neg h0, if_pos h1]
      have hb : badB (s :: l.drop (i + 1)) = chkB s := by show (if chkB s = 0 then _ else chkB s) = chkB s; rw [if_neg (by omega)]
      rw [hb, hc, if_pos (by omega)]
      refine Ev.ret fun k => ?_
      simp only [juratref10_New.l0]
      rw [if_pos (by omega), if_pos (by omega), e, if_neg (fun x => h0 (toList_nil.1 x)), if_pos (by omega)]
    have hc : chkB s = 0 := by unfold chkB; rw [if_neg h0, if_neg h1]
    have hb : badB (s :: l.drop (i + 1)) = badB (l.drop (i + 1)) := if_pos hc
    rw [hb]
    have ht : totalB n (s :: l.drop (i + 1)) = totalB (n + s.size) (l.drop (i + 1)) := rfl
    rw [ht]
    refine Ev.step (f := fun k => juratref10_New.l0 k l ((n + s.size : Nat) : Int) ((i + 1 : Nat) : Int)) (fun k => ?_) (ih (i + 1) (n + s.size) (by omega) (by omega))
    simp only [juratref10_New.l0]
    rw [if_pos (by omega), if_pos (by omega), e, if_neg (fun x => h0 (toList_nil.1 x)), if_neg (by omega), wrap_id (by omega) (by omega), wrap_id (by omega) (by omega)]
    rfl
theorem rnew_ev (l : List ByteArray) : Ev (fun k => juratref10_New.f k l) (newB l) := by
  unfold newB
  by_cases h0 : l.length = 0
  · rw [if_pos h0]
    refine Ev.const fun k => ?_
    unfold juratref10_New.f
    rw [if_pos (by omega)]
  rw [if_neg h0]
  by_cases h1 : l.length > 65535
  · rw [if_pos h1]
    refine Ev.const fun k => ?_
    unfold juratref10_New.f
    rw [if_neg (by omega), if_pos (by omega)]
  rw [if_neg h1]
  have h := rnew_l0 l (by omega) l.length 0 0 (by omega) (by omega)
  rw [List.drop_zero] at h
  refine Ev.congr (fun k => ?_) h
  unfold juratref10_New.f
  rw [if_neg (by omega), if_neg (by omega)]
  rfl

/-- What the document tells of a list. -/
def minB (l : List ByteArray) : Nat := leastB (l.getD 0 ByteArray.empty).size l
theorem rleast_l0 (l : List ByteArray) (hl : l.length ≤ 9223372036854775806) : ∀ (d i n : Nat), i + d = l.length → 0 < i →
    Ev (fun k => juratref10_Least.l0 k l (n : Int) (i : Int)) (leastB n (l.drop i) : Int) := by
  intro d
  induction d with
  | zero =>
    intro i n hi h0
    rw [List.drop_of_length_le (by omega)]
    refine Ev.ret fun k => ?_
    simp only [juratref10_Least.l0]
    rw [if_neg (by omega)]
    rfl
  | succ d ih =>
    intro i n hi h0
    have hd := getD_drop l i ByteArray.empty (by omega)
    have e : rdOf ByteArray.empty l (i : Int) = l.getD i ByteArray.empty := rfl
    rw [hd]
    have ht : leastB n (l.getD i ByteArray.empty :: l.drop (i + 1)) = leastB (min n (l.getD i ByteArray.empty).size) (l.drop (i + 1)) := rfl
    rw [ht]
    refine Ev.step (f := fun k => juratref10_Least.l0 k l ((min n (l.getD i ByteArray.empty).size : Nat) : Int) ((i + 1 : Nat) : Int)) (fun k => ?_) (ih (i + 1) _ (by omega) (by omega))
    simp only [juratref10_Least.l0]
    rw [if_pos (by omega), if_neg (by omega), if_pos (by omega), e]
    by_cases h : (l.getD i ByteArray.empty).size < n
    · rw [if_pos (by omega), wrap_id (by omega) (by omega), Nat.min_eq_right (by omega)]; rfl
    · rw [if_neg (by omega), wrap_id (by omega) (by omega), Nat.min_eq_left (by omega)]; rfl
theorem rleast_ev (l : List ByteArray) (hl : l.length ≤ 9223372036854775806) : Ev (fun k => juratref10_Least.f k l) (minB l : Int) := by
  cases l with
  | nil => exact Ev.ret fun k => by simp [juratref10_Least.f, juratref10_Least.l0, minB, leastB, List.getD]
  | cons s l =>
    have h := rleast_l0 (s :: l) hl l.length 1 s.size (by rw [List.length_cons]; omega) (by omega)
    have e : minB (s :: l) = leastB s.size ((s :: l).drop 1) := by
      show leastB (min s.size s.size) l = leastB s.size l
      rw [Nat.min_self]
    rw [e]
    refine Ev.step (f := fun k => juratref10_Least.l0 k (s :: l) (s.size : Int) ((1 : Nat) : Int)) (fun k => ?_) h
    unfold juratref10_Least.f
    simp only [juratref10_Least.l0]
    rw [if_pos (by rw [List.length_cons]; omega), if_pos trivial, if_pos (by omega), wrap_id (by omega) (by omega)]
    rfl

end Go.Proofs.Ytnpkbnfiadkgnaa.Base

/- Proved here: what Go functions of this seat compute, or a law of it; no condition beyond the statement's own. Written for this claim by a program of this session (wip/myprint.py) over the kit's print.py. -/
namespace Go.Proofs.Ytnpkbnfiadkgnaa.P
open Go.RowKit Go.Proofs.YtnpkbnfiadkgnaaW.PrintWords Go.Proofs.YtnpkbnfiadkgnaaW.PrintLast Go.Proofs.YtnpkbnfiadkgnaaW.PrintMore
attribute [local go_sem] max2_int min2_int max_two min_two max_three min_three max_four min_four   -- for this text's walks alone
set_option linter.unusedVariables false
set_option linter.unusedSimpArgs false

/-! ### juratref10_Find: function 47 -/
def juratref10_Find.l0 : Nat → List ByteArray → ByteArray → Int → Option (Int)
  | 0, _, _, _ => none
  | k + 1, x0, x1, x5 => if x5 < (x0.length : Int) then (if 0 ≤ x5 then (if (rdOf ByteArray.empty x0 x5).toList = x1.toList then (some x5) else (juratref10_Find.l0 k x0 x1 (wrap64 (x5 + 1)))) else (none)) else (some (-1))
def juratref10_Find.f (k : Nat) (l0 : List ByteArray) (a1 : ByteArray) : Option (Int) := juratref10_Find.l0 k l0 a1 0
theorem juratref10_Find.mono_l : ∀ k, (∀ y0 y1 y2, LeO (juratref10_Find.l0 k y0 y1 y2) (juratref10_Find.l0 (k + 1) y0 y1 y2))
  | 0 => fun _ _ _ r h => by simp [juratref10_Find.l0] at h
  | k + 1 => by
    have ih0 := juratref10_Find.mono_l k
    · intro y0 y1 y2
      unfold juratref10_Find.l0
      repeat' first
      | (with_reducible exact ih0 _ _ _)
      | (with_reducible exact LeO.refl _)
      | (with_reducible exact LeO.none _)
      | (with_reducible refine LeO.ite ?_ ?_)
      | (with_reducible refine LeO.bind ?_ (fun _ => ?_))
      | exact ih0 _ _ _
      | exact LeO.none _
      | refine LeO.ite ?_ ?_
      | refine LeO.bind ?_ (fun _ => ?_)
theorem juratref10_Find.mono : ∀ a0 a1 k, LeO (juratref10_Find.f k a0 a1) (juratref10_Find.f (k + 1) a0 a1) := by
  intro a0 a1 k
  have ih0 := juratref10_Find.mono_l k
  unfold juratref10_Find.f
  repeat' first
      | (with_reducible exact ih0 _ _ _)
      | (with_reducible exact LeO.refl _)
      | (with_reducible exact LeO.none _)
      | (with_reducible refine LeO.ite ?_ ?_)
      | (with_reducible refine LeO.bind ?_ (fun _ => ?_))
      | exact ih0 _ _ _
      | exact LeO.none _
      | refine LeO.ite ?_ ?_
      | refine LeO.bind ?_ (fun _ => ?_)
set_option maxHeartbeats 8000000 in
set_option maxRecDepth 100000 in
theorem juratref10_Find.calls (k : Nat) (A0 : Option Addr) (c0 : Nat) (l0 : List ByteArray) (a1 : ByteArray) (r : Int) (w : World) (hr0 : Kd.C Kd.string w A0 l0.length l0) (hc0 : l0.length ≤ c0) (h : juratref10_Find.f k l0 a1 = some r) :
    Calls Try.prog 47 #[.slice A0 l0.length c0, .string a1] w fun e w' => e = .returned (.int .i64 r) ∧ Drawn0 w w' := by
  have HR0 := Aside0.mk hr0
  have HC0 := Aside0.mk hc0
  clear hr0 hc0
  have H : (juratref10_Find.l0 k l0 a1 0) = some r := h
  clear h
  have H' := Aside0.mk H
  clear H
  go_enter Try.func47, Try.ntmps47
  go_wp2
  go_loopg [5] k (fun kq v5 w' => ∃ (x5_1 : Int), v5 = .int .i64 x5_1 ∧ Aside0 (juratref10_Find.l0 kq l0 a1 x5_1 = some r) ∧ Aside0 (kq ≤ k) ∧ Drawn0 w w')
  case atStart => exact ⟨(0), (by first | rfl | exact isE_ _ | exact isE2_ _ | (simp; done) | (simp [*]; done)), H', ⟨Nat.le_refl _⟩, by repeat (first | exact Drawn0.refl _ | apply Drawn0.step)⟩
  case round =>
    clear H'
    try clear p2
    obtain ⟨x5_1, rfl, HA, HK1, ⟨m1, rfl⟩⟩ := hrel
    cases gk with
    | zero => exact absurd HA.out (by simp [juratref10_Find.l0])
    | succ k1 =>
      have H := HA.out
      clear HA
      simp only [juratref10_Find.l0] at H
      by_cases c3 : x5_1 < (l0.length : Int)
      · rw [if_pos c3] at H
        have c3b0 : decide (x5_1 < (l0.length : Int)) = true := decide_eq_true c3
        clear c3
        by_cases c4 : 0 ≤ x5_1
        · rw [if_pos c4] at H
          have c4b0 : decide (0 ≤ x5_1) = true := decide_eq_true c4
          clear c4
          by_cases c5 : (rdOf ByteArray.empty l0 x5_1).toList = a1.toList
          · rw [if_pos c5] at H
            have c5b0 : ((rdOf ByteArray.empty l0 x5_1).toList == a1.toList) = true := beq_iff_eq.mpr c5
            have c5b1 : ((rdOf ByteArray.empty l0 x5_1).toList != a1.toList) = false := bne_eq_false_iff_eq.mpr c5
            clear c5
            obtain rfl := Option.some.inj H
            have p364 : 0 ≤ (x5_1 : Int) := of_decide_eq_true (by first | (with_reducible assumption) | assumption)
            have q364 : x5_1 < (l0.length : Int) := of_decide_eq_true (by first | (with_reducible assumption) | assumption)
            obtain ⟨ad364, e364, hx364_0⟩ := Kd.at_string HR0.out x5_1 p364 q364
            cases e364
            replace p364 := eq_true p364
            replace q364 := eq_true q364
            go_wp2
            go_ret
            exact ⟨by first | rfl | (simp; done) | (simp [*]; done), by repeat (first | exact Drawn0.refl _ | apply Drawn0.step)⟩
          · rw [if_neg c5] at H
            have c5b0 : ((rdOf ByteArray.empty l0 x5_1).toList == a1.toList) = false := beq_eq_false_iff_ne.mpr c5
            have c5b1 : ((rdOf ByteArray.empty l0 x5_1).toList != a1.toList) = true := bne_iff_ne.mpr c5
            have H' := Aside0.mk H
            clear H
            have p364 : 0 ≤ (x5_1 : Int) := of_decide_eq_true (by first | (with_reducible assumption) | assumption)
            have q364 : x5_1 < (l0.length : Int) := of_decide_eq_true (by first | (with_reducible assumption) | assumption)
            obtain ⟨ad364, e364, hx364_0⟩ := Kd.at_string HR0.out x5_1 p364 q364
            cases e364
            replace p364 := eq_true p364
            replace q364 := eq_true q364
            go_wp2
            go_roundg k1
            case measure => have := HK1.out; omega
            case rel => exact ⟨(wrap64 (x5_1 + 1)), (by first | rfl | exact isE_ _ | exact isE2_ _ | (simp; done) | (simp [*]; done)), H', ⟨by have := HK1.out; omega⟩, by repeat (first | exact Drawn0.refl _ | apply Drawn0.step)⟩
        · rw [if_neg c4] at H
          exact absurd H (by simp)
      · rw [if_neg c3] at H
        have c3b0 : decide (x5_1 < (l0.length : Int)) = false := decide_eq_false c3
        clear c3
        obtain rfl := Option.some.inj H
        go_wp2
        go_ret
        exact ⟨by first | rfl | (simp; done) | (simp [*]; done), by repeat (first | exact Drawn0.refl _ | apply Drawn0.step)⟩

end Go.Proofs.Ytnpkbnfiadkgnaa.P

/- What layer 10's reference computes, as plain functions on lists of texts, and that layer 10's set is it; no condition beyond the sizes that stand in each statement. -/
namespace Go.Proofs.Ytnpkbnfiadkgnaa.Base
open Go Go.RowKit Go.Proofs.YtnpkbnfiadkgnaaW.PrintWords Go.Proofs.YtnpkbnfiadkgnaaW.PrintMore Go.Proofs.Ytnpkbnfiadkgnaa.P
set_option linter.unusedVariables false

/-- Where a text stands first; -1: nowhere. -/
def findB (s : ByteArray) : List ByteArray → Nat → Int
  | [], _ => -1
  | x :: l, i => if x = s then (i : Int) else findB s l (i + 1)
theorem rfind_l0 (l : List ByteArray) (s : ByteArray) (hl : l.length ≤ 9223372036854775806) : ∀ (d i : Nat), i + d = l.length →
    Ev (fun k => juratref10_Find.l0 k l s (i : Int)) (findB s (l.drop i) i) := by
  intro d
  induction d with
  | zero =>
    intro i hi
    rw [List.drop_of_length_le (by omega)]
    refine Ev.ret fun k => ?_
    simp only [juratref10_Find.l0]
    rw [if_neg (by omega)]
    rfl
  | succ d ih =>
    intro i hi
    have hd := getD_drop l i ByteArray.empty (by omega)
    have e : rdOf ByteArray.empty l (i : Int) = l.getD i ByteArray.empty := rfl
    rw [hd]
    by_cases h : l.getD i ByteArray.empty = s
    · have hf : findB s (l.getD i ByteArray.empty :: l.drop (i + 1)) i = (i : Int) := if_pos h
      rw [hf]
      refine Ev.ret fun k => ?_
      simp only [juratref10_Find.l0]
      rw [if_pos (by omega), if_pos (by omega), e, if_pos (toList_iff.2 h)]
    · have hf : findB s (l.getD i ByteArray.empty :: l.drop (i + 1)) i = findB s (l.drop (i + 1)) (i + 1) := if_neg h
      rw [hf]
      refine Ev.step (f := fun k => juratref10_Find.l0 k l s ((i + 1 : Nat) : Int)) (fun k => ?_) (ih (i + 1) (by omega))
      simp only [juratref10_Find.l0]
      rw [if_pos (by omega), if_pos (by omega), e, if_neg (fun x => h (toList_iff.1 x)), wrap_id (by omega) (by omega)]
      rfl
theorem rfind10_ev (l : List ByteArray) (s : ByteArray) (hl : l.length ≤ 9223372036854775806) : Ev (fun k => juratref10_Find.f k l s) (findB s l 0) := by
  have h := rfind_l0 l s hl l.length 0 (by omega)
  rw [List.drop_zero] at h
  exact h

end Go.Proofs.Ytnpkbnfiadkgnaa.Base

/- What is told of a set of patterns, of the list in order and of the list as it came; layer 10's examples; no condition beyond the sizes that stand in each statement. -/
namespace Go.Proofs.Ytnpkbnfiadkgnaa.Base
open Go Go.RowKit Go.Proofs.YtnpkbnfiadkgnaaW.PrintWords Go.Proofs.YtnpkbnfiadkgnaaW.PrintMore Go.Proofs.Ytnpkbnfiadkgnaa.P
set_option linter.unusedVariables false

theorem findB_up (s : ByteArray) : ∀ (l : List ByteArray) (i : Nat), upB l → findB s l i = if inB s l = true then ((i + aheadB s l : Nat) : Int) else -1
  | [], i, _ => rfl
  | x :: l, i, h => by
    obtain ⟨h1, h2⟩ := List.pairwise_cons.1 h
    have ih := findB_up s l (i + 1) h2
    have ef : findB s (x :: l) i = if x = s then (i : Int) else findB s l (i + 1) := rfl
    rw [ef]
    by_cases hx : x = s
    · subst hx
      rw [if_pos rfl, if_pos (inB_iff.2 List.mem_cons_self), aheadB_none x (x :: l) (fun y hy => by
        rcases List.mem_cons.1 hy with rfl | hy
        · exact bl_irrefl _
        · exact h1 y hy)]
      rfl
    · rw [if_neg hx, inB_cons, decide_eq_false hx, Bool.false_or, ih]
      cases hb : Op.bytesLess (LL x) (LL s) with
      | true =>
        have e : aheadB s (x :: l) = aheadB s l + 1 := by unfold aheadB; rw [List.countP_cons_of_pos (by simpa using hb)]
        rw [e, show i + 1 + aheadB s l = i + (aheadB s l + 1) by omega]
      | false =>
        have hn : ¬ inB s l = true := fun hi => by
          rcases bl_tri (LL x) (LL s) with h' | h' | h'
          · exact hx (LL_inj h')
          · rw [hb] at h'; cases h'
          · rw [h1 s (inB_iff.1 hi)] at h'; cases h'
        rw [if_neg hn, if_neg hn]
theorem fold_perm {β : Type} (f : β → ByteArray → β) (hc : ∀ a x y, f (f a x) y = f (f a y) x) {l m : List ByteArray} (h : l.Perm m) : ∀ a, l.foldl f a = m.foldl f a := by
  induction h with
  | nil => intro a; rfl
  | cons x _ ih => intro a; exact ih _
  | swap x y l => intro a; simp only [List.foldl_cons]; rw [hc]
  | trans _ _ ih1 ih2 => intro a; rw [ih1, ih2]
theorem total_perm {l m : List ByteArray} (h : l.Perm m) : totalB 0 l = totalB 0 m := fold_perm _ (fun a x y => by omega) h 0
theorem most_perm {l m : List ByteArray} (h : l.Perm m) : mostB 0 l = mostB 0 m := fold_perm _ (fun a x y => by omega) h 0
theorem least_spec : ∀ (l : List ByteArray) (a : Nat), leastB a l ≤ a ∧ (∀ s ∈ l, leastB a l ≤ s.size) ∧ (leastB a l = a ∨ ∃ s ∈ l, leastB a l = s.size)
  | [], a => ⟨Nat.le_refl _, by simp, .inl rfl⟩
  | x :: l, a => by
    obtain ⟨h1, h2, h3⟩ := least_spec l (min a x.size)
    have e : leastB a (x :: l) = leastB (min a x.size) l := rfl
    rw [e]
    refine ⟨by omega, fun s hs => ?_, ?_⟩
    · rcases List.mem_cons.1 hs with rfl | hs
      · omega
      · exact h2 s hs
    · rcases h3 with h3 | ⟨s, hs, h3⟩
      · by_cases ha : a ≤ x.size
        · left; omega
        · right; exact ⟨x, List.mem_cons_self, by omega⟩
      · right; exact ⟨s, List.mem_cons_of_mem _ hs, h3⟩
theorem min_spec (l : List ByteArray) (h : 0 < l.length) : (∀ s ∈ l, minB l ≤ s.size) ∧ ∃ s ∈ l, minB l = s.size := by
  obtain ⟨h1, h2, h3⟩ := least_spec l (l.getD 0 ByteArray.empty).size
  refine ⟨h2, ?_⟩
  rcases h3 with h3 | h3
  · exact ⟨_, getD_mem l 0 ByteArray.empty h, h3⟩
  · exact h3
theorem min_perm {l m : List ByteArray} (h : l.Perm m) (h0 : 0 < l.length) : minB l = minB m := by
  obtain ⟨a1, s, hs, a2⟩ := min_spec l h0
  obtain ⟨b1, t, ht, b2⟩ := min_spec m (by rw [← h.length_eq]; exact h0)
  have := a1 t (h.mem_iff.2 ht)
  have := b1 s (h.mem_iff.1 hs)
  omega

/-- A set that is made of texts. -/
def setB (l : List ByteArray) : SetD := ⟨sortB l, (minB l : Nat), (mostB 0 l : Nat), (totalB 0 l : Nat)⟩
theorem new_cases (l : List ByteArray) :
    (∃ e, e ≠ 0 ∧ pats_New.f l = some (none, e) ∧ newB l = ([], e)) ∨
    (pats_New.f l = some (some (setB l), 0) ∧ newB l = (sortB l, 0) ∧ 0 < l.length ∧ l.length ≤ 65535 ∧ badB l = 0 ∧ totalB 0 l ≤ 16777216 ∧ twB [] l 0 < 0) := by
  unfold pats_New.f newB
  by_cases h0 : l.length = 0
  · exact .inl ⟨14, by decide, by rw [if_pos h0], by rw [if_pos h0]⟩
  by_cases h1 : l.length > 65535
  · exact .inl ⟨6, by decide, by rw [if_neg h0, if_pos h1], by rw [if_neg h0, if_pos h1]⟩
  by_cases h2 : badB l ≠ 0
  · exact .inl ⟨_, h2, by rw [if_neg h0, if_neg h1, if_pos h2], by rw [if_neg h0, if_neg h1, if_pos h2]⟩
  by_cases h3 : totalB 0 l > 16777216
  · exact .inl ⟨13, by decide, by rw [if_neg h0, if_neg h1, if_neg h2, if_pos h3], by rw [if_neg h0, if_neg h1, if_neg h2, if_pos h3]⟩
  by_cases h4 : twB [] l 0 ≥ 0
  · exact .inl ⟨8, by decide, by rw [if_neg h0, if_neg h1, if_neg h2, if_neg h3, if_pos h4], by rw [if_neg h0, if_neg h1, if_neg h2, if_neg h3, if_pos h4]⟩
  refine .inr ⟨by rw [if_neg h0, if_neg h1, if_neg h2, if_neg h3, if_neg h4]; rfl, by rw [if_neg h0, if_neg h1, if_neg h2, if_neg h3, if_neg h4], by omega, by omega, Classical.not_not.1 h2, by omega, by omega⟩


end Go.Proofs.Ytnpkbnfiadkgnaa.Base

/- A number under a mask; no condition beyond those in the statement. -/
namespace Go.Proofs.Ytnpkbnfiadkgnaa.Base
open Go Go.RowKit Go.Proofs.YtnpkbnfiadkgnaaW.PrintWords Go.Proofs.YtnpkbnfiadkgnaaW.PrintLast Go.Proofs.YtnpkbnfiadkgnaaW.PrintMore

theorem bits_and_mask (x : Int) (m : Nat) (hm : m < 9223372036854775808) : 0 ≤ Go.bits .and .i64 x (m : Int) ∧ Go.bits .and .i64 x (m : Int) ≤ m := by
  have h : Go.bits .and .i64 x (m : Int) = IntKind.i64.wrap (((BitVec.ofInt 64 x &&& BitVec.ofInt 64 (m : Int)).toNat : Int)) := rfl
  have h2 : (BitVec.ofInt 64 x &&& BitVec.ofInt 64 (m : Int)).toNat ≤ m := by
    rw [BitVec.toNat_and]
    refine Nat.le_trans Nat.and_le_right ?_
    rw [BitVec.toNat_ofInt]
    omega
  rw [h, i64_w, wrap_id (by omega) (by omega)]
  omega

end Go.Proofs.Ytnpkbnfiadkgnaa.Base

/- Sets of the same patterns are one, in whatever order these come; a pattern is found by its number; no condition beyond the sizes that stand in each statement. -/
namespace Go.Proofs.Ytnpkbnfiadkgnaa.Base
open Go Go.RowKit Go.Proofs.YtnpkbnfiadkgnaaW.PrintWords Go.Proofs.YtnpkbnfiadkgnaaW.PrintLast Go.Proofs.YtnpkbnfiadkgnaaW.PrintMore Go.Proofs.Ytnpkbnfiadkgnaa.P
set_option linter.unusedVariables false

theorem twB_iff : ∀ (l seen : List ByteArray) (i : Nat), twB seen l i < 0 ↔ (l.Nodup ∧ ∀ x ∈ l, ¬ inB x seen = true)
  | [], seen, i => by simp [twB]
  | x :: l, seen, i => by
    simp only [twB]
    by_cases h : inB x seen = true
    · rw [if_pos h]
      constructor
      · intro h'; omega
      · rintro ⟨_, h'⟩; exact absurd h (h' x List.mem_cons_self)
    · rw [if_neg h, twB_iff l (seen ++ [x]) (i + 1), List.nodup_cons]
      constructor
      · rintro ⟨h1, h2⟩
        refine ⟨⟨fun hx => ?_, h1⟩, fun y hy => ?_⟩
        · have := h2 x hx
          rw [inB_snoc] at this
          simp at this
        · rcases List.mem_cons.1 hy with rfl | hy
          · exact h
          · have := h2 y hy
            rw [inB_snoc] at this
            intro h3
            rw [h3] at this
            simp at this
      · rintro ⟨⟨h1, h2⟩, h3⟩
        refine ⟨h2, fun y hy => ?_⟩
        rw [inB_snoc]
        intro h4
        rcases Bool.or_eq_true_iff.1 h4 with h4 | h4
        · exact h3 y (List.mem_cons_of_mem _ hy) h4
        · exact h1 (by rw [of_decide_eq_true h4]; exact hy)
theorem nodup_of_tw {l : List ByteArray} (h : twB [] l 0 < 0) : l.Nodup := ((twB_iff l [] 0).1 h).1
theorem tw_of_nodup {l : List ByteArray} (h : l.Nodup) : twB [] l 0 < 0 := (twB_iff l [] 0).2 ⟨h, fun x _ => by simp [inB]⟩
theorem badB_iff : ∀ (l : List ByteArray), badB l = 0 ↔ ∀ s ∈ l, chkB s = 0
  | [] => by simp [badB]
  | s :: l => by
    simp only [badB]
    by_cases h : chkB s = 0
    · rw [if_pos h, badB_iff l]
      simp [h]
    · rw [if_neg h]
      simp [h]
theorem setB_perm {l m : List ByteArray} (h : l.Perm m) (h0 : 0 < l.length) : setB l = setB m := by
  have e : sortB l = sortB m := sortB_of ((sortB_perm l).trans h) (sortB_up l)
  unfold setB
  rw [e, min_perm h h0, most_perm h, total_perm h]
/-- Texts that make a set make it in any order. -/
theorem new_perm {l m : List ByteArray} (h : l.Perm m) (hp : 0 < l.length) (h1 : l.length ≤ 65535) (h2 : badB l = 0) (h3 : totalB 0 l ≤ 16777216) (h4 : twB [] l 0 < 0) :
    pats_New.f m = some (some (setB l), 0) := by
  have e := h.length_eq
  rcases new_cases m with ⟨c, hc, hn, hw⟩ | ⟨hn, _⟩
  · exfalso
    unfold pats_New.f at hn
    have b2 : badB m = 0 := (badB_iff m).2 fun s hs => (badB_iff l).1 h2 s (h.mem_iff.2 hs)
    have b4 := tw_of_nodup ((h.nodup_iff).1 (nodup_of_tw h4))
    rw [if_neg (by omega), if_neg (by omega), if_neg (by rw [b2]; simp), if_neg (by rw [← total_perm h]; omega), if_neg (by omega)] at hn
    have := (Prod.mk.inj (Option.some.inj hn)).1
    cases this
  · rw [hn, setB_perm h hp]
theorem findB_mem (s : ByteArray) : ∀ (l : List ByteArray) (i : Nat), s ∈ l → ∃ n, findB s l i = ((i + n : Nat) : Int) ∧ n < l.length ∧ l.getD n ByteArray.empty = s
  | [], i, h => by cases h
  | x :: l, i, h => by
    have ef : findB s (x :: l) i = if x = s then (i : Int) else findB s l (i + 1) := rfl
    rw [ef]
    by_cases hx : x = s
    · rw [if_pos hx]
      exact ⟨0, rfl, by simp, by simpa using hx⟩
    · rw [if_neg hx]
      rcases List.mem_cons.1 h with rfl | h
      · exact absurd rfl hx
      · obtain ⟨n, h1, h2, h3⟩ := findB_mem s l (i + 1) h
        exact ⟨n + 1, by rw [h1]; congr 1; omega, by rw [List.length_cons]; omega, by rw [List.getD_cons_succ]; exact h3⟩
theorem list_is (l : List ByteArray) (h : l.length ≤ 65535) : pats_Set_List.f (some (setB l)) = some (sortB l) := by
  show (if (sortB l).length ≤ 8796093022208 then some (sortB l) else none) = _
  rw [if_pos (by rw [sortB_length]; omega)]
end Go.Proofs.Ytnpkbnfiadkgnaa.Base

/- A set of texts and its list, made or not, told together; no condition beyond the sizes that stand in each statement. -/
namespace Go.Proofs.Ytnpkbnfiadkgnaa.Base
open Go Go.RowKit Go.Proofs.YtnpkbnfiadkgnaaW.PrintWords Go.Proofs.YtnpkbnfiadkgnaaW.PrintMore Go.Proofs.Ytnpkbnfiadkgnaa.P
set_option linter.unusedVariables false

/-- What is made of texts: a set or none, its list, why there is none. -/
structure SetOk (l : List ByteArray) (x : Option SetD) (w : List ByteArray) (e : Int) : Prop where
  hn : pats_New.f l = some (x, e)
  hw : newB l = (w, e)
  hL : setL x = w
  hM : setM x = minB w
  mem : ∀ s ∈ w, s ∈ l
  len : w.length ≤ l.length
  few : w.length ≤ 65535
  size : ∀ s ∈ w, s.size ≤ 65535
  up : upB w
  pos : ∀ s ∈ w, 0 < s.size
  nodup : w.Nodup
  kind : (e = 0 ∧ 0 < w.length ∧ x = some (setB l) ∧ w = sortB l ∧ w.length = l.length) ∨ (e ≠ 0 ∧ x = none ∧ w = [])
theorem chkB_pos {s : ByteArray} (h : chkB s = 0) : 0 < s.size ∧ s.size ≤ 65535 := by
  unfold chkB at h
  by_cases h1 : s.size = 0
  · rw [if_pos h1] at h; omega
  · rw [if_neg h1] at h
    by_cases h2 : s.size > 65535
    · rw [if_pos h2] at h; omega
    · omega
theorem set_ok (l : List ByteArray) : ∃ x w e, SetOk l x w e := by
  rcases new_cases l with ⟨e, he, hn, hw⟩ | ⟨hn, hw, hp, hl, hb, ht, hd⟩
  · exact ⟨none, [], e, hn, hw, rfl, rfl, by simp, by simp, by simp, by simp, List.Pairwise.nil, by simp, List.nodup_nil, .inr ⟨he, rfl, rfl⟩⟩
  · have hm := fun s => (sortB_perm l).mem_iff (a := s)
    have hlen := sortB_length l
    refine ⟨some (setB l), sortB l, 0, hn, hw, rfl, ?_, fun s hs => (hm s).1 hs, by omega, by omega, fun s hs => (chkB_pos ((badB_iff l).1 hb s ((hm s).1 hs))).2, sortB_up l, fun s hs => (chkB_pos ((badB_iff l).1 hb s ((hm s).1 hs))).1, ((sortB_perm l).nodup_iff).2 (nodup_of_tw hd), .inl ⟨rfl, by omega, rfl, rfl, by omega⟩⟩
    show ((minB l : Nat) : Int) = _
    rw [min_perm (sortB_perm l).symm hp]
theorem min_le {w : List ByteArray} : ∀ s ∈ w, minB w ≤ s.size := fun s hs => (min_spec w (List.length_pos_of_mem hs)).1 s hs
theorem list_ok {l w : List ByteArray} {x : Option SetD} {e : Int} (h : SetOk l x w e) : pats_Set_List.f x = some w := by
  rcases h.kind with ⟨_, _, rfl, rfl, _⟩ | ⟨_, rfl, rfl⟩
  · exact list_is l (by have := h.few; rw [sortB_length] at this; exact this)
  · rfl
theorem rnew_ok {l w : List ByteArray} {x : Option SetD} {e : Int} (h : SetOk l x w e) : Ev (fun k => juratref10_New.f k l) (w, e) := by
  have := rnew_ev l
  rw [h.hw] at this
  exact this

end Go.Proofs.Ytnpkbnfiadkgnaa.Base

/- A pair's shift by its definition, and how many pairs there are: what the table of pairs tells; no condition beyond the sizes that stand in each statement. -/
namespace Go.Proofs.Ytnpkbnfiadkgnaa.Base
open Go Go.RowKit Go.Maps Go.Proofs.YtnpkbnfiadkgnaaW.PrintWords Go.Proofs.YtnpkbnfiadkgnaaW.PrintMore Go.Proofs.Ytnpkbnfiadkgnaa.P
set_option linter.unusedVariables false

/-- What is known of a table, of the pairs that were seen. -/
structure PrInv (seen : ByteArray → Nat → Prop) (D : DataW Unit) : Prop where
  map : IsMap D
  has : ∀ a b : UInt8, Maps.has D (key2 (a.toNat : Int) (b.toNat : Int)) = true ↔ ∃ s d, seen s d ∧ pB s (d + 1) = a ∧ pB s d = b
  le : ∀ s d, seen s d → prV D (prK s d) ≤ (d : Int)
  at_ : ∀ a b : UInt8, Maps.has D (key2 (a.toNat : Int) (b.toNat : Int)) = true → ∃ s d, seen s d ∧ pB s (d + 1) = a ∧ pB s d = b ∧ prV D (key2 (a.toNat : Int) (b.toNat : Int)) = (d : Int)
theorem prK_key (s : ByteArray) (d : Nat) : WideAt.IsKeyLit (prK s d) := trivial
theorem prV_same {D : DataW Unit} (h : IsMap D) (a b c : Int) : prV (D.put (key2 a b) (.lit (.int .i64 c))) (key2 a b) = c := by
  unfold prV
  rw [atKey_put_same h (key2_key a b)]
theorem prV_other {D : DataW Unit} {k k' : Lit} (h : k' ≠ k) (c : Int) : prV (D.put k (.lit (.int .i64 c))) k' = prV D k' := by
  unfold prV
  rw [atKey_put_other h]
theorem prInv_put {seen : ByteArray → Nat → Prop} {D : DataW Unit} (h : PrInv seen D) (s : ByteArray) (d : Nat) : PrInv (fun s' d' => seen s' d' ∨ s' = s ∧ d' = d) (prPut s D d) := by
  unfold prPut
  by_cases hc : Maps.has D (prK s d) = true ∧ prV D (prK s d) ≤ (d : Int)
  · rw [if_pos hc]
    refine ⟨h.map, fun a b => ?_, ?_, fun a b hh => ?_⟩
    · rw [h.has]
      constructor
      · rintro ⟨s', d', h1, h2⟩; exact ⟨s', d', .inl h1, h2⟩
      · rintro ⟨s', d', h1 | ⟨rfl, rfl⟩, h2, h3⟩
        · exact ⟨s', d', h1, h2, h3⟩
        · obtain ⟨s2, d2, g1, g2, g3⟩ := (h.has _ _).1 hc.1
          exact ⟨s2, d2, g1, g2.trans h2, g3.trans h3⟩
    · rintro s' d' (h1 | ⟨rfl, rfl⟩)
      · exact h.le s' d' h1
      · omega
    · obtain ⟨s', d', h1, h2⟩ := h.at_ a b hh
      exact ⟨s', d', .inl h1, h2⟩
  · rw [if_neg hc]
    refine ⟨h.map.put _ _, fun a b => ?_, ?_, fun a b hh => ?_⟩
    · by_cases hk : key2 (a.toNat : Int) (b.toNat : Int) = prK s d
      · rw [hk, has_put_same h.map (prK_key _ _)]
        obtain ⟨e1, e2⟩ := key2_inj hk
        exact ⟨fun _ => ⟨s, d, .inr ⟨rfl, rfl⟩, e1.symm, e2.symm⟩, fun _ => rfl⟩
      · rw [has_put_other hk, h.has]
        constructor
        · rintro ⟨s', d', h1, h2⟩; exact ⟨s', d', .inl h1, h2⟩
        · rintro ⟨s', d', h1 | ⟨rfl, rfl⟩, h2, h3⟩
          · exact ⟨s', d', h1, h2, h3⟩
          · exact absurd (by unfold prK; rw [h2, h3]) hk
    · rintro s' d' h1
      by_cases hk : prK s' d' = prK s d
      · rw [hk]
        unfold prK
        rw [prV_same h.map]
        rcases h1 with h1 | ⟨rfl, rfl⟩
        · have := h.le s' d' h1
          rw [hk] at this
          have hh : Maps.has D (prK s d) = true := by
            rw [← hk]; exact (h.has _ _).2 ⟨s', d', h1, rfl, rfl⟩
          have : (d : Int) < prV D (prK s d) := Classical.byContradiction fun hn => hc ⟨hh, Int.not_lt.1 hn⟩
          omega
        · omega
      · rw [prV_other hk]
        rcases h1 with h1 | ⟨rfl, rfl⟩
        · exact h.le s' d' h1
        · exact absurd rfl hk
    · by_cases hk : key2 (a.toNat : Int) (b.toNat : Int) = prK s d
      · obtain ⟨e1, e2⟩ := key2_inj hk
        refine ⟨s, d, .inr ⟨rfl, rfl⟩, e1.symm, e2.symm, ?_⟩
        rw [hk]
        exact prV_same h.map _ _ _
      · rw [has_put_other hk] at hh
        obtain ⟨s', d', h1, h2, h3, h4⟩ := h.at_ a b hh
        exact ⟨s', d', .inl h1, h2, h3, by rw [prV_other hk]; exact h4⟩
theorem prInv_imp {seen seen' : ByteArray → Nat → Prop} {D : DataW Unit} (h : PrInv seen D) (hi : ∀ s d, seen s d ↔ seen' s d) : PrInv seen' D := by
  have : seen = seen' := by funext s d; exact propext (hi s d)
  rw [← this]; exact h
theorem prInv_row {seen : ByteArray → Nat → Prop} {D : DataW Unit} (h : PrInv seen D) (s : ByteArray) : ∀ n, PrInv (fun s' d' => seen s' d' ∨ s' = s ∧ d' < n) ((List.range n).foldl (prPut s) D)
  | 0 => prInv_imp h (fun s' d' => by simp)
  | n + 1 => by
    rw [List.range_succ, List.foldl_append]
    refine prInv_imp (prInv_put (prInv_row h s n) s n) (fun s' d' => ?_)
    constructor
    · rintro ((h | ⟨h1, h2⟩) | ⟨h1, h2⟩)
      · exact .inl h
      · exact .inr ⟨h1, by omega⟩
      · exact .inr ⟨h1, by omega⟩
    · rintro (h | ⟨h1, h2⟩)
      · exact .inl (.inl h)
      · by_cases h3 : d' = n
        · exact .inr ⟨h1, h3⟩
        · exact .inl (.inr ⟨h1, by omega⟩)
theorem prInv_fold {m : Nat} : ∀ (l : List ByteArray) (seen : ByteArray → Nat → Prop) (D : DataW Unit), PrInv seen D → PrInv (fun s' d' => seen s' d' ∨ s' ∈ l ∧ d' < m) (l.foldl (prRow m) D)
  | [], seen, D, h => prInv_imp h (fun s' d' => by simp)
  | s :: l, seen, D, h => by
    refine prInv_imp (prInv_fold l _ _ (prInv_row h s m)) (fun s' d' => ?_)
    rw [List.mem_cons]
    constructor
    · rintro ((h | ⟨rfl, h2⟩) | ⟨h1, h2⟩)
      · exact .inl h
      · exact .inr ⟨.inl rfl, h2⟩
      · exact .inr ⟨.inr h1, h2⟩
    · rintro (h | ⟨rfl | h1, h2⟩)
      · exact .inl (.inl h)
      · exact .inl (.inr ⟨rfl, h2⟩)
      · exact .inr ⟨h1, h2⟩
theorem has_nil (k : Lit) : Maps.has (.map [] : DataW Unit) k = false := rfl
theorem prInv_tab (m : Nat) (l : List ByteArray) : PrInv (fun s d => s ∈ l ∧ d < m) (prTab m l) := by
  have h0 : PrInv (fun _ _ => False) (.map [] : DataW Unit) := ⟨isMap_empty, fun a b => by rw [has_nil]; simp, fun _ _ h => h.elim, fun a b h => by rw [has_nil] at h; cases h⟩
  exact prInv_imp (prInv_fold l _ _ h0) (fun s d => by simp)

/-- Two bytes' shift. -/
def prN (w : List ByteArray) (a b : UInt8) : Int := if Maps.has (prTab (minB w - 1) w) (key2 (a.toNat : Int) (b.toNat : Int)) = true then prV (prTab (minB w - 1) w) (key2 (a.toNat : Int) (b.toNat : Int)) else ((minB w - 1 : Nat) : Int)
theorem prN_spec (w : List ByteArray) (a b : UInt8) : 0 ≤ prN w a b ∧ prN w a b ≤ ((minB w - 1 : Nat) : Int) ∧ (∀ s ∈ w, ∀ d, d < minB w - 1 → pB s (d + 1) = a → pB s d = b → prN w a b ≤ (d : Int)) ∧
    (prN w a b = ((minB w - 1 : Nat) : Int) ∨ ∃ s ∈ w, ∃ d, d < minB w - 1 ∧ pB s (d + 1) = a ∧ pB s d = b ∧ prN w a b = (d : Int)) := by
  have h := prInv_tab (minB w - 1) w
  unfold prN
  by_cases hh : Maps.has (prTab (minB w - 1) w) (key2 (a.toNat : Int) (b.toNat : Int)) = true
  · rw [if_pos hh]
    obtain ⟨s, d, ⟨hs, hd⟩, h1, h2, h3⟩ := h.at_ a b hh
    refine ⟨by omega, by omega, fun s' hs' d' hd' e1 e2 => ?_, .inr ⟨s, hs, d, hd, h1, h2, h3⟩⟩
    have := h.le s' d' ⟨hs', hd'⟩
    unfold prK at this
    rw [e1, e2] at this
    exact this
  · rw [if_neg hh]
    refine ⟨by omega, by omega, fun s' hs' d' hd' e1 e2 => ?_, .inl rfl⟩
    exact absurd ((h.has a b).2 ⟨s', d', ⟨hs', hd'⟩, e1, e2⟩) hh

/-! how many pairs there are -/
def pr2 (s : ByteArray) (d : Nat) : ByteArray := s.extract (s.size - 2 - d) (s.size - d)
theorem pr2_LL {s : ByteArray} {d : Nat} (h : d + 2 ≤ s.size) : LL (pr2 s d) = [pB s (d + 1), pB s d] := by
  unfold pr2 pB
  rw [LL_extract]
  apply List.ext_getElem?
  intro i
  rw [List.getElem?_drop]
  by_cases hi : i < 2
  · rw [List.getElem?_take_of_lt (by omega)]
    have hl : s.size - 2 - d + i < (LL s).length := by rw [LL_length]; omega
    have hl2 : s.size - 1 - (d + 1) < (LL s).length := by rw [LL_length]; omega
    have hl3 : s.size - 1 - d < (LL s).length := by rw [LL_length]; omega
    rw [List.getElem?_eq_getElem hl, List.getD_eq_getElem?_getD, List.getD_eq_getElem?_getD, List.getElem?_eq_getElem hl2, List.getElem?_eq_getElem hl3]
    have : i = 0 ∨ i = 1 := by omega
    rcases this with rfl | rfl
    · simp only [List.getElem?_cons_zero, Option.getD_some]
      congr 2
      omega
    · simp only [List.getElem?_cons_succ, List.getElem?_cons_zero, Option.getD_some]
      congr 2
      omega
  · rw [List.getElem?_eq_none (by rw [List.length_take, LL_length]; omega), List.getElem?_eq_none (by simp; omega)]
theorem pr2_iff {s s' : ByteArray} {d d' : Nat} (h : d + 2 ≤ s.size) (h' : d' + 2 ≤ s'.size) : prK s' d' = prK s d ↔ pr2 s' d' = pr2 s d := by
  constructor
  · intro hk
    obtain ⟨e1, e2⟩ := key2_inj hk
    apply LL_inj
    rw [pr2_LL h, pr2_LL h', e1, e2]
  · intro he
    have := congrArg LL he
    rw [pr2_LL h, pr2_LL h'] at this
    injection this with e1 this
    injection this with e2 _
    unfold prK
    rw [e1, e2]
def bePut (s : ByteArray) (B : List ByteArray) (d : Nat) : List ByteArray := if inB (pr2 s d) B = true then B else B ++ [pr2 s d]
def beRow (m : Nat) (B : List ByteArray) (s : ByteArray) : List ByteArray := (List.range m).foldl (bePut s) B
def beTab (m : Nat) (l : List ByteArray) : List ByteArray := l.foldl (beRow m) []
structure BeInv (D : DataW Unit) (B : List ByteArray) : Prop where
  tidy : Tidy D
  size : Maps.size D = B.length
  has : ∀ s d, d + 2 ≤ s.size → (Maps.has D (prK s d) = true ↔ inB (pr2 s d) B = true)
theorem beInv_put {D : DataW Unit} {B : List ByteArray} (h : BeInv D B) (s : ByteArray) (d : Nat) (hd : d + 2 ≤ s.size) : BeInv (prPut s D d) (bePut s B d) := by
  unfold prPut bePut
  by_cases hh : Maps.has D (prK s d) = true
  · have hi := (h.has s d hd).1 hh
    rw [if_pos hi]
    by_cases hc : Maps.has D (prK s d) = true ∧ prV D (prK s d) ≤ (d : Int)
    · rw [if_pos hc]; exact h
    · rw [if_neg hc]
      refine ⟨h.tidy.put (prK_key _ _) _, by rw [size_put h.tidy, if_pos hh]; exact h.size, fun s' d' hd' => ?_⟩
      by_cases hk : prK s' d' = prK s d
      · rw [hk, has_put_same h.tidy.isMap (prK_key _ _), (pr2_iff hd hd').1 hk, hi]
      · rw [has_put_other hk]; exact h.has s' d' hd'
  · have hi : ¬ inB (pr2 s d) B = true := fun e => hh ((h.has s d hd).2 e)
    rw [if_neg hi, if_neg (fun hc => hh hc.1)]
    refine ⟨h.tidy.put (prK_key _ _) _, by rw [size_put h.tidy, if_neg hh, List.length_append, h.size]; rfl, fun s' d' hd' => ?_⟩
    rw [inB_snoc]
    by_cases hk : prK s' d' = prK s d
    · rw [hk, has_put_same h.tidy.isMap (prK_key _ _), decide_eq_true ((pr2_iff hd hd').1 hk).symm]
      simp
    · rw [has_put_other hk, decide_eq_false (fun e => hk ((pr2_iff hd hd').2 e.symm)), Bool.or_false]
      exact h.has s' d' hd'
theorem beInv_row {D : DataW Unit} {B : List ByteArray} (h : BeInv D B) (s : ByteArray) : ∀ m, (m = 0 ∨ m + 1 ≤ s.size) → BeInv ((List.range m).foldl (prPut s) D) ((List.range m).foldl (bePut s) B)
  | 0, _ => h
  | m + 1, hm => by
    rw [List.range_succ, List.foldl_append, List.foldl_append]
    exact beInv_put (beInv_row h s m (by omega)) s m (by omega)
theorem beInv_fold (m : Nat) : ∀ (l : List ByteArray) (D : DataW Unit) (B : List ByteArray), (∀ s ∈ l, m = 0 ∨ m + 1 ≤ s.size) → BeInv D B → BeInv (l.foldl (prRow m) D) (l.foldl (beRow m) B)
  | [], D, B, _, h => h
  | s :: l, D, B, hs, h => beInv_fold m l _ _ (fun t ht => hs t (List.mem_cons_of_mem _ ht)) (beInv_row h s m (hs s List.mem_cons_self))
theorem be_size (w : List ByteArray) : Maps.size (prTab (minB w - 1) w) = (beTab (minB w - 1) w).length :=
  (beInv_fold (minB w - 1) w _ _ (fun s hs => by have := min_le s hs; omega) ⟨tidy_empty, rfl, fun s d _ => by rw [has_nil]; simp [inB]⟩).size

end Go.Proofs.Ytnpkbnfiadkgnaa.Base

/- Proved here: what Go functions of this seat compute, or a law of it; no condition beyond the statement's own. Written for this claim by a program of this session (wip/myprint.py) over the kit's print.py. -/
namespace Go.Proofs.Ytnpkbnfiadkgnaa.P
open Go.RowKit Go.Proofs.YtnpkbnfiadkgnaaW.PrintWords Go.Proofs.YtnpkbnfiadkgnaaW.PrintLast Go.Proofs.YtnpkbnfiadkgnaaW.PrintMore
attribute [local go_sem] max2_int min2_int max_two min_two max_three min_three max_four min_four   -- for this text's walks alone
set_option linter.unusedVariables false
set_option linter.unusedSimpArgs false

/-! ### juratref14_Has: function 62 -/
def juratref14_Has.l0 : Nat → List ByteArray → Int → Int → Int → Int → Option (Bool)
  | 0, _, _, _, _, _ => none
  | k + 1, x0, x1, x2, x3, x9 => if x9 < (x0.length : Int) then (if 0 ≤ x9 then (if (wrap64 (x3 + 1)) < ((rdOf ByteArray.empty x0 x9).size : Int) then (if 0 ≤ (wrap64 ((wrap64 (((rdOf ByteArray.empty x0 x9).size : Int) - 1)) - x3)) then (if (wrap64 ((wrap64 (((rdOf ByteArray.empty x0 x9).size : Int) - 1)) - x3)) < ((rdOf ByteArray.empty x0 x9).size : Int) then (if (bt (rdOf ByteArray.empty x0 x9) (wrap64 ((wrap64 (((rdOf ByteArray.empty x0 x9).size : Int) - 1)) - x3))) = x2 then (if 0 ≤ (wrap64 ((wrap64 (((rdOf ByteArray.empty x0 x9).size : Int) - 2)) - x3)) then (if (wrap64 ((wrap64 (((rdOf ByteArray.empty x0 x9).size : Int) - 2)) - x3)) < ((rdOf ByteArray.empty x0 x9).size : Int) then (if (bt (rdOf ByteArray.empty x0 x9) (wrap64 ((wrap64 (((rdOf ByteArray.empty x0 x9).size : Int) - 2)) - x3))) = x1 then (some true) else (juratref14_Has.l0 k x0 x1 x2 x3 (wrap64 (x9 + 1)))) else (none)) else (none)) else (juratref14_Has.l0 k x0 x1 x2 x3 (wrap64 (x9 + 1)))) else (none)) else (none)) else (juratref14_Has.l0 k x0 x1 x2 x3 (wrap64 (x9 + 1)))) else (none)) else (some false)
def juratref14_Has.f (k : Nat) (l0 : List ByteArray) (a1 : Int) (a2 : Int) (a3 : Int) : Option (Bool) := juratref14_Has.l0 k l0 a1 a2 a3 0
theorem juratref14_Has.mono_l : ∀ k, (∀ y0 y1 y2 y3 y4, LeO (juratref14_Has.l0 k y0 y1 y2 y3 y4) (juratref14_Has.l0 (k + 1) y0 y1 y2 y3 y4))
  | 0 => fun _ _ _ _ _ r h => by simp [juratref14_Has.l0] at h
  | k + 1 => by
    have ih0 := juratref14_Has.mono_l k
    · intro y0 y1 y2 y3 y4
      unfold juratref14_Has.l0
      repeat' first
      | (with_reducible exact ih0 _ _ _ _ _)
      | (with_reducible exact LeO.refl _)
      | (with_reducible exact LeO.none _)
      | (with_reducible refine LeO.ite ?_ ?_)
      | (with_reducible refine LeO.bind ?_ (fun _ => ?_))
      | exact ih0 _ _ _ _ _
      | exact LeO.none _
      | refine LeO.ite ?_ ?_
      | refine LeO.bind ?_ (fun _ => ?_)
theorem juratref14_Has.mono : ∀ a0 a1 a2 a3 k, LeO (juratref14_Has.f k a0 a1 a2 a3) (juratref14_Has.f (k + 1) a0 a1 a2 a3) := by
  intro a0 a1 a2 a3 k
  have ih0 := juratref14_Has.mono_l k
  unfold juratref14_Has.f
  repeat' first
      | (with_reducible exact ih0 _ _ _ _ _)
      | (with_reducible exact LeO.refl _)
      | (with_reducible exact LeO.none _)
      | (with_reducible refine LeO.ite ?_ ?_)
      | (with_reducible refine LeO.bind ?_ (fun _ => ?_))
      | exact ih0 _ _ _ _ _
      | exact LeO.none _
      | refine LeO.ite ?_ ?_
      | refine LeO.bind ?_ (fun _ => ?_)
set_option maxHeartbeats 8000000 in
set_option maxRecDepth 100000 in
theorem juratref14_Has.calls (k : Nat) (A0 : Option Addr) (c0 : Nat) (l0 : List ByteArray) (a1 : Int) (a2 : Int) (a3 : Int) (r : Bool) (w : World) (hr0 : Kd.C Kd.string w A0 l0.length l0) (hc0 : l0.length ≤ c0) (h : juratref14_Has.f k l0 a1 a2 a3 = some r) :
    Calls Try.prog 62 #[.slice A0 l0.length c0, .int .u8 a1, .int .u8 a2, .int .i64 a3] w fun e w' => e = .returned (.bool r) ∧ Drawn0 w w' := by
  have HR0 := Aside0.mk hr0
  have HC0 := Aside0.mk hc0
  clear hr0 hc0
  have H : (juratref14_Has.l0 k l0 a1 a2 a3 0) = some r := h
  clear h
  have H' := Aside0.mk H
  clear H
  go_enter Try.func62, Try.ntmps62
  go_wp2
  go_loopg [9] k (fun kq v9 w' => ∃ (x9_1 : Int), v9 = .int .i64 x9_1 ∧ Aside0 (juratref14_Has.l0 kq l0 a1 a2 a3 x9_1 = some r) ∧ Aside0 (kq ≤ k) ∧ Drawn0 w w')
  case atStart => exact ⟨(0), (by first | rfl | exact isE_ _ | exact isE2_ _ | (simp; done) | (simp [*]; done)), H', ⟨Nat.le_refl _⟩, by repeat (first | exact Drawn0.refl _ | apply Drawn0.step)⟩
  case round =>
    clear H'
    try clear p2
    obtain ⟨x9_1, rfl, HA, HK1, ⟨m1, rfl⟩⟩ := hrel
    cases gk with
    | zero => exact absurd HA.out (by simp [juratref14_Has.l0])
    | succ k1 =>
      have H := HA.out
      clear HA
      simp only [juratref14_Has.l0] at H
      by_cases c5 : x9_1 < (l0.length : Int)
      · rw [if_pos c5] at H
        have c5b0 : decide (x9_1 < (l0.length : Int)) = true := decide_eq_true c5
        clear c5
        by_cases c6 : 0 ≤ x9_1
        · rw [if_pos c6] at H
          have c6b0 : decide (0 ≤ x9_1) = true := decide_eq_true c6
          clear c6
          by_cases c7 : (wrap64 (a3 + 1)) < ((rdOf ByteArray.empty l0 x9_1).size : Int)
          · rw [if_pos c7] at H
            have c7b0 : decide ((wrap64 (a3 + 1)) < ((rdOf ByteArray.empty l0 x9_1).size : Int)) = true := decide_eq_true c7
            clear c7
            obtain ⟨ji8, hji8⟩ : ∃ j_ : Int, (wrap64 ((wrap64 (((rdOf ByteArray.empty l0 x9_1).size : Int) - 1)) - a3)) = j_ := ⟨_, rfl⟩
            replace H : (if 0 ≤ (ji8) then (if (ji8) < ((rdOf ByteArray.empty l0 x9_1).size : Int) then (if (bt (rdOf ByteArray.empty l0 x9_1) (ji8)) = a2 then (if 0 ≤ (wrap64 ((wrap64 (((rdOf ByteArray.empty l0 x9_1).size : Int) - 2)) - a3)) then (if (wrap64 ((wrap64 (((rdOf ByteArray.empty l0 x9_1).size : Int) - 2)) - a3)) < ((rdOf ByteArray.empty l0 x9_1).size : Int) then (if (bt (rdOf ByteArray.empty l0 x9_1) (wrap64 ((wrap64 (((rdOf ByteArray.empty l0 x9_1).size : Int) - 2)) - a3))) = a1 then (some true) else (juratref14_Has.l0 k1 l0 a1 a2 a3 (wrap64 (x9_1 + 1)))) else (none)) else (none)) else (juratref14_Has.l0 k1 l0 a1 a2 a3 (wrap64 (x9_1 + 1)))) else (none)) else (none)) = some r := by first | (rw [hji8] at H; exact H) | (simp only [hji8] at H ⊢; exact H)
            have hji8w : (IntKind.i64.wrap ((wrap64 (((rdOf ByteArray.empty l0 x9_1).size : Int) - 1)) - a3)) = ji8 := (i64_w _).trans hji8
            by_cases c9 : 0 ≤ (ji8)
            · rw [if_pos c9] at H
              have c9b0 : decide (0 ≤ (ji8)) = true := decide_eq_true c9
              clear c9
              by_cases c10 : (ji8) < ((rdOf ByteArray.empty l0 x9_1).size : Int)
              · rw [if_pos c10] at H
                have c10b0 : decide ((ji8) < ((rdOf ByteArray.empty l0 x9_1).size : Int)) = true := decide_eq_true c10
                clear c10
                by_cases c12 : (bt (rdOf ByteArray.empty l0 x9_1) (ji8)) = a2
                · rw [if_pos c12] at H
                  have c12b0 : ((bt (rdOf ByteArray.empty l0 x9_1) (ji8)) == a2) = true := beq_iff_eq.mpr c12
                  have c12b1 : ((bt (rdOf ByteArray.empty l0 x9_1) (ji8)) != a2) = false := bne_eq_false_iff_eq.mpr c12
                  clear c12
                  obtain ⟨ji13, hji13⟩ : ∃ j_ : Int, (wrap64 ((wrap64 (((rdOf ByteArray.empty l0 x9_1).size : Int) - 2)) - a3)) = j_ := ⟨_, rfl⟩
                  replace H : (if 0 ≤ (ji13) then (if (ji13) < ((rdOf ByteArray.empty l0 x9_1).size : Int) then (if (bt (rdOf ByteArray.empty l0 x9_1) (ji13)) = a1 then (some true) else (juratref14_Has.l0 k1 l0 a1 a2 a3 (wrap64 (x9_1 + 1)))) else (none)) else (none)) = some r := by first | (rw [hji13] at H; exact H) | (simp only [hji13] at H ⊢; exact H)
                  have hji13w : (IntKind.i64.wrap ((wrap64 (((rdOf ByteArray.empty l0 x9_1).size : Int) - 2)) - a3)) = ji13 := (i64_w _).trans hji13
                  by_cases c14 : 0 ≤ (ji13)
                  · rw [if_pos c14] at H
                    have c14b0 : decide (0 ≤ (ji13)) = true := decide_eq_true c14
                    clear c14
                    by_cases c15 : (ji13) < ((rdOf ByteArray.empty l0 x9_1).size : Int)
                    · rw [if_pos c15] at H
                      have c15b0 : decide ((ji13) < ((rdOf ByteArray.empty l0 x9_1).size : Int)) = true := decide_eq_true c15
                      clear c15
                      by_cases c17 : (bt (rdOf ByteArray.empty l0 x9_1) (ji13)) = a1
                      · rw [if_pos c17] at H
                        have c17b0 : ((bt (rdOf ByteArray.empty l0 x9_1) (ji13)) == a1) = true := beq_iff_eq.mpr c17
                        have c17b1 : ((bt (rdOf ByteArray.empty l0 x9_1) (ji13)) != a1) = false := bne_eq_false_iff_eq.mpr c17
                        clear c17
                        obtain rfl := Option.some.inj H
                        have p278 : 0 ≤ (x9_1 : Int) := of_decide_eq_true (by first | (with_reducible assumption) | assumption)
                        have q278 : x9_1 < (l0.length : Int) := of_decide_eq_true (by first | (with_reducible assumption) | assumption)
                        obtain ⟨ad278, e278, hx278_0⟩ := Kd.at_string HR0.out x9_1 p278 q278
                        cases e278
                        replace p278 := eq_true p278
                        replace q278 := eq_true q278
                        have p279 : 0 ≤ (x9_1 : Int) := of_decide_eq_true (by first | (with_reducible assumption) | assumption)
                        have q279 : x9_1 < (l0.length : Int) := of_decide_eq_true (by first | (with_reducible assumption) | assumption)
                        obtain ⟨ad279, e279, hx279_0⟩ := Kd.at_string HR0.out x9_1 p279 q279
                        obtain rfl : ad278 = ad279 := (by injection e279)
                        replace p279 := eq_true p279
                        replace q279 := eq_true q279
                        have p11 : 0 ≤ ((ji8) : Int) := of_decide_eq_true (by first | (with_reducible assumption) | assumption)
                        have q11 : (ji8) < ((rdOf ByteArray.empty l0 x9_1).size : Int) := of_decide_eq_true (by first | (with_reducible assumption) | assumption)
                        have hx11 := bt_at (rdOf ByteArray.empty l0 x9_1) (ji8)
                        replace p11 := eq_true p11
                        replace q11 := eq_true q11
                        have p280 : 0 ≤ (x9_1 : Int) := of_decide_eq_true (by first | (with_reducible assumption) | assumption)
                        have q280 : x9_1 < (l0.length : Int) := of_decide_eq_true (by first | (with_reducible assumption) | assumption)
                        obtain ⟨ad280, e280, hx280_0⟩ := Kd.at_string HR0.out x9_1 p280 q280
                        obtain rfl : ad278 = ad280 := (by injection e280)
                        replace p280 := eq_true p280
                        replace q280 := eq_true q280
                        have p16 : 0 ≤ ((ji13) : Int) := of_decide_eq_true (by first | (with_reducible assumption) | assumption)
                        have q16 : (ji13) < ((rdOf ByteArray.empty l0 x9_1).size : Int) := of_decide_eq_true (by first | (with_reducible assumption) | assumption)
                        have hx16 := bt_at (rdOf ByteArray.empty l0 x9_1) (ji13)
                        replace p16 := eq_true p16
                        replace q16 := eq_true q16
                        go_wp2
                        go_ret
                        exact ⟨by first | rfl | (simp; done) | (simp only [← hji8, ← hji13] <;> (first | rfl | simp)) | (simp [*]; done), by repeat (first | exact Drawn0.refl _ | apply Drawn0.step)⟩
                      · rw [if_neg c17] at H
                        have c17b0 : ((bt (rdOf ByteArray.empty l0 x9_1) (ji13)) == a1) = false := beq_eq_false_iff_ne.mpr c17
                        have c17b1 : ((bt (rdOf ByteArray.empty l0 x9_1) (ji13)) != a1) = true := bne_iff_ne.mpr c17
                        have H' := Aside0.mk H
                        clear H
                        have p278 : 0 ≤ (x9_1 : Int) := of_decide_eq_true (by first | (with_reducible assumption) | assumption)
                        have q278 : x9_1 < (l0.length : Int) := of_decide_eq_true (by first | (with_reducible assumption) | assumption)
                        obtain ⟨ad278, e278, hx278_0⟩ := Kd.at_string HR0.out x9_1 p278 q278
                        cases e278
                        replace p278 := eq_true p278
                        replace q278 := eq_true q278
                        have p279 : 0 ≤ (x9_1 : Int) := of_decide_eq_true (by first | (with_reducible assumption) | assumption)
                        have q279 : x9_1 < (l0.length : Int) := of_decide_eq_true (by first | (with_reducible assumption) | assumption)
                        obtain ⟨ad279, e279, hx279_0⟩ := Kd.at_string HR0.out x9_1 p279 q279
                        obtain rfl : ad278 = ad279 := (by injection e279)
                        replace p279 := eq_true p279
                        replace q279 := eq_true q279
                        have p11 : 0 ≤ ((ji8) : Int) := of_decide_eq_true (by first | (with_reducible assumption) | assumption)
                        have q11 : (ji8) < ((rdOf ByteArray.empty l0 x9_1).size : Int) := of_decide_eq_true (by first | (with_reducible assumption) | assumption)
                        have hx11 := bt_at (rdOf ByteArray.empty l0 x9_1) (ji8)
                        replace p11 := eq_true p11
                        replace q11 := eq_true q11
                        have p280 : 0 ≤ (x9_1 : Int) := of_decide_eq_true (by first | (with_reducible assumption) | assumption)
                        have q280 : x9_1 < (l0.length : Int) := of_decide_eq_true (by first | (with_reducible assumption) | assumption)
                        obtain ⟨ad280, e280, hx280_0⟩ := Kd.at_string HR0.out x9_1 p280 q280
                        obtain rfl : ad278 = ad280 := (by injection e280)
                        replace p280 := eq_true p280
                        replace q280 := eq_true q280
                        have p16 : 0 ≤ ((ji13) : Int) := of_decide_eq_true (by first | (with_reducible assumption) | assumption)
                        have q16 : (ji13) < ((rdOf ByteArray.empty l0 x9_1).size : Int) := of_decide_eq_true (by first | (with_reducible assumption) | assumption)
                        have hx16 := bt_at (rdOf ByteArray.empty l0 x9_1) (ji13)
                        replace p16 := eq_true p16
                        replace q16 := eq_true q16
                        go_wp2
                        go_roundg k1
                        case measure => have := HK1.out; omega
                        case rel => exact ⟨(wrap64 (x9_1 + 1)), (by first | rfl | exact isE_ _ | exact isE2_ _ | (simp; done) | (simp [*]; done)), H', ⟨by have := HK1.out; omega⟩, by repeat (first | exact Drawn0.refl _ | apply Drawn0.step)⟩
                    · rw [if_neg c15] at H
                      exact absurd H (by simp)
                  · rw [if_neg c14] at H
                    exact absurd H (by simp)
                · rw [if_neg c12] at H
                  have c12b0 : ((bt (rdOf ByteArray.empty l0 x9_1) (ji8)) == a2) = false := beq_eq_false_iff_ne.mpr c12
                  have c12b1 : ((bt (rdOf ByteArray.empty l0 x9_1) (ji8)) != a2) = true := bne_iff_ne.mpr c12
                  have H' := Aside0.mk H
                  clear H
                  have p278 : 0 ≤ (x9_1 : Int) := of_decide_eq_true (by first | (with_reducible assumption) | assumption)
                  have q278 : x9_1 < (l0.length : Int) := of_decide_eq_true (by first | (with_reducible assumption) | assumption)
                  obtain ⟨ad278, e278, hx278_0⟩ := Kd.at_string HR0.out x9_1 p278 q278
                  cases e278
                  replace p278 := eq_true p278
                  replace q278 := eq_true q278
                  have p279 : 0 ≤ (x9_1 : Int) := of_decide_eq_true (by first | (with_reducible assumption) | assumption)
                  have q279 : x9_1 < (l0.length : Int) := of_decide_eq_true (by first | (with_reducible assumption) | assumption)
                  obtain ⟨ad279, e279, hx279_0⟩ := Kd.at_string HR0.out x9_1 p279 q279
                  obtain rfl : ad278 = ad279 := (by injection e279)
                  replace p279 := eq_true p279
                  replace q279 := eq_true q279
                  have p11 : 0 ≤ ((ji8) : Int) := of_decide_eq_true (by first | (with_reducible assumption) | assumption)
                  have q11 : (ji8) < ((rdOf ByteArray.empty l0 x9_1).size : Int) := of_decide_eq_true (by first | (with_reducible assumption) | assumption)
                  have hx11 := bt_at (rdOf ByteArray.empty l0 x9_1) (ji8)
                  replace p11 := eq_true p11
                  replace q11 := eq_true q11
                  go_wp2
                  go_roundg k1
                  case measure => have := HK1.out; omega
                  case rel => exact ⟨(wrap64 (x9_1 + 1)), (by first | rfl | exact isE_ _ | exact isE2_ _ | (simp; done) | (simp [*]; done)), H', ⟨by have := HK1.out; omega⟩, by repeat (first | exact Drawn0.refl _ | apply Drawn0.step)⟩
              · rw [if_neg c10] at H
                exact absurd H (by simp)
            · rw [if_neg c9] at H
              exact absurd H (by simp)
          · rw [if_neg c7] at H
            have c7b0 : decide ((wrap64 (a3 + 1)) < ((rdOf ByteArray.empty l0 x9_1).size : Int)) = false := decide_eq_false c7
            clear c7
            have H' := Aside0.mk H
            clear H
            have p278 : 0 ≤ (x9_1 : Int) := of_decide_eq_true (by first | (with_reducible assumption) | assumption)
            have q278 : x9_1 < (l0.length : Int) := of_decide_eq_true (by first | (with_reducible assumption) | assumption)
            obtain ⟨ad278, e278, hx278_0⟩ := Kd.at_string HR0.out x9_1 p278 q278
            cases e278
            replace p278 := eq_true p278
            replace q278 := eq_true q278
            go_wp2
            go_roundg k1
            case measure => have := HK1.out; omega
            case rel => exact ⟨(wrap64 (x9_1 + 1)), (by first | rfl | exact isE_ _ | exact isE2_ _ | (simp; done) | (simp [*]; done)), H', ⟨by have := HK1.out; omega⟩, by repeat (first | exact Drawn0.refl _ | apply Drawn0.step)⟩
        · rw [if_neg c6] at H
          exact absurd H (by simp)
      · rw [if_neg c5] at H
        have c5b0 : decide (x9_1 < (l0.length : Int)) = false := decide_eq_false c5
        clear c5
        obtain rfl := Option.some.inj H
        go_wp2
        go_ret
        exact ⟨by first | rfl | (simp; done) | (simp [*]; done), by repeat (first | exact Drawn0.refl _ | apply Drawn0.step)⟩

end Go.Proofs.Ytnpkbnfiadkgnaa.P

/- Proved here: what Go functions of this seat compute, or a law of it; no condition beyond the statement's own. Written for this claim by a program of this session (wip/myprint.py) over the kit's print.py. -/
namespace Go.Proofs.Ytnpkbnfiadkgnaa.P
open Go.RowKit Go.Proofs.YtnpkbnfiadkgnaaW.PrintWords Go.Proofs.YtnpkbnfiadkgnaaW.PrintLast Go.Proofs.YtnpkbnfiadkgnaaW.PrintMore
attribute [local go_sem] max2_int min2_int max_two min_two max_three min_three max_four min_four   -- for this text's walks alone
set_option linter.unusedVariables false
set_option linter.unusedSimpArgs false

/-! ### juratref14_Near: function 32 -/
def juratref14_Near.l0 : Nat → List ByteArray → Int → Int → Int → Option (Int)
  | 0, _, _, _, _ => none
  | k + 1, x0, x1, x2, x7 => (juratref14_Far.f k x0).bind fun t281 => (if x7 < t281 then ((juratref14_Has.f k x0 x1 x2 x7).bind fun t282 => (if t282 = true then (some x7) else (juratref14_Near.l0 k x0 x1 x2 (wrap64 (x7 + 1))))) else ((juratref14_Far.f k x0).bind fun t283 => (some t283)))
def juratref14_Near.f (k : Nat) (l0 : List ByteArray) (a1 : Int) (a2 : Int) : Option (Int) := juratref14_Near.l0 k l0 a1 a2 0
theorem juratref14_Near.mono_l : ∀ k, (∀ y0 y1 y2 y3, LeO (juratref14_Near.l0 k y0 y1 y2 y3) (juratref14_Near.l0 (k + 1) y0 y1 y2 y3))
  | 0 => fun _ _ _ _ r h => by simp [juratref14_Near.l0] at h
  | k + 1 => by
    have ih0 := juratref14_Near.mono_l k
    · intro y0 y1 y2 y3
      unfold juratref14_Near.l0
      repeat' first
      | (with_reducible exact ih0 _ _ _ _)
      | (with_reducible exact juratref14_Far.mono _ _)
      | (with_reducible exact juratref14_Has.mono _ _ _ _ _)
      | (with_reducible exact LeO.refl _)
      | (with_reducible exact LeO.none _)
      | (with_reducible refine LeO.ite ?_ ?_)
      | (with_reducible refine LeO.bind ?_ (fun _ => ?_))
      | exact ih0 _ _ _ _
      | exact juratref14_Far.mono _ _
      | exact juratref14_Has.mono _ _ _ _ _
      | exact LeO.none _
      | refine LeO.ite ?_ ?_
      | refine LeO.bind ?_ (fun _ => ?_)
theorem juratref14_Near.mono : ∀ a0 a1 a2 k, LeO (juratref14_Near.f k a0 a1 a2) (juratref14_Near.f (k + 1) a0 a1 a2) := by
  intro a0 a1 a2 k
  have ih0 := juratref14_Near.mono_l k
  unfold juratref14_Near.f
  repeat' first
      | (with_reducible exact ih0 _ _ _ _)
      | (with_reducible exact juratref14_Far.mono _ _)
      | (with_reducible exact juratref14_Has.mono _ _ _ _ _)
      | (with_reducible exact LeO.refl _)
      | (with_reducible exact LeO.none _)
      | (with_reducible refine LeO.ite ?_ ?_)
      | (with_reducible refine LeO.bind ?_ (fun _ => ?_))
      | exact ih0 _ _ _ _
      | exact juratref14_Far.mono _ _
      | exact juratref14_Has.mono _ _ _ _ _
      | exact LeO.none _
      | refine LeO.ite ?_ ?_
      | refine LeO.bind ?_ (fun _ => ?_)
set_option maxHeartbeats 8000000 in
set_option maxRecDepth 100000 in
theorem juratref14_Near.calls (k : Nat) (A0 : Option Addr) (c0 : Nat) (l0 : List ByteArray) (a1 : Int) (a2 : Int) (r : Int) (w : World) (hr0 : Kd.C Kd.string w A0 l0.length l0) (hc0 : l0.length ≤ c0) (h : juratref14_Near.f k l0 a1 a2 = some r) :
    Calls Try.prog 32 #[.slice A0 l0.length c0, .int .u8 a1, .int .u8 a2] w fun e w' => e = .returned (.int .i64 r) ∧ Drawn0 w w' := by
  have HR0 := Aside0.mk hr0
  have HC0 := Aside0.mk hc0
  clear hr0 hc0
  have H : (juratref14_Near.l0 k l0 a1 a2 0) = some r := h
  clear h
  have H' := Aside0.mk H
  clear H
  go_enter Try.func32, Try.ntmps32
  go_wp2
  go_loopg [7] k (fun kq v7 w' => ∃ (x7_1 : Int), v7 = .int .i64 x7_1 ∧ Aside0 (juratref14_Near.l0 kq l0 a1 a2 x7_1 = some r) ∧ Aside0 (kq ≤ k) ∧ Drawn0 w w')
  case atStart => exact ⟨(0), (by first | rfl | exact isE_ _ | exact isE2_ _ | (simp; done) | (simp [*]; done)), H', ⟨Nat.le_refl _⟩, by repeat (first | exact Drawn0.refl _ | apply Drawn0.step)⟩
  case round =>
    clear H'
    try clear p2
    try clear c3
    obtain ⟨x7_1, rfl, HA, HK1, ⟨m1, rfl⟩⟩ := hrel
    cases gk with
    | zero => exact absurd HA.out (by simp [juratref14_Near.l0])
    | succ k1 =>
      have H := HA.out
      clear HA
      simp only [juratref14_Near.l0] at H
      replace H := Option.bind_eq_some_iff.mp H
      obtain ⟨t281, A40, H⟩ := H
      replace H : (if x7_1 < t281 then ((juratref14_Has.f k1 l0 a1 a2 x7_1).bind fun t282 => (if t282 = true then (some x7_1) else (juratref14_Near.l0 k1 l0 a1 a2 (wrap64 (x7_1 + 1))))) else ((juratref14_Far.f k1 l0).bind fun t283 => (some t283))) = some r := H
      have A4 := Aside0.mk A40
      clear A40
      by_cases c5 : x7_1 < t281
      · rw [if_pos c5] at H
        have c5b0 : decide (x7_1 < t281) = true := decide_eq_true c5
        clear c5
        replace H := Option.bind_eq_some_iff.mp H
        obtain ⟨t282, A60, H⟩ := H
        replace H : (if t282 = true then (some x7_1) else (juratref14_Near.l0 k1 l0 a1 a2 (wrap64 (x7_1 + 1)))) = some r := H
        have A6 := Aside0.mk A60
        clear A60
        by_cases c7 : t282 = true
        · subst c7
          have H1 : (some x7_1) = some r := by rw [if_pos rfl] at H; exact H
          clear H
          have H := H1
          clear H1
          obtain rfl := Option.some.inj H
          go_wp2_with (first | ((with_reducible refine gate_callee (f := 30) rfl ?_); refine goesL_ (some 10) rfl rfl Try.func30 (by kernel_rfl) rfl #[.slice A0 l0.length c0] rfl (by (try simp only [List.map_toArray, List.map_cons, List.map_nil]); first | done | rfl | (simp only [List.length_drop, List.length_take]; rfl)) ?_; (with_reducible refine (juratref14_Far.calls k1 _ _ l0 t281 _ ?side1 ?side2 A4.out).mono ?_); (case side1 => repeat (first | exact HR0.out | (with_reducible refine Kd.C_alloc ?_ _) | (with_reducible refine Kd.C_drewN ?_ _) | (with_reducible refine Kd.C_drew ?_))); (case side2 => exact HC0.out); rintro e w' ⟨rfl, ⟨nd, rfl⟩⟩; refine ⟨_, rfl, ?_⟩) | ((with_reducible refine gate_callee (f := 62) rfl ?_); refine goesL_ (some 18) rfl rfl Try.func62 (by kernel_rfl) rfl #[.slice A0 l0.length c0, .int .u8 a1, .int .u8 a2, .int .i64 x7_1] rfl (by (try simp only [List.map_toArray, List.map_cons, List.map_nil]); first | done | rfl | (simp only [List.length_drop, List.length_take]; rfl)) ?_; (with_reducible refine (juratref14_Has.calls k1 _ _ l0 a1 a2 x7_1 true _ ?side1 ?side2 A6.out).mono ?_); (case side1 => repeat (first | exact HR0.out | (with_reducible refine Kd.C_alloc ?_ _) | (with_reducible refine Kd.C_drewN ?_ _) | (with_reducible refine Kd.C_drew ?_))); (case side2 => exact HC0.out); rintro e w' ⟨rfl, ⟨nd, rfl⟩⟩; refine ⟨_, rfl, ?_⟩))
          go_ret
          exact ⟨by first | rfl | (simp; done) | (simp [*]; done), by repeat (first | exact Drawn0.refl _ | apply Drawn0.step)⟩
        · replace c7 := Bool.eq_false_iff.mpr c7
          subst c7
          have H1 : (juratref14_Near.l0 k1 l0 a1 a2 (wrap64 (x7_1 + 1))) = some r := by rw [if_neg (show ¬ (false = true) by decide)] at H; exact H
          clear H
          have H := H1
          clear H1
          have H' := Aside0.mk H
          clear H
          go_wp2_with (first | ((with_reducible refine gate_callee (f := 30) rfl ?_); refine goesL_ (some 10) rfl rfl Try.func30 (by kernel_rfl) rfl #[.slice A0 l0.length c0] rfl (by (try simp only [List.map_toArray, List.map_cons, List.map_nil]); first | done | rfl | (simp only [List.length_drop, List.length_take]; rfl)) ?_; (with_reducible refine (juratref14_Far.calls k1 _ _ l0 t281 _ ?side1 ?side2 A4.out).mono ?_); (case side1 => repeat (first | exact HR0.out | (with_reducible refine Kd.C_alloc ?_ _) | (with_reducible refine Kd.C_drewN ?_ _) | (with_reducible refine Kd.C_drew ?_))); (case side2 => exact HC0.out); rintro e w' ⟨rfl, ⟨nd, rfl⟩⟩; refine ⟨_, rfl, ?_⟩) | ((with_reducible refine gate_callee (f := 62) rfl ?_); refine goesL_ (some 18) rfl rfl Try.func62 (by kernel_rfl) rfl #[.slice A0 l0.length c0, .int .u8 a1, .int .u8 a2, .int .i64 x7_1] rfl (by (try simp only [List.map_toArray, List.map_cons, List.map_nil]); first | done | rfl | (simp only [List.length_drop, List.length_take]; rfl)) ?_; (with_reducible refine (juratref14_Has.calls k1 _ _ l0 a1 a2 x7_1 false _ ?side1 ?side2 A6.out).mono ?_); (case side1 => repeat (first | exact HR0.out | (with_reducible refine Kd.C_alloc ?_ _) | (with_reducible refine Kd.C_drewN ?_ _) | (with_reducible refine Kd.C_drew ?_))); (case side2 => exact HC0.out); rintro e w' ⟨rfl, ⟨nd, rfl⟩⟩; refine ⟨_, rfl, ?_⟩))
          go_roundg k1
          case measure => have := HK1.out; omega
          case rel => exact ⟨(wrap64 (x7_1 + 1)), (by first | rfl | exact isE_ _ | exact isE2_ _ | (simp; done) | (simp [*]; done)), H', ⟨by have := HK1.out; omega⟩, by repeat (first | exact Drawn0.refl _ | apply Drawn0.step)⟩
      · rw [if_neg c5] at H
        have c5b0 : decide (x7_1 < t281) = false := decide_eq_false c5
        clear c5
        replace H := Option.bind_eq_some_iff.mp H
        obtain ⟨t283, A80, H⟩ := H
        replace H : (some t283) = some r := H
        have A8 := Aside0.mk A80
        clear A80
        obtain rfl := Option.some.inj H
        go_wp2_with (first | ((with_reducible refine gate_callee (f := 30) rfl ?_); refine goesL_ (some 10) rfl rfl Try.func30 (by kernel_rfl) rfl #[.slice A0 l0.length c0] rfl (by (try simp only [List.map_toArray, List.map_cons, List.map_nil]); first | done | rfl | (simp only [List.length_drop, List.length_take]; rfl)) ?_; (with_reducible refine (juratref14_Far.calls k1 _ _ l0 t281 _ ?side1 ?side2 A4.out).mono ?_); (case side1 => repeat (first | exact HR0.out | (with_reducible refine Kd.C_alloc ?_ _) | (with_reducible refine Kd.C_drewN ?_ _) | (with_reducible refine Kd.C_drew ?_))); (case side2 => exact HC0.out); rintro e w' ⟨rfl, ⟨nd, rfl⟩⟩; refine ⟨_, rfl, ?_⟩) | ((with_reducible refine gate_callee (f := 30) rfl ?_); refine goesL_ (some 21) rfl rfl Try.func30 (by kernel_rfl) rfl #[.slice A0 l0.length c0] rfl (by (try simp only [List.map_toArray, List.map_cons, List.map_nil]); first | done | rfl | (simp only [List.length_drop, List.length_take]; rfl)) ?_; (with_reducible refine (juratref14_Far.calls k1 _ _ l0 t283 _ ?side1 ?side2 A8.out).mono ?_); (case side1 => repeat (first | exact HR0.out | (with_reducible refine Kd.C_alloc ?_ _) | (with_reducible refine Kd.C_drewN ?_ _) | (with_reducible refine Kd.C_drew ?_))); (case side2 => exact HC0.out); rintro e w' ⟨rfl, ⟨nd, rfl⟩⟩; refine ⟨_, rfl, ?_⟩))
        go_ret
        exact ⟨by first | rfl | (simp; done) | (simp [*]; done), by repeat (first | exact Drawn0.refl _ | apply Drawn0.step)⟩

end Go.Proofs.Ytnpkbnfiadkgnaa.P

/- That layer 14's reference and the table of pairs tell a pair's shift and how many pairs there are; no condition beyond the sizes that stand in each statement. -/
namespace Go.Proofs.Ytnpkbnfiadkgnaa.Base
open Go Go.RowKit Go.Maps Go.Proofs.YtnpkbnfiadkgnaaW.PrintWords Go.Proofs.YtnpkbnfiadkgnaaW.PrintMore Go.Proofs.Ytnpkbnfiadkgnaa.P
set_option linter.unusedVariables false

theorem minB_le16 (w : List ByteArray) (hs : ∀ s ∈ w, s.size ≤ 65535) : minB w ≤ 65535 := by
  cases w with
  | nil => simp [minB, leastB]
  | cons s w => have := min_le (w := s :: w) s List.mem_cons_self; have := hs s List.mem_cons_self; omega
theorem rfar_ev (w : List ByteArray) (hl : w.length ≤ 65535) (hs : ∀ s ∈ w, s.size ≤ 65535) : Ev (fun k => juratref14_Far.f k w) (((minB w - 1 : Nat)) : Int) := by
  have hm := minB_le16 w hs
  unfold juratref14_Far.f
  refine Ev.bind (rleast_ev w (by omega)) ?_
  by_cases h : (minB w : Int) = 0
  · refine Ev.congr (fun k => if_pos h) ?_
    rw [show minB w - 1 = 0 by omega]
    exact Ev.now _
  · refine Ev.congr (fun k => if_neg h) ?_
    rw [wrap_id (by omega) (by omega), show ((minB w : Int) - 1) = ((minB w - 1 : Nat) : Int) by omega]
    exact Ev.now _
/-- Has a text both bytes at a distance? -/
def hasP (l : List ByteArray) (x y : UInt8) (d : Nat) : Bool := l.any fun s => decide (d + 1 < s.size ∧ pB s d = y ∧ pB s (d + 1) = x)
theorem hasP_iff {l : List ByteArray} {x y : UInt8} {d : Nat} : hasP l x y d = true ↔ ∃ s ∈ l, d + 1 < s.size ∧ pB s d = y ∧ pB s (d + 1) = x := by
  unfold hasP; rw [List.any_eq_true]; simp
theorem bt_pB {s : ByteArray} {d : Nat} (h : d < s.size) : bt s ((s.size : Int) - 1 - d) = ((pB s d).toNat : Int) := by
  rw [bt_eq]; unfold pB; congr 3; omega
theorem rhas14_l0 (l : List ByteArray) (hl : l.length ≤ 9223372036854775806) (hs : ∀ s ∈ l, s.size ≤ 65535) (x y : UInt8) (d : Nat) (hd : d ≤ 65535) : ∀ (f i : Nat), i + f = l.length →
    Ev (fun k => juratref14_Has.l0 k l (x.toNat : Int) (y.toNat : Int) (d : Int) (i : Int)) (hasP (l.drop i) x y d) := by
  intro f
  induction f with
  | zero =>
    intro i hi
    refine Ev.ret fun k => ?_
    simp only [juratref14_Has.l0]
    rw [if_neg (by omega), List.drop_of_length_le (by omega)]
    rfl
  | succ f ih =>
    intro i hi
    have hdr := getD_drop l i ByteArray.empty (by omega)
    have hz := hs _ (getD_mem l i ByteArray.empty (by omega))
    have e : rdOf ByteArray.empty l (i : Int) = l.getD i ByteArray.empty := rfl
    have e2 : hasP (l.drop i) x y d = (decide (d + 1 < (l.getD i ByteArray.empty).size ∧ pB (l.getD i ByteArray.empty) d = y ∧ pB (l.getD i ByteArray.empty) (d + 1) = x) || hasP (l.drop (i + 1)) x y d) := by rw [hdr]; rfl
    rw [e2]
    have step : Ev (fun k => juratref14_Has.l0 k l (x.toNat : Int) (y.toNat : Int) (d : Int) (wrap64 ((i : Int) + 1))) (hasP (l.drop (i + 1)) x y d) := by
      rw [wrap_id (by omega) (by omega)]
      exact ih (i + 1) (by omega)
    generalize l.getD i ByteArray.empty = s at e hz
    by_cases h1 : d + 1 < s.size
    · have hb1 := bt_pB (s := s) (d := d) (by omega)
      have hb2 := bt_pB (s := s) (d := d + 1) (by omega)
      have w1 : wrap64 ((d : Int) + 1) = (d : Int) + 1 := wrap_id (by omega) (by omega)
      have w2 : wrap64 ((s.size : Int) - 1) = (s.size : Int) - 1 := wrap_id (by omega) (by omega)
      have w3 : wrap64 ((s.size : Int) - 1 - (d : Int)) = (s.size : Int) - 1 - (d : Int) := wrap_id (by omega) (by omega)
      have w4 : wrap64 ((s.size : Int) - 2) = (s.size : Int) - 2 := wrap_id (by omega) (by omega)
      have w5 : wrap64 ((s.size : Int) - 2 - (d : Int)) = (s.size : Int) - 1 - ((d + 1 : Nat) : Int) := (wrap_id (by omega) (by omega)).trans (by omega)
      by_cases h2 : pB s d = y
      · by_cases h3 : pB s (d + 1) = x
        · rw [decide_eq_true ⟨h1, h2, h3⟩, Bool.true_or]
          refine Ev.ret fun k => ?_
          simp only [juratref14_Has.l0]
          rw [if_pos (by omega), if_pos (by omega), e, w1, w2, w3, w4, w5, hb1, hb2, if_pos (by omega), if_pos (by omega), if_pos (by omega), if_pos (by rw [h2]), if_pos (by omega), if_pos (by omega), if_pos (by rw [h3])]
        · rw [decide_eq_false (fun h => h3 h.2.2), Bool.false_or]
          refine Ev.step (fun k => ?_) step
          simp only [juratref14_Has.l0]
          rw [if_pos (by omega), if_pos (by omega), e, w1, w2, w3, w4, w5, hb1, hb2, if_pos (by omega), if_pos (by omega), if_pos (by omega), if_pos (by rw [h2]), if_pos (by omega), if_pos (by omega), if_neg (fun hq => h3 (UInt8.toNat_inj.1 (by omega)))]
      · rw [decide_eq_false (fun h => h2 h.2.1), Bool.false_or]
        refine Ev.step (fun k => ?_) step
        simp only [juratref14_Has.l0]
        rw [if_pos (by omega), if_pos (by omega), e, w1, w2, w3, hb1, if_pos (by omega), if_pos (by omega), if_pos (by omega), if_neg (fun hq => h2 (UInt8.toNat_inj.1 (by omega)))]
    · rw [decide_eq_false (fun h => h1 h.1), Bool.false_or]
      refine Ev.step (fun k => ?_) step
      simp only [juratref14_Has.l0]
      rw [if_pos (by omega), if_pos (by omega), e, wrap_id (x := (d : Int) + 1) (by omega) (by omega), if_neg (by omega)]
theorem rhas14_ev (l : List ByteArray) (hl : l.length ≤ 9223372036854775806) (hs : ∀ s ∈ l, s.size ≤ 65535) (x y : UInt8) (d : Nat) (hd : d ≤ 65535) : Ev (fun k => juratref14_Has.f k l (x.toNat : Int) (y.toNat : Int) (d : Int)) (hasP l x y d) := rhas14_l0 l hl hs x y d hd l.length 0 (by omega)
theorem rnear_l0 (w : List ByteArray) (hl : w.length ≤ 65535) (hs : ∀ s ∈ w, s.size ≤ 65535) (x y : UInt8) : ∀ (f i : Nat), i + f = minB w - 1 → (∀ d, d < i → hasP w x y d = false) →
    Ev (fun k => juratref14_Near.l0 k w (x.toNat : Int) (y.toNat : Int) (i : Int)) (prN w x y) := by
  obtain ⟨h1, h2, h3, h4⟩ := prN_spec w x y
  have hmin := fun s hs => min_le (w := w) s hs
  have hm := minB_le16 w hs
  intro f
  induction f with
  | zero =>
    intro i hi hno
    refine Ev.step (f := fun k => (juratref14_Far.f k w).bind fun t281 => (if (i : Int) < t281 then ((juratref14_Has.f k w (x.toNat : Int) (y.toNat : Int) (i : Int)).bind fun t282 => (if t282 = true then (some (i : Int)) else (juratref14_Near.l0 k w (x.toNat : Int) (y.toNat : Int) (wrap64 ((i : Int) + 1))))) else ((juratref14_Far.f k w).bind fun t283 => (some t283)))) (fun k => rfl) ?_
    refine Ev.bind (rfar_ev w hl hs) (Ev.congr (fun k => if_neg (by omega)) ?_)
    have : prN w x y = ((minB w - 1 : Nat) : Int) := by
      rcases h4 with h4 | ⟨s, hs', d, hd, e1, e2, h4⟩
      · exact h4
      · have := hno d (by omega)
        rw [hasP_iff.2 ⟨s, hs', by have := hmin s hs'; omega, e2, e1⟩] at this
        cases this
    rw [this]
    exact Ev.bind (rfar_ev w hl hs) (Ev.now _)
  | succ f ih =>
    intro i hi hno
    refine Ev.step (f := fun k => (juratref14_Far.f k w).bind fun t281 => (if (i : Int) < t281 then ((juratref14_Has.f k w (x.toNat : Int) (y.toNat : Int) (i : Int)).bind fun t282 => (if t282 = true then (some (i : Int)) else (juratref14_Near.l0 k w (x.toNat : Int) (y.toNat : Int) (wrap64 ((i : Int) + 1))))) else ((juratref14_Far.f k w).bind fun t283 => (some t283)))) (fun k => rfl) ?_
    refine Ev.bind (rfar_ev w hl hs) (Ev.congr (fun k => if_pos (by omega)) ?_)
    refine Ev.bind (rhas14_ev w (by omega) hs x y i (by omega)) ?_
    cases hh : hasP w x y i with
    | true =>
      refine Ev.congr (fun k => if_pos rfl) ?_
      obtain ⟨s, hs', hd, e2, e1⟩ := hasP_iff.1 hh
      have hle := h3 s hs' i (by omega) e1 e2
      have : prN w x y = i := by
        rcases h4 with h4 | ⟨s', hs2, d, hd', e1', e2', h4⟩
        · omega
        · by_cases hlt : d < i
          · have := hno d hlt
            rw [hasP_iff.2 ⟨s', hs2, by have := hmin s' hs2; omega, e2', e1'⟩] at this
            cases this
          · omega
      rw [this]
      exact Ev.now _
    | false =>
      refine Ev.congr (fun k => if_neg (by simp)) ?_
      rw [wrap_id (by omega) (by omega)]
      refine ih (i + 1) (by omega) (fun d hd => ?_)
      by_cases h : d = i
      · rw [h]; exact hh
      · exact hno d (by omega)
theorem rnear_ev (w : List ByteArray) (hl : w.length ≤ 65535) (hs : ∀ s ∈ w, s.size ≤ 65535) (x y : UInt8) : Ev (fun k => juratref14_Near.f k w (x.toNat : Int) (y.toNat : Int)) (prN w x y) := rnear_l0 w hl hs x y (minB w - 1) 0 (by omega) (fun d hd => by omega)

theorem inB_drop (p : ByteArray) (B : List ByteArray) (k : Nat) (h : k < B.length) : inB p (B.drop k) = (decide (B.getD k ByteArray.empty = p) || inB p (B.drop (k + 1))) := by rw [getD_drop B k ByteArray.empty h]; rfl
theorem rlen_l2 (w B : List ByteArray) (i d : Nat) (hi : i ≤ 65535) (hd : d ≤ 65535) (p : ByteArray) (R : Int) (hB : B.length < 8796093022208) : ∀ (f kk : Nat) (there : Bool), kk + f = B.length →
    Ev (fun k => juratref14_Len.l1 k w (if (there || inB p (B.drop kk)) = true then B else B ++ [p]) (i : Int) ((d + 1 : Nat) : Int)) R → Ev (fun k => juratref14_Len.l2 k w B (i : Int) (d : Int) p there (kk : Int)) R := by
  intro f
  induction f with
  | zero =>
    intro kk there hk h
    rw [List.drop_of_length_le (by omega)] at h
    refine Ev.step (fun k => ?_) h
    simp only [juratref14_Len.l2]
    rw [if_neg (by omega), wrap_id (x := (d : Int) + 1) (by omega) (by omega)]
    cases there with
    | true => rw [if_pos rfl, if_pos (by rfl)]; rfl
    | false => rw [if_neg (by simp), if_pos hB, if_neg (by simp [inB])]; rfl
  | succ f ih =>
    intro kk there hk h
    rw [inB_drop p B kk (by omega)] at h
    cases there with
    | true =>
      refine Ev.step (f := fun k => juratref14_Len.l2 k w B (i : Int) (d : Int) p true ((kk + 1 : Nat) : Int)) (fun k => ?_) (ih (kk + 1) true (by omega) (by rw [Bool.true_or] at h ⊢; exact h))
      simp only [juratref14_Len.l2]
      rw [if_pos (by omega), if_pos trivial, wrap_id (by omega) (by omega)]
      rfl
    | false =>
      have e : ((rdOf ByteArray.empty B (kk : Int)).toList == p.toList) = decide (B.getD kk ByteArray.empty = p) := by
        show ((B.getD kk ByteArray.empty).toList == p.toList) = _
        by_cases hp : B.getD kk ByteArray.empty = p
        · rw [decide_eq_true hp, hp]; simp
        · rw [decide_eq_false hp]; exact beq_eq_false_iff_ne.2 (fun hq => hp (toList_iff.1 hq))
      refine Ev.step (f := fun k => juratref14_Len.l2 k w B (i : Int) (d : Int) p (decide (B.getD kk ByteArray.empty = p)) ((kk + 1 : Nat) : Int)) (fun k => ?_) (ih (kk + 1) _ (by omega) (by rw [Bool.false_or] at h; exact h))
      simp only [juratref14_Len.l2]
      rw [if_pos (by omega), if_neg (by simp), if_pos (by omega), e, wrap_id (by omega) (by omega)]
      rfl
theorem bePut_length (s : ByteArray) (B : List ByteArray) (d : Nat) : (bePut s B d).length ≤ B.length + 1 := by unfold bePut; split <;> simp
theorem beGo_length (s : ByteArray) : ∀ (f d : Nat) (B : List ByteArray), ((List.range' d f).foldl (bePut s) B).length ≤ B.length + f
  | 0, d, B => Nat.le_refl _
  | f + 1, d, B => by
    rw [List.range'_succ, List.foldl_cons]
    have := beGo_length s f (d + 1) (bePut s B d)
    have := bePut_length s B d
    omega
theorem rlen_l1 (w : List ByteArray) (hl : w.length ≤ 65535) (hs : ∀ s ∈ w, s.size ≤ 65535) (i : Nat) (hi : i < w.length) (R : Int) : ∀ (f d : Nat) (B : List ByteArray), d + f = minB w - 1 → B.length + f < 8796093022208 →
    Ev (fun k => juratref14_Len.l0 k w ((List.range' d f).foldl (bePut (w.getD i ByteArray.empty)) B) ((i + 1 : Nat) : Int)) R → Ev (fun k => juratref14_Len.l1 k w B (i : Int) (d : Int)) R := by
  have hmi := min_le (w := w) _ (getD_mem w i ByteArray.empty hi)
  have hz := hs _ (getD_mem w i ByteArray.empty hi)
  have e : rdOf ByteArray.empty w (i : Int) = w.getD i ByteArray.empty := rfl
  generalize w.getD i ByteArray.empty = s at hmi hz e
  intro f
  induction f with
  | zero =>
    intro d B hd hB h
    refine Ev.step (f := fun k => juratref14_Len.l1 (k + 1) w B (i : Int) (d : Int)) (fun k => rfl) ?_
    simp only [juratref14_Len.l1]
    refine Ev.bind (rfar_ev w hl hs) (Ev.congr (fun k => if_neg (by omega)) ?_)
    rw [wrap_id (by omega) (by omega)]
    exact h
  | succ f ih =>
    intro d B hd hB h
    rw [List.range'_succ, List.foldl_cons] at h
    have hbl := bePut_length s B d
    have hnext := ih (d + 1) (bePut s B d) (by omega) (by omega) h
    refine Ev.step (f := fun k => juratref14_Len.l1 (k + 1) w B (i : Int) (d : Int)) (fun k => rfl) ?_
    simp only [juratref14_Len.l1]
    refine Ev.bind (rfar_ev w hl hs) (Ev.congr (fun k => if_pos (by omega)) ?_)
    rw [e, wrap_id (x := (s.size : Int) - 2) (by omega) (by omega), wrap_id (x := (s.size : Int) - 2 - (d : Int)) (by omega) (by omega), wrap_id (x := (s.size : Int) - (d : Int)) (by omega) (by omega)]
    simp only [if_pos (show 0 ≤ (i : Int) by omega), if_pos (show (i : Int) < (w.length : Int) by omega), if_pos (show 0 ≤ (s.size : Int) - 2 - (d : Int) by omega), if_pos (show (s.size : Int) - 2 - (d : Int) ≤ (s.size : Int) - (d : Int) by omega), if_pos (show (s.size : Int) - (d : Int) ≤ (s.size : Int) by omega)]
    have ep : s.extract ((s.size : Int) - 2 - (d : Int)).toNat ((s.size : Int) - (d : Int)).toNat = pr2 s d := by
      unfold pr2
      rw [show ((s.size : Int) - 2 - (d : Int)).toNat = s.size - 2 - d by omega, show ((s.size : Int) - (d : Int)).toNat = s.size - d by omega]
    rw [ep]
    refine rlen_l2 w B i d (by omega) (by have := minB_le16 w hs; omega) (pr2 s d) R (by omega) B.length 0 false (by omega) ?_
    rw [List.drop_zero, Bool.false_or]
    exact hnext
theorem rlen_l0 (w : List ByteArray) (hl : w.length ≤ 65535) (hs : ∀ s ∈ w, s.size ≤ 65535) : ∀ (f i : Nat) (B : List ByteArray), i + f = w.length → B.length ≤ i * 65535 →
    Ev (fun k => juratref14_Len.l0 k w B (i : Int)) (((w.drop i).foldl (beRow (minB w - 1)) B).length : Int) := by
  have hm := minB_le16 w hs
  intro f
  induction f with
  | zero =>
    intro i B hi hB
    refine Ev.ret fun k => ?_
    simp only [juratref14_Len.l0]
    rw [if_neg (by omega), List.drop_of_length_le (by omega)]
    rfl
  | succ f ih =>
    intro i B hi hB
    have hBl : B.length ≤ 65535 * 65535 := Nat.le_trans hB (Nat.mul_le_mul_right _ (by omega))
    rw [getD_drop w i ByteArray.empty (by omega), List.foldl_cons]
    refine Ev.step (f := fun k => juratref14_Len.l1 k w B (i : Int) ((0 : Nat) : Int)) (fun k => by simp only [juratref14_Len.l0]; rw [if_pos (by omega)]; rfl) ?_
    refine rlen_l1 w hl hs i (by omega) _ (minB w - 1) 0 B (by omega) (by omega) ?_
    have hb := beGo_length (w.getD i ByteArray.empty) (minB w - 1) 0 B
    have e : (List.range' 0 (minB w - 1)).foldl (bePut (w.getD i ByteArray.empty)) B = beRow (minB w - 1) B (w.getD i ByteArray.empty) := by unfold beRow; rw [List.range_eq_range']
    rw [e] at hb ⊢
    exact ih (i + 1) _ (by omega) (by rw [Nat.succ_mul]; omega)
theorem rlen_ev (w : List ByteArray) (hl : w.length ≤ 65535) (hs : ∀ s ∈ w, s.size ≤ 65535) : Ev (fun k => juratref14_Len.f k w) (Maps.size (prTab (minB w - 1) w) : Int) := by
  rw [be_size]
  exact rlen_l0 w hl hs w.length 0 [] (by omega) (by simp)

theorem pair_ok {l w : List ByteArray} {x : Option SetD} {e : Int} (h : SetOk l x w e) : pair_New.f x = some (some ⟨prTab (minB w - 1) w, ((minB w - 1 : Nat) : Int)⟩) := by
  have hm := minB_le16 w h.size
  unfold pair_New.f
  rw [h.hL, h.hM, if_pos ⟨by omega, by omega, h.few, fun s hs => ⟨by have := min_le s hs; omega, h.size s hs⟩⟩, Int.toNat_natCast]
theorem pnear_ok (w : List ByteArray) (x y : UInt8) : pair_Table_Near.f (some ⟨prTab (minB w - 1) w, ((minB w - 1 : Nat) : Int)⟩) (x.toNat : Int) (y.toNat : Int) = some (prN w x y) := by
  have h1 := UInt8.toNat_lt x
  have h2 := UInt8.toNat_lt y
  simp only [pair_Table_Near.f]
  rw [if_pos ⟨⟨by omega, by omega⟩, by omega, by omega⟩]
  rfl

end Go.Proofs.Ytnpkbnfiadkgnaa.Base

/- Layer 14's examples; no condition. -/
namespace Go.Proofs.Ytnpkbnfiadkgnaa.Base
open Go Go.RowKit Go.Maps Go.Proofs.YtnpkbnfiadkgnaaW.PrintWords Go.Proofs.YtnpkbnfiadkgnaaW.PrintMore Go.Proofs.Ytnpkbnfiadkgnaa.P
set_option linter.unusedVariables false

theorem new14 : pats_New.f [(⟨#[97, 98, 99]⟩ : ByteArray), (⟨#[98, 99, 97]⟩ : ByteArray)] = some (some ⟨[(⟨#[97, 98, 99]⟩ : ByteArray), (⟨#[98, 99, 97]⟩ : ByteArray)], 3, 3, 6⟩, 0) := by
  have hs : sortB [(⟨#[97, 98, 99]⟩ : ByteArray), (⟨#[98, 99, 97]⟩ : ByteArray)] = [(⟨#[97, 98, 99]⟩ : ByteArray), (⟨#[98, 99, 97]⟩ : ByteArray)] := (sortB_of (List.Perm.refl _) (by decide)).symm
  unfold pats_New.f
  rw [hs]
  rfl
abbrev l14 : List ByteArray := [(⟨#[97, 98, 99]⟩ : ByteArray), (⟨#[98, 99, 97]⟩ : ByteArray)]
theorem pair14 : pair_New.f (some ⟨l14, 3, 3, 6⟩) = some (some ⟨prTab (minB l14 - 1) l14, ((minB l14 - 1 : Nat) : Int)⟩) := by
  unfold pair_New.f
  rw [if_pos ⟨by decide, by decide, by decide, fun s hs => by
    simp only [setL, List.mem_cons, List.not_mem_nil, or_false] at hs
    rcases hs with rfl | rfl <;> decide⟩]
  rfl
theorem near14 (x y : UInt8) (v : Int) (h : prN l14 x y = v) : pair_Table_Near.f (some ⟨prTab (minB l14 - 1) l14, ((minB l14 - 1 : Nat) : Int)⟩) (x.toNat : Int) (y.toNat : Int) = some v := by rw [pnear_ok, h]
theorem awake14 : juratlaw14_awake.f = some true := by
  unfold juratlaw14_awake.f
  rw [new14]
  simp only [Option.bind_some]
  rw [pair14]
  simp only [Option.bind_some]
  rw [if_pos trivial, show pair_Table_Near.f (some ⟨prTab (minB l14 - 1) l14, ((minB l14 - 1 : Nat) : Int)⟩) 98 99 = some 0 from near14 98 99 0 (by decide +kernel)]
  simp only [Option.bind_some]
  rw [if_pos trivial, show pair_Table_Near.f (some ⟨prTab (minB l14 - 1) l14, ((minB l14 - 1 : Nat) : Int)⟩) 99 97 = some 0 from near14 99 97 0 (by decide +kernel)]
  simp only [Option.bind_some]
  rw [if_pos trivial, show pair_Table_Near.f (some ⟨prTab (minB l14 - 1) l14, ((minB l14 - 1 : Nat) : Int)⟩) 97 98 = some 1 from near14 97 98 1 (by decide +kernel)]
  simp only [Option.bind_some]
  rw [if_pos trivial, show pair_Table_Near.f (some ⟨prTab (minB l14 - 1) l14, ((minB l14 - 1 : Nat) : Int)⟩) 120 99 = some 2 from near14 120 99 2 (by decide +kernel)]
  rfl
theorem wf8 {x : Int} (h : (Lit.int .u8 x).wf = true) : 0 ≤ x ∧ x ≤ 255 := by
  simp [Lit.wf, IntKind.min, IntKind.max, IntKind.signed, IntKind.bits] at h
  omega
theorem u8_of {x : Int} (h : (Lit.int .u8 x).wf = true) : ∃ c : UInt8, x = (c.toNat : Int) := by
  obtain ⟨h0, h1⟩ := wf8 h
  refine ⟨UInt8.ofNat x.toNat, ?_⟩
  rw [UInt8.toNat_ofNat']
  omega

end Go.Proofs.Ytnpkbnfiadkgnaa.Base

/- The table of shifts as plain data: how a set's bytes fill it; no condition. -/
namespace Go.Proofs.Ytnpkbnfiadkgnaa.P
open Go Go.RowKit Go.Proofs.Ytnpkbnfiadkgnaa.Base

/-- One byte's shift, as a pattern's byte at a distance tells it. -/
def shPut (s : ByteArray) (T : List Int) (d : Nat) : List Int := T.set ((LL s).getD (s.size - 1 - d) 0).toNat (min (T.getD ((LL s).getD (s.size - 1 - d) 0).toNat 0) (d : Int))
def shRow (m : Nat) (T : List Int) (s : ByteArray) : List Int := (List.range m).foldl (shPut s) T
def shTab (m : Nat) (l : List ByteArray) : List Int := l.foldl (shRow m) (List.replicate 256 (m : Int))
theorem shPut_length (s : ByteArray) (T : List Int) (d : Nat) : (shPut s T d).length = T.length := List.length_set ..
theorem shPut_eq {s : ByteArray} {T : List Int} {d cc : Nat} (h : ((LL s).getD (s.size - 1 - d) 0).toNat = cc) : shPut s T d = T.set cc (min (T.getD cc 0) (d : Int)) := by unfold shPut; rw [h]
theorem shRow_length (s : ByteArray) (m : Nat) (T : List Int) : (shRow m T s).length = T.length := by
  unfold shRow
  induction m with
  | zero => rfl
  | succ m ih => rw [List.range_succ, List.foldl_append, List.foldl_cons, List.foldl_nil, shPut_length, ih]
theorem shFold_length (m : Nat) : ∀ (l : List ByteArray) (T : List Int), (l.foldl (shRow m) T).length = T.length
  | [], T => rfl
  | s :: l, T => by rw [List.foldl_cons, shFold_length m l, shRow_length]
theorem shTab_length (m : Nat) (l : List ByteArray) : (shTab m l).length = 256 := by
  unfold shTab
  rw [shFold_length, List.length_replicate]

end Go.Proofs.Ytnpkbnfiadkgnaa.P

/- A byte's shift by its definition, and that the table of shifts and layer 13's reference tell it; no condition beyond the sizes that stand in each statement. -/
namespace Go.Proofs.Ytnpkbnfiadkgnaa.Base
open Go Go.RowKit Go.Proofs.YtnpkbnfiadkgnaaW.PrintWords Go.Proofs.YtnpkbnfiadkgnaaW.PrintMore Go.Proofs.Ytnpkbnfiadkgnaa.P
set_option linter.unusedVariables false

/-- The byte of a text at a distance from its end. -/
def byteAt (s : ByteArray) (d : Nat) : Nat := ((LL s).getD (s.size - 1 - d) 0).toNat
theorem byteAt_lt (s : ByteArray) (d : Nat) : byteAt s d < 256 := UInt8.toNat_lt _
theorem getD_set {T : List Int} {b c : Nat} {v : Int} (hb : b < T.length) : (T.set b v).getD c 0 = if b = c then v else T.getD c 0 := by
  rw [List.getD_eq_getElem?_getD, List.getD_eq_getElem?_getD, List.getElem?_set]
  by_cases h : b = c
  · subst h; rw [if_pos rfl, if_pos hb, if_pos rfl]; rfl
  · rw [if_neg h, if_neg h]
/-- What is known of one byte's shift, of the pairs that were seen. -/
def ShInv (m c : Nat) (seen : ByteArray → Nat → Prop) (T : List Int) : Prop :=
  T.length = 256 ∧ 0 ≤ T.getD c 0 ∧ T.getD c 0 ≤ m ∧ (∀ s d, seen s d → byteAt s d = c → T.getD c 0 ≤ (d : Int)) ∧ (T.getD c 0 = m ∨ ∃ s d, seen s d ∧ byteAt s d = c ∧ T.getD c 0 = (d : Int))
theorem shInv_put {m c : Nat} {seen : ByteArray → Nat → Prop} {T : List Int} (h : ShInv m c seen T) (s : ByteArray) (d : Nat) : ShInv m c (fun s' d' => seen s' d' ∨ s' = s ∧ d' = d) (shPut s T d) := by
  obtain ⟨h1, h2, h3, h4, h5⟩ := h
  have e : (shPut s T d).getD c 0 = if byteAt s d = c then min (T.getD c 0) (d : Int) else T.getD c 0 := by
    unfold shPut
    rw [getD_set (by rw [h1]; exact UInt8.toNat_lt _)]
    by_cases hc : byteAt s d = c
    · have hc' : ((LL s).getD (s.size - 1 - d) 0).toNat = c := hc
      rw [if_pos hc, if_pos hc', hc']
    · have hc' : ¬ ((LL s).getD (s.size - 1 - d) 0).toNat = c := hc
      rw [if_neg hc, if_neg hc']
  refine ⟨by rw [shPut_length]; exact h1, ?_, ?_, ?_, ?_⟩ <;> rw [e]
  · split <;> omega
  · split <;> omega
  · rintro s' d' (hs | ⟨rfl, rfl⟩) hb
    · have := h4 s' d' hs hb
      split <;> omega
    · rw [if_pos hb]; omega
  · by_cases hc : byteAt s d = c
    · rw [if_pos hc]
      by_cases hd : T.getD c 0 ≤ (d : Int)
      · rw [show min (T.getD c 0) (d : Int) = T.getD c 0 by omega]
        rcases h5 with h5 | ⟨s', d', a, b, h5⟩
        · exact .inl h5
        · exact .inr ⟨s', d', .inl a, b, h5⟩
      · exact .inr ⟨s, d, .inr ⟨rfl, rfl⟩, hc, by omega⟩
    · rw [if_neg hc]
      rcases h5 with h5 | ⟨s', d', a, b, h5⟩
      · exact .inl h5
      · exact .inr ⟨s', d', .inl a, b, h5⟩
theorem shInv_imp {m c : Nat} {seen seen' : ByteArray → Nat → Prop} {T : List Int} (h : ShInv m c seen T) (hi : ∀ s d, seen s d ↔ seen' s d) : ShInv m c seen' T := by
  have : seen = seen' := by funext s d; exact propext (hi s d)
  rw [← this]; exact h
theorem shInv_row {m c : Nat} {seen : ByteArray → Nat → Prop} {T : List Int} (h : ShInv m c seen T) (s : ByteArray) : ∀ n, ShInv m c (fun s' d' => seen s' d' ∨ s' = s ∧ d' < n) ((List.range n).foldl (shPut s) T)
  | 0 => shInv_imp h (fun s' d' => by simp)
  | n + 1 => by
    rw [List.range_succ, List.foldl_append]
    refine shInv_imp (shInv_put (shInv_row h s n) s n) (fun s' d' => ?_)
    constructor
    · rintro ((h | ⟨h1, h2⟩) | ⟨h1, h2⟩)
      · exact .inl h
      · exact .inr ⟨h1, by omega⟩
      · exact .inr ⟨h1, by omega⟩
    · rintro (h | ⟨h1, h2⟩)
      · exact .inl (.inl h)
      · by_cases h3 : d' = n
        · exact .inr ⟨h1, h3⟩
        · exact .inl (.inr ⟨h1, by omega⟩)
theorem shInv_fold {m c : Nat} : ∀ (l : List ByteArray) (seen : ByteArray → Nat → Prop) (T : List Int), ShInv m c seen T → ShInv m c (fun s' d' => seen s' d' ∨ s' ∈ l ∧ d' < m) (l.foldl (shRow m) T)
  | [], seen, T, h => shInv_imp h (fun s' d' => by simp)
  | s :: l, seen, T, h => by
    refine shInv_imp (shInv_fold l _ _ (shInv_row h s m)) (fun s' d' => ?_)
    rw [List.mem_cons]
    constructor
    · rintro ((h | ⟨rfl, h2⟩) | ⟨h1, h2⟩)
      · exact .inl h
      · exact .inr ⟨.inl rfl, h2⟩
      · exact .inr ⟨.inr h1, h2⟩
    · rintro (h | ⟨rfl | h1, h2⟩)
      · exact .inl (.inl h)
      · exact .inl (.inr ⟨rfl, h2⟩)
      · exact .inr ⟨h1, h2⟩
/-- A byte's shift. -/
def shB (w : List ByteArray) (c : Nat) : Int := (shTab (minB w) w).getD c 0
theorem shB_spec (w : List ByteArray) {c : Nat} (hc : c < 256) : 0 ≤ shB w c ∧ shB w c ≤ minB w ∧ (∀ s ∈ w, ∀ d, d < minB w → byteAt s d = c → shB w c ≤ (d : Int)) ∧ (shB w c = minB w ∨ ∃ s ∈ w, ∃ d, d < minB w ∧ byteAt s d = c ∧ shB w c = (d : Int)) := by
  have e : (List.replicate 256 (minB w : Int)).getD c 0 = minB w := by rw [List.getD_eq_getElem?_getD, List.getElem?_replicate, if_pos hc]; rfl
  have h : ShInv (minB w) c (fun _ _ => False) (List.replicate 256 (minB w : Int)) := ⟨List.length_replicate, by rw [e]; omega, by rw [e]; exact Int.le_refl _, fun _ _ h => h.elim, .inl e⟩
  obtain ⟨h1, h2, h3, h4, h5⟩ := shInv_fold w _ _ h
  refine ⟨h2, h3, fun s hs d hd hb => h4 s d (.inr ⟨hs, hd⟩) hb, ?_⟩
  rcases h5 with h5 | ⟨s, d, a | ⟨a, a'⟩, b, h5⟩
  · exact .inl h5
  · exact a.elim
  · exact .inr ⟨s, a, d, a', b, h5⟩

/-- Has a pattern a byte at a distance? -/
def hasB (l : List ByteArray) (c d : Nat) : Bool := l.any fun s => decide (d < s.size ∧ byteAt s d = c)
theorem bt_byteAt {s : ByteArray} {d : Nat} (h : d < s.size) : bt s ((s.size : Int) - 1 - d) = (byteAt s d : Int) := by
  rw [bt_eq]; unfold byteAt; congr 3; omega
theorem rhas_l0 (l : List ByteArray) (hl : l.length ≤ 9223372036854775806) (hs : ∀ s ∈ l, s.size ≤ 9223372036854775806) (c d : Nat) : ∀ (f i : Nat), i + f = l.length →
    Ev (fun k => juratref13_Has.l0 k l (c : Int) (d : Int) (i : Int)) (hasB (l.drop i) c d) := by
  intro f
  induction f with
  | zero =>
    intro i hi
    refine Ev.ret fun k => ?_
    simp only [juratref13_Has.l0]
    rw [if_neg (by omega), List.drop_of_length_le (by omega)]
    rfl
  | succ f ih =>
    intro i hi
    have hd := getD_drop l i ByteArray.empty (by omega)
    have hz := hs _ (getD_mem l i ByteArray.empty (by omega))
    have e : rdOf ByteArray.empty l (i : Int) = l.getD i ByteArray.empty := rfl
    have e2 : hasB (l.drop i) c d = (decide (d < (l.getD i ByteArray.empty).size ∧ byteAt (l.getD i ByteArray.empty) d = c) || hasB (l.drop (i + 1)) c d) := by rw [hd]; rfl
    rw [e2]
    have step : Ev (fun k => juratref13_Has.l0 k l (c : Int) (d : Int) (wrap64 ((i : Int) + 1))) (hasB (l.drop (i + 1)) c d) := by
      rw [wrap_id (by omega) (by omega)]
      exact ih (i + 1) (by omega)
    generalize l.getD i ByteArray.empty = s at e hz
    by_cases h1 : d < s.size
    · have hb := bt_byteAt h1
      by_cases h2 : byteAt s d = c
      · rw [decide_eq_true ⟨h1, h2⟩, Bool.true_or]
        refine Ev.ret fun k => ?_
        simp only [juratref13_Has.l0]
        rw [if_pos (by omega), if_pos (by omega), e, wrap_id (x := (s.size : Int) - 1) (by omega) (by omega), wrap_id (by omega) (by omega), if_pos (by omega), if_pos (by omega), if_pos (by omega), hb, if_pos (by omega)]
      · rw [decide_eq_false (fun h => h2 h.2), Bool.false_or]
        refine Ev.step (fun k => ?_) step
        simp only [juratref13_Has.l0]
        rw [if_pos (by omega), if_pos (by omega), e, wrap_id (x := (s.size : Int) - 1) (by omega) (by omega), wrap_id (x := (s.size : Int) - 1 - d) (by omega) (by omega), if_pos (by omega), if_pos (by omega), if_pos (by omega), hb, if_neg (by omega)]
    · rw [decide_eq_false (fun h => h1 h.1), Bool.false_or]
      refine Ev.step (fun k => ?_) step
      simp only [juratref13_Has.l0]
      rw [if_pos (by omega), if_pos (by omega), e, if_neg (by omega)]
theorem rhas_ev (l : List ByteArray) (hl : l.length ≤ 9223372036854775806) (hs : ∀ s ∈ l, s.size ≤ 9223372036854775806) (c d : Nat) : Ev (fun k => juratref13_Has.f k l (c : Int) (d : Int)) (hasB l c d) := rhas_l0 l hl hs c d l.length 0 (by omega)
theorem hasB_iff {l : List ByteArray} {c d : Nat} : hasB l c d = true ↔ ∃ s ∈ l, d < s.size ∧ byteAt s d = c := by
  unfold hasB; rw [List.any_eq_true]; simp
theorem rfirst_l0 (w : List ByteArray) (hl : w.length ≤ 65535) (hs : ∀ s ∈ w, s.size ≤ 65535) {c : Nat} (hc : c < 256) : ∀ (f i : Nat), i + f = minB w → (∀ d, d < i → hasB w c d = false) →
    Ev (fun k => juratref13_First.l0 k w (c : Int) (minB w : Int) (i : Int)) (shB w c) := by
  obtain ⟨h1, h2, h3, h4⟩ := shB_spec w hc
  have hmin := fun s hs => min_le (w := w) s hs
  intro f
  induction f with
  | zero =>
    intro i hi hno
    refine Ev.ret fun k => ?_
    simp only [juratref13_First.l0]
    rw [if_neg (by omega)]
    rcases h4 with h4 | ⟨s, hs, d, hd, hb, h4⟩
    · rw [h4]
    · have := hno d (by omega)
      rw [hasB_iff.2 ⟨s, hs, by have := hmin s hs; omega, hb⟩] at this
      cases this
  | succ f ih =>
    intro i hi hno
    refine Ev.step (f := fun k => (juratref13_Has.f k w (c : Int) (i : Int)).bind fun t => (if t = true then (some (i : Int)) else (juratref13_First.l0 k w (c : Int) (minB w : Int) (wrap64 ((i : Int) + 1))))) (fun k => ?_) ?_
    · simp only [juratref13_First.l0]
      rw [if_pos (by omega)]
    refine Ev.bind (rhas_ev w (by omega) (fun s h => by have := hs s h; omega) c i) ?_
    cases hh : hasB w c i with
    | true =>
      refine Ev.congr (fun k => if_pos rfl) ?_
      obtain ⟨s, hs, hd, hb⟩ := hasB_iff.1 hh
      have hle := h3 s hs i (by omega) hb
      have : shB w c = i := by
        rcases h4 with h4 | ⟨s', hs', d, hd', hb', h4⟩
        · omega
        · by_cases hlt : d < i
          · have := hno d hlt
            rw [hasB_iff.2 ⟨s', hs', by have := hmin s' hs'; omega, hb'⟩] at this
            cases this
          · omega
      rw [this]
      exact Ev.now _
    | false =>
      refine Ev.congr (fun k => if_neg (by simp)) ?_
      have hm : minB w ≤ 65535 := by
        cases w with
        | nil => simp [minB, leastB] at hi
        | cons s w => have := hmin s List.mem_cons_self; have := hs s List.mem_cons_self; omega
      rw [wrap_id (by omega) (by omega)]
      refine ih (i + 1) (by omega) (fun d hd => ?_)
      by_cases h : d = i
      · rw [h]; exact hh
      · exact hno d (by omega)
theorem rfirst_ev (w : List ByteArray) (hl : w.length ≤ 65535) (hs : ∀ s ∈ w, s.size ≤ 65535) {c : Nat} (hc : c < 256) : Ev (fun k => juratref13_First.f k w (c : Int)) (shB w c) := by
  unfold juratref13_First.f
  exact Ev.bind (rleast_ev w (by omega)) (rfirst_l0 w hl hs hc (minB w) 0 (by omega) (fun d hd => by omega))

end Go.Proofs.Ytnpkbnfiadkgnaa.Base

/- Where a text stands in another one, as layer 8's reference finds it; no condition beyond the sizes that stand in each statement. -/
namespace Go.Proofs.Ytnpkbnfiadkgnaa.Base
open Go Go.RowKit Go.Proofs.YtnpkbnfiadkgnaaW.PrintWords Go.Proofs.YtnpkbnfiadkgnaaW.PrintMore Go.Proofs.Ytnpkbnfiadkgnaa.P
set_option linter.unusedVariables false

/-- Does a text stand at a place? -/
def stands (s t : ByteArray) (p : Nat) : Prop := p + t.size ≤ s.size ∧ ((LL s).drop p).take t.size = LL t
instance (s t : ByteArray) (p : Nat) : Decidable (stands s t p) := inferInstanceAs (Decidable (_ ∧ _))
/-- The places from one on. -/
def occF (s t : ByteArray) : Nat → Nat → List Int
  | 0, _ => []
  | d + 1, i => if i + t.size ≤ s.size ∧ t.size ≠ 0 then (if stands s t i then (i : Int) :: occF s t d (i + 1) else occF s t d (i + 1)) else []
def occB (s t : ByteArray) : List Int := occF s t (s.size + 2) 0
theorem stands_extract {s t : ByteArray} {i : Nat} (h : i + t.size ≤ s.size) : (s.extract i (i + t.size)).toList = t.toList ↔ stands s t i := by
  rw [toList_iff, LL_iff, LL_extract, List.drop_take, Nat.add_sub_cancel_left]
  exact ⟨fun e => ⟨h, e⟩, fun e => e.2⟩
theorem occF_length (s t : ByteArray) : ∀ d i, (occF s t d i).length ≤ d
  | 0, _ => Nat.le_refl _
  | d + 1, i => by
    have := occF_length s t d (i + 1)
    simp only [occF]
    split
    · split
      · rw [List.length_cons]; omega
      · omega
    · simp
theorem occF_mem (s t : ByteArray) (q : Int) : ∀ d i, s.size < i + d → (q ∈ occF s t d i ↔ ∃ p : Nat, q = p ∧ i ≤ p ∧ t.size ≠ 0 ∧ stands s t p)
  | 0, i, h => by
    simp only [occF, List.not_mem_nil, false_iff]
    rintro ⟨p, _, h1, _, h2, _⟩
    omega
  | d + 1, i, h => by
    have ih := occF_mem s t q d (i + 1) (by omega)
    simp only [occF]
    by_cases h1 : i + t.size ≤ s.size ∧ t.size ≠ 0
    · rw [if_pos h1]
      by_cases h2 : stands s t i
      · rw [if_pos h2, List.mem_cons, ih]
        constructor
        · rintro (rfl | ⟨p, rfl, h3, h4, h5⟩)
          · exact ⟨i, rfl, Nat.le_refl _, h1.2, h2⟩
          · exact ⟨p, rfl, by omega, h4, h5⟩
        · rintro ⟨p, rfl, h3, h4, h5⟩
          by_cases h6 : p = i
          · exact .inl (by rw [h6])
          · exact .inr ⟨p, rfl, by omega, h4, h5⟩
      · rw [if_neg h2, ih]
        constructor
        · rintro ⟨p, rfl, h3, h4, h5⟩
          exact ⟨p, rfl, by omega, h4, h5⟩
        · rintro ⟨p, rfl, h3, h4, h5⟩
          refine ⟨p, rfl, ?_, h4, h5⟩
          by_cases h6 : p = i
          · subst h6; exact absurd h5 h2
          · omega
    · rw [if_neg h1]
      simp only [List.not_mem_nil, false_iff]
      rintro ⟨p, _, h3, h4, h5, _⟩
      exact h1 ⟨by omega, h4⟩
theorem occB_mem (s t : ByteArray) (q : Int) : q ∈ occB s t ↔ ∃ p : Nat, q = p ∧ t.size ≠ 0 ∧ stands s t p := by
  unfold occB
  rw [occF_mem s t q _ 0 (by omega)]
  exact ⟨fun ⟨p, h1, _, h2⟩ => ⟨p, h1, h2⟩, fun ⟨p, h1, h2⟩ => ⟨p, h1, Nat.zero_le _, h2⟩⟩
theorem occB_length (s t : ByteArray) : (occB s t).length ≤ s.size + 2 := occF_length s t _ _
theorem rocc_l0 (s t : ByteArray) (hs : s.size ≤ 1099511627776) (ht : t.size ≤ 1099511627776) : ∀ (d i : Nat) (out : List Int), i ≤ s.size + 1 → s.size + 1 < i + d → out.length ≤ i →
    Ev (fun k => juratref08_Find.l0 k s t out (i : Int)) (out ++ occF s t d i) := by
  intro d
  induction d with
  | zero => intro i out h0 h1 h2; omega
  | succ d ih =>
    intro i out h0 h1 h2
    have w1 : wrap64 ((i : Int) + (t.size : Int)) = ((i + t.size : Nat) : Int) := by rw [wrap_id (by omega) (by omega)]; rfl
    simp only [occF]
    by_cases h3 : i + t.size ≤ s.size ∧ t.size ≠ 0
    · rw [if_pos h3]
      have e : (t.toList != ([] : List UInt8)) = true := by rw [bne_iff_ne]; exact fun e => h3.2 (toList_nil.1 e)
      by_cases h4 : stands s t i
      · rw [if_pos h4]
        have := ih (i + 1) (out ++ [(i : Int)]) (by omega) (by omega) (by simp; omega)
        rw [List.append_assoc] at this
        refine Ev.step (f := fun k => juratref08_Find.j1 k s t out (i : Int) true) (fun k => ?_) (Ev.step (fun k => ?_) this)
        · simp only [juratref08_Find.l0, w1]
          rw [if_pos (by omega), e]
        · simp only [juratref08_Find.j1, w1]
          rw [if_pos trivial, if_pos (by omega), if_pos (by omega), if_pos (by omega), Int.toNat_natCast, Int.toNat_natCast, if_pos ((stands_extract h3.1).2 h4), if_pos (by omega), wrap_id (by omega) (by omega)]
          rfl
      · rw [if_neg h4]
        refine Ev.step (f := fun k => juratref08_Find.j1 k s t out (i : Int) true) (fun k => ?_) (Ev.step (fun k => ?_) (ih (i + 1) out (by omega) (by omega) (by omega)))
        · simp only [juratref08_Find.l0, w1]
          rw [if_pos (by omega), e]
        · simp only [juratref08_Find.j1, w1]
          rw [if_pos trivial, if_pos (by omega), if_pos (by omega), if_pos (by omega), Int.toNat_natCast, Int.toNat_natCast, if_neg (fun x => h4 ((stands_extract h3.1).1 x)), wrap_id (by omega) (by omega)]
          rfl
    · rw [if_neg h3, List.append_nil]
      refine Ev.step (f := fun k => juratref08_Find.j1 k s t out (i : Int) false) (fun k => ?_) (Ev.ret fun k => ?_)
      · simp only [juratref08_Find.l0, w1]
        by_cases h5 : i + t.size ≤ s.size
        · have e : (t.toList != ([] : List UInt8)) = false := by
            rw [bne_eq_false_iff_eq]
            exact toList_nil.2 (Classical.not_not.1 fun h => h3 ⟨h5, h⟩)
          rw [if_pos (by omega), e]
        · rw [if_neg (by omega)]
      · simp only [juratref08_Find.j1]
        rw [if_neg (by simp)]
theorem rocc_ev (s t : ByteArray) (hs : s.size ≤ 1099511627776) (ht : t.size ≤ 1099511627776) : Ev (fun k => juratref08_Find.f k s t) (occB s t) := by
  have h := rocc_l0 s t hs ht (s.size + 2) 0 [] (by omega) (by omega) (by simp)
  rw [List.nil_append] at h
  exact h

end Go.Proofs.Ytnpkbnfiadkgnaa.Base

/- Proved: for all texts, every text and every number the law PairClears of layer 14 answers true. No condition beyond the statement's own. -/
namespace Go.Proofs.Ytnpkbnfiadkgnaa.Pure
open Go Go.RowKit Go.Maps Go.Proofs.Ytnpkbnfiadkgnaa.P Go.Proofs.YtnpkbnfiadkgnaaW.PrintWords Go.Proofs.YtnpkbnfiadkgnaaW.PrintLast Go.Proofs.Ytnpkbnfiadkgnaa.Base
set_option linter.unusedVariables false

/-- Where a text stands, its last bytes are those of the other one. -/
theorem stands_pB {s t : ByteArray} {p d : Nat} (h : stands s t p) (hd : d < t.size) : pB t d = (LL s).getD (p + t.size - 1 - d) 0 := by
  unfold pB
  rw [← h.2, List.getD_eq_getElem?_getD, List.getD_eq_getElem?_getD, List.getElem?_take_of_lt (by omega), List.getElem?_drop]
  congr 2
  omega
/-- The shift of the two bytes ahead of an end. -/
def clrN (w : List ByteArray) (s : ByteArray) (e : Nat) : Int := prN w ((LL s).getD (e - 2) 0) ((LL s).getD (e - 1) 0)
/-- No pattern ends where two bytes' shift says so. -/
theorem clears_pat2 {w : List ByteArray} {s t : ByteArray} {p e : Nat} (ht : t ∈ w) (h : stands s t p) (h0 : 2 ≤ e) (h1 : e ≤ p + t.size) (h2 : ((p + t.size : Nat) : Int) < (e : Int) + clrN w s e) : False := by
  obtain ⟨a1, a2, a3, a4⟩ := prN_spec w ((LL s).getD (e - 2) 0) ((LL s).getD (e - 1) 0)
  unfold clrN at h2
  have hm := min_le t ht
  have hd : p + t.size - e < minB w - 1 := by omega
  have := a3 t ht (p + t.size - e) hd (by
    rw [stands_pB h (by omega)]
    congr 1
    omega) (by
    rw [stands_pB h (by omega)]
    congr 1
    omega)
  omega
/-- Two bytes clear no fewer ends than the second one alone, or all but one that may be. -/
theorem clears_more (w : List ByteArray) (s : ByteArray) (e : Nat) : clrN w s e < shB w ((LL s).getD (e - 1) 0).toNat → clrN w s e = ((minB w - 1 : Nat) : Int) := by
  intro hlt
  obtain ⟨a1, a2, a3, a4⟩ := prN_spec w ((LL s).getD (e - 2) 0) ((LL s).getD (e - 1) 0)
  obtain ⟨b1, b2, b3, b4⟩ := shB_spec w (c := ((LL s).getD (e - 1) 0).toNat) (UInt8.toNat_lt _)
  unfold clrN at *
  rcases a4 with a4 | ⟨t, ht, d, hd, e1, e2, a4⟩
  · exact a4
  · have := b3 t ht d (by omega) (by
      show (pB t d).toNat = _
      rw [e2])
    omega
theorem clr_bounds (w : List ByteArray) (s : ByteArray) (e : Nat) : 0 ≤ clrN w s e ∧ clrN w s e ≤ ((minB w - 1 : Nat) : Int) := ⟨(prN_spec w _ _).1, (prN_spec w _ _).2.1⟩
theorem clears_l1 (s : ByteArray) (w : List ByteArray) (hs : s.size ≤ 100) (hw : w.length ≤ 65535) (hz : ∀ t ∈ w, t.size ≤ 65535) (e : Nat) (h0 : 2 ≤ e) (h1 : e ≤ s.size) (i : Nat) (hi : i < w.length) :
    ∀ (f j : Nat), j + f = (occB s (w.getD i ByteArray.empty)).length → Ev (fun k => juratlaw14_PairClears.l0 k s (e : Int) w (clrN w s e) ((i + 1 : Nat) : Int)) true →
    Ev (fun k => juratlaw14_PairClears.l1 k s (e : Int) w (clrN w s e) (i : Int) (occB s (w.getD i ByteArray.empty)) (j : Int)) true := by
  have ht := getD_mem w i ByteArray.empty hi
  have htz := hz _ ht
  have e1 : rdOf ByteArray.empty w (i : Int) = w.getD i ByteArray.empty := rfl
  obtain ⟨a1, a2⟩ := clr_bounds w s e
  have hm := min_le _ ht
  have hmem := occB_mem s (w.getD i ByteArray.empty)
  have hlen := occB_length s (w.getD i ByteArray.empty)
  generalize hO : occB s (w.getD i ByteArray.empty) = O at *
  intro f
  induction f with
  | zero =>
    intro j hj hnext
    refine Ev.step (fun k => ?_) hnext
    simp only [juratlaw14_PairClears.l1]
    rw [if_neg (by omega), wrap_id (by omega) (by omega)]
    rfl
  | succ f ih =>
    intro j hj hnext
    obtain ⟨p, hp, _, hst⟩ := (hmem _).1 (getD_mem O j 0 (by omega))
    have hrd : rd O (j : Int) = (p : Int) := by unfold rd; rw [Int.toNat_natCast]; exact hp
    have hps := hst.1
    refine Ev.step (fun k => ?_) (ih (j + 1) (by omega) hnext)
    simp only [juratlaw14_PairClears.l1]
    rw [if_pos (by omega), if_pos (by omega), if_pos (by omega), if_pos (by omega), e1, hrd, wrap_id (x := (p : Int) + _) (by omega) (by omega), wrap_id (x := (j : Int) + 1) (by omega) (by omega)]
    by_cases h2 : (p : Int) + ((w.getD i ByteArray.empty).size : Int) ≥ (e : Int)
    · rw [if_pos h2, wrap_id (by omega) (by omega), if_neg (fun h3 => clears_pat2 ht hst h0 (by omega) (by omega))]
      rfl
    · rw [if_neg h2]
      rfl
theorem clears_l0 (s : ByteArray) (w : List ByteArray) (hs : s.size ≤ 100) (hw : w.length ≤ 65535) (hz : ∀ t ∈ w, t.size ≤ 65535) (e : Nat) (h0 : 2 ≤ e) (h1 : e ≤ s.size) : ∀ (f i : Nat), i + f = w.length →
    Ev (fun k => juratlaw14_PairClears.l0 k s (e : Int) w (clrN w s e) (i : Int)) true := by
  intro f
  induction f with
  | zero =>
    intro i hi
    refine Ev.step (f := fun k => (juratlaw14_awake.f).bind fun t => some t) (fun k => ?_) (Ev.bind (Ev.const fun _ => awake14) (Ev.now true))
    simp only [juratlaw14_PairClears.l0]
    rw [if_neg (by omega)]
  | succ f ih =>
    intro i hi
    have e1 : rdOf ByteArray.empty w (i : Int) = w.getD i ByteArray.empty := rfl
    refine Ev.step (f := fun k => (juratref08_Find.f k s (w.getD i ByteArray.empty)).bind fun t240 => (juratlaw14_PairClears.l1 k s (e : Int) w (clrN w s e) (i : Int) t240 ((0 : Nat) : Int))) (fun k => ?_) ?_
    · simp only [juratlaw14_PairClears.l0]
      rw [if_pos (by omega), if_pos (by omega), e1]
      rfl
    have hz1 := hz _ (getD_mem w i ByteArray.empty (by omega))
    refine Ev.bind (rocc_ev s (w.getD i ByteArray.empty) (by omega) (by omega)) ?_
    exact clears_l1 s w hs hw hz e h0 h1 i (by omega) (occB s (w.getD i ByteArray.empty)).length 0 (by omega) (ih (i + 1) (by omega))
theorem PairClears (l : List ByteArray) (s : ByteArray) (e : Int) (hl : l.length * 16 ≤ 140737488351232) (_ : ∀ x ∈ l, x.size ≤ maxLen) (_ : s.size ≤ 140737488351232) (he : (Lit.int .i64 e).wf = true) : ∃ k, juratlaw14_PairClears.f k l s e = some true := by
  have he' := wf64 he
  refine Ev.rounds ?_
  have big : Ev (fun k => juratlaw14_PairClears.j0 k l s e true) true := by
    refine Ev.step (f := fun k => (juratlaw14_awake.f).bind fun t => some t) (fun k => ?_) (Ev.bind (Ev.const fun _ => awake14) (Ev.now true))
    simp only [juratlaw14_PairClears.j0]
    rw [if_pos trivial]
  unfold juratlaw14_PairClears.f
  refine Ev.bind (few_ev l 12 20 (by omega)) ?_
  by_cases h1 : (decide ((l.length : Int) ≤ 12) && fewB l 20) = true
  rotate_left
  · exact Ev.congr (fun k => if_neg h1) big
  refine Ev.congr (fun k => if_pos h1) ?_
  by_cases h2 : (s.size : Int) > 100
  · exact Ev.congr (fun k => if_pos h2) big
  refine Ev.congr (fun k => if_neg h2) ?_
  by_cases h3 : e < 2
  · exact Ev.congr (fun k => if_pos h3) big
  refine Ev.congr (fun k => if_neg h3) ?_
  by_cases h4 : e > (s.size : Int)
  · rw [decide_eq_true h4]; exact big
  rw [decide_eq_false h4]
  obtain ⟨e, rfl⟩ : ∃ n : Nat, e = n := ⟨e.toNat, by omega⟩
  obtain ⟨X, w, er, h⟩ := set_ok l
  have b1 : bt s ((e : Int) - 2) = ((((LL s).getD (e - 2) 0).toNat : Nat) : Int) := by rw [bt_eq]; congr 3; omega
  have b2 : bt s ((e : Int) - 1) = ((((LL s).getD (e - 1) 0).toNat : Nat) : Int) := by rw [bt_eq]; congr 3; omega
  have hc : pair_Table_Clear.f (some ⟨prTab (minB w - 1) w, ((minB w - 1 : Nat) : Int)⟩) s (e : Int) = some (clrN w s e) := by
    unfold pair_Table_Clear.f
    rw [if_neg (by simp; omega), if_neg (by omega), b1, b2]
    exact pnear_ok w _ _
  obtain ⟨a1, a2⟩ := clr_bounds w s e
  refine Ev.step (f := fun k => juratlaw14_PairClears.j0 (k + 1) l s (e : Int) false) (fun k => rfl) ?_
  simp only [juratlaw14_PairClears.j0]
  refine Ev.congr (fun k => if_neg (by simp)) ?_
  refine Ev.bind (Ev.const fun _ => h.hn) (Ev.bind (rnew_ok h) (Ev.bind (Ev.const fun _ => pair_ok h) (Ev.bind (Ev.const fun _ => hc) ?_)))
  refine Ev.bind (Ev.const fun _ => (rfl : pair_Table_Far.f (some ⟨prTab (minB w - 1) w, ((minB w - 1 : Nat) : Int)⟩) = some ((minB w - 1 : Nat) : Int))) (Ev.congr (fun k => if_neg (show ¬ clrN w s e > ((minB w - 1 : Nat) : Int) by omega)) ?_)
  have hrest : Ev (fun k => juratlaw14_PairClears.j1 k s (e : Int) w (clrN w s e) false) true := by
    refine Ev.step (fun k => ?_) (clears_l0 s w (by omega) h.few h.size e (by omega) (by omega) w.length 0 (by omega))
    simp only [juratlaw14_PairClears.j1]
    rw [if_neg (by simp)]
    rfl
  rw [wrap_id (x := (e : Int) - 1) (by omega) (by omega)]
  refine Ev.congr (fun k => if_pos (by omega)) (Ev.congr (fun k => if_pos (by omega)) ?_)
  rw [b2]
  refine Ev.bind (rfirst_ev w h.few h.size (UInt8.toNat_lt _)) ?_
  by_cases h5 : clrN w s e < shB w ((LL s).getD (e - 1) 0).toNat
  · refine Ev.congr (fun k => if_pos h5) (Ev.bind (rfar_ev w h.few h.size) ?_)
    rw [clears_more w s e h5, bne_self_eq_false, ← clears_more w s e h5]
    exact hrest
  · exact Ev.congr (fun k => if_neg h5) hrest

end Go.Proofs.Ytnpkbnfiadkgnaa.Pure

/- How a law's arguments are opened: slices of texts and of numbers, as lists, with their sizes out of the row's weights. -/
namespace Go.Proofs.Ytnpkbnfiadkgnaa.RowS
open Go Go.ChangeShapes Go.WideShapes Go.RowKit Go.Proofs.YtnpkbnfiadkgnaaW.PrintWords

theorem slice_strings {H : Type} {enc : TypeId × Value → H} {P : Program} {W : World} {t e : TypeId} {a : Option Addr} {len cap : Nat} {d : DataW H} {ps : List MemPlace} {ts : List TypeId} {ds : List (DataW H)} {j : Nat}
    (hsz : (DataW.weightsEach P ts ds).all (· ≤ reachBytes) = true) (ht : ts[j]? = some t) (hd : ds[j]? = some d) (hu : P.underlying t = some (.slice e)) (he : P.underlying e = some .string) (hc : P.cellsOf e = 1) (hB : P.bytesOf e = 16)
    (h : DataW.Trod enc P W 0 (fun _ => true) true t (.slice a len cap) d ps) :
    ∃ l : List ByteArray, l.length = len ∧ len ≤ cap ∧ Kd.C Kd.string W a l.length l ∧ l.length * 16 ≤ 140737488351232 ∧ ∀ s ∈ l, s.size ≤ maxLen := by
  obtain ⟨fuel, hf⟩ := h
  rcases open_strings hu he hc hf with ⟨hcs, _⟩ | ⟨x, l, c, ss, hcs, _, hl, hm, hz, hx, hcell, hw⟩
  · simp [Value.cells] at hcs
    obtain ⟨rfl, rfl, rfl⟩ := hcs
    exact ⟨[], rfl, Nat.le_refl _, Kd.C_nil _ _, by simp, by simp⟩
  · simp [Value.cells] at hcs
    obtain ⟨rfl, rfl, rfl⟩ := hcs
    obtain ⟨hx, _⟩ := Prod.mk.inj hx
    subst hx
    have z := sized_slice hsz ht hd hu
    rw [hB] at z
    rw [if_pos rfl] at hz
    have hl2 : len ≤ ss.length := by omega
    have h1 : (strs (H := H) (ss.take len)).length + (strs (H := H) (ss.drop len)).length = ss.length := by
      simp [strs]
      omega
    rw [h1] at z
    have hlen : (ss.take len).length = len := by rw [List.length_take]; omega
    refine ⟨ss.take len, hlen, hl, Kd.C_of_reads (d := ByteArray.empty) (h1 := fun _ => rfl) ⟨rfl, by rw [hlen]; unfold maxLen at hm; omega, fun _ => ⟨x, rfl, fun i hi => ?_⟩⟩, ?_, fun s hs => hw s (List.mem_of_mem_take hs)⟩
    · rw [hlen] at hi
      rw [hcell i (by omega), List.getD_eq_getElem?_getD, List.getD_eq_getElem?_getD, List.getElem?_take_of_lt hi]
    · rw [hlen]
      exact Nat.le_trans (Nat.mul_le_mul_right _ hl2) z
theorem slice_ints {H : Type} {enc : TypeId × Value → H} {P : Program} {W : World} {t e : TypeId} {k : IntKind} {a : Option Addr} {len cap : Nat} {d : DataW H} {ps : List MemPlace} {ts : List TypeId} {ds : List (DataW H)} {j : Nat}
    (hsz : (DataW.weightsEach P ts ds).all (· ≤ reachBytes) = true) (ht : ts[j]? = some t) (hd : ds[j]? = some d) (hu : P.underlying t = some (.slice e)) (he : P.underlying e = some (.int k)) (hc : P.cellsOf e = 1) {B : Nat} (hB : P.bytesOf e = B)
    (h : DataW.Trod enc P W 0 (fun _ => true) true t (.slice a len cap) d ps) :
    ∃ l : List Int, l.length = len ∧ len ≤ cap ∧ Kd.C (Kd.int k) W a l.length l ∧ l.length ≤ maxLen ∧ l.length * B ≤ 140737488351232 ∧ ∀ n ∈ l, (Lit.int k n).wf = true := by
  have y := sized_ints hsz ht hd hu he hc hB h
  obtain ⟨fuel, hf⟩ := h
  rcases open_ints hu he hc hf with ⟨hcs, _⟩ | ⟨x, l, c, zs, hcs, _, hl, hm, hz, _, hcell, hw⟩
  · simp [Value.cells] at hcs
    obtain ⟨rfl, rfl, rfl⟩ := hcs
    exact ⟨[], rfl, Nat.le_refl _, Kd.C_nil _ _, by simp, by simp, by simp⟩
  · simp [Value.cells] at hcs
    obtain ⟨rfl, rfl, rfl⟩ := hcs
    rw [if_pos rfl] at hz
    have hlen : (zs.take len).length = len := by rw [List.length_take]; omega
    refine ⟨zs.take len, hlen, hl, Kd.C_of_reads (d := (0 : Int)) (h1 := fun _ => rfl) ⟨rfl, by rw [hlen]; unfold maxLen at hm; omega, fun _ => ⟨x, rfl, fun i hi => ?_⟩⟩, by rw [hlen]; omega, by rw [hlen]; exact y, fun s hs => hw s (List.mem_of_mem_take hs)⟩
    rw [hlen] at hi
    rw [hcell i (by omega), List.getD_eq_getElem?_getD, List.getD_eq_getElem?_getD, List.getElem?_take_of_lt hi]

end Go.Proofs.Ytnpkbnfiadkgnaa.RowS

/- The row of the law PairClears, out of its plain statement and the walk; written for this claim by a program of this session (wip/mkrow.py). -/
namespace Go.Proofs.Ytnpkbnfiadkgnaa.pairClears
open Go.ChangeShapes Go.WideShapes Go.ChangeAt Go.RowKit
open Go.ChangeMaps (open_string shut_string)
set_option linter.unusedVariables false
theorem own : ownKnob Try.prog.godebug = none := by kernel_rfl
theorem laidOut : laidOutB Try.prog = true := by kernel_rfl
set_option maxRecDepth 100000 in
theorem lifted (os : Os) (started : os.Started) (H : Type) (enc : TypeId × Value → H) :
    ReturnsInHanded {} Try.checked os 5 .any (Rows.pairClearsSpec.pre6 enc Try.prog Try.f5 Rows.pairClearsRow.domain false) (Rows.pairClearsSpec.post enc Try.prog Try.f5 false true false false) := by
  refine returnsInHanded_of_change_sized (C := Try.checked) own started (by kernel_rfl) Try.func5
    (ChangeSpec.witness6 (enc := enc) (C := Try.checked) false ⟨#[], #[.slice none 0 0, .string ByteArray.empty, .int .i64 0], []⟩ 8 (by kernel_rfl) (by kernel_rfl) (by kernel_rfl) (by kernel_rfl)) ?_
  intro W base args ds gs before hval0 hW hcnd hsz0 _
  have hsz : (DataW.weightsEach Try.prog (Try.f5.params.toList ++ Rows.pairClearsSpec.plain.varTypes Try.prog) (ds ++ gs)).all (· ≤ reachBytes) = true := hsz0
  have hval : ∀ (j : Nat) t v, Try.f5.params[j]? = some t → args[j]? = some v → Value.okWide Try.prog W .any base t v := hval0
  have hW' := hW
  obtain ⟨p, q, hA0, hV, rfl, hfz, hnd⟩ := hW
  have hA : DataW.TrodAll enc Try.prog W 0 (fun _ => true) true Try.f5.params.toList args.toList ds p := hA0
  rw [Try.params5] at hA hval hsz
  obtain ⟨v0, vs0, d0, ds0, p0, q0, hargs, rfl, rfl, h0, r0⟩ := trodAll_cons hA
  obtain ⟨v1, vs1, d1, ds1, p1, q1, rfl, rfl, rfl, h1, r1⟩ := trodAll_cons r0
  obtain ⟨v2, vs2, d2, ds2, p2, q2, rfl, rfl, rfl, h2, r2⟩ := trodAll_cons r1
  obtain ⟨rfl, rfl, rfl⟩ := trodAll_nil r2
  obtain rfl : args = #[v0, v1, v2] := by cases args; simp_all
  obtain ⟨rfl, rfl⟩ := trodVars_none hV
  obtain ⟨a0, len0, cap0, rfl⟩ := okWide_slice Try.underlying22 (hval 0 22 v0 rfl rfl)
  have k0 := h0
  have lt0 : ∀ x ∈ p0, x.block < W.heap.size := by obtain ⟨m, hm⟩ := k0; exact DataW.trod_lt m _ _ _ hm
  obtain ⟨l0, hn0, hc0, hr0, y0, w0⟩ := RowS.slice_strings hsz (j := 0) (t := 22) rfl rfl Try.underlying22 Try.underlying9 (by kernel_rfl) (by kernel_rfl) h0
  subst hn0
  obtain ⟨a1, rfl, rfl, rfl, y1⟩ := open_string Try.underlying9 (hval 1 9 v1 rfl rfl) h1
  have w1 : a1.size ≤ 140737488351232 := by
    have z := sized_string hsz (j := 1) (t := 9) rfl rfl
    rw [Array.length_toList] at z
    exact z
  obtain ⟨a2, rfl, rfl, rfl, w2⟩ := open_int Try.underlying3 (hval 2 3 v2 rfl rfl) h2
  clear hA0 hval0 hsz0 hsz
  obtain ⟨k, hk⟩ := Pure.PairClears l0 a1 a2 y0 w0 w1 w2
  refine (P.juratlaw14_PairClears.calls k a0 cap0 l0 a1 a2 true W hr0 hc0 hk).mono fun e W' ⟨he, bel⟩ => ?_
  subst he
  exact ⟨_, rfl, _, _, _, [], _, [], hW', trodAll_mk1 (shut_bool Try.underlying4 _), (trodAll_cons_mk (Below.trod laidOut (by kernel_rfl) (of_decide_eq_true (by kernel_rfl)) k0 bel lt0) (trodAll_cons_mk (shut_string Try.underlying9 y1) (trodAll_cons_mk (shut_int Try.underlying3 w2) trodAll_mk0))), rfl, bel.frame _, fun h => by cases h⟩
theorem over : Rows.pairClearsRow.holds Try.pinned (OpenSpec.ofChange Rows.pairClearsSpec) :=
  OpenClaim.holds_of_wide 5 Try.f5 rfl rfl rfl rfl rfl rfl rfl ⟨rfl, rfl, rfl, rfl, rfl⟩ rfl rfl rfl rfl rfl (by kernel_rfl) Try.func5 (by kernel_rfl)
    (of_decide_eq_true (by kernel_rfl)) (by unfold Func.isWrapper; first | (rw [if_pos (by decide +kernel)]; kernel_rfl) | (rw [if_neg (by decide +kernel)]; exact ⟨rfl, rfl⟩))
    (fun os started H enc _ => lifted os started H enc)
theorem proved : Rows.PairClearsSaid := over
#print axioms proved
end Go.Proofs.Ytnpkbnfiadkgnaa.pairClears
namespace Go.Proofs.Ytnpkbnfiadkgnaa
/-- The row, under a short name, for the claim. -/
theorem pairClears_holds : Rows.PairClearsSaid := pairClears.proved
end Go.Proofs.Ytnpkbnfiadkgnaa
