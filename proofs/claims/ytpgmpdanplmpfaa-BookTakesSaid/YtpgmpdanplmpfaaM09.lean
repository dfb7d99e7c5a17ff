/- What layer 9 and its reference compute, as plain functions on lists of bytes; no condition beyond the sizes that stand in each statement. -/
import Derived.Test.YtpgmpdanplmpfaaH09t
import Derived.Test.YtpgmpdanplmpfaaPx6
namespace Go.Proofs.Ytpgmpdanplmpfaa.Base
open Go Go.RowKit Go.Proofs.YtpgmpdanplmpfaaW.PrintWords Go.Proofs.YtpgmpdanplmpfaaW.PrintMore Go.Proofs.Ytpgmpdanplmpfaa.P
set_option linter.unusedVariables false

/-! few texts, of few bytes -/
def fewB (l : List ByteArray) (b : Int) : Bool := l.all fun s => decide ((s.size : Int) ≤ b)
theorem fewB_iff {l : List ByteArray} {b : Int} : fewB l b = true ↔ ∀ s ∈ l, (s.size : Int) ≤ b := by unfold fewB; rw [List.all_eq_true]; simp
theorem few_l0 (l : List ByteArray) (b : Int) (hm : l.length ≤ 9223372036854775807) : ∀ (d i : Nat), i + d = l.length →
    Ev (fun k => juratref09_Few.l0 k l b (i : Int)) (fewB (l.drop i) b) := by
  intro d
  induction d with
  | zero =>
    intro i hi
    refine Ev.ret fun k => ?_
    simp only [juratref09_Few.l0]
    rw [if_neg (by omega), List.drop_of_length_le (by omega)]
    rfl
  | succ d ih =>
    intro i hi
    have hd := getD_drop l i ByteArray.empty (by omega)
    have e : rdOf ByteArray.empty l (i : Int) = l.getD i ByteArray.empty := rfl
    have e2 : fewB (l.drop i) b = (decide (((l.getD i ByteArray.empty).size : Int) ≤ b) && fewB (l.drop (i + 1)) b) := by rw [hd]; rfl
    rw [e2]
    by_cases h : ((l.getD i ByteArray.empty).size : Int) > b
    · refine Ev.ret fun k => ?_
      simp only [juratref09_Few.l0]
      rw [if_pos (by omega), if_pos (by omega), e, if_pos h, decide_eq_false (by omega)]
      rfl
    · rw [decide_eq_true (by omega), Bool.true_and]
      refine Ev.step (f := fun k => juratref09_Few.l0 k l b ((i + 1 : Nat) : Int)) (fun k => ?_) (ih (i + 1) (by omega))
      simp only [juratref09_Few.l0]
      rw [if_pos (by omega), if_pos (by omega), e, if_neg h, wrap_id (by omega) (by omega)]
      rfl
theorem few_ev (l : List ByteArray) (m b : Int) (hm : l.length ≤ 9223372036854775807) : Ev (fun k => juratref09_Few.f k l m b) (decide ((l.length : Int) ≤ m) && fewB l b) := by
  by_cases h : (l.length : Int) > m
  · rw [decide_eq_false (by omega)]
    refine Ev.const fun k => ?_
    unfold juratref09_Few.f
    rw [if_pos h]
    rfl
  · have h' := few_l0 l b hm l.length 0 (by omega)
    rw [List.drop_zero] at h'
    rw [decide_eq_true (by omega), Bool.true_and]
    refine Ev.congr (fun k => ?_) h'
    unfold juratref09_Few.f
    rw [if_neg h]
    rfl

/-! sorted: two lists in order with the same texts are one -/
theorem up_unique : ∀ {l m : List ByteArray}, l.Perm m → upB l → upB m → l = m
  | [], m, h, _, _ => by rw [List.nil_perm.1 h]
  | x :: l, [], h, _, _ => by have := h.length_eq; simp at this
  | x :: l, y :: m, h, hl, hm => by
    obtain ⟨hl1, hl2⟩ := List.pairwise_cons.1 hl
    obtain ⟨hm1, hm2⟩ := List.pairwise_cons.1 hm
    have e : x = y := by
      rcases bl_tri (LL x) (LL y) with h' | h' | h'
      · exact LL_inj h'
      · rcases List.mem_cons.1 (h.mem_iff.1 List.mem_cons_self : x ∈ y :: m) with rfl | hx
        · rfl
        · rw [hm1 x hx] at h'; cases h'
      · rcases List.mem_cons.1 (h.mem_iff.2 List.mem_cons_self : y ∈ x :: l) with rfl | hy
        · rfl
        · rw [hl1 y hy] at h'; cases h'
    subst e
    rw [up_unique (List.Perm.cons_inv h) hl2 hm2]
theorem sortB_up (l : List ByteArray) : upB (sortB l) := by
  have h := List.pairwise_mergeSort (le := fun x y : ByteArray => !Op.bytesLess (LL y) (LL x)) (fun a b c h1 h2 => by
      simp only [Bool.not_eq_true'] at h1 h2 ⊢
      exact bl_ntrans h2 h1) (fun a b => by
      rcases bl_tri (LL a) (LL b) with h | h | h
      · rw [h, bl_irrefl]; rfl
      · rw [bl_asym h]; rfl
      · rw [bl_asym h]; simp) l
  exact h.imp (fun h => by simpa using h)
theorem sortB_perm (l : List ByteArray) : (sortB l).Perm l := List.mergeSort_perm _ _
theorem sortB_of {l m : List ByteArray} (h : m.Perm l) (hu : upB m) : m = sortB l := up_unique (h.trans (sortB_perm l).symm) hu (sortB_up l)
theorem sortB_sized {l : List ByteArray} (h : sizedB l) : sizedB (sortB l) := ⟨by rw [sortB_length]; exact h.1, fun s hs => h.2 s ((sortB_perm l).mem_iff.1 hs)⟩

theorem take_snoc {α : Type} (l : List α) (i : Nat) (z : α) (h : i < l.length) : l.take (i + 1) = l.take i ++ [l.getD i z] := by
  rw [List.take_succ_eq_append_getElem h, List.getD_eq_getElem?_getD, List.getElem?_eq_getElem h]; rfl

end Go.Proofs.Ytpgmpdanplmpfaa.Base
