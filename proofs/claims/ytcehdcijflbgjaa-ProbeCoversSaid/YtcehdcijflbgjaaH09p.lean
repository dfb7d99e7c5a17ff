/- Where layer 9 finds a text among texts in order (slices.BinarySearchFunc with the layer's own compare, walked here for rows that are only read). -/
import Derived.Test.YtcehdcijflbgjaaH09
namespace Go.Proofs.Ytcehdcijflbgjaa.P
open Go Go.RowKit Go.Sort Go.Lib Go.Proofs.YtcehdcijflbgjaaW.PrintWords Go.Proofs.Ytcehdcijflbgjaa.Base
set_option linter.unusedVariables false

/-! ### how many come ahead -/
/-- Texts in order. -/
abbrev upB (l : List ByteArray) : Prop := l.Pairwise (fun x y => Op.bytesLess (LL y) (LL x) = false)
def aheadB (s : ByteArray) (l : List ByteArray) : Nat := l.countP (fun x => Op.bytesLess (LL x) (LL s))
/-- Is a text there? -/
def inB (s : ByteArray) (l : List ByteArray) : Bool := l.any fun x => decide (x = s)
theorem inB_iff {s : ByteArray} {l : List ByteArray} : inB s l = true ↔ s ∈ l := by
  unfold inB
  rw [List.any_eq_true]
  exact ⟨fun ⟨x, hx, h⟩ => by rw [← of_decide_eq_true h]; exact hx, fun h => ⟨s, h, decide_eq_true rfl⟩⟩
theorem inB_cons (s x : ByteArray) (l : List ByteArray) : inB s (x :: l) = (decide (x = s) || inB s l) := rfl
theorem aheadB_le (s : ByteArray) (l : List ByteArray) : aheadB s l ≤ l.length := List.countP_le_length
theorem aheadB_none (s : ByteArray) : ∀ l : List ByteArray, (∀ y ∈ l, Op.bytesLess (LL y) (LL s) = false) → aheadB s l = 0 := fun l h => by
  unfold aheadB; rw [List.countP_eq_zero]; intro y hy; rw [h y hy]; simp
theorem aheadB_here (s : ByteArray) : ∀ l : List ByteArray, upB l → (decide (aheadB s l < l.length) && decide (l.getD (aheadB s l) ByteArray.empty = s)) = inB s l
  | [], _ => rfl
  | x :: l, h => by
    obtain ⟨h1, h2⟩ := List.pairwise_cons.1 h
    have ih := aheadB_here s l h2
    cases hx : Op.bytesLess (LL x) (LL s) with
    | true =>
      have e : aheadB s (x :: l) = aheadB s l + 1 := by unfold aheadB; rw [List.countP_cons_of_pos (by simpa using hx)]
      rw [e, List.getD_cons_succ, List.length_cons]
      have hne : ¬ x = s := fun e => by subst e; rw [bl_irrefl] at hx; cases hx
      rw [inB_cons, decide_eq_false hne, Bool.false_or, ← ih]
      simp
    | false =>
      have e : aheadB s (x :: l) = 0 := aheadB_none s _ (fun y hy => by
        rcases List.mem_cons.1 hy with rfl | hy
        · exact hx
        · exact bl_ntrans (h1 y hy) hx)
      rw [e, List.getD_cons_zero, List.length_cons]
      by_cases hs : s ∈ x :: l
      · rw [inB_iff.2 hs]
        have : x = s := by
          rcases List.mem_cons.1 hs with rfl | hy
          · rfl
          · rcases bl_tri (LL x) (LL s) with h' | h' | h'
            · exact LL_inj h'
            · rw [hx] at h'; cases h'
            · rw [h1 s hy] at h'; cases h'
        simp [this]
      · rw [Bool.eq_false_iff.2 (fun h => hs (inB_iff.1 h))]
        have : ¬ x = s := fun e => hs (by rw [e]; exact List.mem_cons_self)
        simp [this]

/-! ### the search -/


end Go.Proofs.Ytcehdcijflbgjaa.P
