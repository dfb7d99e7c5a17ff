/- What makes texts a set, and their sizes, as plain functions; no condition beyond those in each statement. -/
import Derived.Test.YtcehdcijflbgjaaH09t
namespace Go.Proofs.Ytcehdcijflbgjaa.P
open Go Go.RowKit Go.Proofs.YtcehdcijflbgjaaW.PrintWords Go.Proofs.YtcehdcijflbgjaaW.PrintMore Go.Proofs.Ytcehdcijflbgjaa.Base
set_option linter.unusedVariables false

/-- What is wrong with one. -/
def chkB (s : ByteArray) : Int := if s.size = 0 then 7 else if s.size > 65535 then 5 else 0
/-- What is wrong with the first one that is not right. -/
def badB : List ByteArray → Int
  | [] => 0
  | s :: l => if chkB s = 0 then badB l else chkB s
theorem badB_size : ∀ (l : List ByteArray), badB l = 0 → ∀ s ∈ l, s.size ≠ 0 ∧ s.size ≤ 65535
  | [], _ => by simp
  | s :: l, h => by
    simp only [badB] at h
    by_cases hc : chkB s = 0
    · rw [if_pos hc] at h
      intro x hx
      rcases List.mem_cons.1 hx with rfl | hx
      · unfold chkB at hc
        by_cases h1 : x.size = 0
        · rw [if_pos h1] at hc; omega
        · rw [if_neg h1] at hc
          by_cases h2 : x.size > 65535
          · rw [if_pos h2] at hc; omega
          · exact ⟨h1, by omega⟩
      · exact badB_size l h x hx
    · rw [if_neg hc] at h; exact absurd h hc
def leastB (a : Nat) (l : List ByteArray) : Nat := l.foldl (fun n s => min n s.size) a
def mostB (a : Nat) (l : List ByteArray) : Nat := l.foldl (fun n s => max n s.size) a
def totalB (a : Nat) (l : List ByteArray) : Nat := l.foldl (fun n s => n + s.size) a
theorem least_le (l : List ByteArray) : ∀ a, leastB a l ≤ a := by
  induction l with
  | nil => intro a; exact Nat.le_refl _
  | cons s l ih => intro a; exact Nat.le_trans (ih _) (Nat.min_le_left _ _)

theorem total_bound : ∀ (l : List ByteArray) (a : Nat), (∀ s ∈ l, s.size ≤ 65535) → totalB a l ≤ a + l.length * 65535
  | [], a, _ => by simp [totalB]
  | s :: l, a, h => by
    have h1 := total_bound l (a + s.size) (fun x hx => h x (List.mem_cons_of_mem _ hx))
    have h2 := h s List.mem_cons_self
    have : totalB a (s :: l) = totalB (a + s.size) l := rfl
    rw [this, List.length_cons, Nat.succ_mul]
    omega
theorem badB_take : ∀ (l : List ByteArray) (k : Nat), badB l = 0 → badB (l.drop k) = 0
  | l, 0, h => h
  | [], k + 1, h => rfl
  | s :: l, k + 1, h => by
    simp only [badB] at h
    by_cases hc : chkB s = 0
    · rw [if_pos hc] at h; exact badB_take l k h
    · rw [if_neg hc] at h; exact absurd h hc


end Go.Proofs.Ytcehdcijflbgjaa.P
