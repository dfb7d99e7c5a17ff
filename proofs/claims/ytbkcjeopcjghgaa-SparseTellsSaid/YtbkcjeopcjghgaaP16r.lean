/- All nodes tell just the texts that begin with their paths; no program in sight. -/
import Derived.Test.YtbkcjeopcjghgaaP16q
namespace Go.Proofs.Ytbkcjeopcjghgaa.P
open Go Go.RowKit Go.Proofs.YtbkcjeopcjghgaaW.PrintWords Go.Proofs.Ytbkcjeopcjghgaa.Base
set_option linter.unusedVariables false

theorem root_ok (w : List ByteArray) : OkN w ⟨[], 0, w.length, -1, 0⟩ := ⟨Nat.zero_le _, Nat.le_refl _, fun t _ _ => List.nil_prefix, fun t h _ => ⟨Nat.zero_le _, h⟩⟩
theorem nodes_cases (w : List ByteArray) (k : Nat) (P : NodeD → Prop) (h0 : P ⟨[], 0, w.length, -1, 0⟩) (h1 : ∀ (j : Nat) (n : NodeD) (g : Nat × Nat × Nat), P n → (nodesAt w j)[j]? = some n → g ∈ n.gr w → P (mkN j n g)) : ∀ n ∈ nodesAt w k, P n := by
  induction k with
  | zero =>
    intro n hn
    simp only [nodesAt, List.mem_singleton] at hn
    rw [hn]; exact h0
  | succ k ih =>
    intro n hn
    cases h : (nodesAt w k)[k]? with
    | none =>
      have e : nodesAt w (k + 1) = nodesAt w k := by show (match (nodesAt w k)[k]? with | none => nodesAt w k | some n => nodesAt w k ++ kids w k n) = _; rw [h]
      rw [e] at hn
      exact ih n hn
    | some m =>
      rw [nodesAt_succ w k m h] at hn
      rcases List.mem_append.1 hn with hn | hn
      · exact ih n hn
      · unfold kids at hn
        obtain ⟨g, hg, rfl⟩ := List.mem_map.1 hn
        exact h1 k m g (ih m (List.mem_of_getElem? h)) h hg
theorem nodes_ok {w : List ByteArray} (hs : srt w) (k : Nat) : ∀ n ∈ nodesAt w k, OkN w n :=
  nodes_cases w k (OkN w) (root_ok w) fun j n g ok _ hg => (kid_ok hs ok j hg).1
theorem nodes_full {w : List ByteArray} (hs : srt w) (k : Nat) : ∀ n ∈ nodesAt w k, n.path = [] ∨ n.lo < n.hi := fun n hn =>
  (nodes_cases w k (fun n => OkN w n ∧ (n.path = [] ∨ n.lo < n.hi)) ⟨root_ok w, .inl rfl⟩ (fun j n g ok _ hg => ⟨(kid_ok hs ok.1 j hg).1, .inr (kid_ok hs ok.1 j hg).2⟩) n hn).2
theorem nodes_mono (w : List ByteArray) (k : Nat) : nodesAt w k <+: nodesAt w (k + 1) := by
  show _ <+: (match (nodesAt w k)[k]? with | none => nodesAt w k | some n => nodesAt w k ++ kids w k n)
  split
  · exact List.prefix_refl _
  · exact List.prefix_append _ _
theorem nodes_mono_le (w : List ByteArray) {k m : Nat} (h : k ≤ m) : nodesAt w k <+: nodesAt w m := by
  induction m with
  | zero =>
    have e : k = 0 := by omega
    rw [e]
    exact List.prefix_refl _
  | succ m ih =>
    rcases Nat.lt_or_eq_of_le h with h1 | h1
    · exact (ih (by omega)).trans (nodes_mono w m)
    · rw [h1]; exact List.prefix_refl _

end Go.Proofs.Ytbkcjeopcjghgaa.P
