/- The nodes come in the order of their lengths, and then of their texts; no program in sight. -/
import Derived.Test.YtbkcjeopcjghgaaP16r
namespace Go.Proofs.Ytbkcjeopcjghgaa.P
open Go Go.RowKit Go.Proofs.YtbkcjeopcjghgaaW.PrintWords Go.Proofs.Ytbkcjeopcjghgaa.Base
set_option linter.unusedVariables false

/-- One node stands ahead of another. -/
def ahN (n m : NodeD) : Prop := n.path.length < m.path.length ∨ (n.path.length = m.path.length ∧ n.hi ≤ m.lo)
/-- Each node but the root has one above it that is done. -/
def hasN (w : List ByteArray) (k : Nat) (n : NodeD) : Prop := n.path = [] ∨ ∃ j p, j < k ∧ (nodesAt w k)[j]? = some p ∧ n.path.length = p.path.length + 1 ∧ n.hi ≤ p.hi
theorem has_mono {w : List ByteArray} {k : Nat} {n : NodeD} (h : hasN w k n) : hasN w (k + 1) n := by
  rcases h with h | ⟨j, p, h1, h2, h3, h4⟩
  · exact .inl h
  · obtain ⟨r, hr⟩ := nodes_mono w k
    refine .inr ⟨j, p, by omega, ?_, h3, h4⟩
    rw [← hr, List.getElem?_append_left (List.getElem?_eq_some_iff.1 h2).1]
    exact h2
theorem kid_in {w : List ByteArray} {n : NodeD} (k : Nat) {g : Nat × Nat × Nat} (hg : g ∈ n.gr w) : (mkN k n g).path.length = n.path.length + 1 ∧ (mkN k n g).hi ≤ n.hi ∧ n.lo ≤ (mkN k n g).lo := by
  obtain ⟨h1, h2, h3, h4⟩ := groups_in w n.path.length n.hi w.length (n.from_ w) g hg
  have h0 := from_ge w n
  exact ⟨by simp [mkN], h3, by show n.lo ≤ g.2.1; omega⟩
theorem nodes_has (w : List ByteArray) : ∀ k, ∀ n ∈ nodesAt w k, hasN w k n
  | 0, n, h => by
    simp only [nodesAt, List.mem_singleton] at h
    rw [h]; exact .inl rfl
  | k + 1, n, hn => by
    cases h : (nodesAt w k)[k]? with
    | none =>
      have e : nodesAt w (k + 1) = nodesAt w k := by show (match (nodesAt w k)[k]? with | none => nodesAt w k | some n => nodesAt w k ++ kids w k n) = _; rw [h]
      rw [e] at hn
      exact has_mono (nodes_has w k n hn)
    | some m =>
      rw [nodesAt_succ w k m h] at hn
      rcases List.mem_append.1 hn with hn | hn
      · exact has_mono (nodes_has w k n hn)
      · unfold kids at hn
        obtain ⟨g, hg, rfl⟩ := List.mem_map.1 hn
        obtain ⟨h1, h2, h3⟩ := kid_in k hg
        refine .inr ⟨k, m, by omega, ?_, h1, h2⟩
        rw [nodesAt_succ w k m h, List.getElem?_append_left (List.getElem?_eq_some_iff.1 h).1]
        exact h
theorem nodes_up {w : List ByteArray} (hs : srt w) : ∀ k, (nodesAt w k).Pairwise ahN
  | 0 => by simp [nodesAt]
  | k + 1 => by
    cases h : (nodesAt w k)[k]? with
    | none =>
      have e : nodesAt w (k + 1) = nodesAt w k := by show (match (nodesAt w k)[k]? with | none => nodesAt w k | some n => nodesAt w k ++ kids w k n) = _; rw [h]
      rw [e]; exact nodes_up hs k
    | some m =>
      have ih := nodes_up hs k
      have hok := nodes_ok hs k m (List.mem_of_getElem? h)
      obtain ⟨hmk, hme⟩ := List.getElem?_eq_some_iff.1 h
      rw [nodesAt_succ w k m h, List.pairwise_append]
      refine ⟨ih, ?_, fun n hn x hx => ?_⟩
      · unfold kids
        rw [List.pairwise_map]
        exact (gr_up hs hok).imp fun {g g2} hg => .inr ⟨by simp [mkN], hg.2⟩
      · unfold kids at hx
        obtain ⟨g, hg, rfl⟩ := List.mem_map.1 hx
        obtain ⟨h1, h2, h3⟩ := kid_in k hg
        obtain ⟨i, hi, hie⟩ := List.mem_iff_getElem.1 hn
        unfold ahN
        rw [h1]
        have hle : ∀ a, (ha : a < (nodesAt w k).length) → a ≤ k → (nodesAt w k)[a].path.length ≤ m.path.length := fun a ha hak => by
          rcases Nat.eq_or_lt_of_le hak with h5 | h5
          · subst h5; rw [hme]; exact Nat.le_refl _
          · have := List.pairwise_iff_getElem.1 ih a k ha hmk h5
            rw [hme] at this
            rcases this with h6 | h6 <;> omega
        rcases nodes_has w k n hn with h5 | ⟨j, p, hj, hjp, hl, hh⟩
        · left; rw [h5]; simp
        · obtain ⟨hjl, hje⟩ := List.getElem?_eq_some_iff.1 hjp
          have h6 := hle j hjl (by omega)
          rw [hje] at h6
          by_cases h7 : p.path.length = m.path.length
          · right
            have := List.pairwise_iff_getElem.1 ih j k hjl hmk hj
            rw [hje, hme] at this
            rcases this with h8 | h8
            · omega
            · exact ⟨by omega, by omega⟩
          · left; omega

end Go.Proofs.Ytbkcjeopcjghgaa.P
