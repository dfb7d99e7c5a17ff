/- Each node's texts are just those that begin with its path; no program in sight. -/
import Derived.Test.YtbkcjeopcjghgaaP16p
namespace Go.Proofs.Ytbkcjeopcjghgaa.P
open Go Go.RowKit Go.Proofs.YtbkcjeopcjghgaaW.PrintWords Go.Proofs.Ytbkcjeopcjghgaa.Base
set_option linter.unusedVariables false

/-- Texts strictly in order. -/
def srt (w : List ByteArray) : Prop := ∀ t u, t < u → u < w.length → Op.bytesLess (LL (w.getD t ByteArray.empty)) (LL (w.getD u ByteArray.empty)) = true
structure OkN (w : List ByteArray) (n : NodeD) : Prop where
  le : n.lo ≤ n.hi
  top : n.hi ≤ w.length
  pre : ∀ t, n.lo ≤ t → t < n.hi → n.path <+: LL (w.getD t ByteArray.empty)
  all : ∀ t, t < w.length → n.path <+: LL (w.getD t ByteArray.empty) → n.lo ≤ t ∧ t < n.hi
theorem from_ge (w : List ByteArray) (n : NodeD) : n.lo ≤ n.from_ w := by unfold NodeD.from_; split <;> omega
theorem from_big {w : List ByteArray} {n : NodeD} (hs : srt w) (ok : OkN w n) : ∀ t, n.from_ w ≤ t → t < n.hi → n.path.length < (w.getD t ByteArray.empty).size := fun t h1 h2 => by
  have h0 := from_ge w n
  by_cases ht : n.lo < t
  · exact own_first (ok.pre n.lo (Nat.le_refl _) (by omega)) (ok.pre t (by omega) h2) (hs n.lo t ht (by have := ok.top; omega))
  · obtain rfl : t = n.lo := by omega
    have hno : n.own w = false := by
      cases h : n.own w with
      | false => rfl
      | true => unfold NodeD.from_ at h1; rw [h] at h1; simp at h1; omega
    have hle := (ok.pre n.lo (Nat.le_refl _) h2).length_le
    rw [LL_length] at hle
    unfold NodeD.own at hno
    rw [decide_eq_true h2, Bool.true_and, decide_eq_false_iff_not] at hno
    omega
theorem from_all {w : List ByteArray} {n : NodeD} (ok : OkN w n) : ∀ t, t < w.length → n.path <+: LL (w.getD t ByteArray.empty) → n.path.length < (w.getD t ByteArray.empty).size → n.from_ w ≤ t ∧ t < n.hi := fun t h1 h2 h3 => by
  obtain ⟨h4, h5⟩ := ok.all t h1 h2
  refine ⟨?_, h5⟩
  unfold NodeD.from_
  split
  · rename_i ho
    rcases Nat.eq_or_lt_of_le h4 with h6 | h6
    · exfalso
      unfold NodeD.own at ho
      rw [Bool.and_eq_true, decide_eq_true_iff, decide_eq_true_iff, h6] at ho
      omega
    · exact h6
  · exact h4
theorem gr_up {w : List ByteArray} {n : NodeD} (hs : srt w) (ok : OkN w n) : (n.gr w).Pairwise (fun g h => g.1 < h.1 ∧ g.2.2 ≤ h.2.1) :=
  groups_up w n.path.length n.hi w.length (n.from_ w) fun t u h1 h2 h3 => by
    have h0 := from_ge w n
    exact next_le (ok.pre t (by omega) (by omega)) (ok.pre u (by omega) h3) (from_big hs ok t h1 (by omega)) (from_big hs ok u (by omega) h3) (hs t u h2 (by have := ok.top; omega))
theorem byAt_lt (s : ByteArray) (d : Nat) : byAt s d < 256 := UInt8.toNat_lt _
theorem pair_eq {g h : Nat × Nat × Nat} {l : List (Nat × Nat × Nat)} (hp : l.Pairwise (fun g h => g.1 < h.1 ∧ g.2.2 ≤ h.2.1)) (hg : g ∈ l) (hh : h ∈ l) (e : g.1 = h.1) : g = h := by
  induction l with
  | nil => cases hg
  | cons x l ih =>
    rw [List.pairwise_cons] at hp
    rcases List.mem_cons.1 hg with h1 | h1
    · rcases List.mem_cons.1 hh with h2 | h2
      · rw [h1, h2]
      · have := (hp.1 h h2).1; rw [← h1] at this; omega
    · rcases List.mem_cons.1 hh with h2 | h2
      · have := (hp.1 g h1).1; rw [← h2] at this; omega
      · exact ih hp.2 h1 h2
theorem kid_ok {w : List ByteArray} {n : NodeD} (hs : srt w) (ok : OkN w n) (k : Nat) {g : Nat × Nat × Nat} (hg : g ∈ n.gr w) : OkN w (mkN k n g) ∧ g.2.1 < g.2.2 := by
  obtain ⟨h1, h2, h3, h4⟩ := groups_in w n.path.length n.hi w.length (n.from_ w) g hg
  have h0 := from_ge w n
  have hx : ∀ t, g.2.1 ≤ t → t < g.2.2 → ∃ r, LL (w.getD t ByteArray.empty) = n.path ++ UInt8.ofNat g.1 :: r := fun t ht1 ht2 => by
    obtain ⟨x, r, e⟩ := prefix_split (ok.pre t (by omega) (by omega)) (from_big hs ok t (by omega) (by omega))
    have hb := h4 t ht1 ht2
    rw [byAt_prefix e] at hb
    refine ⟨r, ?_⟩
    rw [e, ← hb, UInt8.ofNat_toNat]
  refine ⟨⟨Nat.le_of_lt h2, Nat.le_trans h3 ok.top, fun t ht1 ht2 => ?_, fun t ht hp => ?_⟩, h2⟩
  · obtain ⟨r, e⟩ := hx t ht1 ht2
    exact ⟨r, by rw [e]; simp [mkN]⟩
  · obtain ⟨r, e⟩ := hp
    have e2 : LL (w.getD t ByteArray.empty) = n.path ++ UInt8.ofNat g.1 :: r := by rw [← e]; simp [mkN]
    have hsz : n.path.length < (w.getD t ByteArray.empty).size := by
      rw [← LL_length, e2]
      simp
    obtain ⟨h5, h6⟩ := from_all ok t ht ⟨_, e2.symm⟩ hsz
    obtain ⟨g2, hg2, h7, h8⟩ := groups_cover w n.path.length n.hi w.length (n.from_ w) (by have := ok.top; omega) t h5 h6
    have hb := (groups_in w n.path.length n.hi w.length (n.from_ w) g2 hg2).2.2.2 t h7 h8
    rw [byAt_prefix e2] at hb
    have hlt : g.1 < 256 := by rw [← h4 g.2.1 (Nat.le_refl _) h2]; exact byAt_lt _ _
    have he : g2.1 = g.1 := by rw [← hb, UInt8.toNat_ofNat']; omega
    have := pair_eq (gr_up hs ok) hg2 hg he
    rw [this] at h7 h8
    exact ⟨h7, h8⟩

end Go.Proofs.Ytbkcjeopcjghgaa.P
