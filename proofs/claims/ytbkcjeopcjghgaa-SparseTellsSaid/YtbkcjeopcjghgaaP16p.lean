/- Texts in order that begin alike: their next bytes rise; no program in sight. -/
import Derived.Test.YtbkcjeopcjghgaaP16n
import Derived.Test.YtbkcjeopcjghgaaOrd
namespace Go.Proofs.Ytbkcjeopcjghgaa.P
open Go Go.RowKit Go.Proofs.YtbkcjeopcjghgaaW.PrintWords Go.Proofs.Ytbkcjeopcjghgaa.Base
set_option linter.unusedVariables false

theorem bl_cons_same (c : UInt8) (x y : List UInt8) : Op.bytesLess (c :: x) (c :: y) = Op.bytesLess x y := by simp [Op.bytesLess]
theorem bl_app (p x y : List UInt8) : Op.bytesLess (p ++ x) (p ++ y) = Op.bytesLess x y := by
  induction p with
  | nil => rfl
  | cons c p ih => rw [List.cons_append, List.cons_append, bl_cons_same, ih]
theorem bl_nil_r (x : List UInt8) : Op.bytesLess x [] = false := by cases x <;> rfl
theorem bl_head (c d : UInt8) (x y : List UInt8) (h : Op.bytesLess (c :: x) (d :: y) = true) : c.toNat ≤ d.toNat := by
  by_cases he : c = d
  · rw [he]; exact Nat.le_refl _
  · have : c < d := by simpa [Op.bytesLess, he] using h
    exact Nat.le_of_lt this
theorem byAt_prefix {p : List UInt8} {s : ByteArray} {x : UInt8} {r : List UInt8} (h : LL s = p ++ x :: r) : byAt s p.length = x.toNat := by
  unfold byAt
  rw [h]
  simp
theorem prefix_split {p : List UInt8} {s : ByteArray} (h : p <+: LL s) (hl : p.length < s.size) : ∃ x r, LL s = p ++ x :: r := by
  obtain ⟨r, hr⟩ := h
  cases r with
  | nil =>
    rw [List.append_nil] at hr
    rw [← LL_length, ← hr] at hl
    omega
  | cons x r => exact ⟨x, r, hr.symm⟩
/-- Of two texts in order that begin alike, and go on, the next bytes do not fall. -/
theorem next_le {p : List UInt8} {s t : ByteArray} (hs : p <+: LL s) (ht : p <+: LL t) (h1 : p.length < s.size) (h2 : p.length < t.size) (h : Op.bytesLess (LL s) (LL t) = true) : byAt s p.length ≤ byAt t p.length := by
  obtain ⟨x, r, e1⟩ := prefix_split hs h1
  obtain ⟨y, q, e2⟩ := prefix_split ht h2
  rw [byAt_prefix e1, byAt_prefix e2]
  rw [e1, e2, bl_app] at h
  exact bl_head x y r q h
/-- Only the first of texts in order that begin alike may be just that. -/
theorem own_first {p : List UInt8} {s t : ByteArray} (hs : p <+: LL s) (ht : p <+: LL t) (h : Op.bytesLess (LL s) (LL t) = true) : p.length < t.size := by
  have hle := ht.length_le
  rw [LL_length] at hle
  rcases Nat.lt_or_eq_of_le hle with h1 | h1
  · exact h1
  · exfalso
    have e2 : LL t = p := (ht.eq_of_length (by rw [LL_length]; exact h1)).symm
    obtain ⟨r, hr⟩ := hs
    rw [e2, ← hr] at h
    have h3 := bl_app p r []
    rw [List.append_nil] at h3
    rw [h3, bl_nil_r] at h
    cases h
/-- Each group lies within, is not empty, and has one byte. -/
theorem groups_in (w : List ByteArray) (d hi : Nat) : ∀ (f lo : Nat), ∀ g ∈ groups w d hi f lo, lo ≤ g.2.1 ∧ g.2.1 < g.2.2 ∧ g.2.2 ≤ hi ∧ ∀ t, g.2.1 ≤ t → t < g.2.2 → byAt (w.getD t ByteArray.empty) d = g.1
  | 0, lo, g, h => by simp [groups] at h
  | f + 1, lo, g, h => by
    unfold groups at h
    by_cases hlt : lo < hi
    · rw [if_pos hlt] at h
      have hge := gEnd_ge w d (byAt (w.getD lo ByteArray.empty) d) hi hi (lo + 1)
      have hle := gEnd_le w d (byAt (w.getD lo ByteArray.empty) d) hi hi (lo + 1) (by omega)
      rcases List.mem_cons.1 h with rfl | h
      · refine ⟨Nat.le_refl _, by show lo < gEnd w d _ hi hi (lo + 1); omega, hle, fun t h1 h2 => ?_⟩
        by_cases ht : t = lo
        · rw [ht]
        · exact gEnd_in w d _ hi hi (lo + 1) t (by show lo + 1 ≤ t; have : lo ≤ t := h1; omega) h2
      · obtain ⟨h1, h2, h3, h4⟩ := groups_in w d hi f _ g h
        exact ⟨by omega, h2, h3, h4⟩
    · rw [if_neg hlt] at h
      simp at h
/-- Each text is in a group. -/
theorem groups_cover (w : List ByteArray) (d hi : Nat) : ∀ (f lo : Nat), hi ≤ lo + f → ∀ t, lo ≤ t → t < hi → ∃ g ∈ groups w d hi f lo, g.2.1 ≤ t ∧ t < g.2.2
  | 0, lo, hf, t, h1, h2 => by omega
  | f + 1, lo, hf, t, h1, h2 => by
    unfold groups
    rw [if_pos (by omega)]
    have hge := gEnd_ge w d (byAt (w.getD lo ByteArray.empty) d) hi hi (lo + 1)
    by_cases ht : t < gEnd w d (byAt (w.getD lo ByteArray.empty) d) hi hi (lo + 1)
    · exact ⟨_, List.mem_cons_self, h1, ht⟩
    · obtain ⟨g, hg, h3, h4⟩ := groups_cover w d hi f (gEnd w d (byAt (w.getD lo ByteArray.empty) d) hi hi (lo + 1)) (by omega) t (by omega) h2
      exact ⟨g, List.mem_cons_of_mem _ hg, h3, h4⟩
/-- Where the bytes do not fall, the groups' bytes rise. -/
theorem groups_up (w : List ByteArray) (d hi : Nat) : ∀ (f lo : Nat), (∀ t u, lo ≤ t → t < u → u < hi → byAt (w.getD t ByteArray.empty) d ≤ byAt (w.getD u ByteArray.empty) d) →
    (groups w d hi f lo).Pairwise (fun g h => g.1 < h.1 ∧ g.2.2 ≤ h.2.1)
  | 0, lo, _ => List.Pairwise.nil
  | f + 1, lo, hm => by
    unfold groups
    by_cases hlt : lo < hi
    · rw [if_pos hlt]
      have hge := gEnd_ge w d (byAt (w.getD lo ByteArray.empty) d) hi hi (lo + 1)
      refine List.Pairwise.cons (fun g hg => ?_) (groups_up w d hi f _ (fun t u h1 h2 h3 => hm t u (by omega) h2 h3))
      obtain ⟨h1, h2, h3, h4⟩ := groups_in w d hi f _ g hg
      refine ⟨?_, h1⟩
      have hs := gEnd_stop w d (byAt (w.getD lo ByteArray.empty) d) hi hi (lo + 1) (by omega) (by omega) (by omega)
      have hb := h4 g.2.1 (Nat.le_refl _) h2
      have hm1 := hm lo (gEnd w d (byAt (w.getD lo ByteArray.empty) d) hi hi (lo + 1)) (Nat.le_refl _) (by omega) (by omega)
      have hm2 : byAt (w.getD (gEnd w d (byAt (w.getD lo ByteArray.empty) d) hi hi (lo + 1)) ByteArray.empty) d ≤ g.1 := by
        rw [← hb]
        rcases Nat.eq_or_lt_of_le h1 with h5 | h5
        · rw [h5]; exact Nat.le_refl _
        · exact hm _ _ (by omega) h5 (by omega)
      show byAt (w.getD lo ByteArray.empty) d < g.1
      omega
    · rw [if_neg hlt]
      exact List.Pairwise.nil

end Go.Proofs.Ytbkcjeopcjghgaa.P
