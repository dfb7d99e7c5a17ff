/- Plain lemmas on borders, periods and the longest end of one list with which another one begins; no condition, no program in sight. -/
import Derived.Test.YtekdmkdidnnpbaaBase
namespace Go.Proofs.Ytekdmkdidnnpbaa.Base
open Go Go.RowKit
variable {α : Type} [DecidableEq α]

/-- The greatest m of 1 .. n of which P holds; 0: none. -/
def top (P : Nat → Prop) [DecidablePred P] : Nat → Nat
  | 0 => 0
  | n + 1 => if P (n + 1) then n + 1 else top P n
theorem top_le (P : Nat → Prop) [DecidablePred P] : ∀ n, top P n ≤ n
  | 0 => Nat.le_refl _
  | n + 1 => by unfold top; split; exact Nat.le_refl _; exact Nat.le_succ_of_le (top_le P n)
theorem top_is (P : Nat → Prop) [DecidablePred P] : ∀ n, 0 < top P n → P (top P n)
  | 0, h => absurd h (Nat.lt_irrefl 0)
  | n + 1, h => by
    unfold top at h ⊢
    split
    · assumption
    · rename_i hn
      rw [if_neg hn] at h
      exact top_is P n h
theorem top_max (P : Nat → Prop) [DecidablePred P] : ∀ n m, 0 < m → m ≤ n → P m → m ≤ top P n
  | 0, m, h0, h1, _ => by omega
  | n + 1, m, h0, h1, h => by
    unfold top
    split
    · exact h1
    · rename_i hn
      have : m ≠ n + 1 := fun e => hn (e ▸ h)
      exact top_max P n m h0 (by omega) h
theorem top_eq (P : Nat → Prop) [DecidablePred P] (n r : Nat) (hle : r ≤ n) (h : 0 < r → P r) (hm : ∀ m, r < m → m ≤ n → ¬ P m) : top P n = r := by
  have h1 := top_le P n
  have h2 : ¬ r < top P n := fun hlt => hm _ hlt h1 (top_is P n (by omega))
  have h3 : r ≤ top P n := by
    by_cases h0 : 0 < r
    · exact top_max P n r h0 hle (h h0)
    · omega
  omega

/-- The first m elements of t stand at the end of u. -/
def Sf (t u : List α) (m : Nat) : Prop := m ≤ t.length ∧ m ≤ u.length ∧ t.take m = u.drop (u.length - m)
instance (t u : List α) : DecidablePred (Sf t u) := fun _ => inferInstanceAs (Decidable (_ ∧ _ ∧ _))
omit [DecidableEq α] in
theorem Sf.zero (t u : List α) : Sf t u 0 := ⟨Nat.zero_le _, Nat.zero_le _, by simp⟩
omit [DecidableEq α] in
theorem Sf_snoc {t u : List α} {c : α} {m : Nat} : Sf t (u ++ [c]) (m + 1) ↔ Sf t u m ∧ t[m]? = some c := by
  unfold Sf
  constructor
  · rintro ⟨h1, h2, h3⟩
    rw [List.length_append, List.length_singleton] at h2 h3
    have e : u.length + 1 - (m + 1) = u.length - m := by omega
    rw [e, List.drop_append_of_le_length (by omega), List.take_succ_eq_append_getElem (by omega)] at h3
    have h4 := List.append_inj' h3 rfl
    refine ⟨⟨by omega, by omega, h4.1⟩, ?_⟩
    rw [List.getElem?_eq_getElem (by omega)]
    exact congrArg some (List.cons.inj h4.2).1
  · rintro ⟨⟨h1, h2, h3⟩, h4⟩
    have hm : m < t.length := by
      rcases Nat.lt_or_ge m t.length with h | h
      · exact h
      · rw [List.getElem?_eq_none h] at h4; cases h4
    rw [List.getElem?_eq_getElem hm] at h4
    rw [List.length_append, List.length_singleton]
    have e : u.length + 1 - (m + 1) = u.length - m := by omega
    refine ⟨hm, by omega, ?_⟩
    rw [e, List.drop_append_of_le_length (by omega), List.take_succ_eq_append_getElem hm, h3, Option.some.inj h4]
omit [DecidableEq α] in
theorem Sf_trans {t u : List α} {k j : Nat} (h : Sf t u k) (g : Sf t (t.take k) j) : Sf t u j := by
  obtain ⟨h1, h2, h3⟩ := h
  obtain ⟨g1, g2, g3⟩ := g
  rw [List.length_take, Nat.min_eq_left h1] at g2 g3
  refine ⟨g1, by omega, ?_⟩
  rw [g3, h3, List.drop_drop]
  congr 1
  omega
omit [DecidableEq α] in
theorem Sf_down {t u : List α} {k j : Nat} (h : Sf t u k) (g : Sf t u j) (hj : j ≤ k) : Sf t (t.take k) j := by
  obtain ⟨h1, h2, h3⟩ := h
  obtain ⟨g1, g2, g3⟩ := g
  refine ⟨g1, by rw [List.length_take]; omega, ?_⟩
  rw [List.length_take, Nat.min_eq_left h1, g3, h3, List.drop_drop]
  congr 1
  omega

/-- How long the longest border of t's first k elements is. -/
def fail (t : List α) (k : Nat) : Nat := top (Sf t (t.take k)) (k - 1)
/-- How many elements, n at most, of those with which t begins stand at the end of u. -/
def st (t u : List α) (n : Nat) : Nat := top (Sf t u) n
theorem fail_lt (t : List α) (k : Nat) (h : 0 < k) : fail t k < k := by have := top_le (Sf t (t.take k)) (k - 1); unfold fail; omega
theorem fail_le (t : List α) (k : Nat) : fail t k ≤ k - 1 := top_le _ _
theorem fail_Sf (t : List α) (k : Nat) : Sf t (t.take k) (fail t k) := by
  by_cases h : 0 < fail t k
  · exact top_is _ _ h
  · rw [show fail t k = 0 from by omega]; exact Sf.zero _ _
theorem st_Sf (t u : List α) (n : Nat) : Sf t u (st t u n) := by
  by_cases h : 0 < st t u n
  · exact top_is _ _ h
  · rw [show st t u n = 0 from by omega]; exact Sf.zero _ _

/-- On the way from the longest end to shorter ones: none longer than k goes on with c. -/
structure Chain (t u : List α) (c : α) (n k : Nat) : Prop where
  le : k ≤ n
  sf : Sf t u k
  no : ∀ m, k < m → m ≤ n → Sf t u m → t[m]? ≠ some c
theorem chain_start (t u : List α) (c : α) (n : Nat) : Chain t u c n (st t u n) :=
  ⟨top_le _ _, st_Sf t u n, fun m h1 h2 h3 => absurd (top_max (Sf t u) n m (by omega) h2 h3) (Nat.not_le.2 h1)⟩
theorem chain_fail {t u : List α} {c : α} {n k : Nat} (h : Chain t u c n k) (h0 : 0 < k) (hc : t[k]? ≠ some c) : Chain t u c n (fail t k) := by
  have hl := fail_lt t k h0
  refine ⟨by have := h.le; omega, Sf_trans h.sf (fail_Sf t k), fun m h1 h2 h3 => ?_⟩
  by_cases hm : m < k
  · have := top_max (Sf t (t.take k)) (k - 1) m (by omega) (by omega) (Sf_down h.sf h3 (by omega))
    unfold fail at h1
    omega
  · by_cases e : m = k
    · rw [e]; exact hc
    · exact h.no m (by omega) h2 h3
theorem chain_hit {t u : List α} {c : α} {n k : Nat} (h : Chain t u c n k) (hc : t[k]? = some c) (n' : Nat) (hn : n' ≤ n + 1) (hk : k + 1 ≤ n') : st t (u ++ [c]) n' = k + 1 := by
  refine top_eq _ _ _ hk (fun _ => Sf_snoc.2 ⟨h.sf, hc⟩) fun m h1 h2 h3 => ?_
  obtain ⟨m, rfl⟩ : ∃ q, m = q + 1 := ⟨m - 1, by omega⟩
  have := Sf_snoc.1 h3
  exact h.no m (by omega) (by omega) this.1 this.2
theorem chain_miss {t u : List α} {c : α} {n : Nat} (h : Chain t u c n 0) (hc : t[0]? ≠ some c) (n' : Nat) (hn : n' ≤ n + 1) : st t (u ++ [c]) n' = 0 := by
  refine top_eq _ _ _ (Nat.zero_le _) (fun h => absurd h (Nat.lt_irrefl 0)) fun m h1 h2 h3 => ?_
  obtain ⟨m, rfl⟩ : ∃ q, m = q + 1 := ⟨m - 1, by omega⟩
  have := Sf_snoc.1 h3
  by_cases e : m = 0
  · rw [e] at this; exact hc this.2
  · exact h.no m (by omega) (by omega) this.1 this.2

/-! periods -/
/-- p is a period. -/
def Per (l : List α) (p : Nat) : Prop := ∀ i, i + p < l.length → l[i]? = l[i + p]?
omit [DecidableEq α] in
theorem per_iff (l : List α) (p : Nat) (hp : p ≤ l.length) : l.drop p = l.take (l.length - p) ↔ Per l p := by
  constructor
  · intro h i hi
    have := congrArg (fun x : List α => x[i]?) h
    simp only [List.getElem?_drop] at this
    rw [List.getElem?_take_of_lt (by omega)] at this
    rw [← this, Nat.add_comm]
  · intro h
    apply List.ext_getElem?
    intro i
    rw [List.getElem?_drop]
    by_cases hi : i + p < l.length
    · rw [List.getElem?_take_of_lt (by omega), h i hi, Nat.add_comm]
    · rw [List.getElem?_eq_none (by omega), List.getElem?_eq_none (by rw [List.length_take]; omega)]
omit [DecidableEq α] in
theorem Sf_per (l : List α) (m : Nat) (hm : m ≤ l.length) : Sf l l m ↔ Per l (l.length - m) := by
  rw [← per_iff l _ (by omega)]
  unfold Sf
  rw [show l.length - (l.length - m) = m from by omega]
  constructor
  · rintro ⟨_, _, h⟩; exact h.symm
  · intro h; exact ⟨hm, hm, h.symm⟩
omit [DecidableEq α] in
theorem per_sub {l : List α} {p q : Nat} (hp : Per l p) (hq : Per l q) (hle : p ≤ q) (hl : p + q ≤ l.length) : Per l (q - p) := by
  intro i hi
  by_cases h : i + q < l.length
  · have h1 := hq i h
    have h2 := hp (i + (q - p)) (by omega)
    rw [h1, h2]
    congr 1
    omega
  · have h1 := hp (i - p) (by omega)
    have h2 := hq (i - p) (by omega)
    rw [show i - p + p = i from by omega] at h1
    rw [← h1, h2]
    congr 1
    omega
omit [DecidableEq α] in
theorem per_gcd (l : List α) : ∀ n p q, p + q ≤ n → 0 < p → 0 < q → Per l p → Per l q → p + q ≤ l.length → Per l (Nat.gcd p q) := by
  intro n
  induction n with
  | zero => intro p q h h0; omega
  | succ n ih =>
    intro p q hn hp0 hq0 hp hq hl
    rcases Nat.lt_trichotomy p q with h | h | h
    · have := ih p (q - p) (by omega) hp0 (by omega) hp (per_sub hp hq (by omega) hl) (by omega)
      rwa [Nat.gcd_sub_self_right (by omega)] at this
    · rw [h, Nat.gcd_self]; exact hq
    · have := ih (p - q) q (by omega) (by omega) hq0 (per_sub hq hp (by omega) (by omega)) hq (by omega)
      rwa [Nat.gcd_sub_self_left (by omega)] at this
omit [DecidableEq α] in
theorem per_mul {l : List α} {p : Nat} (hp : Per l p) : ∀ k, Per l (p * k) := by
  intro k
  induction k with
  | zero => intro i _; rfl
  | succ k ih =>
    intro i hi
    rw [Nat.mul_succ] at hi ⊢
    rw [ih i (by omega), hp (i + p * k) (by omega), Nat.add_assoc]
end Go.Proofs.Ytekdmkdidnnpbaa.Base
