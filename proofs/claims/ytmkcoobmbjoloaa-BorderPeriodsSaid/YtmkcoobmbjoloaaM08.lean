/- The border layer's answers and the reference's are the same; no condition beyond the sizes that stand in each statement. -/
import Derived.Test.YtmkcoobmbjoloaaR08
import Derived.Test.YtmkcoobmbjoloaaPx25
import Derived.Test.YtmkcoobmbjoloaaPx31
import Derived.Test.YtmkcoobmbjoloaaPx42
import Derived.Test.YtmkcoobmbjoloaaPx43
import Derived.Test.YtmkcoobmbjoloaaPx44
import Derived.Test.YtmkcoobmbjoloaaPx46
import Derived.Test.YtmkcoobmbjoloaaPx29
import Derived.Test.YtmkcoobmbjoloaaPx45
import Derived.Test.YtmkcoobmbjoloaaPx23
namespace Go.Proofs.Ytmkcoobmbjoloaa.Base
open Go Go.RowKit Go.Proofs.YtmkcoobmbjoloaaW.PrintWords Go.Proofs.YtmkcoobmbjoloaaW.PrintMore Go.Proofs.Ytmkcoobmbjoloaa.P

theorem rreach_l0 (a b : ByteArray) (ha : a.size ≤ 8796093022200) (hb : b.size ≤ 8796093022200) : ∀ n : Nat, n ≤ b.size → Ev (fun k => juratref08_Reach.l0 k a b (n : Int)) (top (Sf (LL b) (LL a)) n : Int) := by
  intro n
  induction n with
  | zero =>
    intro _
    refine Ev.ret fun k => ?_
    simp only [juratref08_Reach.l0]
    rw [if_neg (by omega)]
    rfl
  | succ n ih =>
    intro hn
    have hw2 : wrap64 (((n + 1 : Nat) : Int) - 1) = (n : Int) := by rw [wrap_id (by omega) (by omega)]; omega
    by_cases hna : n + 1 ≤ a.size
    · have hw : wrap64 ((a.size : Int) - ((n + 1 : Nat) : Int)) = ((a.size - (n + 1) : Nat) : Int) := by rw [wrap_id (by omega) (by omega)]; omega
      have key : Sf (LL b) (LL a) (n + 1) ↔ (a.extract (a.size - (n + 1)) a.size).toList = (b.extract 0 (n + 1)).toList := by
        rw [toList_iff, LL_iff, LL_extract, LL_extract, take_all, List.drop_zero]
        unfold Sf
        rw [LL_length, LL_length]
        exact ⟨fun h => h.2.2.symm, fun h => ⟨hn, hna, h.symm⟩⟩
      by_cases h : Sf (LL b) (LL a) (n + 1)
      · refine Ev.ret fun k => ?_
        simp only [juratref08_Reach.l0, hw, hw2]
        clear hw hw2
        rw [if_pos (by omega), if_pos (by omega), if_pos (by omega), if_pos (by omega), if_pos (by omega), if_pos (by omega), Int.toNat_natCast, Int.toNat_natCast, if_pos (key.1 h)]
        unfold top
        rw [if_pos h]
      · refine Ev.step (fun k => ?_) (show Ev (fun k => juratref08_Reach.l0 k a b (n : Int)) _ from ?_)
        · simp only [juratref08_Reach.l0, hw, hw2]
          clear hw hw2
          rw [if_pos (by omega), if_pos (by omega), if_pos (by omega), if_pos (by omega), if_pos (by omega), if_pos (by omega), Int.toNat_natCast, Int.toNat_natCast, if_neg (fun e => h (key.2 e))]
        · unfold top
          rw [if_neg h]
          exact ih (by omega)
    · have h : ¬ Sf (LL b) (LL a) (n + 1) := fun h => hna (by have := h.2.1; rwa [LL_length] at this)
      refine Ev.step (fun k => ?_) (show Ev (fun k => juratref08_Reach.l0 k a b (n : Int)) _ from ?_)
      · simp only [juratref08_Reach.l0, hw2]
        clear hw2
        rw [if_pos (by omega), if_neg (by omega)]
      · unfold top
        rw [if_neg h]
        exact ih (by omega)
theorem rreach (a b : ByteArray) (ha : a.size ≤ 8796093022200) (hb : b.size ≤ 8796093022200) : Ev (fun k => juratref08_Reach.f k a b) (stS a b a.size : Int) := by
  have := rreach_l0 a b ha hb b.size (Nat.le_refl _)
  unfold stS st
  rw [take_all]
  exact this

/-- Has a text a border of n bytes? -/
def bordS (s : ByteArray) (n : Nat) : Bool := decide (0 < n ∧ n < s.size ∧ Sf (LL s) (LL s) n)
theorem rborder (s : ByteArray) (hs : s.size ≤ 8796093022200) (n : Nat) : juratref08_Border.f s (n : Int) = some (bordS s n) := by
  unfold juratref08_Border.f bordS
  by_cases h0 : 0 < n
  · rw [if_pos (by omega)]
    by_cases h1 : n < s.size
    · have hw : wrap64 ((s.size : Int) - (n : Int)) = ((s.size - n : Nat) : Int) := by rw [wrap_id (by omega) (by omega)]; omega
      have key : Sf (LL s) (LL s) n ↔ (s.extract 0 n).toList = (s.extract (s.size - n) s.size).toList := by
        rw [toList_iff, LL_iff, LL_extract, LL_extract, take_all, List.drop_zero]
        unfold Sf
        rw [LL_length]
        exact ⟨fun h => h.2.2, fun h => ⟨by omega, by omega, h⟩⟩
      rw [hw]
      clear hw
      rw [if_pos (by omega), if_pos (by omega), if_pos (by omega), if_pos (by omega), if_pos (by omega), Int.toNat_natCast, Int.toNat_natCast]
      congr 1
      rw [Bool.eq_iff_iff, beq_iff_eq, decide_eq_true_iff, ← key]
      exact ⟨fun h => ⟨h0, h1, h⟩, fun h => h.2.2⟩
    · rw [if_neg (by omega), decide_eq_false (fun h => h1 h.2.1)]
  · rw [if_neg (by omega), decide_eq_false (fun h => h0 h.1)]
theorem rlongest_l0 (s : ByteArray) (hs : s.size ≤ 8796093022200) : ∀ n : Nat, n < s.size → Ev (fun k => juratref08_Longest.l0 k s (n : Int)) (top (Sf (LL s) (LL s)) n : Int) := by
  intro n
  induction n with
  | zero =>
    intro _
    refine Ev.ret fun k => ?_
    simp only [juratref08_Longest.l0]
    rw [if_neg (by omega)]
    rfl
  | succ n ih =>
    intro hn
    have hb := rborder s hs (n + 1)
    by_cases h : Sf (LL s) (LL s) (n + 1)
    · refine Ev.ret fun k => ?_
      simp only [juratref08_Longest.l0]
      rw [if_pos (by omega), hb, Option.bind_some]
      unfold bordS top
      rw [decide_eq_true ⟨by omega, hn, h⟩, if_pos rfl, if_pos h]
    · refine Ev.step (fun k => ?_) (show Ev (fun k => juratref08_Longest.l0 k s (n : Int)) _ from ?_)
      · simp only [juratref08_Longest.l0]
        rw [if_pos (by omega), hb, Option.bind_some]
        unfold bordS
        rw [decide_eq_false (fun e => h e.2.2), if_neg (by simp), show wrap64 (((n + 1 : Nat) : Int) - 1) = (n : Int) from by rw [wrap_id (by omega) (by omega)]; omega]
      · unfold top
        rw [if_neg h]
        exact ih (by omega)
theorem fail_take (l : List UInt8) (n : Nat) (h : n ≤ l.length) : fail (l.take n) n = fail l n := by
  unfold fail
  rw [List.take_take, Nat.min_self]
  have key : ∀ m, m ≤ n - 1 → (Sf (l.take n) (l.take n) m ↔ Sf l (l.take n) m) := fun m hm => by
    unfold Sf
    rw [List.take_take, Nat.min_eq_left (by omega), List.length_take]
    constructor <;> rintro ⟨a, b, c⟩ <;> exact ⟨by omega, by omega, c⟩
  refine top_eq _ _ _ (top_le _ _) (fun h0 => (key _ (top_le _ _)).2 (top_is _ _ h0)) fun m h1 h2 h3 => ?_
  exact absurd (top_max _ _ m (by omega) h2 ((key m h2).1 h3)) (Nat.not_le.2 h1)
theorem rlongest (s : ByteArray) (hs : s.size ≤ 8796093022200) : Ev (fun k => juratref08_Longest.f k s) (fail (LL s) s.size : Int) := by
  by_cases h0 : s.size = 0
  · have e : fail (LL s) s.size = 0 := by have := fail_le (LL s) s.size; omega
    rw [e]
    refine Ev.ret fun k => ?_
    unfold juratref08_Longest.f
    simp only [juratref08_Longest.l0]
    rw [h0, if_neg (by rw [wrap_id (by omega) (by omega)]; omega)]
    rfl
  · have := rlongest_l0 s hs (s.size - 1) (by omega)
    unfold fail
    rw [take_all]
    refine Ev.congr (fun k => ?_) this
    unfold juratref08_Longest.f
    rw [show wrap64 ((s.size : Int) - 1) = ((s.size - 1 : Nat) : Int) from by rw [wrap_id (by omega) (by omega)]; omega]
theorem rtable_l0 (s : ByteArray) (hs : s.size ≤ 8796093022200) : ∀ (d n : Nat), n + d = s.size + 1 →
    Ev (fun k => juratref08_Table.l0 k s ((List.range n).map fun j => (fail (LL s) j : Int)) (n : Int)) (tabS s) := by
  intro d
  induction d with
  | zero =>
    intro n hn
    obtain rfl : n = s.size + 1 := by omega
    refine Ev.ret fun k => ?_
    simp only [juratref08_Table.l0]
    rw [if_neg (by omega)]
    rfl
  | succ d ih =>
    intro n hn
    have hl := rlongest (s.extract 0 n) (by rw [ByteArray.size_extract]; omega)
    have hsz : (s.extract 0 n).size = n := by rw [ByteArray.size_extract]; omega
    rw [LL_extract, List.drop_zero, hsz, fail_take (LL s) n (by rw [LL_length]; omega)] at hl
    refine Ev.step (f := fun k => (juratref08_Longest.f k (s.extract 0 n)).bind fun t => juratref08_Table.l0 k s (((List.range n).map fun j => (fail (LL s) j : Int)) ++ [t]) ((n + 1 : Nat) : Int)) (fun k => ?_) (Ev.bind hl ?_)
    · simp only [juratref08_Table.l0]
      rw [if_pos (by omega), if_pos (by omega), Int.toNat_natCast]
      congr 1
      funext t
      rw [if_pos (by simp; omega), show wrap64 ((n : Int) + 1) = ((n + 1 : Nat) : Int) from by rw [wrap_id (by omega) (by omega)]; rfl]
    · have := ih (n + 1) (by omega)
      rwa [List.range_succ, List.map_append] at this
theorem rtable (s : ByteArray) (hs : s.size ≤ 8796093022200) : Ev (fun k => juratref08_Table.f k s) (tabS s) := rtable_l0 s hs (s.size + 1) 0 (by omega)

/-! all borders -/
/-- Which of 1 .. n P holds of, the greatest first. -/
def down (P : Nat → Prop) [DecidablePred P] : Nat → List Int
  | 0 => []
  | n + 1 => if P (n + 1) then ((n + 1 : Nat) : Int) :: down P n else down P n
theorem down_top (P : Nat → Prop) [DecidablePred P] : ∀ n, down P n = if top P n = 0 then [] else (top P n : Int) :: down P (top P n - 1)
  | 0 => rfl
  | n + 1 => by
    by_cases h : P (n + 1)
    · have e : top P (n + 1) = n + 1 := by unfold top; rw [if_pos h]
      have ed : down P (n + 1) = ((n + 1 : Nat) : Int) :: down P n := by conv => lhs; unfold down; rw [if_pos h]
      rw [ed, e, if_neg (by omega), Nat.add_sub_cancel]
    · have e : top P (n + 1) = top P n := by conv => lhs; unfold top; rw [if_neg h]
      have ed : down P (n + 1) = down P n := by conv => lhs; unfold down; rw [if_neg h]
      rw [ed, e]
      exact down_top P n
theorem down_length (P : Nat → Prop) [DecidablePred P] : ∀ n, (down P n).length ≤ n
  | 0 => Nat.le_refl _
  | n + 1 => by
    unfold down
    have := down_length P n
    split
    · rw [List.length_cons]; omega
    · omega
theorem down_mem (P : Nat → Prop) [DecidablePred P] : ∀ n x, x ∈ down P n → ∃ m : Nat, x = m ∧ 0 < m ∧ m ≤ n ∧ P m
  | 0, x, h => by cases h
  | n + 1, x, h => by
    unfold down at h
    split at h
    · rename_i hp
      rcases List.mem_cons.1 h with h | h
      · exact ⟨n + 1, h, by omega, by omega, hp⟩
      · obtain ⟨m, h1, h2, h3, h4⟩ := down_mem P n x h
        exact ⟨m, h1, h2, by omega, h4⟩
    · obtain ⟨m, h1, h2, h3, h4⟩ := down_mem P n x h
      exact ⟨m, h1, h2, by omega, h4⟩
/-- How long the borders of a text are, the longest first. -/
def allS (s : ByteArray) : List Int := down (Sf (LL s) (LL s)) (s.size - 1)
theorem top_fail (l : List UInt8) (k : Nat) (hk : Sf l l k) : top (Sf l l) (k - 1) = fail l k := by
  unfold fail
  refine (top_eq _ _ _ (top_le _ _) (fun h0 => ?_) fun m h1 h2 h3 => ?_)
  · exact Sf_trans hk (top_is _ _ h0)
  · exact absurd (top_max _ _ m (by omega) h2 (Sf_down hk h3 (by omega))) (Nat.not_le.2 h1)
theorem all_l0 (s : ByteArray) : ∀ (n k : Nat) (out : List Int), k ≤ n → k ≤ s.size → Sf (LL s) (LL s) k → out.length + k < 17592186044416 →
    Ev (fun q => border_All.l0 q out (tabS s) (k : Int)) (out ++ (if k = 0 then [] else (k : Int) :: down (Sf (LL s) (LL s)) (k - 1))) := by
  intro n
  induction n with
  | zero =>
    intro k out hk _ _ _
    obtain rfl : k = 0 := by omega
    refine Ev.ret fun q => ?_
    simp only [border_All.l0]
    rw [if_neg (by omega), if_pos trivial, List.append_nil]
  | succ n ih =>
    intro k out hk hks hsf ho
    by_cases hk0 : k = 0
    · exact ih k out (by omega) hks hsf ho
    · have hlt := fail_lt (LL s) k (by omega)
      refine Ev.step (f := fun q => border_All.l0 q (out ++ [(k : Int)]) (tabS s) (fail (LL s) k : Int)) (fun q => ?_) ?_
      · simp only [border_All.l0]
        rw [if_pos (by omega), if_pos (by omega), if_pos (by omega), if_pos (by rw [tabS_length]; omega), rd_tabS s k hks]
      · have hsf' := Sf_trans hsf (fail_Sf (LL s) k)
        have := ih (fail (LL s) k) (out ++ [(k : Int)]) (by omega) (by omega) hsf' (by simp; omega)
        rw [if_neg hk0, down_top, top_fail (LL s) k hsf]
        rwa [List.append_assoc, List.singleton_append] at this
theorem all (s : ByteArray) (hs : s.size ≤ 8796093022200) : Ev (fun k => border_All.f k s) (allS s) := by
  refine Ev.congr (f := fun k => (border_Table.f k s).bind fun t => if 0 ≤ (s.size : Int) then (if (s.size : Int) < (t.length : Int) then (border_All.l0 k ([] : List Int) t (rd t (s.size : Int))) else none) else none) (fun k => rfl) (Ev.bind (table s hs) ?_)
  have e : top (Sf (LL s) (LL s)) (s.size - 1) = fail (LL s) s.size := by unfold fail; rw [take_all]
  have hsf : Sf (LL s) (LL s) (fail (LL s) s.size) := by
    have := fail_Sf (LL s) s.size
    rwa [take_all] at this
  have hle := fail_le (LL s) s.size
  have := all_l0 s _ (fail (LL s) s.size) [] (Nat.le_refl _) (by omega) hsf (by simp; omega)
  rw [← e, List.nil_append, ← down_top] at this
  refine Ev.congr (fun k => ?_) this
  rw [if_pos (by omega), if_pos (by rw [tabS_length]; omega), rd_tabS s s.size (Nat.le_refl _), e]
theorem rall_l0 (s : ByteArray) (hs : s.size ≤ 8796093022200) : ∀ (n : Nat) (out : List Int), n < s.size → out.length + n < 17592186044416 →
    Ev (fun k => juratref08_All.l0 k s out (n : Int)) (out ++ down (Sf (LL s) (LL s)) n) := by
  intro n
  induction n with
  | zero =>
    intro out _ _
    refine Ev.ret fun k => ?_
    simp only [juratref08_All.l0]
    rw [if_neg (by omega)]
    simp [down]
  | succ n ih =>
    intro out hn ho
    have hb := rborder s hs (n + 1)
    have hw : wrap64 (((n + 1 : Nat) : Int) - 1) = (n : Int) := by rw [wrap_id (by omega) (by omega)]; omega
    by_cases h : Sf (LL s) (LL s) (n + 1)
    · refine Ev.step (f := fun k => juratref08_All.l0 k s (out ++ [((n + 1 : Nat) : Int)]) (n : Int)) (fun k => ?_) ?_
      · simp only [juratref08_All.l0]
        rw [if_pos (by omega), hb, Option.bind_some]
        unfold bordS
        rw [decide_eq_true ⟨by omega, hn, h⟩, if_pos rfl, if_pos (by omega), hw]
      · have := ih (out ++ [((n + 1 : Nat) : Int)]) (by omega) (by simp; omega)
        unfold down
        rw [if_pos h]
        rwa [List.append_assoc, List.singleton_append] at this
    · refine Ev.step (f := fun k => juratref08_All.l0 k s out (n : Int)) (fun k => ?_) ?_
      · simp only [juratref08_All.l0]
        rw [if_pos (by omega), hb, Option.bind_some]
        unfold bordS
        rw [decide_eq_false (fun e => h e.2.2), if_neg (by simp), hw]
      · unfold down
        rw [if_neg h]
        exact ih out (by omega) (by omega)
theorem rall (s : ByteArray) (hs : s.size ≤ 8796093022200) : Ev (fun k => juratref08_All.f k s) (allS s) := by
  unfold allS
  by_cases h0 : s.size = 0
  · rw [h0]
    refine Ev.ret fun k => ?_
    unfold juratref08_All.f
    simp only [juratref08_All.l0]
    rw [h0, if_neg (by rw [wrap_id (by omega) (by omega)]; omega)]
    rfl
  · have := rall_l0 s hs (s.size - 1) [] (by omega) (by simp; omega)
    refine Ev.congr (fun k => ?_) this
    unfold juratref08_All.f
    rw [show wrap64 ((s.size : Int) - 1) = ((s.size - 1 : Nat) : Int) from by rw [wrap_id (by omega) (by omega)]; omega]

/-! the least period -/
/-- The least period of a text. -/
def perS (s : ByteArray) : Nat := s.size - fail (LL s) s.size
theorem perS_le (s : ByteArray) : perS s ≤ s.size := Nat.sub_le _ _
theorem perS_pos (s : ByteArray) (h : 0 < s.size) : 0 < perS s := by have := fail_lt (LL s) s.size h; unfold perS; omega
theorem perS_per (s : ByteArray) : Per (LL s) (perS s) := by
  have := fail_Sf (LL s) s.size
  rw [take_all] at this
  have hle := fail_le (LL s) s.size
  rw [Sf_per (LL s) _ (by rw [LL_length]; omega), LL_length] at this
  exact this
theorem perS_least (s : ByteArray) (p : Nat) (h0 : 0 < p) (hp : p < perS s) : ¬ Per (LL s) p := by
  intro h
  have hle := perS_le s
  have h1 : Sf (LL s) (LL s) (s.size - p) := by
    rw [Sf_per (LL s) _ (by rw [LL_length]; omega), LL_length, show s.size - (s.size - p) = p from by omega]
    exact h
  unfold perS at hp
  have h2 := top_max (Sf (LL s) (LL s)) (s.size - 1) (s.size - p) (by omega) (by omega) h1
  unfold fail at hp
  rw [take_all] at hp
  omega
theorem period (s : ByteArray) (hs : s.size ≤ 8796093022200) : Ev (fun k => border_Period.f k s) (perS s : Int) := by
  refine Ev.congr (f := fun k => (border_Table.f k s).bind fun t => if 0 ≤ (s.size : Int) then (if (s.size : Int) < (t.length : Int) then (some (wrap64 ((s.size : Int) - (rd t (s.size : Int))))) else none) else none) (fun k => rfl) (Ev.bind (table s hs) ?_)
  have hle := fail_le (LL s) s.size
  refine Ev.const fun k => ?_
  rw [if_pos (by omega), if_pos (by rw [tabS_length]; omega), rd_tabS s s.size (Nat.le_refl _), wrap_id (by omega) (by omega)]
  unfold perS
  congr 1
  omega
theorem rperiod_l0 (s : ByteArray) (hs : s.size ≤ 8796093022200) (h0 : 0 < s.size) : ∀ (d p : Nat), p + d = perS s → 0 < p → Ev (fun k => juratref08_Period.l0 k s (p : Int)) (perS s : Int) := by
  have hle := perS_le s
  have key : ∀ p, p ≤ s.size → ((s.extract p s.size).toList = (s.extract 0 (s.size - p)).toList ↔ Per (LL s) p) := fun p hp => by
    rw [toList_iff, LL_iff, LL_extract, LL_extract, take_all, List.drop_zero, ← per_iff (LL s) p (by rw [LL_length]; omega), LL_length]
  intro d
  induction d with
  | zero =>
    intro p hp hp0
    obtain rfl : p = perS s := by omega
    refine Ev.ret fun k => ?_
    simp only [juratref08_Period.l0]
    rw [show wrap64 ((s.size : Int) - (perS s : Int)) = ((s.size - perS s : Nat) : Int) from by rw [wrap_id (by omega) (by omega)]; omega]
    rw [if_pos (by omega), if_pos (by omega), if_pos (by omega), if_pos (by omega), Int.toNat_natCast, Int.toNat_natCast, if_pos ((key _ hle).2 (perS_per s))]
  | succ d ih =>
    intro p hp hp0
    refine Ev.step (fun k => ?_) (ih (p + 1) (by omega) (by omega))
    simp only [juratref08_Period.l0]
    rw [show wrap64 ((s.size : Int) - (p : Int)) = ((s.size - p : Nat) : Int) from by rw [wrap_id (by omega) (by omega)]; omega]
    rw [if_pos (by omega), if_pos (by omega), if_pos (by omega), if_pos (by omega), Int.toNat_natCast, Int.toNat_natCast, if_neg (fun e => perS_least s p hp0 (by omega) ((key p (by omega)).1 e))]
    rw [show wrap64 ((p : Int) + 1) = ((p + 1 : Nat) : Int) from by rw [wrap_id (by omega) (by omega)]; rfl]
theorem rperiod (s : ByteArray) (hs : s.size ≤ 8796093022200) : Ev (fun k => juratref08_Period.f k s) (perS s : Int) := by
  by_cases h0 : 0 < s.size
  · have := perS_pos s h0
    exact rperiod_l0 s hs h0 (perS s - 1) 1 (by omega) (by omega)
  · have e : perS s = 0 := by have := perS_le s; omega
    rw [e]
    refine Ev.ret fun k => ?_
    unfold juratref08_Period.f
    simp only [juratref08_Period.l0]
    rw [if_neg (by omega)]
    rfl

/-! a shorter one, several times -/
/-- Is a text a shorter one, several times? -/
def wholeS (s : ByteArray) : Bool := decide (perS s < s.size ∧ s.size % perS s = 0)
theorem whole (s : ByteArray) (hs : s.size ≤ 8796093022200) : Ev (fun k => border_Whole.f k s) (wholeS s) := by
  refine Ev.congr (f := fun k => (border_Period.f k s).bind fun t => if t < (s.size : Int) then (if t = 0 then none else (some (((s.size : Int) % t) == 0))) else (some false)) (fun k => rfl) (Ev.bind (period s hs) ?_)
  refine Ev.const fun k => ?_
  unfold wholeS
  by_cases h : perS s < s.size
  · have := perS_pos s (by omega)
    rw [if_pos (by omega), if_neg (by omega)]
    congr 1
    rw [Bool.eq_iff_iff, beq_iff_eq, decide_eq_true_iff]
    omega
  · rw [if_neg (by omega), decide_eq_false (fun e => h e.1)]
theorem whole_iff (s : ByteArray) : (perS s < s.size ∧ s.size % perS s = 0) ↔ ∃ n, 0 < n ∧ n < s.size ∧ n ∣ s.size ∧ Per (LL s) n := by
  constructor
  · rintro ⟨h1, h2⟩
    exact ⟨perS s, perS_pos s (by omega), h1, Nat.dvd_of_mod_eq_zero h2, perS_per s⟩
  · rintro ⟨n, h0, h1, hd, hp⟩
    have hpp := perS_pos s (by omega)
    have hle : perS s ≤ n := Nat.le_of_not_lt fun hlt => perS_least s n h0 hlt hp
    obtain ⟨q, hq⟩ := hd
    have hq2 : 2 ≤ q := by
      rcases Nat.lt_or_ge q 2 with h | h
      · have : q = 0 ∨ q = 1 := by omega
        rcases this with rfl | rfl
        · rw [Nat.mul_zero] at hq; omega
        · rw [Nat.mul_one] at hq; omega
      · exact h
    have h2n : 2 * n ≤ s.size := by rw [hq, Nat.mul_comm n q]; exact Nat.mul_le_mul_right n hq2
    have hg := per_gcd (LL s) (perS s + n) (perS s) n (Nat.le_refl _) hpp h0 (perS_per s) hp (by rw [LL_length]; omega)
    have hg0 : 0 < Nat.gcd (perS s) n := Nat.gcd_pos_of_pos_left _ hpp
    have hgle : Nat.gcd (perS s) n ≤ perS s := Nat.gcd_le_left _ hpp
    have hge : perS s ≤ Nat.gcd (perS s) n := Nat.le_of_not_lt fun hlt => perS_least s _ hg0 hlt hg
    have he : Nat.gcd (perS s) n = perS s := by omega
    refine ⟨by omega, Nat.mod_eq_zero_of_dvd ?_⟩
    have hdn : perS s ∣ n := by rw [← he]; exact Nat.gcd_dvd_right _ _
    exact Nat.dvd_trans hdn ⟨q, hq⟩
/-- t is the first n bytes of s, j times. -/
structure Reps' (s t : ByteArray) (n j : Nat) : Prop where
  size : t.size = j * n
  get : ∀ i, i < j * n → (LL t)[i]? = (LL s)[i % n]?
theorem reps_next {s t : ByteArray} {n j : Nat} (h : Reps' s t n j) (h0 : 0 < n) (hn : n ≤ s.size) : Reps' s (t ++ s.extract 0 n) n (j + 1) := by
  have hz : (s.extract 0 n).size = n := by rw [ByteArray.size_extract]; omega
  refine ⟨by rw [ByteArray.size_append, h.size, hz, Nat.succ_mul], fun i hi => ?_⟩
  rw [LL_append]
  by_cases hlt : i < j * n
  · rw [List.getElem?_append_left (by rw [LL_length, h.size]; exact hlt)]
    exact h.get i hlt
  · rw [Nat.succ_mul] at hi
    rw [List.getElem?_append_right (by rw [LL_length, h.size]; omega), LL_length, h.size, LL_extract, List.drop_zero, List.getElem?_take_of_lt (by omega)]
    congr 1
    have : i = (i - j * n) + n * j := by rw [Nat.mul_comm n j]; omega
    conv => rhs; rw [this]
    rw [Nat.add_mul_mod_self_left, Nat.mod_eq_of_lt (by omega)]
theorem reps_eq {s t : ByteArray} {n j : Nat} (h : Reps' s t n j) (h0 : 0 < n) (hj : s.size ≤ j * n) (hj' : j * n < s.size + n) : t = s ↔ (n ∣ s.size ∧ Per (LL s) n) := by
  constructor
  · intro e
    have hsz := h.size
    rw [e] at hsz
    refine ⟨⟨j, by rw [hsz, Nat.mul_comm]⟩, fun i hi => ?_⟩
    rw [LL_length] at hi
    have h1 := h.get i (by omega)
    have h2 := h.get (i + n) (by omega)
    rw [e] at h1 h2
    rw [h1, h2, Nat.add_mod_right]
  · rintro ⟨⟨q, hq⟩, hp⟩
    have hjq : j * n = s.size := by
      rw [hq, Nat.mul_comm n q] at hj hj' ⊢
      have h1 : q ≤ j := Nat.le_of_mul_le_mul_right hj h0
      have h2 : j < q + 1 := Nat.lt_of_mul_lt_mul_right (a := n) (by rw [Nat.succ_mul]; exact hj')
      rw [show j = q from by omega]
    apply LL_inj
    apply List.ext_getElem?
    intro i
    by_cases hi : i < s.size
    · rw [h.get i (by omega)]
      have := per_mul hp (i / n) (i % n) (by rw [LL_length, Nat.mod_add_div]; exact hi)
      rw [Nat.mod_add_div] at this
      exact this
    · rw [List.getElem?_eq_none (by rw [LL_length, h.size]; omega), List.getElem?_eq_none (by rw [LL_length]; omega)]
theorem rwhole_l1 (s : ByteArray) (hs : s.size ≤ 8796093022200) (n : Nat) (h0 : 0 < n) (hn : n < s.size) (r : Bool) (hr : ¬ (n ∣ s.size ∧ Per (LL s) n) → Ev (fun k => juratref08_Whole.l0 k s ((n + 1 : Nat) : Int)) r) (hr2 : (n ∣ s.size ∧ Per (LL s) n) → r = true) :
    ∀ (d j : Nat) (t : ByteArray), Reps' s t n j → s.size ≤ t.size + d → t.size < s.size + n → Ev (fun k => juratref08_Whole.l1 k s (n : Int) t) r := by
  have fin : ∀ (j : Nat) (t : ByteArray), Reps' s t n j → s.size ≤ t.size → t.size < s.size + n → Ev (fun k => juratref08_Whole.l1 k s (n : Int) t) r := by
    intro j t ht h1 h2
    have hiff := reps_eq ht h0 (by rw [← ht.size]; exact h1) (by rw [← ht.size]; exact h2)
    by_cases e : t = s
    · rw [hr2 (hiff.1 e)]
      refine Ev.ret fun k => ?_
      simp only [juratref08_Whole.l1]
      rw [if_neg (by omega), if_pos (toList_iff.2 e)]
    · refine Ev.step (fun k => ?_) (hr (fun h => e (hiff.2 h)))
      simp only [juratref08_Whole.l1]
      rw [if_neg (by omega), if_neg (fun h => e (toList_iff.1 h)), show wrap64 ((n : Int) + 1) = ((n + 1 : Nat) : Int) from by rw [wrap_id (by omega) (by omega)]; rfl]
  intro d
  induction d with
  | zero => intro j t ht h1 h2; exact fin j t ht (by omega) h2
  | succ d ih =>
    intro j t ht h1 h2
    by_cases hlt : t.size < s.size
    · have hz : (s.extract 0 n).size = n := by rw [ByteArray.size_extract]; omega
      refine Ev.step (fun k => ?_) (ih (j + 1) (t ++ s.extract 0 n) (reps_next ht h0 (by omega)) (by rw [ByteArray.size_append, hz]; omega) (by rw [ByteArray.size_append, hz]; omega))
      simp only [juratref08_Whole.l1]
      rw [if_pos (by omega), if_pos (by omega), if_pos (by omega), Int.toNat_natCast, if_pos (by rw [hz]; omega)]
    · exact fin j t ht (by omega) h2
open Classical in
theorem rwhole_l0 (s : ByteArray) (hs : s.size ≤ 8796093022200) : ∀ (d n : Nat), n + d = s.size → 0 < n →
    Ev (fun k => juratref08_Whole.l0 k s (n : Int)) (decide (∃ m, n ≤ m ∧ m < s.size ∧ m ∣ s.size ∧ Per (LL s) m)) := by
  intro d
  induction d with
  | zero =>
    intro n hn h0
    rw [decide_eq_false (by rintro ⟨m, h1, h2, _⟩; omega)]
    refine Ev.ret fun k => ?_
    simp only [juratref08_Whole.l0]
    rw [if_neg (by omega)]
  | succ d ih =>
    intro n hn h0
    refine Ev.step (f := fun k => juratref08_Whole.l1 k s (n : Int) (⟨#[]⟩ : ByteArray)) (fun k => ?_) ?_
    · simp only [juratref08_Whole.l0]
      rw [if_pos (by omega)]
    · refine rwhole_l1 s hs n h0 (by omega) _ (fun h => ?_) (fun h => ?_) s.size 0 _ ⟨by simp; rfl, fun i hi => by omega⟩ (by omega) (by show 0 < s.size + n; omega)
      · have e : decide (∃ m, n ≤ m ∧ m < s.size ∧ m ∣ s.size ∧ Per (LL s) m) = decide (∃ m, n + 1 ≤ m ∧ m < s.size ∧ m ∣ s.size ∧ Per (LL s) m) := by
          rw [decide_eq_decide]
          constructor
          · rintro ⟨m, h1, h2, h3, h4⟩
            have : m ≠ n := fun e => h ⟨e ▸ h3, e ▸ h4⟩
            exact ⟨m, by omega, h2, h3, h4⟩
          · rintro ⟨m, h1, h2, h3, h4⟩
            exact ⟨m, by omega, h2, h3, h4⟩
        rw [e]
        exact ih (n + 1) (by omega) (by omega)
      · exact decide_eq_true ⟨n, Nat.le_refl _, by omega, h.1, h.2⟩
open Classical in
theorem rwhole (s : ByteArray) (hs : s.size ≤ 8796093022200) : Ev (fun k => juratref08_Whole.f k s) (wholeS s) := by
  by_cases h0 : 0 < s.size
  · have := rwhole_l0 s hs (s.size - 1) 1 (by omega) (by omega)
    have e : wholeS s = decide (∃ m, 1 ≤ m ∧ m < s.size ∧ m ∣ s.size ∧ Per (LL s) m) := by
      unfold wholeS
      rw [decide_eq_decide, whole_iff]
      exact ⟨fun ⟨m, a, b, c, d⟩ => ⟨m, a, b, c, d⟩, fun ⟨m, a, b, c, d⟩ => ⟨m, a, b, c, d⟩⟩
    rw [e]
    exact this
  · have e : wholeS s = false := decide_eq_false (fun h => by omega)
    rw [e]
    refine Ev.ret fun k => ?_
    unfold juratref08_Whole.f
    simp only [juratref08_Whole.l0]
    rw [if_neg (by omega)]

theorem awake08 : Ev (fun k => juratlaw08_awake.f k) true := by
  have e1 : tabS (⟨#[97, 98, 97, 98]⟩ : ByteArray) = [0, 0, 0, 1, 2] := by decide +kernel
  have e2 : allS (⟨#[97, 97, 97]⟩ : ByteArray) = [2, 1] := by decide +kernel
  have e3 : stS (⟨#[120, 97, 98]⟩ : ByteArray) (⟨#[97, 98, 99]⟩ : ByteArray) 3 = 2 := by decide +kernel
  have e4 : findS (⟨#[97, 97, 97]⟩ : ByteArray) (⟨#[97, 97]⟩ : ByteArray) = [0, 1] := by decide +kernel
  have e5 : perS (⟨#[97, 98, 97, 98]⟩ : ByteArray) = 2 := by decide +kernel
  have s1 := same1 [0, 0, 0, 1, 2] [0, 0, 0, 1, 2] (by simp)
  have s2 := same1 [2, 1] [2, 1] (by simp)
  have s4 := same1 [0, 1] [0, 1] (by simp)
  rw [decide_eq_true rfl] at s1 s2 s4
  have h1 := table (⟨#[97, 98, 97, 98]⟩ : ByteArray) (by decide)
  have h2 := all (⟨#[97, 97, 97]⟩ : ByteArray) (by decide)
  have h3 : Ev (fun k => border_Reach.f k (⟨#[120, 97, 98]⟩ : ByteArray) (⟨#[97, 98, 99]⟩ : ByteArray)) ((stS (⟨#[120, 97, 98]⟩ : ByteArray) (⟨#[97, 98, 99]⟩ : ByteArray) 3 : Nat) : Int) := reach (⟨#[120, 97, 98]⟩ : ByteArray) (⟨#[97, 98, 99]⟩ : ByteArray) (by decide) (by decide)
  have h4 := find (⟨#[97, 97, 97]⟩ : ByteArray) (⟨#[97, 97]⟩ : ByteArray) (by decide) (by decide)
  have h5 := period (⟨#[97, 98, 97, 98]⟩ : ByteArray) (by decide)
  rw [e1] at h1
  rw [e2] at h2
  rw [e3] at h3
  rw [e4] at h4
  rw [e5] at h5
  refine Ev.congr (fun k => rfl) (Ev.bind h1 (Ev.bind s1 (Ev.bind h2 (Ev.bind s2 (Ev.bind h3 (Ev.bind h4 (Ev.bind s4 (Ev.bind h5 (Ev.now _)))))))))
end Go.Proofs.Ytmkcoobmbjoloaa.Base
