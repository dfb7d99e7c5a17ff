/- What the chunk layer and its reference compute, as plain functions on byte strings; no condition beyond the sizes that stand in each statement. -/
import Derived.Test.YtmkcoobmbjoloaaBase
import Derived.Test.YtmkcoobmbjoloaaSame5
import Derived.Test.YtmkcoobmbjoloaaPx21
import Derived.Test.YtmkcoobmbjoloaaPx22
import Derived.Test.YtmkcoobmbjoloaaPx18
import Derived.Test.YtmkcoobmbjoloaaPx20
namespace Go.Proofs.Ytmkcoobmbjoloaa.Base
open Go Go.RowKit Go.Proofs.YtmkcoobmbjoloaaW.PrintWords Go.Proofs.YtmkcoobmbjoloaaW.PrintMore Go.Proofs.Ytmkcoobmbjoloaa.P

/-! cuts -/
/-- Where a part of length n ends, of a text of m bytes. -/
def cutAt (n : Int) (m : Nat) : Nat := min n.toNat m
theorem cutAt_le (n : Int) (m : Nat) : cutAt n m ≤ m := Nat.min_le_right _ _
theorem mn_mx (n : Int) (m : Nat) : mn (mx n 0) (m : Int) = (cutAt n m : Int) := by
  unfold mn mx cutAt
  split <;> split <;> omega
/-- A text in parts. -/
def cutS : ByteArray → List Int → List ByteArray
  | s, [] => if s.size = 0 then [] else [s]
  | s, n :: l => s.extract 0 (cutAt n s.size) :: cutS (s.extract (cutAt n s.size) s.size) l

theorem cut_l0 (l : List Int) (hm : l.length ≤ 8796093022200) : ∀ (d i : Nat) (s : ByteArray) (out : List ByteArray), i + d = l.length → out.length + d + 1 < 8796093022208 →
    Ev (fun k => chunk_Cut.l0 k s out l (l.length : Int) (i : Int)) (out ++ cutS s (l.drop i)) := by
  intro d
  induction d with
  | zero =>
    intro i s out hi ho
    refine Ev.ret fun k => ?_
    simp only [chunk_Cut.l0]
    rw [if_neg (by omega), List.drop_of_length_le (by omega)]
    unfold cutS
    by_cases h : s.size = 0
    · rw [if_pos (toList_nil.2 h), if_pos h, List.append_nil]
    · rw [if_neg (fun e => h (toList_nil.1 e)), if_pos (by omega), if_neg h]
  | succ d ih =>
    intro i s out hi ho
    have hc := cutAt_le (l.getD i 0) s.size
    have hr : rd l (i : Int) = l.getD i 0 := rfl
    refine Ev.step (f := fun k => chunk_Cut.l0 k (s.extract (cutAt (l.getD i 0) s.size) s.size) (out ++ [s.extract 0 (cutAt (l.getD i 0) s.size)]) l (l.length : Int) ((i + 1 : Nat) : Int)) (fun k => ?_) ?_
    · simp only [chunk_Cut.l0, hr, mn_mx]
      rw [if_pos (by omega), if_pos (by omega), if_pos (by omega), if_pos (by omega), if_pos (by omega), if_pos (by omega), wrap_id (by omega) (by omega), Int.toNat_natCast]
      rfl
    · rw [getD_drop l i 0 (by omega)]
      unfold cutS
      have := ih (i + 1) (s.extract (cutAt (l.getD i 0) s.size) s.size) (out ++ [s.extract 0 (cutAt (l.getD i 0) s.size)]) (by omega) (by rw [List.length_append]; simp; omega)
      rwa [List.append_assoc, List.singleton_append] at this
theorem cut (s : ByteArray) (l : List Int) (hm : l.length ≤ 8796093022200) : Ev (fun k => chunk_Cut.f k s l) (cutS s l) := cut_l0 l hm l.length 0 s [] (by omega) (by simp; omega)

theorem rcut_step (s : ByteArray) (l : List Int) (hs : s.size ≤ 140737488351232) (hm : l.length ≤ 8796093022200) (i a : Nat) (out : List ByteArray) (hi : i < l.length) (ha : a ≤ s.size) (ho : out.length < 8796093022208) (k : Nat) :
    juratref06_Cut.l0 (k + 1) s l out (a : Int) (i : Int) = juratref06_Cut.l0 k s l (out ++ [s.extract a (a + cutAt (l.getD i 0) (s.size - a))]) ((a + cutAt (l.getD i 0) (s.size - a) : Nat) : Int) ((i + 1 : Nat) : Int) := by
  have hr : rd l (i : Int) = l.getD i 0 := rfl
  have hw : wrap64 ((s.size : Int) - a) = (s.size : Int) - a := wrap_id (by omega) (by omega)
  have hw1 : wrap64 ((i : Int) + 1) = ((i + 1 : Nat) : Int) := by rw [wrap_id (by omega) (by omega)]; rfl
  have hw2 : wrap64 ((a : Int) + ((s.size : Int) - a)) = (s.size : Int) := by rw [wrap_id (by omega) (by omega)]; omega
  have hw3 : wrap64 (a : Int) = a := wrap_id (by omega) (by omega)
  simp only [juratref06_Cut.l0, hr, hw, hw1, hw2, hw3]
  clear hr hw hw1 hw2 hw3
  rw [if_pos (by omega), if_pos (by omega)]
  by_cases h1 : l.getD i 0 < 0
  · have hc : cutAt (l.getD i 0) (s.size - a) = 0 := by unfold cutAt; omega
    rw [if_pos h1, if_neg (by omega), if_pos (by omega), if_pos (by omega), if_pos (by omega), if_pos (by omega), hc, Int.toNat_natCast]
    rfl
  · rw [if_neg h1]
    by_cases h2 : l.getD i 0 > (s.size : Int) - a
    · have hc : a + cutAt (l.getD i 0) (s.size - a) = s.size := by unfold cutAt; omega
      rw [if_pos h2, if_pos (by omega), if_pos (by omega), if_pos (by omega), if_pos (by omega), hc, Int.toNat_natCast, Int.toNat_natCast]
    · have hc : (a : Int) + l.getD i 0 = ((a + cutAt (l.getD i 0) (s.size - a) : Nat) : Int) := by unfold cutAt; omega
      have hw4 : wrap64 ((a : Int) + l.getD i 0) = ((a + cutAt (l.getD i 0) (s.size - a) : Nat) : Int) := by rw [wrap_id (by omega) (by omega), hc]
      have hle := cutAt_le (l.getD i 0) (s.size - a)
      rw [hw4]
      clear hw4
      rw [if_neg h2, if_pos (by omega), if_pos (by omega), if_pos (by omega), if_pos (by omega), Int.toNat_natCast, Int.toNat_natCast]
theorem rcut_l0 (s : ByteArray) (l : List Int) (hs : s.size ≤ 140737488351232) (hm : l.length ≤ 8796093022200) : ∀ (d i a : Nat) (out : List ByteArray), i + d = l.length → a ≤ s.size → out.length + d + 1 < 8796093022208 →
    Ev (fun k => juratref06_Cut.l0 k s l out (a : Int) (i : Int)) (out ++ cutS (s.extract a s.size) (l.drop i)) := by
  intro d
  induction d with
  | zero =>
    intro i a out hi ha ho
    refine Ev.ret fun k => ?_
    simp only [juratref06_Cut.l0]
    rw [if_neg (by omega), List.drop_of_length_le (by omega)]
    unfold cutS
    have hz : (s.extract a s.size).size = s.size - a := by rw [ByteArray.size_extract]; omega
    rw [hz]
    by_cases h : a < s.size
    · rw [if_pos (by omega), if_pos (by omega), if_pos (by omega), if_pos (by omega), if_neg (by omega), Int.toNat_natCast]
    · rw [if_neg (by omega), if_pos (by omega), List.append_nil]
  | succ d ih =>
    intro i a out hi ha ho
    refine Ev.step (fun k => rcut_step s l hs hm i a out (by omega) ha (by omega) k) ?_
    have hle := cutAt_le (l.getD i 0) (s.size - a)
    have := ih (i + 1) (a + cutAt (l.getD i 0) (s.size - a)) (out ++ [s.extract a (a + cutAt (l.getD i 0) (s.size - a))]) (by omega) (by omega) (by rw [List.length_append]; simp; omega)
    rw [getD_drop l i 0 (by omega)]
    unfold cutS
    have hz : (s.extract a s.size).size = s.size - a := by rw [ByteArray.size_extract]; omega
    have e1 : (s.extract a s.size).extract 0 (cutAt (l.getD i 0) (s.size - a)) = s.extract a (a + cutAt (l.getD i 0) (s.size - a)) := by rw [extract2 _ _ _ _ _ (by omega)]; rfl
    have e2 : (s.extract a s.size).extract (cutAt (l.getD i 0) (s.size - a)) (s.size - a) = s.extract (a + cutAt (l.getD i 0) (s.size - a)) s.size := by rw [extract2 _ _ _ _ _ (by omega)]; congr 1; omega
    rw [hz, e1, e2]
    rwa [List.append_assoc, List.singleton_append] at this
theorem rcut (s : ByteArray) (l : List Int) (hs : s.size ≤ 140737488351232) (hm : l.length ≤ 8796093022200) : Ev (fun k => juratref06_Cut.f k s l) (cutS s l) := by
  have := rcut_l0 s l hs hm l.length 0 0 [] (by omega) (by omega) (by simp; omega)
  rwa [extract_full, List.drop_zero, List.nil_append] at this

/-! parts of one length -/
/-- A text in parts of n bytes, but for the last one; a: where the next one begins, d: rounds. -/
def evenS (s : ByteArray) (n : Nat) : Nat → Nat → List ByteArray
  | 0, _ => []
  | d + 1, a => if a < s.size then s.extract a (a + min n (s.size - a)) :: evenS s n d (a + min n (s.size - a)) else []

theorem mn_nat (n : Int) (m : Nat) (h : 0 ≤ n) : mn n (m : Int) = ((min n.toNat m : Nat) : Int) := by
  unfold mn
  split <;> omega
theorem even_l0 (s : ByteArray) (n : Int) (hn : 1 ≤ n) : ∀ (d a : Nat) (out : List ByteArray), s.size < a + d → out.length + d < 8796093022208 →
    Ev (fun k => chunk_Even.l0 k (s.extract a s.size) n out) (out ++ evenS s n.toNat d a, 0) := by
  intro d
  induction d with
  | zero =>
    intro a out ha ho
    refine Ev.ret fun k => ?_
    simp only [chunk_Even.l0, evenS]
    rw [if_pos (toList_nil.2 (by rw [ByteArray.size_extract]; omega)), List.append_nil]
  | succ d ih =>
    intro a out ha ho
    have hz : (s.extract a s.size).size = s.size - a := by rw [ByteArray.size_extract]; omega
    by_cases h : a < s.size
    · refine Ev.step (f := fun k => chunk_Even.l0 k (s.extract (a + min n.toNat (s.size - a)) s.size) n (out ++ [s.extract a (a + min n.toNat (s.size - a))])) (fun k => ?_) ?_
      · simp only [chunk_Even.l0, hz, mn_nat n _ (by omega : (0 : Int) ≤ n)]
        rw [if_neg (fun e => by have := toList_nil.1 e; omega), if_pos (by omega), if_pos (by omega), if_pos (by omega), Int.toNat_natCast, extract2 _ _ _ _ _ (by omega), extract2 _ _ _ _ _ (by omega)]
        rw [show a + (s.size - a) = s.size from by omega]
        rfl
      · have := ih (a + min n.toNat (s.size - a)) (out ++ [s.extract a (a + min n.toNat (s.size - a))]) (by omega) (by rw [List.length_append]; simp; omega)
        unfold evenS
        rw [if_pos h]
        rwa [List.append_assoc, List.singleton_append] at this
    · refine Ev.ret fun k => ?_
      simp only [chunk_Even.l0, evenS]
      rw [if_pos (toList_nil.2 (by omega)), if_neg h, List.append_nil]
theorem even (s : ByteArray) (n : Int) (hn : 1 ≤ n) (hs : s.size < 8796093022200) : Ev (fun k => chunk_Even.f k s n) (evenS s n.toNat (s.size + 1) 0, 0) := by
  have h := even_l0 s n hn (s.size + 1) 0 [] (by omega) (by simp; omega)
  rw [extract_full, List.nil_append] at h
  refine Ev.congr (fun k => ?_) h
  unfold chunk_Even.f
  rw [if_neg (by omega)]
theorem even_bad (s : ByteArray) (n : Int) (hn : n < 1) : Ev (fun k => chunk_Even.f k s n) ([], 2) := by
  refine Ev.const fun k => ?_
  unfold chunk_Even.f
  rw [if_pos hn]
theorem reven_l0 (s : ByteArray) (n : Int) (hn : 1 ≤ n) (hs : s.size < 8796093022200) : ∀ (d a : Nat) (out : List ByteArray), a ≤ s.size → s.size < a + d → out.length + d < 8796093022208 →
    Ev (fun k => juratref06_Even.l0 k s n out (a : Int)) (out ++ evenS s n.toNat d a) := by
  intro d
  induction d with
  | zero => intro a out _ ha; omega
  | succ d ih =>
    intro a out ha hd ho
    have hw : wrap64 ((s.size : Int) - a) = (s.size : Int) - a := wrap_id (by omega) (by omega)
    have hw2 : wrap64 ((a : Int) + ((s.size : Int) - a)) = (s.size : Int) := by rw [wrap_id (by omega) (by omega)]; omega
    by_cases h : a < s.size
    · refine Ev.step (f := fun k => juratref06_Even.l0 k s n (out ++ [s.extract a (a + min n.toNat (s.size - a))]) ((a + min n.toNat (s.size - a) : Nat) : Int)) (fun k => ?_) ?_
      · simp only [juratref06_Even.l0, hw, hw2]
        clear hw hw2
        rw [if_pos (by omega)]
        by_cases h2 : (s.size : Int) - a > n
        · have hw3 : wrap64 ((a : Int) + n) = ((a + min n.toNat (s.size - a) : Nat) : Int) := by rw [wrap_id (by omega) (by omega)]; omega
          rw [hw3]
          clear hw3
          rw [if_pos h2, if_pos (by omega), if_pos (by omega), if_pos (by omega), if_pos (by omega), Int.toNat_natCast, Int.toNat_natCast]
        · have he : a + min n.toNat (s.size - a) = s.size := by omega
          rw [if_neg h2, if_pos (by omega), if_pos (by omega), if_pos (by omega), if_pos (by omega), Int.toNat_natCast, Int.toNat_natCast, he]
      · clear hw hw2
        have := ih (a + min n.toNat (s.size - a)) (out ++ [s.extract a (a + min n.toNat (s.size - a))]) (by omega) (by omega) (by rw [List.length_append]; simp; omega)
        unfold evenS
        rw [if_pos h]
        rwa [List.append_assoc, List.singleton_append] at this
    · clear hw hw2
      refine Ev.ret fun k => ?_
      simp only [juratref06_Even.l0, evenS]
      rw [if_neg (by omega), if_neg h, List.append_nil]
theorem reven (s : ByteArray) (n : Int) (hn : 1 ≤ n) (hs : s.size < 8796093022200) : Ev (fun k => juratref06_Even.f k s n) (evenS s n.toNat (s.size + 1) 0) :=
  reven_l0 s n hn hs (s.size + 1) 0 [] (by omega) (by omega) (by simp; omega)

end Go.Proofs.Ytmkcoobmbjoloaa.Base
