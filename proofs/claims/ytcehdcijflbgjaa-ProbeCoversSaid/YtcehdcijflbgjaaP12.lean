/- The patterns by their last bytes, as plain data; no condition. -/
import Derived.Test.YtcehdcijflbgjaaP10
namespace Go.Proofs.Ytcehdcijflbgjaa.P
open Go Go.RowKit Go.Proofs.Ytcehdcijflbgjaa.Base
set_option linter.unusedVariables false

/-- A text's last byte. -/
def lastN (s : ByteArray) : Nat := ((LL s).getD (s.size - 1) 0).toNat
theorem lastN_lt (s : ByteArray) : lastN s < 256 := UInt8.toNat_lt _
/-- The numbers of the texts that end with a byte, the first one's being i. -/
def bkFrom (c : Nat) : List ByteArray → Nat → List Int
  | [], _ => []
  | s :: l, i => if lastN s = c then (i : Int) :: bkFrom c l (i + 1) else bkFrom c l (i + 1)
def bkOf (c : Nat) (l : List ByteArray) : List Int := bkFrom c l 0
/-- .. and the texts. -/
def bkL (c : Nat) (l : List ByteArray) : List ByteArray := l.filter fun s => decide (lastN s = c)
/-- How long the shortest one is. -/
def minL : List ByteArray → Nat
  | [] => 0
  | s :: l => leastB s.size l
def bkLe (c : Nat) (l : List ByteArray) : Nat := minL (bkL c l)
theorem bkFrom_append (c : Nat) : ∀ (l m : List ByteArray) (i : Nat), bkFrom c (l ++ m) i = bkFrom c l i ++ bkFrom c m (i + l.length)
  | [], m, i => by simp [bkFrom]
  | s :: l, m, i => by
    simp only [List.cons_append, bkFrom, bkFrom_append c l m, List.length_cons]
    rw [show i + 1 + l.length = i + (l.length + 1) by omega]
    split <;> rfl
theorem bkOf_snoc (c : Nat) (l : List ByteArray) (s : ByteArray) : bkOf c (l ++ [s]) = if lastN s = c then bkOf c l ++ [(l.length : Int)] else bkOf c l := by
  unfold bkOf
  rw [bkFrom_append]
  simp only [bkFrom, Nat.zero_add]
  split
  · rfl
  · rw [List.append_nil]
theorem bkFrom_length (c : Nat) : ∀ (l : List ByteArray) (i : Nat), (bkFrom c l i).length = (bkL c l).length
  | [], _ => rfl
  | s :: l, i => by
    unfold bkFrom bkL
    by_cases h : lastN s = c
    · rw [if_pos h, List.filter_cons_of_pos (by simpa using h), List.length_cons, List.length_cons, bkFrom_length c l]
      rfl
    · rw [if_neg h, List.filter_cons_of_neg (by simpa using h), bkFrom_length c l]
      rfl
theorem bkFrom_le (c : Nat) : ∀ (l : List ByteArray) (i : Nat), (bkFrom c l i).length ≤ l.length
  | [], _ => Nat.le_refl _
  | s :: l, i => by
    have := bkFrom_le c l (i + 1)
    simp only [bkFrom]
    split <;> simp <;> omega
theorem bkLe_snoc (c : Nat) (l : List ByteArray) (s : ByteArray) : bkLe c (l ++ [s]) = if lastN s = c then (if (bkOf c l).length = 0 ∨ s.size < bkLe c l then s.size else bkLe c l) else bkLe c l := by
  have hl := bkFrom_length c l 0
  have hl2 : (bkOf c l).length = (bkL c l).length := hl
  rw [hl2]
  unfold bkLe bkL
  rw [List.filter_append]
  by_cases h : lastN s = c
  · rw [if_pos h, List.filter_cons_of_pos (by simpa using h), List.filter_nil]
    cases l.filter (fun s => decide (lastN s = c)) with
    | nil =>
      rw [if_pos (.inl rfl)]
      rfl
    | cons t m =>
      show leastB t.size (m ++ [s]) = _
      unfold leastB
      rw [List.foldl_append]
      show min (List.foldl _ t.size m) s.size = if (t :: m).length = 0 ∨ s.size < List.foldl _ t.size m then s.size else List.foldl _ t.size m
      by_cases h2 : s.size < List.foldl (fun (n : Nat) (s : ByteArray) => min n s.size) t.size m
      · rw [if_pos (.inr h2), Nat.min_eq_right (by omega)]
      · rw [if_neg (by simp; omega), Nat.min_eq_left (by omega)]
  · rw [if_neg h, List.filter_cons_of_neg (by simpa using h), List.filter_nil, List.append_nil]
theorem take_snoc (l : List ByteArray) (j : Nat) (h : j < l.length) : l.take (j + 1) = l.take j ++ [l.getD j ByteArray.empty] := by
  rw [List.take_succ_eq_append_getElem h, List.getD_eq_getElem?_getD, List.getElem?_eq_getElem h]; rfl

end Go.Proofs.Ytcehdcijflbgjaa.P
