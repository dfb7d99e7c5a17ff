/- The patterns by their last bytes, in memory: told by 256 rows of numbers and 256 lengths; no condition. -/
import Derived.Test.YtcehdcijflbgjaaOb
import Derived.Test.YtcehdcijflbgjaaP12
namespace Go.Proofs.Ytcehdcijflbgjaa.P
open Go Go.RowKit Go.Proofs.YtcehdcijflbgjaaW.PrintWords

structure BucketD where
  ids : Nat → List Int
  least : Nat → Int
  deriving Inhabited
abbrev D84 := BucketD
def bkCells (v : Nat → Value) (n : Nat → Int) : Array Value := ((List.range 256).map v ++ (List.range 256).map fun c => Value.int .i64 (n c)).toArray
def upAt {α : Type} (f : Nat → α) (c : Nat) (x : α) : Nat → α := fun k => if k = c then x else f k
theorem upAt_same {α : Type} (f : Nat → α) (c : Nat) (x : α) : upAt f c x c = x := if_pos rfl
theorem upAt_other {α : Type} (f : Nat → α) {c k : Nat} (x : α) (h : k ≠ c) : upAt f c x k = f k := if_neg h
theorem map_set {α β : Type} (n : Nat) (f : Nat → α) (g : α → β) (c : Nat) (x : α) (h : c < n) : ((List.range n).map fun k => g (f k)).set c (g x) = (List.range n).map fun k => g (upAt f c x k) := by
  apply List.ext_getElem?
  intro i
  rw [List.getElem?_set]
  by_cases hi : i < n
  · rw [List.getElem?_map, List.getElem?_map, List.getElem?_range hi]
    by_cases hc : c = i
    · subst hc
      rw [if_pos rfl, if_pos (by simpa using h)]
      simp [upAt]
    · rw [if_neg hc]
      simp [upAt, Ne.symm hc]
  · rw [if_neg (by omega), List.getElem?_map, List.getElem?_map, List.getElem?_eq_none (by simpa using hi)]
    rfl
theorem bkCells_ids {v : Nat → Value} {n : Nat → Int} {c : Nat} (h : c < 256) : (bkCells v n)[c]? = some (v c) := by
  unfold bkCells
  rw [List.getElem?_toArray, List.getElem?_append_left (by simpa using h), List.getElem?_map, List.getElem?_range h]
  rfl
theorem bkCells_least {v : Nat → Value} {n : Nat → Int} {c : Nat} (h : c < 256) : (bkCells v n)[256 + c]? = some (.int .i64 (n c)) := by
  unfold bkCells
  rw [List.getElem?_toArray, List.getElem?_append_right (by simp), List.length_map, List.length_range, Nat.add_sub_cancel_left, List.getElem?_map, List.getElem?_range h]
  rfl
theorem bkCells_setids {v : Nat → Value} {n : Nat → Int} {c : Nat} (h : c < 256) (u : Value) : (bkCells v n).setIfInBounds c u = bkCells (upAt v c u) n := by
  unfold bkCells
  rw [List.setIfInBounds_toArray, List.set_append_left _ _ (by simpa using h), show ((List.range 256).map v).set c u = (List.range 256).map (upAt v c u) from map_set 256 v id c u h]
theorem bkCells_setleast {v : Nat → Value} {n : Nat → Int} {c : Nat} (h : c < 256) (x : Int) : (bkCells v n).setIfInBounds (256 + c) (.int .i64 x) = bkCells v (upAt n c x) := by
  unfold bkCells
  rw [List.setIfInBounds_toArray, List.set_append_right _ _ (by simp), List.length_map, List.length_range, Nat.add_sub_cancel_left, map_set 256 n (Value.int .i64) c x h]
def K84 : OBK BucketD where
  R := fun w a d => ∃ b v, a = ⟨b, 0, none⟩ ∧ w.heap[b]? = some (.cells (bkCells v d.least) 84 (0, 0)) ∧ ∀ c, c < 256 → ∃ A m, v c = .slice A (d.ids c).length m ∧ (d.ids c).length ≤ m ∧ Kd.C (Kd.int .i64) w A (d.ids c).length (d.ids c)
  below := by
    rintro w w1 a d h ⟨b, v, rfl, hb, hr⟩
    refine ⟨b, v, rfl, (h.block _ (Array.getElem?_eq_some_iff.1 hb).1).trans hb, fun c hc => ?_⟩
    obtain ⟨A, m, h1, h2, h3⟩ := hr c hc
    exact ⟨A, m, h1, h2, Kd.C_below h3 h⟩
end Go.Proofs.Ytcehdcijflbgjaa.P
