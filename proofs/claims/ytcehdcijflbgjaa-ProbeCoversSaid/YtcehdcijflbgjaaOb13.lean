/- A table of shifts in memory, told by its 256 numbers and its least; no condition. -/
import Derived.Test.YtcehdcijflbgjaaOb
namespace Go.Proofs.Ytcehdcijflbgjaa.P
open Go Go.RowKit Go.Proofs.YtcehdcijflbgjaaW.PrintWords

structure ShiftD where
  first : List Int
  least : Int
  deriving Inhabited
abbrev D86 := ShiftD
def shCells (f : List Int) (m : Int) : Array Value := (f.map (Value.int .i64) ++ [Value.int .i64 m]).toArray
theorem shCells_at {f : List Int} {m : Int} {n c : Nat} (hl : f.length = n) (hc : c < n) : (shCells f m)[c]? = some (.int .i64 (f.getD c 0)) := by
  unfold shCells
  rw [List.getElem?_toArray, List.getElem?_append_left (by rw [List.length_map]; omega), List.getElem?_map, List.getD_eq_getElem?_getD, List.getElem?_eq_getElem (by omega)]
  rfl
theorem shCells_last {f : List Int} {m : Int} {n : Nat} (hl : f.length = n) : (shCells f m)[n]? = some (.int .i64 m) := by
  unfold shCells
  rw [List.getElem?_toArray, List.getElem?_append_right (by rw [List.length_map]; omega), List.length_map, hl, Nat.sub_self]
  rfl
theorem shCells_set {f : List Int} {m : Int} {n c : Nat} (hl : f.length = n) (hc : c < n) (v : Int) : (shCells f m).setIfInBounds c (.int .i64 v) = shCells (f.set c v) m := by
  unfold shCells
  rw [List.setIfInBounds_toArray, List.set_append_left _ _ (by rw [List.length_map]; omega), List.map_set]
theorem shCells_setlast {f : List Int} {m : Int} {n : Nat} (hl : f.length = n) (v : Int) : (shCells f m).setIfInBounds n (.int .i64 v) = shCells f v := by
  unfold shCells
  rw [List.setIfInBounds_toArray, List.set_append_right _ _ (by rw [List.length_map]; omega), List.length_map, hl, Nat.sub_self]
  rfl
def K86 : OBK ShiftD where
  R := fun w a d => ∃ b, a = ⟨b, 0, none⟩ ∧ d.first.length = 256 ∧ w.heap[b]? = some (.cells (shCells d.first d.least) 86 (0, 0))
  below := by
    rintro w w1 a d h ⟨b, rfl, hl, hb⟩
    exact ⟨b, rfl, hl, (h.block _ (Array.getElem?_eq_some_iff.1 hb).1).trans hb⟩
end Go.Proofs.Ytcehdcijflbgjaa.P
