/- Objects: what a pointer leads to, read at a world, told by plain data; it stays so while nothing that was there is written. No condition. -/
import Derived.Test.YtcehdcijflbgjaaWWords
import Derived.Test.YtcehdcijflbgjaaWMore
namespace Go.Proofs.Ytcehdcijflbgjaa.P
open Go Go.RowKit Go.Proofs.YtcehdcijflbgjaaW.PrintWords

/-- What is told of what lies at an address. -/
structure OBK (D : Type) where
  R : World → Addr → D → Prop
  below : ∀ {w w1 : World} {a : Addr} {d : D}, Below w.heap.size w w1 → R w a d → R w1 a d
/-- .. of a pointer, nil or not. -/
def OB {D : Type} (K : OBK D) (w : World) : Option Addr → Option D → Prop
  | none, none => True
  | some a, some d => K.R w a d
  | _, _ => False
section
variable {D : Type} {K : OBK D} {w w1 : World} {p : Option Addr} {o : Option D} {d : D} {a : Addr}
theorem OB.nil (K : OBK D) (w : World) : OB K w none none := trivial
theorem OB.below (h : Below w.heap.size w w1) (k : OB K w p o) : OB K w1 p o := by
  cases p <;> cases o
  · trivial
  · exact k
  · exact k
  · exact K.below h k
theorem OB.drewN (k : OB K w p o) (n : Nat) : OB K (w.drewN n) p o := OB.below (pw_below_drewN (Below.refl _ _) n) k
theorem OB.p_none (k : OB K w p none) : p = none := by
  cases p
  · rfl
  · exact k.elim
theorem OB.p_some (k : OB K w p (some d)) : ∃ a, p = some a := by
  cases p
  · exact k.elim
  · exact ⟨_, rfl⟩
theorem OB.mk (h : K.R w a d) : OB K w (some a) (some d) := h
theorem OB.at (h : OB K w (some a) (some d)) : K.R w a d := h
end
/-- A cell of a block that stays. -/
theorem cell_stays {w w1 : World} (h : Below w.heap.size w w1) {b : Addr} {v : Value} (hc : w.cell? b = some v) : w1.cell? b = some v := pw_cell_below h hc
theorem fold_take {β : Type} (f : β → ByteArray → β) (a : β) (l : List ByteArray) (k : Nat) (h : k < l.length) : (l.take (k + 1)).foldl f a = f ((l.take k).foldl f a) (l.getD k ByteArray.empty) := by
  rw [List.take_succ_eq_append_getElem h, List.foldl_append, List.getD_eq_getElem?_getD, List.getElem?_eq_getElem h]; rfl
/-- A row of the call's own stays where another block is written. -/
theorem R_beside {α : Type} {d : Kd α} {e : Nat} {w : World} {base : Nat} {v : Value} {xs : List α} (h : d.R e w base (fun _ => True) v xs) {b off : Nat} (hp : b < base) (u : Value) : d.R e (w.setCell ⟨b, off, none⟩ u) base (fun _ => True) v xs :=
  Kd.R_mono (Kd.R_far (Kd.R_bound h) (fun k hk => by have := hk.2.1; show k ≠ b; omega) u) (fun _ _ => trivial)
end Go.Proofs.Ytcehdcijflbgjaa.P
