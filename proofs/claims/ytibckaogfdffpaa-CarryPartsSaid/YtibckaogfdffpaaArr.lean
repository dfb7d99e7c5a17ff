/- Arrays inside a struct in memory: their cells, a load of the whole, a place of the value; no condition beyond those in each statement. -/
import Derived.Laws.Rows
import Derived.WalkKit
import Derived.RowKit3
import Derived.Test.YtibckaogfdffpaaWWords
import Derived.Test.YtibckaogfdffpaaWMore
namespace Go.Proofs.Ytibckaogfdffpaa.P
open Go Go.RowKit Go.Proofs.YtibckaogfdffpaaW.PrintWords

/-- Numbers, then one more cell. -/
def arCells (k : IntKind) (f : List Int) (v : Value) : Array Value := (f.map (Value.int k) ++ [v]).toArray
section
variable {k : IntKind} {f : List Int} {v : Value} {n c : Nat}
theorem arCells_at (hl : f.length = n) (hc : c < n) : (arCells k f v)[c]? = some (.int k (f.getD c 0)) := by
  unfold arCells
  rw [List.getElem?_toArray, List.getElem?_append_left (by rw [List.length_map]; omega), List.getElem?_map, List.getD_eq_getElem?_getD, List.getElem?_eq_getElem (by omega)]
  rfl
theorem arCells_last (hl : f.length = n) : (arCells k f v)[n]? = some v := by
  unfold arCells
  rw [List.getElem?_toArray, List.getElem?_append_right (by rw [List.length_map]; omega), List.length_map, hl, Nat.sub_self]
  rfl
theorem arCells_set (hl : f.length = n) (hc : c < n) (x : Int) : (arCells k f v).setIfInBounds c (.int k x) = arCells k (f.set c x) v := by
  unfold arCells
  rw [List.setIfInBounds_toArray, List.set_append_left _ _ (by rw [List.length_map]; omega), List.map_set]
theorem arCells_setlast (hl : f.length = n) (u : Value) : (arCells k f v).setIfInBounds n u = arCells k f u := by
  unfold arCells
  rw [List.setIfInBounds_toArray, List.set_append_right _ _ (by rw [List.length_map]; omega), List.length_map, hl, Nat.sub_self]
  rfl
end
section
variable {P : Program}
theorem run_loadVar_part (w : World) (g : Nat) (ty : TypeId) (cs : Array Value) (d : TypeDesc) (hg : ∀ j v, cs[j]? = some v → w.cell? ⟨g, j, none⟩ = some v)
    (hu : P.underlying ty = some d) (hd : (match d with | .struct _ | .array _ _ => true | _ => false) = true) (hi : (P.info? ty).map (·.size) = some cs.size) :
    (loadVar ty ⟨g, 0, none⟩).run P w = .ok (.agg cs) w := by
  have hl : (loadCells ⟨g, 0, none⟩ cs.toList.length).run P w = .ok cs.toList.toArray w :=
    run_loadCells_list (P := P) w ⟨g, 0, none⟩ cs.toList (fun j v hv => by
      have hadd : (⟨g, 0, none⟩ : Addr).add j = ⟨g, j, none⟩ := by unfold Addr.add; split <;> simp_all
      rw [hadd]
      exact hg j v (by simpa using hv))
  cases hq : P.info? ty with
  | none => simp [hq] at hi
  | some i =>
    have hs : i.size = cs.size := by simpa [hq] using hi
    have hagg : (isAgg ty).run P w = .ok true w := by
      unfold isAgg
      rw [Sem.run_bind, run_underlying hu w]
      cases d <;> simp_all
    simp only [Array.length_toList, Array.toArray_toList] at hl
    simp [loadVar, Sem.run_bind, hagg, sizeOf, typeInfo, hq, hs, hl]
theorem wpList_load_part {ops : Array Oper} {rest : List Oper} {o : Oper} {a : Act} {w : World} {Q : Exit → Act → World → Prop} (hgd : o.guard = none) (ty : TypeId) (x : Operand) (ho : o.op = .load ty x)
    (g : Nat) (hx : a.eval x = .pointer (some ⟨g, 0, none⟩)) (cs : Array Value) (d : TypeDesc) (hg : ∀ j v, cs[j]? = some v → w.cell? ⟨g, j, none⟩ = some v)
    (hu : P.underlying ty = some d) (hd : (match d with | .struct _ | .array _ _ => true | _ => false) = true) (hi : (P.info? ty).map (·.size) = some cs.size)
    (h : wpList P ops Q rest (a.put o.dst (.agg cs)) w) : wpList P ops Q (o :: rest) a w :=
  wpList_plain hgd fun _ hK => by
    unfold Oper.wp execOp
    simp only [ho, hx, Instr.loadAt, Instr.sureAddr, Sem.run_bind, Sem.run_pure, Result.andThen_ok, run_loadVar_part w g ty cs d hg hu hd hi]
    exact hK _ _ h
theorem run_index_agg {T e : TypeId} {len : Nat} (hT : P.underlying T = some (.array len e)) (he : ∀ w, (isAgg e).run P w = .ok false w) (hs : ∀ w, (sizeOf e).run P w = .ok 1 w) {cs : Array Value} {k : Nat} {v : Value} (hk : k < len) (hv : cs[k]? = some v) (w : World) :
    (Instr.index T (.agg cs) (.int .i64 (k : Int))).run P w = .ok v w := by
  unfold Instr.index
  simp only [asIntOf, Sem.run_bind, Sem.run_pure, Result.andThen_ok, run_underlying hT w]
  rw [if_pos ⟨by omega, by omega⟩, Sem.run_bind, hs w]
  simp only [Result.andThen_ok, part, Sem.run_bind, he w, Nat.mul_one, Int.toNat_natCast]
  simp [hv]
end

end Go.Proofs.Ytibckaogfdffpaa.P
