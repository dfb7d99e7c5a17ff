/- Hits sorted: slices.SortFunc at layer 15's order, of a row that the call made. -/
import Derived.Test.YtekdmkdidnnpbaaH15o
import Derived.Test.YtekdmkdidnnpbaaH09
import Derived.Test.YtekdmkdidnnpbaaShHit
namespace Go.Proofs.Ytekdmkdidnnpbaa.P
open Go Go.RowKit Go.Sort Go.Lib Go.Proofs.YtekdmkdidnnpbaaW.PrintWords Go.Proofs.Ytekdmkdidnnpbaa.Base
set_option linter.unusedVariables false

abbrev HitS := S23
def encH (x : HitS) : List Value := [.int .i64 x.f0, .int .i64 x.f1]
instance : Inhabited HitS := ⟨⟨0, 0⟩⟩
def cfH (x y : HitS) : Int := if cmpI x.f0 y.f0 ≠ 0 then cmpI x.f0 y.f0 else cmpI x.f1 y.f1
/-- Is a hit ahead of another one? -/
def lessH (x y : HitS) : Bool := decide (x.f0 < y.f0 ∨ x.f0 = y.f0 ∧ x.f1 < y.f1)
theorem ltH (x y : HitS) : ltOf cfH x y = lessH x y := by
  unfold ltOf lessH cfH cmpI
  rw [decide_eq_decide]
  by_cases h1 : x.f0 < y.f0
  · simp [h1]
  · by_cases h2 : y.f0 < x.f0
    · simp [h1, h2, show ¬ x.f0 = y.f0 by omega]
    · have h3 : x.f0 = y.f0 := by omega
      by_cases h4 : x.f1 < y.f1
      · simp [h3, h4]
      · by_cases h5 : y.f1 < x.f1
        · simp [h3, h4, h5]
        · simp [h3, h4, h5]
theorem lessH_iff {x y : HitS} : lessH x y = true ↔ (x.f0 < y.f0 ∨ x.f0 = y.f0 ∧ x.f1 < y.f1) := decide_eq_true_iff
theorem lessH_not {x y : HitS} : lessH x y = false ↔ ¬ (x.f0 < y.f0 ∨ x.f0 = y.f0 ∧ x.f1 < y.f1) := decide_eq_false_iff_not
theorem swoH : SWO (ltOf cfH) :=
  ⟨fun x => by rw [ltH, lessH_not]; omega, fun x y z h1 h2 => by rw [ltH, lessH_iff] at h1 h2 ⊢; omega, fun x y z h1 h2 => by rw [ltH, lessH_not] at h1 h2 ⊢; omega⟩
theorem totH : ∀ x y : HitS, ltOf cfH x y = false → ltOf cfH y x = false → x = y := fun x y h1 h2 => by
  rw [ltH, lessH_not] at h1 h2
  obtain ⟨x0, x1⟩ := x
  obtain ⟨y0, y1⟩ := y
  simp only at h1 h2
  rw [show x0 = y0 by omega, show x1 = y1 by omega]
theorem grow_of {w w' : World} (h : Below w.heap.size w w') (hd : w.drawn ≤ w'.drawn) : ∃ q os, w' = grow (w.drewN q) os := by
  refine ⟨w'.drawn - w.drawn, w'.heap.extract w.heap.size w'.heap.size, ?_⟩
  have h1 := h.os
  have h2 := h.tape
  have h3 := h.output
  have h4 := h.size
  have h5 := h.block
  obtain ⟨⟩ := w
  obtain ⟨⟩ := w'
  simp only [grow, World.drewN] at *
  subst h1 h2 h3
  congr 1
  · apply Array.ext_getElem?
    intro i
    rw [Array.getElem?_append]
    split
    · exact h5 i (by assumption)
    · rw [Array.getElem?_extract]
      split
      · congr 1; omega
      · rw [Array.getElem?_eq_none (by omega)]
  · omega
theorem laysH (blk off size : Nat) (w : World) : CmpLays Try.prog 15 #[] encH 2 cfH blk off size w := fun m os dk _ x y => by
  refine Calls.mono (occ_Order.calls2 x.f0 x.f1 y.f0 y.f1 (cfH x y) _ rfl) ?_
  rintro e w' ⟨rfl, hb, hd⟩
  exact ⟨rfl, grow_of hb hd⟩
theorem enterH (args : Array Value) (w : World) : (callFunc 15 args).run Try.prog w = .ok (.enter 15 args) w :=
  enters_of Try.func15 (by kernel_rfl) rfl args w

/-! ### rows of hits, flat -/
def flatH : List HitS → List Value
  | [] => []
  | x :: l => .int .i64 x.f0 :: .int .i64 x.f1 :: flatH l
theorem flatH_length : ∀ l, (flatH l).length = l.length * 2
  | [] => rfl
  | x :: l => by simp only [flatH, List.length_cons]; rw [flatH_length l]; omega
theorem flatH_append : ∀ a b, flatH (a ++ b) = flatH a ++ flatH b
  | [], b => rfl
  | x :: a, b => by simp only [List.cons_append, flatH]; rw [flatH_append a b]
theorem flatH_at : ∀ (l : List HitS) (j : Nat) (x : HitS), l[j]? = some x → ((flatH l).drop (j * 2)).take 2 = [.int .i64 x.f0, .int .i64 x.f1]
  | [], j, x, h => by simp at h
  | y :: l, 0, x, h => by
    simp at h
    subst h
    rfl
  | y :: l, j + 1, x, h => by
    rw [show (j + 1) * 2 = (j * 2) + 1 + 1 by omega]
    exact flatH_at l j x (by simpa using h)
theorem flat_is (l : List HitS) : flatK encH 2 l.toArray = (flatH l).toArray := by
  apply Array.ext_getElem?
  intro t
  by_cases h : t < l.length * 2
  · have hx : l[t / 2]? = some (l[t / 2]'(by omega)) := List.getElem?_eq_getElem (by omega)
    have h1 := flatH_at l (t / 2) _ hx
    have h2 : ((List.drop (t / 2 * 2) (flatH l)).take 2)[t % 2]? = [Value.int .i64 (l[t / 2]'(by omega)).f0, .int .i64 (l[t / 2]'(by omega)).f1][t % 2]? := by rw [h1]
    rw [List.getElem?_take_of_lt (by omega), List.getElem?_drop, show t / 2 * 2 + t % 2 = t by omega] at h2
    have h5 : (flatH l).toArray[t]? = (flatH l)[t]? := by simp
    rw [h5, h2]
    have h3 : (flatK encH 2 l.toArray)[t]? = some ((flatK encH 2 l.toArray)[t]!) := by
      rw [Array.getElem?_eq_getElem (by simpa using h), getElem!_pos _ _ (by simpa using h)]
    rw [h3, get_flatK _ _ _ _ (by simpa using h)]
    have h4 : l.toArray[t / 2]! = l[t / 2]'(by omega) := by
      rw [getElem!_pos _ _ (by simpa using (by omega : t / 2 < l.length))]
      rfl
    rw [h4]
    have : t % 2 = 0 ∨ t % 2 = 1 := by omega
    rcases this with e | e <;> rw [e] <;> rfl
  · rw [Array.getElem?_eq_none (by simpa using (by omega : l.length * 2 ≤ t)), show (flatH l).toArray[t]? = (flatH l)[t]? by simp, List.getElem?_eq_none (by rw [flatH_length]; omega)]
theorem own_hits {w : World} {base : Nat} {ok : Nat → Prop} {v : Value} {l : List HitS} (h : Kd.R k23 23 w base ok v l) : w.ownsRow base 23 2 v l.length (flatH l) := by
  obtain ⟨_, inner, ho, hr⟩ := h
  have : inner = flatH l := by
    apply List.ext_getElem?
    intro t
    by_cases ht : t < l.length * 2
    · have hx : l[t / 2]? = some (l[t / 2]'(by omega)) := List.getElem?_eq_getElem (by omega)
      have h1 := k23_openM (hr.2 (t / 2) _ hx)
      have h2 := flatH_at l (t / 2) _ hx
      have h3 : (inner.drop (t / 2 * 2)).take 2 = ((flatH l).drop (t / 2 * 2)).take 2 := h1.trans h2.symm
      have h4 : ((inner.drop (t / 2 * 2)).take 2)[t % 2]? = (((flatH l).drop (t / 2 * 2)).take 2)[t % 2]? := by rw [h3]
      rw [List.getElem?_take_of_lt (by omega), List.getElem?_take_of_lt (by omega), List.getElem?_drop, List.getElem?_drop, show t / 2 * 2 + t % 2 = t by omega] at h4
      exact h4
    · have h1 : inner.length = l.length * 2 := hr.1
      rw [List.getElem?_eq_none (by omega), List.getElem?_eq_none (by rw [flatH_length]; omega)]
  rw [← this]
  exact ho
theorem hits_own {w : World} {base : Nat} {ok : Nat → Prop} {v : Value} {l : List HitS} (h : w.ownsRow base 23 2 v l.length (flatH l)) (hok : ∀ k, v.ownBlock = some k → ok k) : Kd.R k23 23 w base ok v l :=
  ⟨hok, flatH l, h, flatH_length l, fun j x hx => by
    show k23.M _ _ _ x (((flatH l).drop (j * 2)).take 2)
    rw [flatH_at l j x hx]
    exact k23_mkM _ _ _ x⟩

/-- Hits, sorted. -/
def sortH (l : List HitS) : List HitS := l.mergeSort fun x y => !(ltOf cfH) y x
theorem sortH_length (l : List HitS) : (sortH l).length = l.length := List.length_mergeSort _
theorem sort_hits {W : World} {base : Nat} {ok : Nat → Prop} {v : Value} {l : List HitS} (hr : Kd.R k23 23 W base ok v l) (hs : l.length ≤ 8796093022208) :
    Calls Try.prog 65 #[v, .func (.func 15) #[] #[]] W fun e w' =>
      e = .returned (.tuple #[]) ∧ Kd.R k23 23 w' base ok v (sortH l) ∧ W.grownBy w' v.ownBlock := by
  have hok := hr.1
  have ho := own_hits hr
  clear hr
  rcases ho.2 with ⟨rfl, h0⟩ | ⟨g, cap, cur, rfl, hb, hg, hn, hc, hsz, ht⟩
  · have : l = [] := List.length_eq_zero_iff.1 h0
    subst this
    refine (AnyF.slices_SortFunc_none Try.laysHit none 0 _ W).mono fun e w' ⟨h1, h2⟩ => ⟨h1, ?_, ?_⟩
    · rw [h2, show sortH ([] : List HitS) = [] by simp [sortH]]; exact hits_own ho hok
    · rw [h2]; exact ⟨rfl, rfl, rfl, Nat.le_refl _, fun _ _ _ => rfl⟩
  · have hfl := flatH_length l
    rw [← hfl] at ht
    have hH : HoldsK encH 2 W g 0 l.toArray := by
      unfold HoldsK
      rw [flat_is]
      exact row_holds hg (by rw [ht, List.map_id])
    have hblk : g < W.heap.size := (Array.getElem?_eq_some_iff.1 hg).1
    have key := AnyQ.slices_SortFunc_total Try.laysHit 2 Try.isAgg23 Try.sizeOf23 encH (fun _ => rfl) (fun x u hu => by
      simp only [encH, List.mem_cons, List.not_mem_nil, or_false] at hu
      rcases hu with rfl | rfl <;> rfl) cfH swoH 15 #[] g 0 cap l.toArray W enterH (laysH g 0 _ W) hH hblk (by simp; omega) totH
    rw [List.size_toArray] at key
    refine key.mono ?_
    rintro e w' ⟨rfl, n, os, rfl⟩
    have e1 : (sortWorldK encH 2 W g 0 n (l.mergeSort fun x y => !(ltOf cfH) y x).toArray os) = grow (putRow id (Sort.ahead W n) g 0 (flatH (sortH l)).toArray) os := by
      unfold sortWorldK putRowK
      rw [flat_is]
      rfl
    have hfs := flatH_length (sortH l)
    have hls := sortH_length l
    refine ⟨rfl, ?_, ?_⟩
    · show Kd.R _ _ (sortWorldK encH 2 W g 0 n (l.mergeSort fun x y => !(ltOf cfH) y x).toArray os) _ _ _ _
      rw [e1]
      refine hits_own ?_ hok
      rw [hls]
      refine ⟨by omega, .inr ⟨g, cap, _, rfl, hb, row_heap _ hg, hn, hc, by simp [putCells, hsz], ?_⟩⟩
      have := row_take (enc := id) cur (flatH (sortH l)) (by rw [hfs, hls, hsz]; exact Nat.mul_le_mul_right 2 hn)
      rw [List.map_id, hfs, hls] at this
      exact this
    · show World.grownBy _ (sortWorldK encH 2 W g 0 n (l.mergeSort fun x y => !(ltOf cfH) y x).toArray os) _
      rw [e1]
      exact row_grown _

end Go.Proofs.Ytekdmkdidnnpbaa.P
