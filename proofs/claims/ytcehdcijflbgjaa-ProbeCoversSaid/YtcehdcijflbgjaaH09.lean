/- What layer 9's sorting and searching compute (slices.Clone, slices.SortFunc, slices.BinarySearchFunc with the layer's own compare), of texts of whatever lengths below 2^62 bytes and at most 2^43 of them. -/
import Derived.Below
import Derived.Deep.Draws
import Derived.OwnWalk
import Derived.Tactics
import Derived.WalkKit
import Derived.KernelRfl
import Derived.RowKit3
import Derived.Deep.QuietTactic
import Derived.BigQuiet
import Derived.WideLaws
import Derived.Outline
import Derived.Sort.Grow
import Derived.Test.YtcehdcijflbgjaaShSort
import Derived.Test.YtcehdcijflbgjaaOrd
namespace Go.Proofs.Ytcehdcijflbgjaa.P
open Go Go.RowKit Go.Sort Go.Lib Go.Proofs.YtcehdcijflbgjaaW.PrintWords Go.Proofs.Ytcehdcijflbgjaa.Base
set_option linter.unusedVariables false

/-! ### the compare function, at texts of less than 2^62 bytes -/
abbrev SB := {s : ByteArray // s.size < 4611686018427387904}
instance : Inhabited SB := ⟨⟨ByteArray.empty, by decide⟩⟩
def encS (x : SB) : Value := .string x.1
theorem encS_one : OneCell encS := fun _ => rfl
def cfS (x y : SB) : Int := cmp3 (LL x.1) (LL y.1)
theorem ltS (x y : SB) : ltOf cfS x y = Op.bytesLess (LL x.1) (LL y.1) := cmp3_lt _ _
theorem swoS : SWO (ltOf cfS) :=
  ⟨fun x => by rw [ltS]; exact bl_irrefl _, fun x y z h1 h2 => by rw [ltS] at h1 h2 ⊢; exact bl_trans _ _ _ h1 h2, fun x y z h1 h2 => by rw [ltS] at h1 h2 ⊢; exact bl_ntrans h1 h2⟩
theorem totS : ∀ x y : SB, ltOf cfS x y = false → ltOf cfS y x = false → x = y := fun x y h1 h2 => by
  rw [ltS] at h1 h2
  rcases bl_tri (LL x.1) (LL y.1) with h | h | h
  · exact Subtype.ext (LL_inj h)
  · rw [h1] at h; cases h
  · rw [h2] at h; cases h
theorem compare_calls (x y : ByteArray) (hx : x.size < 4611686018427387904) (w : World) :
    Calls Try.prog 47 #[.string x, .string y] w fun e w' => e = .returned (.int .i64 (cmp3 (LL x) (LL y))) ∧ ∃ q, w' = w.drewN q := by
  obtain ⟨k, hk⟩ := Ev.all (compare_ev x y hx)
  exact (affix_Compare.calls k x y _ w hk).mono fun e w' ⟨h1, h2⟩ => ⟨h1, h2.out⟩
theorem readsS (blk off size : Nat) (w : World) : CmpReads Try.prog 47 #[] encS cfS blk off size w :=
  fun m os dk _ x y => compare_calls x.1 y.1 x.2 _
theorem enterS (args : Array Value) (w : World) : (callFunc 47 args).run Try.prog w = .ok (.enter 47 args) w :=
  enters_of Try.func47 (by kernel_rfl) rfl args w

/-! ### rows -/
theorem row_holds {α : Type} [Inhabited α] {enc : α → Value} {w : World} {g : Nat} {cur : Array Value} {e : TypeId} {ss : List α} (hb : w.heap[g]? = some (.cells cur e (0, 0))) (ht : cur.toList.take ss.length = ss.map enc) : Holds enc w g 0 ss.toArray := by
  intro j hj
  have hj' : j < ss.length := by simpa using hj
  refine ⟨?_, by simp [World.frozen?, hb]⟩
  have h1 : (cur.toList.take ss.length)[j]? = (ss.map enc)[j]? := by rw [ht]
  rw [List.getElem?_take_of_lt hj'] at h1
  simp only [World.cell?, hb, Nat.zero_add]
  simp only [Option.isSome_none, Bool.false_eq_true, if_false]
  rw [← Array.getElem?_toList, h1]
  simp [hj']
theorem row_heap {α : Type} [Inhabited α] {enc : α → Value} {w : World} {g n : Nat} {os : Array Obj} {cur : Array Value} {e : TypeId} {fr : Nat × Nat} (d : Array α) (hb : w.heap[g]? = some (.cells cur e fr)) :
    (grow (putRow enc (Sort.ahead w n) g 0 d) os).heap[g]? = some (.cells (putCells enc 0 d cur) e fr) := by
  have hg : g < w.heap.size := (Array.getElem?_eq_some_iff.1 hb).1
  rw [heap_grow_old _ _ (by simpa [putRow, mapBlock, Sort.ahead] using hg)]
  simp [putRow, mapBlock, Sort.ahead, Array.getElem?_modify, hb, onCells]
theorem row_grown {α : Type} [Inhabited α] {enc : α → Value} {w : World} {g n : Nat} {os : Array Obj} (d : Array α) : w.grownBy (grow (putRow enc (Sort.ahead w n) g 0 d) os) (some g) := by
  refine ⟨rfl, rfl, rfl, by simp [putRow, mapBlock, Sort.ahead], fun k hk hne => ?_⟩
  rw [heap_grow_old _ _ (by simpa [putRow, mapBlock, Sort.ahead] using hk)]
  have : g ≠ k := fun e => hne (by rw [e])
  simp [putRow, mapBlock, Sort.ahead, Array.getElem?_modify, this]
theorem row_take {α : Type} [Inhabited α] {enc : α → Value} (cur : Array Value) (ts : List α) (h : ts.length ≤ cur.size) : (putCells enc 0 ts.toArray cur).toList.take ts.length = ts.map enc := by
  apply List.ext_getElem?
  intro j
  by_cases hj : j < ts.length
  · rw [List.getElem?_take_of_lt hj, Array.getElem?_toList]
    simp [putCells, hj, show j < cur.size by omega]
  · rw [List.getElem?_take_eq_none (by omega), List.getElem?_eq_none (by simp; omega)]

/-! ### sorted -/
def sortB (l : List ByteArray) : List ByteArray := l.mergeSort fun x y => !Op.bytesLess (LL y) (LL x)
abbrev sizedB (l : List ByteArray) : Prop := l.length ≤ 8796093022208 ∧ ∀ s ∈ l, s.size < 4611686018427387904
theorem sortB_length (l : List ByteArray) : (sortB l).length = l.length := List.length_mergeSort _
def affix_Sorted.f (l0 : List ByteArray) : Option (List ByteArray) := if sizedB l0 then some (sortB l0) else none

theorem lift_SB (l : List ByteArray) (h : ∀ s ∈ l, s.size < 4611686018427387904) : ∃ ss : List SB, ss.map Subtype.val = l := ⟨l.attachWith _ h, by simp⟩

theorem sort_row {W : World} {base : Nat} {v : Value} {l : List ByteArray} (hr : W.ownsRow base 9 1 v l.length (l.map Value.string)) (hs : sizedB l) :
    Calls Try.prog 46 #[v, .func (.func 47) #[] #[]] W fun e w' =>
      e = .returned (.tuple #[]) ∧ w'.ownsRow base 9 1 v l.length ((sortB l).map Value.string) ∧ W.grownBy w' v.ownBlock := by
  obtain ⟨ss, rfl⟩ := lift_SB l hs.2
  rcases hr.2 with ⟨rfl, h0⟩ | ⟨g, cap, cur, rfl, hb, hg, hn, hc, hsz, ht⟩
  · have : ss = [] := by rw [List.length_map] at h0; exact List.length_eq_zero_iff.1 h0
    subst this
    refine (Try.slices_SortFunc_none (α := SB) none 0 _ W).mono fun e w' ⟨h1, h2⟩ => ⟨h1, ?_, ?_⟩
    · rw [h2]; simpa [sortB] using hr
    · rw [h2]; exact ⟨rfl, rfl, rfl, Nat.le_refl _, fun _ _ _ => rfl⟩
  · have hlen : (ss.map Subtype.val).length = ss.length := List.length_map _
    rw [hlen] at hn ht hr ⊢
    rw [Nat.mul_one] at ht hsz
    have hmap : (ss.map Subtype.val).map Value.string = ss.map encS := by rw [List.map_map]; rfl
    rw [hmap] at ht
    have hH : Holds encS W g 0 ss.toArray := row_holds hg ht
    have hblk : g < W.heap.size := (Array.getElem?_eq_some_iff.1 hg).1
    have hsd : sortB (ss.map Subtype.val) = (ss.mergeSort fun x y => !(ltOf cfS) y x).map Subtype.val := by
      unfold sortB
      rw [List.map_mergeSort]
      intro a _ b _
      rw [ltS]
    have hL : (ss.mergeSort fun x y => !(ltOf cfS) y x).length = ss.length := List.length_mergeSort _
    have key := Try.slices_SortFunc_total encS encS_one cfS swoS 47 #[] g 0 cap ss.toArray W enterS (readsS g 0 _ W).lays hH hblk (by have := hs.1; rw [hlen] at this; simp; omega) totS
    rw [List.size_toArray] at key
    refine key.mono ?_
    rintro e w' ⟨rfl, n, os, rfl⟩
    refine ⟨rfl, ?_, row_grown _⟩
    rw [hsd, List.map_map]
    refine ⟨by simp, .inr ⟨g, cap, _, rfl, hb, row_heap _ hg, hn, hc, by simp [putCells, hsz], ?_⟩⟩
    rw [Nat.mul_one, ← hL]
    exact row_take cur _ (by rw [hL]; omega)

theorem clone_row {w : World} {A0 : Option Addr} {c0 : Nat} {l : List ByteArray} (hr : Kd.C Kd.string w A0 l.length l) (hn : l.length ≤ 8796093022208) :
    Calls Try.prog 45 #[.slice A0 l.length c0] w fun e w' => ∃ v, e = .returned v ∧ w'.ownsRow w.heap.size 9 1 v l.length (l.map Value.string) ∧ Below w.heap.size w w' := by
  cases A0 with
  | none =>
    have h0 : l.length = 0 := by
      rcases Nat.eq_zero_or_pos l.length with h | h
      · exact h
      · obtain ⟨ad, e, _⟩ := hr.2.2 h
        cases e
    have : l = [] := List.length_eq_zero_iff.1 h0
    subst this
    refine (Try.slices_Clone_string_nil 0 c0 w).mono ?_
    rintro e w' ⟨rfl, rfl⟩
    exact ⟨_, rfl, World.ownsRow_nil _ _ _ _, Below.refl _ _⟩
  | some a =>
    rcases Nat.eq_zero_or_pos l.length with h | h
    · have : l = [] := List.length_eq_zero_iff.1 h
      subst this
      refine (Try.slices_Clone_string_zero a c0 w).mono ?_
      rintro e w' ⟨v, rfl, h1, _, h2⟩
      exact ⟨v, rfl, h1, h2⟩
    · obtain ⟨ad, e, hc⟩ := (Kd.reads_of_C (enc := Value.string) (d := ByteArray.empty) (h1 := fun _ => rfl) hr).2.2 h
      cases e
      have hsp : a.spot = none := by
        have h0 := hc 0 h
        cases hs : a.spot with
        | none => rfl
        | some s =>
          simp only [World.cell?, Addr.add] at h0
          split at h0 <;> simp [hs] at h0
      obtain ⟨b, off, sp⟩ := a
      simp only at hsp
      subst hsp
      refine (Try.slices_Clone_string b off l.length c0 l w (Nat.le_refl _) (by omega) (fun j hj => ?_)).mono ?_
      · have := hc j hj
        rcases j with _ | j <;> simpa [Addr.add] using this
      · rintro e w' ⟨v, rfl, h1, _, h2⟩
        rw [List.take_length] at h1
        exact ⟨v, rfl, h1, h2⟩

set_option maxHeartbeats 800000 in
theorem affix_Sorted.calls (A0 : Option Addr) (c0 : Nat) (l0 : List ByteArray) (r : List ByteArray) (w : World) (hr0 : Kd.C Kd.string w A0 l0.length l0) (hc0 : l0.length ≤ c0) (h : affix_Sorted.f l0 = some r) :
    Calls Try.prog 27 #[.slice A0 l0.length c0] w fun e w' => ∃ v0_ : Value, e = .returned v0_ ∧ Kd.R Kd.string 9 w' w.heap.size (fun _ => True) v0_ r ∧ Below w.heap.size w w' := by
  unfold affix_Sorted.f at h
  by_cases hs : sizedB l0
  · rw [if_pos hs] at h
    obtain rfl := Option.some.inj h
    have hS := Aside0.mk hs
    have h1 := clone_row (c0 := c0) hr0 hs.1
    clear h hr0 hc0 hs
    go_enter Try.func27, Try.ntmps27
    go_wp2_with (go_at_call 45; refine h1.mono ?_; rintro e w1 ⟨v, rfl, hown, hb⟩; have hO := Aside0.mk hown; have hB := Aside0.mk hb; clear hown hb)
    go_wp2_with (go_at_call 46; refine (sort_row hO.out hS.out).mono ?_; rintro e w2 ⟨rfl, hown, hg⟩; have hO2 := Aside0.mk hown; have hG := Aside0.mk hg; clear hown hg)
    go_wp2
    go_ret
    refine ⟨v, rfl, Kd.R_of_own ?_ (fun _ _ => trivial), ?_⟩
    · rw [sortB_length]; exact hO2.out
    · exact hB.out.grown hG.out hB.out.size (fun k hk => (hO.out.lt k hk).1)
  · rw [if_neg hs] at h
    cases h

end Go.Proofs.Ytcehdcijflbgjaa.P
