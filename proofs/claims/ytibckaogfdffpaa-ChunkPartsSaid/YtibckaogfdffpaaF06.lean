/- What goes through parts, each with how many bytes stand ahead of it: an iterator of two values; for all parts. -/
import Derived.Sort.QuietIn
import Derived.Sort.LoopGhostIn
import Derived.RangeFuncBox
import Derived.RangeFuncLeaves
import Derived.RangeFuncNested
import Derived.RangeFuncWrites
import Derived.Shelf.Abstract
import Derived.WalkKit
import Derived.KernelRfl
import Derived.RowKit3
import Derived.OwnWalkIn
import Derived.TacticsInMore
import Derived.LoopNIn
import Derived.LoopIn
import Derived.Outline
import Derived.Test.YtibckaogfdffpaaBase
import Derived.Test.YtibckaogfdffpaaPx0
namespace Go.Proofs.Ytibckaogfdffpaa.P
open Go Go.RowKit Go.Proofs.YtibckaogfdffpaaW.PrintWords Go.Proofs.Ytibckaogfdffpaa.Base
set_option linter.unusedVariables false
set_option linter.unusedSimpArgs false

attribute [local go_sem] Oper.semAt_some

/-- How many bytes parts have. -/
def sumS : List ByteArray → Nat
  | [] => 0
  | s :: l => s.size + sumS l
theorem sumS_append : ∀ (a b : List ByteArray), sumS (a ++ b) = sumS a + sumS b
  | [], b => by simp [sumS]
  | s :: a, b => by simp only [List.cons_append, sumS, sumS_append a b]; omega
theorem sumS_take (l : List ByteArray) (k : Nat) (h : k < l.length) : sumS (l.take (k + 1)) = sumS (l.take k) + (l.getD k ByteArray.empty).size := by
  rw [List.take_succ_eq_append_getElem h, sumS_append, List.getD_eq_getElem?_getD, List.getElem?_eq_getElem h]
  simp [sumS]
theorem sumS_le (l : List ByteArray) (k : Nat) : sumS (l.take k) ≤ sumS l := by
  have h := sumS_append (l.take k) (l.drop k)
  rw [List.take_append_drop] at h
  omega
/-- What comes at round k, and in the first k rounds. -/
def partAt (l : List ByteArray) (k : Nat) : Int × ByteArray := ((sumS (l.take k) : Nat), l.getD k ByteArray.empty)
def partsTo (l : List ByteArray) (k : Nat) : List (Int × ByteArray) := (List.range k).map (partAt l)
theorem partsTo_succ (l : List ByteArray) (k : Nat) : partsTo l (k + 1) = partsTo l k ++ [partAt l k] := by simp [partsTo, List.range_succ]
theorem partsTo_length (l : List ByteArray) (k : Nat) : (partsTo l k).length = k := by simp [partsTo]
theorem partsTo_take (l : List ByteArray) {k n : Nat} (h : k ≤ n) : (partsTo l n).take k = partsTo l k := by
  unfold partsTo
  rw [← List.map_take, List.take_range, Nat.min_eq_left h]
theorem partsTo_prefix {l : List ByteArray} {n : Nat} {pre : List (Int × ByteArray)} : pre <+: partsTo l n ↔ pre.length ≤ n ∧ pre = partsTo l pre.length := by
  constructor
  · intro h
    have h1 := h.length_le
    rw [partsTo_length] at h1
    refine ⟨h1, ?_⟩
    have h2 := List.prefix_iff_eq_take.1 h
    rw [partsTo_take l h1] at h2
    exact h2
  · rintro ⟨h1, h2⟩
    rw [h2, ← partsTo_take l h1]
    exact List.take_prefix _ _
theorem partsTo_snoc {l : List ByteArray} {n : Nat} {pre : List (Int × ByteArray)} {x : Int × ByteArray} (h : pre ++ [x] <+: partsTo l n) : x = partAt l pre.length ∧ pre <+: partsTo l n := by
  obtain ⟨h1, h2⟩ := partsTo_prefix.1 h
  rw [List.length_append, List.length_singleton, partsTo_succ] at h2
  obtain ⟨h3, h4⟩ := List.append_inj' h2 rfl
  refine ⟨by simpa using h4, partsTo_prefix.2 ⟨by rw [List.length_append] at h1; omega, h3⟩⟩

/-- All blocks below N lie as they lay, but some. -/
def Spare (X : Nat → Prop) (N : Nat) (W W' : World) : Prop := W.heap.size ≤ W'.heap.size ∧ ∀ k, k < N → ¬ X k → W'.heap[k]? = W.heap[k]?
theorem Spare.refl (X : Nat → Prop) (N : Nat) (W : World) : Spare X N W W := ⟨Nat.le_refl _, fun _ _ _ => rfl⟩
theorem Spare.trans {X : Nat → Prop} {N : Nat} {A B C : World} (h : Spare X N A B) (k : Spare X N B C) : Spare X N A C := ⟨Nat.le_trans h.1 k.1, fun i hi hx => (k.2 i hi hx).trans (h.2 i hi hx)⟩
theorem Spare.boxed {X : Nat → Prop} {N : Nat} {A B : World} (h : Spare X N A B) {b : Nat} {t : TypeId} {v : Value} (hb : Boxed A b t v) (hN : b < N) (hx : ¬ X b) : Boxed B b t v := (h.2 b hN hx).trans hb
theorem Spare.cell {X : Nat → Prop} {N : Nat} {A B : World} (h : Spare X N A B) {a : Addr} {v : Value} (hN : a.block < N) (hx : ¬ X a.block) (hc : A.cell? a = some v) : B.cell? a = some v := by
  rw [← hc]
  unfold World.cell?
  rw [h.2 a.block hN hx]
theorem Spare.set {X : Nat → Prop} {N : Nat} {A B : World} (h : Spare X N A B) {p : Addr} (hp : X p.block) (u : Value) : Spare X N A (B.setCell p u) := ⟨by rw [World.size_setCell]; exact h.1, fun k hk hx => (Below.heap_setCell _ _ _ k (fun e => hx (e ▸ hp))).trans (h.2 k hk hx)⟩
theorem Spare.putObj {X : Nat → Prop} {N : Nat} {A B : World} (h : Spare X N A B) {l : Nat} (hl : N ≤ l) (hs : l < B.heap.size) (o : Obj) : Spare X N A (B.putObj l o) := by
  have hg := grownBy_putObj' B l o
  refine ⟨Nat.le_trans h.1 hg.size, fun k hk hx => (hg.block k ?_ (fun e => by cases e; omega)).trans (h.2 k hk hx)⟩
  omega
theorem ownFrom_spare {β : Type} {X : Nat → Prop} {N B : Nat} {w₀ : World} (hN : N ≤ w₀.heap.size) (hB : N ≤ B) : OwnFrom B (fun (_ : β) W => Spare X N w₀ W) := fun _ W W' _ hs hg hr =>
  ⟨Nat.le_trans hs.1 hg.size, fun k hk hx => (hg.block k (by have := hs.1; omega) (fun e => by have := (hr k e.symm).1; omega)).trans (hs.2 k hk hx)⟩
theorem spare_t {X : Nat → Prop} {N : Nat} {A B C : World} (h : Spare X N A B) (k : Spare X N B C) : Spare X N A C := h.trans k
theorem spare_b {X : Nat → Prop} {N M : Nat} (hN : N ≤ M) (W : World) (l : Nat) (o o' : Obj) (h : M ≤ l) (ho : W.heap[l]? = some o) (_ : o.isCells = false) (_ : o.isWalk = false) : Spare X N W (W.putObj l o') :=
  (Spare.refl X N W).putObj (Nat.le_trans hN h) (Array.getElem?_eq_some_iff.1 ho).1 o'

set_option maxRecDepth 100000 in
set_option maxHeartbeats 4000000 in
theorem all1_in (n : Nat) (hn : 1 ≤ n) (y Bl N cap : Nat) (X : Nat → Prop) (A : Option Addr) (l : List ByteArray) (hreach : l.length ≤ 1099511627776) (hsum : sumS l ≤ 1099511627776) (J Jx : List (Int × ByteArray) → World → Prop)
    (hY : ∀ pre x W, J pre W → pre.length < l.length → YieldAt Fence.wide (n - 1) Try.prog y #[.int .i64 x.1, .string x.2] W fun e W' =>
      (e = .returned (.bool true) ∧ J (pre ++ [x]) W' ∧ Spare X N W W') ∨ (e = .returned (.bool false) ∧ Jx (pre ++ [x]) W'))
    (W : World) (hBl : W.cell? ⟨Bl, 0, none⟩ = some (.slice A l.length cap))
    (hA : 0 < l.length → ∃ ad : Addr, A = some ad ∧ ad.block < N ∧ ¬ X ad.block ∧ ∀ j, j < l.length → W.cell? (ad.add j) = some (.string (l.getD j ByteArray.empty))) (h0 : J [] W) :
    CallsIn Fence.wide n Try.prog 26 #[.func (.yield y) #[] #[], .pointer (some ⟨Bl, 0, none⟩)] W fun e W' => (∃ v, e = .returned v) ∧
      ((∃ ys, ys = partsTo l l.length ∧ J ys W') ∨ (∃ pre, (∃ k, k ≤ l.length ∧ pre = partsTo l k) ∧ Jx pre W')) := by
  refine callsIn_of_wp Try.func26 rfl trivial ?_ rfl
  simp only [Try.ntmps26, List.size_toArray, List.length_cons, List.length_nil, Nat.reduceAdd, Nat.reduceSub, Array.replicate_succ, Array.replicate_zero, List.push_toArray, List.append_toArray, List.nil_append, List.cons_append]
  gi_wp2
  gi_loopg [3, 8] l.length (fun kx at_ i wr => ∃ k : Nat, k ≤ l.length ∧ l.length - k ≤ kx ∧ i = .int .i64 k ∧ at_ = .int .i64 (sumS (l.take k) : Nat) ∧ J (partsTo l k) wr ∧ Spare X N W wr)
  case atStart => exact ⟨0, Nat.zero_le _, by omega, rfl, rfl, h0, Spare.refl _ _ _⟩
  case round =>
    obtain ⟨k, hk, hkx, rfl, rfl, hJs, hnx⟩ := hrel
    by_cases hlt : k < l.length
    · obtain ⟨ad, rfl, hadb, hadx, hcx⟩ := hA (by omega)
      have hcx' : wr.cell? (ad.add k) = some (.string (l.getD k ByteArray.empty)) := hnx.cell (a := ad.add k) (by unfold Addr.add; split <;> exact hadb) (by unfold Addr.add; split <;> exact hadx) (hcx k hlt)
      have htk := sumS_take l k hlt
      have hle := sumS_le l (k + 1)
      obtain ⟨fn, tmps, assign, body, hy, hR⟩ := hY _ (partAt l k) wr hJs (by rw [partsTo_length]; exact hlt)
      have HPS := Aside0.mk (show partsTo l (k + 1) = partsTo l k ++ [(((sumS (l.take k) : Nat) : Int), l.getD k ByteArray.empty)] from partsTo_succ l k)
      have HTK := Aside0.mk htk
      have hb1 : sumS (l.take k) + (l.getD k ByteArray.empty).size ≤ 1099511627776 := by omega
      unfold partAt at hy hR
      have HR := Aside0.mk hR
      clear htk hle hcx hR
      generalize l.getD k ByteArray.empty = s at *
      generalize sumS (l.take k) = m at *
      gi_wp2
      refine HR.out.mono ?_
      rintro e W3 (⟨rfl, hJ3, hk3⟩ | ⟨rfl, hJx3⟩)
      · gi_wp2
        gi_roundg (l.length - (k + 1))
        case measure => omega
        case rel => exact ⟨k + 1, by omega, Nat.le_refl _, by go_num, by rw [HTK.out]; go_num, by rw [HPS.out]; exact hJ3, hnx.trans hk3⟩
      · gi_wp2
        refine bodyPost_ret (results_none rfl _ _ _) rfl ?_
        exact ⟨⟨_, rfl⟩, .inr ⟨_, ⟨k + 1, by omega, HPS.out.symm⟩, hJx3⟩⟩
    · obtain rfl : k = l.length := by omega
      gi_wp2
      go_end0
      exact ⟨⟨_, rfl⟩, .inl ⟨_, rfl, hJs⟩⟩
set_option maxHeartbeats 1000000 in
theorem all_in (n : Nat) (A : Option Addr) (len cap : Nat) (w : World) :
    CallsIn Fence.wide n Try.prog 20 #[.slice A len cap] w fun e w' => e = .returned (.func (.func 26) #[] #[.pointer (some ⟨w.heap.size, 0, none⟩)]) ∧ w' = w.alloc (.cells #[.slice A len cap] 35) := by
  refine callsIn_of_wp Try.func20 rfl trivial ?_ rfl
  simp only [Try.ntmps20, List.size_toArray, List.length_cons, List.length_nil, Nat.reduceAdd, Nat.reduceSub, Array.replicate_succ, Array.replicate_zero, List.push_toArray, List.append_toArray, List.nil_append, List.cons_append]
  gi_wp2
  go_ret
  exact ⟨rfl, rfl⟩
/-- All goes through the parts in order, as far as it is let. -/
theorem all_stops (n : Nat) (hn : 1 ≤ n) (Bl N cap : Nat) (X : Nat → Prop) (A : Option Addr) (l : List ByteArray) (hreach : l.length ≤ 1099511627776) (hsum : sumS l ≤ 1099511627776) (w : World) (hBs : Bl < w.heap.size) (hN : N ≤ w.heap.size)
    (hBl : w.cell? ⟨Bl, 0, none⟩ = some (.slice A l.length cap))
    (hA : 0 < l.length → ∃ ad : Addr, A = some ad ∧ ad.block < N ∧ ¬ X ad.block ∧ ∀ j, j < l.length → w.cell? (ad.add j) = some (.string (l.getD j ByteArray.empty))) :
    SeqStopsK Fence.wide n Try.prog 26 #[.pointer (some ⟨Bl, 0, none⟩)] (fun x : Int × ByteArray => #[Value.int .i64 x.1, .string x.2]) (Spare X N) (fun ys => ys = partsTo l l.length) (fun pre => pre <+: partsTo l l.length) l.length w := fun y J Jx W hW hJ _ hY h0 => by
  refine (all1_in n hn y Bl N cap X A l hreach hsum J Jx hY W ((hW.cell (p := ⟨Bl, 0, none⟩) hBs).trans hBl)
    (fun h => by obtain ⟨ad, e, h1, h2, h3⟩ := hA h; exact ⟨ad, e, h1, h2, fun j hj => (hW.cell (p := ad.add j) (by unfold Addr.add; split <;> (show ad.block < w.heap.size; omega))).trans (h3 j hj)⟩) h0).mono ?_
  rintro e W' ⟨he, ⟨ys, rfl, hj⟩ | ⟨pre, ⟨k, hk, rfl⟩, hj⟩⟩
  · exact ⟨he, .inl ⟨_, rfl, hj⟩⟩
  · exact ⟨he, .inr ⟨_, by rw [← partsTo_take l hk]; exact List.take_prefix _ _, hj⟩⟩

end Go.Proofs.Ytibckaogfdffpaa.P
