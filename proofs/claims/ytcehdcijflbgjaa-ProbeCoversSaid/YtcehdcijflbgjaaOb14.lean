/- A table of pairs in memory, told by its map's reading and its greatest shift; no condition. -/
import Derived.Test.YtcehdcijflbgjaaProg
import Derived.KernelRfl
import Derived.DeepKeys4
import Derived.Test.YtcehdcijflbgjaaOb
import Derived.Test.YtcehdcijflbgjaaP14
namespace Go.Proofs.Ytcehdcijflbgjaa.P
open Go Go.RowKit Go.Maps Go.WideMaps Go.Proofs.YtcehdcijflbgjaaW.PrintWords

structure PairD where
  near : DataW Unit
  far : Int
instance : Inhabited PairD := ⟨⟨.map [], 0⟩⟩
abbrev D89 := PairD
/-- The map's block, read. -/
abbrev ownsP (w : World) (bm n : Nat) (D : DataW Unit) : Prop := w.ownsMap Try.prog 90 (plainElem Try.prog 3) bm n D
theorem ownsP_below {w w1 : World} {bm n : Nat} {D : DataW Unit} (h : ownsP w bm n D) (hb : Below w.heap.size w w1) : ownsP w1 bm n D := by
  obtain ⟨es, clock, h1, h2⟩ := h
  exact ⟨es, clock, (hb.block _ (Array.getElem?_eq_some_iff.1 h1).1).trans h1, h2⟩
def K89 : OBK PairD where
  R := fun w a d => ∃ b bm n, a = ⟨b, 0, none⟩ ∧ w.cell? ⟨b, 0, none⟩ = some (.map (some bm)) ∧ w.cell? ⟨b, 1, none⟩ = some (.int .i64 d.far) ∧ ownsP w bm n d.near
  below := by
    rintro w w1 a d h ⟨b, bm, n, rfl, h0, h1, h2⟩
    exact ⟨b, bm, n, rfl, cell_stays h h0, cell_stays h h1, ownsP_below h2 h⟩
theorem arr14 : ArrKey Try.prog 90 5 2 := ⟨Try.underlying90, by kernel_rfl, by kernel_rfl, by kernel_rfl⟩
theorem laidOut14 : laidOutB Try.prog = true := by kernel_rfl
theorem sz14 : ∃ m, Try.prog.types.size = m + 1 := ⟨Try.prog.types.size - 1, by kernel_rfl⟩
theorem law14 : Keyed Try.prog 90 := Keyed.of_law (deep_law_laid laidOut14 (m := 2) (by omega) (of_decide_eq_true (by kernel_rfl)) (by kernel_rfl) (by kernel_rfl))
theorem wf_u8 (x : UInt8) : (Lit.int .u8 (x.toNat : Int)).wf = true := by
  have := UInt8.toNat_lt x
  simp [Lit.wf, IntKind.min, IntKind.max, IntKind.signed, IntKind.bits]
  omega
theorem key14 (x y : UInt8) : keyOf Try.prog 90 (.agg #[.int .u8 (x.toNat : Int), .int .u8 (y.toNat : Int)]) = some (key2 (x.toNat : Int) (y.toNat : Int)) := keyOf_pair arr14 Try.underlying5 sz14 (wf_u8 x) (wf_u8 y)
theorem key14' {a b : Int} (ha : 0 ≤ a ∧ a ≤ 255) (hb : 0 ≤ b ∧ b ≤ 255) : keyOf Try.prog 90 (.agg #[.int .u8 a, .int .u8 b]) = some (key2 a b) := keyOf_pair arr14 Try.underlying5 sz14 (by simp [Lit.wf, IntKind.min, IntKind.max, IntKind.signed, IntKind.bits]; omega) (by simp [Lit.wf, IntKind.min, IntKind.max, IntKind.signed, IntKind.bits]; omega)
theorem zero14 (w : World) : (zeroValue 3).run Try.prog w = .ok (.int .i64 0) w := by kernel_rfl
theorem key2_inj {a b a' b' : UInt8} (h : key2 (a.toNat : Int) (b.toNat : Int) = key2 (a'.toNat : Int) (b'.toNat : Int)) : a = a' ∧ b = b' := by
  have := law14.inj (key14 a b) (by rw [h]; exact key14 a' b')
  injection this with this
  have h1 : ((a.toNat : Nat) : Int) = a'.toNat := by
    have := congrArg (fun x : Array Value => x[0]?) this
    simpa using this
  have h2 : ((b.toNat : Nat) : Int) = b'.toNat := by
    have := congrArg (fun x : Array Value => x[1]?) this
    simpa using this
  exact ⟨UInt8.toNat_inj.1 (by omega), UInt8.toNat_inj.1 (by omega)⟩
end Go.Proofs.Ytcehdcijflbgjaa.P
