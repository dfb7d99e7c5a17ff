/- The table of pairs as plain data: how a set's neighbouring bytes fill it; no condition. -/
import Derived.Maps.Own
import Derived.Maps.Views
import Derived.Maps.OwnSet
import Derived.WideKeyPair
import Derived.Test.YtcehdcijflbgjaaBase
namespace Go.Proofs.Ytcehdcijflbgjaa.P
open Go Go.RowKit Go.Maps Go.Proofs.Ytcehdcijflbgjaa.Base
set_option linter.unusedVariables false

/-- Two bytes as a map's key. -/
def key2 (a b : Int) : Lit := .string (keyBytes [.int .u8 a, .int .u8 b])
def pB (s : ByteArray) (d : Nat) : UInt8 := (LL s).getD (s.size - 1 - d) 0
/-- The two bytes at a distance from a text's end. -/
def prK (s : ByteArray) (d : Nat) : Lit := key2 ((pB s (d + 1)).toNat : Int) ((pB s d).toNat : Int)
/-- The number at a key. -/
def prV (D : DataW Unit) (k : Lit) : Int := match D.atKey k (.lit (.int .i64 0)) with | .lit (.int _ c) => c | _ => 0
def prPut (s : ByteArray) (D : DataW Unit) (d : Nat) : DataW Unit := if Maps.has D (prK s d) = true ∧ prV D (prK s d) ≤ (d : Int) then D else D.put (prK s d) (.lit (.int .i64 (d : Int)))
def prRow (m : Nat) (D : DataW Unit) (s : ByteArray) : DataW Unit := (List.range m).foldl (prPut s) D
def prTab (m : Nat) (l : List ByteArray) : DataW Unit := l.foldl (prRow m) (.map [])
theorem key2_key (a b : Int) : WideAt.IsKeyLit (key2 a b) := trivial
theorem prV_of {D : DataW Unit} {k : Lit} {c : Int} (h : D.atKey k (.lit (.int .i64 0)) = .lit (.int .i64 c)) : prV D k = c := by unfold prV; rw [h]
theorem prPut_map {s : ByteArray} {D : DataW Unit} (h : IsMap D) (d : Nat) : IsMap (prPut s D d) := by unfold prPut; split; exact h; exact h.put _ _
theorem prRow_map (s : ByteArray) {D : DataW Unit} (h : IsMap D) (m : Nat) : IsMap ((List.range m).foldl (prPut s) D) := by
  induction m with
  | zero => exact h
  | succ m ih => rw [List.range_succ, List.foldl_append]; exact prPut_map ih m
theorem prFold_map (m : Nat) : ∀ (l : List ByteArray) (D : DataW Unit), IsMap D → IsMap (l.foldl (prRow m) D)
  | [], D, h => h
  | s :: l, D, h => prFold_map m l _ (prRow_map s h m)

end Go.Proofs.Ytcehdcijflbgjaa.P
