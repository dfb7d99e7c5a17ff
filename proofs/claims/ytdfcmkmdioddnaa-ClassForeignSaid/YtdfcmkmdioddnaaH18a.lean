/- What the classes of a set tell; for all classes, nil too. -/
import Derived.Below
import Derived.Deep.Draws
import Derived.OwnWalk
import Derived.Tactics
import Derived.WalkKit
import Derived.KernelRfl
import Derived.RowKit3
import Derived.Deep.LoopGhost
import Derived.Deep.QuietTactic
import Derived.BigQuiet
import Derived.WideLaws
import Derived.Outline
import Derived.StillTailTactics
import Derived.Test.YtdfcmkmdioddnaaOb18
import Derived.Test.YtdfcmkmdioddnaaBase
import Derived.Test.YtdfcmkmdioddnaaPx0
namespace Go.Proofs.Ytdfcmkmdioddnaa.P
open Go Go.RowKit Go.Proofs.YtdfcmkmdioddnaaW.PrintWords Go.Proofs.Ytdfcmkmdioddnaa.Base
set_option linter.unusedVariables false

def class_Classes_Of.f (a0 : Option ClassD) (a1 : Int) : Option Int := match a0 with | none => some 0 | some d => if (0 ≤ a1 ∧ a1 ≤ 255) ∧ 0 ≤ d.of.getD a1.toNat 0 ∧ d.of.getD a1.toNat 0 ≤ 65535 then some (d.of.getD a1.toNat 0) else none
set_option maxHeartbeats 400000 in
theorem class_Classes_Of.calls (Pa0 : Option Addr) (a0 : Option ClassD) (a1 : Int) (r : Int) (w : World) (ho : OB K84 w Pa0 a0) (h : class_Classes_Of.f a0 a1 = some r) :
    Calls Try.prog 27 #[.pointer Pa0, .int .u8 a1] w fun e w' => e = .returned (.int .i64 r) ∧ Drawn0 w w' := by
  cases a0 with
  | none =>
    obtain rfl := Option.some.inj h
    obtain rfl := OB.p_none ho
    clear ho h
    go_enter Try.func27, Try.ntmps27
    go_wp2
    go_ret
    exact ⟨rfl, Drawn0.refl _⟩
  | some d =>
    simp only [class_Classes_Of.f] at h
    by_cases hw2 : (0 ≤ a1 ∧ a1 ≤ 255) ∧ 0 ≤ d.of.getD a1.toNat 0 ∧ d.of.getD a1.toNat 0 ≤ 65535
    rotate_left
    · rw [if_neg hw2] at h; cases h
    rw [if_pos hw2] at h
    obtain rfl := Option.some.inj h
    obtain ⟨a, rfl⟩ := OB.p_some ho
    obtain ⟨b, A, cp, rfl, hl, hb, _, _⟩ := OB.at ho
    obtain ⟨⟨w0, w1⟩, w2, w3⟩ := hw2
    obtain ⟨c, rfl⟩ : ∃ c : Nat, a1 = c := ⟨a1.toNat, by omega⟩
    rw [Int.toNat_natCast] at w2 w3 ⊢
    have hc : w.cell? ⟨b, c, none⟩ = some (.int .u16 (d.of.getD c 0)) := (blk_cell hb c).trans (arCells_at hl (by omega))
    generalize d.of.getD c 0 = z at hc w2 w3
    clear ho h hb hl
    go_enter Try.func27, Try.ntmps27
    go_wp2
    go_ret
    exact ⟨rfl, Drawn0.refl _⟩

def class_Classes_Len.f (a0 : Option ClassD) : Option Int := match a0 with | none => some 0 | some d => if d.bytes.length ≤ 256 then some ((d.bytes.length : Int) + 1) else none
set_option maxHeartbeats 400000 in
theorem class_Classes_Len.calls (Pa0 : Option Addr) (a0 : Option ClassD) (r : Int) (w : World) (ho : OB K84 w Pa0 a0) (h : class_Classes_Len.f a0 = some r) :
    Calls Try.prog 57 #[.pointer Pa0] w fun e w' => e = .returned (.int .i64 r) ∧ Drawn0 w w' := by
  cases a0 with
  | none =>
    obtain rfl := Option.some.inj h
    obtain rfl := OB.p_none ho
    clear ho h
    go_enter Try.func57, Try.ntmps57
    go_wp2
    go_ret
    exact ⟨rfl, Drawn0.refl _⟩
  | some d =>
    simp only [class_Classes_Len.f] at h
    by_cases hm : d.bytes.length ≤ 256
    rotate_left
    · rw [if_neg hm] at h; cases h
    rw [if_pos hm] at h
    obtain rfl := Option.some.inj h
    obtain ⟨a, rfl⟩ := OB.p_some ho
    obtain ⟨b, A, cp, rfl, hl, hb, hcp, hC⟩ := OB.at ho
    have hc : w.cell? ⟨b, 256, none⟩ = some (.slice A d.bytes.length cp) := (blk_cell hb 256).trans (arCells_last hl)
    have hm3 : (d.bytes.length : Int) ≤ 256 := by omega
    clear ho h hb hl hC hm
    go_enter Try.func57, Try.ntmps57
    go_wp2
    go_ret
    exact ⟨rfl, Drawn0.refl _⟩

end Go.Proofs.Ytdfcmkmdioddnaa.P
