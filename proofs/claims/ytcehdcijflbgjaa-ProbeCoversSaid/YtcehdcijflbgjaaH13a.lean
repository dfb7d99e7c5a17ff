/- What a table of shifts tells; for every table, nil too. -/
import Derived.Below
import Derived.Deep.Draws
import Derived.OwnWalk
import Derived.Tactics
import Derived.WalkKit
import Derived.KernelRfl
import Derived.RowKit3
import Derived.Deep.LoopGhost
import Derived.Deep.QuietTactic
import Derived.BigQuiet
import Derived.WideLaws
import Derived.Outline
import Derived.StillTailTactics
import Derived.Test.YtcehdcijflbgjaaOb13
import Derived.Test.YtcehdcijflbgjaaBase
import Derived.Test.YtcehdcijflbgjaaPx0
namespace Go.Proofs.Ytcehdcijflbgjaa.P
open Go Go.RowKit Go.Proofs.YtcehdcijflbgjaaW.PrintWords Go.Proofs.Ytcehdcijflbgjaa.Base
set_option linter.unusedVariables false


def shift_Table_First.f (a0 : Option ShiftD) (a1 : Int) : Option Int := match a0 with | none => some 0 | some d => if 0 ≤ a1 ∧ a1 ≤ 255 then some (d.first.getD a1.toNat 0) else none
set_option maxHeartbeats 400000 in
theorem shift_Table_First.calls (Pa0 : Option Addr) (a0 : Option ShiftD) (a1 : Int) (r : Int) (w : World) (ho : OB K86 w Pa0 a0) (h : shift_Table_First.f a0 a1 = some r) :
    Calls Try.prog 39 #[.pointer Pa0, .int .u8 a1] w fun e w' => e = .returned (.int .i64 r) ∧ Drawn0 w w' := by
  cases a0 with
  | none =>
    obtain rfl := Option.some.inj h
    obtain rfl := OB.p_none ho
    clear ho h
    go_enter Try.func39, Try.ntmps39
    go_wp2
    go_ret
    exact ⟨rfl, Drawn0.refl _⟩
  | some d =>
    obtain ⟨a, rfl⟩ := OB.p_some ho
    obtain ⟨b, rfl, hl, hb⟩ := OB.at ho
    simp only [shift_Table_First.f] at h
    by_cases hw2 : 0 ≤ a1 ∧ a1 ≤ 255
    rotate_left
    · rw [if_neg hw2] at h; cases h
    rw [if_pos hw2] at h
    obtain rfl := Option.some.inj h
    obtain ⟨w0, w1⟩ := hw2
    obtain ⟨c, rfl⟩ : ∃ c : Nat, a1 = c := ⟨a1.toNat, by omega⟩
    have hc : w.cell? ⟨b, c, none⟩ = some (.int .i64 (d.first.getD c 0)) := (blk_cell hb c).trans (shCells_at hl (by omega))
    clear ho h hb hl
    go_enter Try.func39, Try.ntmps39
    go_wp2
    go_ret
    exact ⟨rfl, Drawn0.refl _⟩

end Go.Proofs.Ytcehdcijflbgjaa.P
