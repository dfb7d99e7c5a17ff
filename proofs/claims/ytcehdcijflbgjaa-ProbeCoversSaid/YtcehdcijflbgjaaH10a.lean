/- What a set of patterns tells: its length, a pattern by its number, its three numbers; for every set, nil too. -/
import Derived.Test.YtcehdcijflbgjaaProg
import Derived.Below
import Derived.Deep.Draws
import Derived.OwnWalk
import Derived.Tactics
import Derived.WalkKit
import Derived.KernelRfl
import Derived.RowKit3
import Derived.Deep.QuietTactic
import Derived.BigQuiet
import Derived.WideLaws
import Derived.Outline
import Derived.Test.YtcehdcijflbgjaaOb10
namespace Go.Proofs.Ytcehdcijflbgjaa.P
open Go Go.RowKit Go.Proofs.YtcehdcijflbgjaaW.PrintWords


def pats_Set_Least.f (a0 : Option SetD) : Option Int := some (match a0 with | none => 0 | some d => d.least)
set_option maxHeartbeats 400000 in
theorem pats_Set_Least.calls (Pa0 : Option Addr) (a0 : Option SetD) (r : Int) (w : World) (ho : OB K55 w Pa0 a0) (h : pats_Set_Least.f a0 = some r) :
    Calls Try.prog 48 #[.pointer Pa0] w fun e w' => e = .returned (.int .i64 r) ∧ Drawn0 w w' := by
  obtain rfl := Option.some.inj h
  cases a0 with
  | none =>
    obtain rfl := OB.p_none ho
    clear ho h
    go_enter Try.func48, Try.ntmps48
    go_wp2
    go_ret
    exact ⟨rfl, Drawn0.refl _⟩
  | some d =>
    obtain ⟨a, rfl⟩ := OB.p_some ho
    obtain ⟨b, A, c, rfl, h0, h1, h2, h3, hl, hc⟩ := OB.at ho
    clear ho h
    go_enter Try.func48, Try.ntmps48
    go_wp2
    go_ret
    exact ⟨rfl, Drawn0.refl _⟩

def pats_Set_Most.f (a0 : Option SetD) : Option Int := some (match a0 with | none => 0 | some d => d.most)
set_option maxHeartbeats 400000 in
theorem pats_Set_Most.calls (Pa0 : Option Addr) (a0 : Option SetD) (r : Int) (w : World) (ho : OB K55 w Pa0 a0) (h : pats_Set_Most.f a0 = some r) :
    Calls Try.prog 34 #[.pointer Pa0] w fun e w' => e = .returned (.int .i64 r) ∧ Drawn0 w w' := by
  obtain rfl := Option.some.inj h
  cases a0 with
  | none =>
    obtain rfl := OB.p_none ho
    clear ho h
    go_enter Try.func34, Try.ntmps34
    go_wp2
    go_ret
    exact ⟨rfl, Drawn0.refl _⟩
  | some d =>
    obtain ⟨a, rfl⟩ := OB.p_some ho
    obtain ⟨b, A, c, rfl, h0, h1, h2, h3, hl, hc⟩ := OB.at ho
    clear ho h
    go_enter Try.func34, Try.ntmps34
    go_wp2
    go_ret
    exact ⟨rfl, Drawn0.refl _⟩


end Go.Proofs.Ytcehdcijflbgjaa.P
