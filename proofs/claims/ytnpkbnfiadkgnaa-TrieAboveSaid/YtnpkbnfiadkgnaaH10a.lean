/- What a set of patterns tells: its length, a pattern by its number, its three numbers; for every set, nil too. -/
import Derived.Test.YtnpkbnfiadkgnaaProg
import Derived.Below
import Derived.Deep.Draws
import Derived.OwnWalk
import Derived.Tactics
import Derived.WalkKit
import Derived.KernelRfl
import Derived.RowKit3
import Derived.Deep.QuietTactic
import Derived.BigQuiet
import Derived.WideLaws
import Derived.Outline
import Derived.Test.YtnpkbnfiadkgnaaOb10
namespace Go.Proofs.Ytnpkbnfiadkgnaa.P
open Go Go.RowKit Go.Proofs.YtnpkbnfiadkgnaaW.PrintWords

def pats_Set_Len.f (a0 : Option SetD) : Option Int := some (match a0 with | none => 0 | some d => (d.l.length : Int))
set_option maxHeartbeats 400000 in
theorem pats_Set_Len.calls (Pa0 : Option Addr) (a0 : Option SetD) (r : Int) (w : World) (ho : OB K77 w Pa0 a0) (h : pats_Set_Len.f a0 = some r) :
    Calls Try.prog 23 #[.pointer Pa0] w fun e w' => e = .returned (.int .i64 r) ∧ Drawn0 w w' := by
  obtain rfl := Option.some.inj h
  cases a0 with
  | none =>
    obtain rfl := OB.p_none ho
    clear ho h
    go_enter Try.func23, Try.ntmps23
    go_wp2
    go_ret
    exact ⟨rfl, Drawn0.refl _⟩
  | some d =>
    obtain ⟨a, rfl⟩ := OB.p_some ho
    obtain ⟨b, A, c, rfl, h0, h1, h2, h3, hl, hc⟩ := OB.at ho
    clear ho h
    go_enter Try.func23, Try.ntmps23
    go_wp2
    go_ret
    exact ⟨rfl, Drawn0.refl _⟩

def pats_Set_Least.f (a0 : Option SetD) : Option Int := some (match a0 with | none => 0 | some d => d.least)
set_option maxHeartbeats 400000 in
theorem pats_Set_Least.calls (Pa0 : Option Addr) (a0 : Option SetD) (r : Int) (w : World) (ho : OB K77 w Pa0 a0) (h : pats_Set_Least.f a0 = some r) :
    Calls Try.prog 59 #[.pointer Pa0] w fun e w' => e = .returned (.int .i64 r) ∧ Drawn0 w w' := by
  obtain rfl := Option.some.inj h
  cases a0 with
  | none =>
    obtain rfl := OB.p_none ho
    clear ho h
    go_enter Try.func59, Try.ntmps59
    go_wp2
    go_ret
    exact ⟨rfl, Drawn0.refl _⟩
  | some d =>
    obtain ⟨a, rfl⟩ := OB.p_some ho
    obtain ⟨b, A, c, rfl, h0, h1, h2, h3, hl, hc⟩ := OB.at ho
    clear ho h
    go_enter Try.func59, Try.ntmps59
    go_wp2
    go_ret
    exact ⟨rfl, Drawn0.refl _⟩


def pats_Set_Total.f (a0 : Option SetD) : Option Int := some (match a0 with | none => 0 | some d => d.total)
set_option maxHeartbeats 400000 in
theorem pats_Set_Total.calls (Pa0 : Option Addr) (a0 : Option SetD) (r : Int) (w : World) (ho : OB K77 w Pa0 a0) (h : pats_Set_Total.f a0 = some r) :
    Calls Try.prog 39 #[.pointer Pa0] w fun e w' => e = .returned (.int .i64 r) ∧ Drawn0 w w' := by
  obtain rfl := Option.some.inj h
  cases a0 with
  | none =>
    obtain rfl := OB.p_none ho
    clear ho h
    go_enter Try.func39, Try.ntmps39
    go_wp2
    go_ret
    exact ⟨rfl, Drawn0.refl _⟩
  | some d =>
    obtain ⟨a, rfl⟩ := OB.p_some ho
    obtain ⟨b, A, c, rfl, h0, h1, h2, h3, hl, hc⟩ := OB.at ho
    clear ho h
    go_enter Try.func39, Try.ntmps39
    go_wp2
    go_ret
    exact ⟨rfl, Drawn0.refl _⟩

def pats_Set_At.f (a0 : Option SetD) (a1 : Int) : Option (ByteArray × Bool) := some (if 0 ≤ a1 ∧ a1 < ((setL a0).length : Int) then ((setL a0).getD a1.toNat ByteArray.empty, true) else (⟨#[]⟩, false))
set_option maxHeartbeats 800000 in
theorem pats_Set_At.calls (Pa0 : Option Addr) (a0 : Option SetD) (a1 : Int) (r1 : ByteArray) (r2 : Bool) (w : World) (ho : OB K77 w Pa0 a0) (h : pats_Set_At.f a0 a1 = some (r1, r2)) :
    Calls Try.prog 22 #[.pointer Pa0, .int .i64 a1] w fun e w' => e = .returned (.tuple #[.string r1, .bool r2]) ∧ Drawn0 w w' := by
  have hL := fun W (g : OB K77 W Pa0 a0) => pats_Set_Len.calls Pa0 a0 ((setL a0).length : Int) W g (by cases a0 <;> rfl)
  by_cases h0 : a1 < 0
  · unfold pats_Set_At.f at h
    rw [if_neg (by omega)] at h
    obtain ⟨rfl, rfl⟩ := Prod.mk.inj (Option.some.inj h)
    have c0 : decide (a1 < 0) = true := decide_eq_true h0
    clear h h0
    go_enter Try.func22, Try.ntmps22
    go_wp2
    repeat (go_quiet (fail); try go_wp2)
    go_ret2
    exact ⟨rfl, by repeat (first | exact Drawn0.refl _ | apply Drawn0.step)⟩
  · by_cases h1 : a1 < ((setL a0).length : Int)
    · unfold pats_Set_At.f at h
      rw [if_pos ⟨by omega, h1⟩] at h
      obtain ⟨rfl, rfl⟩ := Prod.mk.inj (Option.some.inj h)
      cases a0 with
      | none => exact absurd h1 (by show ¬ a1 < 0; exact h0)
      | some d =>
        obtain ⟨a, rfl⟩ := OB.p_some ho
        have ho' := Aside0.mk ho
        obtain ⟨b, A, c, rfl, g0, g1, g2, g3, hl, hc⟩ := OB.at ho
        clear ho g1 g2 g3
        have hlen : (d.l.length : Int) ≤ 9223372036854775807 := by have := hc.2.1; omega
        obtain ⟨ad, rfl, hx⟩ := Kd.at_string hc a1 (by omega) h1
        have e : rdOf ByteArray.empty d.l a1 = (setL (some d)).getD a1.toNat ByteArray.empty := rfl
        rw [e] at hx
        clear e
        generalize hy : (setL (some d)).getD a1.toNat ByteArray.empty = y at hx
        have h1' : a1 < (d.l.length : Int) := h1
        have c0 : decide (a1 < 0) = false := decide_eq_false h0
        have c1 : decide (((setL (some d)).length : Int) ≤ a1) = false := decide_eq_false (by omega)
        have p1 : (0 ≤ a1) = True := eq_true (by omega)
        have p2 : (a1 < (d.l.length : Int)) = True := eq_true h1'
        have hy' := Aside0.mk hy
        clear h hy h1 h1' h0 hc hl
        go_enter Try.func22, Try.ntmps22
        go_wp2_with (go_at_call 23; refine (hL _ (by first | exact ho'.out | exact OB.drewN ho'.out _)).mono ?_; rintro e w' ⟨rfl, ⟨nd, rfl⟩⟩)
        go_ret2
        exact ⟨rfl, by repeat (first | exact Drawn0.refl _ | apply Drawn0.step)⟩
    · unfold pats_Set_At.f at h
      rw [if_neg (by omega)] at h
      obtain ⟨rfl, rfl⟩ := Prod.mk.inj (Option.some.inj h)
      have c0 : decide (a1 < 0) = false := decide_eq_false h0
      have c1 : decide (((setL a0).length : Int) ≤ a1) = true := decide_eq_true (by omega)
      have ho' := Aside0.mk ho
      clear h h0 h1 ho
      go_enter Try.func22, Try.ntmps22
      go_wp2_with (go_at_call 23; refine (hL _ (by first | exact ho'.out | exact OB.drewN ho'.out _)).mono ?_; rintro e w' ⟨rfl, ⟨nd, rfl⟩⟩)
      go_ret2
      exact ⟨rfl, by repeat (first | exact Drawn0.refl _ | apply Drawn0.step)⟩
end Go.Proofs.Ytnpkbnfiadkgnaa.P
