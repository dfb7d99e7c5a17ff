/- What a table of pairs tells; for every table, nil too. -/
import Derived.Below
import Derived.Deep.Draws
import Derived.OwnWalk
import Derived.Tactics
import Derived.WalkKit
import Derived.KernelRfl
import Derived.RowKit3
import Derived.Deep.LoopGhost
import Derived.Deep.QuietTactic
import Derived.BigQuiet
import Derived.WideLaws
import Derived.Outline
import Derived.StillTailTactics
import Derived.Maps.OwnOps
import Derived.Maps.OwnSet
import Derived.Test.YtcehdcijflbgjaaOb14
import Derived.Test.YtcehdcijflbgjaaPx0
namespace Go.Proofs.Ytcehdcijflbgjaa.P
open Go Go.RowKit Go.Maps Go.WideMaps Go.Proofs.YtcehdcijflbgjaaW.PrintWords Go.Proofs.YtcehdcijflbgjaaW.PrintLast Go.Proofs.YtcehdcijflbgjaaW.PrintMore Go.Proofs.Ytcehdcijflbgjaa.Base
set_option linter.unusedVariables false
set_option linter.unusedSimpArgs false



def pair_Table_Near.f (a0 : Option PairD) (a1 a2 : Int) : Option Int := match a0 with
  | none => some 0
  | some d => if (0 ≤ a1 ∧ a1 ≤ 255) ∧ 0 ≤ a2 ∧ a2 ≤ 255 then some (if Maps.has d.near (key2 a1 a2) = true then prV d.near (key2 a1 a2) else d.far) else none
set_option maxHeartbeats 800000 in
theorem pair_Table_Near.calls (Pa0 : Option Addr) (a0 : Option PairD) (a1 a2 : Int) (r : Int) (w : World) (ho : OB K89 w Pa0 a0) (h : pair_Table_Near.f a0 a1 a2 = some r) :
    Calls Try.prog 51 #[.pointer Pa0, .int .u8 a1, .int .u8 a2] w fun e w' => e = .returned (.int .i64 r) ∧ Drawn0 w w' := by
  cases a0 with
  | none =>
    obtain rfl := Option.some.inj h
    obtain rfl := OB.p_none ho
    clear ho h
    go_enter Try.func51, Try.ntmps51
    go_wp2
    go_ret
    exact ⟨rfl, Drawn0.refl _⟩
  | some d =>
    simp only [pair_Table_Near.f] at h
    by_cases hw : (0 ≤ a1 ∧ a1 ≤ 255) ∧ 0 ≤ a2 ∧ a2 ≤ 255
    rotate_left
    · rw [if_neg hw] at h; cases h
    rw [if_pos hw] at h
    have HKY := Aside0.mk (key14' hw.1 hw.2)
    have HR := Aside0.mk (Option.some.inj h)
    obtain ⟨a, rfl⟩ := OB.p_some ho
    obtain ⟨b, bm, n, rfl, h0, h1, h2⟩ := OB.at ho
    have HO := Aside0.mk h2
    clear ho h h2 hw
    cases hh : Maps.has d.near (key2 a1 a2) with
    | true =>
      have hr := HR.out
      rw [if_pos hh] at hr
      have HR2 := Aside0.mk hr
      clear hr HR
      go_enter Try.func51, Try.ntmps51
      go_wp2_with (at_lookup; refine wpList_lookup_own_ok_int _ rfl _ _ 87 rfl 90 3 .i64 law14 Try.underlying87 Try.underlying3 (zero14 _) bm n _ rfl HO.out _ _ rfl HKY.out ?_; intro c hat hwc; obtain rfl := prV_of hat; clear hat hwc; rw [hh])
      go_ret
      exact ⟨by first | rfl | exact congrArg (fun x => Ending.returned (Value.int .i64 x)) HR2.out, Drawn0.refl _⟩
    | false =>
      have hr := HR.out
      rw [if_neg (by rw [hh]; decide)] at hr
      have HR2 := Aside0.mk hr
      clear hr HR
      go_enter Try.func51, Try.ntmps51
      go_wp2_with (at_lookup; refine wpList_lookup_own_ok_int _ rfl _ _ 87 rfl 90 3 .i64 law14 Try.underlying87 Try.underlying3 (zero14 _) bm n _ rfl HO.out _ _ rfl HKY.out ?_; intro c hat hwc; obtain rfl := prV_of hat; clear hat hwc; rw [hh])
      go_ret
      exact ⟨by first | rfl | exact congrArg (fun x => Ending.returned (Value.int .i64 x)) HR2.out, Drawn0.refl _⟩

def pair_Table_Clear.f (a0 : Option PairD) (a1 : ByteArray) (a2 : Int) : Option Int :=
  if a0.isNone = true ∨ a2 < 2 ∨ a2 > (a1.size : Int) then some 0 else if a1.size > 4611686018427387904 then none else pair_Table_Near.f a0 (bt a1 (a2 - 2)) (bt a1 (a2 - 1))
set_option maxHeartbeats 1600000 in
theorem pair_Table_Clear.calls (Pa0 : Option Addr) (a0 : Option PairD) (a1 : ByteArray) (a2 : Int) (r : Int) (w : World) (ho : OB K89 w Pa0 a0) (h : pair_Table_Clear.f a0 a1 a2 = some r) :
    Calls Try.prog 40 #[.pointer Pa0, .string a1, .int .i64 a2] w fun e w' => e = .returned (.int .i64 r) ∧ Drawn0 w w' := by
  unfold pair_Table_Clear.f at h
  cases a0 with
  | none =>
    obtain rfl := Option.some.inj ((if_pos (.inl rfl)).symm.trans h)
    obtain rfl := OB.p_none ho
    clear ho h
    go_enter Try.func40, Try.ntmps40
    go_wp2
    all_goals
      go_ret
      exact ⟨rfl, Drawn0.refl _⟩
  | some d =>
    obtain ⟨a, rfl⟩ := OB.p_some ho
    by_cases g1 : a2 < 2
    · obtain rfl := Option.some.inj ((if_pos (.inr (.inl g1))).symm.trans h)
      have c1 : decide (a2 < 2) = true := decide_eq_true g1
      clear ho h g1
      go_enter Try.func40, Try.ntmps40
      go_wp2
      all_goals
        go_ret
        exact ⟨rfl, Drawn0.refl _⟩
    by_cases g2 : a2 > (a1.size : Int)
    · obtain rfl := Option.some.inj ((if_pos (.inr (.inr g2))).symm.trans h)
      have c1 : decide (a2 < 2) = false := decide_eq_false g1
      have c2 : decide ((a1.size : Int) < a2) = true := decide_eq_true g2
      clear ho h g1 g2
      go_enter Try.func40, Try.ntmps40
      go_wp2
      all_goals
        go_ret
        exact ⟨rfl, Drawn0.refl _⟩
    rw [if_neg (by simp; omega)] at h
    by_cases g3 : a1.size > 4611686018427387904
    · rw [if_pos g3] at h; cases h
    rw [if_neg g3] at h
    have HN := Aside0.mk (fun W (g : OB K89 W (some a) (some d)) => pair_Table_Near.calls (some a) (some d) (bt a1 (a2 - 2)) (bt a1 (a2 - 1)) r W g h)
    have HO := Aside0.mk ho
    have c1 : decide (a2 < 2) = false := decide_eq_false g1
    have c2 : decide ((a1.size : Int) < a2) = false := decide_eq_false g2
    obtain ⟨e, rfl⟩ : ∃ e : Nat, a2 = ((e : Int) + 2) := ⟨a2.toNat - 2, by omega⟩
    have he : e + 2 ≤ a1.size := by omega
    have b1 : bt a1 (((e : Int) + 2) - 2) = ((a1[e]'(by omega)).toNat : Int) := by
      unfold bt
      rw [dif_pos (show (((e : Int) + 2) - 2).toNat < a1.size by omega)]
      congr 3
      omega
    have b2 : bt a1 (((e : Int) + 2) - 1) = ((a1[e + 1]'(by omega)).toNat : Int) := by
      unfold bt
      rw [dif_pos (show (((e : Int) + 2) - 1).toNat < a1.size by omega)]
      congr 3
      omega
    rw [b1, b2] at HN
    have w1 : IntKind.i64.wrap (((e : Int) + 2) - 2) = (e : Int) := by rw [i64_w, wrap_id (by omega) (by omega)]; omega
    have w2 : IntKind.i64.wrap (((e : Int) + 2) - 1) = (e : Int) + 1 := by rw [i64_w, wrap_id (by omega) (by omega)]; omega
    clear ho h g1 b1 b2
    go_enter Try.func40, Try.ntmps40
    go_wp2
    have w3 : (0 : Int) ≤ (e : Int) := by omega
    have w4 : (0 : Int) ≤ (e : Int) + 1 := by omega
    have w5 : (e : Int) < (a1.size : Int) := by omega
    have w6 : (e : Int) + 1 < (a1.size : Int) := by omega
    have w7 : ((e : Int) + 1).toNat = e + 1 := by omega
    go_quiet ((go_at_call 51; exact Calls.quiet_of ((HN.out _ (OB.drewN HO.out _)).mono fun _ _ ⟨h1, ⟨m, h2⟩⟩ => ⟨h1, m, h2⟩)))
    go_wp2
    go_ret
    exact ⟨rfl, ⟨_, rfl⟩⟩

end Go.Proofs.Ytcehdcijflbgjaa.P
