/- What a set of patterns tells: its list, and a pattern's number; for every set, nil too. -/
import Derived.Test.YtcehdcijflbgjaaH10a
import Derived.Test.YtcehdcijflbgjaaH09p
namespace Go.Proofs.Ytcehdcijflbgjaa.P
open Go Go.RowKit Go.Proofs.YtcehdcijflbgjaaW.PrintWords Go.Proofs.Ytcehdcijflbgjaa.Base

def pats_Set_List.f (a0 : Option SetD) : Option (List ByteArray) := match a0 with | none => some [] | some d => if d.l.length ≤ 8796093022208 then some d.l else none
set_option maxHeartbeats 800000 in
theorem pats_Set_List.calls (Pa0 : Option Addr) (a0 : Option SetD) (r : List ByteArray) (w : World) (ho : OB K55 w Pa0 a0) (h : pats_Set_List.f a0 = some r) :
    Calls Try.prog 30 #[.pointer Pa0] w fun e w' => ∃ v0_ : Value, e = .returned v0_ ∧ Kd.R Kd.string 9 w' w.heap.size (fun _ => True) v0_ r ∧ Below w.heap.size w w' := by
  cases a0 with
  | none =>
    obtain rfl := OB.p_none ho
    obtain rfl := Option.some.inj h
    clear ho h
    go_enter Try.func30, Try.ntmps30
    go_wp2
    go_ret
    exact ⟨_, rfl, Kd.R_nil _ _ _ _ _, Below.refl _ _⟩
  | some d =>
    obtain ⟨a, rfl⟩ := OB.p_some ho
    obtain ⟨b, A, c, rfl, h0, h1, h2, h3, hl, hc⟩ := OB.at ho
    simp only [pats_Set_List.f] at h
    by_cases hs : d.l.length ≤ 8796093022208
    · rw [if_pos hs] at h
      obtain rfl := Option.some.inj h
      have hC := clone_row (c0 := c) hc hs
      clear ho h h1 h2 h3 hl hc hs
      go_enter Try.func30, Try.ntmps30
      go_wp2_with (go_at_call 45; refine hC.mono ?_; rintro e w1 ⟨v, rfl, hown, hb⟩; have hO := Aside0.mk hown; have hB := Aside0.mk hb; clear hown hb)
      go_ret
      exact ⟨v, rfl, Kd.R_of_own hO.out (fun _ _ => trivial), hB.out⟩
    · rw [if_neg hs] at h
      cases h

end Go.Proofs.Ytcehdcijflbgjaa.P
