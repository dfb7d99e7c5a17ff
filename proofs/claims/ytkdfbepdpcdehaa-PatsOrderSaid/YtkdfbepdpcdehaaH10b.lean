/- What a set of patterns tells: its list, and a pattern's number; for every set, nil too. -/
import Derived.Test.YtkdfbepdpcdehaaH10a
import Derived.Test.YtkdfbepdpcdehaaH09p
namespace Go.Proofs.Ytkdfbepdpcdehaa.P
open Go Go.RowKit Go.Proofs.YtkdfbepdpcdehaaW.PrintWords Go.Proofs.Ytkdfbepdpcdehaa.Base

def pats_Set_List.f (a0 : Option SetD) : Option (List ByteArray) := match a0 with | none => some [] | some d => if d.l.length ≤ 8796093022208 then some d.l else none
set_option maxHeartbeats 800000 in
theorem pats_Set_List.calls (Pa0 : Option Addr) (a0 : Option SetD) (r : List ByteArray) (w : World) (ho : OB K46 w Pa0 a0) (h : pats_Set_List.f a0 = some r) :
    Calls Try.prog 9 #[.pointer Pa0] w fun e w' => ∃ v0_ : Value, e = .returned v0_ ∧ Kd.R Kd.string 9 w' w.heap.size (fun _ => True) v0_ r ∧ Below w.heap.size w w' := by
  cases a0 with
  | none =>
    obtain rfl := OB.p_none ho
    obtain rfl := Option.some.inj h
    clear ho h
    go_enter Try.func9, Try.ntmps9
    go_wp2
    go_ret
    exact ⟨_, rfl, Kd.R_nil _ _ _ _ _, Below.refl _ _⟩
  | some d =>
    obtain ⟨a, rfl⟩ := OB.p_some ho
    obtain ⟨b, A, c, rfl, h0, h1, h2, h3, hl, hc⟩ := OB.at ho
    simp only [pats_Set_List.f] at h
    by_cases hs : d.l.length ≤ 8796093022208
    · rw [if_pos hs] at h
      obtain rfl := Option.some.inj h
      have hC := clone_row (c0 := c) hc hs
      clear ho h h1 h2 h3 hl hc hs
      go_enter Try.func9, Try.ntmps9
      go_wp2_with (go_at_call 25; refine hC.mono ?_; rintro e w1 ⟨v, rfl, hown, hb⟩; have hO := Aside0.mk hown; have hB := Aside0.mk hb; clear hown hb)
      go_ret
      exact ⟨v, rfl, Kd.R_of_own hO.out (fun _ _ => trivial), hB.out⟩
    · rw [if_neg hs] at h
      cases h

def pats_Set_Find.f (a0 : Option SetD) (a1 : ByteArray) : Option (Int × Bool) := match a0 with | none => some (0, false) | some d => if sizedB d.l ∧ upB d.l then some (if inB a1 d.l = true then ((aheadB a1 d.l : Int), true) else (0, false)) else none
set_option maxHeartbeats 800000 in
theorem pats_Set_Find.calls (Pa0 : Option Addr) (a0 : Option SetD) (a1 : ByteArray) (r1 : Int) (r2 : Bool) (w : World) (ho : OB K46 w Pa0 a0) (h : pats_Set_Find.f a0 a1 = some (r1, r2)) :
    Calls Try.prog 11 #[.pointer Pa0, .string a1] w fun e w' => e = .returned (.tuple #[.int .i64 r1, .bool r2]) ∧ Drawn0 w w' := by
  cases a0 with
  | none =>
    obtain rfl := OB.p_none ho
    obtain ⟨rfl, rfl⟩ := Prod.mk.inj (Option.some.inj h)
    clear ho h
    go_enter Try.func11, Try.ntmps11
    go_wp2
    go_ret2
    exact ⟨rfl, Drawn0.refl _⟩
  | some d =>
    obtain ⟨a, rfl⟩ := OB.p_some ho
    obtain ⟨b, A, c, rfl, h0, h1, h2, h3, hl, hc⟩ := OB.at ho
    simp only [pats_Set_Find.f] at h
    by_cases hs : sizedB d.l ∧ upB d.l
    · rw [if_pos hs] at h
      have hP := affix_Place.calls A c d.l a1 (aheadB a1 d.l : Int) (inB a1 d.l) w hc hl (by unfold affix_Place.f; rw [if_pos hs])
      generalize aheadB a1 d.l = n at h hP
      cases hi : inB a1 d.l with
      | true =>
        rw [hi] at h hP
        rw [if_pos rfl] at h
        obtain ⟨rfl, rfl⟩ := Prod.mk.inj (Option.some.inj h)
        clear ho h h1 h2 h3 hl hc hs hi
        go_enter Try.func11, Try.ntmps11
        go_wp2_with (go_at_call 26; refine hP.mono ?_; rintro e w1 ⟨rfl, ⟨q, rfl⟩⟩)
        go_ret2
        exact ⟨rfl, by repeat (first | exact Drawn0.refl _ | apply Drawn0.step)⟩
      | false =>
        rw [hi] at h hP
        rw [if_neg (by simp)] at h
        obtain ⟨rfl, rfl⟩ := Prod.mk.inj (Option.some.inj h)
        clear ho h h1 h2 h3 hl hc hs hi
        go_enter Try.func11, Try.ntmps11
        go_wp2_with (go_at_call 26; refine hP.mono ?_; rintro e w1 ⟨rfl, ⟨q, rfl⟩⟩)
        go_ret2
        exact ⟨rfl, by repeat (first | exact Drawn0.refl _ | apply Drawn0.step)⟩
    · rw [if_neg hs] at h
      cases h
end Go.Proofs.Ytkdfbepdpcdehaa.P
