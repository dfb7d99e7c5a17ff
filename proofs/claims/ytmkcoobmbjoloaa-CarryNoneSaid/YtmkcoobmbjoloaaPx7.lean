/- Layer 25's example and its law of a nil carry: the walks. -/
import Derived.Test.YtmkcoobmbjoloaaH25
namespace Go.Proofs.Ytmkcoobmbjoloaa.P
open Go Go.RowKit Go.Proofs.YtmkcoobmbjoloaaW.PrintWords Go.Proofs.YtmkcoobmbjoloaaW.PrintLast Go.Proofs.YtmkcoobmbjoloaaW.PrintMore Go.Proofs.Ytmkcoobmbjoloaa.Base
set_option linter.unusedVariables false
set_option linter.unusedSimpArgs false

set_option maxHeartbeats 8000000 in
set_option maxRecDepth 100000 in
theorem juratlaw25_awake.calls (w : World) : Calls Try.prog 32 #[] w fun e w' => e = .returned (.bool true) ∧ Below w.heap.size w w' := by
  go_enter Try.func32, Try.ntmps32
  go_wp2_with (go_at_call 33; refine (carry_New2 _).mono ?_; rintro e W1 ⟨rfl, hc, hb, hl⟩; have HC1 := Aside0.mk hc; have HB1 := Aside0.mk hb; clear hc hb hl)
  go_wp2_with (go_at_call 34; refine (carry_Add2 (⟨#[97, 98, 99, 100, 101]⟩ : ByteArray) bytes25 w.heap.size w.heap.size w _ HC1.out HB1.out (Nat.le_refl _)).mono ?_; rintro e W2 ⟨rfl, g, c, hc, hr, hb⟩; have HC2 := Aside0.mk hc; have HR2 := Aside0.mk hr; have HB2 := Aside0.mk hb; clear hc hr hb)
  have hP := carry_Pass2 HC2.out HR2.out HB2.out (Nat.le_refl _)
  refine Calls.mono hP ?_
  clear hP HC1 HB1 HC2 HR2 HB2
  rintro e W3 ⟨rfl, g3, c3, hc, hr, hb⟩
  have HC3 := Aside0.mk hc
  have HR3 := Aside0.mk hr
  have HB3 := Aside0.mk hb
  have t5 : ∀ W : World, W = W3 → Calls Try.prog 37 #[.pointer (some ⟨w.heap.size, 0, none⟩), .int .i64 5] W fun e w' => e = .returned (.tuple #[.string (⟨#[100, 101]⟩ : ByteArray), .bool true]) ∧ ∃ q, w' = W3.drewN q := fun W hW => by subst hW; exact carry_Tail5 HC3.out HR3.out
  have t3 : ∀ q : Nat, Calls Try.prog 37 #[.pointer (some ⟨w.heap.size, 0, none⟩), .int .i64 3] (W3.drewN q) fun e w' => e = .returned (.tuple #[.string ByteArray.empty, .bool false]) ∧ ∃ n, w' = W3.drewN n := fun q => (carry_Tail3 (w := W3.drewN q) HC3.out).mono fun e w' ⟨h1, n, h2⟩ => ⟨h1, q + n, by rw [h2, World.drewN_drewN]⟩
  have hh : ∀ q : Nat, Calls Try.prog 36 #[.pointer (some ⟨w.heap.size, 0, none⟩)] (W3.drewN q) fun e w' => e = .returned (.int .i64 3) ∧ ∃ n, w' = W3.drewN n := fun q => (carry_Held2 (w := W3.drewN q) HC3.out).mono fun e w' ⟨h1, ⟨n, h2⟩⟩ => ⟨h1, q + n, by rw [h2, World.drewN_drewN]⟩
  have hd : ∀ q : Nat, Calls Try.prog 40 #[.pointer (some ⟨w.heap.size, 0, none⟩)] (W3.drewN q) fun e w' => e = .returned (.int .i64 4) ∧ ∃ n, w' = W3.drewN n := fun q => (carry_Done2 (w := W3.drewN q) HC3.out).mono fun e w' ⟨h1, ⟨n, h2⟩⟩ => ⟨h1, q + n, by rw [h2, World.drewN_drewN]⟩
  have T5 := Aside0.mk t5
  have T3 := Aside0.mk t3
  have HH := Aside0.mk hh
  have HD := Aside0.mk hd
  clear hc hr hb HC3 HR3 t5 t3 hh hd
  go_wp2_with (go_at_call 37; fail)
  refine Calls.mono (T5.out _ rfl) ?_
  rintro e w' ⟨rfl, q4, rfl⟩
  go_wp2_with (go_at_call 37; fail)
  refine Calls.mono (T3.out _) ?_
  rintro e w' ⟨rfl, q5, rfl⟩
  go_wp2_with (first | (go_at_call 36; refine Calls.mono (HH.out _) ?_; rintro e w' ⟨rfl, q6, rfl⟩) | (go_at_call 40; refine Calls.mono (HD.out _) ?_; rintro e w' ⟨rfl, q7, rfl⟩))
  go_ret
  exact ⟨rfl, pw_below_drewN HB3.out _⟩

def juratlaw25_CarryNone.f (a0 : ByteArray) (a1 : Int) : Option Bool := some true
set_option maxHeartbeats 8000000 in
set_option maxRecDepth 100000 in
theorem juratlaw25_CarryNone.calls (a0 : ByteArray) (a1 : Int) (r : Bool) (w : World) (h : juratlaw25_CarryNone.f a0 a1 = some r) :
    Calls Try.prog 7 #[.string a0, .int .i64 a1] w fun e w' => e = .returned (.bool r) ∧ Below w.heap.size w w' := by
  obtain rfl := Option.some.inj h
  clear h
  by_cases hl : 50 < a0.size
  · have c0 : decide (50 < a0.size) = true := decide_eq_true hl
    have c1 : decide ((50 : Int) < (a0.size : Int)) = true := decide_eq_true (by omega)
    clear hl
    go_enter Try.func7, Try.ntmps7
    go_wp2_with (go_at_call 32; refine (juratlaw25_awake.calls _).mono ?_; rintro e w' ⟨rfl, hb⟩; have HB := Aside0.mk hb; clear hb)
    go_ret
    exact ⟨rfl, HB.out⟩
  · have c0 : decide (50 < a0.size) = false := decide_eq_false hl
    have c1 : decide ((50 : Int) < (a0.size : Int)) = false := decide_eq_false (by omega)
    clear hl
    go_enter Try.func7, Try.ntmps7
    go_wp2_with (first | (go_at_call 34; refine (carry_Add0 _ _).mono ?_; rintro e w' ⟨rfl, ⟨q1, rfl⟩⟩) | (go_at_call 35; refine (carry_Pass0 _ _).mono ?_; rintro e w' ⟨rfl, ⟨q2, rfl⟩⟩) | (go_at_call 37; refine (carry_Tail0 _ _).mono ?_; rintro e w' ⟨rfl, ⟨q3, rfl⟩⟩) | (go_at_call 38; refine (carry_Byte0 _ _).mono ?_; rintro e w' ⟨rfl, ⟨q4, rfl⟩⟩) | (go_at_call 39; refine (carry_Seen0 _).mono ?_; rintro e w' ⟨rfl, ⟨q5, rfl⟩⟩) | (go_at_call 40; refine (carry_Done0 _).mono ?_; rintro e w' ⟨rfl, ⟨q6, rfl⟩⟩) | (go_at_call 36; refine (carry_Held0 _).mono ?_; rintro e w' ⟨rfl, ⟨q7, rfl⟩⟩) | (go_at_call 32; refine (juratlaw25_awake.calls _).mono ?_; rintro e w' ⟨rfl, hb⟩; have HB := Aside0.mk hb; clear hb))
    go_ret
    exact ⟨rfl, below_step (by repeat (first | exact Below.refl _ _ | (with_reducible apply pw_below_drewN))) HB.out⟩

end Go.Proofs.Ytmkcoobmbjoloaa.P
