/- Layer 25's example: the walk. -/
import Derived.Test.YtibckaogfdffpaaH25
namespace Go.Proofs.Ytibckaogfdffpaa.P
open Go Go.RowKit Go.Proofs.YtibckaogfdffpaaW.PrintWords Go.Proofs.YtibckaogfdffpaaW.PrintLast Go.Proofs.YtibckaogfdffpaaW.PrintMore Go.Proofs.Ytibckaogfdffpaa.Base
set_option linter.unusedVariables false
set_option linter.unusedSimpArgs false

set_option maxHeartbeats 8000000 in
set_option maxRecDepth 100000 in
theorem juratlaw25_awake.calls (w : World) : Calls Try.prog 5 #[] w fun e w' => e = .returned (.bool true) ∧ Below w.heap.size w w' := by
  go_enter Try.func5, Try.ntmps5
  go_wp2_with (go_at_call 6; refine (carry_New2 _).mono ?_; rintro e W1 ⟨rfl, hc, hb, hl⟩; have HC1 := Aside0.mk hc; have HB1 := Aside0.mk hb; clear hc hb hl)
  go_wp2_with (go_at_call 7; refine (carry_Add2 (⟨#[97, 98, 99, 100, 101]⟩ : ByteArray) bytes25 w.heap.size w.heap.size w _ HC1.out HB1.out (Nat.le_refl _)).mono ?_; rintro e W2 ⟨rfl, g, c, hc, hr, hb⟩; have HC2 := Aside0.mk hc; have HR2 := Aside0.mk hr; have HB2 := Aside0.mk hb; clear hc hr hb)
  have hP := carry_Pass2 HC2.out HR2.out HB2.out (Nat.le_refl _)
  refine Calls.mono hP ?_
  clear hP HC1 HB1 HC2 HR2 HB2
  rintro e W3 ⟨rfl, g3, c3, hc, hr, hb⟩
  have HC3 := Aside0.mk hc
  have HR3 := Aside0.mk hr
  have HB3 := Aside0.mk hb
  have t5 : ∀ W : World, W = W3 → Calls Try.prog 10 #[.pointer (some ⟨w.heap.size, 0, none⟩), .int .i64 5] W fun e w' => e = .returned (.tuple #[.string (⟨#[100, 101]⟩ : ByteArray), .bool true]) ∧ ∃ q, w' = W3.drewN q := fun W hW => by subst hW; exact carry_Tail5 HC3.out HR3.out
  have t3 : ∀ q : Nat, Calls Try.prog 10 #[.pointer (some ⟨w.heap.size, 0, none⟩), .int .i64 3] (W3.drewN q) fun e w' => e = .returned (.tuple #[.string ByteArray.empty, .bool false]) ∧ ∃ n, w' = W3.drewN n := fun q => (carry_Tail3 (w := W3.drewN q) HC3.out).mono fun e w' ⟨h1, n, h2⟩ => ⟨h1, q + n, by rw [h2, World.drewN_drewN]⟩
  have hh : ∀ q : Nat, Calls Try.prog 9 #[.pointer (some ⟨w.heap.size, 0, none⟩)] (W3.drewN q) fun e w' => e = .returned (.int .i64 3) ∧ ∃ n, w' = W3.drewN n := fun q => (carry_Held2 (w := W3.drewN q) HC3.out).mono fun e w' ⟨h1, ⟨n, h2⟩⟩ => ⟨h1, q + n, by rw [h2, World.drewN_drewN]⟩
  have hd : ∀ q : Nat, Calls Try.prog 21 #[.pointer (some ⟨w.heap.size, 0, none⟩)] (W3.drewN q) fun e w' => e = .returned (.int .i64 4) ∧ ∃ n, w' = W3.drewN n := fun q => (carry_Done2 (w := W3.drewN q) HC3.out).mono fun e w' ⟨h1, ⟨n, h2⟩⟩ => ⟨h1, q + n, by rw [h2, World.drewN_drewN]⟩
  have T5 := Aside0.mk t5
  have T3 := Aside0.mk t3
  have HH := Aside0.mk hh
  have HD := Aside0.mk hd
  clear hc hr hb HC3 HR3 t5 t3 hh hd
  go_wp2_with (go_at_call 10; fail)
  refine Calls.mono (T5.out _ rfl) ?_
  rintro e w' ⟨rfl, q4, rfl⟩
  go_wp2_with (go_at_call 10; fail)
  refine Calls.mono (T3.out _) ?_
  rintro e w' ⟨rfl, q5, rfl⟩
  go_wp2_with (first | (go_at_call 9; refine Calls.mono (HH.out _) ?_; rintro e w' ⟨rfl, q6, rfl⟩) | (go_at_call 21; refine Calls.mono (HD.out _) ?_; rintro e w' ⟨rfl, q7, rfl⟩))
  go_ret
  exact ⟨rfl, pw_below_drewN HB3.out _⟩

end Go.Proofs.Ytibckaogfdffpaa.P
