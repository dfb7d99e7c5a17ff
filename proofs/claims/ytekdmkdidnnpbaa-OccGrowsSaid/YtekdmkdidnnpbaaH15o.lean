/- Which of two hits comes first: the walk, for all hits. -/
import Derived.Below
import Derived.Deep.Draws
import Derived.OwnWalk
import Derived.Tactics
import Derived.WalkKit
import Derived.KernelRfl
import Derived.RowKit3
import Derived.Deep.LoopGhost
import Derived.Deep.QuietTactic
import Derived.BigQuiet
import Derived.WideLaws
import Derived.Outline
import Derived.StillTailTactics
import Derived.Test.YtekdmkdidnnpbaaShSm
import Derived.Test.YtekdmkdidnnpbaaBase
import Derived.Test.YtekdmkdidnnpbaaPx0
import Derived.Test.YtekdmkdidnnpbaaWEqStruct
namespace Go.Proofs.Ytekdmkdidnnpbaa.P
open Go Go.RowKit Go.Proofs.YtekdmkdidnnpbaaW.PrintWords Go.Proofs.Ytekdmkdidnnpbaa.Base
set_option linter.unusedVariables false
set_option linter.unusedSimpArgs false

theorem dr_n {n : Nat} {A : World} (h : n ≤ A.drawn) (k : Nat) : n ≤ (A.drewN k).drawn := Nat.le_trans h (Nat.le_add_right _ _)
theorem dr_1 {n : Nat} {A : World} (h : n ≤ A.drawn) : n ≤ A.drew.drawn := Nat.le_trans h (Nat.le_add_right _ _)
theorem dr_a {n : Nat} {A : World} (h : n ≤ A.drawn) (o : Obj) : n ≤ (A.alloc o).drawn := h
/-- Which of two numbers comes first. -/
def cmpI (x y : Int) : Int := if x < y then -1 else if y < x then 1 else 0
def occ_Order.f (a0 a1 b0 b1 : Int) : Option Int := some (if cmpI a0 b0 ≠ 0 then cmpI a0 b0 else cmpI a1 b1)
theorem compare_int (x y : Int) (w : World) : Calls Try.prog 60 #[.int .i64 x, .int .i64 y] w fun e w' => e = .returned (.int .i64 (cmpI x y)) ∧ w' = w := by
  have e : Lib.compareInt x y = cmpI x y := by unfold Lib.compareInt cmpI; repeat' split <;> first | rfl | omega
  have := Try.cmp_Compare_int x y w
  rw [e] at this
  exact this
/-- The first of two numbers that is not zero. -/
theorem or_two (x y : Int) (w : World) (b : Nat) (h0 : w.cell? ⟨b, 0, none⟩ = some (.int .i64 x)) (h1 : w.cell? ⟨b, 1, none⟩ = some (.int .i64 y)) :
    Calls Try.prog 59 #[.slice (some ⟨b, 0, none⟩) 2 2] w fun e w' => e = .returned (.int .i64 (if x ≠ 0 then x else y)) ∧ w' = w := by
  by_cases hx : x = 0
  · rw [if_neg (by simp [hx])]
    subst hx
    by_cases hy : y = 0
    · subst hy
      go_enter Try.func59, Try.ntmps59
      go_wp2
      refine wp_loop_rounds 3 ?_
      rw [rounds_succ]
      go_wp2
      rw [rounds_succ]
      go_wp2
      rw [rounds_succ]
      go_wp2
      go_ret
      exact ⟨rfl, rfl⟩
    · have hyb : (y != 0) = true := bne_iff_ne.2 hy
      clear hy
      go_enter Try.func59, Try.ntmps59
      go_wp2
      refine wp_loop_rounds 2 ?_
      rw [rounds_succ]
      go_wp2
      rw [rounds_succ]
      go_wp2
      go_ret
      exact ⟨rfl, rfl⟩
  · rw [if_pos hx]
    have hxb : (x != 0) = true := bne_iff_ne.2 hx
    clear hx
    go_enter Try.func59, Try.ntmps59
    go_wp2
    refine wp_loop_rounds 1 ?_
    rw [rounds_succ]
    go_wp2
    go_ret
    exact ⟨rfl, rfl⟩

theorem eqHit (d : Nat) (w : World) (x0 y0 : Int) (x1 y1 : Int) :
    (Op.equalIn (d + 2) 23 (.agg #[.int .i64 x0, .int .i64 x1]) (.agg #[.int .i64 y0, .int .i64 y1])).run Try.prog w = .ok (x0 == y0 && (x1 == y1)) w := by
  refine eqA_of Try.underlying23 (by kernel_rfl) ?_
  refine eqf_cons (by rfl) (by go_simp; rfl) (by go_simp; rfl) (by go_simp) ?_
  exact eqf_last (by rfl) (by go_simp; rfl) (by go_simp; rfl) (by go_simp)
attribute [local go_sem high] eqHit
set_option maxHeartbeats 4000000 in
set_option maxRecDepth 100000 in
theorem occ_Order.calls2 (a0 a1 b0 b1 : Int) (r : Int) (w : World) (h : occ_Order.f a0 a1 b0 b1 = some r) :
    Calls Try.prog 15 #[.agg #[.int .i64 a0, .int .i64 a1], .agg #[.int .i64 b0, .int .i64 b1]] w fun e w' => e = .returned (.int .i64 r) ∧ Below w.heap.size w w' ∧ w.drawn ≤ w'.drawn := by
  obtain rfl := Option.some.inj h
  clear h
  have hcmp : ∀ x : Int, cmpI x x = 0 := fun x => by unfold cmpI; rw [if_neg (by omega), if_neg (by omega)]
  by_cases hq : a0 = b0 ∧ a1 = b1
  · obtain ⟨rfl, rfl⟩ := hq
    rw [hcmp, hcmp]
    clear hcmp
    have hb1 : (a0 == a0 && (a1 == a1)) = true := by simp
    go_enter Try.func15, Try.ntmps15
    go_wp2
    all_goals
      go_ret
      exact ⟨by simp, ((Below.refl _ _).alloc (Nat.le_refl _) _).alloc (by simp) _, by repeat (first | exact Nat.le_refl _ | (with_reducible apply dr_a) | (with_reducible apply dr_n) | (with_reducible apply dr_1))⟩
  · have hb1 : (a0 == b0 && (a1 == b1)) = false := by
      rw [Bool.eq_false_iff]
      intro h
      rw [Bool.and_eq_true, beq_iff_eq, beq_iff_eq] at h
      exact hq h
    clear hq hcmp
    go_enter Try.func15, Try.ntmps15
    go_wp2
    have hbl : Below w.heap.size w ((w.alloc (Obj.cells #[Value.int .i64 a0, .int .i64 a1] 23)).alloc (Obj.cells #[Value.int .i64 b0, .int .i64 b1] 23)) := ((Below.refl _ _).alloc (Nat.le_refl _) _).alloc (by simp) _
    have HB := Aside0.mk hbl
    have HDr : Aside0 (w.drawn ≤ ((w.alloc (Obj.cells #[Value.int .i64 a0, .int .i64 a1] 23)).alloc (Obj.cells #[Value.int .i64 b0, .int .i64 b1] 23)).drawn) := ⟨Nat.le_refl _⟩
    have c0 : ((w.alloc (Obj.cells #[Value.int .i64 a0, .int .i64 a1] 23)).alloc (Obj.cells #[Value.int .i64 b0, .int .i64 b1] 23)).cell? ⟨w.heap.size, 0, none⟩ = some (.int .i64 a0) := by go_simp
    have c1 : ((w.alloc (Obj.cells #[Value.int .i64 a0, .int .i64 a1] 23)).alloc (Obj.cells #[Value.int .i64 b0, .int .i64 b1] 23)).cell? ⟨w.heap.size, 1, none⟩ = some (.int .i64 a1) := by go_simp
    have c2 : ((w.alloc (Obj.cells #[Value.int .i64 a0, .int .i64 a1] 23)).alloc (Obj.cells #[Value.int .i64 b0, .int .i64 b1] 23)).cell? ⟨w.heap.size + 1, 0, none⟩ = some (.int .i64 b0) := by go_simp
    have c3 : ((w.alloc (Obj.cells #[Value.int .i64 a0, .int .i64 a1] 23)).alloc (Obj.cells #[Value.int .i64 b0, .int .i64 b1] 23)).cell? ⟨w.heap.size + 1, 1, none⟩ = some (.int .i64 b1) := by go_simp
    clear hbl
    generalize (w.alloc (Obj.cells #[Value.int .i64 a0, .int .i64 a1] 23)).alloc (Obj.cells #[Value.int .i64 b0, .int .i64 b1] 23) = W at HB HDr c0 c1 c2 c3 ⊢
    go_still_tail 10, (by kernel_rfl)
    still_call (compare_int _ _ _)
    repeat still_step
    still_call (compare_int _ _ _)
    repeat still_step
    refine wpStill_nil ?_
    go_wp2_with (go_at_call 59; refine (or_two (cmpI a0 b0) (cmpI a1 b1) _ _ (by go_simp) (by go_simp)).mono ?_; rintro e w' ⟨rfl, rfl⟩)
    all_goals
      go_ret
      exact ⟨rfl, by repeat (first | exact HB.out | (with_reducible apply below_drew) | (with_reducible apply pw_below_drewN) | exact Below.alloc HB.out HB.out.size _), by repeat (first | exact HDr.out | (with_reducible apply dr_a) | (with_reducible apply dr_n) | (with_reducible apply dr_1))⟩
theorem occ_Order.calls (a0 a1 b0 b1 : Int) (r : Int) (w : World) (h : occ_Order.f a0 a1 b0 b1 = some r) :
    Calls Try.prog 15 #[.agg #[.int .i64 a0, .int .i64 a1], .agg #[.int .i64 b0, .int .i64 b1]] w fun e w' => e = .returned (.int .i64 r) ∧ Below w.heap.size w w' :=
  (occ_Order.calls2 a0 a1 b0 b1 r w h).mono fun _ _ ⟨h1, h2, _⟩ => ⟨h1, h2⟩

end Go.Proofs.Ytekdmkdidnnpbaa.P
