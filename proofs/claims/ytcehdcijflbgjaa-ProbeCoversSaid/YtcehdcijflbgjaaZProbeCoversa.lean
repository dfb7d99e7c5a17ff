/- Proved here: the row of the law ProbeCovers, with texts that lead to it, merged by a program of this session (wip/merge.py), part 1 of 3; no condition beyond the statement's own. -/
import Derived.Test.YtcehdcijflbgjaaPx0
import Derived.Test.YtcehdcijflbgjaaBase
import Derived.Test.YtcehdcijflbgjaaH13a
import Derived.Test.YtcehdcijflbgjaaH10b
import Derived.BigRegion
import Derived.Test.YtcehdcijflbgjaaH14a
import Derived.Test.YtcehdcijflbgjaaWLast
import Derived.Test.YtcehdcijflbgjaaOb24
import Derived.Test.YtcehdcijflbgjaaH12
import Derived.Sort.QuietIn
import Derived.RangeFuncBox
import Derived.RangeFuncLeaves
import Derived.Shelf.Abstract
import Derived.WalkKit
import Derived.OwnWalkIn
import Derived.TacticsInMore
import Derived.LoopNIn
import Derived.LoopIn
import Derived.Maps.AppendAt
import Derived.Test.YtcehdcijflbgjaaH12a
import Derived.Test.YtcehdcijflbgjaaH09t
import Derived.Sort.CutIn
import Derived.StillTailTactics
import Derived.RangeFuncCalls
import Derived.Stop.RegionWithIn
import Derived.Test.YtcehdcijflbgjaaH24j
import Derived.Test.YtcehdcijflbgjaaP10
import Derived.Test.YtcehdcijflbgjaaOb10
import Derived.Test.YtcehdcijflbgjaaPx29
import Derived.Test.YtcehdcijflbgjaaPx28
import Derived.Test.YtcehdcijflbgjaaPx9
import Derived.Laws.BitsLemmas
import Derived.Test.YtcehdcijflbgjaaOb14
/- Proved here: what Go functions of this seat compute, or a law of it; no condition beyond the statement's own. Written for this claim by a program of this session (wip/myprint.py) over the kit's print.py. -/
namespace Go.Proofs.Ytcehdcijflbgjaa.P
open Go.RowKit Go.Proofs.YtcehdcijflbgjaaW.PrintWords Go.Proofs.YtcehdcijflbgjaaW.PrintLast Go.Proofs.YtcehdcijflbgjaaW.PrintMore
attribute [local go_sem] max2_int min2_int max_two min_two max_three min_three max_four min_four   -- for this text's walks alone
set_option linter.unusedVariables false
set_option linter.unusedSimpArgs false

/-! ### probe_Covers: function 22 -/
def probe_Covers.j0 : Nat → Int → Bool → Int → Int → Int → List Int → Option (Int)
  | 0, _, _, _, _, _, _ => none
  | k + 1, x4, x5, x110000, x110001, x110002, x110003 => if x5 = true then (some (mx 0 x110001)) else (if x4 = 3 then (some 1) else (if x4 = 4 then (some 1) else (some 0)))
def probe_Covers.f (k : Nat) (a0_0 : Int) (a0_1 : Int) (a0_2 : Int) (l0_3 : List Int) : Option (Int) := if a0_0 = 1 then (probe_Covers.j0 k a0_0 (a0_0 == 1) a0_0 a0_1 a0_2 l0_3) else (probe_Covers.j0 k a0_0 (a0_0 == 2) a0_0 a0_1 a0_2 l0_3)
theorem probe_Covers.mono_l : ∀ k, (∀ y0 y1 y2 y3 y4 y5, LeO (probe_Covers.j0 k y0 y1 y2 y3 y4 y5) (probe_Covers.j0 (k + 1) y0 y1 y2 y3 y4 y5))
  | 0 => fun _ _ _ _ _ _ r h => by simp [probe_Covers.j0] at h
  | k + 1 => by
    have ih0 := probe_Covers.mono_l k
    · intro y0 y1 y2 y3 y4 y5
      unfold probe_Covers.j0
      repeat' first
      | (with_reducible exact ih0 _ _ _ _ _ _)
      | (with_reducible exact LeO.refl _)
      | (with_reducible exact LeO.none _)
      | (with_reducible refine LeO.ite ?_ ?_)
      | (with_reducible refine LeO.bind ?_ (fun _ => ?_))
      | exact ih0 _ _ _ _ _ _
      | exact LeO.none _
      | refine LeO.ite ?_ ?_
      | refine LeO.bind ?_ (fun _ => ?_)
theorem probe_Covers.mono : ∀ a0 a1 a2 a3 k, LeO (probe_Covers.f k a0 a1 a2 a3) (probe_Covers.f (k + 1) a0 a1 a2 a3) := by
  intro a0 a1 a2 a3 k
  have ih0 := probe_Covers.mono_l k
  unfold probe_Covers.f
  repeat' first
      | (with_reducible exact ih0 _ _ _ _ _ _)
      | (with_reducible exact LeO.refl _)
      | (with_reducible exact LeO.none _)
      | (with_reducible refine LeO.ite ?_ ?_)
      | (with_reducible refine LeO.bind ?_ (fun _ => ?_))
      | exact ih0 _ _ _ _ _ _
      | exact LeO.none _
      | refine LeO.ite ?_ ?_
      | refine LeO.bind ?_ (fun _ => ?_)
set_option maxHeartbeats 8000000 in
set_option maxRecDepth 100000 in
theorem probe_Covers.calls (k : Nat) (a0_0 : Int) (a0_1 : Int) (a0_2 : Int) (A0_3 : Option Addr) (c0_3 : Nat) (l0_3 : List Int) (r : Int) (w : World) (hr0_3 : Kd.C (Kd.int .i64) w A0_3 l0_3.length l0_3) (hc0_3 : l0_3.length ≤ c0_3) (h : probe_Covers.f k a0_0 a0_1 a0_2 l0_3 = some r) :
    Calls Try.prog 22 #[.agg #[.int .i64 a0_0, .int .i64 a0_1, .int .i64 a0_2, .slice A0_3 l0_3.length c0_3]] w fun e w' => e = .returned (.int .i64 r) ∧ Below w.heap.size w w' := by
  have hu43 := Try.underlying43
  have HR0_3 := Aside0.mk hr0_3
  have HC0_3 := Aside0.mk hc0_3
  clear hr0_3 hc0_3
  have HB := Aside0.mk (Below.refl w.heap.size w)
  have H : (if a0_0 = 1 then (probe_Covers.j0 k a0_0 (a0_0 == 1) a0_0 a0_1 a0_2 l0_3) else (probe_Covers.j0 k a0_0 (a0_0 == 2) a0_0 a0_1 a0_2 l0_3)) = some r := h
  clear h
  have HC2 := Aside0.mk H
  clear H
  go_enter Try.func22, Try.ntmps22
  go_upto_if 5 with (first | ((with_reducible refine gate_dst (N := 1) rfl ?_); refine box_event ?hg (N := 1) ?hd (cs := #[.int .i64 a0_0, .int .i64 a0_1, .int .i64 a0_2, .slice A0_3 l0_3.length c0_3]) (t := 43) ?hr ?_; (case hd => rfl); (case hg => rfl); (case hr => first | (go_simp; done) | (go_simp; rfl)); intro gb109 hg w3 hbox hb; have n0_ := Aside0.mk (below_step (by repeat (first | (with_reducible first | exact HB.out | apply below_alloc | apply pw_below_drewN | apply below_drew1) | exact HB.out)) hb); have n1_ := Aside0.mk (hbox); have n2_ := Aside0.mk ((by rw [hg]; exact (below_size (by repeat (first | (with_reducible first | exact HB.out | apply below_alloc | apply pw_below_drewN | apply below_drew1) | exact HB.out))) : w.heap.size ≤ gb109)); have n3_ := Aside0.mk ((by rw [hg]; exact (below_size (by repeat (first | (with_reducible first | exact HB.out | apply below_alloc | apply pw_below_drewN | apply below_drew1) | exact HB.out))) : w.heap.size ≤ gb109)); clear HB; have HB := n0_; have BK109 := n1_; have GW109 := n2_; have GE109 := n3_; clear n0_ n1_ n2_ n3_; clear hb hbox hg; have hcz4_0 : w3.cell? ⟨gb109, 0, none⟩ = some (.int .i64 a0_0) := (blk_cell BK109.out 0).trans rfl; have hcz4_1 : w3.cell? ⟨gb109, 1, none⟩ = some (.int .i64 a0_1) := (blk_cell BK109.out 1).trans rfl; have hcz4_2 : w3.cell? ⟨gb109, 2, none⟩ = some (.int .i64 a0_2) := (blk_cell BK109.out 2).trans rfl; have hcz4_3 : w3.cell? ⟨gb109, 3, none⟩ = some (.slice A0_3 l0_3.length c0_3) := (blk_cell BK109.out 3).trans rfl; have hfz4_0 := blk_frozen BK109.out 0; have hfz4_1 := blk_frozen BK109.out 1; have hfz4_2 := blk_frozen BK109.out 2; have hfz4_3 := blk_frozen BK109.out 3))
  (try simp only [Act.put, List.setIfInBounds_toArray, List.set_cons_zero, List.set_cons_succ])
  go_cut [5] (fun v5 wc => ∃ (kq : Nat) (x5_1 : Bool), v5 = .bool x5_1 ∧ Aside0 (probe_Covers.j0 kq a0_0 x5_1 a0_0 a0_1 a0_2 l0_3 = some r) ∧ Aside0 (kq ≤ k) ∧ Aside0 (wc.heap[gb109]? = some (.cells #[.int .i64 a0_0, .int .i64 a0_1, .int .i64 a0_2, (.slice A0_3 l0_3.length c0_3)] 43 (0, 0))) ∧ Aside0 (Below w.heap.size w wc))
  case first =>
    have H := HC2.out
    clear HC2
    by_cases c5 : a0_0 = 1
    · rw [if_pos c5] at H
      have c5b0 : (a0_0 == 1) = true := beq_iff_eq.mpr c5
      have c5b1 : (a0_0 != 1) = false := bne_eq_false_iff_eq.mpr c5
      clear c5
      (first | rw [c5b0] | rw [c5b1] | (simp only [i64_w, i32_w]; rw [c5b0]) | skip)
      have H' := Aside0.mk H
      clear H
      go_wp2
      go_meet
      case rel => exact ⟨_, ((a0_0 == 1)), (by first | rfl | exact isE_ _ | exact isE2_ _ | (simp; done) | (simp [*]; done)), H', ⟨by first | omega | exact Nat.le_refl _⟩, ⟨by (with_reducible repeat (first | refine blk_drewN ?_ _ | refine blk_drew ?_ | refine blk_alloc ?_ _)); exact BK109.out⟩, ⟨by repeat (first | (with_reducible first | exact HB.out | apply below_alloc | apply pw_below_drewN | apply below_drew1 | refine below_set ?_ GE109.out) | exact HB.out)⟩⟩
    · rw [if_neg c5] at H
      have c5b0 : (a0_0 == 1) = false := beq_eq_false_iff_ne.mpr c5
      have c5b1 : (a0_0 != 1) = true := bne_iff_ne.mpr c5
      (first | rw [c5b0] | rw [c5b1] | (simp only [i64_w, i32_w]; rw [c5b0]) | skip)
      have H' := Aside0.mk H
      clear H
      go_wp2
      go_meet
      case rel => exact ⟨_, ((a0_0 == 2)), (by first | rfl | exact isE_ _ | exact isE2_ _ | (simp; done) | (simp [*]; done)), H', ⟨by first | omega | exact Nat.le_refl _⟩, ⟨by (with_reducible repeat (first | refine blk_drewN ?_ _ | refine blk_drew ?_ | refine blk_alloc ?_ _)); exact BK109.out⟩, ⟨by repeat (first | (with_reducible first | exact HB.out | apply below_alloc | apply pw_below_drewN | apply below_drew1 | refine below_set ?_ GE109.out) | exact HB.out)⟩⟩
  case rest =>
    clear HC2
    try clear c2
    try clear p2
    try clear c5
    try clear c5b0
    try clear c5b1
    try clear hcz4_0
    try clear hcz4_1
    try clear hcz4_2
    try clear hcz4_3
    try clear hfz4_0
    try clear hfz4_1
    try clear hfz4_2
    try clear hfz4_3
    obtain ⟨kq, x5_1, rfl, HA, HJ1, BK109, HB⟩ := hcut
    cases kq with
    | zero => exact absurd HA.out (by simp [probe_Covers.j0])
    | succ kj1 =>
      have H := HA.out
      clear HA
      simp only [probe_Covers.j0] at H
      by_cases c6 : x5_1 = true
      · subst c6
        have H1 : (some (mx 0 a0_1)) = some r := by rw [if_pos rfl] at H; exact H
        clear H
        have H := H1
        clear H1
        obtain ⟨ji7, hji7⟩ : ∃ j_ : Int, (mx 0 a0_1) = j_ := ⟨_, rfl⟩
        replace H : (some ji7) = some r := by first | (rw [hji7] at H; exact H) | (simp only [hji7] at H ⊢; exact H)
        have hji7_ : (if 0 < a0_1 then a0_1 else 0) = ji7 := hji7
        (try (have hji7n_ := hji7_; simp only [Int.ofNat_lt] at hji7n_))
        obtain rfl := Option.some.inj H
        have hcz8_0 : wc.cell? ⟨gb109, 0, none⟩ = some (.int .i64 a0_0) := (blk_cell BK109.out 0).trans rfl
        have hcz8_1 : wc.cell? ⟨gb109, 1, none⟩ = some (.int .i64 a0_1) := (blk_cell BK109.out 1).trans rfl
        have hcz8_2 : wc.cell? ⟨gb109, 2, none⟩ = some (.int .i64 a0_2) := (blk_cell BK109.out 2).trans rfl
        have hcz8_3 : wc.cell? ⟨gb109, 3, none⟩ = some (.slice A0_3 l0_3.length c0_3) := (blk_cell BK109.out 3).trans rfl
        have hfz8_0 := blk_frozen BK109.out 0
        have hfz8_1 := blk_frozen BK109.out 1
        have hfz8_2 := blk_frozen BK109.out 2
        have hfz8_3 := blk_frozen BK109.out 3
        go_wp2
        go_ret
        exact ⟨by first | rfl | (simp [errW_none, errW_some] <;> rfl) | (simp only [← hji7]; first | rfl | (simp [errW_none, errW_some] <;> rfl)) | (simp [*, errW_none, errW_some] <;> rfl), by repeat (first | (with_reducible first | exact HB.out | apply below_alloc | apply pw_below_drewN | apply below_drew1 | refine below_set ?_ GE109.out) | exact HB.out)⟩
      · replace c6 := Bool.eq_false_iff.mpr c6
        subst c6
        have H1 : (if a0_0 = 3 then (some 1) else (if a0_0 = 4 then (some 1) else (some 0))) = some r := by rw [if_neg (show ¬ (false = true) by decide)] at H; exact H
        clear H
        have H := H1
        clear H1
        by_cases c9 : a0_0 = 3
        · rw [if_pos c9] at H
          have c9b0 : (a0_0 == 3) = true := beq_iff_eq.mpr c9
          have c9b1 : (a0_0 != 3) = false := bne_eq_false_iff_eq.mpr c9
          clear c9
          obtain rfl := Option.some.inj H
          go_wp2
          go_ret
          exact ⟨by first | rfl | (simp [errW_none, errW_some] <;> rfl) | (simp [*, errW_none, errW_some] <;> rfl), by repeat (first | (with_reducible first | exact HB.out | apply below_alloc | apply pw_below_drewN | apply below_drew1 | refine below_set ?_ GE109.out) | exact HB.out)⟩
        · rw [if_neg c9] at H
          have c9b0 : (a0_0 == 3) = false := beq_eq_false_iff_ne.mpr c9
          have c9b1 : (a0_0 != 3) = true := bne_iff_ne.mpr c9
          by_cases c10 : a0_0 = 4
          · rw [if_pos c10] at H
            have c10b0 : (a0_0 == 4) = true := beq_iff_eq.mpr c10
            have c10b1 : (a0_0 != 4) = false := bne_eq_false_iff_eq.mpr c10
            clear c10
            obtain rfl := Option.some.inj H
            go_wp2
            go_ret
            exact ⟨by first | rfl | (simp [errW_none, errW_some] <;> rfl) | (simp [*, errW_none, errW_some] <;> rfl), by repeat (first | (with_reducible first | exact HB.out | apply below_alloc | apply pw_below_drewN | apply below_drew1 | refine below_set ?_ GE109.out) | exact HB.out)⟩
          · rw [if_neg c10] at H
            have c10b0 : (a0_0 == 4) = false := beq_eq_false_iff_ne.mpr c10
            have c10b1 : (a0_0 != 4) = true := bne_iff_ne.mpr c10
            obtain rfl := Option.some.inj H
            go_wp2
            go_ret
            exact ⟨by first | rfl | (simp [errW_none, errW_some] <;> rfl) | (simp [*, errW_none, errW_some] <;> rfl), by repeat (first | (with_reducible first | exact HB.out | apply below_alloc | apply pw_below_drewN | apply below_drew1 | refine below_set ?_ GE109.out) | exact HB.out)⟩

end Go.Proofs.Ytcehdcijflbgjaa.P

/- Proved here: what Go functions of this seat compute, or a law of it; no condition beyond the statement's own. Written for this claim by a program of this session (wip/myprint.py) over the kit's print.py. -/
namespace Go.Proofs.Ytcehdcijflbgjaa.P
open Go.RowKit Go.Proofs.YtcehdcijflbgjaaW.PrintWords Go.Proofs.YtcehdcijflbgjaaW.PrintLast Go.Proofs.YtcehdcijflbgjaaW.PrintMore
attribute [local go_sem] max2_int min2_int max_two min_two max_three min_three max_four min_four   -- for this text's walks alone
set_option linter.unusedVariables false
set_option linter.unusedSimpArgs false

/-! ### juratref24_Covers: function 24 -/
def juratref24_Covers.j0 : Nat → Bool → Int → Int → Int → List Int → Option (Int)
  | 0, _, _, _, _, _ => none
  | k + 1, x10, x293000, x293001, x293002, x293003 => if x10 = true then (if x293001 < 0 then (some 0) else (some x293001)) else (if x293000 = 3 then (some 1) else (if x293000 = 4 then (some 1) else (some 0)))
def juratref24_Covers.f (k : Nat) (a0_0 : Int) (a0_1 : Int) (a0_2 : Int) (l0_3 : List Int) : Option (Int) := if a0_0 = 1 then (juratref24_Covers.j0 k true a0_0 a0_1 a0_2 l0_3) else (juratref24_Covers.j0 k (a0_0 == 2) a0_0 a0_1 a0_2 l0_3)
theorem juratref24_Covers.mono_l : ∀ k, (∀ y0 y1 y2 y3 y4, LeO (juratref24_Covers.j0 k y0 y1 y2 y3 y4) (juratref24_Covers.j0 (k + 1) y0 y1 y2 y3 y4))
  | 0 => fun _ _ _ _ _ r h => by simp [juratref24_Covers.j0] at h
  | k + 1 => by
    have ih0 := juratref24_Covers.mono_l k
    · intro y0 y1 y2 y3 y4
      unfold juratref24_Covers.j0
      repeat' first
      | (with_reducible exact ih0 _ _ _ _ _)
      | (with_reducible exact LeO.refl _)
      | (with_reducible exact LeO.none _)
      | (with_reducible refine LeO.ite ?_ ?_)
      | (with_reducible refine LeO.bind ?_ (fun _ => ?_))
      | exact ih0 _ _ _ _ _
      | exact LeO.none _
      | refine LeO.ite ?_ ?_
      | refine LeO.bind ?_ (fun _ => ?_)
theorem juratref24_Covers.mono : ∀ a0 a1 a2 a3 k, LeO (juratref24_Covers.f k a0 a1 a2 a3) (juratref24_Covers.f (k + 1) a0 a1 a2 a3) := by
  intro a0 a1 a2 a3 k
  have ih0 := juratref24_Covers.mono_l k
  unfold juratref24_Covers.f
  repeat' first
      | (with_reducible exact ih0 _ _ _ _ _)
      | (with_reducible exact LeO.refl _)
      | (with_reducible exact LeO.none _)
      | (with_reducible refine LeO.ite ?_ ?_)
      | (with_reducible refine LeO.bind ?_ (fun _ => ?_))
      | exact ih0 _ _ _ _ _
      | exact LeO.none _
      | refine LeO.ite ?_ ?_
      | refine LeO.bind ?_ (fun _ => ?_)
set_option maxHeartbeats 8000000 in
set_option maxRecDepth 100000 in
theorem juratref24_Covers.calls (k : Nat) (a0_0 : Int) (a0_1 : Int) (a0_2 : Int) (A0_3 : Option Addr) (c0_3 : Nat) (l0_3 : List Int) (r : Int) (w : World) (hr0_3 : Kd.C (Kd.int .i64) w A0_3 l0_3.length l0_3) (hc0_3 : l0_3.length ≤ c0_3) (h : juratref24_Covers.f k a0_0 a0_1 a0_2 l0_3 = some r) :
    Calls Try.prog 24 #[.agg #[.int .i64 a0_0, .int .i64 a0_1, .int .i64 a0_2, .slice A0_3 l0_3.length c0_3]] w fun e w' => e = .returned (.int .i64 r) ∧ Below w.heap.size w w' := by
  have hu43 := Try.underlying43
  have HR0_3 := Aside0.mk hr0_3
  have HC0_3 := Aside0.mk hc0_3
  clear hr0_3 hc0_3
  have HB := Aside0.mk (Below.refl w.heap.size w)
  have H : (if a0_0 = 1 then (juratref24_Covers.j0 k true a0_0 a0_1 a0_2 l0_3) else (juratref24_Covers.j0 k (a0_0 == 2) a0_0 a0_1 a0_2 l0_3)) = some r := h
  clear h
  have HC2 := Aside0.mk H
  clear H
  go_enter Try.func24, Try.ntmps24
  go_upto_region 1 with (first | ((with_reducible refine gate_dst (N := 1) rfl ?_); refine box_event ?hg (N := 1) ?hd (cs := #[.int .i64 a0_0, .int .i64 a0_1, .int .i64 a0_2, .slice A0_3 l0_3.length c0_3]) (t := 43) ?hr ?_; (case hd => rfl); (case hg => rfl); (case hr => first | (go_simp; done) | (go_simp; rfl)); intro gb292 hg w3 hbox hb; have n0_ := Aside0.mk (below_step (by repeat (first | (with_reducible first | exact HB.out | apply below_alloc | apply pw_below_drewN | apply below_drew1) | exact HB.out)) hb); have n1_ := Aside0.mk (hbox); have n2_ := Aside0.mk ((by rw [hg]; exact (below_size (by repeat (first | (with_reducible first | exact HB.out | apply below_alloc | apply pw_below_drewN | apply below_drew1) | exact HB.out))) : w.heap.size ≤ gb292)); have n3_ := Aside0.mk ((by rw [hg]; exact (below_size (by repeat (first | (with_reducible first | exact HB.out | apply below_alloc | apply pw_below_drewN | apply below_drew1) | exact HB.out))) : w.heap.size ≤ gb292)); clear HB; have HB := n0_; have BK292 := n1_; have GW292 := n2_; have GE292 := n3_; clear n0_ n1_ n2_ n3_; clear hb hbox hg))
  (try simp only [Act.put, List.setIfInBounds_toArray, List.set_cons_zero, List.set_cons_succ])
  go_cut [10] (fun v10 wc => ∃ (kq : Nat) (x10_1 : Bool), v10 = .bool x10_1 ∧ Aside0 (juratref24_Covers.j0 kq x10_1 a0_0 a0_1 a0_2 l0_3 = some r) ∧ Aside0 (kq ≤ k) ∧ Aside0 (wc.heap[gb292]? = some (.cells #[.int .i64 a0_0, .int .i64 a0_1, .int .i64 a0_2, (.slice A0_3 l0_3.length c0_3)] 43 (0, 0))) ∧ Aside0 (Below w.heap.size w wc))
  case first =>
    have H := HC2.out
    clear HC2
    by_cases c4 : a0_0 = 1
    · rw [if_pos c4] at H
      have c4b0 : (a0_0 == 1) = true := beq_iff_eq.mpr c4
      have c4b1 : (a0_0 != 1) = false := bne_eq_false_iff_eq.mpr c4
      clear c4
      (first | rw [c4b0] | rw [c4b1] | (simp only [i64_w, i32_w]; rw [c4b0]) | skip)
      have H' := Aside0.mk H
      clear H
      have hcz5_0 : w3.cell? ⟨gb292, 0, none⟩ = some (.int .i64 a0_0) := (blk_cell BK292.out 0).trans rfl
      have hcz5_1 : w3.cell? ⟨gb292, 1, none⟩ = some (.int .i64 a0_1) := (blk_cell BK292.out 1).trans rfl
      have hcz5_2 : w3.cell? ⟨gb292, 2, none⟩ = some (.int .i64 a0_2) := (blk_cell BK292.out 2).trans rfl
      have hcz5_3 : w3.cell? ⟨gb292, 3, none⟩ = some (.slice A0_3 l0_3.length c0_3) := (blk_cell BK292.out 3).trans rfl
      have hfz5_0 := blk_frozen BK292.out 0
      have hfz5_1 := blk_frozen BK292.out 1
      have hfz5_2 := blk_frozen BK292.out 2
      have hfz5_3 := blk_frozen BK292.out 3
      go_wp2
      go_meet
      case rel => exact ⟨_, (true), (by first | rfl | exact isE_ _ | exact isE2_ _ | (simp; done) | (simp [*]; done)), H', ⟨by first | omega | exact Nat.le_refl _⟩, ⟨by (with_reducible repeat (first | refine blk_drewN ?_ _ | refine blk_drew ?_ | refine blk_alloc ?_ _)); exact BK292.out⟩, ⟨by repeat (first | (with_reducible first | exact HB.out | apply below_alloc | apply pw_below_drewN | apply below_drew1 | refine below_set ?_ GE292.out) | exact HB.out)⟩⟩
    · rw [if_neg c4] at H
      have c4b0 : (a0_0 == 1) = false := beq_eq_false_iff_ne.mpr c4
      have c4b1 : (a0_0 != 1) = true := bne_iff_ne.mpr c4
      (first | rw [c4b0] | rw [c4b1] | (simp only [i64_w, i32_w]; rw [c4b0]) | skip)
      have H' := Aside0.mk H
      clear H
      have hcz6_0 : w3.cell? ⟨gb292, 0, none⟩ = some (.int .i64 a0_0) := (blk_cell BK292.out 0).trans rfl
      have hcz6_1 : w3.cell? ⟨gb292, 1, none⟩ = some (.int .i64 a0_1) := (blk_cell BK292.out 1).trans rfl
      have hcz6_2 : w3.cell? ⟨gb292, 2, none⟩ = some (.int .i64 a0_2) := (blk_cell BK292.out 2).trans rfl
      have hcz6_3 : w3.cell? ⟨gb292, 3, none⟩ = some (.slice A0_3 l0_3.length c0_3) := (blk_cell BK292.out 3).trans rfl
      have hfz6_0 := blk_frozen BK292.out 0
      have hfz6_1 := blk_frozen BK292.out 1
      have hfz6_2 := blk_frozen BK292.out 2
      have hfz6_3 := blk_frozen BK292.out 3
      go_wp2
      go_meet
      case rel => exact ⟨_, ((a0_0 == 2)), (by first | rfl | exact isE_ _ | exact isE2_ _ | (simp; done) | (simp [*]; done)), H', ⟨by first | omega | exact Nat.le_refl _⟩, ⟨by (with_reducible repeat (first | refine blk_drewN ?_ _ | refine blk_drew ?_ | refine blk_alloc ?_ _)); exact BK292.out⟩, ⟨by repeat (first | (with_reducible first | exact HB.out | apply below_alloc | apply pw_below_drewN | apply below_drew1 | refine below_set ?_ GE292.out) | exact HB.out)⟩⟩
  case rest =>
    clear HC2
    try clear c2
    try clear p2
    try clear c4
    try clear c4b0
    try clear c4b1
    try clear hcz5_0
    try clear hcz5_1
    try clear hcz5_2
    try clear hcz5_3
    try clear hcz6_0
    try clear hcz6_1
    try clear hcz6_2
    try clear hcz6_3
    try clear hfz5_0
    try clear hfz5_1
    try clear hfz5_2
    try clear hfz5_3
    try clear hfz6_0
    try clear hfz6_1
    try clear hfz6_2
    try clear hfz6_3
    obtain ⟨kq, x10_1, rfl, HA, HJ1, BK292, HB⟩ := hcut
    cases kq with
    | zero => exact absurd HA.out (by simp [juratref24_Covers.j0])
    | succ kj1 =>
      have H := HA.out
      clear HA
      simp only [juratref24_Covers.j0] at H
      by_cases c7 : x10_1 = true
      · subst c7
        have H1 : (if a0_1 < 0 then (some 0) else (some a0_1)) = some r := by rw [if_pos rfl] at H; exact H
        clear H
        have H := H1
        clear H1
        by_cases c8 : a0_1 < 0
        · rw [if_pos c8] at H
          have c8b0 : decide (a0_1 < 0) = true := decide_eq_true c8
          clear c8
          obtain rfl := Option.some.inj H
          have hcz9_0 : wc.cell? ⟨gb292, 0, none⟩ = some (.int .i64 a0_0) := (blk_cell BK292.out 0).trans rfl
          have hcz9_1 : wc.cell? ⟨gb292, 1, none⟩ = some (.int .i64 a0_1) := (blk_cell BK292.out 1).trans rfl
          have hcz9_2 : wc.cell? ⟨gb292, 2, none⟩ = some (.int .i64 a0_2) := (blk_cell BK292.out 2).trans rfl
          have hcz9_3 : wc.cell? ⟨gb292, 3, none⟩ = some (.slice A0_3 l0_3.length c0_3) := (blk_cell BK292.out 3).trans rfl
          have hfz9_0 := blk_frozen BK292.out 0
          have hfz9_1 := blk_frozen BK292.out 1
          have hfz9_2 := blk_frozen BK292.out 2
          have hfz9_3 := blk_frozen BK292.out 3
          go_wp2
          go_ret
          exact ⟨by first | rfl | (simp [errW_none, errW_some] <;> rfl) | (simp [*, errW_none, errW_some] <;> rfl), by repeat (first | (with_reducible first | exact HB.out | apply below_alloc | apply pw_below_drewN | apply below_drew1 | refine below_set ?_ GE292.out) | exact HB.out)⟩
        · rw [if_neg c8] at H
          have c8b0 : decide (a0_1 < 0) = false := decide_eq_false c8
          clear c8
          obtain rfl := Option.some.inj H
          have hcz10_0 : wc.cell? ⟨gb292, 0, none⟩ = some (.int .i64 a0_0) := (blk_cell BK292.out 0).trans rfl
          have hcz10_1 : wc.cell? ⟨gb292, 1, none⟩ = some (.int .i64 a0_1) := (blk_cell BK292.out 1).trans rfl
          have hcz10_2 : wc.cell? ⟨gb292, 2, none⟩ = some (.int .i64 a0_2) := (blk_cell BK292.out 2).trans rfl
          have hcz10_3 : wc.cell? ⟨gb292, 3, none⟩ = some (.slice A0_3 l0_3.length c0_3) := (blk_cell BK292.out 3).trans rfl
          have hfz10_0 := blk_frozen BK292.out 0
          have hfz10_1 := blk_frozen BK292.out 1
          have hfz10_2 := blk_frozen BK292.out 2
          have hfz10_3 := blk_frozen BK292.out 3
          go_wp2
          go_ret
          exact ⟨by first | rfl | (simp [errW_none, errW_some] <;> rfl) | (simp [*, errW_none, errW_some] <;> rfl), by repeat (first | (with_reducible first | exact HB.out | apply below_alloc | apply pw_below_drewN | apply below_drew1 | refine below_set ?_ GE292.out) | exact HB.out)⟩
      · replace c7 := Bool.eq_false_iff.mpr c7
        subst c7
        have H1 : (if a0_0 = 3 then (some 1) else (if a0_0 = 4 then (some 1) else (some 0))) = some r := by rw [if_neg (show ¬ (false = true) by decide)] at H; exact H
        clear H
        have H := H1
        clear H1
        by_cases c11 : a0_0 = 3
        · rw [if_pos c11] at H
          have c11b0 : (a0_0 == 3) = true := beq_iff_eq.mpr c11
          have c11b1 : (a0_0 != 3) = false := bne_eq_false_iff_eq.mpr c11
          clear c11
          obtain rfl := Option.some.inj H
          have hcz12_0 : wc.cell? ⟨gb292, 0, none⟩ = some (.int .i64 a0_0) := (blk_cell BK292.out 0).trans rfl
          have hcz12_1 : wc.cell? ⟨gb292, 1, none⟩ = some (.int .i64 a0_1) := (blk_cell BK292.out 1).trans rfl
          have hcz12_2 : wc.cell? ⟨gb292, 2, none⟩ = some (.int .i64 a0_2) := (blk_cell BK292.out 2).trans rfl
          have hcz12_3 : wc.cell? ⟨gb292, 3, none⟩ = some (.slice A0_3 l0_3.length c0_3) := (blk_cell BK292.out 3).trans rfl
          have hfz12_0 := blk_frozen BK292.out 0
          have hfz12_1 := blk_frozen BK292.out 1
          have hfz12_2 := blk_frozen BK292.out 2
          have hfz12_3 := blk_frozen BK292.out 3
          go_wp2
          go_ret
          exact ⟨by first | rfl | (simp [errW_none, errW_some] <;> rfl) | (simp [*, errW_none, errW_some] <;> rfl), by repeat (first | (with_reducible first | exact HB.out | apply below_alloc | apply pw_below_drewN | apply below_drew1 | refine below_set ?_ GE292.out) | exact HB.out)⟩
        · rw [if_neg c11] at H
          have c11b0 : (a0_0 == 3) = false := beq_eq_false_iff_ne.mpr c11
          have c11b1 : (a0_0 != 3) = true := bne_iff_ne.mpr c11
          by_cases c13 : a0_0 = 4
          · rw [if_pos c13] at H
            have c13b0 : (a0_0 == 4) = true := beq_iff_eq.mpr c13
            have c13b1 : (a0_0 != 4) = false := bne_eq_false_iff_eq.mpr c13
            clear c13
            obtain rfl := Option.some.inj H
            have hcz14_0 : wc.cell? ⟨gb292, 0, none⟩ = some (.int .i64 a0_0) := (blk_cell BK292.out 0).trans rfl
            have hcz14_1 : wc.cell? ⟨gb292, 1, none⟩ = some (.int .i64 a0_1) := (blk_cell BK292.out 1).trans rfl
            have hcz14_2 : wc.cell? ⟨gb292, 2, none⟩ = some (.int .i64 a0_2) := (blk_cell BK292.out 2).trans rfl
            have hcz14_3 : wc.cell? ⟨gb292, 3, none⟩ = some (.slice A0_3 l0_3.length c0_3) := (blk_cell BK292.out 3).trans rfl
            have hfz14_0 := blk_frozen BK292.out 0
            have hfz14_1 := blk_frozen BK292.out 1
            have hfz14_2 := blk_frozen BK292.out 2
            have hfz14_3 := blk_frozen BK292.out 3
            go_wp2
            go_ret
            exact ⟨by first | rfl | (simp [errW_none, errW_some] <;> rfl) | (simp [*, errW_none, errW_some] <;> rfl), by repeat (first | (with_reducible first | exact HB.out | apply below_alloc | apply pw_below_drewN | apply below_drew1 | refine below_set ?_ GE292.out) | exact HB.out)⟩
          · rw [if_neg c13] at H
            have c13b0 : (a0_0 == 4) = false := beq_eq_false_iff_ne.mpr c13
            have c13b1 : (a0_0 != 4) = true := bne_iff_ne.mpr c13
            obtain rfl := Option.some.inj H
            have hcz15_0 : wc.cell? ⟨gb292, 0, none⟩ = some (.int .i64 a0_0) := (blk_cell BK292.out 0).trans rfl
            have hcz15_1 : wc.cell? ⟨gb292, 1, none⟩ = some (.int .i64 a0_1) := (blk_cell BK292.out 1).trans rfl
            have hcz15_2 : wc.cell? ⟨gb292, 2, none⟩ = some (.int .i64 a0_2) := (blk_cell BK292.out 2).trans rfl
            have hcz15_3 : wc.cell? ⟨gb292, 3, none⟩ = some (.slice A0_3 l0_3.length c0_3) := (blk_cell BK292.out 3).trans rfl
            have hfz15_0 := blk_frozen BK292.out 0
            have hfz15_1 := blk_frozen BK292.out 1
            have hfz15_2 := blk_frozen BK292.out 2
            have hfz15_3 := blk_frozen BK292.out 3
            go_wp2
            go_ret
            exact ⟨by first | rfl | (simp [errW_none, errW_some] <;> rfl) | (simp [*, errW_none, errW_some] <;> rfl), by repeat (first | (with_reducible first | exact HB.out | apply below_alloc | apply pw_below_drewN | apply below_drew1 | refine below_set ?_ GE292.out) | exact HB.out)⟩

end Go.Proofs.Ytcehdcijflbgjaa.P

/- The table of shifts as plain data: how a set's bytes fill it; no condition. -/
namespace Go.Proofs.Ytcehdcijflbgjaa.P
open Go Go.RowKit Go.Proofs.Ytcehdcijflbgjaa.Base

/-- One byte's shift, as a pattern's byte at a distance tells it. -/
def shPut (s : ByteArray) (T : List Int) (d : Nat) : List Int := T.set ((LL s).getD (s.size - 1 - d) 0).toNat (min (T.getD ((LL s).getD (s.size - 1 - d) 0).toNat 0) (d : Int))
def shRow (m : Nat) (T : List Int) (s : ByteArray) : List Int := (List.range m).foldl (shPut s) T
def shTab (m : Nat) (l : List ByteArray) : List Int := l.foldl (shRow m) (List.replicate 256 (m : Int))
theorem shPut_length (s : ByteArray) (T : List Int) (d : Nat) : (shPut s T d).length = T.length := List.length_set ..
theorem shPut_eq {s : ByteArray} {T : List Int} {d cc : Nat} (h : ((LL s).getD (s.size - 1 - d) 0).toNat = cc) : shPut s T d = T.set cc (min (T.getD cc 0) (d : Int)) := by unfold shPut; rw [h]
theorem shRow_length (s : ByteArray) (m : Nat) (T : List Int) : (shRow m T s).length = T.length := by
  unfold shRow
  induction m with
  | zero => rfl
  | succ m ih => rw [List.range_succ, List.foldl_append, List.foldl_cons, List.foldl_nil, shPut_length, ih]
theorem shFold_length (m : Nat) : ∀ (l : List ByteArray) (T : List Int), (l.foldl (shRow m) T).length = T.length
  | [], T => rfl
  | s :: l, T => by rw [List.foldl_cons, shFold_length m l, shRow_length]
theorem shTab_length (m : Nat) (l : List ByteArray) : (shTab m l).length = 256 := by
  unfold shTab
  rw [shFold_length, List.length_replicate]

end Go.Proofs.Ytcehdcijflbgjaa.P

/- The table of shifts of a set: the walk. -/
namespace Go.Proofs.Ytcehdcijflbgjaa.P
open Go Go.RowKit Go.Proofs.YtcehdcijflbgjaaW.PrintWords Go.Proofs.YtcehdcijflbgjaaW.PrintMore Go.Proofs.Ytcehdcijflbgjaa.Base
attribute [local go_sem] max2_int min2_int max_two min_two
set_option linter.unusedVariables false
set_option linter.unusedSimpArgs false

def shift_New.f (a0 : Option SetD) : Option (Option ShiftD) :=
  if 0 ≤ setM a0 ∧ (setL a0).length ≤ 8796093022208 ∧ ∀ s ∈ setL a0, setM a0 ≤ s.size ∧ s.size ≤ 4611686018427387904 then some (some ⟨shTab (setM a0).toNat (setL a0), setM a0⟩) else none
theorem sh_next (k : Nat) (m : Int) (h : k < 256) : List.replicate (k + 1) m ++ List.replicate (256 - (k + 1)) 0 = (List.replicate k m ++ List.replicate (256 - k) 0).set k m := by
  rw [List.set_append_right _ _ (by simp), List.length_replicate, Nat.sub_self, show 256 - k = (256 - (k + 1)) + 1 by omega, List.replicate_succ (n := 256 - (k + 1)), List.set_cons_zero, List.replicate_succ', List.append_assoc]
  rfl
set_option maxHeartbeats 8000000 in
set_option maxRecDepth 100000 in
theorem shift_New.calls (Pa0 : Option Addr) (a0 : Option SetD) (r : Option ShiftD) (w : World) (ho : OB K55 w Pa0 a0) (h : shift_New.f a0 = some r) :
    Calls Try.prog 32 #[.pointer Pa0] w fun e w' => ∃ P0_ : Option Addr, e = .returned (.pointer P0_) ∧ OB K86 w' P0_ r ∧ Below w.heap.size w w' := by
  unfold shift_New.f at h
  by_cases hs : 0 ≤ setM a0 ∧ (setL a0).length ≤ 8796093022208 ∧ ∀ s ∈ setL a0, setM a0 ≤ s.size ∧ s.size ≤ 4611686018427387904
  rotate_left
  · rw [if_neg hs] at h; cases h
  rw [if_pos hs] at h
  have HO := Aside0.mk ho
  have hLe := fun W (g : OB K55 W Pa0 a0) => pats_Set_Least.calls Pa0 a0 (setM a0) W g (by cases a0 <;> rfl)
  have hLi := fun W (g : OB K55 W Pa0 a0) => pats_Set_List.calls Pa0 a0 (setL a0) W g (by
    cases a0 with
    | none => rfl
    | some d => show (if d.l.length ≤ 8796093022208 then some d.l else none) = _; rw [if_pos (show d.l.length ≤ 8796093022208 from hs.2.1)]; rfl)
  generalize setL a0 = l at h hs hLi
  generalize setM a0 = mi at h hs hLe
  obtain ⟨h0, h1, h2⟩ := hs
  obtain ⟨m, rfl⟩ : ∃ m : Nat, mi = m := ⟨mi.toNat, by omega⟩
  obtain rfl := Option.some.inj h
  rw [Int.toNat_natCast]
  have HLE := Aside0.mk hLe
  have HLI := Aside0.mk hLi
  have H1 := Aside0.mk h1
  have H2 := Aside0.mk h2
  clear h ho hLe hLi h1 h2 h0
  go_enter Try.func32, Try.ntmps32
  go_wp2_with (go_at_call 48; refine (HLE.out _ HO.out).mono ?_; rintro e w' ⟨rfl, ⟨nd, rfl⟩⟩)
  have hz : Try.zeroCells86.setIfInBounds 256 (Value.int IntKind.i64 (m : Int)) = shCells (List.replicate 0 (m : Int) ++ List.replicate 256 0) m := by
    have : Try.zeroCells86 = shCells (List.replicate 256 0) 0 := by kernel_rfl
    rw [this]
    exact shCells_setlast (by simp) _
  rw [hz]
  clear hz
  go_loopg [13] 256 (fun kx i wr => ∃ (k : Nat), i = .int .i64 k ∧ k ≤ 256 ∧ 256 - k ≤ kx ∧
    Aside0 (wr.heap[w.heap.size]? = some (.cells (shCells (List.replicate k (m : Int) ++ List.replicate (256 - k) 0) m) 86 (0, 0))) ∧ Aside0 (Below w.heap.size w wr))
  case atStart => exact ⟨0, rfl, by omega, by omega, ⟨heap_alloc_new _ _⟩, ⟨(pw_below_drewN (Below.refl _ _) _).alloc (Nat.le_refl _) _⟩⟩
  case round =>
    obtain ⟨k, rfl, hk, hkx, HP, HB⟩ := hrel
    have hlen : (List.replicate k (m : Int) ++ List.replicate (256 - k) 0).length = 256 := by simp; omega
    by_cases hlt : k < 256
    · have hc0 := (blk_cell HP.out 256).trans (shCells_last hlen)
      have hck := (blk_cell HP.out k).trans (shCells_at hlen hlt)
      have hfk := blk_frozen HP.out k
      have HL := Aside0.mk hlen
      clear hlen
      generalize List.getD _ k 0 = z at hck
      go_wp2
      go_still_tail 9, (by kernel_rfl)
      go_wp2
      go_roundg (256 - (k + 1))
      case measure => omega
      case rel =>
        refine ⟨k + 1, by go_num, by omega, Nat.le_refl _, ⟨?_⟩, ⟨?_⟩⟩
        · rw [show List.replicate (k + 1) (m : Int) ++ List.replicate (256 - (k + 1)) 0 = (List.replicate k (m : Int) ++ List.replicate (256 - k) 0).set k m from sh_next k m hlt]
          exact (blk_set HP.out k _).trans (by rw [shCells_set HL.out hlt])
        · repeat (first | exact HB.out | (with_reducible apply below_drew) | (with_reducible apply pw_below_drewN) | exact Below.setCell HB.out (Nat.le_refl _) _)
    · obtain rfl : k = 256 := by omega
      have hB := HB.out
      have hP := HP.out
      simp only [Nat.sub_self, List.replicate_zero, List.append_nil] at hP
      clear hlen HP
      obtain ⟨W0, rfl⟩ : ∃ W0 : World, W0 = wr := ⟨_, rfl⟩
      have HBw := Aside0.mk (show w.heap.size < W0.heap.size from blk_lt hP)
      have HP := Aside0.mk hP
      have HB := Aside0.mk hB
      clear hP hB
      go_wp2_with (go_at_call 30; refine (HLI.out _ (OB.below HB.out HO.out)).mono ?_; rintro e W1 ⟨v, rfl, hR, hb⟩; have HP1 := Aside0.mk ((hb.block _ HBw.out).trans HP.out); have HB1 := Aside0.mk (HB.out.trans (hb.mono (Nat.le_of_lt HBw.out))); obtain ⟨A, c, rfl⟩ := Kd.R_slice hR; have HR := Aside0.mk hR; clear hb hR)
      have HBW := Aside0.mk (blk_lt HP1.out)
      go_loopg [29] l.length (fun kx i wr => ∃ (j : Nat), i = .int .i64 j ∧ j ≤ l.length ∧ l.length - j ≤ kx ∧
        Aside0 (wr.heap[w.heap.size]? = some (.cells (shCells ((l.take j).foldl (shRow m) (List.replicate 256 (m : Int))) m) 86 (0, 0))) ∧ Aside0 (Below w.heap.size w wr) ∧ Aside0 (Kd.R Kd.string 9 wr W0.heap.size (fun _ => True) (.slice A l.length c) l))
      case atStart => exact ⟨0, rfl, Nat.zero_le _, by omega, ⟨by rw [List.take_zero]; exact HP1.out⟩, HB1, HR⟩
      case round =>
        clear HP1 HB1 HR HP HB
        obtain ⟨j, rfl, hj, hjx, HP, HB, HR⟩ := hrel
        have hTl := shFold_length m (l.take j) (List.replicate 256 (m : Int))
        rw [List.length_replicate] at hTl
        by_cases hlt : j < l.length
        · have ht := fold_take (shRow m) (List.replicate 256 (m : Int)) l j hlt
          obtain ⟨ad, hA, hx⟩ := Kd.at_string (Kd.R_reads' HR.out).2.2 (j : Int) (by omega) (by omega)
          obtain rfl : A = some ad := hA
          have hx' : wr.cell? (ad.add j) = some (.string (l.getD j ByteArray.empty)) := hx
          have hs2 := H2.out _ (getD_mem l j ByteArray.empty hlt)
          have hm0 := (blk_cell HP.out 256).trans (shCells_last hTl)
          have HTL := Aside0.mk hTl
          clear hx hTl
          generalize l.getD j ByteArray.empty = s at hx' hs2 ht
          generalize (l.take j).foldl (shRow m) (List.replicate 256 (m : Int)) = T at HP ht HTL
          obtain ⟨T1, hT1⟩ : ∃ T1, (l.take (j + 1)).foldl (shRow m) (List.replicate 256 (m : Int)) = T1 := ⟨_, rfl⟩
          rw [hT1] at ht
          have HT := Aside0.mk ht
          have HT1 := Aside0.mk hT1
          clear ht hT1
          obtain ⟨hs3, hs4⟩ := hs2
          have hl8 := H1.out
          go_wp2
          obtain ⟨Wj, rfl⟩ : ∃ Wj : World, Wj = wr := ⟨_, rfl⟩
          go_loopg [37] m (fun kx i wr => ∃ (d : Nat), i = .int .i64 d ∧ d ≤ m ∧ m - d ≤ kx ∧
            Aside0 (wr.heap[w.heap.size]? = some (.cells (shCells ((List.range d).foldl (shPut s) T) m) 86 (0, 0))) ∧ Aside0 (Below w.heap.size w wr) ∧ Aside0 (Kd.R Kd.string 9 wr W0.heap.size (fun _ => True) (.slice (some ad) l.length c) l))
          case atStart => exact ⟨0, rfl, Nat.zero_le _, by omega, HP, HB, HR⟩
          case round =>
            clear hx' HP HB HR hm0
            obtain ⟨d, rfl, hd, hdx, HP, HB, HR⟩ := hrel
            have hTd : ((List.range d).foldl (shPut s) T).length = 256 := (shRow_length s d T).trans HTL.out
            by_cases hdl : d < m
            · have hm0 := (blk_cell HP.out 256).trans (shCells_last hTd)
              go_wp2
              have hr : (List.range (d + 1)).foldl (shPut s) T = shPut s ((List.range d).foldl (shPut s) T) d := by rw [List.range_succ, List.foldl_append]; rfl
              obtain ⟨cc, hcc⟩ : ∃ cc : Nat, (s[s.size - 1 - d]'(by omega)).toNat = cc := ⟨_, rfl⟩
              have hcl : cc < 256 := by rw [← hcc]; exact UInt8.toNat_lt _
              have hbe : ((LL s).getD (s.size - 1 - d) 0).toNat = cc := by
                rw [List.getD_eq_getElem?_getD, List.getElem?_eq_getElem (by rw [LL_length]; omega), ← hcc]
                rfl
              rw [hcc]
              rw [shPut_eq hbe] at hr
              have HRR := Aside0.mk hr
              have hck := (blk_cell HP.out cc).trans (shCells_at hTd hcl)
              have hfk := blk_frozen HP.out cc
              have HTd := Aside0.mk hTd
              clear hcc hbe hr hTd
              generalize (List.range d).foldl (shPut s) T = Td at HP HTd HRR hck
              have HCK := Aside0.mk hck
              generalize hz : Td.getD cc 0 = z at hck
              have HZ := Aside0.mk hz
              clear hz
              have hci : (cc : Int) < 256 := by omega
              go_still_tail 13, (by kernel_rfl)
              go_wp2
              all_goals
                go_roundg (m - (d + 1))
                case measure => omega
                case rel =>
                  refine ⟨d + 1, by go_num, by omega, Nat.le_refl _, ⟨?_⟩, ⟨?_⟩, ⟨?_⟩⟩
                  · rw [HRR.out, HZ.out]
                    first
                      | (rw [show min z (d : Int) = (d : Int) by omega]; exact (blk_set HP.out cc _).trans (by rw [shCells_set HTd.out hcl]))
                      | (rw [show min z (d : Int) = z by omega]; exact (blk_set HP.out cc _).trans (by rw [shCells_set HTd.out hcl]))
                  · repeat (first | exact HB.out | (with_reducible apply below_drew) | (with_reducible apply pw_below_drewN) | exact Below.setCell HB.out (Nat.le_refl _) _)
                  · exact Kd.R_drew (R_beside HR.out HBw.out _)
            · obtain rfl : m = d := by omega
              go_wp2
              go_roundg (l.length - (j + 1))
              case measure => omega
              case rel =>
                refine ⟨j + 1, by go_num, by omega, Nat.le_refl _, ⟨?_⟩, HB, HR⟩
                rw [HT1.out, HT.out]
                exact HP.out
        · obtain rfl : j = l.length := by omega
          have hP := HP.out
          rw [List.take_length] at hP
          go_wp2
          go_ret
          exact ⟨_, rfl, OB.mk ⟨w.heap.size, rfl, shTab_length m l, hP⟩, HB.out⟩

end Go.Proofs.Ytcehdcijflbgjaa.P

/- The table of pairs of a set: the walk, over the map that the call makes. -/
namespace Go.Proofs.Ytcehdcijflbgjaa.P
open Go Go.RowKit Go.Maps Go.WideMaps Go.Proofs.YtcehdcijflbgjaaW.PrintWords Go.Proofs.YtcehdcijflbgjaaW.PrintLast Go.Proofs.YtcehdcijflbgjaaW.PrintMore Go.Proofs.Ytcehdcijflbgjaa.Base
attribute [local go_sem] max2_int min2_int max_two min_two
set_option linter.unusedVariables false
set_option linter.unusedSimpArgs false

def pair_New.f (a0 : Option SetD) : Option (Option PairD) :=
  if 0 ≤ setM a0 ∧ setM a0 ≤ 65535 ∧ (setL a0).length ≤ 65535 ∧ ∀ s ∈ setL a0, setM a0 ≤ s.size ∧ s.size ≤ 65535 then some (some ⟨prTab ((setM a0).toNat - 1) (setL a0), (((setM a0).toNat - 1 : Nat) : Int)⟩) else none
theorem prPut_eq (s : ByteArray) (D : DataW Unit) (d : Nat) : prPut s D d = if Maps.has D (prK s d) = true ∧ prV D (prK s d) ≤ (d : Int) then D else D.put (prK s d) (.lit (.int .i64 (d : Int))) := rfl
theorem pB_at {s : ByteArray} {d i : Nat} (h : i < s.size) (e : s.size - 1 - d = i) : pB s d = s[i]'h := by
  unfold pB
  rw [e, List.getD_eq_getElem?_getD, List.getElem?_eq_getElem (by rw [LL_length]; exact h)]
  rfl
theorem prPut_at {s : ByteArray} {x y : UInt8} {d : Nat} (hx : pB s (d + 1) = x) (hy : pB s d = y) : prK s d = key2 (x.toNat : Int) (y.toNat : Int) := by unfold prK; rw [hx, hy]
set_option maxHeartbeats 8000000 in
set_option maxRecDepth 100000 in
theorem pair_New.calls (Pa0 : Option Addr) (a0 : Option SetD) (r : Option PairD) (w : World) (ho : OB K55 w Pa0 a0) (h : pair_New.f a0 = some r) :
    Calls Try.prog 33 #[.pointer Pa0] w fun e w' => ∃ P0_ : Option Addr, e = .returned (.pointer P0_) ∧ OB K89 w' P0_ r ∧ Below w.heap.size w w' := by
  unfold pair_New.f at h
  by_cases hs : 0 ≤ setM a0 ∧ setM a0 ≤ 65535 ∧ (setL a0).length ≤ 65535 ∧ ∀ s ∈ setL a0, setM a0 ≤ s.size ∧ s.size ≤ 65535
  rotate_left
  · rw [if_neg hs] at h; cases h
  rw [if_pos hs] at h
  have HO := Aside0.mk ho
  have hLe := fun W (g : OB K55 W Pa0 a0) => pats_Set_Least.calls Pa0 a0 (setM a0) W g (by cases a0 <;> rfl)
  have hLi := fun W (g : OB K55 W Pa0 a0) => pats_Set_List.calls Pa0 a0 (setL a0) W g (by
    cases a0 with
    | none => rfl
    | some d => show (if d.l.length ≤ 8796093022208 then some d.l else none) = _; rw [if_pos (show d.l.length ≤ 8796093022208 from by have := hs.2.2.1; simp only [setL] at this; omega)]; rfl)
  generalize setL a0 = l at h hs hLi
  generalize setM a0 = mi at h hs hLe
  obtain ⟨h0, h0', h1, h2⟩ := hs
  obtain ⟨m0, rfl⟩ : ∃ m : Nat, mi = m := ⟨mi.toNat, by omega⟩
  obtain rfl := Option.some.inj h
  rw [Int.toNat_natCast]
  obtain ⟨m, hm⟩ : ∃ m : Nat, m0 - 1 = m := ⟨_, rfl⟩
  rw [hm]
  have hmm := @run_makeMap Try.prog
  have hf : (if 0 < wrap64 ((m0 : Int) - 1) then wrap64 ((m0 : Int) - 1) else 0) = (m : Int) := by rw [wrap_id (by omega) (by omega)]; split <;> omega
  have H2 := Aside0.mk (show ∀ s ∈ l, m < s.size ∨ m = 0 from fun s hs => by have := h2 s hs; omega)
  have H3 := Aside0.mk (show ∀ s ∈ l, s.size ≤ 65535 from fun s hs => (h2 s hs).2)
  have hm16 : m ≤ 65535 := by omega
  have HLE := Aside0.mk hLe
  have HLI := Aside0.mk hLi
  have H1 := Aside0.mk h1
  clear h ho hLe hLi h1 h2 h0 hm h0'
  go_enter Try.func33, Try.ntmps33
  go_wp2_with (go_at_call 48; refine (HLE.out _ (by first | exact HO.out | exact OB.below ((Below.refl _ _).alloc (Nat.le_refl _) _) HO.out | exact OB.below (((Below.refl _ _).alloc (Nat.le_refl _) _).alloc (Nat.le_succ _) _) HO.out)).mono ?_; rintro e w' ⟨rfl, ⟨nd, rfl⟩⟩)
  have hB0 : Below w.heap.size w (((w.alloc (Obj.map #[] 0)).drewN nd).alloc (Obj.cells #[Value.map (some w.heap.size), Value.int IntKind.i64 (m : Int)] 89)) := (pw_below_drewN ((Below.refl _ _).alloc (Nat.le_refl _) _) nd).alloc (by simp) _
  have hP0 : (((w.alloc (Obj.map #[] 0)).drewN nd).alloc (Obj.cells #[Value.map (some w.heap.size), Value.int IntKind.i64 (m : Int)] 89)).heap[w.heap.size + 1]? = some (.cells #[Value.map (some w.heap.size), Value.int IntKind.i64 (m : Int)] 89 (0, 0)) := by
    have h := heap_alloc_new ((w.alloc (Obj.map #[] 0)).drewN nd) (.cells #[Value.map (some w.heap.size), Value.int IntKind.i64 (m : Int)] 89 (0, 0))
    have e : ((w.alloc (Obj.map #[] 0)).drewN nd).heap.size = w.heap.size + 1 := World.size_alloc _ _
    rw [e] at h
    exact h
  have hO0 : ownsP (((w.alloc (Obj.map #[] 0)).drewN nd).alloc (Obj.cells #[Value.map (some w.heap.size), Value.int IntKind.i64 (m : Int)] 89)) w.heap.size 0 (.map []) := ownsP_below (ownsP_below (World.ownsMap_made _ _ _ _) (pw_below_drewN (Below.refl _ _) nd)) ((Below.refl _ _).alloc (Nat.le_refl _) _)
  have HB0 := Aside0.mk hB0
  have HP0 := Aside0.mk hP0
  have HO0 := Aside0.mk hO0
  clear hB0 hP0 hO0
  generalize ((w.alloc (Obj.map #[] 0)).drewN nd).alloc (Obj.cells #[Value.map (some w.heap.size), Value.int IntKind.i64 (m : Int)] 89) = W0 at HB0 HP0 HO0 ⊢
  refine Calls.mono (HLI.out _ (OB.below HB0.out HO.out)) ?_
  rintro e W1 ⟨v, rfl, hR, hb⟩
  have HP1 := Aside0.mk ((hb.block _ (blk_lt HP0.out)).trans HP0.out)
  have HO1 := Aside0.mk (ownsP_below HO0.out hb)
  have HB1 := Aside0.mk (HB0.out.trans (hb.mono HB0.out.size))
  have HBW := Aside0.mk (blk_lt HP0.out)
  obtain ⟨A, c, rfl⟩ := Kd.R_slice hR
  have HR := Aside0.mk hR
  clear hR hb HP0 HO0 HB0
  have hl1 := H1.out
  go_wp2
  go_loopg [20] l.length (fun kx i wr => ∃ (j : Nat), i = .int .i64 j ∧ j ≤ l.length ∧ l.length - j ≤ kx ∧
    Aside0 (wr.heap[w.heap.size + 1]? = some (.cells #[Value.map (some w.heap.size), Value.int IntKind.i64 (m : Int)] 89 (0, 0))) ∧ Aside0 (ownsP wr w.heap.size (j * m) ((l.take j).foldl (prRow m) (.map []))) ∧ Aside0 (Below w.heap.size w wr) ∧ Aside0 (Kd.R Kd.string 9 wr W0.heap.size (fun _ => True) (.slice A l.length c) l))
  case atStart => exact ⟨0, rfl, Nat.zero_le _, by omega, HP1, ⟨by rw [List.take_zero, Nat.zero_mul]; exact HO1.out⟩, HB1, HR⟩
  case round =>
    clear HP1 HO1 HB1 HR
    obtain ⟨j, rfl, hj, hjx, HP, HM, HB, HR⟩ := hrel
    by_cases hlt : j < l.length
    · have ht := fold_take (prRow m) (.map []) l j hlt
      obtain ⟨ad, hA, hx⟩ := Kd.at_string (Kd.R_reads' HR.out).2.2 (j : Int) (by omega) (by omega)
      obtain rfl : A = some ad := hA
      have hx' : wr.cell? (ad.add j) = some (.string (l.getD j ByteArray.empty)) := hx
      have hs2 := H2.out _ (getD_mem l j ByteArray.empty hlt)
      have hs3 := H3.out _ (getD_mem l j ByteArray.empty hlt)
      have hc1 := (blk_cell HP.out 1).trans (rfl : #[Value.map (some w.heap.size), Value.int IntKind.i64 (m : Int)][1]? = some (Value.int IntKind.i64 (m : Int)))
      have hmap := prFold_map m (l.take j) _ isMap_empty
      clear hx
      generalize l.getD j ByteArray.empty = s at hx' hs2 hs3 ht
      generalize (l.take j).foldl (prRow m) (.map []) = T at HM ht hmap
      obtain ⟨T1, hT1⟩ : ∃ T1, (l.take (j + 1)).foldl (prRow m) (.map []) = T1 := ⟨_, rfl⟩
      rw [hT1] at ht
      have HT := Aside0.mk ht
      have HT1 := Aside0.mk hT1
      have HMP := Aside0.mk hmap
      clear ht hT1 hmap
      go_wp2
      obtain ⟨Wj, rfl⟩ : ∃ Wj : World, Wj = wr := ⟨_, rfl⟩
      go_loopg [28] m (fun kx i wr => ∃ (d : Nat), i = .int .i64 d ∧ d ≤ m ∧ m - d ≤ kx ∧
        Aside0 (wr.heap[w.heap.size + 1]? = some (.cells #[Value.map (some w.heap.size), Value.int IntKind.i64 (m : Int)] 89 (0, 0))) ∧ Aside0 (ownsP wr w.heap.size (j * m + d) ((List.range d).foldl (prPut s) T)) ∧ Aside0 (Below w.heap.size w wr) ∧ Aside0 (Kd.R Kd.string 9 wr W0.heap.size (fun _ => True) (.slice (some ad) l.length c) l))
      case atStart => exact ⟨0, rfl, Nat.zero_le _, by omega, HP, HM, HB, HR⟩
      case round =>
        clear hx' HP HM HB HR hc1
        obtain ⟨d, rfl, hd, hdx, HP, HM, HB, HR⟩ := hrel
        have hmp := prRow_map s HMP.out d
        by_cases hdl : d < m
        · have hms : m < s.size := by omega
          have hc0 := (blk_cell HP.out 0).trans (rfl : #[Value.map (some w.heap.size), Value.int IntKind.i64 (m : Int)][0]? = some (Value.map (some w.heap.size)))
          have hr : (List.range (d + 1)).foldl (prPut s) T = prPut s ((List.range d).foldl (prPut s) T) d := by rw [List.range_succ, List.foldl_append]; rfl
          have hn : j * m + d < maxLen := by
            have : j * m ≤ 65535 * 65535 := Nat.mul_le_mul (by omega) hm16
            unfold maxLen
            omega
          generalize (List.range d).foldl (prPut s) T = Td at HM hr hmp
          have HMt := Aside0.mk hmp
          have HRR := Aside0.mk hr
          have HN := Aside0.mk hn
          clear hmp hr hn
          have w1 : IntKind.i64.wrap ((s.size : Int) - 2) = (s.size : Int) - 2 := by rw [i64_w, wrap_id (by omega) (by omega)]
          have w2 : IntKind.i64.wrap ((s.size : Int) - 2 - (d : Int)) = (s.size : Int) - 2 - (d : Int) := by rw [i64_w, wrap_id (by omega) (by omega)]
          have w3 : IntKind.i64.wrap ((s.size : Int) - 1) = (s.size : Int) - 1 := by rw [i64_w, wrap_id (by omega) (by omega)]
          have w4 : IntKind.i64.wrap ((s.size : Int) - 1 - (d : Int)) = (s.size : Int) - 1 - (d : Int) := by rw [i64_w, wrap_id (by omega) (by omega)]
          have w5 : 0 ≤ (s.size : Int) - 2 - (d : Int) := by omega
          have w6 : 0 ≤ (s.size : Int) - 1 - (d : Int) := by omega
          have w7 : (s.size : Int) - 2 - (d : Int) < (s.size : Int) := by omega
          have w8 : (s.size : Int) - 1 - (d : Int) < (s.size : Int) := by omega
          have w9 : ((s.size : Int) - 2 - (d : Int)).toNat = s.size - 2 - d := by omega
          have w10 : ((s.size : Int) - 1 - (d : Int)).toNat = s.size - 1 - d := by omega
          obtain ⟨x, hx⟩ : ∃ x : UInt8, s[s.size - 2 - d]'(by omega) = x := ⟨_, rfl⟩
          obtain ⟨y, hy⟩ : ∃ y : UInt8, s[s.size - 1 - d]'(by omega) = y := ⟨_, rfl⟩
          go_wp2
          go_region
          have hkx : prK s d = key2 (x.toNat : Int) (y.toNat : Int) := prPut_at ((pB_at (by omega) (by omega)).trans hx) ((pB_at (by omega) rfl).trans hy)
          have hr2 := HRR.out
          rw [prPut_eq, hkx] at hr2
          have HRR2 := Aside0.mk hr2
          have hk0 : ((wr.alloc (Obj.cells #[Value.int IntKind.u8 (x.toNat : Int), Value.int IntKind.u8 (y.toNat : Int)] 90)).drew).heap[wr.heap.size]? = some (.cells #[Value.int IntKind.u8 (x.toNat : Int), Value.int IntKind.u8 (y.toNat : Int)] 90 (0, 0)) := heap_alloc_new wr _
          have hst : Below wr.heap.size wr ((wr.alloc (Obj.cells #[Value.int IntKind.u8 (x.toNat : Int), Value.int IntKind.u8 (y.toNat : Int)] 90)).drew) := below_drew ((Below.refl _ _).alloc (Nat.le_refl _) _)
          have HP6 := Aside0.mk ((hst.block _ (blk_lt HP.out)).trans HP.out)
          have HM6 := Aside0.mk (ownsP_below HM.out hst)
          have HB6 := Aside0.mk (HB.out.trans (hst.mono HB.out.size))
          have HR6 := Aside0.mk (Kd.R_below HR.out hst)
          have hb0 := (blk_cell hk0 0).trans (rfl : #[Value.int IntKind.u8 (x.toNat : Int), Value.int IntKind.u8 (y.toNat : Int)][0]? = some (Value.int IntKind.u8 (x.toNat : Int)))
          have hb1 := (blk_cell hk0 1).trans (rfl : #[Value.int IntKind.u8 (x.toNat : Int), Value.int IntKind.u8 (y.toNat : Int)][1]? = some (Value.int IntKind.u8 (y.toNat : Int)))
          clear hr2 hk0 hst HP HM HB HR HRR hkx hx hy w1 w2 w3 w4 w5 w6 w7 w8 w9 w10 hc0
          generalize (wr.alloc (Obj.cells #[Value.int IntKind.u8 (x.toNat : Int), Value.int IntKind.u8 (y.toNat : Int)] 90)).drew = W6 at HP6 HM6 HB6 HR6 hb0 hb1 ⊢
          have hc0 := (blk_cell HP6.out 0).trans (rfl : #[Value.map (some w.heap.size), Value.int IntKind.i64 (m : Int)][0]? = some (Value.map (some w.heap.size)))
          generalize wr.heap.size = bk at hb0 hb1 ⊢
          have hV : ∀ c : Int, Td.atKey (key2 (x.toNat : Int) (y.toNat : Int)) (.lit (.int .i64 0)) = .lit (.int .i64 c) → c = prV Td (key2 (x.toNat : Int) (y.toNat : Int)) := fun c h => (prV_of h).symm
          have HV := Aside0.mk hV
          clear hV
          obtain ⟨hh, hhe⟩ : ∃ b, Maps.has Td (key2 (x.toNat : Int) (y.toNat : Int)) = b := ⟨_, rfl⟩
          obtain ⟨vv, hve⟩ : ∃ z, prV Td (key2 (x.toNat : Int) (y.toNat : Int)) = z := ⟨_, rfl⟩
          have hrr := HRR2.out
          rw [hhe, hve] at hrr
          have HRR3 := Aside0.mk hrr
          rw [hve] at HV
          have HHE := Aside0.mk hhe
          clear hhe hve HRR2 hrr
          have hlook : ∀ n : Nat, (Instr.lookup 87 (.map (some w.heap.size)) (.agg #[.int .u8 (x.toNat : Int), .int .u8 (y.toNat : Int)]) true).run Try.prog (W6.drewN n) = .ok (.tuple #[.int .i64 vv, .bool hh]) (W6.drewN n) := fun n => by
            obtain ⟨v, ps, h1, h2⟩ := World.ownsMap.look_ok (w := W6.drewN n) (ownsP_below HM6.out (pw_below_drewN (Below.refl _ _) n)) law14 Try.underlying87 (zero14 _) (plainElem_int Try.underlying3 (by decide)) (key14 x y)
            obtain ⟨c, rfl, hc, _⟩ := plainElem_int_inv Try.underlying3 h2
            obtain rfl := HV.out _ (congrArg Prod.fst hc)
            rw [HHE.out] at h1
            exact h1
          have hlook0 := hlook 0
          go_wp2
          go_quiet (fail)
          have HP7 : Aside0 ((W6.drewN nq).heap[w.heap.size + 1]? = some (.cells #[Value.map (some w.heap.size), Value.int IntKind.i64 (m : Int)] 89 (0, 0))) := HP6
          have HM7 : Aside0 (ownsP (W6.drewN nq) w.heap.size (j * m + d) Td) := ⟨ownsP_below HM6.out (pw_below_drewN (Below.refl _ _) nq)⟩
          have HB7 : Aside0 (Below w.heap.size w (W6.drewN nq)) := ⟨pw_below_drewN HB6.out nq⟩
          have HR7 : Aside0 (Kd.R Kd.string 9 (W6.drewN nq) W0.heap.size (fun _ => True) (.slice (some ad) l.length c) l) := ⟨Kd.R_drewN HR6.out nq⟩
          have hb0' : (W6.drewN nq).cell? ⟨bk, 0, none⟩ = some (Value.int IntKind.u8 (x.toNat : Int)) := hb0
          have hb1' : (W6.drewN nq).cell? ⟨bk, 1, none⟩ = some (Value.int IntKind.u8 (y.toNat : Int)) := hb1
          have hc0' : (W6.drewN nq).cell? ⟨w.heap.size + 1, 0, none⟩ = some (Value.map (some w.heap.size)) := hc0
          clear HP6 HM6 HB6 HR6 hb0 hb1 hc0 hlook hlook0
          generalize W6.drewN nq = W7 at HP7 HM7 HB7 HR7 hb0' hb1' hc0' ⊢
          by_cases hq : hh = true ∧ vv ≤ (d : Int)
          · obtain ⟨rfl, hq2⟩ := hq
            have HE := Aside0.mk (HRR3.out.trans (if_pos ⟨rfl, hq2⟩))
            have hd1 : decide ((d : Int) < vv) = false := decide_eq_false (Int.not_lt.2 hq2)
            clear HRR3 hq2
            go_wp2
            go_roundg (m - (d + 1))
            case measure => omega
            case rel => exact ⟨d + 1, by go_num, by omega, Nat.le_refl _, HP7, ⟨by rw [HE.out]; exact HM7.out.mono (by omega)⟩, HB7, HR7⟩
          · have HE := Aside0.mk (HRR3.out.trans (if_neg hq))
            have hor : (!hh || decide ((d : Int) < vv)) = true := by
              cases hh
              · rfl
              · rw [decide_eq_true (Classical.byContradiction fun hn => hq ⟨rfl, Int.not_lt.1 hn⟩)]; rfl
            clear HRR3 hq
            have hw : (Lit.int .i64 (d : Int)).wf = true := WalkArith.wf_i64 (by omega)
            have HWF := Aside0.mk hw
            clear hw
            cases hh
            rotate_left
            have hd1 : decide ((d : Int) < vv) = true := by simpa using hor
            all_goals
              go_wp2
              go_still_tail 6, (by kernel_rfl)
              go_wp2_with (at_mapUpdate; refine wpList_mapUpdate_own _ rfl _ _ _ 87 rfl 90 3 law14 Try.underlying87 _ w.heap.size (j * m + d) _ rfl (by first | exact HM7.out | exact ownsP_below HM7.out (below_drew (Below.refl _ _))) HN.out _ _ _ rfl rfl (key14 x y) _ [] (plainElem_int Try.underlying3 HWF.out) ?_; intro w1 hown1 hgrow1; have HM8 := Aside0.mk hown1; have HG8 := Aside0.mk hgrow1; clear hown1 hgrow1)
              go_roundg (m - (d + 1))
              case measure => omega
              case rel =>
                refine ⟨d + 1, by go_num, by omega, Nat.le_refl _, ⟨?_⟩, ⟨by rw [HE.out]; exact HM8.out⟩, ⟨?_⟩, ⟨?_⟩⟩
                · exact blk_grown (by first | exact HP7.out | exact (show W7.drew.heap[w.heap.size + 1]? = _ from HP7.out)) HG8.out (fun e => by injection e with e; omega)
                · exact Below.grown (by first | exact HB7.out | exact below_drew HB7.out) HG8.out HB7.out.size (fun j hj => by cases hj; exact Nat.le_refl _)
                · exact Kd.R_mono (Kd.R_grown (ok := fun k => W0.heap.size ≤ k) (Kd.R_mono (Kd.R_bound (by first | exact HR7.out | exact Kd.R_drew HR7.out)) (fun k hk => hk.2.1)) HG8.out (fun k hk e => by cases e; have := HBW.out; omega)) (fun _ _ => trivial)
        · obtain rfl : m = d := by omega
          go_wp2
          go_roundg (l.length - (j + 1))
          case measure => omega
          case rel =>
            refine ⟨j + 1, by go_num, by omega, Nat.le_refl _, HP, ⟨?_⟩, HB, HR⟩
            rw [HT1.out, HT.out, Nat.succ_mul]
            exact HM.out
    · obtain rfl : j = l.length := by omega
      have hM := HM.out
      rw [List.take_length] at hM
      have hc0 := (blk_cell HP.out 0).trans (rfl : #[Value.map (some w.heap.size), Value.int IntKind.i64 (m : Int)][0]? = some (Value.map (some w.heap.size)))
      have hc1 := (blk_cell HP.out 1).trans (rfl : #[Value.map (some w.heap.size), Value.int IntKind.i64 (m : Int)][1]? = some (Value.int IntKind.i64 (m : Int)))
      go_wp2
      go_ret
      exact ⟨_, rfl, OB.mk ⟨w.heap.size + 1, w.heap.size, _, rfl, hc0, hc1, hM⟩, HB.out⟩

end Go.Proofs.Ytcehdcijflbgjaa.P

/- What finds evidence for a set: the walk of New. -/
namespace Go.Proofs.Ytcehdcijflbgjaa.P
open Go Go.RowKit Go.Proofs.YtcehdcijflbgjaaW.PrintWords Go.Proofs.YtcehdcijflbgjaaW.PrintLast Go.Proofs.YtcehdcijflbgjaaW.PrintMore Go.Proofs.Ytcehdcijflbgjaa.Base
set_option linter.unusedVariables false
set_option linter.unusedSimpArgs false

def probe_New.f (a0 : Option SetD) : Option (Option ProbeD) :=
  (pats_Set_List.f a0).bind fun l => (bucket_New.f a0).bind fun bk => (shift_New.f a0).bind fun sh => (pair_New.f a0).bind fun pr => some (some ⟨a0, l, bk, sh, pr⟩)
set_option maxHeartbeats 2000000 in
set_option maxRecDepth 100000 in
theorem probe_New.calls (Pa0 : Option Addr) (a0 : Option SetD) (r : Option ProbeD) (w : World) (ho : OB K55 w Pa0 a0) (h : probe_New.f a0 = some r) :
    Calls Try.prog 11 #[.pointer Pa0] w fun e w' => ∃ P0_ : Option Addr, e = .returned (.pointer P0_) ∧ OB K65 w' P0_ r ∧ Below w.heap.size w w' := by
  unfold probe_New.f at h
  obtain ⟨l, h1, h⟩ := Option.bind_eq_some_iff.mp h
  obtain ⟨bk, h2, h⟩ := Option.bind_eq_some_iff.mp h
  obtain ⟨sh, h3, h⟩ := Option.bind_eq_some_iff.mp h
  obtain ⟨pr, h4, h⟩ := Option.bind_eq_some_iff.mp h
  obtain rfl := Option.some.inj h
  have HO := Aside0.mk ho
  have A1 := Aside0.mk h1
  have A2 := Aside0.mk h2
  have A3 := Aside0.mk h3
  have A4 := Aside0.mk h4
  clear h h1 h2 h3 h4 ho
  go_enter Try.func11, Try.ntmps11
  go_wp2_with fail
  refine (pats_Set_List.calls Pa0 a0 l w HO.out A1.out).mono ?_
  rintro e w1 ⟨v, rfl, hR, hb⟩
  have HB1 := Aside0.mk hb
  have HO1 := Aside0.mk (OB.below hb HO.out)
  obtain ⟨A, c, rfl⟩ := Kd.R_slice hR
  obtain ⟨_, hc1, hC1⟩ := Kd.R_reads' hR
  have HC1 := Aside0.mk hC1
  have HC2 := Aside0.mk hc1
  clear hb hR hC1 hc1
  dsimp only
  go_wp2_with fail
  refine (bucket_New.calls Pa0 a0 bk w1 HO1.out A2.out).mono ?_
  rintro e w2 ⟨Pb, rfl, hob, hb⟩
  have HB2 := Aside0.mk (below_step HB1.out hb)
  have HO2 := Aside0.mk (OB.below hb HO1.out)
  have HC3 := Aside0.mk (Kd.C_below HC1.out hb)
  have HK2 := Aside0.mk hob
  clear hb hob
  dsimp only
  go_wp2_with fail
  refine (shift_New.calls Pa0 a0 sh w2 HO2.out A3.out).mono ?_
  rintro e w3 ⟨Ps, rfl, hob, hb⟩
  have HB3 := Aside0.mk (below_step HB2.out hb)
  have HO3 := Aside0.mk (OB.below hb HO2.out)
  have HC4 := Aside0.mk (Kd.C_below HC3.out hb)
  have HK3 := Aside0.mk (OB.below hb HK2.out)
  have HS3 := Aside0.mk hob
  clear hb hob
  dsimp only
  go_wp2_with fail
  refine (pair_New.calls Pa0 a0 pr w3 HO3.out A4.out).mono ?_
  rintro e w4 ⟨Pp, rfl, hob, hb⟩
  have HB4 := Aside0.mk (below_step HB3.out hb)
  have HO4 := Aside0.mk (OB.below hb HO3.out)
  have HC5 := Aside0.mk (Kd.C_below HC4.out hb)
  have HK4 := Aside0.mk (OB.below hb HK3.out)
  have HS4 := Aside0.mk (OB.below hb HS3.out)
  have HP4 := Aside0.mk hob
  clear hb hob
  dsimp only
  go_wp2_with fail
  go_ret
  have hz := below_alloc (Below.refl w4.heap.size w4) (.cells #[.pointer Pa0, .slice A l.length c, .pointer Pb, .pointer Ps, .pointer Pp] 65)
  exact ⟨some ⟨w4.heap.size, 0, none⟩, rfl, OB.mk ⟨w4.heap.size, Pa0, A, c, Pb, Ps, Pp, rfl, heap_alloc_new _ _, HC2.out, Kd.C_below HC5.out hz, OB.below hz HO4.out, OB.below hz HK4.out, OB.below hz HS4.out, OB.below hz HP4.out⟩, below_step HB4.out hz⟩
end Go.Proofs.Ytcehdcijflbgjaa.P

/- What goes through a bucket, and a bucket's numbers: an iterator, and a loop over it; for all buckets that a set makes. -/
namespace Go.Proofs.Ytcehdcijflbgjaa.P
open Go Go.RowKit Go.Shelf Go.Proofs.YtcehdcijflbgjaaW.PrintWords Go.Proofs.Ytcehdcijflbgjaa.Base
set_option linter.unusedVariables false
set_option linter.unusedSimpArgs false

attribute [local go_sem] Oper.semAt_some

/-- What has come when k rounds are over. -/
def uptoF {α : Type} (f : Nat → α) (k : Nat) : List α := (List.range k).map f
theorem uptoF_succ {α : Type} (f : Nat → α) (k : Nat) : uptoF f (k + 1) = uptoF f k ++ [f k] := by simp [uptoF, List.range_succ]
theorem uptoF_length {α : Type} (f : Nat → α) (k : Nat) : (uptoF f k).length = k := by simp [uptoF]
theorem uptoF_take (zs : List Int) {k : Nat} (hk : k ≤ zs.length) : uptoF (fun j => zs[j]?.getD 0) k = zs.take k := by
  apply List.ext_getElem
  · simp [uptoF, hk]
  · intro i h1 h2
    have : i < zs.length := by simp [uptoF] at h1; omega
    simp [uptoF, this]

set_option maxRecDepth 100000 in
set_option maxHeartbeats 4000000 in
theorem each1_in (n : Nat) (hn : 1 ≤ n) (l Bb Bc n₀ b cc len cap : Nat) (A : Option Addr) (zs : List Int) (hcc : cc < 256) (hreach : len ≤ 1099511627776) (hb : b < n₀) (J Jx : List Int → World → Prop)
    (hY : ∀ pre x W, J pre W → pre.length < len → YieldAt Fence.wide (n - 1) Try.prog l #[.int .i64 x] W fun e W' =>
      (e = .returned (.bool true) ∧ J (pre ++ [x]) W' ∧ Below n₀ W W') ∨ (e = .returned (.bool false) ∧ Jx (pre ++ [x]) W'))
    (W : World) (hBb : W.cell? ⟨Bb, 0, none⟩ = some (.pointer (some ⟨b, 0, none⟩))) (hBc : W.cell? ⟨Bc, 0, none⟩ = some (.int .u8 (cc : Int))) (hcell : W.cell? ⟨b, cc, none⟩ = some (.slice A len cap))
    (hA : 0 < len → ∃ ad : Addr, A = some ad ∧ ad.block < n₀ ∧ ∀ j, j < len → W.cell? (ad.add j) = some (.int .i64 (zs[j]?.getD 0))) (hJd : ∀ pre W q, J pre W → J pre (W.drewN q)) (h0 : J [] W) :
    CallsIn Fence.wide n Try.prog 49 #[.func (.yield l) #[] #[], .pointer (some ⟨Bb, 0, none⟩), .pointer (some ⟨Bc, 0, none⟩)] W fun e W' => (∃ v, e = .returned v) ∧
      ((∃ ys, ys = uptoF (fun j => zs[j]?.getD 0) len ∧ J ys W') ∨ (∃ pre, (∃ k, k ≤ len ∧ pre = uptoF (fun j => zs[j]?.getD 0) k) ∧ Jx pre W')) := by
  have hci : (cc : Int) < 256 := by omega
  refine callsIn_of_wp Try.func49 rfl trivial ?_ rfl
  simp only [Try.ntmps49, List.size_toArray, List.length_cons, List.length_nil, Nat.reduceAdd, Nat.reduceSub, Array.replicate_succ, Array.replicate_zero, List.push_toArray, List.append_toArray, List.nil_append, List.cons_append]
  gi_wp2
  gi_quiet (fail)
  all_goals
    gi_wp2
    gi_loopw [15] (fun i wr => ∃ k : Nat, k ≤ len ∧ i = .int .i64 k ∧ J (uptoF (fun j => zs[j]?.getD 0) k) wr ∧ Below n₀ W wr)
      (fun i _ => len - (intOf i).toNat)
    case atStart => exact ⟨0, Nat.zero_le _, rfl, hJd _ _ _ h0, pw_below_drewN (Below.refl _ _) _⟩
    case round =>
      obtain ⟨k, hk, rfl, hJs, hnx⟩ := hrel
      by_cases hlt : k < len
      · obtain ⟨ad, rfl, hadb, hcx⟩ := hA (by omega)
        have hcx' : wr.cell? (ad.add k) = some (.int .i64 (zs[k]?.getD 0)) := (hnx.cell (p := ad.add k) (by unfold Addr.add; split <;> exact hadb)).trans (hcx k hlt)
        obtain ⟨fn, tmps, assign, body, hy, hR⟩ := hY _ (zs[k]?.getD 0) wr hJs (by rw [uptoF_length]; exact hlt)
        gi_wp2
        refine hR.mono ?_
        rintro e W3 (⟨rfl, hJ3, hk3⟩ | ⟨rfl, hJx3⟩)
        · gi_wp2
          go_roundw
          case rel => exact ⟨k + 1, by omega, by simp, by rw [uptoF_succ]; exact hJ3, hnx.trans hk3⟩
          case measure => simp [intOf]; omega
        · gi_wp2
          refine bodyPost_ret (results_none rfl _ _ _) rfl ?_
          exact ⟨⟨_, rfl⟩, .inr ⟨_, ⟨k + 1, by omega, (uptoF_succ _ _).symm⟩, hJx3⟩⟩
      · obtain rfl : k = len := by omega
        gi_wp2
        go_end0
        exact ⟨⟨_, rfl⟩, .inl ⟨_, rfl, hJs⟩⟩

set_option maxHeartbeats 1000000 in
theorem each_in (n : Nat) (p : Option Addr) (c : Int) (w : World) :
    CallsIn Fence.wide n Try.prog 35 #[.pointer p, .int .u8 c] w fun e w' => e = .returned (.func (.func 49) #[] #[.pointer (some ⟨w.heap.size, 0, none⟩), .pointer (some ⟨w.heap.size + 1, 0, none⟩)]) ∧ w' = (w.alloc (.cells #[.pointer p] 58)).alloc (.cells #[.int .u8 c] 5) := by
  refine callsIn_of_wp Try.func35 rfl trivial ?_ rfl
  simp only [Try.ntmps35, List.size_toArray, List.length_cons, List.length_nil, Nat.reduceAdd, Nat.reduceSub, Array.replicate_succ, Array.replicate_zero, List.push_toArray, List.append_toArray, List.nil_append, List.cons_append]
  gi_wp2
  go_ret
  exact ⟨rfl, rfl⟩
/-- Each hands back an iterator that goes through a bucket's numbers, in order, as far as it is let. -/
theorem each_stops (n : Nat) (hn : 1 ≤ n) (Bb Bc n₀ b cc cap : Nat) (A : Option Addr) (zs : List Int) (hcc : cc < 256) (hreach : zs.length ≤ 1099511627776) (hb : b < n₀) (w : World) (hBs : Bb < w.heap.size ∧ Bc < w.heap.size) (hn₀ : n₀ ≤ w.heap.size)
    (hBb : w.cell? ⟨Bb, 0, none⟩ = some (.pointer (some ⟨b, 0, none⟩))) (hBc : w.cell? ⟨Bc, 0, none⟩ = some (.int .u8 (cc : Int))) (hcell : w.cell? ⟨b, cc, none⟩ = some (.slice A zs.length cap))
    (hA : 0 < zs.length → ∃ ad : Addr, A = some ad ∧ ad.block < n₀ ∧ ∀ j, j < zs.length → w.cell? (ad.add j) = some (.int .i64 (zs[j]?.getD 0))) :
    SeqStopsK Fence.wide n Try.prog 49 #[.pointer (some ⟨Bb, 0, none⟩), .pointer (some ⟨Bc, 0, none⟩)] (fun x : Int => #[Value.int .i64 x]) (Below n₀) (fun ys => ys = zs) (fun pre => pre <+: zs) zs.length w := fun l J Jx W hW hJ _ hY h0 => by
  have hcar : ∀ (a : Addr) (v : Value), a.block < w.heap.size → w.cell? a = some v → W.cell? a = some v := fun a v ha h => (hW.cell (p := a) ha).trans h
  refine (each1_in n hn l Bb Bc n₀ b cc zs.length cap A zs hcc hreach hb J Jx hY W (hcar _ _ hBs.1 hBb) (hcar _ _ hBs.2 hBc) (hcar _ _ (by show b < w.heap.size; omega) hcell)
    (fun h => by obtain ⟨ad, e, h1, h2⟩ := hA h; exact ⟨ad, e, h1, fun j hj => hcar _ _ (by unfold Addr.add; split <;> (show ad.block < w.heap.size; omega)) (h2 j hj)⟩)
    (fun pre W1 q h => hJ pre W1 _ none h (grown_of_below (pw_below_drewN (Below.refl _ _) q) none) (fun r e => by cases e)) h0).mono ?_
  rintro e W' ⟨he, ⟨ys, rfl, hj⟩ | ⟨pre, ⟨k, hk, rfl⟩, hj⟩⟩
  · exact ⟨he, .inl ⟨_, by rw [uptoF_take zs (Nat.le_refl _), List.take_length], hj⟩⟩
  · exact ⟨he, .inr ⟨_, by rw [uptoF_take zs hk]; exact List.take_prefix _ _, hj⟩⟩
theorem info12f : (Try.prog.info? 3).map (fun i => (i.zero, i.size, i.bytes)) = some (some (.int .i64 0), 1, 8) := by kernel_rfl


end Go.Proofs.Ytcehdcijflbgjaa.P

/- What goes through a bucket, where each number is known to be one of the bucket's. -/
namespace Go.Proofs.Ytcehdcijflbgjaa.P
open Go Go.RowKit Go.Shelf Go.Proofs.YtcehdcijflbgjaaW.PrintWords Go.Proofs.Ytcehdcijflbgjaa.Base
set_option linter.unusedVariables false
set_option linter.unusedSimpArgs false

attribute [local go_sem] Oper.semAt_some

set_option maxRecDepth 100000 in
set_option maxHeartbeats 4000000 in
theorem each1_inP (n : Nat) (hn : 1 ≤ n) (l Bb Bc n₀ b cc len cap : Nat) (A : Option Addr) (zs : List Int) (hcc : cc < 256) (hreach : len ≤ 1099511627776) (hb : b < n₀) (J Jx : List Int → World → Prop)
    (hY : ∀ pre x W, J pre W → pre.length < len → x = zs[pre.length]?.getD 0 → YieldAt Fence.wide (n - 1) Try.prog l #[.int .i64 x] W fun e W' =>
      (e = .returned (.bool true) ∧ J (pre ++ [x]) W' ∧ Below n₀ W W') ∨ (e = .returned (.bool false) ∧ Jx (pre ++ [x]) W'))
    (W : World) (hBb : W.cell? ⟨Bb, 0, none⟩ = some (.pointer (some ⟨b, 0, none⟩))) (hBc : W.cell? ⟨Bc, 0, none⟩ = some (.int .u8 (cc : Int))) (hcell : W.cell? ⟨b, cc, none⟩ = some (.slice A len cap))
    (hA : 0 < len → ∃ ad : Addr, A = some ad ∧ ad.block < n₀ ∧ ∀ j, j < len → W.cell? (ad.add j) = some (.int .i64 (zs[j]?.getD 0))) (hJd : ∀ pre W q, J pre W → J pre (W.drewN q)) (h0 : J [] W) :
    CallsIn Fence.wide n Try.prog 49 #[.func (.yield l) #[] #[], .pointer (some ⟨Bb, 0, none⟩), .pointer (some ⟨Bc, 0, none⟩)] W fun e W' => (∃ v, e = .returned v) ∧
      ((∃ ys, ys = uptoF (fun j => zs[j]?.getD 0) len ∧ J ys W') ∨ (∃ pre, (∃ k, k ≤ len ∧ pre = uptoF (fun j => zs[j]?.getD 0) k) ∧ Jx pre W')) := by
  have hci : (cc : Int) < 256 := by omega
  refine callsIn_of_wp Try.func49 rfl trivial ?_ rfl
  simp only [Try.ntmps49, List.size_toArray, List.length_cons, List.length_nil, Nat.reduceAdd, Nat.reduceSub, Array.replicate_succ, Array.replicate_zero, List.push_toArray, List.append_toArray, List.nil_append, List.cons_append]
  gi_wp2
  gi_quiet (fail)
  all_goals
    gi_wp2
    gi_loopw [15] (fun i wr => ∃ k : Nat, k ≤ len ∧ i = .int .i64 k ∧ J (uptoF (fun j => zs[j]?.getD 0) k) wr ∧ Below n₀ W wr)
      (fun i _ => len - (intOf i).toNat)
    case atStart => exact ⟨0, Nat.zero_le _, rfl, hJd _ _ _ h0, pw_below_drewN (Below.refl _ _) _⟩
    case round =>
      obtain ⟨k, hk, rfl, hJs, hnx⟩ := hrel
      by_cases hlt : k < len
      · obtain ⟨ad, rfl, hadb, hcx⟩ := hA (by omega)
        have hcx' : wr.cell? (ad.add k) = some (.int .i64 (zs[k]?.getD 0)) := (hnx.cell (p := ad.add k) (by unfold Addr.add; split <;> exact hadb)).trans (hcx k hlt)
        obtain ⟨fn, tmps, assign, body, hy, hR⟩ := hY _ (zs[k]?.getD 0) wr hJs (by rw [uptoF_length]; exact hlt) (by rw [uptoF_length])
        gi_wp2
        refine hR.mono ?_
        rintro e W3 (⟨rfl, hJ3, hk3⟩ | ⟨rfl, hJx3⟩)
        · gi_wp2
          go_roundw
          case rel => exact ⟨k + 1, by omega, by simp, by rw [uptoF_succ]; exact hJ3, hnx.trans hk3⟩
          case measure => simp [intOf]; omega
        · gi_wp2
          refine bodyPost_ret (results_none rfl _ _ _) rfl ?_
          exact ⟨⟨_, rfl⟩, .inr ⟨_, ⟨k + 1, by omega, (uptoF_succ _ _).symm⟩, hJx3⟩⟩
      · obtain rfl : k = len := by omega
        gi_wp2
        go_end0
        exact ⟨⟨_, rfl⟩, .inl ⟨_, rfl, hJs⟩⟩

/-- .. and of each number a property is known that all of the bucket's have. -/
theorem each_stopsP (p : Int → Prop) (n : Nat) (hn : 1 ≤ n) (Bb Bc n₀ b cc cap : Nat) (A : Option Addr) (zs : List Int) (hz : ∀ x ∈ zs, p x) (hcc : cc < 256) (hreach : zs.length ≤ 1099511627776) (hb : b < n₀) (w : World) (hBs : Bb < w.heap.size ∧ Bc < w.heap.size) (hn₀ : n₀ ≤ w.heap.size)
    (hBb : w.cell? ⟨Bb, 0, none⟩ = some (.pointer (some ⟨b, 0, none⟩))) (hBc : w.cell? ⟨Bc, 0, none⟩ = some (.int .u8 (cc : Int))) (hcell : w.cell? ⟨b, cc, none⟩ = some (.slice A zs.length cap))
    (hA : 0 < zs.length → ∃ ad : Addr, A = some ad ∧ ad.block < n₀ ∧ ∀ j, j < zs.length → w.cell? (ad.add j) = some (.int .i64 (zs[j]?.getD 0))) :
    SeqStopsK Fence.wide n Try.prog 49 #[.pointer (some ⟨Bb, 0, none⟩), .pointer (some ⟨Bc, 0, none⟩)] (fun x : {x : Int // p x} => #[Value.int .i64 x.1]) (Below n₀) (fun ys => ys.map (·.1) = zs) (fun pre => pre.map (·.1) <+: zs) zs.length w := fun l J Jx W hW hJ _ hY h0 => by
  have hcar : ∀ (a : Addr) (v : Value), a.block < w.heap.size → w.cell? a = some v → W.cell? a = some v := fun a v ha h => (hW.cell (p := a) ha).trans h
  refine (each1_inP n hn l Bb Bc n₀ b cc zs.length cap A zs hcc hreach hb (fun pre W => ∃ pre' : List {x : Int // p x}, pre'.map (·.1) = pre ∧ J pre' W) (fun pre W => ∃ pre' : List {x : Int // p x}, pre'.map (·.1) = pre ∧ Jx pre' W)
    (fun pre x W1 h hlt hx => ?_) W (hcar _ _ hBs.1 hBb) (hcar _ _ hBs.2 hBc) (hcar _ _ (by show b < w.heap.size; omega) hcell)
    (fun h => by obtain ⟨ad, e, h1, h2⟩ := hA h; exact ⟨ad, e, h1, fun j hj => hcar _ _ (by unfold Addr.add; split <;> (show ad.block < w.heap.size; omega)) (h2 j hj)⟩)
    (fun pre W1 q h => by obtain ⟨pre', e, h⟩ := h; exact ⟨pre', e, hJ pre' W1 _ none h (grown_of_below (pw_below_drewN (Below.refl _ _) q) none) (fun r e => by cases e)⟩) ⟨[], rfl, h0⟩).mono ?_
  · obtain ⟨pre', e, h⟩ := h
    have hp : p x := hz x (by rw [hx, List.getElem?_eq_getElem hlt]; exact List.getElem_mem hlt)
    have hlen : pre'.length = pre.length := by rw [← e, List.length_map]
    obtain ⟨fn, tmps, assign, body, hy, hR⟩ := hY pre' ⟨x, hp⟩ W1 h (by rw [hlen]; exact hlt)
    refine ⟨fn, tmps, assign, body, hy, hR.mono ?_⟩
    rintro e' W' (⟨h1, h2, h3⟩ | ⟨h1, h2⟩)
    · exact .inl ⟨h1, ⟨pre' ++ [⟨x, hp⟩], by rw [List.map_append, e]; rfl, h2⟩, h3⟩
    · exact .inr ⟨h1, ⟨pre' ++ [⟨x, hp⟩], by rw [List.map_append, e]; rfl, h2⟩⟩
  · rintro e W' ⟨he, ⟨ys, rfl, ys', e1, hj⟩ | ⟨pre, ⟨k, hk, rfl⟩, pre', e1, hj⟩⟩
    · exact ⟨he, .inl ⟨ys', e1.trans (by rw [uptoF_take zs (Nat.le_refl _), List.take_length]), hj⟩⟩
    · exact ⟨he, .inr ⟨pre', by show pre'.map (·.1) <+: zs; rw [e1, uptoF_take zs hk]; exact List.take_prefix _ _, hj⟩⟩
end Go.Proofs.Ytcehdcijflbgjaa.P

/- Proved here: what Go functions of this seat compute, or a law of it; no condition beyond the statement's own. Written for this claim by a program of this session (wip/myprint.py) over the kit's print.py. -/
namespace Go.Proofs.Ytcehdcijflbgjaa.P
open Go.RowKit Go.Proofs.YtcehdcijflbgjaaW.PrintWords Go.Proofs.YtcehdcijflbgjaaW.PrintLast Go.Proofs.YtcehdcijflbgjaaW.PrintMore
attribute [local go_sem] max2_int min2_int max_two min_two max_three min_three max_four min_four   -- for this text's walks alone
set_option linter.unusedVariables false
set_option linter.unusedSimpArgs false

/-! ### juratref09_Few: function 6 -/
def juratref09_Few.l0 : Nat → List ByteArray → Int → Int → Option (Bool)
  | 0, _, _, _ => none
  | k + 1, x0, x2, x7 => if x7 < (x0.length : Int) then (if 0 ≤ x7 then (if ((rdOf ByteArray.empty x0 x7).size : Int) > x2 then (some false) else (juratref09_Few.l0 k x0 x2 (wrap64 (x7 + 1)))) else (none)) else (some true)
def juratref09_Few.f (k : Nat) (l0 : List ByteArray) (a1 : Int) (a2 : Int) : Option (Bool) := if (l0.length : Int) > a1 then (some false) else (juratref09_Few.l0 k l0 a2 0)
theorem juratref09_Few.mono_l : ∀ k, (∀ y0 y1 y2, LeO (juratref09_Few.l0 k y0 y1 y2) (juratref09_Few.l0 (k + 1) y0 y1 y2))
  | 0 => fun _ _ _ r h => by simp [juratref09_Few.l0] at h
  | k + 1 => by
    have ih0 := juratref09_Few.mono_l k
    · intro y0 y1 y2
      unfold juratref09_Few.l0
      repeat' first
      | (with_reducible exact ih0 _ _ _)
      | (with_reducible exact LeO.refl _)
      | (with_reducible exact LeO.none _)
      | (with_reducible refine LeO.ite ?_ ?_)
      | (with_reducible refine LeO.bind ?_ (fun _ => ?_))
      | exact ih0 _ _ _
      | exact LeO.none _
      | refine LeO.ite ?_ ?_
      | refine LeO.bind ?_ (fun _ => ?_)
theorem juratref09_Few.mono : ∀ a0 a1 a2 k, LeO (juratref09_Few.f k a0 a1 a2) (juratref09_Few.f (k + 1) a0 a1 a2) := by
  intro a0 a1 a2 k
  have ih0 := juratref09_Few.mono_l k
  unfold juratref09_Few.f
  repeat' first
      | (with_reducible exact ih0 _ _ _)
      | (with_reducible exact LeO.refl _)
      | (with_reducible exact LeO.none _)
      | (with_reducible refine LeO.ite ?_ ?_)
      | (with_reducible refine LeO.bind ?_ (fun _ => ?_))
      | exact ih0 _ _ _
      | exact LeO.none _
      | refine LeO.ite ?_ ?_
      | refine LeO.bind ?_ (fun _ => ?_)
set_option maxHeartbeats 8000000 in
set_option maxRecDepth 100000 in
theorem juratref09_Few.calls (k : Nat) (A0 : Option Addr) (c0 : Nat) (l0 : List ByteArray) (a1 : Int) (a2 : Int) (r : Bool) (w : World) (hr0 : Kd.C Kd.string w A0 l0.length l0) (hc0 : l0.length ≤ c0) (h : juratref09_Few.f k l0 a1 a2 = some r) :
    Calls Try.prog 6 #[.slice A0 l0.length c0, .int .i64 a1, .int .i64 a2] w fun e w' => e = .returned (.bool r) ∧ Drawn0 w w' := by
  have HR0 := Aside0.mk hr0
  have HC0 := Aside0.mk hc0
  clear hr0 hc0
  have H : (if (l0.length : Int) > a1 then (some false) else (juratref09_Few.l0 k l0 a2 0)) = some r := h
  clear h
  by_cases c4 : (l0.length : Int) > a1
  · rw [if_pos c4] at H
    have c4b0 : decide (a1 < (l0.length : Int)) = true := decide_eq_true c4
    clear c4
    obtain rfl := Option.some.inj H
    go_enter Try.func6, Try.ntmps6
    go_wp2
    go_ret
    exact ⟨by first | rfl | (simp; done) | (simp [*]; done), by repeat (first | exact Drawn0.refl _ | apply Drawn0.step)⟩
  · rw [if_neg c4] at H
    have c4b0 : decide (a1 < (l0.length : Int)) = false := decide_eq_false c4
    clear c4
    have H' := Aside0.mk H
    clear H
    go_enter Try.func6, Try.ntmps6
    go_wp2
    go_loopg [7] k (fun kq v7 w' => ∃ (x7_1 : Int), v7 = .int .i64 x7_1 ∧ Aside0 (juratref09_Few.l0 kq l0 a2 x7_1 = some r) ∧ Aside0 (kq ≤ k) ∧ Drawn0 w w')
    case atStart => exact ⟨(0), (by first | rfl | exact isE_ _ | exact isE2_ _ | (simp; done) | (simp [*]; done)), H', ⟨Nat.le_refl _⟩, by repeat (first | exact Drawn0.refl _ | apply Drawn0.step)⟩
    case round =>
      clear H'
      try clear p2
      try clear c4
      try clear c4b0
      obtain ⟨x7_1, rfl, HA, HK1, ⟨m1, rfl⟩⟩ := hrel
      cases gk with
      | zero => exact absurd HA.out (by simp [juratref09_Few.l0])
      | succ k1 =>
        have H := HA.out
        clear HA
        simp only [juratref09_Few.l0] at H
        by_cases c5 : x7_1 < (l0.length : Int)
        · rw [if_pos c5] at H
          have c5b0 : decide (x7_1 < (l0.length : Int)) = true := decide_eq_true c5
          clear c5
          by_cases c6 : 0 ≤ x7_1
          · rw [if_pos c6] at H
            have c6b0 : decide (0 ≤ x7_1) = true := decide_eq_true c6
            clear c6
            by_cases c7 : ((rdOf ByteArray.empty l0 x7_1).size : Int) > a2
            · rw [if_pos c7] at H
              have c7b0 : decide (a2 < ((rdOf ByteArray.empty l0 x7_1).size : Int)) = true := decide_eq_true c7
              clear c7
              obtain rfl := Option.some.inj H
              have p101 : 0 ≤ (x7_1 : Int) := of_decide_eq_true (by first | (with_reducible assumption) | assumption)
              have q101 : x7_1 < (l0.length : Int) := of_decide_eq_true (by first | (with_reducible assumption) | assumption)
              obtain ⟨ad101, e101, hx101_0⟩ := Kd.at_string HR0.out x7_1 p101 q101
              cases e101
              replace p101 := eq_true p101
              replace q101 := eq_true q101
              go_wp2
              go_ret
              exact ⟨by first | rfl | (simp; done) | (simp [*]; done), by repeat (first | exact Drawn0.refl _ | apply Drawn0.step)⟩
            · rw [if_neg c7] at H
              have c7b0 : decide (a2 < ((rdOf ByteArray.empty l0 x7_1).size : Int)) = false := decide_eq_false c7
              clear c7
              have H' := Aside0.mk H
              clear H
              have p101 : 0 ≤ (x7_1 : Int) := of_decide_eq_true (by first | (with_reducible assumption) | assumption)
              have q101 : x7_1 < (l0.length : Int) := of_decide_eq_true (by first | (with_reducible assumption) | assumption)
              obtain ⟨ad101, e101, hx101_0⟩ := Kd.at_string HR0.out x7_1 p101 q101
              cases e101
              replace p101 := eq_true p101
              replace q101 := eq_true q101
              go_wp2
              go_roundg k1
              case measure => have := HK1.out; omega
              case rel => exact ⟨(wrap64 (x7_1 + 1)), (by first | rfl | exact isE_ _ | exact isE2_ _ | (simp; done) | (simp [*]; done)), H', ⟨by have := HK1.out; omega⟩, by repeat (first | exact Drawn0.refl _ | apply Drawn0.step)⟩
          · rw [if_neg c6] at H
            exact absurd H (by simp)
        · rw [if_neg c5] at H
          have c5b0 : decide (x7_1 < (l0.length : Int)) = false := decide_eq_false c5
          clear c5
          obtain rfl := Option.some.inj H
          go_wp2
          go_ret
          exact ⟨by first | rfl | (simp; done) | (simp [*]; done), by repeat (first | exact Drawn0.refl _ | apply Drawn0.step)⟩

end Go.Proofs.Ytcehdcijflbgjaa.P

/- What layer 9 and its reference compute, as plain functions on lists of bytes; no condition beyond the sizes that stand in each statement. -/
namespace Go.Proofs.Ytcehdcijflbgjaa.Base
open Go Go.RowKit Go.Proofs.YtcehdcijflbgjaaW.PrintWords Go.Proofs.YtcehdcijflbgjaaW.PrintMore Go.Proofs.Ytcehdcijflbgjaa.P
set_option linter.unusedVariables false

/-! few texts, of few bytes -/
def fewB (l : List ByteArray) (b : Int) : Bool := l.all fun s => decide ((s.size : Int) ≤ b)
theorem fewB_iff {l : List ByteArray} {b : Int} : fewB l b = true ↔ ∀ s ∈ l, (s.size : Int) ≤ b := by unfold fewB; rw [List.all_eq_true]; simp
theorem few_l0 (l : List ByteArray) (b : Int) (hm : l.length ≤ 9223372036854775807) : ∀ (d i : Nat), i + d = l.length →
    Ev (fun k => juratref09_Few.l0 k l b (i : Int)) (fewB (l.drop i) b) := by
  intro d
  induction d with
  | zero =>
    intro i hi
    refine Ev.ret fun k => ?_
    simp only [juratref09_Few.l0]
    rw [if_neg (by omega), List.drop_of_length_le (by omega)]
    rfl
  | succ d ih =>
    intro i hi
    have hd := getD_drop l i ByteArray.empty (by omega)
    have e : rdOf ByteArray.empty l (i : Int) = l.getD i ByteArray.empty := rfl
    have e2 : fewB (l.drop i) b = (decide (((l.getD i ByteArray.empty).size : Int) ≤ b) && fewB (l.drop (i + 1)) b) := by rw [hd]; rfl
    rw [e2]
    by_cases h : ((l.getD i ByteArray.empty).size : Int) > b
    · refine Ev.ret fun k => ?_
      simp only [juratref09_Few.l0]
      rw [if_pos (by omega), if_pos (by omega), e, if_pos h, decide_eq_false (by omega)]
      rfl
    · rw [decide_eq_true (by omega), Bool.true_and]
      refine Ev.step (f := fun k => juratref09_Few.l0 k l b ((i + 1 : Nat) : Int)) (fun k => ?_) (ih (i + 1) (by omega))
      simp only [juratref09_Few.l0]
      rw [if_pos (by omega), if_pos (by omega), e, if_neg h, wrap_id (by omega) (by omega)]
      rfl
theorem few_ev (l : List ByteArray) (m b : Int) (hm : l.length ≤ 9223372036854775807) : Ev (fun k => juratref09_Few.f k l m b) (decide ((l.length : Int) ≤ m) && fewB l b) := by
  by_cases h : (l.length : Int) > m
  · rw [decide_eq_false (by omega)]
    refine Ev.const fun k => ?_
    unfold juratref09_Few.f
    rw [if_pos h]
    rfl
  · have h' := few_l0 l b hm l.length 0 (by omega)
    rw [List.drop_zero] at h'
    rw [decide_eq_true (by omega), Bool.true_and]
    refine Ev.congr (fun k => ?_) h'
    unfold juratref09_Few.f
    rw [if_neg h]
    rfl

/-! sorted: two lists in order with the same texts are one -/
theorem up_unique : ∀ {l m : List ByteArray}, l.Perm m → upB l → upB m → l = m
  | [], m, h, _, _ => by rw [List.nil_perm.1 h]
  | x :: l, [], h, _, _ => by have := h.length_eq; simp at this
  | x :: l, y :: m, h, hl, hm => by
    obtain ⟨hl1, hl2⟩ := List.pairwise_cons.1 hl
    obtain ⟨hm1, hm2⟩ := List.pairwise_cons.1 hm
    have e : x = y := by
      rcases bl_tri (LL x) (LL y) with h' | h' | h'
      · exact LL_inj h'
      · rcases List.mem_cons.1 (h.mem_iff.1 List.mem_cons_self : x ∈ y :: m) with rfl | hx
        · rfl
        · rw [hm1 x hx] at h'; cases h'
      · rcases List.mem_cons.1 (h.mem_iff.2 List.mem_cons_self : y ∈ x :: l) with rfl | hy
        · rfl
        · rw [hl1 y hy] at h'; cases h'
    subst e
    rw [up_unique (List.Perm.cons_inv h) hl2 hm2]
theorem sortB_up (l : List ByteArray) : upB (sortB l) := by
  have h := List.pairwise_mergeSort (le := fun x y : ByteArray => !Op.bytesLess (LL y) (LL x)) (fun a b c h1 h2 => by
      simp only [Bool.not_eq_true'] at h1 h2 ⊢
      exact bl_ntrans h2 h1) (fun a b => by
      rcases bl_tri (LL a) (LL b) with h | h | h
      · rw [h, bl_irrefl]; rfl
      · rw [bl_asym h]; rfl
      · rw [bl_asym h]; simp) l
  exact h.imp (fun h => by simpa using h)
theorem sortB_perm (l : List ByteArray) : (sortB l).Perm l := List.mergeSort_perm _ _
theorem sortB_of {l m : List ByteArray} (h : m.Perm l) (hu : upB m) : m = sortB l := up_unique (h.trans (sortB_perm l).symm) hu (sortB_up l)
theorem sortB_sized {l : List ByteArray} (h : sizedB l) : sizedB (sortB l) := ⟨by rw [sortB_length]; exact h.1, fun s hs => h.2 s ((sortB_perm l).mem_iff.1 hs)⟩

theorem take_snoc {α : Type} (l : List α) (i : Nat) (z : α) (h : i < l.length) : l.take (i + 1) = l.take i ++ [l.getD i z] := by
  rw [List.take_succ_eq_append_getElem h, List.getD_eq_getElem?_getD, List.getElem?_eq_getElem h]; rfl

end Go.Proofs.Ytcehdcijflbgjaa.Base

/- Proved here: what Go functions of this seat compute, or a law of it; no condition beyond the statement's own. Written for this claim by a program of this session (wip/myprint.py) over the kit's print.py. -/
namespace Go.Proofs.Ytcehdcijflbgjaa.P
open Go.RowKit Go.Proofs.YtcehdcijflbgjaaW.PrintWords Go.Proofs.YtcehdcijflbgjaaW.PrintLast Go.Proofs.YtcehdcijflbgjaaW.PrintMore
attribute [local go_sem] max2_int min2_int max_two min_two max_three min_three max_four min_four   -- for this text's walks alone
set_option linter.unusedVariables false
set_option linter.unusedSimpArgs false

/-! ### affix_Suffix: function 50 -/
def affix_Suffix.l0 : Nat → ByteArray → ByteArray → Int → Int → Int → Option (Int)
  | 0, _, _, _, _, _ => none
  | k + 1, x0, x1, x5, x12, x13 => if x13 < x12 then (if 0 ≤ (wrap64 ((wrap64 ((x0.size : Int) - 1)) - x13)) then (if (wrap64 ((wrap64 ((x0.size : Int) - 1)) - x13)) < (x0.size : Int) then (if 0 ≤ (wrap64 ((wrap64 ((x1.size : Int) - 1)) - x13)) then (if (wrap64 ((wrap64 ((x1.size : Int) - 1)) - x13)) < (x1.size : Int) then (if (bt x0 (wrap64 ((wrap64 ((x0.size : Int) - 1)) - x13))) = (bt x1 (wrap64 ((wrap64 ((x1.size : Int) - 1)) - x13))) then (affix_Suffix.l0 k x0 x1 x5 x12 (wrap64 (x13 + 1))) else (some x13)) else (none)) else (none)) else (none)) else (none)) else (some x5)
def affix_Suffix.f (k : Nat) (a0 : ByteArray) (a1 : ByteArray) : Option (Int) := affix_Suffix.l0 k a0 a1 (mn (a0.size : Int) (a1.size : Int)) (mn (a0.size : Int) (a1.size : Int)) 0
theorem affix_Suffix.mono_l : ∀ k, (∀ y0 y1 y2 y3 y4, LeO (affix_Suffix.l0 k y0 y1 y2 y3 y4) (affix_Suffix.l0 (k + 1) y0 y1 y2 y3 y4))
  | 0 => fun _ _ _ _ _ r h => by simp [affix_Suffix.l0] at h
  | k + 1 => by
    have ih0 := affix_Suffix.mono_l k
    · intro y0 y1 y2 y3 y4
      unfold affix_Suffix.l0
      repeat' first
      | (with_reducible exact ih0 _ _ _ _ _)
      | (with_reducible exact LeO.refl _)
      | (with_reducible exact LeO.none _)
      | (with_reducible refine LeO.ite ?_ ?_)
      | (with_reducible refine LeO.bind ?_ (fun _ => ?_))
      | exact ih0 _ _ _ _ _
      | exact LeO.none _
      | refine LeO.ite ?_ ?_
      | refine LeO.bind ?_ (fun _ => ?_)
theorem affix_Suffix.mono : ∀ a0 a1 k, LeO (affix_Suffix.f k a0 a1) (affix_Suffix.f (k + 1) a0 a1) := by
  intro a0 a1 k
  have ih0 := affix_Suffix.mono_l k
  unfold affix_Suffix.f
  repeat' first
      | (with_reducible exact ih0 _ _ _ _ _)
      | (with_reducible exact LeO.refl _)
      | (with_reducible exact LeO.none _)
      | (with_reducible refine LeO.ite ?_ ?_)
      | (with_reducible refine LeO.bind ?_ (fun _ => ?_))
      | exact ih0 _ _ _ _ _
      | exact LeO.none _
      | refine LeO.ite ?_ ?_
      | refine LeO.bind ?_ (fun _ => ?_)
set_option maxHeartbeats 8000000 in
set_option maxRecDepth 100000 in
theorem affix_Suffix.calls (k : Nat) (a0 : ByteArray) (a1 : ByteArray) (r : Int) (w : World) (h : affix_Suffix.f k a0 a1 = some r) :
    Calls Try.prog 50 #[.string a0, .string a1] w fun e w' => e = .returned (.int .i64 r) ∧ Drawn0 w w' := by
  have H : (affix_Suffix.l0 k a0 a1 (mn (a0.size : Int) (a1.size : Int)) (mn (a0.size : Int) (a1.size : Int)) 0) = some r := h
  clear h
  obtain ⟨ji3, hji3⟩ : ∃ j_ : Int, (mn (a0.size : Int) (a1.size : Int)) = j_ := ⟨_, rfl⟩
  replace H : (affix_Suffix.l0 k a0 a1 ji3 ji3 0) = some r := by first | (rw [hji3] at H; exact H) | (simp only [hji3] at H ⊢; exact H)
  (try (have hji3l : 0 ≤ ji3 := by (rw [← hji3]; unfold mn; (repeat' split) <;> omega)))
  (try (have hji3m : 0 ≤ ji3 := by omega))
  have hji3_ : (if (a1.size : Int) < (a0.size : Int) then (a1.size : Int) else (a0.size : Int)) = ji3 := hji3
  (try (have hji3n_ := hji3_; simp only [Int.ofNat_lt] at hji3n_))
  have H' := Aside0.mk H
  clear H
  go_enter Try.func50, Try.ntmps50
  go_wp2
  repeat (go_quiet (fail); try go_wp2)
  go_loopg [13] k (fun kq v13 w' => ∃ (x13_1 : Int), v13 = .int .i64 x13_1 ∧ Aside0 (affix_Suffix.l0 kq a0 a1 ji3 ji3 x13_1 = some r) ∧ Aside0 (kq ≤ k) ∧ Drawn0 w w')
  case atStart => exact ⟨(0), (by first | rfl | exact isE_ _ | exact isE2_ _ | (simp; done) | (simp [*]; done)), H', ⟨Nat.le_refl _⟩, by repeat (first | exact Drawn0.refl _ | apply Drawn0.step)⟩
  case round =>
    clear H'
    try clear p2
    obtain ⟨x13_1, rfl, HA, HK1, ⟨m1, rfl⟩⟩ := hrel
    cases gk with
    | zero => exact absurd HA.out (by simp [affix_Suffix.l0])
    | succ k1 =>
      have H := HA.out
      clear HA
      simp only [affix_Suffix.l0] at H
      by_cases c4 : x13_1 < ji3
      · rw [if_pos c4] at H
        have c4b0 : decide (x13_1 < ji3) = true := decide_eq_true c4
        clear c4
        obtain ⟨ji5, hji5⟩ : ∃ j_ : Int, (wrap64 ((wrap64 ((a0.size : Int) - 1)) - x13_1)) = j_ := ⟨_, rfl⟩
        replace H : (if 0 ≤ (ji5) then (if (ji5) < (a0.size : Int) then (if 0 ≤ (wrap64 ((wrap64 ((a1.size : Int) - 1)) - x13_1)) then (if (wrap64 ((wrap64 ((a1.size : Int) - 1)) - x13_1)) < (a1.size : Int) then (if (bt a0 (ji5)) = (bt a1 (wrap64 ((wrap64 ((a1.size : Int) - 1)) - x13_1))) then (affix_Suffix.l0 k1 a0 a1 ji3 ji3 (wrap64 (x13_1 + 1))) else (some x13_1)) else (none)) else (none)) else (none)) else (none)) = some r := by first | (rw [hji5] at H; exact H) | (simp only [hji5] at H ⊢; exact H)
        have hji5w : (IntKind.i64.wrap ((wrap64 ((a0.size : Int) - 1)) - x13_1)) = ji5 := (i64_w _).trans hji5
        by_cases c6 : 0 ≤ (ji5)
        · rw [if_pos c6] at H
          have c6b0 : decide (0 ≤ (ji5)) = true := decide_eq_true c6
          clear c6
          by_cases c7 : (ji5) < (a0.size : Int)
          · rw [if_pos c7] at H
            have c7b0 : decide ((ji5) < (a0.size : Int)) = true := decide_eq_true c7
            clear c7
            obtain ⟨ji9, hji9⟩ : ∃ j_ : Int, (wrap64 ((wrap64 ((a1.size : Int) - 1)) - x13_1)) = j_ := ⟨_, rfl⟩
            replace H : (if 0 ≤ (ji9) then (if (ji9) < (a1.size : Int) then (if (bt a0 (ji5)) = (bt a1 (ji9)) then (affix_Suffix.l0 k1 a0 a1 ji3 ji3 (wrap64 (x13_1 + 1))) else (some x13_1)) else (none)) else (none)) = some r := by first | (rw [hji9] at H; exact H) | (simp only [hji9] at H ⊢; exact H)
            have hji9w : (IntKind.i64.wrap ((wrap64 ((a1.size : Int) - 1)) - x13_1)) = ji9 := (i64_w _).trans hji9
            by_cases c10 : 0 ≤ (ji9)
            · rw [if_pos c10] at H
              have c10b0 : decide (0 ≤ (ji9)) = true := decide_eq_true c10
              clear c10
              by_cases c11 : (ji9) < (a1.size : Int)
              · rw [if_pos c11] at H
                have c11b0 : decide ((ji9) < (a1.size : Int)) = true := decide_eq_true c11
                clear c11
                by_cases c13 : (bt a0 (ji5)) = (bt a1 (ji9))
                · rw [if_pos c13] at H
                  have c13b0 : ((bt a0 (ji5)) == (bt a1 (ji9))) = true := beq_iff_eq.mpr c13
                  have c13b1 : ((bt a0 (ji5)) != (bt a1 (ji9))) = false := bne_eq_false_iff_eq.mpr c13
                  clear c13
                  have H' := Aside0.mk H
                  clear H
                  have p8 : 0 ≤ ((ji5) : Int) := of_decide_eq_true (by first | (with_reducible assumption) | assumption)
                  have q8 : (ji5) < (a0.size : Int) := of_decide_eq_true (by first | (with_reducible assumption) | assumption)
                  have hx8 := bt_at a0 (ji5)
                  replace p8 := eq_true p8
                  replace q8 := eq_true q8
                  have p12 : 0 ≤ ((ji9) : Int) := of_decide_eq_true (by first | (with_reducible assumption) | assumption)
                  have q12 : (ji9) < (a1.size : Int) := of_decide_eq_true (by first | (with_reducible assumption) | assumption)
                  have hx12 := bt_at a1 (ji9)
                  replace p12 := eq_true p12
                  replace q12 := eq_true q12
                  go_wp2
                  repeat (go_quiet (fail); try go_wp2)
                  go_roundg k1
                  case measure => have := HK1.out; omega
                  case rel => exact ⟨(wrap64 (x13_1 + 1)), (by first | rfl | exact isE_ _ | exact isE2_ _ | (simp; done) | (simp [*]; done)), H', ⟨by have := HK1.out; omega⟩, by repeat (first | exact Drawn0.refl _ | apply Drawn0.step)⟩
                · rw [if_neg c13] at H
                  have c13b0 : ((bt a0 (ji5)) == (bt a1 (ji9))) = false := beq_eq_false_iff_ne.mpr c13
                  have c13b1 : ((bt a0 (ji5)) != (bt a1 (ji9))) = true := bne_iff_ne.mpr c13
                  obtain rfl := Option.some.inj H
                  have p8 : 0 ≤ ((ji5) : Int) := of_decide_eq_true (by first | (with_reducible assumption) | assumption)
                  have q8 : (ji5) < (a0.size : Int) := of_decide_eq_true (by first | (with_reducible assumption) | assumption)
                  have hx8 := bt_at a0 (ji5)
                  replace p8 := eq_true p8
                  replace q8 := eq_true q8
                  have p12 : 0 ≤ ((ji9) : Int) := of_decide_eq_true (by first | (with_reducible assumption) | assumption)
                  have q12 : (ji9) < (a1.size : Int) := of_decide_eq_true (by first | (with_reducible assumption) | assumption)
                  have hx12 := bt_at a1 (ji9)
                  replace p12 := eq_true p12
                  replace q12 := eq_true q12
                  go_wp2
                  repeat (go_quiet (fail); try go_wp2)
                  go_ret
                  exact ⟨by first | rfl | (simp; done) | (simp only [← hji3, ← hji5, ← hji9] <;> (first | rfl | simp)) | (simp [*]; done), by repeat (first | exact Drawn0.refl _ | apply Drawn0.step)⟩
              · rw [if_neg c11] at H
                exact absurd H (by simp)
            · rw [if_neg c10] at H
              exact absurd H (by simp)
          · rw [if_neg c7] at H
            exact absurd H (by simp)
        · rw [if_neg c6] at H
          exact absurd H (by simp)
      · rw [if_neg c4] at H
        have c4b0 : decide (x13_1 < ji3) = false := decide_eq_false c4
        clear c4
        obtain rfl := Option.some.inj H
        go_wp2
        repeat (go_quiet (fail); try go_wp2)
        go_ret
        exact ⟨by first | rfl | (simp; done) | (simp only [← hji3] <;> (first | rfl | simp)) | (simp [*]; done), by repeat (first | exact Drawn0.refl _ | apply Drawn0.step)⟩

end Go.Proofs.Ytcehdcijflbgjaa.P

/- Proved here: what Go functions of this seat compute, or a law of it; no condition beyond the statement's own. Written for this claim by a program of this session (wip/myprint.py) over the kit's print.py. -/
namespace Go.Proofs.Ytcehdcijflbgjaa.P
open Go.RowKit Go.Proofs.YtcehdcijflbgjaaW.PrintWords Go.Proofs.YtcehdcijflbgjaaW.PrintLast Go.Proofs.YtcehdcijflbgjaaW.PrintMore
attribute [local go_sem] max2_int min2_int max_two min_two max_three min_three max_four min_four   -- for this text's walks alone
set_option linter.unusedVariables false
set_option linter.unusedSimpArgs false

/-! ### affix_Ends: function 37 -/
def affix_Ends.f (k : Nat) (a0 : ByteArray) (a1 : ByteArray) : Option (Bool) := (affix_Suffix.f k a0 a1).bind fun t108 => (some (t108 == (a1.size : Int)))
theorem affix_Ends.mono : ∀ a0 a1 k, LeO (affix_Ends.f k a0 a1) (affix_Ends.f (k + 1) a0 a1) := by
  intro a0 a1 k
  unfold affix_Ends.f
  repeat' first
      | (with_reducible exact affix_Suffix.mono _ _ _)
      | (with_reducible exact LeO.refl _)
      | (with_reducible exact LeO.none _)
      | (with_reducible refine LeO.ite ?_ ?_)
      | (with_reducible refine LeO.bind ?_ (fun _ => ?_))
      | exact affix_Suffix.mono _ _ _
      | exact LeO.none _
      | refine LeO.ite ?_ ?_
      | refine LeO.bind ?_ (fun _ => ?_)
set_option maxHeartbeats 8000000 in
set_option maxRecDepth 100000 in
theorem affix_Ends.calls (k : Nat) (a0 : ByteArray) (a1 : ByteArray) (r : Bool) (w : World) (h : affix_Ends.f k a0 a1 = some r) :
    Calls Try.prog 37 #[.string a0, .string a1] w fun e w' => e = .returned (.bool r) ∧ Drawn0 w w' := by
  have H : ((affix_Suffix.f k a0 a1).bind fun t108 => (some (t108 == (a1.size : Int)))) = some r := h
  clear h
  replace H := Option.bind_eq_some_iff.mp H
  obtain ⟨t108, A30, H⟩ := H
  replace H : (some (t108 == (a1.size : Int))) = some r := H
  have A3 := Aside0.mk A30
  clear A30
  obtain rfl := Option.some.inj H
  go_enter Try.func37, Try.ntmps37
  go_wp2_with (first | ((with_reducible refine gate_callee (f := 50) rfl ?_); refine goesL_ (some 7) rfl rfl Try.func50 (by kernel_rfl) rfl #[.string a0, .string a1] rfl (by (try simp only [List.map_toArray, List.map_cons, List.map_nil]); first | done | rfl | (simp only [List.length_drop, List.length_take]; rfl)) ?_; (with_reducible refine (affix_Suffix.calls k a0 a1 t108 _ A3.out).mono ?_); rintro e w' ⟨rfl, ⟨nd, rfl⟩⟩; refine ⟨_, rfl, ?_⟩))
  go_ret
  exact ⟨by first | rfl | (simp; done) | (simp [*]; done), by repeat (first | exact Drawn0.refl _ | apply Drawn0.step)⟩

end Go.Proofs.Ytcehdcijflbgjaa.P

/- What layer 9 and its reference compute beside sorting, as plain functions on lists of bytes; no condition beyond the sizes that stand in each statement. -/
namespace Go.Proofs.Ytcehdcijflbgjaa.Base
open Go Go.RowKit Go.Proofs.YtcehdcijflbgjaaW.PrintWords Go.Proofs.YtcehdcijflbgjaaW.PrintMore Go.Proofs.Ytcehdcijflbgjaa.P
set_option linter.unusedVariables false

/-! alike at the beginning, at the end -/

theorem bt_rev {a : ByteArray} {i : Nat} (hi : i < a.size) : bt a ((a.size : Int) - 1 - (i : Int)) = (((LL a).reverse.getD i 0).toNat : Int) := by
  rw [bt_eq, show ((a.size : Int) - 1 - (i : Int)).toNat = a.size - 1 - i by omega]
  have h1 : i < (LL a).length := by rw [LL_length]; exact hi
  rw [List.getD_eq_getElem?_getD, List.getD_eq_getElem?_getD, List.getElem?_reverse h1, LL_length]
def suf (a b : ByteArray) : Nat := pre (LL a).reverse (LL b).reverse
theorem LL_rev_length (s : ByteArray) : (LL s).reverse.length = s.size := by rw [List.length_reverse, LL_length]
theorem suffix_l0 (a b : ByteArray) (ha : a.size < 4611686018427387904) (hb : b.size < 4611686018427387904) (n : Int) (hn : n = (min a.size b.size : Nat)) : ∀ (d i : Nat), i + d = min a.size b.size →
    Ev (fun k => affix_Suffix.l0 k a b n n (i : Int)) (((i + pre ((LL a).reverse.drop i) ((LL b).reverse.drop i) : Nat)) : Int) := by
  intro d
  induction d with
  | zero =>
    intro i hi
    refine Ev.ret fun k => ?_
    simp only [affix_Suffix.l0]
    rw [if_neg (by omega)]
    have : pre ((LL a).reverse.drop i) ((LL b).reverse.drop i) = 0 := by
      have h := pre_le ((LL a).reverse.drop i) ((LL b).reverse.drop i)
      rw [List.length_drop, List.length_drop, LL_rev_length, LL_rev_length] at h
      omega
    rw [this]
    congr 1
    omega
  | succ d ih =>
    intro i hi
    have h1 : i < (LL a).reverse.length := by rw [LL_rev_length]; omega
    have h2 : i < (LL b).reverse.length := by rw [LL_rev_length]; omega
    rw [getD_drop (LL a).reverse i 0 h1, getD_drop (LL b).reverse i 0 h2]
    have b1 := bt_rev (a := a) (i := i) (by omega)
    have b2 := bt_rev (a := b) (i := i) (by omega)
    by_cases h : (LL a).reverse.getD i 0 = (LL b).reverse.getD i 0
    · refine Ev.step (f := fun k => affix_Suffix.l0 k a b n n ((i + 1 : Nat) : Int)) (fun k => ?_) ?_
      · simp only [affix_Suffix.l0]
        rw [wrap_id (x := (a.size : Int) - 1) (by omega) (by omega), wrap_id (x := (b.size : Int) - 1) (by omega) (by omega), wrap_id (x := (a.size : Int) - 1 - (i : Int)) (by omega) (by omega), wrap_id (x := (b.size : Int) - 1 - (i : Int)) (by omega) (by omega), b1, b2]
        rw [if_pos (by omega), if_pos (by omega), if_pos (by omega), if_pos (by omega), if_pos (by omega), if_pos (by rw [h]), wrap_id (by omega) (by omega)]
        rfl
      · have := ih (i + 1) (by omega)
        simp only [pre, if_pos h]
        rw [show i + (pre ((LL a).reverse.drop (i + 1)) ((LL b).reverse.drop (i + 1)) + 1) = i + 1 + pre ((LL a).reverse.drop (i + 1)) ((LL b).reverse.drop (i + 1)) by omega]
        exact this
    · refine Ev.ret fun k => ?_
      simp only [affix_Suffix.l0]
      rw [wrap_id (x := (a.size : Int) - 1) (by omega) (by omega), wrap_id (x := (b.size : Int) - 1) (by omega) (by omega), wrap_id (x := (a.size : Int) - 1 - (i : Int)) (by omega) (by omega), wrap_id (x := (b.size : Int) - 1 - (i : Int)) (by omega) (by omega), b1, b2]
      rw [if_pos (by omega), if_pos (by omega), if_pos (by omega), if_pos (by omega), if_pos (by omega), if_neg (fun e => h (UInt8.toNat_inj.1 (by omega)))]
      simp only [pre, if_neg h]
      rfl
theorem suffix_ev (a b : ByteArray) (ha : a.size < 4611686018427387904) (hb : b.size < 4611686018427387904) : Ev (fun k => affix_Suffix.f k a b) (suf a b : Int) := by
  have h := suffix_l0 a b ha hb _ (mn_eq a.size b.size) (min a.size b.size) 0 (by omega)
  rw [List.drop_zero, List.drop_zero, Nat.zero_add] at h
  exact h
theorem ends_ev (a b : ByteArray) (ha : a.size < 4611686018427387904) (hb : b.size < 4611686018427387904) : Ev (fun k => affix_Ends.f k a b) ((suf a b : Int) == (b.size : Int)) := by
  unfold affix_Ends.f
  exact Ev.bind (suffix_ev a b ha hb) (Ev.now _)

/-! where a text stands -/

/-! what neighbours share -/
def sharedL (l : List ByteArray) : List Int := (List.range l.length).map fun i => if i = 0 then 0 else (pre (LL (l.getD (i - 1) ByteArray.empty)) (LL (l.getD i ByteArray.empty)) : Int)
theorem sharedL_length (l : List ByteArray) : (sharedL l).length = l.length := by unfold sharedL; simp
theorem sharedL_getD (l : List ByteArray) (i : Nat) (h : i < l.length) : (sharedL l).getD i 0 = if i = 0 then 0 else (pre (LL (l.getD (i - 1) ByteArray.empty)) (LL (l.getD i ByteArray.empty)) : Int) := by
  unfold sharedL
  rw [List.getD_eq_getElem?_getD, List.getElem?_map, List.getElem?_range h]
  rfl

end Go.Proofs.Ytcehdcijflbgjaa.Base

/- The patterns that end at an end: the walk of Hits, with its loop over an iterator. -/
namespace Go.Proofs.Ytcehdcijflbgjaa.P
open Go Go.RowKit Go.Shelf Go.Proofs.YtcehdcijflbgjaaW.PrintWords Go.Proofs.YtcehdcijflbgjaaW.PrintLast Go.Proofs.YtcehdcijflbgjaaW.PrintMore Go.Proofs.Ytcehdcijflbgjaa.Base
set_option linter.unusedVariables false
set_option linter.unusedSimpArgs false

attribute [local go_sem] Oper.semAt_some

/-- Does a text end with one? -/
def endsB (t s : ByteArray) : Bool := ((suf t s : Int) == (s.size : Int))
def hitsF (t : ByteArray) (l : List ByteArray) (ids : List Int) : List Int := ids.filter fun id => endsB t (l.getD id.toNat ByteArray.empty)
theorem hitsF_snoc (t : ByteArray) (l : List ByteArray) (ids : List Int) (x : Int) : hitsF t l (ids ++ [x]) = if endsB t (l.getD x.toNat ByteArray.empty) = true then hitsF t l ids ++ [x] else hitsF t l ids := by
  unfold hitsF
  rw [List.filter_append]
  by_cases h : endsB t (l.getD x.toNat ByteArray.empty) = true
  · rw [if_pos h, List.filter_cons_of_pos (by exact h), List.filter_nil]
  · rw [if_neg h, List.filter_cons_of_neg (by exact h), List.filter_nil, List.append_nil]
set_option maxRecDepth 100000 in
set_option maxHeartbeats 4000000 in
theorem hits_in (t : ByteArray) (l : List ByteArray) (bp bb cc cap cl : Nat) (Px AL Ps Pp : Option Addr) (A : Option Addr) (zs : List Int) (hcc : cc < 256) (hreach : zs.length ≤ 1099511627776) (w : World)
    (hbp : w.heap[bp]? = some (.cells #[.pointer Px, .slice AL l.length cl, .pointer (some ⟨bb, 0, none⟩), .pointer Ps, .pointer Pp] 65 (0, 0)))
    (hb : bb < w.heap.size) (hcell : w.cell? ⟨bb, cc, none⟩ = some (.slice A zs.length cap))
    (hA : 0 < zs.length → ∃ ad : Addr, A = some ad ∧ ad.block < w.heap.size ∧ ∀ j, j < zs.length → w.cell? (ad.add j) = some (.int .i64 (zs[j]?.getD 0)))
    (ht : 0 < t.size) (htz : t.size < 4611686018427387904) (hc : ((LL t).getD (t.size - 1) 0).toNat = cc) (hids : ∀ x ∈ zs, 0 ≤ x ∧ x < (l.length : Int)) (hL : Kd.C Kd.string w AL l.length l) (hls : ∀ s ∈ l, s.size ≤ 65535) :
    CallsIn Fence.wide 3 Try.prog 15 #[.pointer (some ⟨bp, 0, none⟩), .string t] w fun e W' => ∃ v, e = .returned v ∧ W'.ownsRow w.heap.size 3 1 v (hitsF t l zs).length ((hitsF t l zs).map (Value.int .i64)) ∧ Below w.heap.size w W' := by
  obtain ⟨i0, hi, hz0, hz1, hz2⟩ := info_parts info12f
  have hse : t.toList.isEmpty = false := by
    rw [List.isEmpty_eq_false_iff]
    exact fun g => by have := toList_nil.1 g; omega
  obtain ⟨ji, hji⟩ : ∃ ji : Int, ((t.size - 1 : Nat) : Int) = ji := ⟨_, rfl⟩
  have hbt : bt t ji = (cc : Int) := by rw [← hji, bt_eq, Int.toNat_natCast, hc]
  have hw1 : IntKind.i64.wrap ((t.size : Int) - 1) = ji := by rw [i64_w, wrap_id (by omega) (by omega)]; omega
  have hx := bt_at t ji
  rw [hbt] at hx
  have p1 := eq_true (show (0 : Int) ≤ ji by omega)
  have p2 := eq_true (show ji < (t.size : Int) by omega)
  have HBP := Aside0.mk hbp
  have HCELL := Aside0.mk hcell
  have HA := Aside0.mk hA
  have HIDS := Aside0.mk hids
  have HLL := Aside0.mk hL
  have HLS := Aside0.mk hls
  have hbpl := blk_lt hbp
  clear hbp hcell hA hids hL hls hbt hc hji
  refine callsIn_of_wp_marks Try.func15 rfl trivial ?_ rfl
  simp only [Try.ntmps15, List.size_toArray, List.length_cons, List.length_nil, Nat.reduceAdd, Nat.reduceSub, Array.replicate_succ, Array.replicate_zero, List.push_toArray, List.append_toArray, List.nil_append, List.cons_append]
  gi_wp2
  obtain ⟨w2, hw2⟩ : ∃ w2, w2 = (w.alloc (.cells #[.pointer (some ⟨bp, 0, none⟩)] 32 (0, 0))).alloc (.cells #[.string t] 9 (0, 0)) := ⟨_, rfl⟩
  rw [← hw2]
  have hz2 : w2.heap.size = w.heap.size + 2 := by rw [hw2]; simp [World.size_alloc]
  have hB2 : Below w.heap.size w w2 := by rw [hw2]; exact ((Below.refl _ w).alloc (Nat.le_refl _) _).alloc (by simp) _
  have bP : Boxed w2 w.heap.size 32 (.pointer (some ⟨bp, 0, none⟩)) := by rw [hw2]; exact (Boxed.new w 32 (.pointer (some ⟨bp, 0, none⟩))).alloc _
  have bT : Boxed w2 (w.heap.size + 1) 9 (.string t) := by
    have := Boxed.new (w.alloc (.cells #[.pointer (some ⟨bp, 0, none⟩)] 32 (0, 0))) 9 (.string t)
    rw [World.size_alloc] at this
    rw [hw2]
    exact this
  have hrec2 := (hB2.block _ hbpl).trans HBP.out
  clear hw2
  obtain ⟨w3, hw3⟩ : ∃ w3, w3 = w2.alloc (.cells #[.slice none 0 0] 38 (0, 0)) := ⟨_, rfl⟩
  rw [← hw3]
  have bO : Boxed w3 w2.heap.size 38 (.slice none 0 0) := by rw [hw3]; exact Boxed.new w2 38 (.slice none 0 0)
  have hB3 : Below w2.heap.size w2 w3 := by rw [hw3]; exact (Below.refl _ w2).alloc (Nat.le_refl _) _
  have hz3 : w3.heap.size = w2.heap.size + 1 := by rw [hw3]; simp [World.size_alloc]
  have y0 : w3.cell? ⟨w.heap.size, 0, none⟩ = some (.pointer (some ⟨bp, 0, none⟩)) := (hB3.cell (p := ⟨w.heap.size, 0, none⟩) (by show w.heap.size < _; omega)).trans bP.cell
  have ym0 : ∀ m, (World.drewN w3 m).cell? ⟨w.heap.size, 0, none⟩ = some (.pointer (some ⟨bp, 0, none⟩)) := fun _ => y0
  have y1 : w3.cell? ⟨w.heap.size + 1, 0, none⟩ = some (.string t) := (hB3.cell (p := ⟨w.heap.size + 1, 0, none⟩) (by show w.heap.size + 1 < _; omega)).trans bT.cell
  have ym1 : ∀ m, (World.drewN w3 m).cell? ⟨w.heap.size + 1, 0, none⟩ = some (.string t) := fun _ => y1
  have y2 : w3.cell? ⟨bp, 2, none⟩ = some (.pointer (some ⟨bb, 0, none⟩)) := (hB3.cell (p := ⟨bp, 2, none⟩) (by show bp < _; omega)).trans ((blk_cell hrec2 2).trans rfl)
  have ym2 : ∀ m, (World.drewN w3 m).cell? ⟨bp, 2, none⟩ = some (.pointer (some ⟨bb, 0, none⟩)) := fun _ => y2
  have HREC2 := Aside0.mk hrec2
  have HZ2 := Aside0.mk hz2
  have HZ3 := Aside0.mk hz3
  have HB2 := Aside0.mk hB2
  have HB3 := Aside0.mk hB3
  have BP := Aside0.mk bP
  have BT := Aside0.mk bT
  have BO := Aside0.mk bO
  clear hrec2 hz2 hz3 hB2 hB3 bP bT bO hw3
  refine wpIn_wide.2 ?_
  go_still_tail 9, (by kernel_rfl)
  go_wp2_with (go_at_call 35; refine (callsIn_wide.1 (each_in 0 _ _ _)).mono ?_; rintro e w' ⟨rfl, rfl⟩)
  gi_wp2
  obtain ⟨W4, hW4⟩ : ∃ W4, W4 = ((w3.alloc (.cells #[.pointer (some ⟨bb, 0, none⟩)] 58)).alloc (.cells #[.int .u8 (cc : Int)] 5)).drew := ⟨_, rfl⟩
  rw [← hW4]
  have hB4 : Below w3.heap.size w3 W4 := by rw [hW4]; exact below_drew (((Below.refl _ w3).alloc (Nat.le_refl _) _).alloc (by simp) _)
  have bN : Boxed W4 w3.heap.size 58 (.pointer (some ⟨bb, 0, none⟩)) := by rw [hW4]; exact (Boxed.new w3 58 (.pointer (some ⟨bb, 0, none⟩))).alloc _
  have bM : Boxed W4 (w3.heap.size + 1) 5 (.int .u8 (cc : Int)) := by
    have := Boxed.new (w3.alloc (.cells #[.pointer (some ⟨bb, 0, none⟩)] 58 (0, 0))) 5 (.int .u8 (cc : Int))
    rw [World.size_alloc] at this
    rw [hW4]
    exact this
  have hz4 : W4.heap.size = w3.heap.size + 2 := by rw [hW4]; show ((w3.alloc _).alloc _).heap.size = _; rw [World.size_alloc, World.size_alloc]
  have hz2 := HZ2.out
  have hz3 := HZ3.out
  have bO4 : Boxed W4 w2.heap.size 38 (.slice none 0 0) := (hB4.block _ (by omega)).trans BO.out
  have hB24 : Below w2.heap.size w2 W4 := HB3.out.trans (hB4.mono (by omega))
  have hB04 : Below w.heap.size w W4 := HB2.out.trans (hB24.mono (by omega))
  clear hW4 BO
  refine wpIn_rangeFunc_ownG rfl (by omega) (gf := 49) (lb := #[.pointer (some ⟨w3.heap.size, 0, none⟩), .pointer (some ⟨w3.heap.size + 1, 0, none⟩)]) rfl trivial (enters_of Try.func49 (by kernel_rfl) rfl)
    (each_stopsP (fun x => 0 ≤ x ∧ x < (l.length : Int)) 2 (by omega) w3.heap.size (w3.heap.size + 1) w2.heap.size bb cc cap A zs HIDS.out hcc hreach (by omega) W4 ⟨by omega, by omega⟩ (by omega) bN.cell bM.cell ((hB04.cell (p := ⟨bb, cc, none⟩) hb).trans HCELL.out)
      (fun h => by obtain ⟨ad, e, h1, h2⟩ := HA.out h; exact ⟨ad, e, by omega, fun j hj => (hB04.cell (p := ad.add j) (by unfold Addr.add; split <;> exact h1)).trans (h2 j hj)⟩)) belowK_t (belowK_b (by omega)) (Below.refl _ _) (fun _ => rfl)
    (fun pre W => (∃ v, Boxed W w2.heap.size 38 v ∧ W.ownsRow w2.heap.size 3 1 v (hitsF t l (pre.map (·.1))).length ((hitsF t l (pre.map (·.1))).map (Value.int .i64)) ∧ True) ∧ Below w2.heap.size w2 W)
    (fun _ _ _ => False)
    (OwnFrom.and (Own.from (holdsRow_own w2.heap.size w2.heap.size 38 3 1 (fun pre : List {x : Int // 0 ≤ x ∧ x < (l.length : Int)} => (hitsF t l (pre.map (·.1))).length) (fun pre => (hitsF t l (pre.map (·.1))).map (Value.int .i64)) (fun pre v => True)) _) (ownFrom_below (Nat.le_refl _) (by omega)))
    (fun _ _ _ _ _ hs _ _ => hs)
    ⟨⟨_, bO4, World.ownsRow_nil _ _ _ _, trivial⟩, hB24⟩
    (fun x : {x : Int // 0 ≤ x ∧ x < (l.length : Int)} => { tmps := #[.pointer (some ⟨bp, 0, none⟩), .string t, .pointer (some ⟨w.heap.size, 0, none⟩), .pointer (some ⟨w.heap.size + 1, 0, none⟩), .slice none 0 0, .pointer (some ⟨w.heap.size + 1 + 1, 0, none⟩), .int .i64 x.1, .pointer (some ⟨bp, 0, none⟩), .bool false, .bool false, .string t, .bool false, .bool false, .pointer (some ⟨bp, 0, none⟩), .pointer (some ⟨bp, 0, none⟩), .pointer (some ⟨bp, 2, none⟩), .pointer (some ⟨bb, 0, none⟩), .string t, .string t, .int .i64 t.size, .int .i64 ji, .int .u8 (cc : Int), .func (.func 49) #[] #[.pointer (some ⟨w3.heap.size, 0, none⟩), .pointer (some ⟨w3.heap.size + 1, 0, none⟩)], .int .i64 x.1, undef, undef, undef, undef, undef, undef, undef, undef, undef, undef, undef, undef, undef, undef], defers := [] }) ?assign ?body ?done ?stop
  case assign =>
    clear hz2 hz3 hz4
    intro l x W K hK
    gi_wp2
    exact hK
  case body =>
    rintro ll pre ⟨x, hx0, hx1⟩ W ⟨⟨v, hv, hrow, _⟩, hB⟩ hlt
    have hc : W.cell? ⟨w.heap.size + 1 + 1, 0, none⟩ = some v := by rw [show w.heap.size + 1 + 1 = w2.heap.size by omega]; exact hv.cell
    have y0 : W.cell? ⟨w.heap.size, 0, none⟩ = some (.pointer (some ⟨bp, 0, none⟩)) := (hB.cell (p := ⟨w.heap.size, 0, none⟩) (by show w.heap.size < _; omega)).trans BP.out.cell
    have y1 : W.cell? ⟨w.heap.size + 1, 0, none⟩ = some (.string t) := (hB.cell (p := ⟨w.heap.size + 1, 0, none⟩) (by show w.heap.size + 1 < _; omega)).trans BT.out.cell
    have y2 : W.cell? ⟨bp, 1, none⟩ = some (.slice AL l.length cl) := (hB.cell (p := ⟨bp, 1, none⟩) (by show bp < _; omega)).trans ((blk_cell HREC2.out 1).trans rfl)
    have ym0 : ∀ m, (World.drewN W m).cell? ⟨w.heap.size, 0, none⟩ = some (.pointer (some ⟨bp, 0, none⟩)) := fun _ => y0
    have ym1 : ∀ m, (World.drewN W m).cell? ⟨w.heap.size + 1, 0, none⟩ = some (.string t) := fun _ => y1
    have ym2 : ∀ m, (World.drewN W m).cell? ⟨bp, 1, none⟩ = some (.slice AL l.length cl) := fun _ => y2
    obtain ⟨s, hs⟩ : ∃ s, l.getD x.toNat ByteArray.empty = s := ⟨_, rfl⟩
    have hsm : s.size ≤ 65535 := by rw [← hs]; exact HLS.out _ (getD_mem l _ _ (by omega))
    obtain ⟨adL, rfl, hat⟩ := Kd.at_string (Kd.C_below HLL.out (HB2.out.trans (hB.mono (by omega)))) x hx0 hx1
    have hat2 : W.cell? (adL.add x.toNat) = some (.string s) := by rw [← hs]; exact hat
    have hatm : ∀ m, (World.drewN W m).cell? (adL.add x.toNat) = some (.string s) := fun _ => hat2
    obtain ⟨ke, hke⟩ := Ev.all (ends_ev t s (by omega) (by omega))
    have HKE := Aside0.mk hke
    have HS := Aside0.mk hs
    have q0 := eq_true hx0
    have q1 := eq_true hx1
    have d0 : decide (0 ≤ x) = true := decide_eq_true hx0
    have d1 : decide (x < (l.length : Int)) = true := decide_eq_true hx1
    have hzz : w.heap.size + 1 + 1 = w2.heap.size := by omega
    have HZZ := Aside0.mk hzz
    clear hat hke hs hz2 hz3 hz4 hzz
    gi_wp2
    gi_cut [32] from 24 (fun v32 wx => v32 = .bool ((suf t s : Int) == (s.size : Int)) ∧ Aside0 (∃ q, wx = W.drewN q))
    case first =>
      gi_region_with (refine ⟨trivial, ?_⟩; gi_at_call 37; refine (CallsIn.inRound ll (callsIn_wide.2 (affix_Ends.calls ke t s _ _ HKE.out))).mono ?_; rintro e w' ⟨rfl, ⟨q, rfl⟩⟩)
      all_goals gi_wp2
      all_goals
        gi_meet
        case rel => exact ⟨rfl, ⟨_, rfl⟩⟩
    case rest =>
      obtain ⟨rfl, HQ⟩ := hcut
      obtain ⟨q, rfl⟩ := HQ.out
      clear HQ
      have hv5 : Boxed (W.drewN q) w2.heap.size 38 v := hv
      have hrow5 : (W.drewN q).ownsRow w2.heap.size 3 1 v (hitsF t l (pre.map (·.1))).length ((hitsF t l (pre.map (·.1))).map (Value.int .i64)) := hrow
      have hB5 : Below w2.heap.size w2 (W.drewN q) := pw_below_drewN hB q
      have hb5 : Below w2.heap.size W (W.drewN q) := pw_below_drewN (Below.refl _ _) q
      have hk5 : KeepsOthers W (W.drewN q) := ⟨Nat.le_refl _, fun _ _ h _ => h⟩
      have hc5 : (W.drewN q).cell? ⟨w.heap.size + 1 + 1, 0, none⟩ = some v := hc
      generalize W.drewN q = W5 at hv5 hrow5 hB5 hb5 hk5 hc5 ⊢
      clear hv hrow hB hc y0 y1 y2 ym0 ym1 ym2 hat2 hatm
      have hsn := hitsF_snoc t l (pre.map (·.1)) x
      have hend : endsB t (l.getD x.toNat ByteArray.empty) = ((suf t s : Int) == (s.size : Int)) := by rw [HS.out]; rfl
      rw [hend] at hsn
      cases hcase : ((suf t s : Int) == (s.size : Int)) with
      | true =>
        rw [hcase, if_pos rfl] at hsn
        have HSN := Aside0.mk hsn
        clear hsn hend hcase
        have hsz : (hitsF t l (pre.map (·.1))).length ≤ 1099511627776 := Nat.le_trans (List.length_filter_le _ _) (by rw [List.length_map]; omega)
        have hlt2 := hlt
        gi_wp2_with (gi_at_builtin; refine wpListIn_append_own _ rfl _ _ 38 rfl w2.heap.size 3 i0 (.int .i64 0) 1 8 Try.underlying38 hi hz0 hz1 hz2 rfl (by decide) _ _ _ rfl (hrow5.alloc _) ⟨W5.heap.size, 0, none⟩ 1 1 [.int .i64 x] rfl rfl (cell_one_new _ _ _) (by simp [Value.oneCell']) (by unfold maxLen; omega) (by omega) (by have := hB5.size; simp; omega) ?_; intro v' w1 hown' hgrow _; obtain ⟨g', cap', rfl⟩ := ownsRow_succ hown'; obtain ⟨hv1, hv2, hr2, hk2, hb2⟩ := hv5.appended (by decide) hrow5 hB5.size (Nat.le_refl _) hown' hgrow; have hc1 : w1.cell? ⟨w.heap.size + 1 + 1, 0, none⟩ = some v := (by rw [HZZ.out]; exact hv1.cell); have hf1 : w1.frozen? ⟨w.heap.size + 1 + 1, 0, none⟩ = false := (by rw [HZZ.out]; exact hv1.frozen))
        have e : hitsF t l ((pre ++ [(⟨x, ⟨hx0, hx1⟩⟩ : {x : Int // 0 ≤ x ∧ x < (l.length : Int)})]).map (·.1)) = hitsF t l (pre.map (·.1)) ++ [x] := by rw [List.map_append]; exact HSN.out
        have hkk := (hk5.trans hk2).from W4.heap.size
        have hbb := hb5.trans hb2
        have hBB := hB5.trans hb2
        rw [HZZ.out]
        refine ⟨hkk, hbb, ⟨_, hv2, ?_⟩, hBB⟩
        show World.ownsRow _ _ _ _ _ (hitsF t l ((pre ++ [(⟨x, ⟨hx0, hx1⟩⟩ : {x : Int // 0 ≤ x ∧ x < (l.length : Int)})]).map (·.1))).length ((hitsF t l ((pre ++ [(⟨x, ⟨hx0, hx1⟩⟩ : {x : Int // 0 ≤ x ∧ x < (l.length : Int)})]).map (·.1))).map (Value.int .i64))
        rw [e]
        simpa using hr2
      | false =>
        rw [hcase, if_neg (by simp)] at hsn
        have HSN := Aside0.mk hsn
        clear hsn hend hcase
        gi_wp2
        have e : hitsF t l ((pre ++ [(⟨x, ⟨hx0, hx1⟩⟩ : {x : Int // 0 ≤ x ∧ x < (l.length : Int)})]).map (·.1)) = hitsF t l (pre.map (·.1)) := by rw [List.map_append]; exact HSN.out
        refine ⟨hk5.from _, hb5, ⟨v, hv5, ?_⟩, hB5⟩
        show World.ownsRow _ _ _ _ _ (hitsF t l ((pre ++ [(⟨x, ⟨hx0, hx1⟩⟩ : {x : Int // 0 ≤ x ∧ x < (l.length : Int)})]).map (·.1))).length ((hitsF t l ((pre ++ [(⟨x, ⟨hx0, hx1⟩⟩ : {x : Int // 0 ≤ x ∧ x < (l.length : Int)})]).map (·.1))).map (Value.int .i64))
        rw [e]
        exact hrow5
  case done =>
    rintro D ys W hD rfl ⟨⟨v, hv, hrow, _⟩, hB⟩ hK
    have hc : W.cell? ⟨w.heap.size + 1 + 1, 0, none⟩ = some v := by rw [show w.heap.size + 1 + 1 = w2.heap.size by omega]; exact hv.cell
    have hle : w.heap.size ≤ w2.heap.size := by omega
    have hle4 : w.heap.size ≤ W4.heap.size := by omega
    clear hz2 hz3 hz4
    gi_wp2
    refine ⟨by simp, .inl ⟨_, _, rfl, run_takeDeferred hK, ?_⟩⟩
    exact ⟨_, results_tmp rfl _ _ _, v, rfl, ownsRow_putObj (own_weaken hrow hle) _ hK rfl, (HB2.out.trans (hB.mono hle)).trans (belowK_b (w := w) (Nat.le_refl _) W D _ _ (by first | omega | (simp at hD; omega)) hK rfl rfl)⟩
  case stop =>
    rintro D c pre W _ _ h _
    exact h.elim
end Go.Proofs.Ytcehdcijflbgjaa.P

/- The patterns that end at an end, and the least distance at which all that might end there differ (for nothing, or at no end): the walks of Hits and Miss. -/
namespace Go.Proofs.Ytcehdcijflbgjaa.P
open Go Go.RowKit Go.Proofs.YtcehdcijflbgjaaW.PrintWords Go.Proofs.YtcehdcijflbgjaaW.PrintLast Go.Proofs.YtcehdcijflbgjaaW.PrintMore Go.Proofs.Ytcehdcijflbgjaa.Base
set_option linter.unusedVariables false
set_option linter.unusedSimpArgs false

def probe_Probe_Hits.f (a0 : Option ProbeD) (a1 : ByteArray) : Option (List Int) := match a0 with
  | none => some []
  | some d => if a1.size = 0 then some [] else match d.bk with
    | none => none
    | some bk => if a1.size < 4611686018427387904 ∧ (bk.ids ((LL a1).getD (a1.size - 1) 0).toNat).length ≤ 1099511627776 ∧ (∀ x ∈ bk.ids ((LL a1).getD (a1.size - 1) 0).toNat, 0 ≤ x ∧ x < (d.l.length : Int)) ∧ ∀ s ∈ d.l, s.size ≤ 65535 then some (hitsF a1 d.l (bk.ids ((LL a1).getD (a1.size - 1) 0).toNat)) else none
set_option maxHeartbeats 2000000 in
set_option maxRecDepth 100000 in
theorem probe_Probe_Hits.calls (Pa0 : Option Addr) (a0 : Option ProbeD) (a1 : ByteArray) (r : List Int) (w : World) (ho : OB K65 w Pa0 a0) (h : probe_Probe_Hits.f a0 a1 = some r) :
    Calls Try.prog 15 #[.pointer Pa0, .string a1] w fun e w' => ∃ v0_ : Value, e = .returned v0_ ∧ Kd.R (Kd.int .i64) 3 w' w.heap.size (fun _ => True) v0_ r ∧ Below w.heap.size w w' := by
  cases a0 with
  | none =>
    obtain rfl := Option.some.inj h
    obtain rfl := OB.p_none ho
    clear ho h
    go_enter Try.func15, Try.ntmps15
    go_wp2
    go_ret
    exact ⟨_, rfl, Kd.R_nil _ _ _ _ _, ((Below.refl _ w).alloc (Nat.le_refl _) _).alloc (by simp) _⟩
  | some d =>
    obtain ⟨a, rfl⟩ := OB.p_some ho
    obtain ⟨b, Px, A, c, Pb, Ps, Pp, rfl, hbk, hlc, hC, hox, hob, hos, hop⟩ := OB.at ho
    simp only [probe_Probe_Hits.f] at h
    by_cases hz : a1.size = 0
    · rw [if_pos hz] at h
      obtain rfl := Option.some.inj h
      have hse : a1.toList.isEmpty = true := by rw [List.isEmpty_iff]; exact toList_nil.2 hz
      clear ho hbk hlc hC hox hob hos hop h
      go_enter Try.func15, Try.ntmps15
      go_wp2
      go_ret
      exact ⟨_, rfl, Kd.R_nil _ _ _ _ _, ((Below.refl _ w).alloc (Nat.le_refl _) _).alloc (by simp) _⟩
    rw [if_neg hz] at h
    cases hbd : d.bk with
    | none => rw [hbd] at h; cases h
    | some bk =>
      rw [hbd] at h hob
      simp only at h
      obtain ⟨cc, hcc⟩ : ∃ cc, ((LL a1).getD (a1.size - 1) 0).toNat = cc := ⟨_, rfl⟩
      have hc256 : cc < 256 := by rw [← hcc]; exact UInt8.toNat_lt _
      rw [hcc] at h
      by_cases hw : a1.size < 4611686018427387904 ∧ (bk.ids cc).length ≤ 1099511627776 ∧ (∀ x ∈ bk.ids cc, 0 ≤ x ∧ x < (d.l.length : Int)) ∧ ∀ s ∈ d.l, s.size ≤ 65535
      rotate_left
      · rw [if_neg hw] at h; cases h
      rw [if_pos hw] at h
      obtain rfl := Option.some.inj h
      obtain ⟨w1, w2, w3, w4⟩ := hw
      obtain ⟨ab, rfl⟩ := OB.p_some hob
      obtain ⟨bb, v, rfl, hb, hr⟩ := OB.at hob
      obtain ⟨A2, m, hv, hm, hC2⟩ := hr cc hc256
      have hcell := (blk_cell hb cc).trans (bkCells_ids hc256)
      rw [hv] at hcell
      refine callsIn_wide.1 ((hits_in a1 d.l b bb cc m c Px A Ps Pp A2 (bk.ids cc) hc256 w2 w hbk (blk_lt hb) hcell (fun h0 => ?_) (by omega) w1 hcc w3 hC w4).mono ?_)
      · obtain ⟨ad, e, hx⟩ := Kd.at_int hC2 0 (by omega) (by omega)
        have hx' : w.cell? (ad.add 0) = some (.int .i64 ((bk.ids cc).getD 0 0)) := hx
        refine ⟨ad, e, ?_, fun j hj => ?_⟩
        · have := World.block_lt_of_cell? w _ hx'
          unfold Addr.add at this
          simpa using this
        · obtain ⟨ad', e', hx2⟩ := Kd.at_int hC2 (j : Int) (by omega) (by omega)
          rw [e] at e'
          injection e' with e'
          subst e'
          have hx3 : w.cell? (ad.add j) = some (.int .i64 ((bk.ids cc).getD j 0)) := hx2
          rw [hx3, List.getD_eq_getElem?_getD]
      · rintro e W' ⟨v', rfl, hown, hbl⟩
        exact ⟨v', rfl, Kd.R_of_own (enc := Value.int .i64) (h1 := fun _ => rfl) hown (fun _ _ => trivial), hbl⟩
/-- .. of nothing, or at no end; else it is left open here. -/
def probe_Probe_Miss.f (a0 : Option ProbeD) (a1 : ByteArray) (a2 : Int) : Option (Int × Bool) := match a0 with
  | none => some (0, false)
  | some d => if a1.size = 0 then some (0, false) else none
set_option maxHeartbeats 2000000 in
set_option maxRecDepth 100000 in
theorem probe_Probe_Miss.calls (Pa0 : Option Addr) (a0 : Option ProbeD) (a1 : ByteArray) (a2 : Int) (r1 : Int) (r2 : Bool) (w : World) (ho : OB K65 w Pa0 a0) (h : probe_Probe_Miss.f a0 a1 a2 = some (r1, r2)) :
    Calls Try.prog 12 #[.pointer Pa0, .string a1, .int .i64 a2] w fun e w' => e = .returned (.tuple #[.int .i64 r1, .bool r2]) ∧ Below w.heap.size w w' := by
  have hB : Below w.heap.size w (((w.alloc (.cells #[.pointer Pa0] 32 (0, 0))).alloc (.cells #[.string a1] 9 (0, 0))).alloc (.cells #[.int .i64 a2] 3 (0, 0))) := (((Below.refl _ w).alloc (Nat.le_refl _) _).alloc (by simp) _).alloc (by simp <;> omega) _
  cases a0 with
  | none =>
    obtain ⟨rfl, rfl⟩ := Prod.mk.inj (Option.some.inj h)
    obtain rfl := OB.p_none ho
    clear ho h
    have HB := Aside0.mk hB
    clear hB
    go_enter Try.func12, Try.ntmps12
    go_wp2
    go_step3
    go_wp2
    simp only [Exit.noGoto]
    go_ret2
    exact ⟨rfl, HB.out⟩
  | some d =>
    obtain ⟨a, rfl⟩ := OB.p_some ho
    simp only [probe_Probe_Miss.f] at h
    by_cases hz : a1.size = 0
    rotate_left
    · rw [if_neg hz] at h; cases h
    rw [if_pos hz] at h
    obtain ⟨rfl, rfl⟩ := Prod.mk.inj (Option.some.inj h)
    have hse : a1.toList.isEmpty = true := by rw [List.isEmpty_iff]; exact toList_nil.2 hz
    have HB := Aside0.mk hB
    clear ho h hB
    go_enter Try.func12, Try.ntmps12
    go_wp2
    go_step3
    go_wp2
    simp only [Exit.noGoto]
    go_ret2
    exact ⟨rfl, HB.out⟩
end Go.Proofs.Ytcehdcijflbgjaa.P

/- The evidence at an end: the walk of Of. -/
namespace Go.Proofs.Ytcehdcijflbgjaa.P
open Go Go.RowKit Go.Proofs.YtcehdcijflbgjaaW.PrintWords Go.Proofs.YtcehdcijflbgjaaW.PrintLast Go.Proofs.YtcehdcijflbgjaaW.PrintMore Go.Proofs.Ytcehdcijflbgjaa.Base
set_option linter.unusedVariables false
set_option linter.unusedSimpArgs false

def probe_Probe_Of.f (a0 : Option ProbeD) (a1 : ByteArray) (a2 : Int) (a3 : Bool) : Option (Int × Int × Int × List Int) := match a0 with
  | none => some (0, 0, 0, [])
  | some d => if a1.size = 0 then some (0, 0, 0, []) else (probe_Probe_Jump.f (some d) a1 a2).bind fun j => if a3 = true ∧ j.1 ≠ 0 then some j else
      (probe_Probe_Hits.f (some d) a1).bind fun ids => if ids ≠ [] then some (4, 0, 0, ids) else (probe_Probe_Miss.f (some d) a1 a2).bind fun m => if m.2 = true then some (3, m.1, 1, []) else some (4, 0, 0, [])
set_option maxHeartbeats 4000000 in
set_option maxRecDepth 100000 in
theorem probe_Probe_Of.calls (Pa0 : Option Addr) (a0 : Option ProbeD) (a1 : ByteArray) (a2 : Int) (a3 : Bool) (r1 r2 r3 : Int) (r4 : List Int) (w : World) (ho : OB K65 w Pa0 a0) (h : probe_Probe_Of.f a0 a1 a2 a3 = some (r1, r2, r3, r4)) :
    Calls Try.prog 20 #[.pointer Pa0, .string a1, .int .i64 a2, .bool a3] w fun e w' => ∃ v3_ : Value, e = .returned (.agg #[.int .i64 r1, .int .i64 r2, .int .i64 r3, v3_]) ∧ Kd.R (Kd.int .i64) 3 w' w.heap.size (fun _ => True) v3_ r4 ∧ Below w.heap.size w w' := by
  have hu43 := Try.underlying43
  cases a0 with
  | none =>
    simp only [probe_Probe_Of.f, Option.some.injEq, Prod.mk.injEq] at h
    obtain ⟨rfl, rfl, rfl, rfl⟩ := h
    obtain rfl := OB.p_none ho
    clear ho
    go_enter Try.func20, Try.ntmps20
    go_wp2_with ((with_reducible refine gate_dst (N := 8) rfl ?_); refine box_event ?hg (N := 8) ?hd (cs := #[.int .i64 0, .int .i64 0, .int .i64 0, .slice none 0 0]) (t := 43) ?hr ?_; (case hd => rfl); (case hg => rfl); (case hr => first | (go_simp; done) | (go_simp; rfl)); intro gb hg w1 hbox hb; have BK := Aside0.mk hbox; have HB1 := Aside0.mk (hb); have GE := Aside0.mk (show w.heap.size ≤ gb by rw [hg]; exact Nat.le_refl _); clear hb hbox hg; have z0 : w1.cell? ⟨gb, 0, none⟩ = some (.int .i64 0) := (blk_cell BK.out 0).trans rfl; have zm0 : ∀ m, (World.drewN w1 m).cell? ⟨gb, 0, none⟩ = some (.int .i64 0) := fun _ => (blk_cell BK.out 0).trans rfl; have zf0 := blk_frozen BK.out 0; have zg0 : ∀ m, (World.drewN w1 m).frozen? ⟨gb, 0, none⟩ = false := fun _ => blk_frozen BK.out 0; have z1 : w1.cell? ⟨gb, 1, none⟩ = some (.int .i64 0) := (blk_cell BK.out 1).trans rfl; have zm1 : ∀ m, (World.drewN w1 m).cell? ⟨gb, 1, none⟩ = some (.int .i64 0) := fun _ => (blk_cell BK.out 1).trans rfl; have zf1 := blk_frozen BK.out 1; have zg1 : ∀ m, (World.drewN w1 m).frozen? ⟨gb, 1, none⟩ = false := fun _ => blk_frozen BK.out 1; have z2 : w1.cell? ⟨gb, 2, none⟩ = some (.int .i64 0) := (blk_cell BK.out 2).trans rfl; have zm2 : ∀ m, (World.drewN w1 m).cell? ⟨gb, 2, none⟩ = some (.int .i64 0) := fun _ => (blk_cell BK.out 2).trans rfl; have zf2 := blk_frozen BK.out 2; have zg2 : ∀ m, (World.drewN w1 m).frozen? ⟨gb, 2, none⟩ = false := fun _ => blk_frozen BK.out 2; have z3 : w1.cell? ⟨gb, 3, none⟩ = some (.slice none 0 0) := (blk_cell BK.out 3).trans rfl; have zm3 : ∀ m, (World.drewN w1 m).cell? ⟨gb, 3, none⟩ = some (.slice none 0 0) := fun _ => (blk_cell BK.out 3).trans rfl; have zf3 := blk_frozen BK.out 3; have zg3 : ∀ m, (World.drewN w1 m).frozen? ⟨gb, 3, none⟩ = false := fun _ => blk_frozen BK.out 3)
    refine bodyPost_ret (results_cell_row rfl _ _ gb 43 #[.int .i64 0, .int .i64 0, .int .i64 0, .slice none 0 0] (0, 0) _ rfl (rec_blk BK.out _ _ _ _) Try.underlying43 rfl (by kernel_rfl)) rfl ?_
    exact ⟨_, rfl, Kd.R_nil _ _ _ _ _, rec_below HB1.out GE.out _ _ _ _⟩
  | some d =>
    obtain ⟨a, rfl⟩ := OB.p_some ho
    simp only [probe_Probe_Of.f] at h
    by_cases hz : a1.size = 0
    · rw [if_pos hz] at h
      simp only [Option.some.injEq, Prod.mk.injEq] at h
      obtain ⟨rfl, rfl, rfl, rfl⟩ := h
      have hse : a1.toList.isEmpty = true := by rw [List.isEmpty_iff]; exact toList_nil.2 hz
      clear ho
      go_enter Try.func20, Try.ntmps20
      go_wp2_with ((with_reducible refine gate_dst (N := 8) rfl ?_); refine box_event ?hg (N := 8) ?hd (cs := #[.int .i64 0, .int .i64 0, .int .i64 0, .slice none 0 0]) (t := 43) ?hr ?_; (case hd => rfl); (case hg => rfl); (case hr => first | (go_simp; done) | (go_simp; rfl)); intro gb hg w1 hbox hb; have BK := Aside0.mk hbox; have HB1 := Aside0.mk (hb); have GE := Aside0.mk (show w.heap.size ≤ gb by rw [hg]; exact Nat.le_refl _); clear hb hbox hg; have z0 : w1.cell? ⟨gb, 0, none⟩ = some (.int .i64 0) := (blk_cell BK.out 0).trans rfl; have zm0 : ∀ m, (World.drewN w1 m).cell? ⟨gb, 0, none⟩ = some (.int .i64 0) := fun _ => (blk_cell BK.out 0).trans rfl; have zf0 := blk_frozen BK.out 0; have zg0 : ∀ m, (World.drewN w1 m).frozen? ⟨gb, 0, none⟩ = false := fun _ => blk_frozen BK.out 0; have z1 : w1.cell? ⟨gb, 1, none⟩ = some (.int .i64 0) := (blk_cell BK.out 1).trans rfl; have zm1 : ∀ m, (World.drewN w1 m).cell? ⟨gb, 1, none⟩ = some (.int .i64 0) := fun _ => (blk_cell BK.out 1).trans rfl; have zf1 := blk_frozen BK.out 1; have zg1 : ∀ m, (World.drewN w1 m).frozen? ⟨gb, 1, none⟩ = false := fun _ => blk_frozen BK.out 1; have z2 : w1.cell? ⟨gb, 2, none⟩ = some (.int .i64 0) := (blk_cell BK.out 2).trans rfl; have zm2 : ∀ m, (World.drewN w1 m).cell? ⟨gb, 2, none⟩ = some (.int .i64 0) := fun _ => (blk_cell BK.out 2).trans rfl; have zf2 := blk_frozen BK.out 2; have zg2 : ∀ m, (World.drewN w1 m).frozen? ⟨gb, 2, none⟩ = false := fun _ => blk_frozen BK.out 2; have z3 : w1.cell? ⟨gb, 3, none⟩ = some (.slice none 0 0) := (blk_cell BK.out 3).trans rfl; have zm3 : ∀ m, (World.drewN w1 m).cell? ⟨gb, 3, none⟩ = some (.slice none 0 0) := fun _ => (blk_cell BK.out 3).trans rfl; have zf3 := blk_frozen BK.out 3; have zg3 : ∀ m, (World.drewN w1 m).frozen? ⟨gb, 3, none⟩ = false := fun _ => blk_frozen BK.out 3)
      refine bodyPost_ret (results_cell_row rfl _ _ gb 43 #[.int .i64 0, .int .i64 0, .int .i64 0, .slice none 0 0] (0, 0) _ rfl (rec_blk BK.out _ _ _ _) Try.underlying43 rfl (by kernel_rfl)) rfl ?_
      exact ⟨_, rfl, Kd.R_nil _ _ _ _ _, rec_below HB1.out GE.out _ _ _ _⟩
    rw [if_neg hz] at h
    have hse : a1.toList.isEmpty = false := by
      rw [List.isEmpty_eq_false_iff]
      exact fun g => hz (toList_nil.1 g)
    obtain ⟨⟨j1, j2, j3, j4⟩, hj, h⟩ := Option.bind_eq_some_iff.mp h
    have HO := Aside0.mk ho
    have HJ := Aside0.mk hj
    have H := Aside0.mk h
    clear ho hj h hz
    go_enter Try.func20, Try.ntmps20
    go_wp2_with ((with_reducible refine gate_dst (N := 8) rfl ?_); refine box_event ?hg (N := 8) ?hd (cs := #[.int .i64 0, .int .i64 0, .int .i64 0, .slice none 0 0]) (t := 43) ?hr ?_; (case hd => rfl); (case hg => rfl); (case hr => first | (go_simp; done) | (go_simp; rfl)); intro gb hg w1 hbox hb; have BK := Aside0.mk hbox; have HB1 := Aside0.mk (hb); have GE := Aside0.mk (show w.heap.size ≤ gb by rw [hg]; exact Nat.le_refl _); clear hb hbox hg; have z0 : w1.cell? ⟨gb, 0, none⟩ = some (.int .i64 0) := (blk_cell BK.out 0).trans rfl; have zm0 : ∀ m, (World.drewN w1 m).cell? ⟨gb, 0, none⟩ = some (.int .i64 0) := fun _ => (blk_cell BK.out 0).trans rfl; have zf0 := blk_frozen BK.out 0; have zg0 : ∀ m, (World.drewN w1 m).frozen? ⟨gb, 0, none⟩ = false := fun _ => blk_frozen BK.out 0; have z1 : w1.cell? ⟨gb, 1, none⟩ = some (.int .i64 0) := (blk_cell BK.out 1).trans rfl; have zm1 : ∀ m, (World.drewN w1 m).cell? ⟨gb, 1, none⟩ = some (.int .i64 0) := fun _ => (blk_cell BK.out 1).trans rfl; have zf1 := blk_frozen BK.out 1; have zg1 : ∀ m, (World.drewN w1 m).frozen? ⟨gb, 1, none⟩ = false := fun _ => blk_frozen BK.out 1; have z2 : w1.cell? ⟨gb, 2, none⟩ = some (.int .i64 0) := (blk_cell BK.out 2).trans rfl; have zm2 : ∀ m, (World.drewN w1 m).cell? ⟨gb, 2, none⟩ = some (.int .i64 0) := fun _ => (blk_cell BK.out 2).trans rfl; have zf2 := blk_frozen BK.out 2; have zg2 : ∀ m, (World.drewN w1 m).frozen? ⟨gb, 2, none⟩ = false := fun _ => blk_frozen BK.out 2; have z3 : w1.cell? ⟨gb, 3, none⟩ = some (.slice none 0 0) := (blk_cell BK.out 3).trans rfl; have zm3 : ∀ m, (World.drewN w1 m).cell? ⟨gb, 3, none⟩ = some (.slice none 0 0) := fun _ => (blk_cell BK.out 3).trans rfl; have zf3 := blk_frozen BK.out 3; have zg3 : ∀ m, (World.drewN w1 m).frozen? ⟨gb, 3, none⟩ = false := fun _ => blk_frozen BK.out 3)
    refine (probe_Probe_Jump.calls (some a) (some d) a1 a2 j1 j2 j3 j4 w1 (OB.below HB1.out HO.out) HJ.out).mono ?_
    rintro e w2 ⟨v, rfl, hR, hb⟩
    obtain ⟨Av, cv, rfl⟩ := Kd.R_slice hR
    have BK2 : Aside0 (w2.heap[gb]? = some (.cells #[.int .i64 0, .int .i64 0, .int .i64 0, .slice none 0 0] 43 (0, 0))) := ⟨(hb.block _ (blk_lt BK.out)).trans BK.out⟩
    have HB2 := Aside0.mk (below_step HB1.out hb)
    have hgl := blk_lt BK.out
    have hR2 : Kd.R (Kd.int .i64) 3 w2 w.heap.size (fun k => k ≠ gb) (.slice Av j4.length cv) j4 := Kd.R_lower (Kd.R_mono (Kd.R_bound hR) (fun k hk => by have := hk.2.1; omega)) HB1.out.size
    have HR2 := Aside0.mk hR2
    clear hR hb BK HB1 hgl hR2 z0 z1 z2 z3 zm0 zm1 zm2 zm3 zf0 zf1 zf2 zf3 zg0 zg1 zg2 zg3
    dsimp only
    go_upto_region 4 with ((with_reducible refine gate_dst (N := 9) rfl ?_); refine box_event ?hg (N := 9) ?hd (cs := #[.int .i64 0, .int .i64 0, .int .i64 0, .slice none 0 0]) (t := 43) ?hr ?_; (case hd => rfl); (case hg => rfl); (case hr => first | (go_simp; done) | (go_simp; rfl)); intro gc hg w3 hbox hb; have BC := Aside0.mk hbox; have HB3 := Aside0.mk (below_step HB2.out hb); have GEc := Aside0.mk (show w2.heap.size ≤ gc by rw [hg]; exact Nat.le_refl _); have HBwc := Aside0.mk hb; clear hb hbox hg; have z0c : w3.cell? ⟨gc, 0, none⟩ = some (.int .i64 0) := (blk_cell BC.out 0).trans rfl; have zf0c := blk_frozen BC.out 0; have z1c : w3.cell? ⟨gc, 1, none⟩ = some (.int .i64 0) := (blk_cell BC.out 1).trans rfl; have zf1c := blk_frozen BC.out 1; have z2c : w3.cell? ⟨gc, 2, none⟩ = some (.int .i64 0) := (blk_cell BC.out 2).trans rfl; have zf2c := blk_frozen BC.out 2; have z3c : w3.cell? ⟨gc, 3, none⟩ = some (.slice none 0 0) := (blk_cell BC.out 3).trans rfl; have zf3c := blk_frozen BC.out 3)
    have BC4 := Aside0.mk (rec_blk BC.out (.int .i64 j1) (.int .i64 j2) (.int .i64 j3) (.slice Av j4.length cv))
    have HB4 := Aside0.mk (rec_below HB3.out (Nat.le_trans HB2.out.size GEc.out) (.int .i64 j1) (.int .i64 j2) (.int .i64 j3) (.slice Av j4.length cv) (g := gc))
    have hgl := blk_lt BK2.out
    have hgc := GEc.out
    have BK4 : Aside0 (((((w3.setCell ⟨gc, 0, none⟩ (.int .i64 j1)).setCell ⟨gc, 1, none⟩ (.int .i64 j2)).setCell ⟨gc, 2, none⟩ (.int .i64 j3)).setCell ⟨gc, 3, none⟩ (.slice Av j4.length cv)).heap[gb]? = some (.cells #[.int .i64 0, .int .i64 0, .int .i64 0, .slice none 0 0] 43 (0, 0))) :=
      ⟨(blk_far (p := ⟨gc, 3, none⟩) (blk_far (p := ⟨gc, 2, none⟩) (blk_far (p := ⟨gc, 1, none⟩) (blk_far (p := ⟨gc, 0, none⟩) ((HBwc.out.block _ hgl).trans BK2.out) (by show gb ≠ gc; omega) _) (by show gb ≠ gc; omega) _) (by show gb ≠ gc; omega) _) (by show gb ≠ gc; omega) _)⟩
    have hR3 : Kd.R (Kd.int .i64) 3 w3 w.heap.size (fun k => k ≠ gb ∧ k ≠ gc) (.slice Av j4.length cv) j4 := Kd.R_below (Kd.R_mono (Kd.R_bound HR2.out) (fun k hk => ⟨hk.1, by have := hk.2.2.1; omega⟩)) HBwc.out
    have HR4 : Aside0 (Kd.R (Kd.int .i64) 3 ((((w3.setCell ⟨gc, 0, none⟩ (.int .i64 j1)).setCell ⟨gc, 1, none⟩ (.int .i64 j2)).setCell ⟨gc, 2, none⟩ (.int .i64 j3)).setCell ⟨gc, 3, none⟩ (.slice Av j4.length cv)) w.heap.size (fun k => k ≠ gb) (.slice Av j4.length cv) j4) :=
      ⟨Kd.R_mono (Kd.R_far (p := ⟨gc, 3, none⟩) (Kd.R_far (p := ⟨gc, 2, none⟩) (Kd.R_far (p := ⟨gc, 1, none⟩) (Kd.R_far (p := ⟨gc, 0, none⟩) hR3 (fun _ hk => hk.2) _) (fun _ hk => hk.2) _) (fun _ hk => hk.2) _) (fun _ hk => hk.2) _) (fun _ hk => hk.1)⟩
    clear hgl hgc hR3 BC HB3 BK2 HB2 HR2 HBwc GEc z0c z1c z2c z3c zf0c zf1c zf2c zf3c
    generalize ((((w3.setCell ⟨gc, 0, none⟩ (.int .i64 j1)).setCell ⟨gc, 1, none⟩ (.int .i64 j2)).setCell ⟨gc, 2, none⟩ (.int .i64 j3)).setCell ⟨gc, 3, none⟩ (.slice Av j4.length cv)) = w4 at BC4 HB4 BK4 HR4 ⊢
    have z0c : w4.cell? ⟨gc, 0, none⟩ = some (.int .i64 j1) := (blk_cell BC4.out 0).trans rfl
    have zf0c := blk_frozen BC4.out 0
    have z1c : w4.cell? ⟨gc, 1, none⟩ = some (.int .i64 j2) := (blk_cell BC4.out 1).trans rfl
    have zf1c := blk_frozen BC4.out 1
    have z2c : w4.cell? ⟨gc, 2, none⟩ = some (.int .i64 j3) := (blk_cell BC4.out 2).trans rfl
    have zf2c := blk_frozen BC4.out 2
    have z3c : w4.cell? ⟨gc, 3, none⟩ = some (.slice Av j4.length cv) := (blk_cell BC4.out 3).trans rfl
    have zf3c := blk_frozen BC4.out 3
    have z0b : w4.cell? ⟨gb, 0, none⟩ = some (.int .i64 0) := (blk_cell BK4.out 0).trans rfl
    have zf0b := blk_frozen BK4.out 0
    have z1b : w4.cell? ⟨gb, 1, none⟩ = some (.int .i64 0) := (blk_cell BK4.out 1).trans rfl
    have zf1b := blk_frozen BK4.out 1
    have z2b : w4.cell? ⟨gb, 2, none⟩ = some (.int .i64 0) := (blk_cell BK4.out 2).trans rfl
    have zf2b := blk_frozen BK4.out 2
    have z3b : w4.cell? ⟨gb, 3, none⟩ = some (.slice none 0 0) := (blk_cell BK4.out 3).trans rfl
    have zf3b := blk_frozen BK4.out 3
    have h := H.out
    by_cases g1 : a3 = true ∧ j1 ≠ 0
    · rw [if_pos g1] at h
      simp only [Option.some.injEq, Prod.mk.injEq] at h
      obtain ⟨rfl, rfl, rfl, rfl⟩ := h
      obtain ⟨rfl, g2⟩ := g1
      have hne : (j1 != 0) = true := bne_iff_ne.2 g2
      clear H HJ g2
      go_wp2
      refine bodyPost_ret (results_cell_row rfl _ _ gb 43 #[.int .i64 j1, .int .i64 j2, .int .i64 j3, .slice Av j4.length cv] (0, 0) _ rfl (rec_blk BK4.out _ _ _ _) Try.underlying43 rfl (by kernel_rfl)) rfl ?_
      exact ⟨_, rfl, rec_R HR4.out _ _ _ _, rec_below HB4.out GE.out _ _ _ _⟩
    rw [if_neg g1] at h
    obtain ⟨ids, hi, h⟩ := Option.bind_eq_some_iff.mp h
    have HI := Aside0.mk hi
    have H2 := Aside0.mk h
    have hcs : a3 = false ∨ (a3 = true ∧ j1 = 0) := by
      cases a3 with
      | false => exact .inl rfl
      | true =>
        rcases Int.decEq j1 0 with q | q
        · exact absurd ⟨rfl, q⟩ g1
        · exact .inr ⟨rfl, q⟩
    have HO4 := Aside0.mk (OB.below HB4.out HO.out)
    clear H hi h HJ HR4 BC4 g1
    by_cases gi : ids ≠ []
    · have h := H2.out
      rw [if_pos gi] at h
      simp only [Option.some.injEq, Prod.mk.injEq] at h
      obtain ⟨rfl, rfl, rfl, rfl⟩ := h
      have hgt : decide (0 < (ids.length : Int)) = true := decide_eq_true (by have := List.length_pos_iff.2 gi; omega)
      have hgp : 0 < ids.length := List.length_pos_iff.2 gi
      have hgt2 : decide (0 < ids.length) = true := decide_eq_true hgp
      clear H2 gi
      rcases hcs with rfl | ⟨rfl, rfl⟩
      all_goals
        go_wp2_with (go_at_call 15; refine (probe_Probe_Hits.calls (some a) (some d) a1 ids _ HO4.out HI.out).mono ?_; rintro e w5 ⟨vh, rfl, hR, hb⟩; obtain ⟨Ah, ch, rfl⟩ := Kd.R_slice hR; have BK5 := Aside0.mk ((hb.block _ (blk_lt BK4.out)).trans BK4.out); have HB5 := Aside0.mk (below_step HB4.out hb); have hgl := blk_lt BK4.out; have hR5 : Kd.R (Kd.int .i64) 3 w5 w.heap.size (fun k => k ≠ gb) (.slice Ah ids.length ch) ids := Kd.R_lower (Kd.R_mono (Kd.R_bound hR) (fun k hk => by have := hk.2.1; omega)) HB4.out.size; have HR5 := Aside0.mk hR5; clear hR hb hR5 hgl; have z0h : w5.cell? ⟨gb, 0, none⟩ = some (.int .i64 0) := (blk_cell BK5.out 0).trans rfl; have zf0h := blk_frozen BK5.out 0; have z1h : w5.cell? ⟨gb, 1, none⟩ = some (.int .i64 0) := (blk_cell BK5.out 1).trans rfl; have zf1h := blk_frozen BK5.out 1; have z2h : w5.cell? ⟨gb, 2, none⟩ = some (.int .i64 0) := (blk_cell BK5.out 2).trans rfl; have zf2h := blk_frozen BK5.out 2; have z3h : w5.cell? ⟨gb, 3, none⟩ = some (.slice none 0 0) := (blk_cell BK5.out 3).trans rfl; have zf3h := blk_frozen BK5.out 3)
        refine bodyPost_ret (results_cell_row rfl _ _ gb 43 #[.int .i64 4, .int .i64 0, .int .i64 0, .slice Ah ids.length ch] (0, 0) _ rfl (rec_blk BK5.out _ _ _ _) Try.underlying43 rfl (by kernel_rfl)) rfl ?_
        exact ⟨_, rfl, rec_R HR5.out _ _ _ _, rec_below HB5.out GE.out _ _ _ _⟩
    · obtain rfl : ids = [] := Classical.not_not.1 gi
      have h := H2.out
      rw [if_neg gi] at h
      obtain ⟨⟨m1, m2⟩, hm, h⟩ := Option.bind_eq_some_iff.mp h
      have HM := Aside0.mk hm
      have H3 := Aside0.mk h
      clear H2 gi hm h
      have hgt : decide (0 < (([] : List Int).length : Int)) = false := rfl
      cases m2 with
      | true =>
        have h := H3.out
        rw [if_pos rfl] at h
        simp only [Option.some.injEq, Prod.mk.injEq] at h
        obtain ⟨rfl, rfl, rfl, rfl⟩ := h
        clear H3
        rcases hcs with rfl | ⟨rfl, rfl⟩
        all_goals
          go_wp2_with (first
          | (go_at_call 15; refine (probe_Probe_Hits.calls (some a) (some d) a1 [] _ HO4.out HI.out).mono ?_; rintro e w5 ⟨vh, rfl, hR, hb⟩; obtain ⟨Ah, ch, rfl⟩ := Kd.R_slice hR; have BK5 := Aside0.mk ((hb.block _ (blk_lt BK4.out)).trans BK4.out); have HB5 := Aside0.mk (below_step HB4.out hb); have HO5 := Aside0.mk (OB.below hb HO4.out); clear hR hb)
          | (go_at_call 12; refine (probe_Probe_Miss.calls (some a) (some d) a1 a2 m1 true _ HO5.out HM.out).mono ?_; rintro e w6 ⟨rfl, hb⟩; have BK6 := Aside0.mk ((hb.block _ (blk_lt BK5.out)).trans BK5.out); have HB6 := Aside0.mk (below_step HB5.out hb); clear hb; have z0m : w6.cell? ⟨gb, 0, none⟩ = some (.int .i64 0) := (blk_cell BK6.out 0).trans rfl; have zf0m := blk_frozen BK6.out 0; have z1m : w6.cell? ⟨gb, 1, none⟩ = some (.int .i64 0) := (blk_cell BK6.out 1).trans rfl; have zf1m := blk_frozen BK6.out 1; have z2m : w6.cell? ⟨gb, 2, none⟩ = some (.int .i64 0) := (blk_cell BK6.out 2).trans rfl; have zf2m := blk_frozen BK6.out 2; have z3m : w6.cell? ⟨gb, 3, none⟩ = some (.slice none 0 0) := (blk_cell BK6.out 3).trans rfl; have zf3m := blk_frozen BK6.out 3))
          refine bodyPost_ret (results_cell_row rfl _ _ gb 43 #[.int .i64 3, .int .i64 m1, .int .i64 1, .slice none 0 0] (0, 0) _ rfl (rec_blk BK6.out _ _ _ _) Try.underlying43 rfl (by kernel_rfl)) rfl ?_
          exact ⟨_, rfl, Kd.R_nil _ _ _ _ _, rec_below HB6.out GE.out _ _ _ _⟩
      | false =>
        have h := H3.out
        rw [if_neg (by simp)] at h
        simp only [Option.some.injEq, Prod.mk.injEq] at h
        obtain ⟨rfl, rfl, rfl, rfl⟩ := h
        clear H3
        rcases hcs with rfl | ⟨rfl, rfl⟩
        all_goals
          go_wp2_with (first
          | (go_at_call 15; refine (probe_Probe_Hits.calls (some a) (some d) a1 [] _ HO4.out HI.out).mono ?_; rintro e w5 ⟨vh, rfl, hR, hb⟩; obtain ⟨Ah, ch, rfl⟩ := Kd.R_slice hR; have BK5 := Aside0.mk ((hb.block _ (blk_lt BK4.out)).trans BK4.out); have HB5 := Aside0.mk (below_step HB4.out hb); have HO5 := Aside0.mk (OB.below hb HO4.out); clear hR hb)
          | (go_at_call 12; refine (probe_Probe_Miss.calls (some a) (some d) a1 a2 m1 false _ HO5.out HM.out).mono ?_; rintro e w6 ⟨rfl, hb⟩; have BK6 := Aside0.mk ((hb.block _ (blk_lt BK5.out)).trans BK5.out); have HB6 := Aside0.mk (below_step HB5.out hb); clear hb; have z0m : w6.cell? ⟨gb, 0, none⟩ = some (.int .i64 0) := (blk_cell BK6.out 0).trans rfl; have zf0m := blk_frozen BK6.out 0; have z1m : w6.cell? ⟨gb, 1, none⟩ = some (.int .i64 0) := (blk_cell BK6.out 1).trans rfl; have zf1m := blk_frozen BK6.out 1; have z2m : w6.cell? ⟨gb, 2, none⟩ = some (.int .i64 0) := (blk_cell BK6.out 2).trans rfl; have zf2m := blk_frozen BK6.out 2; have z3m : w6.cell? ⟨gb, 3, none⟩ = some (.slice none 0 0) := (blk_cell BK6.out 3).trans rfl; have zf3m := blk_frozen BK6.out 3))
          refine bodyPost_ret (results_cell_row rfl _ _ gb 43 #[.int .i64 4, .int .i64 0, .int .i64 0, .slice none 0 0] (0, 0) _ rfl (rec_blk BK6.out _ _ _ _) Try.underlying43 rfl (by kernel_rfl)) rfl ?_
          exact ⟨_, rfl, Kd.R_nil _ _ _ _ _, rec_below HB6.out GE.out _ _ _ _⟩
end Go.Proofs.Ytcehdcijflbgjaa.P

/- Proved here: what Go functions of this seat compute, or a law of it; no condition beyond the statement's own. Written for this claim by a program of this session (wip/myprint.py) over the kit's print.py. -/
namespace Go.Proofs.Ytcehdcijflbgjaa.P
open Go.RowKit Go.Proofs.YtcehdcijflbgjaaW.PrintWords Go.Proofs.YtcehdcijflbgjaaW.PrintLast Go.Proofs.YtcehdcijflbgjaaW.PrintMore
attribute [local go_sem] max2_int min2_int max_two min_two max_three min_three max_four min_four   -- for this text's walks alone
set_option linter.unusedVariables false
set_option linter.unusedSimpArgs false

/-! ### pats_check: function 25 -/
def pats_check.f (a0 : ByteArray) : Option (Int) := if a0.toList = ([] : List UInt8) then (some 7) else (if (a0.size : Int) > 65535 then (some 5) else (some 0))
set_option maxHeartbeats 8000000 in
set_option maxRecDepth 100000 in
theorem pats_check.calls (a0 : ByteArray) (r : Int) (w : World) (h : pats_check.f a0 = some r) :
    Calls Try.prog 25 #[.string a0] w fun e w' => e = .returned (.int .i64 r) ∧ Drawn0 w w' := by
  have H : (if a0.toList = ([] : List UInt8) then (some 7) else (if (a0.size : Int) > 65535 then (some 5) else (some 0))) = some r := h
  clear h
  by_cases c2 : a0.toList = ([] : List UInt8)
  · rw [if_pos c2] at H
    have c2b0 : (a0.toList == ([] : List UInt8)) = true := beq_iff_eq.mpr c2
    have c2b1 : (a0.toList != ([] : List UInt8)) = false := bne_eq_false_iff_eq.mpr c2
    clear c2
    obtain rfl := Option.some.inj H
    go_enter Try.func25, Try.ntmps25
    go_wp2
    go_ret
    exact ⟨by first | rfl | (simp; done) | (simp [*]; done), by repeat (first | exact Drawn0.refl _ | apply Drawn0.step)⟩
  · rw [if_neg c2] at H
    have c2b0 : (a0.toList == ([] : List UInt8)) = false := beq_eq_false_iff_ne.mpr c2
    have c2b1 : (a0.toList != ([] : List UInt8)) = true := bne_iff_ne.mpr c2
    by_cases c3 : (a0.size : Int) > 65535
    · rw [if_pos c3] at H
      have c3b0 : decide (65535 < (a0.size : Int)) = true := decide_eq_true c3
      have c3b1 : decide (65535 < a0.size) = true := decide_eq_true (by omega)
      clear c3
      obtain rfl := Option.some.inj H
      go_enter Try.func25, Try.ntmps25
      go_wp2
      go_ret
      exact ⟨by first | rfl | (simp; done) | (simp [*]; done), by repeat (first | exact Drawn0.refl _ | apply Drawn0.step)⟩
    · rw [if_neg c3] at H
      have c3b0 : decide (65535 < (a0.size : Int)) = false := decide_eq_false c3
      have c3b1 : decide (65535 < a0.size) = false := decide_eq_false (by omega)
      clear c3
      obtain rfl := Option.some.inj H
      go_enter Try.func25, Try.ntmps25
      go_wp2
      go_ret
      exact ⟨by first | rfl | (simp; done) | (simp [*]; done), by repeat (first | exact Drawn0.refl _ | apply Drawn0.step)⟩

end Go.Proofs.Ytcehdcijflbgjaa.P

/- The set of patterns, or why there is none: the walk. The checks go over the texts; the object is written round by round; then it holds the texts in order. -/
namespace Go.Proofs.Ytcehdcijflbgjaa.P
open Go Go.RowKit Go.Proofs.YtcehdcijflbgjaaW.PrintWords Go.Proofs.YtcehdcijflbgjaaW.PrintMore Go.Proofs.Ytcehdcijflbgjaa.Base
attribute [local go_sem] max2_int min2_int max_two min_two
set_option linter.unusedVariables false
set_option linter.unusedSimpArgs false

theorem check_is (s : ByteArray) : pats_check.f s = some (chkB s) := by
  unfold pats_check.f chkB
  by_cases h : s.size = 0
  · rw [if_pos (toList_nil.2 h), if_pos h]
  · rw [if_neg (fun e => h (toList_nil.1 e)), if_neg h]
    by_cases h2 : s.size > 65535
    · rw [if_pos (by omega), if_pos h2]
    · rw [if_neg (by omega), if_neg h2]
def pats_New.f (l0 : List ByteArray) : Option (Option SetD × Int) :=
  if l0.length = 0 then some (none, 14) else if l0.length > 65535 then some (none, 6) else
  if badB l0 ≠ 0 then some (none, badB l0) else
  if totalB 0 l0 > 16777216 then some (none, 13) else
  if twB [] l0 0 ≥ 0 then some (none, 8) else
  some (some ⟨sortB l0, (leastB (l0.getD 0 ByteArray.empty).size l0 : Nat), (mostB 0 l0 : Nat), (totalB 0 l0 : Nat)⟩, 0)

set_option maxHeartbeats 8000000 in
set_option maxRecDepth 100000 in
theorem pats_New.calls (A0 : Option Addr) (c0 : Nat) (l0 : List ByteArray) (r1 : Option SetD) (r2 : Int) (w : World) (hr0 : Kd.C Kd.string w A0 l0.length l0) (hc0 : l0.length ≤ c0) (h : pats_New.f l0 = some (r1, r2)) :
    Calls Try.prog 8 #[.slice A0 l0.length c0] w fun e w' => ∃ P0_ : Option Addr, e = .returned (.tuple #[.pointer P0_, .int .i64 r2]) ∧ OB K55 w' P0_ r1 ∧ Below w.heap.size w w' := by
  unfold pats_New.f at h
  by_cases g0 : l0.length = 0
  · rw [if_pos g0] at h
    obtain ⟨rfl, rfl⟩ := Prod.mk.inj (Option.some.inj h)
    rw [g0]
    clear h hr0 hc0 g0
    go_enter Try.func8, Try.ntmps8
    go_wp2
    go_ret2
    exact ⟨none, rfl, trivial, Below.refl _ _⟩
  rw [if_neg g0] at h
  by_cases g1 : l0.length > 65535
  · rw [if_pos g1] at h
    obtain ⟨rfl, rfl⟩ := Prod.mk.inj (Option.some.inj h)
    have c1 : ((l0.length : Int) == 0) = false := by rw [beq_eq_false_iff_ne]; omega
    have c2 : decide (65535 < (l0.length : Int)) = true := decide_eq_true (by omega)
    clear h hr0 hc0
    go_enter Try.func8, Try.ntmps8
    go_wp2
    go_ret2
    exact ⟨none, rfl, trivial, Below.refl _ _⟩
  rw [if_neg g1] at h
  have c1 : ((l0.length : Int) == 0) = false := by rw [beq_eq_false_iff_ne]; omega
  have c2 : decide (65535 < (l0.length : Int)) = false := decide_eq_false (by omega)
  have HC := Aside0.mk hr0
  have HC0 := Aside0.mk hc0
  have H := Aside0.mk h
  have g0' : 0 < l0.length := by omega
  have hle : l0.length ≤ 65535 := by omega
  clear h hr0 hc0 g0 g1
  have cell : ∀ (W : World) (k : Nat), Below w.heap.size w W → k < l0.length → ∃ ad, A0 = some ad ∧ W.cell? (ad.add k) = some (.string (l0.getD k ByteArray.empty)) := fun W k hb hk => by
    obtain ⟨ad, e, hc⟩ := Kd.at_string HC.out (k : Int) (by omega) (by omega)
    have hc' : w.cell? (ad.add k) = some (.string (l0.getD k ByteArray.empty)) := hc
    exact ⟨ad, e, (hb.cell (World.block_lt_of_cell? w _ hc')).trans hc'⟩
  have CELL := Aside0.mk cell
  clear cell
  go_enter Try.func8, Try.ntmps8
  go_wp2
  go_loopg [20] l0.length (fun kx i wr => ∃ k : Nat, i = .int .i64 k ∧ k ≤ l0.length ∧ l0.length - k ≤ kx ∧ Drawn0 w wr ∧ Aside0 (badB (l0.drop k) = badB l0))
  case atStart => exact ⟨0, rfl, Nat.zero_le _, by omega, Drawn0.refl _, ⟨rfl⟩⟩
  case round =>
    obtain ⟨k, rfl, hk, hkx, ⟨nq, rfl⟩, HBad⟩ := hrel
    by_cases hlt : k < l0.length
    · obtain ⟨ad, rfl, hx⟩ := CELL.out (w.drewN nq) k (pw_below_drewN (Below.refl _ _) _) hlt
      have hb := HBad.out
      rw [getD_drop l0 k ByteArray.empty hlt] at hb
      generalize l0.getD k ByteArray.empty = s at hx hb
      have hchk := fun W => pats_check.calls s (chkB s) W (check_is s)
      simp only [badB] at hb
      by_cases hz : chkB s = 0
      · rw [if_pos hz] at hb
        rw [hz] at hchk
        have HB2 := Aside0.mk hb
        clear hb hz HBad
        go_wp2_with (go_at_call 25; refine (hchk _).mono ?_; rintro e w' ⟨rfl, ⟨nd, rfl⟩⟩)
        go_roundg (l0.length - (k + 1))
        case measure => omega
        case rel => exact ⟨k + 1, by go_num, by omega, Nat.le_refl _, by repeat (first | exact Drawn0.refl _ | apply Drawn0.step), HB2⟩
      · rw [if_neg hz] at hb
        have h2 := H.out
        rw [if_pos (by rw [← hb]; exact hz), ← hb] at h2
        obtain ⟨cs, hcs⟩ : ∃ c, chkB s = c := ⟨_, rfl⟩
        rw [hcs] at h2 hchk hz
        obtain ⟨rfl, rfl⟩ := Prod.mk.inj (Option.some.inj h2)
        have cz : (cs != 0) = true := bne_iff_ne.2 hz
        have cz2 : (cs == 0) = false := beq_eq_false_iff_ne.2 hz
        clear h2 hb H HBad hz hcs
        go_wp2_with (go_at_call 25; refine (hchk _).mono ?_; rintro e w' ⟨rfl, ⟨nd, rfl⟩⟩)
        go_ret2
        exact ⟨none, rfl, trivial, by repeat (first | exact Below.refl _ _ | apply pw_below_drewN)⟩
    · obtain rfl : k = l0.length := by omega
      have hbad : badB l0 = 0 := by have := HBad.out; rw [List.drop_length] at this; exact this.symm
      have hsz := badB_size l0 hbad
      have h2 := H.out
      rw [if_neg (by rw [hbad]; simp)] at h2
      have H2 := Aside0.mk h2
      have SZ := Aside0.mk hsz
      have hS : sizedB l0 := ⟨by omega, fun s hs => by have := (hsz s hs).2; omega⟩
      have HS := Aside0.mk hS
      have hT := total_bound l0 0 (fun s hs => (hsz s hs).2)
      have hTB : (totalB 0 l0 : Nat) ≤ 65535 * 65535 := Nat.le_trans hT (by rw [Nat.zero_add]; exact Nat.mul_le_mul_right _ hle)
      have HTB := Aside0.mk hTB
      clear h2 hsz hbad H HBad hS hT hTB
      obtain ⟨ad, rfl, hx0⟩ := CELL.out (w.drewN nq) 0 (pw_below_drewN (Below.refl _ _) _) g0'
      have hB0 := Aside0.mk (pw_below_drewN (Below.refl w.heap.size w) nq)
      obtain ⟨f0, hf0⟩ : ∃ f, l0.getD 0 ByteArray.empty = f := ⟨_, rfl⟩
      rw [hf0] at hx0 H2
      have hx0' : (w.drewN nq).cell? ad = some (.string f0) := hx0
      have p0 : (0 < (l0.length : Int)) = True := eq_true (by omega)
      have hsize : (w.drewN nq).heap.size = w.heap.size := rfl
      go_wp2
      go_loopg [38] l0.length (fun kx i wr => ∃ (k : Nat), i = .int .i64 k ∧ k ≤ l0.length ∧ l0.length - k ≤ kx ∧
        Aside0 (wr.heap[w.heap.size]? = some (.cells #[.slice none 0 0, .int .i64 (leastB f0.size (l0.take k) : Nat), .int .i64 (mostB 0 (l0.take k) : Nat), .int .i64 (totalB 0 (l0.take k) : Nat)] 55 (0, 0))) ∧ Aside0 (Below w.heap.size w wr))
      case atStart => exact ⟨0, rfl, Nat.zero_le _, by omega, ⟨by rw [List.take_zero]; exact heap_alloc_new _ _⟩, ⟨hB0.out.alloc (Nat.le_refl _) _⟩⟩
      case round =>
        clear hx0 hx0' hB0 hsize p0 hf0
        obtain ⟨k, rfl, hk, hkx, HP, HB⟩ := hrel
        have hfz : ∀ j, wr.frozen? ⟨w.heap.size, j, none⟩ = false := fun j => by simp [World.frozen?, HP.out]
        by_cases hlt : k < l0.length
        · obtain ⟨ad2, e2, hx⟩ := CELL.out wr k HB.out hlt
          obtain rfl := Option.some.inj e2
          have hs := (SZ.out _ (getD_mem l0 k ByteArray.empty hlt)).2
          have f1 := fold_take (fun n s => min n s.size) f0.size l0 k hlt
          have f2 := fold_take (fun n s => max n s.size) 0 l0 k hlt
          have f3 := fold_take (fun n s => n + s.size) 0 l0 k hlt
          have hP := HP.out
          change leastB f0.size (l0.take (k + 1)) = min (leastB f0.size (l0.take k)) _ at f1
          change mostB 0 (l0.take (k + 1)) = max (mostB 0 (l0.take k)) _ at f2
          change totalB 0 (l0.take (k + 1)) = totalB 0 (l0.take k) + _ at f3
          have ht : totalB 0 (l0.take k) ≤ 0 + (l0.take k).length * 65535 := total_bound _ 0 (fun x hx => (SZ.out x (List.mem_of_mem_take hx)).2)
          have ht2 : totalB 0 (l0.take k) ≤ 4294836225 := by rw [List.length_take] at ht; omega
          clear ht e2 HP
          generalize l0.getD k ByteArray.empty = s at hx hs f1 f2 f3
          generalize leastB f0.size (l0.take k) = n1 at f1 hP
          generalize mostB 0 (l0.take k) = n2 at f2 hP
          generalize totalB 0 (l0.take k) = n3 at f3 hP ht2
          have F1 := Aside0.mk f1
          have F2 := Aside0.mk f2
          have F3 := Aside0.mk f3
          have hc1 : wr.cell? ⟨w.heap.size, 1, none⟩ = some (.int .i64 (n1 : Int)) := by simp [World.cell?, hP]
          have hc2 : wr.cell? ⟨w.heap.size, 2, none⟩ = some (.int .i64 (n2 : Int)) := by simp [World.cell?, hP]
          have hc3 : wr.cell? ⟨w.heap.size, 3, none⟩ = some (.int .i64 (n3 : Int)) := by simp [World.cell?, hP]
          have HP := Aside0.mk hP
          have hmin : (if s.size < n1 then (s.size : Int) else (n1 : Int)) = ((min n1 s.size : Nat) : Int) := by split <;> omega
          have hmax : (if n2 < s.size then (s.size : Int) else (n2 : Int)) = ((max n2 s.size : Nat) : Int) := by split <;> omega
          obtain ⟨m1, hm1⟩ : ∃ m, min n1 s.size = m := ⟨_, rfl⟩
          obtain ⟨m2, hm2⟩ : ∃ m, max n2 s.size = m := ⟨_, rfl⟩
          rw [hm1] at hmin F1
          rw [hm2] at hmax F2
          clear hP f1 f2 f3 hm1 hm2
          go_wp2
          go_roundg (l0.length - (k + 1))
          case measure => omega
          case rel =>
            refine ⟨k + 1, by go_num, by omega, Nat.le_refl _, ⟨?_⟩, ⟨?_⟩⟩
            · rw [F1.out, F2.out, F3.out]
              exact (heap_setCell_same _ _ _ _ _ _ (heap_setCell_same _ _ _ _ _ _ (heap_setCell_same _ _ _ _ _ _ HP.out))).trans rfl
            · exact ((HB.out.setCell (Nat.le_refl _) _).setCell (Nat.le_refl _) _).setCell (Nat.le_refl _) _
        · obtain rfl : k = l0.length := by omega
          have hP := HP.out
          rw [List.take_length] at hP
          have htb := HTB.out
          have h3 := H2.out
          have hTw := fun (W : World) (hb : Below w.heap.size w W) => affix_Twice.calls (some ad) c0 l0 (twB [] l0 0) W (Kd.C_below HC.out hb) HC0.out (by unfold affix_Twice.f; rw [if_pos HS.out])
          have hSo := fun (W : World) (hb : Below w.heap.size w W) => affix_Sorted.calls (some ad) c0 l0 (sortB l0) W (Kd.C_below HC.out hb) HC0.out (by unfold affix_Sorted.f; rw [if_pos HS.out])
          clear HP
          generalize leastB f0.size l0 = n1 at h3 hP
          generalize mostB 0 l0 = n2 at h3 hP
          generalize totalB 0 l0 = n3 at h3 hP htb
          generalize twB [] l0 0 = tw at h3 hTw
          have hBw : w.heap.size < wr.heap.size := (Array.getElem?_eq_some_iff.1 hP).1
          have hc3 : wr.cell? ⟨w.heap.size, 3, none⟩ = some (.int .i64 (n3 : Int)) := by simp [World.cell?, hP]
          have HP := Aside0.mk hP
          have HTw := Aside0.mk hTw
          have HSo := Aside0.mk hSo
          have HBw := Aside0.mk hBw
          clear hP hTw hSo hBw hfz H2 htb
          by_cases d1 : n3 > 16777216
          · rw [if_pos d1] at h3
            obtain ⟨rfl, rfl⟩ := Prod.mk.inj (Option.some.inj h3)
            have e1 : decide (16777216 < (n3 : Int)) = true := decide_eq_true (by omega)
            clear h3
            go_wp2
            go_ret2
            exact ⟨none, rfl, trivial, HB.out⟩
          rw [if_neg d1] at h3
          have e1 : decide (16777216 < (n3 : Int)) = false := decide_eq_false (by omega)
          clear d1
          by_cases d2 : tw ≥ 0
          · rw [if_pos d2] at h3
            obtain ⟨rfl, rfl⟩ := Prod.mk.inj (Option.some.inj h3)
            have e2 : decide (0 ≤ tw) = true := decide_eq_true d2
            clear h3 d2
            go_wp2_with (go_at_call 26; refine (HTw.out _ HB.out).mono ?_; rintro e w1 ⟨rfl, hb1⟩; have HB1 := Aside0.mk hb1; clear hb1)
            go_ret2
            exact ⟨none, rfl, trivial, HB.out.trans (HB1.out.mono (Nat.le_of_lt HBw.out))⟩
          rw [if_neg d2] at h3
          obtain ⟨rfl, rfl⟩ := Prod.mk.inj (Option.some.inj h3)
          have e2 : decide (0 ≤ tw) = false := decide_eq_false d2
          clear h3 d2
          go_wp2_with (first
            | (go_at_call 26; refine (HTw.out _ HB.out).mono ?_; rintro e w1 ⟨rfl, hb1⟩; have HP1 := Aside0.mk ((hb1.block _ HBw.out).trans HP.out); have HB1 := Aside0.mk (HB.out.trans (hb1.mono (Nat.le_of_lt HBw.out))); clear hb1)
            | (go_at_call 27; refine (HSo.out _ HB1.out).mono ?_; rintro e w2 ⟨v, rfl, hR, hb2⟩; obtain ⟨A2, c2, rfl⟩ := Kd.R_slice hR; have hlt1 : w.heap.size < w1.heap.size := (Array.getElem?_eq_some_iff.1 HP1.out).1; have hP2 := (hb2.block _ hlt1).trans HP1.out; have HB2 := Aside0.mk (HB1.out.trans (hb2.mono (Nat.le_of_lt hlt1))); have hfz2 : ∀ j, w2.frozen? ⟨w.heap.size, j, none⟩ = false := (fun j => by simp [World.frozen?, hP2]); have hc0 : w2.cell? ⟨w.heap.size, 0, none⟩ = some (.slice none 0 0) := (by simp [World.cell?, hP2]); have HP2 := Aside0.mk hP2; have HR := Aside0.mk hR; have HLT1 := Aside0.mk hlt1; clear hR hb2 hP2 hlt1)
            | go_in)
          go_ret2
          obtain ⟨_, hl2, hC2⟩ := Kd.R_reads' (R_beside HR.out HLT1.out (.slice A2 (sortB l0).length c2))
          have hq := heap_setCell_same _ _ 0 _ _ (.slice A2 (sortB l0).length c2) HP2.out
          exact ⟨_, rfl, OB.mk ⟨w.heap.size, A2, c2, rfl, by simp [World.cell?, hq], by simp [World.cell?, hq], by simp [World.cell?, hq], by simp [World.cell?, hq], hl2, hC2⟩, HB2.out.setCell (Nat.le_refl _) _⟩

end Go.Proofs.Ytcehdcijflbgjaa.P

/- What layer 9's reference computes by sorting and looking for what is there twice, as plain functions on lists of texts; no condition beyond the sizes that stand in each statement. -/
namespace Go.Proofs.Ytcehdcijflbgjaa.Base
open Go Go.RowKit Go.Proofs.YtcehdcijflbgjaaW.PrintWords Go.Proofs.YtcehdcijflbgjaaW.PrintMore Go.Proofs.Ytcehdcijflbgjaa.P
set_option linter.unusedVariables false

/-! sorted by insertion -/
theorem rsorted_put (l out : List ByteArray) (i j : Nat) (hi : i < l.length) (hl : l.length ≤ 8796093022200) (ho : out.length = i) (hj : j ≤ out.length) (hup : upB out)
    (hbelow : ∀ t, t < j → Op.bytesLess (LL (l.getD i ByteArray.empty)) (LL (out.getD t ByteArray.empty)) = false) (habove : ∀ t, j ≤ t → t < out.length → Op.bytesLess (LL (l.getD i ByteArray.empty)) (LL (out.getD t ByteArray.empty)) = true) :
    upB (out.take j ++ l.getD i ByteArray.empty :: out.drop j) ∧ (out.take j ++ l.getD i ByteArray.empty :: out.drop j).Perm (l.getD i ByteArray.empty :: out) := by
  refine ⟨?_, ?_⟩
  · have h1 : ∀ x ∈ out.take j, Op.bytesLess (LL (l.getD i ByteArray.empty)) (LL x) = false := fun x hx => by
      obtain ⟨t, ht, rfl⟩ := List.mem_iff_getElem.1 hx
      rw [List.length_take] at ht
      have := hbelow t (by omega)
      rw [List.getD_eq_getElem?_getD (l := out), List.getElem?_eq_getElem (by omega : t < out.length)] at this
      rw [List.getElem_take]
      exact this
    have h2 : ∀ x ∈ out.drop j, Op.bytesLess (LL (l.getD i ByteArray.empty)) (LL x) = true := fun x hx => by
      obtain ⟨t, ht, rfl⟩ := List.mem_iff_getElem.1 hx
      rw [List.length_drop] at ht
      have := habove (j + t) (by omega) (by omega)
      rw [List.getD_eq_getElem?_getD (l := out), List.getElem?_eq_getElem (by omega : j + t < out.length)] at this
      rw [List.getElem_drop]
      exact this
    have hsplit : (out.take j ++ out.drop j).Pairwise (fun x y => Op.bytesLess (LL y) (LL x) = false) := by rw [List.take_append_drop]; exact hup
    obtain ⟨p1, p2, p3⟩ := List.pairwise_append.1 hsplit
    refine List.pairwise_append.2 ⟨p1, List.pairwise_cons.2 ⟨fun y hy => bl_asym (h2 y hy), p2⟩, fun x hx y hy => ?_⟩
    rcases List.mem_cons.1 hy with rfl | hy
    · exact h1 x hx
    · exact p3 x hx y hy
  · refine List.perm_middle.trans ?_
    rw [List.take_append_drop]
theorem rsorted_both (l : List ByteArray) (hl : l.length ≤ 8796093022200) : ∀ (d i : Nat), i + d = l.length → ∀ out : List ByteArray, out.Perm (l.take i) → upB out →
    Ev (fun k => juratref09_Sorted.l0 k l out (i : Int)) (sortB l) := by
  intro d
  induction d with
  | zero =>
    intro i hi out hp hu
    rw [List.take_of_length_le (by omega)] at hp
    refine Ev.ret fun k => ?_
    simp only [juratref09_Sorted.l0]
    rw [if_neg (by omega), sortB_of hp hu]
  | succ d ih =>
    intro i hi out hp hu
    have ho : out.length = i := by rw [hp.length_eq, List.length_take]; omega
    have hx : rdOf ByteArray.empty l (i : Int) = l.getD i ByteArray.empty := rfl
    have fin : ∀ j, j ≤ out.length → (∀ t, t < j → Op.bytesLess (LL (l.getD i ByteArray.empty)) (LL (out.getD t ByteArray.empty)) = false) → (∀ t, j ≤ t → t < out.length → Op.bytesLess (LL (l.getD i ByteArray.empty)) (LL (out.getD t ByteArray.empty)) = true) →
        Ev (fun k => juratref09_Sorted.l0 k l ((([] ++ out.take j) ++ [l.getD i ByteArray.empty]) ++ out.drop j) ((i + 1 : Nat) : Int)) (sortB l) := fun j hj hb ha => by
      obtain ⟨u, p⟩ := rsorted_put l out i j (by omega) hl ho hj hu hb ha
      rw [List.nil_append, List.append_assoc, List.singleton_append]
      refine ih (i + 1) (by omega) _ (p.trans ?_) u
      rw [take_snoc l i ByteArray.empty (by omega)]
      exact (List.Perm.cons _ hp).trans (List.perm_append_singleton _ _).symm
    have inner : ∀ j, j ≤ out.length → (∀ t, j ≤ t → t < out.length → Op.bytesLess (LL (l.getD i ByteArray.empty)) (LL (out.getD t ByteArray.empty)) = true) →
        Ev (fun k => juratref09_Sorted.l1 k l out (i : Int) (j : Int)) (sortB l) := by
      intro j
      induction j with
      | zero =>
        intro hj ha
        refine Ev.step (f := fun k => juratref09_Sorted.l0 k l ((([] ++ out.take 0) ++ [l.getD i ByteArray.empty]) ++ out.drop 0) ((i + 1 : Nat) : Int)) (fun k => ?_) (fin 0 hj (fun t ht => absurd ht (Nat.not_lt_zero _)) ha)
        simp only [juratref09_Sorted.l1, Option.bind_some]
        rw [if_neg (by omega), if_pos (by omega), if_pos (by omega), if_pos (by simp), if_pos (by omega), if_pos (by omega), if_pos (by simp), hx, Int.toNat_natCast, if_pos (by simp; omega), wrap_id (by omega) (by omega)]
        rfl
      | succ j ihj =>
        intro hj ha
        have hy : rdOf ByteArray.empty out (((j + 1 : Nat) : Int) - 1) = out.getD j ByteArray.empty := by unfold rdOf; rw [show (((j + 1 : Nat) : Int) - 1).toNat = j by omega]
        cases hlt : Op.bytesLess (LL (l.getD i ByteArray.empty)) (LL (out.getD j ByteArray.empty)) with
        | true =>
          refine Ev.step (f := fun k => juratref09_Sorted.l1 k l out (i : Int) (j : Int)) (fun k => ?_) (ihj (by omega) (fun t h1 h2 => by
            by_cases he : t = j
            · subst he; exact hlt
            · exact ha t (by omega) h2))
          simp only [juratref09_Sorted.l1, Option.bind_some]
          rw [wrap_id (x := ((j + 1 : Nat) : Int) - 1) (by omega) (by omega), if_pos (by omega), if_pos (by omega), if_pos (by omega), if_pos (by omega), if_pos (by omega), hx, hy, if_pos (by rw [ByteArray.toList_eq, ByteArray.toList_eq]; exact hlt), show ((j + 1 : Nat) : Int) - 1 = (j : Int) by omega]
        | false =>
          refine Ev.step (f := fun k => juratref09_Sorted.l0 k l ((([] ++ out.take (j + 1)) ++ [l.getD i ByteArray.empty]) ++ out.drop (j + 1)) ((i + 1 : Nat) : Int)) (fun k => ?_) (fin (j + 1) hj (fun t ht => by
            by_cases he : t = j
            · subst he; exact hlt
            · have hp := List.pairwise_iff_getElem.1 hu t j (by omega) (by omega) (by omega)
              rw [List.getD_eq_getElem?_getD (l := out), List.getElem?_eq_getElem (by omega : j < out.length)] at hlt
              rw [List.getD_eq_getElem?_getD (l := out), List.getElem?_eq_getElem (by omega : t < out.length)]
              exact bl_ntrans hlt hp) ha)
          simp only [juratref09_Sorted.l1, Option.bind_some]
          rw [wrap_id (x := ((j + 1 : Nat) : Int) - 1) (by omega) (by omega), if_pos (by omega), if_pos (by omega), if_pos (by omega), if_pos (by omega), if_pos (by omega), hx, hy, if_neg (by rw [ByteArray.toList_eq, ByteArray.toList_eq, hlt]; simp), if_pos (by omega), if_pos (by omega), Int.toNat_natCast,
            if_pos (by simp; omega), if_pos (by simp; omega), if_pos (by simp; omega), wrap_id (by omega) (by omega)]
          rfl
    refine Ev.step (f := fun k => juratref09_Sorted.l1 k l out (i : Int) (out.length : Int)) (fun k => ?_) (inner out.length (Nat.le_refl _) (fun t h1 h2 => by omega))
    simp only [juratref09_Sorted.l0]
    rw [if_pos (by omega)]
theorem rsorted_ev (l : List ByteArray) (hl : l.length ≤ 8796093022200) : Ev (fun k => juratref09_Sorted.f k l) (sortB l) :=
  rsorted_both l hl l.length 0 (by omega) [] (by rw [List.take_zero]) List.Pairwise.nil

/-! there already -/
theorem inB_take (s : ByteArray) (l : List ByteArray) (i : Nat) : inB s (l.take i) = true ↔ ∃ t, t < i ∧ t < l.length ∧ l.getD t ByteArray.empty = s := by
  rw [inB_iff, List.mem_iff_getElem]
  constructor
  · rintro ⟨t, ht, rfl⟩
    rw [List.length_take] at ht
    refine ⟨t, by omega, by omega, ?_⟩
    rw [List.getD_eq_getElem?_getD, List.getElem?_eq_getElem (by omega : t < l.length), List.getElem_take]; rfl
  · rintro ⟨t, h1, h2, rfl⟩
    refine ⟨t, by rw [List.length_take]; omega, ?_⟩
    rw [List.getD_eq_getElem?_getD, List.getElem?_eq_getElem (by omega : t < l.length), List.getElem_take]; rfl
theorem rtwice_both (l : List ByteArray) (hl : l.length ≤ 9223372036854775806) : ∀ (d i : Nat), i + d = l.length →
    Ev (fun k => juratref09_Twice.l0 k l (i : Int)) (twB (l.take i) (l.drop i) i) := by
  intro d
  induction d with
  | zero =>
    intro i hi
    refine Ev.ret fun k => ?_
    simp only [juratref09_Twice.l0]
    rw [if_neg (by omega), List.drop_of_length_le (by omega)]
    rfl
  | succ d ih =>
    intro i hi
    have ih' := ih (i + 1) (by omega)
    rw [take_snoc l i ByteArray.empty (by omega)] at ih'
    rw [getD_drop l i ByteArray.empty (by omega)]
    have inner : ∀ e j, j + e = i → (∀ t, t < j → ¬ l.getD t ByteArray.empty = l.getD i ByteArray.empty) →
        Ev (fun k => juratref09_Twice.l1 k l (i : Int) (j : Int)) (twB (l.take i) (l.getD i ByteArray.empty :: l.drop (i + 1)) i) := by
      intro e
      induction e with
      | zero =>
        intro j hj hn
        have hin : ¬ inB (l.getD i ByteArray.empty) (l.take i) = true := fun h => by
          obtain ⟨t, h1, h2, h3⟩ := (inB_take _ _ _).1 h
          exact hn t (by omega) h3
        simp only [twB]
        rw [if_neg hin]
        refine Ev.step (f := fun k => juratref09_Twice.l0 k l ((i + 1 : Nat) : Int)) (fun k => ?_) ih'
        simp only [juratref09_Twice.l1]
        rw [if_neg (by omega), wrap_id (by omega) (by omega)]
        rfl
      | succ e ihe =>
        intro j hj hn
        have e1 : rdOf ByteArray.empty l (i : Int) = l.getD i ByteArray.empty := rfl
        have e2 : rdOf ByteArray.empty l (j : Int) = l.getD j ByteArray.empty := rfl
        by_cases h : l.getD j ByteArray.empty = l.getD i ByteArray.empty
        · have hin : inB (l.getD i ByteArray.empty) (l.take i) = true := (inB_take _ _ _).2 ⟨j, by omega, by omega, h⟩
          simp only [twB]
          rw [if_pos hin]
          refine Ev.ret fun k => ?_
          simp only [juratref09_Twice.l1]
          rw [if_pos (by omega), if_pos (by omega), if_pos (by omega), if_pos (by omega), if_pos (by omega), e1, e2, if_pos (toList_iff.2 h)]
        · refine Ev.step (f := fun k => juratref09_Twice.l1 k l (i : Int) ((j + 1 : Nat) : Int)) (fun k => ?_) (ihe (j + 1) (by omega) (fun t ht => by
            by_cases he : t = j
            · subst he; exact h
            · exact hn t (by omega)))
          simp only [juratref09_Twice.l1]
          rw [if_pos (by omega), if_pos (by omega), if_pos (by omega), if_pos (by omega), if_pos (by omega), e1, e2, if_neg (fun x => h (toList_iff.1 x)), wrap_id (by omega) (by omega)]
          rfl
    refine Ev.step (f := fun k => juratref09_Twice.l1 k l (i : Int) ((0 : Nat) : Int)) (fun k => ?_) (inner i 0 (by omega) (fun t ht => absurd ht (Nat.not_lt_zero _)))
    simp only [juratref09_Twice.l0]
    rw [if_pos (by omega)]
    rfl
theorem rtwice_ev (l : List ByteArray) (hl : l.length ≤ 9223372036854775806) : Ev (fun k => juratref09_Twice.f k l) (twB [] l 0) := by
  have h := rtwice_both l hl l.length 0 (by omega)
  rw [List.take_zero, List.drop_zero] at h
  exact h

end Go.Proofs.Ytcehdcijflbgjaa.Base

/- Proved here: what Go functions of this seat compute, or a law of it; no condition beyond the statement's own. Written for this claim by a program of this session (wip/myprint.py) over the kit's print.py. -/
namespace Go.Proofs.Ytcehdcijflbgjaa.P
open Go.RowKit Go.Proofs.YtcehdcijflbgjaaW.PrintWords Go.Proofs.YtcehdcijflbgjaaW.PrintLast Go.Proofs.YtcehdcijflbgjaaW.PrintMore
attribute [local go_sem] max2_int min2_int max_two min_two max_three min_three max_four min_four   -- for this text's walks alone
set_option linter.unusedVariables false
set_option linter.unusedSimpArgs false

/-! ### juratref10_Least: function 43 -/
def juratref10_Least.l0 : Nat → List ByteArray → Int → Int → Option (Int)
  | 0, _, _, _ => none
  | k + 1, x0, x3, x4 => if x4 < (x0.length : Int) then (if x4 = 0 then (if 0 ≤ x4 then (juratref10_Least.l0 k x0 ((rdOf ByteArray.empty x0 x4).size : Int) (wrap64 (x4 + 1))) else (none)) else (if 0 ≤ x4 then (if ((rdOf ByteArray.empty x0 x4).size : Int) < x3 then (juratref10_Least.l0 k x0 ((rdOf ByteArray.empty x0 x4).size : Int) (wrap64 (x4 + 1))) else (juratref10_Least.l0 k x0 x3 (wrap64 (x4 + 1)))) else (none))) else (some x3)
def juratref10_Least.f (k : Nat) (l0 : List ByteArray) : Option (Int) := juratref10_Least.l0 k l0 0 0
theorem juratref10_Least.mono_l : ∀ k, (∀ y0 y1 y2, LeO (juratref10_Least.l0 k y0 y1 y2) (juratref10_Least.l0 (k + 1) y0 y1 y2))
  | 0 => fun _ _ _ r h => by simp [juratref10_Least.l0] at h
  | k + 1 => by
    have ih0 := juratref10_Least.mono_l k
    · intro y0 y1 y2
      unfold juratref10_Least.l0
      repeat' first
      | (with_reducible exact ih0 _ _ _)
      | (with_reducible exact LeO.refl _)
      | (with_reducible exact LeO.none _)
      | (with_reducible refine LeO.ite ?_ ?_)
      | (with_reducible refine LeO.bind ?_ (fun _ => ?_))
      | exact ih0 _ _ _
      | exact LeO.none _
      | refine LeO.ite ?_ ?_
      | refine LeO.bind ?_ (fun _ => ?_)
theorem juratref10_Least.mono : ∀ a0 k, LeO (juratref10_Least.f k a0) (juratref10_Least.f (k + 1) a0) := by
  intro a0 k
  have ih0 := juratref10_Least.mono_l k
  unfold juratref10_Least.f
  repeat' first
      | (with_reducible exact ih0 _ _ _)
      | (with_reducible exact LeO.refl _)
      | (with_reducible exact LeO.none _)
      | (with_reducible refine LeO.ite ?_ ?_)
      | (with_reducible refine LeO.bind ?_ (fun _ => ?_))
      | exact ih0 _ _ _
      | exact LeO.none _
      | refine LeO.ite ?_ ?_
      | refine LeO.bind ?_ (fun _ => ?_)
set_option maxHeartbeats 8000000 in
set_option maxRecDepth 100000 in
theorem juratref10_Least.calls (k : Nat) (A0 : Option Addr) (c0 : Nat) (l0 : List ByteArray) (r : Int) (w : World) (hr0 : Kd.C Kd.string w A0 l0.length l0) (hc0 : l0.length ≤ c0) (h : juratref10_Least.f k l0 = some r) :
    Calls Try.prog 43 #[.slice A0 l0.length c0] w fun e w' => e = .returned (.int .i64 r) ∧ Drawn0 w w' := by
  have HR0 := Aside0.mk hr0
  have HC0 := Aside0.mk hc0
  clear hr0 hc0
  have H : (juratref10_Least.l0 k l0 0 0) = some r := h
  clear h
  have H' := Aside0.mk H
  clear H
  go_enter Try.func43, Try.ntmps43
  go_wp2
  go_loopg [3, 4] k (fun kq v3 v4 w' => ∃ (x3_1 : Int) (x4_1 : Int), v3 = .int .i64 x3_1 ∧ v4 = .int .i64 x4_1 ∧ Aside0 (juratref10_Least.l0 kq l0 x3_1 x4_1 = some r) ∧ Aside0 (kq ≤ k) ∧ Drawn0 w w')
  case atStart => exact ⟨(0), (0), (by first | rfl | exact isE_ _ | exact isE2_ _ | (simp; done) | (simp [*]; done)), (by first | rfl | exact isE_ _ | exact isE2_ _ | (simp; done) | (simp [*]; done)), H', ⟨Nat.le_refl _⟩, by repeat (first | exact Drawn0.refl _ | apply Drawn0.step)⟩
  case round =>
    clear H'
    obtain ⟨x3_1, x4_1, rfl, rfl, HA, HK1, ⟨m1, rfl⟩⟩ := hrel
    cases gk with
    | zero => exact absurd HA.out (by simp [juratref10_Least.l0])
    | succ k1 =>
      have H := HA.out
      clear HA
      simp only [juratref10_Least.l0] at H
      by_cases c2 : x4_1 < (l0.length : Int)
      · rw [if_pos c2] at H
        have c2b0 : decide (x4_1 < (l0.length : Int)) = true := decide_eq_true c2
        clear c2
        by_cases c3 : x4_1 = 0
        · rw [if_pos c3] at H
          have c3b0 : (x4_1 == 0) = true := beq_iff_eq.mpr c3
          have c3b1 : (x4_1 != 0) = false := bne_eq_false_iff_eq.mpr c3
          clear c3
          by_cases c4 : 0 ≤ x4_1
          · rw [if_pos c4] at H
            have c4b0 : decide (0 ≤ x4_1) = true := decide_eq_true c4
            clear c4
            have H' := Aside0.mk H
            clear H
            have p181 : 0 ≤ (x4_1 : Int) := of_decide_eq_true (by first | (with_reducible assumption) | assumption)
            have q181 : x4_1 < (l0.length : Int) := of_decide_eq_true (by first | (with_reducible assumption) | assumption)
            obtain ⟨ad181, e181, hx181_0⟩ := Kd.at_string HR0.out x4_1 p181 q181
            cases e181
            replace p181 := eq_true p181
            replace q181 := eq_true q181
            go_wp2
            go_roundg k1
            case measure => have := HK1.out; omega
            case rel => exact ⟨(((rdOf ByteArray.empty l0 x4_1).size : Int)), (wrap64 (x4_1 + 1)), (by first | rfl | exact isE_ _ | exact isE2_ _ | (simp; done) | (simp [*]; done)), (by first | rfl | exact isE_ _ | exact isE2_ _ | (simp; done) | (simp [*]; done)), H', ⟨by have := HK1.out; omega⟩, by repeat (first | exact Drawn0.refl _ | apply Drawn0.step)⟩
          · rw [if_neg c4] at H
            exact absurd H (by simp)
        · rw [if_neg c3] at H
          have c3b0 : (x4_1 == 0) = false := beq_eq_false_iff_ne.mpr c3
          have c3b1 : (x4_1 != 0) = true := bne_iff_ne.mpr c3
          by_cases c5 : 0 ≤ x4_1
          · rw [if_pos c5] at H
            have c5b0 : decide (0 ≤ x4_1) = true := decide_eq_true c5
            clear c5
            by_cases c6 : ((rdOf ByteArray.empty l0 x4_1).size : Int) < x3_1
            · rw [if_pos c6] at H
              have c6b0 : decide (((rdOf ByteArray.empty l0 x4_1).size : Int) < x3_1) = true := decide_eq_true c6
              clear c6
              have H' := Aside0.mk H
              clear H
              have p182 : 0 ≤ (x4_1 : Int) := of_decide_eq_true (by first | (with_reducible assumption) | assumption)
              have q182 : x4_1 < (l0.length : Int) := of_decide_eq_true (by first | (with_reducible assumption) | assumption)
              obtain ⟨ad182, e182, hx182_0⟩ := Kd.at_string HR0.out x4_1 p182 q182
              cases e182
              replace p182 := eq_true p182
              replace q182 := eq_true q182
              have p183 : 0 ≤ (x4_1 : Int) := of_decide_eq_true (by first | (with_reducible assumption) | assumption)
              have q183 : x4_1 < (l0.length : Int) := of_decide_eq_true (by first | (with_reducible assumption) | assumption)
              obtain ⟨ad183, e183, hx183_0⟩ := Kd.at_string HR0.out x4_1 p183 q183
              obtain rfl : ad182 = ad183 := (by injection e183)
              replace p183 := eq_true p183
              replace q183 := eq_true q183
              go_wp2
              go_roundg k1
              case measure => have := HK1.out; omega
              case rel => exact ⟨(((rdOf ByteArray.empty l0 x4_1).size : Int)), (wrap64 (x4_1 + 1)), (by first | rfl | exact isE_ _ | exact isE2_ _ | (simp; done) | (simp [*]; done)), (by first | rfl | exact isE_ _ | exact isE2_ _ | (simp; done) | (simp [*]; done)), H', ⟨by have := HK1.out; omega⟩, by repeat (first | exact Drawn0.refl _ | apply Drawn0.step)⟩
            · rw [if_neg c6] at H
              have c6b0 : decide (((rdOf ByteArray.empty l0 x4_1).size : Int) < x3_1) = false := decide_eq_false c6
              clear c6
              have H' := Aside0.mk H
              clear H
              have p182 : 0 ≤ (x4_1 : Int) := of_decide_eq_true (by first | (with_reducible assumption) | assumption)
              have q182 : x4_1 < (l0.length : Int) := of_decide_eq_true (by first | (with_reducible assumption) | assumption)
              obtain ⟨ad182, e182, hx182_0⟩ := Kd.at_string HR0.out x4_1 p182 q182
              cases e182
              replace p182 := eq_true p182
              replace q182 := eq_true q182
              go_wp2
              go_roundg k1
              case measure => have := HK1.out; omega
              case rel => exact ⟨(x3_1), (wrap64 (x4_1 + 1)), (by first | rfl | exact isE_ _ | exact isE2_ _ | (simp; done) | (simp [*]; done)), (by first | rfl | exact isE_ _ | exact isE2_ _ | (simp; done) | (simp [*]; done)), H', ⟨by have := HK1.out; omega⟩, by repeat (first | exact Drawn0.refl _ | apply Drawn0.step)⟩
          · rw [if_neg c5] at H
            exact absurd H (by simp)
      · rw [if_neg c2] at H
        have c2b0 : decide (x4_1 < (l0.length : Int)) = false := decide_eq_false c2
        clear c2
        obtain rfl := Option.some.inj H
        go_wp2
        go_ret
        exact ⟨by first | rfl | (simp; done) | (simp [*]; done), by repeat (first | exact Drawn0.refl _ | apply Drawn0.step)⟩

end Go.Proofs.Ytcehdcijflbgjaa.P

/- Proved here: what Go functions of this seat compute, or a law of it; no condition beyond the statement's own. Written for this claim by a program of this session (wip/myprint.py) over the kit's print.py. -/
namespace Go.Proofs.Ytcehdcijflbgjaa.P
open Go.RowKit Go.Proofs.YtcehdcijflbgjaaW.PrintWords Go.Proofs.YtcehdcijflbgjaaW.PrintLast Go.Proofs.YtcehdcijflbgjaaW.PrintMore
attribute [local go_sem] max2_int min2_int max_two min_two max_three min_three max_four min_four   -- for this text's walks alone
set_option linter.unusedVariables false
set_option linter.unusedSimpArgs false

/-! ### juratref10_Most: function 10 -/
def juratref10_Most.l0 : Nat → List ByteArray → Int → Int → Option (Int)
  | 0, _, _, _ => none
  | k + 1, x0, x3, x4 => if x4 < (x0.length : Int) then (if 0 ≤ x4 then (if ((rdOf ByteArray.empty x0 x4).size : Int) > x3 then (juratref10_Most.l0 k x0 ((rdOf ByteArray.empty x0 x4).size : Int) (wrap64 (x4 + 1))) else (juratref10_Most.l0 k x0 x3 (wrap64 (x4 + 1)))) else (none)) else (some x3)
def juratref10_Most.f (k : Nat) (l0 : List ByteArray) : Option (Int) := juratref10_Most.l0 k l0 0 0
theorem juratref10_Most.mono_l : ∀ k, (∀ y0 y1 y2, LeO (juratref10_Most.l0 k y0 y1 y2) (juratref10_Most.l0 (k + 1) y0 y1 y2))
  | 0 => fun _ _ _ r h => by simp [juratref10_Most.l0] at h
  | k + 1 => by
    have ih0 := juratref10_Most.mono_l k
    · intro y0 y1 y2
      unfold juratref10_Most.l0
      repeat' first
      | (with_reducible exact ih0 _ _ _)
      | (with_reducible exact LeO.refl _)
      | (with_reducible exact LeO.none _)
      | (with_reducible refine LeO.ite ?_ ?_)
      | (with_reducible refine LeO.bind ?_ (fun _ => ?_))
      | exact ih0 _ _ _
      | exact LeO.none _
      | refine LeO.ite ?_ ?_
      | refine LeO.bind ?_ (fun _ => ?_)
theorem juratref10_Most.mono : ∀ a0 k, LeO (juratref10_Most.f k a0) (juratref10_Most.f (k + 1) a0) := by
  intro a0 k
  have ih0 := juratref10_Most.mono_l k
  unfold juratref10_Most.f
  repeat' first
      | (with_reducible exact ih0 _ _ _)
      | (with_reducible exact LeO.refl _)
      | (with_reducible exact LeO.none _)
      | (with_reducible refine LeO.ite ?_ ?_)
      | (with_reducible refine LeO.bind ?_ (fun _ => ?_))
      | exact ih0 _ _ _
      | exact LeO.none _
      | refine LeO.ite ?_ ?_
      | refine LeO.bind ?_ (fun _ => ?_)
set_option maxHeartbeats 8000000 in
set_option maxRecDepth 100000 in
theorem juratref10_Most.calls (k : Nat) (A0 : Option Addr) (c0 : Nat) (l0 : List ByteArray) (r : Int) (w : World) (hr0 : Kd.C Kd.string w A0 l0.length l0) (hc0 : l0.length ≤ c0) (h : juratref10_Most.f k l0 = some r) :
    Calls Try.prog 10 #[.slice A0 l0.length c0] w fun e w' => e = .returned (.int .i64 r) ∧ Drawn0 w w' := by
  have HR0 := Aside0.mk hr0
  have HC0 := Aside0.mk hc0
  clear hr0 hc0
  have H : (juratref10_Most.l0 k l0 0 0) = some r := h
  clear h
  have H' := Aside0.mk H
  clear H
  go_enter Try.func10, Try.ntmps10
  go_wp2
  go_loopg [3, 4] k (fun kq v3 v4 w' => ∃ (x3_1 : Int) (x4_1 : Int), v3 = .int .i64 x3_1 ∧ v4 = .int .i64 x4_1 ∧ Aside0 (juratref10_Most.l0 kq l0 x3_1 x4_1 = some r) ∧ Aside0 (kq ≤ k) ∧ Drawn0 w w')
  case atStart => exact ⟨(0), (0), (by first | rfl | exact isE_ _ | exact isE2_ _ | (simp; done) | (simp [*]; done)), (by first | rfl | exact isE_ _ | exact isE2_ _ | (simp; done) | (simp [*]; done)), H', ⟨Nat.le_refl _⟩, by repeat (first | exact Drawn0.refl _ | apply Drawn0.step)⟩
  case round =>
    clear H'
    try clear c1
    obtain ⟨x3_1, x4_1, rfl, rfl, HA, HK1, ⟨m1, rfl⟩⟩ := hrel
    cases gk with
    | zero => exact absurd HA.out (by simp [juratref10_Most.l0])
    | succ k1 =>
      have H := HA.out
      clear HA
      simp only [juratref10_Most.l0] at H
      by_cases c2 : x4_1 < (l0.length : Int)
      · rw [if_pos c2] at H
        have c2b0 : decide (x4_1 < (l0.length : Int)) = true := decide_eq_true c2
        clear c2
        by_cases c3 : 0 ≤ x4_1
        · rw [if_pos c3] at H
          have c3b0 : decide (0 ≤ x4_1) = true := decide_eq_true c3
          clear c3
          by_cases c4 : ((rdOf ByteArray.empty l0 x4_1).size : Int) > x3_1
          · rw [if_pos c4] at H
            have c4b0 : decide (x3_1 < ((rdOf ByteArray.empty l0 x4_1).size : Int)) = true := decide_eq_true c4
            clear c4
            have H' := Aside0.mk H
            clear H
            have p166 : 0 ≤ (x4_1 : Int) := of_decide_eq_true (by first | (with_reducible assumption) | assumption)
            have q166 : x4_1 < (l0.length : Int) := of_decide_eq_true (by first | (with_reducible assumption) | assumption)
            obtain ⟨ad166, e166, hx166_0⟩ := Kd.at_string HR0.out x4_1 p166 q166
            cases e166
            replace p166 := eq_true p166
            replace q166 := eq_true q166
            have p167 : 0 ≤ (x4_1 : Int) := of_decide_eq_true (by first | (with_reducible assumption) | assumption)
            have q167 : x4_1 < (l0.length : Int) := of_decide_eq_true (by first | (with_reducible assumption) | assumption)
            obtain ⟨ad167, e167, hx167_0⟩ := Kd.at_string HR0.out x4_1 p167 q167
            obtain rfl : ad166 = ad167 := (by injection e167)
            replace p167 := eq_true p167
            replace q167 := eq_true q167
            go_wp2
            go_roundg k1
            case measure => have := HK1.out; omega
            case rel => exact ⟨(((rdOf ByteArray.empty l0 x4_1).size : Int)), (wrap64 (x4_1 + 1)), (by first | rfl | exact isE_ _ | exact isE2_ _ | (simp; done) | (simp [*]; done)), (by first | rfl | exact isE_ _ | exact isE2_ _ | (simp; done) | (simp [*]; done)), H', ⟨by have := HK1.out; omega⟩, by repeat (first | exact Drawn0.refl _ | apply Drawn0.step)⟩
          · rw [if_neg c4] at H
            have c4b0 : decide (x3_1 < ((rdOf ByteArray.empty l0 x4_1).size : Int)) = false := decide_eq_false c4
            clear c4
            have H' := Aside0.mk H
            clear H
            have p166 : 0 ≤ (x4_1 : Int) := of_decide_eq_true (by first | (with_reducible assumption) | assumption)
            have q166 : x4_1 < (l0.length : Int) := of_decide_eq_true (by first | (with_reducible assumption) | assumption)
            obtain ⟨ad166, e166, hx166_0⟩ := Kd.at_string HR0.out x4_1 p166 q166
            cases e166
            replace p166 := eq_true p166
            replace q166 := eq_true q166
            go_wp2
            go_roundg k1
            case measure => have := HK1.out; omega
            case rel => exact ⟨(x3_1), (wrap64 (x4_1 + 1)), (by first | rfl | exact isE_ _ | exact isE2_ _ | (simp; done) | (simp [*]; done)), (by first | rfl | exact isE_ _ | exact isE2_ _ | (simp; done) | (simp [*]; done)), H', ⟨by have := HK1.out; omega⟩, by repeat (first | exact Drawn0.refl _ | apply Drawn0.step)⟩
        · rw [if_neg c3] at H
          exact absurd H (by simp)
      · rw [if_neg c2] at H
        have c2b0 : decide (x4_1 < (l0.length : Int)) = false := decide_eq_false c2
        clear c2
        obtain rfl := Option.some.inj H
        go_wp2
        go_ret
        exact ⟨by first | rfl | (simp; done) | (simp [*]; done), by repeat (first | exact Drawn0.refl _ | apply Drawn0.step)⟩

end Go.Proofs.Ytcehdcijflbgjaa.P

/- What layer 10's reference makes of texts, as plain functions; no condition beyond the sizes that stand in each statement. -/
namespace Go.Proofs.Ytcehdcijflbgjaa.Base
open Go Go.RowKit Go.Proofs.YtcehdcijflbgjaaW.PrintWords Go.Proofs.YtcehdcijflbgjaaW.PrintMore Go.Proofs.Ytcehdcijflbgjaa.P
set_option linter.unusedVariables false

/-- The patterns in order, or the error. -/
def newB (l : List ByteArray) : List ByteArray × Int :=
  if l.length = 0 then ([], 14) else if l.length > 65535 then ([], 6) else if badB l ≠ 0 then ([], badB l) else if totalB 0 l > 16777216 then ([], 13) else if twB [] l 0 ≥ 0 then ([], 8) else (sortB l, 0)
theorem rnew_l0 (l : List ByteArray) (hl : l.length ≤ 65535) : ∀ (d i n : Nat), i + d = l.length → n ≤ i * 65535 →
    Ev (fun k => juratref10_New.l0 k l (n : Int) (i : Int)) (if badB (l.drop i) ≠ 0 then ([], badB (l.drop i)) else if totalB n (l.drop i) > 16777216 then ([], 13) else if twB [] l 0 ≥ 0 then ([], 8) else (sortB l, 0)) := by
  intro d
  induction d with
  | zero =>
    intro i n hi hn
    rw [List.drop_of_length_le (by omega), if_neg (by simp [badB])]
    have hn' : totalB n [] = n := rfl
    rw [hn']
    by_cases h1 : n > 16777216
    · rw [if_pos h1]
      refine Ev.ret fun k => ?_
      simp only [juratref10_New.l0]
      rw [if_neg (by omega), if_pos (by omega)]
    · rw [if_neg h1]
      refine Ev.step (f := fun k => (juratref09_Twice.f k l).bind fun t => if t ≥ 0 then some ([], 8) else (juratref09_Sorted.f k l).bind fun s => some (s, 0)) (fun k => ?_) ?_
      · simp only [juratref10_New.l0]
        rw [if_neg (by omega), if_neg (by omega)]
      refine Ev.bind (rtwice_ev l (by omega)) ?_
      by_cases h2 : twB [] l 0 ≥ 0
      · rw [if_pos h2]
        exact Ev.congr (fun k => if_pos h2) (Ev.now _)
      · rw [if_neg h2]
        exact Ev.congr (fun k => if_neg h2) (Ev.bind (rsorted_ev l (by omega)) (Ev.now _))
  | succ d ih =>
    intro i n hi hn
    have hd := getD_drop l i ByteArray.empty (by omega)
    have e : rdOf ByteArray.empty l (i : Int) = l.getD i ByteArray.empty := rfl
    rw [hd]
    generalize l.getD i ByteArray.empty = s at e
    by_cases h0 : s.size = 0
    · have hc : chkB s = 7 := by unfold chkB; rw [if_pos h0]
      have hb : badB (s :: l.drop (i + 1)) = chkB s := by show (if chkB s = 0 then _ else chkB s) = chkB s; rw [if_neg (by omega)]
      rw [hb, hc, if_pos (by omega)]
      refine Ev.ret fun k => ?_
      simp only [juratref10_New.l0]
      rw [if_pos (by omega), if_pos (by omega), e, if_pos (toList_nil.2 h0)]
    by_cases h1 : s.size > 65535
    · have hc : chkB s = 5 := by unfold chkB; rw [if_neg h0, if_pos h1]
      have hb : badB (s :: l.drop (i + 1)) = chkB s := by show (if chkB s = 0 then _ else chkB s) = chkB s; rw [if_neg (by omega)]
      rw [hb, hc, if_pos (by omega)]
      refine Ev.ret fun k => ?_
      simp only [juratref10_New.l0]
      rw [if_pos (by omega), if_pos (by omega), e, if_neg (fun x => h0 (toList_nil.1 x)), if_pos (by omega)]
    have hc : chkB s = 0 := by unfold chkB; rw [if_neg h0, if_neg h1]
    have hb : badB (s :: l.drop (i + 1)) = badB (l.drop (i + 1)) := if_pos hc
    rw [hb]
    have ht : totalB n (s :: l.drop (i + 1)) = totalB (n + s.size) (l.drop (i + 1)) := rfl
    rw [ht]
    refine Ev.step (f := fun k => juratref10_New.l0 k l ((n + s.size : Nat) : Int) ((i + 1 : Nat) : Int)) (fun k => ?_) (ih (i + 1) (n + s.size) (by omega) (by omega))
    simp only [juratref10_New.l0]
    rw [if_pos (by omega), if_pos (by omega), e, if_neg (fun x => h0 (toList_nil.1 x)), if_neg (by omega), wrap_id (by omega) (by omega), wrap_id (by omega) (by omega)]
    rfl
theorem rnew_ev (l : List ByteArray) : Ev (fun k => juratref10_New.f k l) (newB l) := by
  unfold newB
  by_cases h0 : l.length = 0
  · rw [if_pos h0]
    refine Ev.const fun k => ?_
    unfold juratref10_New.f
    rw [if_pos (by omega)]
  rw [if_neg h0]
  by_cases h1 : l.length > 65535
  · rw [if_pos h1]
    refine Ev.const fun k => ?_
    unfold juratref10_New.f
    rw [if_neg (by omega), if_pos (by omega)]
  rw [if_neg h1]
  have h := rnew_l0 l (by omega) l.length 0 0 (by omega) (by omega)
  rw [List.drop_zero] at h
  refine Ev.congr (fun k => ?_) h
  unfold juratref10_New.f
  rw [if_neg (by omega), if_neg (by omega)]
  rfl

/-- What the document tells of a list. -/
def minB (l : List ByteArray) : Nat := leastB (l.getD 0 ByteArray.empty).size l
theorem rleast_l0 (l : List ByteArray) (hl : l.length ≤ 9223372036854775806) : ∀ (d i n : Nat), i + d = l.length → 0 < i →
    Ev (fun k => juratref10_Least.l0 k l (n : Int) (i : Int)) (leastB n (l.drop i) : Int) := by
  intro d
  induction d with
  | zero =>
    intro i n hi h0
    rw [List.drop_of_length_le (by omega)]
    refine Ev.ret fun k => ?_
    simp only [juratref10_Least.l0]
    rw [if_neg (by omega)]
    rfl
  | succ d ih =>
    intro i n hi h0
    have hd := getD_drop l i ByteArray.empty (by omega)
    have e : rdOf ByteArray.empty l (i : Int) = l.getD i ByteArray.empty := rfl
    rw [hd]
    have ht : leastB n (l.getD i ByteArray.empty :: l.drop (i + 1)) = leastB (min n (l.getD i ByteArray.empty).size) (l.drop (i + 1)) := rfl
    rw [ht]
    refine Ev.step (f := fun k => juratref10_Least.l0 k l ((min n (l.getD i ByteArray.empty).size : Nat) : Int) ((i + 1 : Nat) : Int)) (fun k => ?_) (ih (i + 1) _ (by omega) (by omega))
    simp only [juratref10_Least.l0]
    rw [if_pos (by omega), if_neg (by omega), if_pos (by omega), e]
    by_cases h : (l.getD i ByteArray.empty).size < n
    · rw [if_pos (by omega), wrap_id (by omega) (by omega), Nat.min_eq_right (by omega)]; rfl
    · rw [if_neg (by omega), wrap_id (by omega) (by omega), Nat.min_eq_left (by omega)]; rfl
theorem rleast_ev (l : List ByteArray) (hl : l.length ≤ 9223372036854775806) : Ev (fun k => juratref10_Least.f k l) (minB l : Int) := by
  cases l with
  | nil => exact Ev.ret fun k => by simp [juratref10_Least.f, juratref10_Least.l0, minB, leastB, List.getD]
  | cons s l =>
    have h := rleast_l0 (s :: l) hl l.length 1 s.size (by rw [List.length_cons]; omega) (by omega)
    have e : minB (s :: l) = leastB s.size ((s :: l).drop 1) := by
      show leastB (min s.size s.size) l = leastB s.size l
      rw [Nat.min_self]
    rw [e]
    refine Ev.step (f := fun k => juratref10_Least.l0 k (s :: l) (s.size : Int) ((1 : Nat) : Int)) (fun k => ?_) h
    unfold juratref10_Least.f
    simp only [juratref10_Least.l0]
    rw [if_pos (by rw [List.length_cons]; omega), if_pos trivial, if_pos (by omega), wrap_id (by omega) (by omega)]
    rfl
theorem rmost_l0 (l : List ByteArray) (hl : l.length ≤ 9223372036854775806) : ∀ (d i n : Nat), i + d = l.length →
    Ev (fun k => juratref10_Most.l0 k l (n : Int) (i : Int)) (mostB n (l.drop i) : Int) := by
  intro d
  induction d with
  | zero =>
    intro i n hi
    rw [List.drop_of_length_le (by omega)]
    refine Ev.ret fun k => ?_
    simp only [juratref10_Most.l0]
    rw [if_neg (by omega)]
    rfl
  | succ d ih =>
    intro i n hi
    have hd := getD_drop l i ByteArray.empty (by omega)
    have e : rdOf ByteArray.empty l (i : Int) = l.getD i ByteArray.empty := rfl
    rw [hd]
    have ht : mostB n (l.getD i ByteArray.empty :: l.drop (i + 1)) = mostB (max n (l.getD i ByteArray.empty).size) (l.drop (i + 1)) := rfl
    rw [ht]
    refine Ev.step (f := fun k => juratref10_Most.l0 k l ((max n (l.getD i ByteArray.empty).size : Nat) : Int) ((i + 1 : Nat) : Int)) (fun k => ?_) (ih (i + 1) _ (by omega))
    simp only [juratref10_Most.l0]
    rw [if_pos (by omega), if_pos (by omega), e]
    by_cases h : (l.getD i ByteArray.empty).size > n
    · rw [if_pos (by omega), wrap_id (by omega) (by omega), Nat.max_eq_right (by omega)]; rfl
    · rw [if_neg (by omega), wrap_id (by omega) (by omega), Nat.max_eq_left (by omega)]; rfl
theorem rmost_ev (l : List ByteArray) (hl : l.length ≤ 9223372036854775806) : Ev (fun k => juratref10_Most.f k l) (mostB 0 l : Int) := by
  have h := rmost_l0 l hl l.length 0 0 (by omega)
  rw [List.drop_zero] at h
  exact h

end Go.Proofs.Ytcehdcijflbgjaa.Base

/- What layer 10's reference computes, as plain functions on lists of texts, and that layer 10's set is it; no condition beyond the sizes that stand in each statement. -/
namespace Go.Proofs.Ytcehdcijflbgjaa.Base
open Go Go.RowKit Go.Proofs.YtcehdcijflbgjaaW.PrintWords Go.Proofs.YtcehdcijflbgjaaW.PrintMore Go.Proofs.Ytcehdcijflbgjaa.P
set_option linter.unusedVariables false

/-- Where a text stands first; -1: nowhere. -/
def findB (s : ByteArray) : List ByteArray → Nat → Int
  | [], _ => -1
  | x :: l, i => if x = s then (i : Int) else findB s l (i + 1)

end Go.Proofs.Ytcehdcijflbgjaa.Base

/- What is told of a set of patterns, of the list in order and of the list as it came; layer 10's examples; no condition beyond the sizes that stand in each statement. -/
namespace Go.Proofs.Ytcehdcijflbgjaa.Base
open Go Go.RowKit Go.Proofs.YtcehdcijflbgjaaW.PrintWords Go.Proofs.YtcehdcijflbgjaaW.PrintMore Go.Proofs.Ytcehdcijflbgjaa.P
set_option linter.unusedVariables false

theorem findB_up (s : ByteArray) : ∀ (l : List ByteArray) (i : Nat), upB l → findB s l i = if inB s l = true then ((i + aheadB s l : Nat) : Int) else -1
  | [], i, _ => rfl
  | x :: l, i, h => by
    obtain ⟨h1, h2⟩ := List.pairwise_cons.1 h
    have ih := findB_up s l (i + 1) h2
    have ef : findB s (x :: l) i = if x = s then (i : Int) else findB s l (i + 1) := rfl
    rw [ef]
    by_cases hx : x = s
    · subst hx
      rw [if_pos rfl, if_pos (inB_iff.2 List.mem_cons_self), aheadB_none x (x :: l) (fun y hy => by
        rcases List.mem_cons.1 hy with rfl | hy
        · exact bl_irrefl _
        · exact h1 y hy)]
      rfl
    · rw [if_neg hx, inB_cons, decide_eq_false hx, Bool.false_or, ih]
      cases hb : Op.bytesLess (LL x) (LL s) with
      | true =>
        have e : aheadB s (x :: l) = aheadB s l + 1 := by unfold aheadB; rw [List.countP_cons_of_pos (by simpa using hb)]
        rw [e, show i + 1 + aheadB s l = i + (aheadB s l + 1) by omega]
      | false =>
        have hn : ¬ inB s l = true := fun hi => by
          rcases bl_tri (LL x) (LL s) with h' | h' | h'
          · exact hx (LL_inj h')
          · rw [hb] at h'; cases h'
          · rw [h1 s (inB_iff.1 hi)] at h'; cases h'
        rw [if_neg hn, if_neg hn]
theorem fold_perm {β : Type} (f : β → ByteArray → β) (hc : ∀ a x y, f (f a x) y = f (f a y) x) {l m : List ByteArray} (h : l.Perm m) : ∀ a, l.foldl f a = m.foldl f a := by
  induction h with
  | nil => intro a; rfl
  | cons x _ ih => intro a; exact ih _
  | swap x y l => intro a; simp only [List.foldl_cons]; rw [hc]
  | trans _ _ ih1 ih2 => intro a; rw [ih1, ih2]
theorem total_perm {l m : List ByteArray} (h : l.Perm m) : totalB 0 l = totalB 0 m := fold_perm _ (fun a x y => by omega) h 0
theorem most_perm {l m : List ByteArray} (h : l.Perm m) : mostB 0 l = mostB 0 m := fold_perm _ (fun a x y => by omega) h 0
theorem least_spec : ∀ (l : List ByteArray) (a : Nat), leastB a l ≤ a ∧ (∀ s ∈ l, leastB a l ≤ s.size) ∧ (leastB a l = a ∨ ∃ s ∈ l, leastB a l = s.size)
  | [], a => ⟨Nat.le_refl _, by simp, .inl rfl⟩
  | x :: l, a => by
    obtain ⟨h1, h2, h3⟩ := least_spec l (min a x.size)
    have e : leastB a (x :: l) = leastB (min a x.size) l := rfl
    rw [e]
    refine ⟨by omega, fun s hs => ?_, ?_⟩
    · rcases List.mem_cons.1 hs with rfl | hs
      · omega
      · exact h2 s hs
    · rcases h3 with h3 | ⟨s, hs, h3⟩
      · by_cases ha : a ≤ x.size
        · left; omega
        · right; exact ⟨x, List.mem_cons_self, by omega⟩
      · right; exact ⟨s, List.mem_cons_of_mem _ hs, h3⟩
theorem min_spec (l : List ByteArray) (h : 0 < l.length) : (∀ s ∈ l, minB l ≤ s.size) ∧ ∃ s ∈ l, minB l = s.size := by
  obtain ⟨h1, h2, h3⟩ := least_spec l (l.getD 0 ByteArray.empty).size
  refine ⟨h2, ?_⟩
  rcases h3 with h3 | h3
  · exact ⟨_, getD_mem l 0 ByteArray.empty h, h3⟩
  · exact h3
theorem min_perm {l m : List ByteArray} (h : l.Perm m) (h0 : 0 < l.length) : minB l = minB m := by
  obtain ⟨a1, s, hs, a2⟩ := min_spec l h0
  obtain ⟨b1, t, ht, b2⟩ := min_spec m (by rw [← h.length_eq]; exact h0)
  have := a1 t (h.mem_iff.2 ht)
  have := b1 s (h.mem_iff.1 hs)
  omega

/-- A set that is made of texts. -/
def setB (l : List ByteArray) : SetD := ⟨sortB l, (minB l : Nat), (mostB 0 l : Nat), (totalB 0 l : Nat)⟩
theorem new_cases (l : List ByteArray) :
    (∃ e, e ≠ 0 ∧ pats_New.f l = some (none, e) ∧ newB l = ([], e)) ∨
    (pats_New.f l = some (some (setB l), 0) ∧ newB l = (sortB l, 0) ∧ 0 < l.length ∧ l.length ≤ 65535 ∧ badB l = 0 ∧ totalB 0 l ≤ 16777216 ∧ twB [] l 0 < 0) := by
  unfold pats_New.f newB
  by_cases h0 : l.length = 0
  · exact .inl ⟨14, by decide, by rw [if_pos h0], by rw [if_pos h0]⟩
  by_cases h1 : l.length > 65535
  · exact .inl ⟨6, by decide, by rw [if_neg h0, if_pos h1], by rw [if_neg h0, if_pos h1]⟩
  by_cases h2 : badB l ≠ 0
  · exact .inl ⟨_, h2, by rw [if_neg h0, if_neg h1, if_pos h2], by rw [if_neg h0, if_neg h1, if_pos h2]⟩
  by_cases h3 : totalB 0 l > 16777216
  · exact .inl ⟨13, by decide, by rw [if_neg h0, if_neg h1, if_neg h2, if_pos h3], by rw [if_neg h0, if_neg h1, if_neg h2, if_pos h3]⟩
  by_cases h4 : twB [] l 0 ≥ 0
  · exact .inl ⟨8, by decide, by rw [if_neg h0, if_neg h1, if_neg h2, if_neg h3, if_pos h4], by rw [if_neg h0, if_neg h1, if_neg h2, if_neg h3, if_pos h4]⟩
  refine .inr ⟨by rw [if_neg h0, if_neg h1, if_neg h2, if_neg h3, if_neg h4]; rfl, by rw [if_neg h0, if_neg h1, if_neg h2, if_neg h3, if_neg h4], by omega, by omega, Classical.not_not.1 h2, by omega, by omega⟩


end Go.Proofs.Ytcehdcijflbgjaa.Base

/- A number under a mask; no condition beyond those in the statement. -/
namespace Go.Proofs.Ytcehdcijflbgjaa.Base
open Go Go.RowKit Go.Proofs.YtcehdcijflbgjaaW.PrintWords Go.Proofs.YtcehdcijflbgjaaW.PrintLast Go.Proofs.YtcehdcijflbgjaaW.PrintMore

theorem bits_and_mask (x : Int) (m : Nat) (hm : m < 9223372036854775808) : 0 ≤ Go.bits .and .i64 x (m : Int) ∧ Go.bits .and .i64 x (m : Int) ≤ m := by
  have h : Go.bits .and .i64 x (m : Int) = IntKind.i64.wrap (((BitVec.ofInt 64 x &&& BitVec.ofInt 64 (m : Int)).toNat : Int)) := rfl
  have h2 : (BitVec.ofInt 64 x &&& BitVec.ofInt 64 (m : Int)).toNat ≤ m := by
    rw [BitVec.toNat_and]
    refine Nat.le_trans Nat.and_le_right ?_
    rw [BitVec.toNat_ofInt]
    omega
  rw [h, i64_w, wrap_id (by omega) (by omega)]
  omega

end Go.Proofs.Ytcehdcijflbgjaa.Base

/- Sets of the same patterns are one, in whatever order these come; a pattern is found by its number; no condition beyond the sizes that stand in each statement. -/
namespace Go.Proofs.Ytcehdcijflbgjaa.Base
open Go Go.RowKit Go.Proofs.YtcehdcijflbgjaaW.PrintWords Go.Proofs.YtcehdcijflbgjaaW.PrintLast Go.Proofs.YtcehdcijflbgjaaW.PrintMore Go.Proofs.Ytcehdcijflbgjaa.P
set_option linter.unusedVariables false

theorem twB_iff : ∀ (l seen : List ByteArray) (i : Nat), twB seen l i < 0 ↔ (l.Nodup ∧ ∀ x ∈ l, ¬ inB x seen = true)
  | [], seen, i => by simp [twB]
  | x :: l, seen, i => by
    simp only [twB]
    by_cases h : inB x seen = true
    · rw [if_pos h]
      constructor
      · intro h'; omega
      · rintro ⟨_, h'⟩; exact absurd h (h' x List.mem_cons_self)
    · rw [if_neg h, twB_iff l (seen ++ [x]) (i + 1), List.nodup_cons]
      constructor
      · rintro ⟨h1, h2⟩
        refine ⟨⟨fun hx => ?_, h1⟩, fun y hy => ?_⟩
        · have := h2 x hx
          rw [inB_snoc] at this
          simp at this
        · rcases List.mem_cons.1 hy with rfl | hy
          · exact h
          · have := h2 y hy
            rw [inB_snoc] at this
            intro h3
            rw [h3] at this
            simp at this
      · rintro ⟨⟨h1, h2⟩, h3⟩
        refine ⟨h2, fun y hy => ?_⟩
        rw [inB_snoc]
        intro h4
        rcases Bool.or_eq_true_iff.1 h4 with h4 | h4
        · exact h3 y (List.mem_cons_of_mem _ hy) h4
        · exact h1 (by rw [of_decide_eq_true h4]; exact hy)
theorem nodup_of_tw {l : List ByteArray} (h : twB [] l 0 < 0) : l.Nodup := ((twB_iff l [] 0).1 h).1
theorem tw_of_nodup {l : List ByteArray} (h : l.Nodup) : twB [] l 0 < 0 := (twB_iff l [] 0).2 ⟨h, fun x _ => by simp [inB]⟩
theorem badB_iff : ∀ (l : List ByteArray), badB l = 0 ↔ ∀ s ∈ l, chkB s = 0
  | [] => by simp [badB]
  | s :: l => by
    simp only [badB]
    by_cases h : chkB s = 0
    · rw [if_pos h, badB_iff l]
      simp [h]
    · rw [if_neg h]
      simp [h]
theorem setB_perm {l m : List ByteArray} (h : l.Perm m) (h0 : 0 < l.length) : setB l = setB m := by
  have e : sortB l = sortB m := sortB_of ((sortB_perm l).trans h) (sortB_up l)
  unfold setB
  rw [e, min_perm h h0, most_perm h, total_perm h]
/-- Texts that make a set make it in any order. -/
theorem new_perm {l m : List ByteArray} (h : l.Perm m) (hp : 0 < l.length) (h1 : l.length ≤ 65535) (h2 : badB l = 0) (h3 : totalB 0 l ≤ 16777216) (h4 : twB [] l 0 < 0) :
    pats_New.f m = some (some (setB l), 0) := by
  have e := h.length_eq
  rcases new_cases m with ⟨c, hc, hn, hw⟩ | ⟨hn, _⟩
  · exfalso
    unfold pats_New.f at hn
    have b2 : badB m = 0 := (badB_iff m).2 fun s hs => (badB_iff l).1 h2 s (h.mem_iff.2 hs)
    have b4 := tw_of_nodup ((h.nodup_iff).1 (nodup_of_tw h4))
    rw [if_neg (by omega), if_neg (by omega), if_neg (by rw [b2]; simp), if_neg (by rw [← total_perm h]; omega), if_neg (by omega)] at hn
    have := (Prod.mk.inj (Option.some.inj hn)).1
    cases this
  · rw [hn, setB_perm h hp]
theorem findB_mem (s : ByteArray) : ∀ (l : List ByteArray) (i : Nat), s ∈ l → ∃ n, findB s l i = ((i + n : Nat) : Int) ∧ n < l.length ∧ l.getD n ByteArray.empty = s
  | [], i, h => by cases h
  | x :: l, i, h => by
    have ef : findB s (x :: l) i = if x = s then (i : Int) else findB s l (i + 1) := rfl
    rw [ef]
    by_cases hx : x = s
    · rw [if_pos hx]
      exact ⟨0, rfl, by simp, by simpa using hx⟩
    · rw [if_neg hx]
      rcases List.mem_cons.1 h with rfl | h
      · exact absurd rfl hx
      · obtain ⟨n, h1, h2, h3⟩ := findB_mem s l (i + 1) h
        exact ⟨n + 1, by rw [h1]; congr 1; omega, by rw [List.length_cons]; omega, by rw [List.getD_cons_succ]; exact h3⟩
theorem list_is (l : List ByteArray) (h : l.length ≤ 65535) : pats_Set_List.f (some (setB l)) = some (sortB l) := by
  show (if (sortB l).length ≤ 8796093022208 then some (sortB l) else none) = _
  rw [if_pos (by rw [sortB_length]; omega)]
end Go.Proofs.Ytcehdcijflbgjaa.Base

/- A set of texts and its list, made or not, told together; no condition beyond the sizes that stand in each statement. -/
namespace Go.Proofs.Ytcehdcijflbgjaa.Base
open Go Go.RowKit Go.Proofs.YtcehdcijflbgjaaW.PrintWords Go.Proofs.YtcehdcijflbgjaaW.PrintMore Go.Proofs.Ytcehdcijflbgjaa.P
set_option linter.unusedVariables false

/-- What is made of texts: a set or none, its list, why there is none. -/
structure SetOk (l : List ByteArray) (x : Option SetD) (w : List ByteArray) (e : Int) : Prop where
  hn : pats_New.f l = some (x, e)
  hw : newB l = (w, e)
  hL : setL x = w
  hM : setM x = minB w
  mem : ∀ s ∈ w, s ∈ l
  len : w.length ≤ l.length
  few : w.length ≤ 65535
  size : ∀ s ∈ w, s.size ≤ 65535
  up : upB w
  pos : ∀ s ∈ w, 0 < s.size
  nodup : w.Nodup
  kind : (e = 0 ∧ 0 < w.length ∧ x = some (setB l) ∧ w = sortB l ∧ w.length = l.length) ∨ (e ≠ 0 ∧ x = none ∧ w = [])
theorem chkB_pos {s : ByteArray} (h : chkB s = 0) : 0 < s.size ∧ s.size ≤ 65535 := by
  unfold chkB at h
  by_cases h1 : s.size = 0
  · rw [if_pos h1] at h; omega
  · rw [if_neg h1] at h
    by_cases h2 : s.size > 65535
    · rw [if_pos h2] at h; omega
    · omega
theorem set_ok (l : List ByteArray) : ∃ x w e, SetOk l x w e := by
  rcases new_cases l with ⟨e, he, hn, hw⟩ | ⟨hn, hw, hp, hl, hb, ht, hd⟩
  · exact ⟨none, [], e, hn, hw, rfl, rfl, by simp, by simp, by simp, by simp, List.Pairwise.nil, by simp, List.nodup_nil, .inr ⟨he, rfl, rfl⟩⟩
  · have hm := fun s => (sortB_perm l).mem_iff (a := s)
    have hlen := sortB_length l
    refine ⟨some (setB l), sortB l, 0, hn, hw, rfl, ?_, fun s hs => (hm s).1 hs, by omega, by omega, fun s hs => (chkB_pos ((badB_iff l).1 hb s ((hm s).1 hs))).2, sortB_up l, fun s hs => (chkB_pos ((badB_iff l).1 hb s ((hm s).1 hs))).1, ((sortB_perm l).nodup_iff).2 (nodup_of_tw hd), .inl ⟨rfl, by omega, rfl, rfl, by omega⟩⟩
    show ((minB l : Nat) : Int) = _
    rw [min_perm (sortB_perm l).symm hp]
theorem min_le {w : List ByteArray} : ∀ s ∈ w, minB w ≤ s.size := fun s hs => (min_spec w (List.length_pos_of_mem hs)).1 s hs
theorem list_ok {l w : List ByteArray} {x : Option SetD} {e : Int} (h : SetOk l x w e) : pats_Set_List.f x = some w := by
  rcases h.kind with ⟨_, _, rfl, rfl, _⟩ | ⟨_, rfl, rfl⟩
  · exact list_is l (by have := h.few; rw [sortB_length] at this; exact this)
  · rfl
theorem rnew_ok {l w : List ByteArray} {x : Option SetD} {e : Int} (h : SetOk l x w e) : Ev (fun k => juratref10_New.f k l) (w, e) := by
  have := rnew_ev l
  rw [h.hw] at this
  exact this

end Go.Proofs.Ytcehdcijflbgjaa.Base

/- Proved here: what Go functions of this seat compute, or a law of it; no condition beyond the statement's own. Written for this claim by a program of this session (wip/myprint.py) over the kit's print.py. -/
namespace Go.Proofs.Ytcehdcijflbgjaa.P
open Go.RowKit Go.Proofs.YtcehdcijflbgjaaW.PrintWords Go.Proofs.YtcehdcijflbgjaaW.PrintLast Go.Proofs.YtcehdcijflbgjaaW.PrintMore
attribute [local go_sem] max2_int min2_int max_two min_two max_three min_three max_four min_four   -- for this text's walks alone
set_option linter.unusedVariables false
set_option linter.unusedSimpArgs false

/-! ### juratref13_Has: function 52 -/
def juratref13_Has.l0 : Nat → List ByteArray → Int → Int → Int → Option (Bool)
  | 0, _, _, _, _ => none
  | k + 1, x0, x1, x2, x7 => if x7 < (x0.length : Int) then (if 0 ≤ x7 then (if x2 < ((rdOf ByteArray.empty x0 x7).size : Int) then (if 0 ≤ (wrap64 ((wrap64 (((rdOf ByteArray.empty x0 x7).size : Int) - 1)) - x2)) then (if (wrap64 ((wrap64 (((rdOf ByteArray.empty x0 x7).size : Int) - 1)) - x2)) < ((rdOf ByteArray.empty x0 x7).size : Int) then (if (bt (rdOf ByteArray.empty x0 x7) (wrap64 ((wrap64 (((rdOf ByteArray.empty x0 x7).size : Int) - 1)) - x2))) = x1 then (some true) else (juratref13_Has.l0 k x0 x1 x2 (wrap64 (x7 + 1)))) else (none)) else (none)) else (juratref13_Has.l0 k x0 x1 x2 (wrap64 (x7 + 1)))) else (none)) else (some false)
def juratref13_Has.f (k : Nat) (l0 : List ByteArray) (a1 : Int) (a2 : Int) : Option (Bool) := juratref13_Has.l0 k l0 a1 a2 0
theorem juratref13_Has.mono_l : ∀ k, (∀ y0 y1 y2 y3, LeO (juratref13_Has.l0 k y0 y1 y2 y3) (juratref13_Has.l0 (k + 1) y0 y1 y2 y3))
  | 0 => fun _ _ _ _ r h => by simp [juratref13_Has.l0] at h
  | k + 1 => by
    have ih0 := juratref13_Has.mono_l k
    · intro y0 y1 y2 y3
      unfold juratref13_Has.l0
      repeat' first
      | (with_reducible exact ih0 _ _ _ _)
      | (with_reducible exact LeO.refl _)
      | (with_reducible exact LeO.none _)
      | (with_reducible refine LeO.ite ?_ ?_)
      | (with_reducible refine LeO.bind ?_ (fun _ => ?_))
      | exact ih0 _ _ _ _
      | exact LeO.none _
      | refine LeO.ite ?_ ?_
      | refine LeO.bind ?_ (fun _ => ?_)
theorem juratref13_Has.mono : ∀ a0 a1 a2 k, LeO (juratref13_Has.f k a0 a1 a2) (juratref13_Has.f (k + 1) a0 a1 a2) := by
  intro a0 a1 a2 k
  have ih0 := juratref13_Has.mono_l k
  unfold juratref13_Has.f
  repeat' first
      | (with_reducible exact ih0 _ _ _ _)
      | (with_reducible exact LeO.refl _)
      | (with_reducible exact LeO.none _)
      | (with_reducible refine LeO.ite ?_ ?_)
      | (with_reducible refine LeO.bind ?_ (fun _ => ?_))
      | exact ih0 _ _ _ _
      | exact LeO.none _
      | refine LeO.ite ?_ ?_
      | refine LeO.bind ?_ (fun _ => ?_)
set_option maxHeartbeats 8000000 in
set_option maxRecDepth 100000 in
theorem juratref13_Has.calls (k : Nat) (A0 : Option Addr) (c0 : Nat) (l0 : List ByteArray) (a1 : Int) (a2 : Int) (r : Bool) (w : World) (hr0 : Kd.C Kd.string w A0 l0.length l0) (hc0 : l0.length ≤ c0) (h : juratref13_Has.f k l0 a1 a2 = some r) :
    Calls Try.prog 52 #[.slice A0 l0.length c0, .int .u8 a1, .int .i64 a2] w fun e w' => e = .returned (.bool r) ∧ Drawn0 w w' := by
  have HR0 := Aside0.mk hr0
  have HC0 := Aside0.mk hc0
  clear hr0 hc0
  have H : (juratref13_Has.l0 k l0 a1 a2 0) = some r := h
  clear h
  have H' := Aside0.mk H
  clear H
  go_enter Try.func52, Try.ntmps52
  go_wp2
  repeat (go_quiet (fail); try go_wp2)
  go_loopg [7] k (fun kq v7 w' => ∃ (x7_1 : Int), v7 = .int .i64 x7_1 ∧ Aside0 (juratref13_Has.l0 kq l0 a1 a2 x7_1 = some r) ∧ Aside0 (kq ≤ k) ∧ Drawn0 w w')
  case atStart => exact ⟨(0), (by first | rfl | exact isE_ _ | exact isE2_ _ | (simp; done) | (simp [*]; done)), H', ⟨Nat.le_refl _⟩, by repeat (first | exact Drawn0.refl _ | apply Drawn0.step)⟩
  case round =>
    clear H'
    try clear p2
    obtain ⟨x7_1, rfl, HA, HK1, ⟨m1, rfl⟩⟩ := hrel
    cases gk with
    | zero => exact absurd HA.out (by simp [juratref13_Has.l0])
    | succ k1 =>
      have H := HA.out
      clear HA
      simp only [juratref13_Has.l0] at H
      by_cases c4 : x7_1 < (l0.length : Int)
      · rw [if_pos c4] at H
        have c4b0 : decide (x7_1 < (l0.length : Int)) = true := decide_eq_true c4
        clear c4
        by_cases c5 : 0 ≤ x7_1
        · rw [if_pos c5] at H
          have c5b0 : decide (0 ≤ x7_1) = true := decide_eq_true c5
          clear c5
          by_cases c6 : a2 < ((rdOf ByteArray.empty l0 x7_1).size : Int)
          · rw [if_pos c6] at H
            have c6b0 : decide (a2 < ((rdOf ByteArray.empty l0 x7_1).size : Int)) = true := decide_eq_true c6
            clear c6
            obtain ⟨ji7, hji7⟩ : ∃ j_ : Int, (wrap64 ((wrap64 (((rdOf ByteArray.empty l0 x7_1).size : Int) - 1)) - a2)) = j_ := ⟨_, rfl⟩
            replace H : (if 0 ≤ (ji7) then (if (ji7) < ((rdOf ByteArray.empty l0 x7_1).size : Int) then (if (bt (rdOf ByteArray.empty l0 x7_1) (ji7)) = a1 then (some true) else (juratref13_Has.l0 k1 l0 a1 a2 (wrap64 (x7_1 + 1)))) else (none)) else (none)) = some r := by first | (rw [hji7] at H; exact H) | (simp only [hji7] at H ⊢; exact H)
            have hji7w : (IntKind.i64.wrap ((wrap64 (((rdOf ByteArray.empty l0 x7_1).size : Int) - 1)) - a2)) = ji7 := (i64_w _).trans hji7
            by_cases c8 : 0 ≤ (ji7)
            · rw [if_pos c8] at H
              have c8b0 : decide (0 ≤ (ji7)) = true := decide_eq_true c8
              clear c8
              by_cases c9 : (ji7) < ((rdOf ByteArray.empty l0 x7_1).size : Int)
              · rw [if_pos c9] at H
                have c9b0 : decide ((ji7) < ((rdOf ByteArray.empty l0 x7_1).size : Int)) = true := decide_eq_true c9
                clear c9
                by_cases c11 : (bt (rdOf ByteArray.empty l0 x7_1) (ji7)) = a1
                · rw [if_pos c11] at H
                  have c11b0 : ((bt (rdOf ByteArray.empty l0 x7_1) (ji7)) == a1) = true := beq_iff_eq.mpr c11
                  have c11b1 : ((bt (rdOf ByteArray.empty l0 x7_1) (ji7)) != a1) = false := bne_eq_false_iff_eq.mpr c11
                  clear c11
                  obtain rfl := Option.some.inj H
                  have p184 : 0 ≤ (x7_1 : Int) := of_decide_eq_true (by first | (with_reducible assumption) | assumption)
                  have q184 : x7_1 < (l0.length : Int) := of_decide_eq_true (by first | (with_reducible assumption) | assumption)
                  obtain ⟨ad184, e184, hx184_0⟩ := Kd.at_string HR0.out x7_1 p184 q184
                  cases e184
                  replace p184 := eq_true p184
                  replace q184 := eq_true q184
                  have p185 : 0 ≤ (x7_1 : Int) := of_decide_eq_true (by first | (with_reducible assumption) | assumption)
                  have q185 : x7_1 < (l0.length : Int) := of_decide_eq_true (by first | (with_reducible assumption) | assumption)
                  obtain ⟨ad185, e185, hx185_0⟩ := Kd.at_string HR0.out x7_1 p185 q185
                  obtain rfl : ad184 = ad185 := (by injection e185)
                  replace p185 := eq_true p185
                  replace q185 := eq_true q185
                  have p186 : 0 ≤ (x7_1 : Int) := of_decide_eq_true (by first | (with_reducible assumption) | assumption)
                  have q186 : x7_1 < (l0.length : Int) := of_decide_eq_true (by first | (with_reducible assumption) | assumption)
                  obtain ⟨ad186, e186, hx186_0⟩ := Kd.at_string HR0.out x7_1 p186 q186
                  obtain rfl : ad184 = ad186 := (by injection e186)
                  replace p186 := eq_true p186
                  replace q186 := eq_true q186
                  have p10 : 0 ≤ ((ji7) : Int) := of_decide_eq_true (by first | (with_reducible assumption) | assumption)
                  have q10 : (ji7) < ((rdOf ByteArray.empty l0 x7_1).size : Int) := of_decide_eq_true (by first | (with_reducible assumption) | assumption)
                  have hx10 := bt_at (rdOf ByteArray.empty l0 x7_1) (ji7)
                  replace p10 := eq_true p10
                  replace q10 := eq_true q10
                  go_wp2
                  repeat (go_quiet (fail); try go_wp2)
                  go_ret
                  exact ⟨by first | rfl | (simp; done) | (simp only [← hji7] <;> (first | rfl | simp)) | (simp [*]; done), by repeat (first | exact Drawn0.refl _ | apply Drawn0.step)⟩
                · rw [if_neg c11] at H
                  have c11b0 : ((bt (rdOf ByteArray.empty l0 x7_1) (ji7)) == a1) = false := beq_eq_false_iff_ne.mpr c11
                  have c11b1 : ((bt (rdOf ByteArray.empty l0 x7_1) (ji7)) != a1) = true := bne_iff_ne.mpr c11
                  have H' := Aside0.mk H
                  clear H
                  have p184 : 0 ≤ (x7_1 : Int) := of_decide_eq_true (by first | (with_reducible assumption) | assumption)
                  have q184 : x7_1 < (l0.length : Int) := of_decide_eq_true (by first | (with_reducible assumption) | assumption)
                  obtain ⟨ad184, e184, hx184_0⟩ := Kd.at_string HR0.out x7_1 p184 q184
                  cases e184
                  replace p184 := eq_true p184
                  replace q184 := eq_true q184
                  have p185 : 0 ≤ (x7_1 : Int) := of_decide_eq_true (by first | (with_reducible assumption) | assumption)
                  have q185 : x7_1 < (l0.length : Int) := of_decide_eq_true (by first | (with_reducible assumption) | assumption)
                  obtain ⟨ad185, e185, hx185_0⟩ := Kd.at_string HR0.out x7_1 p185 q185
                  obtain rfl : ad184 = ad185 := (by injection e185)
                  replace p185 := eq_true p185
                  replace q185 := eq_true q185
                  have p186 : 0 ≤ (x7_1 : Int) := of_decide_eq_true (by first | (with_reducible assumption) | assumption)
                  have q186 : x7_1 < (l0.length : Int) := of_decide_eq_true (by first | (with_reducible assumption) | assumption)
                  obtain ⟨ad186, e186, hx186_0⟩ := Kd.at_string HR0.out x7_1 p186 q186
                  obtain rfl : ad184 = ad186 := (by injection e186)
                  replace p186 := eq_true p186
                  replace q186 := eq_true q186
                  have p10 : 0 ≤ ((ji7) : Int) := of_decide_eq_true (by first | (with_reducible assumption) | assumption)
                  have q10 : (ji7) < ((rdOf ByteArray.empty l0 x7_1).size : Int) := of_decide_eq_true (by first | (with_reducible assumption) | assumption)
                  have hx10 := bt_at (rdOf ByteArray.empty l0 x7_1) (ji7)
                  replace p10 := eq_true p10
                  replace q10 := eq_true q10
                  go_wp2
                  repeat (go_quiet (fail); try go_wp2)
                  go_roundg k1
                  case measure => have := HK1.out; omega
                  case rel => exact ⟨(wrap64 (x7_1 + 1)), (by first | rfl | exact isE_ _ | exact isE2_ _ | (simp; done) | (simp [*]; done)), H', ⟨by have := HK1.out; omega⟩, by repeat (first | exact Drawn0.refl _ | apply Drawn0.step)⟩
              · rw [if_neg c9] at H
                exact absurd H (by simp)
            · rw [if_neg c8] at H
              exact absurd H (by simp)
          · rw [if_neg c6] at H
            have c6b0 : decide (a2 < ((rdOf ByteArray.empty l0 x7_1).size : Int)) = false := decide_eq_false c6
            clear c6
            have H' := Aside0.mk H
            clear H
            have p184 : 0 ≤ (x7_1 : Int) := of_decide_eq_true (by first | (with_reducible assumption) | assumption)
            have q184 : x7_1 < (l0.length : Int) := of_decide_eq_true (by first | (with_reducible assumption) | assumption)
            obtain ⟨ad184, e184, hx184_0⟩ := Kd.at_string HR0.out x7_1 p184 q184
            cases e184
            replace p184 := eq_true p184
            replace q184 := eq_true q184
            go_wp2
            repeat (go_quiet (fail); try go_wp2)
            go_roundg k1
            case measure => have := HK1.out; omega
            case rel => exact ⟨(wrap64 (x7_1 + 1)), (by first | rfl | exact isE_ _ | exact isE2_ _ | (simp; done) | (simp [*]; done)), H', ⟨by have := HK1.out; omega⟩, by repeat (first | exact Drawn0.refl _ | apply Drawn0.step)⟩
        · rw [if_neg c5] at H
          exact absurd H (by simp)
      · rw [if_neg c4] at H
        have c4b0 : decide (x7_1 < (l0.length : Int)) = false := decide_eq_false c4
        clear c4
        obtain rfl := Option.some.inj H
        go_wp2
        repeat (go_quiet (fail); try go_wp2)
        go_ret
        exact ⟨by first | rfl | (simp; done) | (simp [*]; done), by repeat (first | exact Drawn0.refl _ | apply Drawn0.step)⟩

end Go.Proofs.Ytcehdcijflbgjaa.P

/- Proved here: what Go functions of this seat compute, or a law of it; no condition beyond the statement's own. Written for this claim by a program of this session (wip/myprint.py) over the kit's print.py. -/
namespace Go.Proofs.Ytcehdcijflbgjaa.P
open Go.RowKit Go.Proofs.YtcehdcijflbgjaaW.PrintWords Go.Proofs.YtcehdcijflbgjaaW.PrintLast Go.Proofs.YtcehdcijflbgjaaW.PrintMore
attribute [local go_sem] max2_int min2_int max_two min_two max_three min_three max_four min_four   -- for this text's walks alone
set_option linter.unusedVariables false
set_option linter.unusedSimpArgs false

/-! ### juratref13_First: function 41 -/
def juratref13_First.l0 : Nat → List ByteArray → Int → Int → Int → Option (Int)
  | 0, _, _, _, _ => none
  | k + 1, x0, x1, x5, x6 => if x6 < x5 then ((juratref13_Has.f k x0 x1 x6).bind fun t188 => (if t188 = true then (some x6) else (juratref13_First.l0 k x0 x1 x5 (wrap64 (x6 + 1))))) else (some x5)
def juratref13_First.f (k : Nat) (l0 : List ByteArray) (a1 : Int) : Option (Int) := (juratref10_Least.f k l0).bind fun t187 => (juratref13_First.l0 k l0 a1 t187 0)
theorem juratref13_First.mono_l : ∀ k, (∀ y0 y1 y2 y3, LeO (juratref13_First.l0 k y0 y1 y2 y3) (juratref13_First.l0 (k + 1) y0 y1 y2 y3))
  | 0 => fun _ _ _ _ r h => by simp [juratref13_First.l0] at h
  | k + 1 => by
    have ih0 := juratref13_First.mono_l k
    · intro y0 y1 y2 y3
      unfold juratref13_First.l0
      repeat' first
      | (with_reducible exact ih0 _ _ _ _)
      | (with_reducible exact juratref10_Least.mono _ _)
      | (with_reducible exact juratref13_Has.mono _ _ _ _)
      | (with_reducible exact LeO.refl _)
      | (with_reducible exact LeO.none _)
      | (with_reducible refine LeO.ite ?_ ?_)
      | (with_reducible refine LeO.bind ?_ (fun _ => ?_))
      | exact ih0 _ _ _ _
      | exact juratref10_Least.mono _ _
      | exact juratref13_Has.mono _ _ _ _
      | exact LeO.none _
      | refine LeO.ite ?_ ?_
      | refine LeO.bind ?_ (fun _ => ?_)
theorem juratref13_First.mono : ∀ a0 a1 k, LeO (juratref13_First.f k a0 a1) (juratref13_First.f (k + 1) a0 a1) := by
  intro a0 a1 k
  have ih0 := juratref13_First.mono_l k
  unfold juratref13_First.f
  repeat' first
      | (with_reducible exact ih0 _ _ _ _)
      | (with_reducible exact juratref10_Least.mono _ _)
      | (with_reducible exact juratref13_Has.mono _ _ _ _)
      | (with_reducible exact LeO.refl _)
      | (with_reducible exact LeO.none _)
      | (with_reducible refine LeO.ite ?_ ?_)
      | (with_reducible refine LeO.bind ?_ (fun _ => ?_))
      | exact ih0 _ _ _ _
      | exact juratref10_Least.mono _ _
      | exact juratref13_Has.mono _ _ _ _
      | exact LeO.none _
      | refine LeO.ite ?_ ?_
      | refine LeO.bind ?_ (fun _ => ?_)
set_option maxHeartbeats 8000000 in
set_option maxRecDepth 100000 in
theorem juratref13_First.calls (k : Nat) (A0 : Option Addr) (c0 : Nat) (l0 : List ByteArray) (a1 : Int) (r : Int) (w : World) (hr0 : Kd.C Kd.string w A0 l0.length l0) (hc0 : l0.length ≤ c0) (h : juratref13_First.f k l0 a1 = some r) :
    Calls Try.prog 41 #[.slice A0 l0.length c0, .int .u8 a1] w fun e w' => e = .returned (.int .i64 r) ∧ Drawn0 w w' := by
  have HR0 := Aside0.mk hr0
  have HC0 := Aside0.mk hc0
  clear hr0 hc0
  have H : ((juratref10_Least.f k l0).bind fun t187 => (juratref13_First.l0 k l0 a1 t187 0)) = some r := h
  clear h
  replace H := Option.bind_eq_some_iff.mp H
  obtain ⟨t187, A30, H⟩ := H
  replace H : (juratref13_First.l0 k l0 a1 t187 0) = some r := H
  have A3 := Aside0.mk A30
  clear A30
  have H' := Aside0.mk H
  clear H
  go_enter Try.func41, Try.ntmps41
  go_wp2_with (first | ((with_reducible refine gate_callee (f := 43) rfl ?_); refine goesL_ (some 8) rfl rfl Try.func43 (by kernel_rfl) rfl #[.slice A0 l0.length c0] rfl (by (try simp only [List.map_toArray, List.map_cons, List.map_nil]); first | done | rfl | (simp only [List.length_drop, List.length_take]; rfl)) ?_; (with_reducible refine (juratref10_Least.calls k _ _ l0 t187 _ ?side1 ?side2 A3.out).mono ?_); (case side1 => repeat (first | exact HR0.out | (with_reducible refine Kd.C_alloc ?_ _) | (with_reducible refine Kd.C_drewN ?_ _) | (with_reducible refine Kd.C_drew ?_))); (case side2 => exact HC0.out); rintro e w' ⟨rfl, ⟨nd, rfl⟩⟩; refine ⟨_, rfl, ?_⟩))
  go_loopg [6] k (fun kq v6 w' => ∃ (x6_1 : Int), v6 = .int .i64 x6_1 ∧ Aside0 (juratref13_First.l0 kq l0 a1 t187 x6_1 = some r) ∧ Aside0 (kq ≤ k) ∧ Drawn0 w w')
  case atStart => exact ⟨(0), (by first | rfl | exact isE_ _ | exact isE2_ _ | (simp; done) | (simp [*]; done)), H', ⟨Nat.le_refl _⟩, by repeat (first | exact Drawn0.refl _ | apply Drawn0.step)⟩
  case round =>
    clear H'
    try clear p2
    obtain ⟨x6_1, rfl, HA, HK1, ⟨m1, rfl⟩⟩ := hrel
    cases gk with
    | zero => exact absurd HA.out (by simp [juratref13_First.l0])
    | succ k1 =>
      have H := HA.out
      clear HA
      simp only [juratref13_First.l0] at H
      by_cases c4 : x6_1 < t187
      · rw [if_pos c4] at H
        have c4b0 : decide (x6_1 < t187) = true := decide_eq_true c4
        clear c4
        replace H := Option.bind_eq_some_iff.mp H
        obtain ⟨t188, A50, H⟩ := H
        replace H : (if t188 = true then (some x6_1) else (juratref13_First.l0 k1 l0 a1 t187 (wrap64 (x6_1 + 1)))) = some r := H
        have A5 := Aside0.mk A50
        clear A50
        by_cases c6 : t188 = true
        · subst c6
          have H1 : (some x6_1) = some r := by rw [if_pos rfl] at H; exact H
          clear H
          have H := H1
          clear H1
          obtain rfl := Option.some.inj H
          go_wp2_with (first | ((with_reducible refine gate_callee (f := 52) rfl ?_); refine goesL_ (some 17) rfl rfl Try.func52 (by kernel_rfl) rfl #[.slice A0 l0.length c0, .int .u8 a1, .int .i64 x6_1] rfl (by (try simp only [List.map_toArray, List.map_cons, List.map_nil]); first | done | rfl | (simp only [List.length_drop, List.length_take]; rfl)) ?_; (with_reducible refine (juratref13_Has.calls k1 _ _ l0 a1 x6_1 true _ ?side1 ?side2 A5.out).mono ?_); (case side1 => repeat (first | exact HR0.out | (with_reducible refine Kd.C_alloc ?_ _) | (with_reducible refine Kd.C_drewN ?_ _) | (with_reducible refine Kd.C_drew ?_))); (case side2 => exact HC0.out); rintro e w' ⟨rfl, ⟨nd, rfl⟩⟩; refine ⟨_, rfl, ?_⟩))
          go_ret
          exact ⟨by first | rfl | (simp; done) | (simp [*]; done), by repeat (first | exact Drawn0.refl _ | apply Drawn0.step)⟩
        · replace c6 := Bool.eq_false_iff.mpr c6
          subst c6
          have H1 : (juratref13_First.l0 k1 l0 a1 t187 (wrap64 (x6_1 + 1))) = some r := by rw [if_neg (show ¬ (false = true) by decide)] at H; exact H
          clear H
          have H := H1
          clear H1
          have H' := Aside0.mk H
          clear H
          go_wp2_with (first | ((with_reducible refine gate_callee (f := 52) rfl ?_); refine goesL_ (some 17) rfl rfl Try.func52 (by kernel_rfl) rfl #[.slice A0 l0.length c0, .int .u8 a1, .int .i64 x6_1] rfl (by (try simp only [List.map_toArray, List.map_cons, List.map_nil]); first | done | rfl | (simp only [List.length_drop, List.length_take]; rfl)) ?_; (with_reducible refine (juratref13_Has.calls k1 _ _ l0 a1 x6_1 false _ ?side1 ?side2 A5.out).mono ?_); (case side1 => repeat (first | exact HR0.out | (with_reducible refine Kd.C_alloc ?_ _) | (with_reducible refine Kd.C_drewN ?_ _) | (with_reducible refine Kd.C_drew ?_))); (case side2 => exact HC0.out); rintro e w' ⟨rfl, ⟨nd, rfl⟩⟩; refine ⟨_, rfl, ?_⟩))
          go_roundg k1
          case measure => have := HK1.out; omega
          case rel => exact ⟨(wrap64 (x6_1 + 1)), (by first | rfl | exact isE_ _ | exact isE2_ _ | (simp; done) | (simp [*]; done)), H', ⟨by have := HK1.out; omega⟩, by repeat (first | exact Drawn0.refl _ | apply Drawn0.step)⟩
      · rw [if_neg c4] at H
        have c4b0 : decide (x6_1 < t187) = false := decide_eq_false c4
        clear c4
        obtain rfl := Option.some.inj H
        go_wp2
        go_ret
        exact ⟨by first | rfl | (simp; done) | (simp [*]; done), by repeat (first | exact Drawn0.refl _ | apply Drawn0.step)⟩

end Go.Proofs.Ytcehdcijflbgjaa.P

/- A byte's shift by its definition, and that the table of shifts and layer 13's reference tell it; no condition beyond the sizes that stand in each statement. -/
namespace Go.Proofs.Ytcehdcijflbgjaa.Base
open Go Go.RowKit Go.Proofs.YtcehdcijflbgjaaW.PrintWords Go.Proofs.YtcehdcijflbgjaaW.PrintMore Go.Proofs.Ytcehdcijflbgjaa.P
set_option linter.unusedVariables false

/-- The byte of a text at a distance from its end. -/
def byteAt (s : ByteArray) (d : Nat) : Nat := ((LL s).getD (s.size - 1 - d) 0).toNat
theorem byteAt_lt (s : ByteArray) (d : Nat) : byteAt s d < 256 := UInt8.toNat_lt _
theorem getD_set {T : List Int} {b c : Nat} {v : Int} (hb : b < T.length) : (T.set b v).getD c 0 = if b = c then v else T.getD c 0 := by
  rw [List.getD_eq_getElem?_getD, List.getD_eq_getElem?_getD, List.getElem?_set]
  by_cases h : b = c
  · subst h; rw [if_pos rfl, if_pos hb, if_pos rfl]; rfl
  · rw [if_neg h, if_neg h]
/-- What is known of one byte's shift, of the pairs that were seen. -/
def ShInv (m c : Nat) (seen : ByteArray → Nat → Prop) (T : List Int) : Prop :=
  T.length = 256 ∧ 0 ≤ T.getD c 0 ∧ T.getD c 0 ≤ m ∧ (∀ s d, seen s d → byteAt s d = c → T.getD c 0 ≤ (d : Int)) ∧ (T.getD c 0 = m ∨ ∃ s d, seen s d ∧ byteAt s d = c ∧ T.getD c 0 = (d : Int))
theorem shInv_put {m c : Nat} {seen : ByteArray → Nat → Prop} {T : List Int} (h : ShInv m c seen T) (s : ByteArray) (d : Nat) : ShInv m c (fun s' d' => seen s' d' ∨ s' = s ∧ d' = d) (shPut s T d) := by
  obtain ⟨h1, h2, h3, h4, h5⟩ := h
  have e : (shPut s T d).getD c 0 = if byteAt s d = c then min (T.getD c 0) (d : Int) else T.getD c 0 := by
    unfold shPut
    rw [getD_set (by rw [h1]; exact UInt8.toNat_lt _)]
    by_cases hc : byteAt s d = c
    · have hc' : ((LL s).getD (s.size - 1 - d) 0).toNat = c := hc
      rw [if_pos hc, if_pos hc', hc']
    · have hc' : ¬ ((LL s).getD (s.size - 1 - d) 0).toNat = c := hc
      rw [if_neg hc, if_neg hc']
  refine ⟨by rw [shPut_length]; exact h1, ?_, ?_, ?_, ?_⟩ <;> rw [e]
  · split <;> omega
  · split <;> omega
  · rintro s' d' (hs | ⟨rfl, rfl⟩) hb
    · have := h4 s' d' hs hb
      split <;> omega
    · rw [if_pos hb]; omega
  · by_cases hc : byteAt s d = c
    · rw [if_pos hc]
      by_cases hd : T.getD c 0 ≤ (d : Int)
      · rw [show min (T.getD c 0) (d : Int) = T.getD c 0 by omega]
        rcases h5 with h5 | ⟨s', d', a, b, h5⟩
        · exact .inl h5
        · exact .inr ⟨s', d', .inl a, b, h5⟩
      · exact .inr ⟨s, d, .inr ⟨rfl, rfl⟩, hc, by omega⟩
    · rw [if_neg hc]
      rcases h5 with h5 | ⟨s', d', a, b, h5⟩
      · exact .inl h5
      · exact .inr ⟨s', d', .inl a, b, h5⟩
theorem shInv_imp {m c : Nat} {seen seen' : ByteArray → Nat → Prop} {T : List Int} (h : ShInv m c seen T) (hi : ∀ s d, seen s d ↔ seen' s d) : ShInv m c seen' T := by
  have : seen = seen' := by funext s d; exact propext (hi s d)
  rw [← this]; exact h
theorem shInv_row {m c : Nat} {seen : ByteArray → Nat → Prop} {T : List Int} (h : ShInv m c seen T) (s : ByteArray) : ∀ n, ShInv m c (fun s' d' => seen s' d' ∨ s' = s ∧ d' < n) ((List.range n).foldl (shPut s) T)
  | 0 => shInv_imp h (fun s' d' => by simp)
  | n + 1 => by
    rw [List.range_succ, List.foldl_append]
    refine shInv_imp (shInv_put (shInv_row h s n) s n) (fun s' d' => ?_)
    constructor
    · rintro ((h | ⟨h1, h2⟩) | ⟨h1, h2⟩)
      · exact .inl h
      · exact .inr ⟨h1, by omega⟩
      · exact .inr ⟨h1, by omega⟩
    · rintro (h | ⟨h1, h2⟩)
      · exact .inl (.inl h)
      · by_cases h3 : d' = n
        · exact .inr ⟨h1, h3⟩
        · exact .inl (.inr ⟨h1, by omega⟩)
theorem shInv_fold {m c : Nat} : ∀ (l : List ByteArray) (seen : ByteArray → Nat → Prop) (T : List Int), ShInv m c seen T → ShInv m c (fun s' d' => seen s' d' ∨ s' ∈ l ∧ d' < m) (l.foldl (shRow m) T)
  | [], seen, T, h => shInv_imp h (fun s' d' => by simp)
  | s :: l, seen, T, h => by
    refine shInv_imp (shInv_fold l _ _ (shInv_row h s m)) (fun s' d' => ?_)
    rw [List.mem_cons]
    constructor
    · rintro ((h | ⟨rfl, h2⟩) | ⟨h1, h2⟩)
      · exact .inl h
      · exact .inr ⟨.inl rfl, h2⟩
      · exact .inr ⟨.inr h1, h2⟩
    · rintro (h | ⟨rfl | h1, h2⟩)
      · exact .inl (.inl h)
      · exact .inl (.inr ⟨rfl, h2⟩)
      · exact .inr ⟨h1, h2⟩
/-- A byte's shift. -/
def shB (w : List ByteArray) (c : Nat) : Int := (shTab (minB w) w).getD c 0
theorem shB_spec (w : List ByteArray) {c : Nat} (hc : c < 256) : 0 ≤ shB w c ∧ shB w c ≤ minB w ∧ (∀ s ∈ w, ∀ d, d < minB w → byteAt s d = c → shB w c ≤ (d : Int)) ∧ (shB w c = minB w ∨ ∃ s ∈ w, ∃ d, d < minB w ∧ byteAt s d = c ∧ shB w c = (d : Int)) := by
  have e : (List.replicate 256 (minB w : Int)).getD c 0 = minB w := by rw [List.getD_eq_getElem?_getD, List.getElem?_replicate, if_pos hc]; rfl
  have h : ShInv (minB w) c (fun _ _ => False) (List.replicate 256 (minB w : Int)) := ⟨List.length_replicate, by rw [e]; omega, by rw [e]; exact Int.le_refl _, fun _ _ h => h.elim, .inl e⟩
  obtain ⟨h1, h2, h3, h4, h5⟩ := shInv_fold w _ _ h
  refine ⟨h2, h3, fun s hs d hd hb => h4 s d (.inr ⟨hs, hd⟩) hb, ?_⟩
  rcases h5 with h5 | ⟨s, d, a | ⟨a, a'⟩, b, h5⟩
  · exact .inl h5
  · exact a.elim
  · exact .inr ⟨s, a, d, a', b, h5⟩

/-- Has a pattern a byte at a distance? -/
def hasB (l : List ByteArray) (c d : Nat) : Bool := l.any fun s => decide (d < s.size ∧ byteAt s d = c)
theorem bt_byteAt {s : ByteArray} {d : Nat} (h : d < s.size) : bt s ((s.size : Int) - 1 - d) = (byteAt s d : Int) := by
  rw [bt_eq]; unfold byteAt; congr 3; omega
theorem rhas_l0 (l : List ByteArray) (hl : l.length ≤ 9223372036854775806) (hs : ∀ s ∈ l, s.size ≤ 9223372036854775806) (c d : Nat) : ∀ (f i : Nat), i + f = l.length →
    Ev (fun k => juratref13_Has.l0 k l (c : Int) (d : Int) (i : Int)) (hasB (l.drop i) c d) := by
  intro f
  induction f with
  | zero =>
    intro i hi
    refine Ev.ret fun k => ?_
    simp only [juratref13_Has.l0]
    rw [if_neg (by omega), List.drop_of_length_le (by omega)]
    rfl
  | succ f ih =>
    intro i hi
    have hd := getD_drop l i ByteArray.empty (by omega)
    have hz := hs _ (getD_mem l i ByteArray.empty (by omega))
    have e : rdOf ByteArray.empty l (i : Int) = l.getD i ByteArray.empty := rfl
    have e2 : hasB (l.drop i) c d = (decide (d < (l.getD i ByteArray.empty).size ∧ byteAt (l.getD i ByteArray.empty) d = c) || hasB (l.drop (i + 1)) c d) := by rw [hd]; rfl
    rw [e2]
    have step : Ev (fun k => juratref13_Has.l0 k l (c : Int) (d : Int) (wrap64 ((i : Int) + 1))) (hasB (l.drop (i + 1)) c d) := by
      rw [wrap_id (by omega) (by omega)]
      exact ih (i + 1) (by omega)
    generalize l.getD i ByteArray.empty = s at e hz
    by_cases h1 : d < s.size
    · have hb := bt_byteAt h1
      by_cases h2 : byteAt s d = c
      · rw [decide_eq_true ⟨h1, h2⟩, Bool.true_or]
        refine Ev.ret fun k => ?_
        simp only [juratref13_Has.l0]
        rw [if_pos (by omega), if_pos (by omega), e, wrap_id (x := (s.size : Int) - 1) (by omega) (by omega), wrap_id (by omega) (by omega), if_pos (by omega), if_pos (by omega), if_pos (by omega), hb, if_pos (by omega)]
      · rw [decide_eq_false (fun h => h2 h.2), Bool.false_or]
        refine Ev.step (fun k => ?_) step
        simp only [juratref13_Has.l0]
        rw [if_pos (by omega), if_pos (by omega), e, wrap_id (x := (s.size : Int) - 1) (by omega) (by omega), wrap_id (x := (s.size : Int) - 1 - d) (by omega) (by omega), if_pos (by omega), if_pos (by omega), if_pos (by omega), hb, if_neg (by omega)]
    · rw [decide_eq_false (fun h => h1 h.1), Bool.false_or]
      refine Ev.step (fun k => ?_) step
      simp only [juratref13_Has.l0]
      rw [if_pos (by omega), if_pos (by omega), e, if_neg (by omega)]
theorem rhas_ev (l : List ByteArray) (hl : l.length ≤ 9223372036854775806) (hs : ∀ s ∈ l, s.size ≤ 9223372036854775806) (c d : Nat) : Ev (fun k => juratref13_Has.f k l (c : Int) (d : Int)) (hasB l c d) := rhas_l0 l hl hs c d l.length 0 (by omega)
theorem hasB_iff {l : List ByteArray} {c d : Nat} : hasB l c d = true ↔ ∃ s ∈ l, d < s.size ∧ byteAt s d = c := by
  unfold hasB; rw [List.any_eq_true]; simp
theorem rfirst_l0 (w : List ByteArray) (hl : w.length ≤ 65535) (hs : ∀ s ∈ w, s.size ≤ 65535) {c : Nat} (hc : c < 256) : ∀ (f i : Nat), i + f = minB w → (∀ d, d < i → hasB w c d = false) →
    Ev (fun k => juratref13_First.l0 k w (c : Int) (minB w : Int) (i : Int)) (shB w c) := by
  obtain ⟨h1, h2, h3, h4⟩ := shB_spec w hc
  have hmin := fun s hs => min_le (w := w) s hs
  intro f
  induction f with
  | zero =>
    intro i hi hno
    refine Ev.ret fun k => ?_
    simp only [juratref13_First.l0]
    rw [if_neg (by omega)]
    rcases h4 with h4 | ⟨s, hs, d, hd, hb, h4⟩
    · rw [h4]
    · have := hno d (by omega)
      rw [hasB_iff.2 ⟨s, hs, by have := hmin s hs; omega, hb⟩] at this
      cases this
  | succ f ih =>
    intro i hi hno
    refine Ev.step (f := fun k => (juratref13_Has.f k w (c : Int) (i : Int)).bind fun t => (if t = true then (some (i : Int)) else (juratref13_First.l0 k w (c : Int) (minB w : Int) (wrap64 ((i : Int) + 1))))) (fun k => ?_) ?_
    · simp only [juratref13_First.l0]
      rw [if_pos (by omega)]
    refine Ev.bind (rhas_ev w (by omega) (fun s h => by have := hs s h; omega) c i) ?_
    cases hh : hasB w c i with
    | true =>
      refine Ev.congr (fun k => if_pos rfl) ?_
      obtain ⟨s, hs, hd, hb⟩ := hasB_iff.1 hh
      have hle := h3 s hs i (by omega) hb
      have : shB w c = i := by
        rcases h4 with h4 | ⟨s', hs', d, hd', hb', h4⟩
        · omega
        · by_cases hlt : d < i
          · have := hno d hlt
            rw [hasB_iff.2 ⟨s', hs', by have := hmin s' hs'; omega, hb'⟩] at this
            cases this
          · omega
      rw [this]
      exact Ev.now _
    | false =>
      refine Ev.congr (fun k => if_neg (by simp)) ?_
      have hm : minB w ≤ 65535 := by
        cases w with
        | nil => simp [minB, leastB] at hi
        | cons s w => have := hmin s List.mem_cons_self; have := hs s List.mem_cons_self; omega
      rw [wrap_id (by omega) (by omega)]
      refine ih (i + 1) (by omega) (fun d hd => ?_)
      by_cases h : d = i
      · rw [h]; exact hh
      · exact hno d (by omega)
theorem rfirst_ev (w : List ByteArray) (hl : w.length ≤ 65535) (hs : ∀ s ∈ w, s.size ≤ 65535) {c : Nat} (hc : c < 256) : Ev (fun k => juratref13_First.f k w (c : Int)) (shB w c) := by
  unfold juratref13_First.f
  exact Ev.bind (rleast_ev w (by omega)) (rfirst_l0 w hl hs hc (minB w) 0 (by omega) (fun d hd => by omega))
theorem shift_ok {l w : List ByteArray} {x : Option SetD} {e : Int} (h : SetOk l x w e) : shift_New.f x = some (some ⟨shTab (minB w) w, minB w⟩) := by
  unfold shift_New.f
  rw [h.hL, h.hM, if_pos ⟨by omega, by have := h.few; omega, fun s hs => ⟨by have := min_le s hs; omega, by have := h.size s hs; omega⟩⟩, Int.toNat_natCast]
theorem sfirst_ok (w : List ByteArray) {c : Nat} (hc : c < 256) : shift_Table_First.f (some ⟨shTab (minB w) w, minB w⟩) (c : Int) = some (shB w c) := by
  show (if 0 ≤ (c : Int) ∧ (c : Int) ≤ 255 then some ((shTab (minB w) w).getD (c : Int).toNat 0) else none) = _
  rw [if_pos ⟨by omega, by omega⟩, Int.toNat_natCast]
  rfl

end Go.Proofs.Ytcehdcijflbgjaa.Base

/- A pair's shift by its definition, and how many pairs there are: what the table of pairs tells; no condition beyond the sizes that stand in each statement. -/
namespace Go.Proofs.Ytcehdcijflbgjaa.Base
open Go Go.RowKit Go.Maps Go.Proofs.YtcehdcijflbgjaaW.PrintWords Go.Proofs.YtcehdcijflbgjaaW.PrintMore Go.Proofs.Ytcehdcijflbgjaa.P
set_option linter.unusedVariables false

/-- What is known of a table, of the pairs that were seen. -/
structure PrInv (seen : ByteArray → Nat → Prop) (D : DataW Unit) : Prop where
  map : IsMap D
  has : ∀ a b : UInt8, Maps.has D (key2 (a.toNat : Int) (b.toNat : Int)) = true ↔ ∃ s d, seen s d ∧ pB s (d + 1) = a ∧ pB s d = b
  le : ∀ s d, seen s d → prV D (prK s d) ≤ (d : Int)
  at_ : ∀ a b : UInt8, Maps.has D (key2 (a.toNat : Int) (b.toNat : Int)) = true → ∃ s d, seen s d ∧ pB s (d + 1) = a ∧ pB s d = b ∧ prV D (key2 (a.toNat : Int) (b.toNat : Int)) = (d : Int)
theorem prK_key (s : ByteArray) (d : Nat) : WideAt.IsKeyLit (prK s d) := trivial
theorem prV_same {D : DataW Unit} (h : IsMap D) (a b c : Int) : prV (D.put (key2 a b) (.lit (.int .i64 c))) (key2 a b) = c := by
  unfold prV
  rw [atKey_put_same h (key2_key a b)]
theorem prV_other {D : DataW Unit} {k k' : Lit} (h : k' ≠ k) (c : Int) : prV (D.put k (.lit (.int .i64 c))) k' = prV D k' := by
  unfold prV
  rw [atKey_put_other h]
theorem prInv_put {seen : ByteArray → Nat → Prop} {D : DataW Unit} (h : PrInv seen D) (s : ByteArray) (d : Nat) : PrInv (fun s' d' => seen s' d' ∨ s' = s ∧ d' = d) (prPut s D d) := by
  unfold prPut
  by_cases hc : Maps.has D (prK s d) = true ∧ prV D (prK s d) ≤ (d : Int)
  · rw [if_pos hc]
    refine ⟨h.map, fun a b => ?_, ?_, fun a b hh => ?_⟩
    · rw [h.has]
      constructor
      · rintro ⟨s', d', h1, h2⟩; exact ⟨s', d', .inl h1, h2⟩
      · rintro ⟨s', d', h1 | ⟨rfl, rfl⟩, h2, h3⟩
        · exact ⟨s', d', h1, h2, h3⟩
        · obtain ⟨s2, d2, g1, g2, g3⟩ := (h.has _ _).1 hc.1
          exact ⟨s2, d2, g1, g2.trans h2, g3.trans h3⟩
    · rintro s' d' (h1 | ⟨rfl, rfl⟩)
      · exact h.le s' d' h1
      · omega
    · obtain ⟨s', d', h1, h2⟩ := h.at_ a b hh
      exact ⟨s', d', .inl h1, h2⟩
  · rw [if_neg hc]
    refine ⟨h.map.put _ _, fun a b => ?_, ?_, fun a b hh => ?_⟩
    · by_cases hk : key2 (a.toNat : Int) (b.toNat : Int) = prK s d
      · rw [hk, has_put_same h.map (prK_key _ _)]
        obtain ⟨e1, e2⟩ := key2_inj hk
        exact ⟨fun _ => ⟨s, d, .inr ⟨rfl, rfl⟩, e1.symm, e2.symm⟩, fun _ => rfl⟩
      · rw [has_put_other hk, h.has]
        constructor
        · rintro ⟨s', d', h1, h2⟩; exact ⟨s', d', .inl h1, h2⟩
        · rintro ⟨s', d', h1 | ⟨rfl, rfl⟩, h2, h3⟩
          · exact ⟨s', d', h1, h2, h3⟩
          · exact absurd (by unfold prK; rw [h2, h3]) hk
    · rintro s' d' h1
      by_cases hk : prK s' d' = prK s d
      · rw [hk]
        unfold prK
        rw [prV_same h.map]
        rcases h1 with h1 | ⟨rfl, rfl⟩
        · have := h.le s' d' h1
          rw [hk] at this
          have hh : Maps.has D (prK s d) = true := by
            rw [← hk]; exact (h.has _ _).2 ⟨s', d', h1, rfl, rfl⟩
          have : (d : Int) < prV D (prK s d) := Classical.byContradiction fun hn => hc ⟨hh, Int.not_lt.1 hn⟩
          omega
        · omega
      · rw [prV_other hk]
        rcases h1 with h1 | ⟨rfl, rfl⟩
        · exact h.le s' d' h1
        · exact absurd rfl hk
    · by_cases hk : key2 (a.toNat : Int) (b.toNat : Int) = prK s d
      · obtain ⟨e1, e2⟩ := key2_inj hk
        refine ⟨s, d, .inr ⟨rfl, rfl⟩, e1.symm, e2.symm, ?_⟩
        rw [hk]
        exact prV_same h.map _ _ _
      · rw [has_put_other hk] at hh
        obtain ⟨s', d', h1, h2, h3, h4⟩ := h.at_ a b hh
        exact ⟨s', d', .inl h1, h2, h3, by rw [prV_other hk]; exact h4⟩
theorem prInv_imp {seen seen' : ByteArray → Nat → Prop} {D : DataW Unit} (h : PrInv seen D) (hi : ∀ s d, seen s d ↔ seen' s d) : PrInv seen' D := by
  have : seen = seen' := by funext s d; exact propext (hi s d)
  rw [← this]; exact h
theorem prInv_row {seen : ByteArray → Nat → Prop} {D : DataW Unit} (h : PrInv seen D) (s : ByteArray) : ∀ n, PrInv (fun s' d' => seen s' d' ∨ s' = s ∧ d' < n) ((List.range n).foldl (prPut s) D)
  | 0 => prInv_imp h (fun s' d' => by simp)
  | n + 1 => by
    rw [List.range_succ, List.foldl_append]
    refine prInv_imp (prInv_put (prInv_row h s n) s n) (fun s' d' => ?_)
    constructor
    · rintro ((h | ⟨h1, h2⟩) | ⟨h1, h2⟩)
      · exact .inl h
      · exact .inr ⟨h1, by omega⟩
      · exact .inr ⟨h1, by omega⟩
    · rintro (h | ⟨h1, h2⟩)
      · exact .inl (.inl h)
      · by_cases h3 : d' = n
        · exact .inr ⟨h1, h3⟩
        · exact .inl (.inr ⟨h1, by omega⟩)
theorem prInv_fold {m : Nat} : ∀ (l : List ByteArray) (seen : ByteArray → Nat → Prop) (D : DataW Unit), PrInv seen D → PrInv (fun s' d' => seen s' d' ∨ s' ∈ l ∧ d' < m) (l.foldl (prRow m) D)
  | [], seen, D, h => prInv_imp h (fun s' d' => by simp)
  | s :: l, seen, D, h => by
    refine prInv_imp (prInv_fold l _ _ (prInv_row h s m)) (fun s' d' => ?_)
    rw [List.mem_cons]
    constructor
    · rintro ((h | ⟨rfl, h2⟩) | ⟨h1, h2⟩)
      · exact .inl h
      · exact .inr ⟨.inl rfl, h2⟩
      · exact .inr ⟨.inr h1, h2⟩
    · rintro (h | ⟨rfl | h1, h2⟩)
      · exact .inl (.inl h)
      · exact .inl (.inr ⟨rfl, h2⟩)
      · exact .inr ⟨h1, h2⟩
theorem has_nil (k : Lit) : Maps.has (.map [] : DataW Unit) k = false := rfl
theorem prInv_tab (m : Nat) (l : List ByteArray) : PrInv (fun s d => s ∈ l ∧ d < m) (prTab m l) := by
  have h0 : PrInv (fun _ _ => False) (.map [] : DataW Unit) := ⟨isMap_empty, fun a b => by rw [has_nil]; simp, fun _ _ h => h.elim, fun a b h => by rw [has_nil] at h; cases h⟩
  exact prInv_imp (prInv_fold l _ _ h0) (fun s d => by simp)

/-- Two bytes' shift. -/
def prN (w : List ByteArray) (a b : UInt8) : Int := if Maps.has (prTab (minB w - 1) w) (key2 (a.toNat : Int) (b.toNat : Int)) = true then prV (prTab (minB w - 1) w) (key2 (a.toNat : Int) (b.toNat : Int)) else ((minB w - 1 : Nat) : Int)
theorem prN_spec (w : List ByteArray) (a b : UInt8) : 0 ≤ prN w a b ∧ prN w a b ≤ ((minB w - 1 : Nat) : Int) ∧ (∀ s ∈ w, ∀ d, d < minB w - 1 → pB s (d + 1) = a → pB s d = b → prN w a b ≤ (d : Int)) ∧
    (prN w a b = ((minB w - 1 : Nat) : Int) ∨ ∃ s ∈ w, ∃ d, d < minB w - 1 ∧ pB s (d + 1) = a ∧ pB s d = b ∧ prN w a b = (d : Int)) := by
  have h := prInv_tab (minB w - 1) w
  unfold prN
  by_cases hh : Maps.has (prTab (minB w - 1) w) (key2 (a.toNat : Int) (b.toNat : Int)) = true
  · rw [if_pos hh]
    obtain ⟨s, d, ⟨hs, hd⟩, h1, h2, h3⟩ := h.at_ a b hh
    refine ⟨by omega, by omega, fun s' hs' d' hd' e1 e2 => ?_, .inr ⟨s, hs, d, hd, h1, h2, h3⟩⟩
    have := h.le s' d' ⟨hs', hd'⟩
    unfold prK at this
    rw [e1, e2] at this
    exact this
  · rw [if_neg hh]
    refine ⟨by omega, by omega, fun s' hs' d' hd' e1 e2 => ?_, .inl rfl⟩
    exact absurd ((h.has a b).2 ⟨s', d', ⟨hs', hd'⟩, e1, e2⟩) hh

/-! how many pairs there are -/
def pr2 (s : ByteArray) (d : Nat) : ByteArray := s.extract (s.size - 2 - d) (s.size - d)
theorem pr2_LL {s : ByteArray} {d : Nat} (h : d + 2 ≤ s.size) : LL (pr2 s d) = [pB s (d + 1), pB s d] := by
  unfold pr2 pB
  rw [LL_extract]
  apply List.ext_getElem?
  intro i
  rw [List.getElem?_drop]
  by_cases hi : i < 2
  · rw [List.getElem?_take_of_lt (by omega)]
    have hl : s.size - 2 - d + i < (LL s).length := by rw [LL_length]; omega
    have hl2 : s.size - 1 - (d + 1) < (LL s).length := by rw [LL_length]; omega
    have hl3 : s.size - 1 - d < (LL s).length := by rw [LL_length]; omega
    rw [List.getElem?_eq_getElem hl, List.getD_eq_getElem?_getD, List.getD_eq_getElem?_getD, List.getElem?_eq_getElem hl2, List.getElem?_eq_getElem hl3]
    have : i = 0 ∨ i = 1 := by omega
    rcases this with rfl | rfl
    · simp only [List.getElem?_cons_zero, Option.getD_some]
      congr 2
      omega
    · simp only [List.getElem?_cons_succ, List.getElem?_cons_zero, Option.getD_some]
      congr 2
      omega
  · rw [List.getElem?_eq_none (by rw [List.length_take, LL_length]; omega), List.getElem?_eq_none (by simp; omega)]
theorem pr2_iff {s s' : ByteArray} {d d' : Nat} (h : d + 2 ≤ s.size) (h' : d' + 2 ≤ s'.size) : prK s' d' = prK s d ↔ pr2 s' d' = pr2 s d := by
  constructor
  · intro hk
    obtain ⟨e1, e2⟩ := key2_inj hk
    apply LL_inj
    rw [pr2_LL h, pr2_LL h', e1, e2]
  · intro he
    have := congrArg LL he
    rw [pr2_LL h, pr2_LL h'] at this
    injection this with e1 this
    injection this with e2 _
    unfold prK
    rw [e1, e2]
def bePut (s : ByteArray) (B : List ByteArray) (d : Nat) : List ByteArray := if inB (pr2 s d) B = true then B else B ++ [pr2 s d]
def beRow (m : Nat) (B : List ByteArray) (s : ByteArray) : List ByteArray := (List.range m).foldl (bePut s) B
def beTab (m : Nat) (l : List ByteArray) : List ByteArray := l.foldl (beRow m) []
structure BeInv (D : DataW Unit) (B : List ByteArray) : Prop where
  tidy : Tidy D
  size : Maps.size D = B.length
  has : ∀ s d, d + 2 ≤ s.size → (Maps.has D (prK s d) = true ↔ inB (pr2 s d) B = true)
theorem beInv_put {D : DataW Unit} {B : List ByteArray} (h : BeInv D B) (s : ByteArray) (d : Nat) (hd : d + 2 ≤ s.size) : BeInv (prPut s D d) (bePut s B d) := by
  unfold prPut bePut
  by_cases hh : Maps.has D (prK s d) = true
  · have hi := (h.has s d hd).1 hh
    rw [if_pos hi]
    by_cases hc : Maps.has D (prK s d) = true ∧ prV D (prK s d) ≤ (d : Int)
    · rw [if_pos hc]; exact h
    · rw [if_neg hc]
      refine ⟨h.tidy.put (prK_key _ _) _, by rw [size_put h.tidy, if_pos hh]; exact h.size, fun s' d' hd' => ?_⟩
      by_cases hk : prK s' d' = prK s d
      · rw [hk, has_put_same h.tidy.isMap (prK_key _ _), (pr2_iff hd hd').1 hk, hi]
      · rw [has_put_other hk]; exact h.has s' d' hd'
  · have hi : ¬ inB (pr2 s d) B = true := fun e => hh ((h.has s d hd).2 e)
    rw [if_neg hi, if_neg (fun hc => hh hc.1)]
    refine ⟨h.tidy.put (prK_key _ _) _, by rw [size_put h.tidy, if_neg hh, List.length_append, h.size]; rfl, fun s' d' hd' => ?_⟩
    rw [inB_snoc]
    by_cases hk : prK s' d' = prK s d
    · rw [hk, has_put_same h.tidy.isMap (prK_key _ _), decide_eq_true ((pr2_iff hd hd').1 hk).symm]
      simp
    · rw [has_put_other hk, decide_eq_false (fun e => hk ((pr2_iff hd hd').2 e.symm)), Bool.or_false]
      exact h.has s' d' hd'
theorem beInv_row {D : DataW Unit} {B : List ByteArray} (h : BeInv D B) (s : ByteArray) : ∀ m, (m = 0 ∨ m + 1 ≤ s.size) → BeInv ((List.range m).foldl (prPut s) D) ((List.range m).foldl (bePut s) B)
  | 0, _ => h
  | m + 1, hm => by
    rw [List.range_succ, List.foldl_append, List.foldl_append]
    exact beInv_put (beInv_row h s m (by omega)) s m (by omega)
theorem beInv_fold (m : Nat) : ∀ (l : List ByteArray) (D : DataW Unit) (B : List ByteArray), (∀ s ∈ l, m = 0 ∨ m + 1 ≤ s.size) → BeInv D B → BeInv (l.foldl (prRow m) D) (l.foldl (beRow m) B)
  | [], D, B, _, h => h
  | s :: l, D, B, hs, h => beInv_fold m l _ _ (fun t ht => hs t (List.mem_cons_of_mem _ ht)) (beInv_row h s m (hs s List.mem_cons_self))
theorem be_size (w : List ByteArray) : Maps.size (prTab (minB w - 1) w) = (beTab (minB w - 1) w).length :=
  (beInv_fold (minB w - 1) w _ _ (fun s hs => by have := min_le s hs; omega) ⟨tidy_empty, rfl, fun s d _ => by rw [has_nil]; simp [inB]⟩).size

end Go.Proofs.Ytcehdcijflbgjaa.Base

/- Proved here: what Go functions of this seat compute, or a law of it; no condition beyond the statement's own. Written for this claim by a program of this session (wip/myprint.py) over the kit's print.py. -/
namespace Go.Proofs.Ytcehdcijflbgjaa.P
open Go.RowKit Go.Proofs.YtcehdcijflbgjaaW.PrintWords Go.Proofs.YtcehdcijflbgjaaW.PrintLast Go.Proofs.YtcehdcijflbgjaaW.PrintMore
attribute [local go_sem] max2_int min2_int max_two min_two max_three min_three max_four min_four   -- for this text's walks alone
set_option linter.unusedVariables false
set_option linter.unusedSimpArgs false

/-! ### juratref14_Far: function 53 -/
def juratref14_Far.f (k : Nat) (l0 : List ByteArray) : Option (Int) := (juratref10_Least.f k l0).bind fun t189 => (if t189 = 0 then (some 0) else (some (wrap64 (t189 - 1))))
theorem juratref14_Far.mono : ∀ a0 k, LeO (juratref14_Far.f k a0) (juratref14_Far.f (k + 1) a0) := by
  intro a0 k
  unfold juratref14_Far.f
  repeat' first
      | (with_reducible exact juratref10_Least.mono _ _)
      | (with_reducible exact LeO.refl _)
      | (with_reducible exact LeO.none _)
      | (with_reducible refine LeO.ite ?_ ?_)
      | (with_reducible refine LeO.bind ?_ (fun _ => ?_))
      | exact juratref10_Least.mono _ _
      | exact LeO.none _
      | refine LeO.ite ?_ ?_
      | refine LeO.bind ?_ (fun _ => ?_)
set_option maxHeartbeats 8000000 in
set_option maxRecDepth 100000 in
theorem juratref14_Far.calls (k : Nat) (A0 : Option Addr) (c0 : Nat) (l0 : List ByteArray) (r : Int) (w : World) (hr0 : Kd.C Kd.string w A0 l0.length l0) (hc0 : l0.length ≤ c0) (h : juratref14_Far.f k l0 = some r) :
    Calls Try.prog 53 #[.slice A0 l0.length c0] w fun e w' => e = .returned (.int .i64 r) ∧ Drawn0 w w' := by
  have HR0 := Aside0.mk hr0
  have HC0 := Aside0.mk hc0
  clear hr0 hc0
  have H : ((juratref10_Least.f k l0).bind fun t189 => (if t189 = 0 then (some 0) else (some (wrap64 (t189 - 1))))) = some r := h
  clear h
  replace H := Option.bind_eq_some_iff.mp H
  obtain ⟨t189, A20, H⟩ := H
  replace H : (if t189 = 0 then (some 0) else (some (wrap64 (t189 - 1)))) = some r := H
  have A2 := Aside0.mk A20
  clear A20
  by_cases c3 : t189 = 0
  · rw [if_pos c3] at H
    have c3b0 : (t189 == 0) = true := beq_iff_eq.mpr c3
    have c3b1 : (t189 != 0) = false := bne_eq_false_iff_eq.mpr c3
    clear c3
    obtain rfl := Option.some.inj H
    go_enter Try.func53, Try.ntmps53
    go_wp2_with (first | ((with_reducible refine gate_callee (f := 43) rfl ?_); refine goesL_ (some 5) rfl rfl Try.func43 (by kernel_rfl) rfl #[.slice A0 l0.length c0] rfl (by (try simp only [List.map_toArray, List.map_cons, List.map_nil]); first | done | rfl | (simp only [List.length_drop, List.length_take]; rfl)) ?_; (with_reducible refine (juratref10_Least.calls k _ _ l0 t189 _ ?side1 ?side2 A2.out).mono ?_); (case side1 => repeat (first | exact HR0.out | (with_reducible refine Kd.C_alloc ?_ _) | (with_reducible refine Kd.C_drewN ?_ _) | (with_reducible refine Kd.C_drew ?_))); (case side2 => exact HC0.out); rintro e w' ⟨rfl, ⟨nd, rfl⟩⟩; refine ⟨_, rfl, ?_⟩))
    go_ret
    exact ⟨by first | rfl | (simp; done) | (simp [*]; done), by repeat (first | exact Drawn0.refl _ | apply Drawn0.step)⟩
  · rw [if_neg c3] at H
    have c3b0 : (t189 == 0) = false := beq_eq_false_iff_ne.mpr c3
    have c3b1 : (t189 != 0) = true := bne_iff_ne.mpr c3
    obtain rfl := Option.some.inj H
    go_enter Try.func53, Try.ntmps53
    go_wp2_with (first | ((with_reducible refine gate_callee (f := 43) rfl ?_); refine goesL_ (some 5) rfl rfl Try.func43 (by kernel_rfl) rfl #[.slice A0 l0.length c0] rfl (by (try simp only [List.map_toArray, List.map_cons, List.map_nil]); first | done | rfl | (simp only [List.length_drop, List.length_take]; rfl)) ?_; (with_reducible refine (juratref10_Least.calls k _ _ l0 t189 _ ?side1 ?side2 A2.out).mono ?_); (case side1 => repeat (first | exact HR0.out | (with_reducible refine Kd.C_alloc ?_ _) | (with_reducible refine Kd.C_drewN ?_ _) | (with_reducible refine Kd.C_drew ?_))); (case side2 => exact HC0.out); rintro e w' ⟨rfl, ⟨nd, rfl⟩⟩; refine ⟨_, rfl, ?_⟩))
    go_ret
    exact ⟨by first | rfl | (simp; done) | (simp [*]; done), by repeat (first | exact Drawn0.refl _ | apply Drawn0.step)⟩

end Go.Proofs.Ytcehdcijflbgjaa.P
