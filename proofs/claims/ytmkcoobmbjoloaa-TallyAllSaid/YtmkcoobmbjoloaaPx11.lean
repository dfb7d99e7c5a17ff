/- Proved here: what Go functions of this seat compute, or a law of it; no condition beyond the statement's own. Written for this claim by a program of this session (wip/myprint.py) over the kit's print.py. -/
import Derived.Test.YtmkcoobmbjoloaaPx0
import Derived.Test.YtmkcoobmbjoloaaPx47
import Derived.Test.YtmkcoobmbjoloaaPx51
import Derived.Test.YtmkcoobmbjoloaaPx54
import Derived.Test.YtmkcoobmbjoloaaPx56
import Derived.Test.YtmkcoobmbjoloaaPx57
import Derived.Test.YtmkcoobmbjoloaaPx58
import Derived.Test.YtmkcoobmbjoloaaPx59
import Derived.Test.YtmkcoobmbjoloaaH47
namespace Go.Proofs.Ytmkcoobmbjoloaa.P
open Go.RowKit Go.Proofs.YtmkcoobmbjoloaaW.PrintWords Go.Proofs.YtmkcoobmbjoloaaW.PrintLast Go.Proofs.YtmkcoobmbjoloaaW.PrintMore
attribute [local go_sem] max2_int min2_int max_two min_two max_three min_three max_four min_four   -- for this text's walks alone
set_option linter.unusedVariables false
set_option linter.unusedSimpArgs false

/-! ### juratlaw47_TallyAll: function 11 -/
mutual
def juratlaw47_TallyAll.j0 : Nat → List ByteArray → ByteArray → Int → Bool → Option (Bool)
  | 0, _, _, _, _ => none
  | k + 1, x0, x1, x2, x27 => if x27 = true then ((juratlaw47_awake.f k).bind fun t490 => (some t490)) else ((juratref10_New.f k x0).bind fun bt491 => (if bt491.2 = 0 then ((juratref15_All.f k bt491.1 x1).bind fun t496 => ((tally_Of.f (bt491.1.length : Int) t496).bind fun bt499 => ((tally_Chart.f k t496 (wrap64 (1 + (Go.bits .and .i64 x2 31))) 81).bind fun t503 => (juratlaw47_TallyAll.l0 k x1 bt491.1 t496 bt499.1 bt499.2 t503 0 0 0)))) else ((juratlaw47_awake.f k).bind fun t495 => (some t495))))
def juratlaw47_TallyAll.l0 : Nat → ByteArray → List ByteArray → List (S64) → List (S72) → Int → List Int → Int → Int → Int → Option (Bool)
  | 0, _, _, _, _, _, _, _, _, _ => none
  | k + 1, x1, x7, x9, x10, x11, x12, x13, x14, x15 => if x15 < (x10.length : Int) then (if 0 ≤ x15 then (if x15 < (x7.length : Int) then ((juratref15_Count.f k (rdOf ByteArray.empty x7 x15) x1).bind fun t509 => (if ((rd_T72 x10 x15).f0) = t509 then (juratlaw47_TallyAll.l0 k x1 x7 x9 x10 x11 x12 (wrap64 (x13 + ((rd_T72 x10 x15).f0))) x14 (wrap64 (x15 + 1))) else (some false))) else (none)) else (none)) else (juratlaw47_TallyAll.l1 k x9 x11 x12 x13 x14 0)
def juratlaw47_TallyAll.l1 : Nat → List (S64) → Int → List Int → Int → Int → Int → Option (Bool)
  | 0, _, _, _, _, _, _ => none
  | k + 1, x9, x11, x12, x13, x14, x16 => if x16 < (x12.length : Int) then (if 0 ≤ x16 then (juratlaw47_TallyAll.l1 k x9 x11 x12 x13 (wrap64 (x14 + (rd x12 x16))) (wrap64 (x16 + 1))) else (none)) else ((tally_Busy.f k x9 4611686018427387904).bind fun bt511 => (if (x9.length : Int) > 0 then (if 0 < (x9.length : Int) then (if x11 = 0 then (if x13 = (x9.length : Int) then (if x14 = (x9.length : Int) then (if bt511.2 = (x9.length : Int) then (if bt511.1 = ((rd_T64 x9 0).f0) then ((juratlaw47_awake.f k).bind fun t514 => (some t514)) else (some false)) else (some false)) else (some false)) else (some false)) else (some false)) else (none)) else (if x11 = 0 then (if x13 = (x9.length : Int) then (if x14 = (x9.length : Int) then (if bt511.2 = (x9.length : Int) then (if bt511.1 = 0 then ((juratlaw47_awake.f k).bind fun t515 => (some t515)) else (some false)) else (some false)) else (some false)) else (some false)) else (some false))))
end
def juratlaw47_TallyAll.f (k : Nat) (l0 : List ByteArray) (a1 : ByteArray) (a2 : Int) : Option (Bool) := (juratref09_Few.f k l0 8 12).bind fun t489 => (if t489 = true then (juratlaw47_TallyAll.j0 k l0 a1 a2 (decide ((a1.size : Int) > 80))) else (juratlaw47_TallyAll.j0 k l0 a1 a2 true))
theorem juratlaw47_TallyAll.mono_l : ∀ k, (∀ y0 y1 y2 y3, LeO (juratlaw47_TallyAll.j0 k y0 y1 y2 y3) (juratlaw47_TallyAll.j0 (k + 1) y0 y1 y2 y3)) ∧ (∀ y0 y1 y2 y3 y4 y5 y6 y7 y8, LeO (juratlaw47_TallyAll.l0 k y0 y1 y2 y3 y4 y5 y6 y7 y8) (juratlaw47_TallyAll.l0 (k + 1) y0 y1 y2 y3 y4 y5 y6 y7 y8)) ∧ (∀ y0 y1 y2 y3 y4 y5, LeO (juratlaw47_TallyAll.l1 k y0 y1 y2 y3 y4 y5) (juratlaw47_TallyAll.l1 (k + 1) y0 y1 y2 y3 y4 y5))
  | 0 => ⟨fun _ _ _ _ r h => by simp [juratlaw47_TallyAll.j0] at h, fun _ _ _ _ _ _ _ _ _ r h => by simp [juratlaw47_TallyAll.l0] at h, fun _ _ _ _ _ _ r h => by simp [juratlaw47_TallyAll.l1] at h⟩
  | k + 1 => by
    obtain ⟨ih0, ih1, ih2⟩ := juratlaw47_TallyAll.mono_l k
    refine ⟨?_, ?_, ?_⟩
    · intro y0 y1 y2 y3
      unfold juratlaw47_TallyAll.j0
      repeat' first
      | (with_reducible exact ih0 _ _ _ _)
      | (with_reducible exact ih1 _ _ _ _ _ _ _ _ _)
      | (with_reducible exact ih2 _ _ _ _ _ _)
      | (with_reducible exact juratlaw47_awake.mono _)
      | (with_reducible exact juratref09_Few.mono _ _ _ _)
      | (with_reducible exact juratref10_New.mono _ _)
      | (with_reducible exact juratref15_All.mono _ _ _)
      | (with_reducible exact juratref15_Count.mono _ _ _)
      | (with_reducible exact tally_Busy.mono _ _ _)
      | (with_reducible exact tally_Chart.mono _ _ _ _)
      | (with_reducible exact LeO.refl _)
      | (with_reducible exact LeO.none _)
      | (with_reducible refine LeO.ite ?_ ?_)
      | (with_reducible refine LeO.bind ?_ (fun _ => ?_))
      | exact ih0 _ _ _ _
      | exact ih1 _ _ _ _ _ _ _ _ _
      | exact ih2 _ _ _ _ _ _
      | exact juratlaw47_awake.mono _
      | exact juratref09_Few.mono _ _ _ _
      | exact juratref10_New.mono _ _
      | exact juratref15_All.mono _ _ _
      | exact juratref15_Count.mono _ _ _
      | exact tally_Busy.mono _ _ _
      | exact tally_Chart.mono _ _ _ _
      | exact LeO.none _
      | refine LeO.ite ?_ ?_
      | refine LeO.bind ?_ (fun _ => ?_)
    · intro y0 y1 y2 y3 y4 y5 y6 y7 y8
      unfold juratlaw47_TallyAll.l0
      repeat' first
      | (with_reducible exact ih0 _ _ _ _)
      | (with_reducible exact ih1 _ _ _ _ _ _ _ _ _)
      | (with_reducible exact ih2 _ _ _ _ _ _)
      | (with_reducible exact juratlaw47_awake.mono _)
      | (with_reducible exact juratref09_Few.mono _ _ _ _)
      | (with_reducible exact juratref10_New.mono _ _)
      | (with_reducible exact juratref15_All.mono _ _ _)
      | (with_reducible exact juratref15_Count.mono _ _ _)
      | (with_reducible exact tally_Busy.mono _ _ _)
      | (with_reducible exact tally_Chart.mono _ _ _ _)
      | (with_reducible exact LeO.refl _)
      | (with_reducible exact LeO.none _)
      | (with_reducible refine LeO.ite ?_ ?_)
      | (with_reducible refine LeO.bind ?_ (fun _ => ?_))
      | exact ih0 _ _ _ _
      | exact ih1 _ _ _ _ _ _ _ _ _
      | exact ih2 _ _ _ _ _ _
      | exact juratlaw47_awake.mono _
      | exact juratref09_Few.mono _ _ _ _
      | exact juratref10_New.mono _ _
      | exact juratref15_All.mono _ _ _
      | exact juratref15_Count.mono _ _ _
      | exact tally_Busy.mono _ _ _
      | exact tally_Chart.mono _ _ _ _
      | exact LeO.none _
      | refine LeO.ite ?_ ?_
      | refine LeO.bind ?_ (fun _ => ?_)
    · intro y0 y1 y2 y3 y4 y5
      unfold juratlaw47_TallyAll.l1
      repeat' first
      | (with_reducible exact ih0 _ _ _ _)
      | (with_reducible exact ih1 _ _ _ _ _ _ _ _ _)
      | (with_reducible exact ih2 _ _ _ _ _ _)
      | (with_reducible exact juratlaw47_awake.mono _)
      | (with_reducible exact juratref09_Few.mono _ _ _ _)
      | (with_reducible exact juratref10_New.mono _ _)
      | (with_reducible exact juratref15_All.mono _ _ _)
      | (with_reducible exact juratref15_Count.mono _ _ _)
      | (with_reducible exact tally_Busy.mono _ _ _)
      | (with_reducible exact tally_Chart.mono _ _ _ _)
      | (with_reducible exact LeO.refl _)
      | (with_reducible exact LeO.none _)
      | (with_reducible refine LeO.ite ?_ ?_)
      | (with_reducible refine LeO.bind ?_ (fun _ => ?_))
      | exact ih0 _ _ _ _
      | exact ih1 _ _ _ _ _ _ _ _ _
      | exact ih2 _ _ _ _ _ _
      | exact juratlaw47_awake.mono _
      | exact juratref09_Few.mono _ _ _ _
      | exact juratref10_New.mono _ _
      | exact juratref15_All.mono _ _ _
      | exact juratref15_Count.mono _ _ _
      | exact tally_Busy.mono _ _ _
      | exact tally_Chart.mono _ _ _ _
      | exact LeO.none _
      | refine LeO.ite ?_ ?_
      | refine LeO.bind ?_ (fun _ => ?_)
theorem juratlaw47_TallyAll.mono : ∀ a0 a1 a2 k, LeO (juratlaw47_TallyAll.f k a0 a1 a2) (juratlaw47_TallyAll.f (k + 1) a0 a1 a2) := by
  intro a0 a1 a2 k
  obtain ⟨ih0, ih1, ih2⟩ := juratlaw47_TallyAll.mono_l k
  unfold juratlaw47_TallyAll.f
  repeat' first
      | (with_reducible exact ih0 _ _ _ _)
      | (with_reducible exact ih1 _ _ _ _ _ _ _ _ _)
      | (with_reducible exact ih2 _ _ _ _ _ _)
      | (with_reducible exact juratlaw47_awake.mono _)
      | (with_reducible exact juratref09_Few.mono _ _ _ _)
      | (with_reducible exact juratref10_New.mono _ _)
      | (with_reducible exact juratref15_All.mono _ _ _)
      | (with_reducible exact juratref15_Count.mono _ _ _)
      | (with_reducible exact tally_Busy.mono _ _ _)
      | (with_reducible exact tally_Chart.mono _ _ _ _)
      | (with_reducible exact LeO.refl _)
      | (with_reducible exact LeO.none _)
      | (with_reducible refine LeO.ite ?_ ?_)
      | (with_reducible refine LeO.bind ?_ (fun _ => ?_))
      | exact ih0 _ _ _ _
      | exact ih1 _ _ _ _ _ _ _ _ _
      | exact ih2 _ _ _ _ _ _
      | exact juratlaw47_awake.mono _
      | exact juratref09_Few.mono _ _ _ _
      | exact juratref10_New.mono _ _
      | exact juratref15_All.mono _ _ _
      | exact juratref15_Count.mono _ _ _
      | exact tally_Busy.mono _ _ _
      | exact tally_Chart.mono _ _ _ _
      | exact LeO.none _
      | refine LeO.ite ?_ ?_
      | refine LeO.bind ?_ (fun _ => ?_)
set_option maxHeartbeats 8000000 in
set_option maxRecDepth 100000 in
theorem juratlaw47_TallyAll.calls (k : Nat) (A0 : Option Addr) (c0 : Nat) (l0 : List ByteArray) (a1 : ByteArray) (a2 : Int) (r : Bool) (w : World) (hr0 : Kd.C Kd.string w A0 l0.length l0) (hc0 : l0.length ≤ c0) (h : juratlaw47_TallyAll.f k l0 a1 a2 = some r) :
    Calls Try.prog 11 #[.slice A0 l0.length c0, .string a1, .int .i64 a2] w fun e w' => e = .returned (.bool r) ∧ Below w.heap.size w w' := by
  have HR0 := Aside0.mk hr0
  have HC0 := Aside0.mk hc0
  clear hr0 hc0
  have HB := Aside0.mk (Below.refl w.heap.size w)
  have H : ((juratref09_Few.f k l0 8 12).bind fun t489 => (if t489 = true then (juratlaw47_TallyAll.j0 k l0 a1 a2 (decide ((a1.size : Int) > 80))) else (juratlaw47_TallyAll.j0 k l0 a1 a2 true))) = some r := h
  clear h
  have HC4 := Aside0.mk H
  clear H
  go_enter Try.func11, Try.ntmps11
  go_upto_region 1 with (fail)
  repeat (go_quiet (fail); go_upto_region 1 with (fail))
  go_cut [27] (fun v27 wc => ∃ (kq : Nat) (x27_3 : Bool), v27 = .bool x27_3 ∧ Aside0 (juratlaw47_TallyAll.j0 kq l0 a1 a2 x27_3 = some r) ∧ Aside0 (kq ≤ k) ∧ Aside0 (Below w.heap.size w wc))
  case first =>
    have H := HC4.out
    clear HC4
    replace H := Option.bind_eq_some_iff.mp H
    obtain ⟨t489, A50, H⟩ := H
    replace H : (if t489 = true then (juratlaw47_TallyAll.j0 k l0 a1 a2 (decide ((a1.size : Int) > 80))) else (juratlaw47_TallyAll.j0 k l0 a1 a2 true)) = some r := H
    have A5 := Aside0.mk A50
    clear A50
    by_cases c6 : t489 = true
    · subst c6
      have H1 : (juratlaw47_TallyAll.j0 k l0 a1 a2 (decide ((a1.size : Int) > 80))) = some r := by rw [if_pos rfl] at H; exact H
      clear H
      have H := H1
      clear H1
      have H' := Aside0.mk H
      clear H
      go_wp2_with (first | (go_at_call 56; (with_reducible refine (juratref09_Few.calls k _ _ l0 8 12 true _ ?side1 ?side2 A5.out).mono ?_); (case side1 => repeat (first | exact (Kd.C_below HR0.out HB.out) | (with_reducible refine Kd.C_alloc ?_ _) | (with_reducible refine Kd.C_drewN ?_ _) | (with_reducible refine Kd.C_drew ?_))); (case side2 => exact HC0.out); rintro e w' ⟨rfl, ⟨nd, rfl⟩⟩; (try first | exact ⟨rfl, _, World.drewN_drewN _ _ _⟩ | exact ⟨rfl, _, Eq.trans (World.drewN_drewN _ _ _) (congrArg (World.drewN _) (Nat.add_assoc _ _ _))⟩)))
      have tk0_ : True := trivial
      have tk1_ : True := trivial
      repeat (go_quiet (first | (go_at_call 56; (clear tk0_); (with_reducible refine (juratref09_Few.calls k _ _ l0 8 12 true _ ?side1 ?side2 A5.out).mono ?_); (case side1 => repeat (first | exact (Kd.C_below HR0.out HB.out) | (with_reducible refine Kd.C_alloc ?_ _) | (with_reducible refine Kd.C_drewN ?_ _) | (with_reducible refine Kd.C_drew ?_))); (case side2 => exact HC0.out); rintro e w' ⟨rfl, ⟨nd, rfl⟩⟩; (try first | exact ⟨rfl, _, World.drewN_drewN _ _ _⟩ | exact ⟨rfl, _, Eq.trans (World.drewN_drewN _ _ _) (congrArg (World.drewN _) (Nat.add_assoc _ _ _))⟩))); try go_wp2_with (first | (go_at_call 56; (clear tk1_); (with_reducible refine (juratref09_Few.calls k _ _ l0 8 12 true _ ?side1 ?side2 A5.out).mono ?_); (case side1 => repeat (first | exact (Kd.C_below HR0.out HB.out) | (with_reducible refine Kd.C_alloc ?_ _) | (with_reducible refine Kd.C_drewN ?_ _) | (with_reducible refine Kd.C_drew ?_))); (case side2 => exact HC0.out); rintro e w' ⟨rfl, ⟨nd, rfl⟩⟩; (try first | exact ⟨rfl, _, World.drewN_drewN _ _ _⟩ | exact ⟨rfl, _, Eq.trans (World.drewN_drewN _ _ _) (congrArg (World.drewN _) (Nat.add_assoc _ _ _))⟩))))
      go_meet
      case rel => exact ⟨_, (decide ((a1.size : Int) > 80)), (by first | rfl | exact isE_ _ | exact isE2_ _ | (simp; done) | (simp [*]; done)), H', ⟨by first | omega | exact Nat.le_refl _⟩, ⟨by repeat (first | (with_reducible first | exact HB.out | apply below_alloc | apply pw_below_drewN | apply below_drew1) | exact HB.out)⟩⟩
    · replace c6 := Bool.eq_false_iff.mpr c6
      subst c6
      have H1 : (juratlaw47_TallyAll.j0 k l0 a1 a2 true) = some r := by rw [if_neg (show ¬ (false = true) by decide)] at H; exact H
      clear H
      have H := H1
      clear H1
      have H' := Aside0.mk H
      clear H
      go_wp2_with (first | (go_at_call 56; (with_reducible refine (juratref09_Few.calls k _ _ l0 8 12 false _ ?side1 ?side2 A5.out).mono ?_); (case side1 => repeat (first | exact (Kd.C_below HR0.out HB.out) | (with_reducible refine Kd.C_alloc ?_ _) | (with_reducible refine Kd.C_drewN ?_ _) | (with_reducible refine Kd.C_drew ?_))); (case side2 => exact HC0.out); rintro e w' ⟨rfl, ⟨nd, rfl⟩⟩; (try first | exact ⟨rfl, _, World.drewN_drewN _ _ _⟩ | exact ⟨rfl, _, Eq.trans (World.drewN_drewN _ _ _) (congrArg (World.drewN _) (Nat.add_assoc _ _ _))⟩)))
      have tk0_ : True := trivial
      have tk1_ : True := trivial
      repeat (go_quiet (first | (go_at_call 56; (clear tk0_); (with_reducible refine (juratref09_Few.calls k _ _ l0 8 12 false _ ?side1 ?side2 A5.out).mono ?_); (case side1 => repeat (first | exact (Kd.C_below HR0.out HB.out) | (with_reducible refine Kd.C_alloc ?_ _) | (with_reducible refine Kd.C_drewN ?_ _) | (with_reducible refine Kd.C_drew ?_))); (case side2 => exact HC0.out); rintro e w' ⟨rfl, ⟨nd, rfl⟩⟩; (try first | exact ⟨rfl, _, World.drewN_drewN _ _ _⟩ | exact ⟨rfl, _, Eq.trans (World.drewN_drewN _ _ _) (congrArg (World.drewN _) (Nat.add_assoc _ _ _))⟩))); try go_wp2_with (first | (go_at_call 56; (clear tk1_); (with_reducible refine (juratref09_Few.calls k _ _ l0 8 12 false _ ?side1 ?side2 A5.out).mono ?_); (case side1 => repeat (first | exact (Kd.C_below HR0.out HB.out) | (with_reducible refine Kd.C_alloc ?_ _) | (with_reducible refine Kd.C_drewN ?_ _) | (with_reducible refine Kd.C_drew ?_))); (case side2 => exact HC0.out); rintro e w' ⟨rfl, ⟨nd, rfl⟩⟩; (try first | exact ⟨rfl, _, World.drewN_drewN _ _ _⟩ | exact ⟨rfl, _, Eq.trans (World.drewN_drewN _ _ _) (congrArg (World.drewN _) (Nat.add_assoc _ _ _))⟩))))
      go_meet
      case rel => exact ⟨_, (true), (by first | rfl | exact isE_ _ | exact isE2_ _ | (simp; done) | (simp [*]; done)), H', ⟨by first | omega | exact Nat.le_refl _⟩, ⟨by repeat (first | (with_reducible first | exact HB.out | apply below_alloc | apply pw_below_drewN | apply below_drew1) | exact HB.out)⟩⟩
  case rest =>
    clear HC4
    try clear c1
    try clear p2
    try clear c6
    obtain ⟨kq, x27_3, rfl, HA, HJ3, HB⟩ := hcut
    cases kq with
    | zero => exact absurd HA.out (by simp [juratlaw47_TallyAll.j0])
    | succ kj3 =>
      have H := HA.out
      clear HA
      simp only [juratlaw47_TallyAll.j0] at H
      by_cases c7 : x27_3 = true
      · subst c7
        have H1 : ((juratlaw47_awake.f kj3).bind fun t490 => (some t490)) = some r := by rw [if_pos rfl] at H; exact H
        clear H
        have H := H1
        clear H1
        replace H := Option.bind_eq_some_iff.mp H
        obtain ⟨t490, A80, H⟩ := H
        replace H : (some t490) = some r := H
        have A8 := Aside0.mk A80
        clear A80
        obtain rfl := Option.some.inj H
        go_wp2_with (first | (go_at_call 47; (with_reducible refine (juratlaw47_awake.calls kj3  t490 _ A8.out).mono ?_); rintro e w9 ⟨rfl, hb⟩; have n0_ := Aside0.mk (below_step (by repeat (first | (with_reducible first | exact HB.out | apply below_alloc | apply pw_below_drewN | apply below_drew1) | exact HB.out)) hb); clear HB; have HB := n0_; clear n0_; (try clear hb); (try clear hb2); (try clear hk); (try clear hi)))
        repeat (go_quiet (first | (go_at_call 47; (with_reducible refine (juratlaw47_awake.calls kj3  t490 _ A8.out).mono ?_); rintro e w9 ⟨rfl, hb⟩; have n0_ := Aside0.mk (below_step (by repeat (first | (with_reducible first | exact HB.out | apply below_alloc | apply pw_below_drewN | apply below_drew1) | exact HB.out)) hb); clear HB; have HB := n0_; clear n0_; (try clear hb); (try clear hb2); (try clear hk); (try clear hi))); try go_wp2_with (first | (go_at_call 47; (with_reducible refine (juratlaw47_awake.calls kj3  t490 _ A8.out).mono ?_); rintro e w9 ⟨rfl, hb⟩; have n0_ := Aside0.mk (below_step (by repeat (first | (with_reducible first | exact HB.out | apply below_alloc | apply pw_below_drewN | apply below_drew1) | exact HB.out)) hb); clear HB; have HB := n0_; clear n0_; (try clear hb); (try clear hb2); (try clear hk); (try clear hi))))
        go_ret
        exact ⟨by first | rfl | (simp [errW_none, errW_some] <;> rfl) | (simp [*, errW_none, errW_some] <;> rfl), by repeat (first | (with_reducible first | exact HB.out | apply below_alloc | apply pw_below_drewN | apply below_drew1) | exact HB.out)⟩
      · replace c7 := Bool.eq_false_iff.mpr c7
        subst c7
        have H1 : ((juratref10_New.f kj3 l0).bind fun bt491 => (if bt491.2 = 0 then ((juratref15_All.f kj3 bt491.1 a1).bind fun t496 => ((tally_Of.f (bt491.1.length : Int) t496).bind fun bt499 => ((tally_Chart.f kj3 t496 (wrap64 (1 + (Go.bits .and .i64 a2 31))) 81).bind fun t503 => (juratlaw47_TallyAll.l0 kj3 a1 bt491.1 t496 bt499.1 bt499.2 t503 0 0 0)))) else ((juratlaw47_awake.f kj3).bind fun t495 => (some t495)))) = some r := by rw [if_neg (show ¬ (false = true) by decide)] at H; exact H
        clear H
        have H := H1
        clear H1
        replace H := Option.bind_eq_some_iff.mp H
        obtain ⟨⟨t491, t492⟩, A100, H⟩ := H
        replace H : (if t492 = 0 then ((juratref15_All.f kj3 t491 a1).bind fun t496 => ((tally_Of.f (t491.length : Int) t496).bind fun bt499 => ((tally_Chart.f kj3 t496 (wrap64 (1 + (Go.bits .and .i64 a2 31))) 81).bind fun t503 => (juratlaw47_TallyAll.l0 kj3 a1 t491 t496 bt499.1 bt499.2 t503 0 0 0)))) else ((juratlaw47_awake.f kj3).bind fun t495 => (some t495))) = some r := H
        have A10 := Aside0.mk A100
        clear A100
        by_cases c11 : t492 = 0
        · rw [if_pos c11] at H
          have c11b0 : (t492 == 0) = true := beq_iff_eq.mpr c11
          have c11b1 : (t492 != 0) = false := bne_eq_false_iff_eq.mpr c11
          clear c11
          replace H := Option.bind_eq_some_iff.mp H
          obtain ⟨t496, A120, H⟩ := H
          replace H : ((tally_Of.f (t491.length : Int) t496).bind fun bt499 => ((tally_Chart.f kj3 t496 (wrap64 (1 + (Go.bits .and .i64 a2 31))) 81).bind fun t503 => (juratlaw47_TallyAll.l0 kj3 a1 t491 t496 bt499.1 bt499.2 t503 0 0 0))) = some r := H
          have A12 := Aside0.mk A120
          clear A120
          replace H := Option.bind_eq_some_iff.mp H
          obtain ⟨⟨t499, t500⟩, A130, H⟩ := H
          replace H : ((tally_Chart.f kj3 t496 (wrap64 (1 + (Go.bits .and .i64 a2 31))) 81).bind fun t503 => (juratlaw47_TallyAll.l0 kj3 a1 t491 t496 t499 t500 t503 0 0 0)) = some r := H
          have A13 := Aside0.mk A130
          clear A130
          replace H := Option.bind_eq_some_iff.mp H
          obtain ⟨t503, A140, H⟩ := H
          replace H : (juratlaw47_TallyAll.l0 kj3 a1 t491 t496 t499 t500 t503 0 0 0) = some r := H
          have A14 := Aside0.mk A140
          clear A140
          have H' := Aside0.mk H
          clear H
          go_wp2_with (first | (go_at_call 57; (with_reducible refine (juratref10_New.calls kj3 _ _ l0 t491 t492 _ ?side1 ?side2 A10.out).mono ?_); (case side1 => repeat (first | exact (Kd.C_below HR0.out HB.out) | (with_reducible refine Kd.C_alloc ?_ _) | (with_reducible refine Kd.C_drewN ?_ _) | (with_reducible refine Kd.C_drew ?_))); (case side2 => exact HC0.out); rintro e w15 ⟨v493, rfl, ho0, hb⟩; have n0_ := Aside0.mk (Kd.R_lower ho0 (below_size (by repeat (first | (with_reducible first | exact HB.out | apply below_alloc | apply pw_below_drewN | apply below_drew1) | exact HB.out)))); have n1_ := Aside0.mk (below_step (by repeat (first | (with_reducible first | exact HB.out | apply below_alloc | apply pw_below_drewN | apply below_drew1) | exact HB.out)) hb); clear HB; have HO494 := n0_; have HB := n1_; clear n0_ n1_; (try clear hb); (try clear hb2); (try clear hk); (try clear hi); (try clear ho0); obtain ⟨Ao16, co16, eo16⟩ := Kd.R_slice HO494.out; subst eo16) | (go_at_call 58; (with_reducible refine (juratref15_All.calls kj3 _ _ t491 a1 t496 _ ?side1 ?side2 A12.out).mono ?_); (case side1 => repeat (first | exact (Kd.R_reads' HO494.out).2.2 | (with_reducible refine Kd.C_alloc ?_ _) | (with_reducible refine Kd.C_drewN ?_ _) | (with_reducible refine Kd.C_drew ?_))); (case side2 => exact (Kd.R_reads' HO494.out).2.1); rintro e w17 ⟨v497, rfl, ho0, hb⟩; have n0_ := Aside0.mk (Kd.R_below (by (with_reducible repeat (first | apply Kd.R_alloc | apply Kd.R_drewN | apply Kd.R_drew)); exact HO494.out) hb); have n1_ := Aside0.mk (Kd.R_lower ho0 (below_size (by repeat (first | (with_reducible first | exact HB.out | apply below_alloc | apply pw_below_drewN | apply below_drew1) | exact HB.out)))); have n2_ := Aside0.mk (below_step (by repeat (first | (with_reducible first | exact HB.out | apply below_alloc | apply pw_below_drewN | apply below_drew1) | exact HB.out)) hb); clear HO494; clear HB; have HO494 := n0_; have HO498 := n1_; have HB := n2_; clear n0_ n1_ n2_; (try clear hb); (try clear hb2); (try clear hk); (try clear hi); (try clear ho0); obtain ⟨Ao18, co18, eo18⟩ := Kd.R_slice HO498.out; subst eo18) | (go_at_call 48; (with_reducible refine (tally_Of.calls (t491.length : Int) _ _ t496 t499 t500 _ ?side1 ?side2 A13.out).mono ?_); (case side1 => repeat (first | exact (Kd.R_reads' HO498.out).2.2 | (with_reducible refine Kd.C_alloc ?_ _) | (with_reducible refine Kd.C_drewN ?_ _) | (with_reducible refine Kd.C_drew ?_))); (case side2 => exact (Kd.R_reads' HO498.out).2.1); rintro e w19 ⟨v501, rfl, ho0, hb⟩; have n0_ := Aside0.mk (Kd.R_below (by (with_reducible repeat (first | apply Kd.R_alloc | apply Kd.R_drewN | apply Kd.R_drew)); exact HO494.out) hb); have n1_ := Aside0.mk (Kd.R_below (by (with_reducible repeat (first | apply Kd.R_alloc | apply Kd.R_drewN | apply Kd.R_drew)); exact HO498.out) hb); have n2_ := Aside0.mk (Kd.R_lower ho0 (below_size (by repeat (first | (with_reducible first | exact HB.out | apply below_alloc | apply pw_below_drewN | apply below_drew1) | exact HB.out)))); have n3_ := Aside0.mk (below_step (by repeat (first | (with_reducible first | exact HB.out | apply below_alloc | apply pw_below_drewN | apply below_drew1) | exact HB.out)) hb); clear HO494; clear HO498; clear HB; have HO494 := n0_; have HO498 := n1_; have HO502 := n2_; have HB := n3_; clear n0_ n1_ n2_ n3_; (try clear hb); (try clear hb2); (try clear hk); (try clear hi); (try clear ho0)) | (go_at_call 51; (with_reducible refine (tally_Chart.calls kj3 _ _ t496 (wrap64 (1 + (Go.bits .and .i64 a2 31))) 81 t503 _ ?side1 ?side2 A14.out).mono ?_); (case side1 => repeat (first | exact (Kd.R_reads' HO498.out).2.2 | (with_reducible refine Kd.C_alloc ?_ _) | (with_reducible refine Kd.C_drewN ?_ _) | (with_reducible refine Kd.C_drew ?_))); (case side2 => exact (Kd.R_reads' HO498.out).2.1); rintro e w20 ⟨v504, rfl, ho0, hb⟩; have n0_ := Aside0.mk (Kd.R_below (by (with_reducible repeat (first | apply Kd.R_alloc | apply Kd.R_drewN | apply Kd.R_drew)); exact HO494.out) hb); have n1_ := Aside0.mk (Kd.R_below (by (with_reducible repeat (first | apply Kd.R_alloc | apply Kd.R_drewN | apply Kd.R_drew)); exact HO498.out) hb); have n2_ := Aside0.mk (Kd.R_below (by (with_reducible repeat (first | apply Kd.R_alloc | apply Kd.R_drewN | apply Kd.R_drew)); exact HO502.out) hb); have n3_ := Aside0.mk (Kd.R_lower ho0 (below_size (by repeat (first | (with_reducible first | exact HB.out | apply below_alloc | apply pw_below_drewN | apply below_drew1) | exact HB.out)))); have n4_ := Aside0.mk (below_step (by repeat (first | (with_reducible first | exact HB.out | apply below_alloc | apply pw_below_drewN | apply below_drew1) | exact HB.out)) hb); clear HO494; clear HO498; clear HO502; clear HB; have HO494 := n0_; have HO498 := n1_; have HO502 := n2_; have HO505 := n3_; have HB := n4_; clear n0_ n1_ n2_ n3_ n4_; (try clear hb); (try clear hb2); (try clear hk); (try clear hi); (try clear ho0)))
          have tk0_ : True := trivial
          have tk1_ : True := trivial
          have tk2_ : True := trivial
          have tk3_ : True := trivial
          have tk4_ : True := trivial
          have tk5_ : True := trivial
          have tk6_ : True := trivial
          have tk7_ : True := trivial
          repeat (go_quiet (first | (go_at_call 57; (clear tk0_); (with_reducible refine (juratref10_New.calls kj3 _ _ l0 t491 t492 _ ?side1 ?side2 A10.out).mono ?_); (case side1 => repeat (first | exact (Kd.C_below HR0.out HB.out) | (with_reducible refine Kd.C_alloc ?_ _) | (with_reducible refine Kd.C_drewN ?_ _) | (with_reducible refine Kd.C_drew ?_))); (case side2 => exact HC0.out); rintro e w15 ⟨v493, rfl, ho0, hb⟩; have n0_ := Aside0.mk (Kd.R_lower ho0 (below_size (by repeat (first | (with_reducible first | exact HB.out | apply below_alloc | apply pw_below_drewN | apply below_drew1) | exact HB.out)))); have n1_ := Aside0.mk (below_step (by repeat (first | (with_reducible first | exact HB.out | apply below_alloc | apply pw_below_drewN | apply below_drew1) | exact HB.out)) hb); clear HB; have HO494 := n0_; have HB := n1_; clear n0_ n1_; (try clear hb); (try clear hb2); (try clear hk); (try clear hi); (try clear ho0); obtain ⟨Ao16, co16, eo16⟩ := Kd.R_slice HO494.out; subst eo16) | (go_at_call 58; (clear tk1_); (with_reducible refine (juratref15_All.calls kj3 _ _ t491 a1 t496 _ ?side1 ?side2 A12.out).mono ?_); (case side1 => repeat (first | exact (Kd.R_reads' HO494.out).2.2 | (with_reducible refine Kd.C_alloc ?_ _) | (with_reducible refine Kd.C_drewN ?_ _) | (with_reducible refine Kd.C_drew ?_))); (case side2 => exact (Kd.R_reads' HO494.out).2.1); rintro e w17 ⟨v497, rfl, ho0, hb⟩; have n0_ := Aside0.mk (Kd.R_below (by (with_reducible repeat (first | apply Kd.R_alloc | apply Kd.R_drewN | apply Kd.R_drew)); exact HO494.out) hb); have n1_ := Aside0.mk (Kd.R_lower ho0 (below_size (by repeat (first | (with_reducible first | exact HB.out | apply below_alloc | apply pw_below_drewN | apply below_drew1) | exact HB.out)))); have n2_ := Aside0.mk (below_step (by repeat (first | (with_reducible first | exact HB.out | apply below_alloc | apply pw_below_drewN | apply below_drew1) | exact HB.out)) hb); clear HO494; clear HB; have HO494 := n0_; have HO498 := n1_; have HB := n2_; clear n0_ n1_ n2_; (try clear hb); (try clear hb2); (try clear hk); (try clear hi); (try clear ho0); obtain ⟨Ao18, co18, eo18⟩ := Kd.R_slice HO498.out; subst eo18) | (go_at_call 48; (clear tk2_); (with_reducible refine (tally_Of.calls (t491.length : Int) _ _ t496 t499 t500 _ ?side1 ?side2 A13.out).mono ?_); (case side1 => repeat (first | exact (Kd.R_reads' HO498.out).2.2 | (with_reducible refine Kd.C_alloc ?_ _) | (with_reducible refine Kd.C_drewN ?_ _) | (with_reducible refine Kd.C_drew ?_))); (case side2 => exact (Kd.R_reads' HO498.out).2.1); rintro e w19 ⟨v501, rfl, ho0, hb⟩; have n0_ := Aside0.mk (Kd.R_below (by (with_reducible repeat (first | apply Kd.R_alloc | apply Kd.R_drewN | apply Kd.R_drew)); exact HO494.out) hb); have n1_ := Aside0.mk (Kd.R_below (by (with_reducible repeat (first | apply Kd.R_alloc | apply Kd.R_drewN | apply Kd.R_drew)); exact HO498.out) hb); have n2_ := Aside0.mk (Kd.R_lower ho0 (below_size (by repeat (first | (with_reducible first | exact HB.out | apply below_alloc | apply pw_below_drewN | apply below_drew1) | exact HB.out)))); have n3_ := Aside0.mk (below_step (by repeat (first | (with_reducible first | exact HB.out | apply below_alloc | apply pw_below_drewN | apply below_drew1) | exact HB.out)) hb); clear HO494; clear HO498; clear HB; have HO494 := n0_; have HO498 := n1_; have HO502 := n2_; have HB := n3_; clear n0_ n1_ n2_ n3_; (try clear hb); (try clear hb2); (try clear hk); (try clear hi); (try clear ho0)) | (go_at_call 51; (clear tk3_); (with_reducible refine (tally_Chart.calls kj3 _ _ t496 (wrap64 (1 + (Go.bits .and .i64 a2 31))) 81 t503 _ ?side1 ?side2 A14.out).mono ?_); (case side1 => repeat (first | exact (Kd.R_reads' HO498.out).2.2 | (with_reducible refine Kd.C_alloc ?_ _) | (with_reducible refine Kd.C_drewN ?_ _) | (with_reducible refine Kd.C_drew ?_))); (case side2 => exact (Kd.R_reads' HO498.out).2.1); rintro e w20 ⟨v504, rfl, ho0, hb⟩; have n0_ := Aside0.mk (Kd.R_below (by (with_reducible repeat (first | apply Kd.R_alloc | apply Kd.R_drewN | apply Kd.R_drew)); exact HO494.out) hb); have n1_ := Aside0.mk (Kd.R_below (by (with_reducible repeat (first | apply Kd.R_alloc | apply Kd.R_drewN | apply Kd.R_drew)); exact HO498.out) hb); have n2_ := Aside0.mk (Kd.R_below (by (with_reducible repeat (first | apply Kd.R_alloc | apply Kd.R_drewN | apply Kd.R_drew)); exact HO502.out) hb); have n3_ := Aside0.mk (Kd.R_lower ho0 (below_size (by repeat (first | (with_reducible first | exact HB.out | apply below_alloc | apply pw_below_drewN | apply below_drew1) | exact HB.out)))); have n4_ := Aside0.mk (below_step (by repeat (first | (with_reducible first | exact HB.out | apply below_alloc | apply pw_below_drewN | apply below_drew1) | exact HB.out)) hb); clear HO494; clear HO498; clear HO502; clear HB; have HO494 := n0_; have HO498 := n1_; have HO502 := n2_; have HO505 := n3_; have HB := n4_; clear n0_ n1_ n2_ n3_ n4_; (try clear hb); (try clear hb2); (try clear hk); (try clear hi); (try clear ho0))); try go_wp2_with (first | (go_at_call 57; (clear tk4_); (with_reducible refine (juratref10_New.calls kj3 _ _ l0 t491 t492 _ ?side1 ?side2 A10.out).mono ?_); (case side1 => repeat (first | exact (Kd.C_below HR0.out HB.out) | (with_reducible refine Kd.C_alloc ?_ _) | (with_reducible refine Kd.C_drewN ?_ _) | (with_reducible refine Kd.C_drew ?_))); (case side2 => exact HC0.out); rintro e w15 ⟨v493, rfl, ho0, hb⟩; have n0_ := Aside0.mk (Kd.R_lower ho0 (below_size (by repeat (first | (with_reducible first | exact HB.out | apply below_alloc | apply pw_below_drewN | apply below_drew1) | exact HB.out)))); have n1_ := Aside0.mk (below_step (by repeat (first | (with_reducible first | exact HB.out | apply below_alloc | apply pw_below_drewN | apply below_drew1) | exact HB.out)) hb); clear HB; have HO494 := n0_; have HB := n1_; clear n0_ n1_; (try clear hb); (try clear hb2); (try clear hk); (try clear hi); (try clear ho0); obtain ⟨Ao16, co16, eo16⟩ := Kd.R_slice HO494.out; subst eo16) | (go_at_call 58; (clear tk5_); (with_reducible refine (juratref15_All.calls kj3 _ _ t491 a1 t496 _ ?side1 ?side2 A12.out).mono ?_); (case side1 => repeat (first | exact (Kd.R_reads' HO494.out).2.2 | (with_reducible refine Kd.C_alloc ?_ _) | (with_reducible refine Kd.C_drewN ?_ _) | (with_reducible refine Kd.C_drew ?_))); (case side2 => exact (Kd.R_reads' HO494.out).2.1); rintro e w17 ⟨v497, rfl, ho0, hb⟩; have n0_ := Aside0.mk (Kd.R_below (by (with_reducible repeat (first | apply Kd.R_alloc | apply Kd.R_drewN | apply Kd.R_drew)); exact HO494.out) hb); have n1_ := Aside0.mk (Kd.R_lower ho0 (below_size (by repeat (first | (with_reducible first | exact HB.out | apply below_alloc | apply pw_below_drewN | apply below_drew1) | exact HB.out)))); have n2_ := Aside0.mk (below_step (by repeat (first | (with_reducible first | exact HB.out | apply below_alloc | apply pw_below_drewN | apply below_drew1) | exact HB.out)) hb); clear HO494; clear HB; have HO494 := n0_; have HO498 := n1_; have HB := n2_; clear n0_ n1_ n2_; (try clear hb); (try clear hb2); (try clear hk); (try clear hi); (try clear ho0); obtain ⟨Ao18, co18, eo18⟩ := Kd.R_slice HO498.out; subst eo18) | (go_at_call 48; (clear tk6_); (with_reducible refine (tally_Of.calls (t491.length : Int) _ _ t496 t499 t500 _ ?side1 ?side2 A13.out).mono ?_); (case side1 => repeat (first | exact (Kd.R_reads' HO498.out).2.2 | (with_reducible refine Kd.C_alloc ?_ _) | (with_reducible refine Kd.C_drewN ?_ _) | (with_reducible refine Kd.C_drew ?_))); (case side2 => exact (Kd.R_reads' HO498.out).2.1); rintro e w19 ⟨v501, rfl, ho0, hb⟩; have n0_ := Aside0.mk (Kd.R_below (by (with_reducible repeat (first | apply Kd.R_alloc | apply Kd.R_drewN | apply Kd.R_drew)); exact HO494.out) hb); have n1_ := Aside0.mk (Kd.R_below (by (with_reducible repeat (first | apply Kd.R_alloc | apply Kd.R_drewN | apply Kd.R_drew)); exact HO498.out) hb); have n2_ := Aside0.mk (Kd.R_lower ho0 (below_size (by repeat (first | (with_reducible first | exact HB.out | apply below_alloc | apply pw_below_drewN | apply below_drew1) | exact HB.out)))); have n3_ := Aside0.mk (below_step (by repeat (first | (with_reducible first | exact HB.out | apply below_alloc | apply pw_below_drewN | apply below_drew1) | exact HB.out)) hb); clear HO494; clear HO498; clear HB; have HO494 := n0_; have HO498 := n1_; have HO502 := n2_; have HB := n3_; clear n0_ n1_ n2_ n3_; (try clear hb); (try clear hb2); (try clear hk); (try clear hi); (try clear ho0)) | (go_at_call 51; (clear tk7_); (with_reducible refine (tally_Chart.calls kj3 _ _ t496 (wrap64 (1 + (Go.bits .and .i64 a2 31))) 81 t503 _ ?side1 ?side2 A14.out).mono ?_); (case side1 => repeat (first | exact (Kd.R_reads' HO498.out).2.2 | (with_reducible refine Kd.C_alloc ?_ _) | (with_reducible refine Kd.C_drewN ?_ _) | (with_reducible refine Kd.C_drew ?_))); (case side2 => exact (Kd.R_reads' HO498.out).2.1); rintro e w20 ⟨v504, rfl, ho0, hb⟩; have n0_ := Aside0.mk (Kd.R_below (by (with_reducible repeat (first | apply Kd.R_alloc | apply Kd.R_drewN | apply Kd.R_drew)); exact HO494.out) hb); have n1_ := Aside0.mk (Kd.R_below (by (with_reducible repeat (first | apply Kd.R_alloc | apply Kd.R_drewN | apply Kd.R_drew)); exact HO498.out) hb); have n2_ := Aside0.mk (Kd.R_below (by (with_reducible repeat (first | apply Kd.R_alloc | apply Kd.R_drewN | apply Kd.R_drew)); exact HO502.out) hb); have n3_ := Aside0.mk (Kd.R_lower ho0 (below_size (by repeat (first | (with_reducible first | exact HB.out | apply below_alloc | apply pw_below_drewN | apply below_drew1) | exact HB.out)))); have n4_ := Aside0.mk (below_step (by repeat (first | (with_reducible first | exact HB.out | apply below_alloc | apply pw_below_drewN | apply below_drew1) | exact HB.out)) hb); clear HO494; clear HO498; clear HO502; clear HB; have HO494 := n0_; have HO498 := n1_; have HO502 := n2_; have HO505 := n3_; have HB := n4_; clear n0_ n1_ n2_ n3_ n4_; (try clear hb); (try clear hb2); (try clear hk); (try clear hi); (try clear ho0))))
          go_loopg [13, 15] kj3 (fun kq v13 v15 w' => ∃ (x13_2 : Int) (x15_2 : Int), v13 = .int .i64 x13_2 ∧ v15 = .int .i64 x15_2 ∧ Aside0 (juratlaw47_TallyAll.l0 kq a1 t491 t496 t499 t500 t503 x13_2 0 x15_2 = some r) ∧ Aside0 (kq ≤ kj3) ∧ Aside0 (Kd.R Kd.string 9 w' w.heap.size (fun _ => True) (.slice Ao16 t491.length co16) t491) ∧ Aside0 (Kd.R k64 64 w' w.heap.size (fun _ => True) (.slice Ao18 t496.length co18) t496) ∧ Aside0 (Kd.R k72 72 w' w.heap.size (fun _ => True) v501 t499) ∧ Aside0 (Kd.R (Kd.int .i64) 3 w' w.heap.size (fun _ => True) v504 t503) ∧ Aside0 (Below w.heap.size w w'))
          case atStart => exact ⟨(0), (0), (by first | rfl | exact isE_ _ | exact isE2_ _ | (simp; done) | (simp [*]; done)), (by first | rfl | exact isE_ _ | exact isE2_ _ | (simp; done) | (simp [*]; done)), H', ⟨Nat.le_refl _⟩, ⟨by (with_reducible repeat (first | apply Kd.R_alloc | apply Kd.R_drewN | apply Kd.R_drew)); exact HO494.out⟩, ⟨by (with_reducible repeat (first | apply Kd.R_alloc | apply Kd.R_drewN | apply Kd.R_drew)); exact HO498.out⟩, ⟨by (with_reducible repeat (first | apply Kd.R_alloc | apply Kd.R_drewN | apply Kd.R_drew)); exact HO502.out⟩, ⟨by (with_reducible repeat (first | apply Kd.R_alloc | apply Kd.R_drewN | apply Kd.R_drew)); exact HO505.out⟩, ⟨by repeat (first | (with_reducible first | exact HB.out | apply below_alloc | apply pw_below_drewN | apply below_drew1) | exact HB.out)⟩⟩
          case round =>
            clear H'
            try clear c1
            try clear p2
            try clear c6
            try clear p6
            try clear c7
            try clear c11
            try clear c11b0
            try clear c11b1
            try clear p2
            obtain ⟨x13_2, x15_2, rfl, rfl, HA, HK2, HO_7, HO_9, HO_10, HO_12, HB⟩ := hrel
            cases gk with
            | zero => exact absurd HA.out (by simp [juratlaw47_TallyAll.l0])
            | succ k2 =>
              have H := HA.out
              clear HA
              simp only [juratlaw47_TallyAll.l0] at H
              by_cases c21 : x15_2 < (t499.length : Int)
              · rw [if_pos c21] at H
                have c21b0 : decide (x15_2 < (t499.length : Int)) = true := decide_eq_true c21
                clear c21
                by_cases c22 : 0 ≤ x15_2
                · rw [if_pos c22] at H
                  have c22b0 : decide (0 ≤ x15_2) = true := decide_eq_true c22
                  clear c22
                  by_cases c23 : x15_2 < (t491.length : Int)
                  · rw [if_pos c23] at H
                    have c23b0 : decide (x15_2 < (t491.length : Int)) = true := decide_eq_true c23
                    clear c23
                    replace H := Option.bind_eq_some_iff.mp H
                    obtain ⟨t509, A240, H⟩ := H
                    replace H : (if ((rd_T72 t499 x15_2).f0) = t509 then (juratlaw47_TallyAll.l0 k2 a1 t491 t496 t499 t500 t503 (wrap64 (x13_2 + ((rd_T72 t499 x15_2).f0))) 0 (wrap64 (x15_2 + 1))) else (some false)) = some r := H
                    have A24 := Aside0.mk A240
                    clear A240
                    by_cases c25 : ((rd_T72 t499 x15_2).f0) = t509
                    · rw [if_pos c25] at H
                      have c25b0 : (((rd_T72 t499 x15_2).f0) == t509) = true := beq_iff_eq.mpr c25
                      have c25b1 : (((rd_T72 t499 x15_2).f0) != t509) = false := bne_eq_false_iff_eq.mpr c25
                      clear c25
                      have H' := Aside0.mk H
                      clear H
                      obtain ⟨Ao26, co26, eo26⟩ := Kd.R_slice HO_10.out
                      subst eo26
                      have p506 : 0 ≤ (x15_2 : Int) := of_decide_eq_true (by first | (with_reducible assumption) | assumption)
                      have q506 : x15_2 < (t499.length : Int) := of_decide_eq_true (by first | (with_reducible assumption) | assumption)
                      obtain ⟨ad506, e506, hx506_0, hx506_1, hx506_2, hx506_3⟩ := at_T72 (Kd.R_reads' HO_10.out).2.2 x15_2 p506 q506
                      cases e506
                      replace p506 := eq_true p506
                      replace q506 := eq_true q506
                      have p507 : 0 ≤ (x15_2 : Int) := of_decide_eq_true (by first | (with_reducible assumption) | assumption)
                      have q507 : x15_2 < (t499.length : Int) := of_decide_eq_true (by first | (with_reducible assumption) | assumption)
                      obtain ⟨ad507, e507, hx507_0, hx507_1, hx507_2, hx507_3⟩ := at_T72 (Kd.R_reads' HO_10.out).2.2 x15_2 p507 q507
                      obtain rfl : ad506 = ad507 := (by injection e507)
                      replace p507 := eq_true p507
                      replace q507 := eq_true q507
                      have p508 : 0 ≤ (x15_2 : Int) := of_decide_eq_true (by first | (with_reducible assumption) | assumption)
                      have q508 : x15_2 < (t491.length : Int) := of_decide_eq_true (by first | (with_reducible assumption) | assumption)
                      obtain ⟨ad508, e508, hx508_0⟩ := Kd.at_string (Kd.R_reads' HO_7.out).2.2 x15_2 p508 q508
                      cases e508
                      replace p508 := eq_true p508
                      replace q508 := eq_true q508
                      go_wp2_with (first | (go_at_call 59; (with_reducible refine (juratref15_Count.calls k2 (rdOf ByteArray.empty t491 x15_2) a1 t509 _ A24.out).mono ?_); rintro e w' ⟨rfl, ⟨nd, rfl⟩⟩; (try first | exact ⟨rfl, _, World.drewN_drewN _ _ _⟩ | exact ⟨rfl, _, Eq.trans (World.drewN_drewN _ _ _) (congrArg (World.drewN _) (Nat.add_assoc _ _ _))⟩)))
                      repeat (go_quiet (first | (go_at_call 59; (with_reducible refine (juratref15_Count.calls k2 (rdOf ByteArray.empty t491 x15_2) a1 t509 _ A24.out).mono ?_); rintro e w' ⟨rfl, ⟨nd, rfl⟩⟩; (try first | exact ⟨rfl, _, World.drewN_drewN _ _ _⟩ | exact ⟨rfl, _, Eq.trans (World.drewN_drewN _ _ _) (congrArg (World.drewN _) (Nat.add_assoc _ _ _))⟩))); try go_wp2_with (first | (go_at_call 59; (with_reducible refine (juratref15_Count.calls k2 (rdOf ByteArray.empty t491 x15_2) a1 t509 _ A24.out).mono ?_); rintro e w' ⟨rfl, ⟨nd, rfl⟩⟩; (try first | exact ⟨rfl, _, World.drewN_drewN _ _ _⟩ | exact ⟨rfl, _, Eq.trans (World.drewN_drewN _ _ _) (congrArg (World.drewN _) (Nat.add_assoc _ _ _))⟩))))
                      go_roundg k2
                      case measure => have := HJ3.out; have := HK2.out; omega
                      case rel => exact ⟨(wrap64 (x13_2 + ((rd_T72 t499 x15_2).f0))), (wrap64 (x15_2 + 1)), (by first | rfl | exact isE_ _ | exact isE2_ _ | (simp; done) | (simp [*]; done)), (by first | rfl | exact isE_ _ | exact isE2_ _ | (simp; done) | (simp [*]; done)), H', ⟨by have := HJ3.out; have := HK2.out; omega⟩, ⟨by (with_reducible repeat (first | apply Kd.R_alloc | apply Kd.R_drewN | apply Kd.R_drew)); exact HO_7.out⟩, ⟨by (with_reducible repeat (first | apply Kd.R_alloc | apply Kd.R_drewN | apply Kd.R_drew)); exact HO_9.out⟩, ⟨by (with_reducible repeat (first | apply Kd.R_alloc | apply Kd.R_drewN | apply Kd.R_drew)); exact HO_10.out⟩, ⟨by (with_reducible repeat (first | apply Kd.R_alloc | apply Kd.R_drewN | apply Kd.R_drew)); exact HO_12.out⟩, ⟨by repeat (first | (with_reducible first | exact HB.out | apply below_alloc | apply pw_below_drewN | apply below_drew1) | exact HB.out)⟩⟩
                    · rw [if_neg c25] at H
                      have c25b0 : (((rd_T72 t499 x15_2).f0) == t509) = false := beq_eq_false_iff_ne.mpr c25
                      have c25b1 : (((rd_T72 t499 x15_2).f0) != t509) = true := bne_iff_ne.mpr c25
                      obtain rfl := Option.some.inj H
                      obtain ⟨Ao27, co27, eo27⟩ := Kd.R_slice HO_10.out
                      subst eo27
                      have p506 : 0 ≤ (x15_2 : Int) := of_decide_eq_true (by first | (with_reducible assumption) | assumption)
                      have q506 : x15_2 < (t499.length : Int) := of_decide_eq_true (by first | (with_reducible assumption) | assumption)
                      obtain ⟨ad506, e506, hx506_0, hx506_1, hx506_2, hx506_3⟩ := at_T72 (Kd.R_reads' HO_10.out).2.2 x15_2 p506 q506
                      cases e506
                      replace p506 := eq_true p506
                      replace q506 := eq_true q506
                      have p507 : 0 ≤ (x15_2 : Int) := of_decide_eq_true (by first | (with_reducible assumption) | assumption)
                      have q507 : x15_2 < (t499.length : Int) := of_decide_eq_true (by first | (with_reducible assumption) | assumption)
                      obtain ⟨ad507, e507, hx507_0, hx507_1, hx507_2, hx507_3⟩ := at_T72 (Kd.R_reads' HO_10.out).2.2 x15_2 p507 q507
                      obtain rfl : ad506 = ad507 := (by injection e507)
                      replace p507 := eq_true p507
                      replace q507 := eq_true q507
                      have p508 : 0 ≤ (x15_2 : Int) := of_decide_eq_true (by first | (with_reducible assumption) | assumption)
                      have q508 : x15_2 < (t491.length : Int) := of_decide_eq_true (by first | (with_reducible assumption) | assumption)
                      obtain ⟨ad508, e508, hx508_0⟩ := Kd.at_string (Kd.R_reads' HO_7.out).2.2 x15_2 p508 q508
                      cases e508
                      replace p508 := eq_true p508
                      replace q508 := eq_true q508
                      go_wp2_with (first | (go_at_call 59; (with_reducible refine (juratref15_Count.calls k2 (rdOf ByteArray.empty t491 x15_2) a1 t509 _ A24.out).mono ?_); rintro e w' ⟨rfl, ⟨nd, rfl⟩⟩; (try first | exact ⟨rfl, _, World.drewN_drewN _ _ _⟩ | exact ⟨rfl, _, Eq.trans (World.drewN_drewN _ _ _) (congrArg (World.drewN _) (Nat.add_assoc _ _ _))⟩)))
                      repeat (go_quiet (first | (go_at_call 59; (with_reducible refine (juratref15_Count.calls k2 (rdOf ByteArray.empty t491 x15_2) a1 t509 _ A24.out).mono ?_); rintro e w' ⟨rfl, ⟨nd, rfl⟩⟩; (try first | exact ⟨rfl, _, World.drewN_drewN _ _ _⟩ | exact ⟨rfl, _, Eq.trans (World.drewN_drewN _ _ _) (congrArg (World.drewN _) (Nat.add_assoc _ _ _))⟩))); try go_wp2_with (first | (go_at_call 59; (with_reducible refine (juratref15_Count.calls k2 (rdOf ByteArray.empty t491 x15_2) a1 t509 _ A24.out).mono ?_); rintro e w' ⟨rfl, ⟨nd, rfl⟩⟩; (try first | exact ⟨rfl, _, World.drewN_drewN _ _ _⟩ | exact ⟨rfl, _, Eq.trans (World.drewN_drewN _ _ _) (congrArg (World.drewN _) (Nat.add_assoc _ _ _))⟩))))
                      go_ret
                      exact ⟨by first | rfl | (simp [errW_none, errW_some] <;> rfl) | (simp [*, errW_none, errW_some] <;> rfl), by repeat (first | (with_reducible first | exact HB.out | apply below_alloc | apply pw_below_drewN | apply below_drew1) | exact HB.out)⟩
                  · rw [if_neg c23] at H
                    exact absurd H (by simp)
                · rw [if_neg c22] at H
                  exact absurd H (by simp)
              · rw [if_neg c21] at H
                have c21b0 : decide (x15_2 < (t499.length : Int)) = false := decide_eq_false c21
                clear c21
                have H' := Aside0.mk H
                clear H
                obtain ⟨Ao28, co28, eo28⟩ := Kd.R_slice HO_10.out
                subst eo28
                go_wp2
                repeat (go_quiet (fail); try go_wp2)
                go_loopg [14, 16] k2 (fun kq v14 v16 w' => ∃ (x14_3 : Int) (x16_3 : Int), v14 = .int .i64 x14_3 ∧ v16 = .int .i64 x16_3 ∧ Aside0 (juratlaw47_TallyAll.l1 kq t496 t500 t503 x13_2 x14_3 x16_3 = some r) ∧ Aside0 (kq ≤ k2) ∧ Aside0 (Kd.R k64 64 w' w.heap.size (fun _ => True) (.slice Ao18 t496.length co18) t496) ∧ Aside0 (Kd.R (Kd.int .i64) 3 w' w.heap.size (fun _ => True) v504 t503) ∧ Aside0 (Below w.heap.size w w'))
                case atStart => exact ⟨(0), (0), (by first | rfl | exact isE_ _ | exact isE2_ _ | (simp; done) | (simp [*]; done)), (by first | rfl | exact isE_ _ | exact isE2_ _ | (simp; done) | (simp [*]; done)), H', ⟨Nat.le_refl _⟩, ⟨by (with_reducible repeat (first | apply Kd.R_alloc | apply Kd.R_drewN | apply Kd.R_drew)); exact HO_9.out⟩, ⟨by (with_reducible repeat (first | apply Kd.R_alloc | apply Kd.R_drewN | apply Kd.R_drew)); exact HO_12.out⟩, ⟨by repeat (first | (with_reducible first | exact HB.out | apply below_alloc | apply pw_below_drewN | apply below_drew1) | exact HB.out)⟩⟩
                case round =>
                  clear H'
                  try clear c1
                  try clear c2
                  try clear p2
                  try clear p5
                  try clear q5
                  try clear hx5
                  try clear c6
                  try clear p6
                  try clear c7
                  try clear c11
                  try clear c11b0
                  try clear c11b1
                  try clear c21
                  try clear c21b0
                  try clear c22
                  try clear c22b0
                  try clear c23
                  try clear c23b0
                  try clear c25
                  try clear c25b0
                  try clear c25b1
                  try clear hx506_0
                  try clear hx506_1
                  try clear hx506_2
                  try clear hx506_3
                  try clear hx507_0
                  try clear hx507_1
                  try clear hx507_2
                  try clear hx507_3
                  try clear hx508_0
                  try clear p2
                  try clear p506
                  try clear p507
                  try clear p508
                  try clear p6
                  try clear q506
                  try clear q507
                  try clear q508
                  obtain ⟨x14_3, x16_3, rfl, rfl, HA, HK3, HO_9, HO_12, HB⟩ := hrel
                  cases gk with
                  | zero => exact absurd HA.out (by simp [juratlaw47_TallyAll.l1])
                  | succ k3 =>
                    have H := HA.out
                    clear HA
                    simp only [juratlaw47_TallyAll.l1] at H
                    by_cases c29 : x16_3 < (t503.length : Int)
                    · rw [if_pos c29] at H
                      have c29b0 : decide (x16_3 < (t503.length : Int)) = true := decide_eq_true c29
                      clear c29
                      by_cases c30 : 0 ≤ x16_3
                      · rw [if_pos c30] at H
                        have c30b0 : decide (0 ≤ x16_3) = true := decide_eq_true c30
                        clear c30
                        have H' := Aside0.mk H
                        clear H
                        obtain ⟨Ao31, co31, eo31⟩ := Kd.R_slice HO_12.out
                        subst eo31
                        have p510 : 0 ≤ (x16_3 : Int) := of_decide_eq_true (by first | (with_reducible assumption) | assumption)
                        have q510 : x16_3 < (t503.length : Int) := of_decide_eq_true (by first | (with_reducible assumption) | assumption)
                        obtain ⟨ad510, e510, hx510_0⟩ := Kd.at_int (Kd.R_reads' HO_12.out).2.2 x16_3 p510 q510
                        cases e510
                        replace p510 := eq_true p510
                        replace q510 := eq_true q510
                        go_wp2
                        repeat (go_quiet (fail); try go_wp2)
                        go_roundg k3
                        case measure => have := HJ3.out; have := HK2.out; have := HK3.out; omega
                        case rel => exact ⟨(wrap64 (x14_3 + (rd t503 x16_3))), (wrap64 (x16_3 + 1)), (by first | rfl | exact isE_ _ | exact isE2_ _ | (simp; done) | (simp [*]; done)), (by first | rfl | exact isE_ _ | exact isE2_ _ | (simp; done) | (simp [*]; done)), H', ⟨by have := HJ3.out; have := HK2.out; have := HK3.out; omega⟩, ⟨by (with_reducible repeat (first | apply Kd.R_alloc | apply Kd.R_drewN | apply Kd.R_drew)); exact HO_9.out⟩, ⟨by (with_reducible repeat (first | apply Kd.R_alloc | apply Kd.R_drewN | apply Kd.R_drew)); exact HO_12.out⟩, ⟨by repeat (first | (with_reducible first | exact HB.out | apply below_alloc | apply pw_below_drewN | apply below_drew1) | exact HB.out)⟩⟩
                      · rw [if_neg c30] at H
                        exact absurd H (by simp)
                    · rw [if_neg c29] at H
                      have c29b0 : decide (x16_3 < (t503.length : Int)) = false := decide_eq_false c29
                      clear c29
                      replace H := Option.bind_eq_some_iff.mp H
                      obtain ⟨⟨t511, t512⟩, A320, H⟩ := H
                      replace H : (if (t496.length : Int) > 0 then (if 0 < (t496.length : Int) then (if t500 = 0 then (if x13_2 = (t496.length : Int) then (if x14_3 = (t496.length : Int) then (if t512 = (t496.length : Int) then (if t511 = ((rd_T64 t496 0).f0) then ((juratlaw47_awake.f k3).bind fun t514 => (some t514)) else (some false)) else (some false)) else (some false)) else (some false)) else (some false)) else (none)) else (if t500 = 0 then (if x13_2 = (t496.length : Int) then (if x14_3 = (t496.length : Int) then (if t512 = (t496.length : Int) then (if t511 = 0 then ((juratlaw47_awake.f k3).bind fun t515 => (some t515)) else (some false)) else (some false)) else (some false)) else (some false)) else (some false))) = some r := H
                      have A32 := Aside0.mk A320
                      clear A320
                      by_cases c33 : (t496.length : Int) > 0
                      · rw [if_pos c33] at H
                        have c33b0 : decide (0 < (t496.length : Int)) = true := decide_eq_true c33
                        have c33b1 : decide (0 < t496.length) = true := decide_eq_true (by omega)
                        clear c33
                        by_cases c34 : 0 < (t496.length : Int)
                        · rw [if_pos c34] at H
                          have c34b0 : decide (0 < (t496.length : Int)) = true := decide_eq_true c34
                          have c34b1 : decide (0 < t496.length) = true := decide_eq_true (by omega)
                          clear c34
                          by_cases c35 : t500 = 0
                          · rw [if_pos c35] at H
                            have c35b0 : (t500 == 0) = true := beq_iff_eq.mpr c35
                            have c35b1 : (t500 != 0) = false := bne_eq_false_iff_eq.mpr c35
                            clear c35
                            by_cases c36 : x13_2 = (t496.length : Int)
                            · rw [if_pos c36] at H
                              have c36b0 : (x13_2 == (t496.length : Int)) = true := beq_iff_eq.mpr c36
                              have c36b1 : (x13_2 != (t496.length : Int)) = false := bne_eq_false_iff_eq.mpr c36
                              clear c36
                              by_cases c37 : x14_3 = (t496.length : Int)
                              · rw [if_pos c37] at H
                                have c37b0 : (x14_3 == (t496.length : Int)) = true := beq_iff_eq.mpr c37
                                have c37b1 : (x14_3 != (t496.length : Int)) = false := bne_eq_false_iff_eq.mpr c37
                                clear c37
                                by_cases c38 : t512 = (t496.length : Int)
                                · rw [if_pos c38] at H
                                  have c38b0 : (t512 == (t496.length : Int)) = true := beq_iff_eq.mpr c38
                                  have c38b1 : (t512 != (t496.length : Int)) = false := bne_eq_false_iff_eq.mpr c38
                                  clear c38
                                  by_cases c39 : t511 = ((rd_T64 t496 0).f0)
                                  · rw [if_pos c39] at H
                                    have c39b0 : (t511 == ((rd_T64 t496 0).f0)) = true := beq_iff_eq.mpr c39
                                    have c39b1 : (t511 != ((rd_T64 t496 0).f0)) = false := bne_eq_false_iff_eq.mpr c39
                                    clear c39
                                    replace H := Option.bind_eq_some_iff.mp H
                                    obtain ⟨t514, A400, H⟩ := H
                                    replace H : (some t514) = some r := H
                                    have A40 := Aside0.mk A400
                                    clear A400
                                    obtain rfl := Option.some.inj H
                                    obtain ⟨Ao41, co41, eo41⟩ := Kd.R_slice HO_12.out
                                    subst eo41
                                    go_wp2_with (first | (go_at_call 54; (with_reducible refine (tally_Busy.calls k3 _ _ t496 4611686018427387904 t511 t512 _ ?side1 ?side2 A32.out).mono ?_); (case side1 => repeat (first | exact (Kd.R_reads' HO_9.out).2.2 | (with_reducible refine Kd.C_alloc ?_ _) | (with_reducible refine Kd.C_drewN ?_ _) | (with_reducible refine Kd.C_drew ?_))); (case side2 => exact (Kd.R_reads' HO_9.out).2.1); rintro e w' ⟨rfl, ⟨nd, rfl⟩⟩; (try first | exact ⟨rfl, _, World.drewN_drewN _ _ _⟩ | exact ⟨rfl, _, Eq.trans (World.drewN_drewN _ _ _) (congrArg (World.drewN _) (Nat.add_assoc _ _ _))⟩); have p513 : 0 ≤ (0 : Int) := (by omega); have q513 : 0 < (t496.length : Int) := of_decide_eq_true (by first | (with_reducible assumption) | assumption); obtain ⟨ad513, e513, hx513_0, hx513_1⟩ := at_T64 (Kd.R_reads' HO_9.out).2.2 0 p513 q513; cases e513; (try simp only [Int.toNat_natCast] at hx513_0); have qi513 : (0 < t496.length) = True := eq_true (by omega); (try rw [show ((0 : Int)).toNat = 0 from rfl] at hx513_0); (try rw [show 0 * 2 = 0 from rfl] at hx513_0); (try rw [Addr.add_zero'] at hx513_0); (try rw [show ((0 : Int)).toNat = 0 from rfl] at hx513_1); (try rw [show 0 * 2 = 0 from rfl] at hx513_1); (try rw [Addr.add_zero'] at hx513_1); replace p513 := eq_true p513; replace q513 := eq_true q513) | (go_at_call 47; (with_reducible refine (juratlaw47_awake.calls k3  t514 _ A40.out).mono ?_); rintro e w42 ⟨rfl, hb⟩; have n0_ := Aside0.mk (Kd.R_below (by (with_reducible repeat (first | apply Kd.R_alloc | apply Kd.R_drewN | apply Kd.R_drew)); exact HO_9.out) hb); have n1_ := Aside0.mk (Kd.R_below (by (with_reducible repeat (first | apply Kd.R_alloc | apply Kd.R_drewN | apply Kd.R_drew)); exact HO_12.out) hb); have n2_ := Aside0.mk (below_step (by repeat (first | (with_reducible first | exact HB.out | apply below_alloc | apply pw_below_drewN | apply below_drew1) | exact HB.out)) hb); clear HO_9; clear HO_12; clear HB; have HO_9 := n0_; have HO_12 := n1_; have HB := n2_; clear n0_ n1_ n2_; (try clear hb); (try clear hb2); (try clear hk); (try clear hi)))
                                    have tk0_ : True := trivial
                                    have tk1_ : True := trivial
                                    repeat (go_quiet (first | (go_at_call 54; (clear tk0_); (with_reducible refine (tally_Busy.calls k3 _ _ t496 4611686018427387904 t511 t512 _ ?side1 ?side2 A32.out).mono ?_); (case side1 => repeat (first | exact (Kd.R_reads' HO_9.out).2.2 | (with_reducible refine Kd.C_alloc ?_ _) | (with_reducible refine Kd.C_drewN ?_ _) | (with_reducible refine Kd.C_drew ?_))); (case side2 => exact (Kd.R_reads' HO_9.out).2.1); rintro e w' ⟨rfl, ⟨nd, rfl⟩⟩; (try first | exact ⟨rfl, _, World.drewN_drewN _ _ _⟩ | exact ⟨rfl, _, Eq.trans (World.drewN_drewN _ _ _) (congrArg (World.drewN _) (Nat.add_assoc _ _ _))⟩); have p513 : 0 ≤ (0 : Int) := (by omega); have q513 : 0 < (t496.length : Int) := of_decide_eq_true (by first | (with_reducible assumption) | assumption); obtain ⟨ad513, e513, hx513_0, hx513_1⟩ := at_T64 (Kd.R_reads' HO_9.out).2.2 0 p513 q513; cases e513; (try simp only [Int.toNat_natCast] at hx513_0); have qi513 : (0 < t496.length) = True := eq_true (by omega); (try rw [show ((0 : Int)).toNat = 0 from rfl] at hx513_0); (try rw [show 0 * 2 = 0 from rfl] at hx513_0); (try rw [Addr.add_zero'] at hx513_0); (try rw [show ((0 : Int)).toNat = 0 from rfl] at hx513_1); (try rw [show 0 * 2 = 0 from rfl] at hx513_1); (try rw [Addr.add_zero'] at hx513_1); replace p513 := eq_true p513; replace q513 := eq_true q513) | (go_at_call 47; (with_reducible refine (juratlaw47_awake.calls k3  t514 _ A40.out).mono ?_); rintro e w42 ⟨rfl, hb⟩; have n0_ := Aside0.mk (Kd.R_below (by (with_reducible repeat (first | apply Kd.R_alloc | apply Kd.R_drewN | apply Kd.R_drew)); exact HO_9.out) hb); have n1_ := Aside0.mk (Kd.R_below (by (with_reducible repeat (first | apply Kd.R_alloc | apply Kd.R_drewN | apply Kd.R_drew)); exact HO_12.out) hb); have n2_ := Aside0.mk (below_step (by repeat (first | (with_reducible first | exact HB.out | apply below_alloc | apply pw_below_drewN | apply below_drew1) | exact HB.out)) hb); clear HO_9; clear HO_12; clear HB; have HO_9 := n0_; have HO_12 := n1_; have HB := n2_; clear n0_ n1_ n2_; (try clear hb); (try clear hb2); (try clear hk); (try clear hi))); try go_wp2_with (first | (go_at_call 54; (clear tk1_); (with_reducible refine (tally_Busy.calls k3 _ _ t496 4611686018427387904 t511 t512 _ ?side1 ?side2 A32.out).mono ?_); (case side1 => repeat (first | exact (Kd.R_reads' HO_9.out).2.2 | (with_reducible refine Kd.C_alloc ?_ _) | (with_reducible refine Kd.C_drewN ?_ _) | (with_reducible refine Kd.C_drew ?_))); (case side2 => exact (Kd.R_reads' HO_9.out).2.1); rintro e w' ⟨rfl, ⟨nd, rfl⟩⟩; (try first | exact ⟨rfl, _, World.drewN_drewN _ _ _⟩ | exact ⟨rfl, _, Eq.trans (World.drewN_drewN _ _ _) (congrArg (World.drewN _) (Nat.add_assoc _ _ _))⟩); have p513 : 0 ≤ (0 : Int) := (by omega); have q513 : 0 < (t496.length : Int) := of_decide_eq_true (by first | (with_reducible assumption) | assumption); obtain ⟨ad513, e513, hx513_0, hx513_1⟩ := at_T64 (Kd.R_reads' HO_9.out).2.2 0 p513 q513; cases e513; (try simp only [Int.toNat_natCast] at hx513_0); have qi513 : (0 < t496.length) = True := eq_true (by omega); (try rw [show ((0 : Int)).toNat = 0 from rfl] at hx513_0); (try rw [show 0 * 2 = 0 from rfl] at hx513_0); (try rw [Addr.add_zero'] at hx513_0); (try rw [show ((0 : Int)).toNat = 0 from rfl] at hx513_1); (try rw [show 0 * 2 = 0 from rfl] at hx513_1); (try rw [Addr.add_zero'] at hx513_1); replace p513 := eq_true p513; replace q513 := eq_true q513) | (go_at_call 47; (with_reducible refine (juratlaw47_awake.calls k3  t514 _ A40.out).mono ?_); rintro e w42 ⟨rfl, hb⟩; have n0_ := Aside0.mk (Kd.R_below (by (with_reducible repeat (first | apply Kd.R_alloc | apply Kd.R_drewN | apply Kd.R_drew)); exact HO_9.out) hb); have n1_ := Aside0.mk (Kd.R_below (by (with_reducible repeat (first | apply Kd.R_alloc | apply Kd.R_drewN | apply Kd.R_drew)); exact HO_12.out) hb); have n2_ := Aside0.mk (below_step (by repeat (first | (with_reducible first | exact HB.out | apply below_alloc | apply pw_below_drewN | apply below_drew1) | exact HB.out)) hb); clear HO_9; clear HO_12; clear HB; have HO_9 := n0_; have HO_12 := n1_; have HB := n2_; clear n0_ n1_ n2_; (try clear hb); (try clear hb2); (try clear hk); (try clear hi))))
                                    go_ret
                                    exact ⟨by first | rfl | (simp [errW_none, errW_some] <;> rfl) | (simp [*, errW_none, errW_some] <;> rfl), by repeat (first | (with_reducible first | exact HB.out | apply below_alloc | apply pw_below_drewN | apply below_drew1) | exact HB.out)⟩
                                  · rw [if_neg c39] at H
                                    have c39b0 : (t511 == ((rd_T64 t496 0).f0)) = false := beq_eq_false_iff_ne.mpr c39
                                    have c39b1 : (t511 != ((rd_T64 t496 0).f0)) = true := bne_iff_ne.mpr c39
                                    obtain rfl := Option.some.inj H
                                    obtain ⟨Ao43, co43, eo43⟩ := Kd.R_slice HO_12.out
                                    subst eo43
                                    go_wp2_with (first | (go_at_call 54; (with_reducible refine (tally_Busy.calls k3 _ _ t496 4611686018427387904 t511 t512 _ ?side1 ?side2 A32.out).mono ?_); (case side1 => repeat (first | exact (Kd.R_reads' HO_9.out).2.2 | (with_reducible refine Kd.C_alloc ?_ _) | (with_reducible refine Kd.C_drewN ?_ _) | (with_reducible refine Kd.C_drew ?_))); (case side2 => exact (Kd.R_reads' HO_9.out).2.1); rintro e w' ⟨rfl, ⟨nd, rfl⟩⟩; (try first | exact ⟨rfl, _, World.drewN_drewN _ _ _⟩ | exact ⟨rfl, _, Eq.trans (World.drewN_drewN _ _ _) (congrArg (World.drewN _) (Nat.add_assoc _ _ _))⟩); have p513 : 0 ≤ (0 : Int) := (by omega); have q513 : 0 < (t496.length : Int) := of_decide_eq_true (by first | (with_reducible assumption) | assumption); obtain ⟨ad513, e513, hx513_0, hx513_1⟩ := at_T64 (Kd.R_reads' HO_9.out).2.2 0 p513 q513; cases e513; (try simp only [Int.toNat_natCast] at hx513_0); have qi513 : (0 < t496.length) = True := eq_true (by omega); (try rw [show ((0 : Int)).toNat = 0 from rfl] at hx513_0); (try rw [show 0 * 2 = 0 from rfl] at hx513_0); (try rw [Addr.add_zero'] at hx513_0); (try rw [show ((0 : Int)).toNat = 0 from rfl] at hx513_1); (try rw [show 0 * 2 = 0 from rfl] at hx513_1); (try rw [Addr.add_zero'] at hx513_1); replace p513 := eq_true p513; replace q513 := eq_true q513))
                                    have tk0_ : True := trivial
                                    have tk1_ : True := trivial
                                    repeat (go_quiet (first | (go_at_call 54; (clear tk0_); (with_reducible refine (tally_Busy.calls k3 _ _ t496 4611686018427387904 t511 t512 _ ?side1 ?side2 A32.out).mono ?_); (case side1 => repeat (first | exact (Kd.R_reads' HO_9.out).2.2 | (with_reducible refine Kd.C_alloc ?_ _) | (with_reducible refine Kd.C_drewN ?_ _) | (with_reducible refine Kd.C_drew ?_))); (case side2 => exact (Kd.R_reads' HO_9.out).2.1); rintro e w' ⟨rfl, ⟨nd, rfl⟩⟩; (try first | exact ⟨rfl, _, World.drewN_drewN _ _ _⟩ | exact ⟨rfl, _, Eq.trans (World.drewN_drewN _ _ _) (congrArg (World.drewN _) (Nat.add_assoc _ _ _))⟩); have p513 : 0 ≤ (0 : Int) := (by omega); have q513 : 0 < (t496.length : Int) := of_decide_eq_true (by first | (with_reducible assumption) | assumption); obtain ⟨ad513, e513, hx513_0, hx513_1⟩ := at_T64 (Kd.R_reads' HO_9.out).2.2 0 p513 q513; cases e513; (try simp only [Int.toNat_natCast] at hx513_0); have qi513 : (0 < t496.length) = True := eq_true (by omega); (try rw [show ((0 : Int)).toNat = 0 from rfl] at hx513_0); (try rw [show 0 * 2 = 0 from rfl] at hx513_0); (try rw [Addr.add_zero'] at hx513_0); (try rw [show ((0 : Int)).toNat = 0 from rfl] at hx513_1); (try rw [show 0 * 2 = 0 from rfl] at hx513_1); (try rw [Addr.add_zero'] at hx513_1); replace p513 := eq_true p513; replace q513 := eq_true q513)); try go_wp2_with (first | (go_at_call 54; (clear tk1_); (with_reducible refine (tally_Busy.calls k3 _ _ t496 4611686018427387904 t511 t512 _ ?side1 ?side2 A32.out).mono ?_); (case side1 => repeat (first | exact (Kd.R_reads' HO_9.out).2.2 | (with_reducible refine Kd.C_alloc ?_ _) | (with_reducible refine Kd.C_drewN ?_ _) | (with_reducible refine Kd.C_drew ?_))); (case side2 => exact (Kd.R_reads' HO_9.out).2.1); rintro e w' ⟨rfl, ⟨nd, rfl⟩⟩; (try first | exact ⟨rfl, _, World.drewN_drewN _ _ _⟩ | exact ⟨rfl, _, Eq.trans (World.drewN_drewN _ _ _) (congrArg (World.drewN _) (Nat.add_assoc _ _ _))⟩); have p513 : 0 ≤ (0 : Int) := (by omega); have q513 : 0 < (t496.length : Int) := of_decide_eq_true (by first | (with_reducible assumption) | assumption); obtain ⟨ad513, e513, hx513_0, hx513_1⟩ := at_T64 (Kd.R_reads' HO_9.out).2.2 0 p513 q513; cases e513; (try simp only [Int.toNat_natCast] at hx513_0); have qi513 : (0 < t496.length) = True := eq_true (by omega); (try rw [show ((0 : Int)).toNat = 0 from rfl] at hx513_0); (try rw [show 0 * 2 = 0 from rfl] at hx513_0); (try rw [Addr.add_zero'] at hx513_0); (try rw [show ((0 : Int)).toNat = 0 from rfl] at hx513_1); (try rw [show 0 * 2 = 0 from rfl] at hx513_1); (try rw [Addr.add_zero'] at hx513_1); replace p513 := eq_true p513; replace q513 := eq_true q513)))
                                    go_ret
                                    exact ⟨by first | rfl | (simp [errW_none, errW_some] <;> rfl) | (simp [*, errW_none, errW_some] <;> rfl), by repeat (first | (with_reducible first | exact HB.out | apply below_alloc | apply pw_below_drewN | apply below_drew1) | exact HB.out)⟩
                                · rw [if_neg c38] at H
                                  have c38b0 : (t512 == (t496.length : Int)) = false := beq_eq_false_iff_ne.mpr c38
                                  have c38b1 : (t512 != (t496.length : Int)) = true := bne_iff_ne.mpr c38
                                  obtain rfl := Option.some.inj H
                                  obtain ⟨Ao44, co44, eo44⟩ := Kd.R_slice HO_12.out
                                  subst eo44
                                  go_wp2_with (first | (go_at_call 54; (with_reducible refine (tally_Busy.calls k3 _ _ t496 4611686018427387904 t511 t512 _ ?side1 ?side2 A32.out).mono ?_); (case side1 => repeat (first | exact (Kd.R_reads' HO_9.out).2.2 | (with_reducible refine Kd.C_alloc ?_ _) | (with_reducible refine Kd.C_drewN ?_ _) | (with_reducible refine Kd.C_drew ?_))); (case side2 => exact (Kd.R_reads' HO_9.out).2.1); rintro e w' ⟨rfl, ⟨nd, rfl⟩⟩; (try first | exact ⟨rfl, _, World.drewN_drewN _ _ _⟩ | exact ⟨rfl, _, Eq.trans (World.drewN_drewN _ _ _) (congrArg (World.drewN _) (Nat.add_assoc _ _ _))⟩); have p513 : 0 ≤ (0 : Int) := (by omega); have q513 : 0 < (t496.length : Int) := of_decide_eq_true (by first | (with_reducible assumption) | assumption); obtain ⟨ad513, e513, hx513_0, hx513_1⟩ := at_T64 (Kd.R_reads' HO_9.out).2.2 0 p513 q513; cases e513; (try simp only [Int.toNat_natCast] at hx513_0); have qi513 : (0 < t496.length) = True := eq_true (by omega); (try rw [show ((0 : Int)).toNat = 0 from rfl] at hx513_0); (try rw [show 0 * 2 = 0 from rfl] at hx513_0); (try rw [Addr.add_zero'] at hx513_0); (try rw [show ((0 : Int)).toNat = 0 from rfl] at hx513_1); (try rw [show 0 * 2 = 0 from rfl] at hx513_1); (try rw [Addr.add_zero'] at hx513_1); replace p513 := eq_true p513; replace q513 := eq_true q513))
                                  have tk0_ : True := trivial
                                  have tk1_ : True := trivial
                                  repeat (go_quiet (first | (go_at_call 54; (clear tk0_); (with_reducible refine (tally_Busy.calls k3 _ _ t496 4611686018427387904 t511 t512 _ ?side1 ?side2 A32.out).mono ?_); (case side1 => repeat (first | exact (Kd.R_reads' HO_9.out).2.2 | (with_reducible refine Kd.C_alloc ?_ _) | (with_reducible refine Kd.C_drewN ?_ _) | (with_reducible refine Kd.C_drew ?_))); (case side2 => exact (Kd.R_reads' HO_9.out).2.1); rintro e w' ⟨rfl, ⟨nd, rfl⟩⟩; (try first | exact ⟨rfl, _, World.drewN_drewN _ _ _⟩ | exact ⟨rfl, _, Eq.trans (World.drewN_drewN _ _ _) (congrArg (World.drewN _) (Nat.add_assoc _ _ _))⟩); have p513 : 0 ≤ (0 : Int) := (by omega); have q513 : 0 < (t496.length : Int) := of_decide_eq_true (by first | (with_reducible assumption) | assumption); obtain ⟨ad513, e513, hx513_0, hx513_1⟩ := at_T64 (Kd.R_reads' HO_9.out).2.2 0 p513 q513; cases e513; (try simp only [Int.toNat_natCast] at hx513_0); have qi513 : (0 < t496.length) = True := eq_true (by omega); (try rw [show ((0 : Int)).toNat = 0 from rfl] at hx513_0); (try rw [show 0 * 2 = 0 from rfl] at hx513_0); (try rw [Addr.add_zero'] at hx513_0); (try rw [show ((0 : Int)).toNat = 0 from rfl] at hx513_1); (try rw [show 0 * 2 = 0 from rfl] at hx513_1); (try rw [Addr.add_zero'] at hx513_1); replace p513 := eq_true p513; replace q513 := eq_true q513)); try go_wp2_with (first | (go_at_call 54; (clear tk1_); (with_reducible refine (tally_Busy.calls k3 _ _ t496 4611686018427387904 t511 t512 _ ?side1 ?side2 A32.out).mono ?_); (case side1 => repeat (first | exact (Kd.R_reads' HO_9.out).2.2 | (with_reducible refine Kd.C_alloc ?_ _) | (with_reducible refine Kd.C_drewN ?_ _) | (with_reducible refine Kd.C_drew ?_))); (case side2 => exact (Kd.R_reads' HO_9.out).2.1); rintro e w' ⟨rfl, ⟨nd, rfl⟩⟩; (try first | exact ⟨rfl, _, World.drewN_drewN _ _ _⟩ | exact ⟨rfl, _, Eq.trans (World.drewN_drewN _ _ _) (congrArg (World.drewN _) (Nat.add_assoc _ _ _))⟩); have p513 : 0 ≤ (0 : Int) := (by omega); have q513 : 0 < (t496.length : Int) := of_decide_eq_true (by first | (with_reducible assumption) | assumption); obtain ⟨ad513, e513, hx513_0, hx513_1⟩ := at_T64 (Kd.R_reads' HO_9.out).2.2 0 p513 q513; cases e513; (try simp only [Int.toNat_natCast] at hx513_0); have qi513 : (0 < t496.length) = True := eq_true (by omega); (try rw [show ((0 : Int)).toNat = 0 from rfl] at hx513_0); (try rw [show 0 * 2 = 0 from rfl] at hx513_0); (try rw [Addr.add_zero'] at hx513_0); (try rw [show ((0 : Int)).toNat = 0 from rfl] at hx513_1); (try rw [show 0 * 2 = 0 from rfl] at hx513_1); (try rw [Addr.add_zero'] at hx513_1); replace p513 := eq_true p513; replace q513 := eq_true q513)))
                                  go_ret
                                  exact ⟨by first | rfl | (simp [errW_none, errW_some] <;> rfl) | (simp [*, errW_none, errW_some] <;> rfl), by repeat (first | (with_reducible first | exact HB.out | apply below_alloc | apply pw_below_drewN | apply below_drew1) | exact HB.out)⟩
                              · rw [if_neg c37] at H
                                have c37b0 : (x14_3 == (t496.length : Int)) = false := beq_eq_false_iff_ne.mpr c37
                                have c37b1 : (x14_3 != (t496.length : Int)) = true := bne_iff_ne.mpr c37
                                obtain rfl := Option.some.inj H
                                obtain ⟨Ao45, co45, eo45⟩ := Kd.R_slice HO_12.out
                                subst eo45
                                go_wp2_with (first | (go_at_call 54; (with_reducible refine (tally_Busy.calls k3 _ _ t496 4611686018427387904 t511 t512 _ ?side1 ?side2 A32.out).mono ?_); (case side1 => repeat (first | exact (Kd.R_reads' HO_9.out).2.2 | (with_reducible refine Kd.C_alloc ?_ _) | (with_reducible refine Kd.C_drewN ?_ _) | (with_reducible refine Kd.C_drew ?_))); (case side2 => exact (Kd.R_reads' HO_9.out).2.1); rintro e w' ⟨rfl, ⟨nd, rfl⟩⟩; (try first | exact ⟨rfl, _, World.drewN_drewN _ _ _⟩ | exact ⟨rfl, _, Eq.trans (World.drewN_drewN _ _ _) (congrArg (World.drewN _) (Nat.add_assoc _ _ _))⟩); have p513 : 0 ≤ (0 : Int) := (by omega); have q513 : 0 < (t496.length : Int) := of_decide_eq_true (by first | (with_reducible assumption) | assumption); obtain ⟨ad513, e513, hx513_0, hx513_1⟩ := at_T64 (Kd.R_reads' HO_9.out).2.2 0 p513 q513; cases e513; (try simp only [Int.toNat_natCast] at hx513_0); have qi513 : (0 < t496.length) = True := eq_true (by omega); (try rw [show ((0 : Int)).toNat = 0 from rfl] at hx513_0); (try rw [show 0 * 2 = 0 from rfl] at hx513_0); (try rw [Addr.add_zero'] at hx513_0); (try rw [show ((0 : Int)).toNat = 0 from rfl] at hx513_1); (try rw [show 0 * 2 = 0 from rfl] at hx513_1); (try rw [Addr.add_zero'] at hx513_1); replace p513 := eq_true p513; replace q513 := eq_true q513))
                                have tk0_ : True := trivial
                                have tk1_ : True := trivial
                                repeat (go_quiet (first | (go_at_call 54; (clear tk0_); (with_reducible refine (tally_Busy.calls k3 _ _ t496 4611686018427387904 t511 t512 _ ?side1 ?side2 A32.out).mono ?_); (case side1 => repeat (first | exact (Kd.R_reads' HO_9.out).2.2 | (with_reducible refine Kd.C_alloc ?_ _) | (with_reducible refine Kd.C_drewN ?_ _) | (with_reducible refine Kd.C_drew ?_))); (case side2 => exact (Kd.R_reads' HO_9.out).2.1); rintro e w' ⟨rfl, ⟨nd, rfl⟩⟩; (try first | exact ⟨rfl, _, World.drewN_drewN _ _ _⟩ | exact ⟨rfl, _, Eq.trans (World.drewN_drewN _ _ _) (congrArg (World.drewN _) (Nat.add_assoc _ _ _))⟩); have p513 : 0 ≤ (0 : Int) := (by omega); have q513 : 0 < (t496.length : Int) := of_decide_eq_true (by first | (with_reducible assumption) | assumption); obtain ⟨ad513, e513, hx513_0, hx513_1⟩ := at_T64 (Kd.R_reads' HO_9.out).2.2 0 p513 q513; cases e513; (try simp only [Int.toNat_natCast] at hx513_0); have qi513 : (0 < t496.length) = True := eq_true (by omega); (try rw [show ((0 : Int)).toNat = 0 from rfl] at hx513_0); (try rw [show 0 * 2 = 0 from rfl] at hx513_0); (try rw [Addr.add_zero'] at hx513_0); (try rw [show ((0 : Int)).toNat = 0 from rfl] at hx513_1); (try rw [show 0 * 2 = 0 from rfl] at hx513_1); (try rw [Addr.add_zero'] at hx513_1); replace p513 := eq_true p513; replace q513 := eq_true q513)); try go_wp2_with (first | (go_at_call 54; (clear tk1_); (with_reducible refine (tally_Busy.calls k3 _ _ t496 4611686018427387904 t511 t512 _ ?side1 ?side2 A32.out).mono ?_); (case side1 => repeat (first | exact (Kd.R_reads' HO_9.out).2.2 | (with_reducible refine Kd.C_alloc ?_ _) | (with_reducible refine Kd.C_drewN ?_ _) | (with_reducible refine Kd.C_drew ?_))); (case side2 => exact (Kd.R_reads' HO_9.out).2.1); rintro e w' ⟨rfl, ⟨nd, rfl⟩⟩; (try first | exact ⟨rfl, _, World.drewN_drewN _ _ _⟩ | exact ⟨rfl, _, Eq.trans (World.drewN_drewN _ _ _) (congrArg (World.drewN _) (Nat.add_assoc _ _ _))⟩); have p513 : 0 ≤ (0 : Int) := (by omega); have q513 : 0 < (t496.length : Int) := of_decide_eq_true (by first | (with_reducible assumption) | assumption); obtain ⟨ad513, e513, hx513_0, hx513_1⟩ := at_T64 (Kd.R_reads' HO_9.out).2.2 0 p513 q513; cases e513; (try simp only [Int.toNat_natCast] at hx513_0); have qi513 : (0 < t496.length) = True := eq_true (by omega); (try rw [show ((0 : Int)).toNat = 0 from rfl] at hx513_0); (try rw [show 0 * 2 = 0 from rfl] at hx513_0); (try rw [Addr.add_zero'] at hx513_0); (try rw [show ((0 : Int)).toNat = 0 from rfl] at hx513_1); (try rw [show 0 * 2 = 0 from rfl] at hx513_1); (try rw [Addr.add_zero'] at hx513_1); replace p513 := eq_true p513; replace q513 := eq_true q513)))
                                go_ret
                                exact ⟨by first | rfl | (simp [errW_none, errW_some] <;> rfl) | (simp [*, errW_none, errW_some] <;> rfl), by repeat (first | (with_reducible first | exact HB.out | apply below_alloc | apply pw_below_drewN | apply below_drew1) | exact HB.out)⟩
                            · rw [if_neg c36] at H
                              have c36b0 : (x13_2 == (t496.length : Int)) = false := beq_eq_false_iff_ne.mpr c36
                              have c36b1 : (x13_2 != (t496.length : Int)) = true := bne_iff_ne.mpr c36
                              obtain rfl := Option.some.inj H
                              obtain ⟨Ao46, co46, eo46⟩ := Kd.R_slice HO_12.out
                              subst eo46
                              go_wp2_with (first | (go_at_call 54; (with_reducible refine (tally_Busy.calls k3 _ _ t496 4611686018427387904 t511 t512 _ ?side1 ?side2 A32.out).mono ?_); (case side1 => repeat (first | exact (Kd.R_reads' HO_9.out).2.2 | (with_reducible refine Kd.C_alloc ?_ _) | (with_reducible refine Kd.C_drewN ?_ _) | (with_reducible refine Kd.C_drew ?_))); (case side2 => exact (Kd.R_reads' HO_9.out).2.1); rintro e w' ⟨rfl, ⟨nd, rfl⟩⟩; (try first | exact ⟨rfl, _, World.drewN_drewN _ _ _⟩ | exact ⟨rfl, _, Eq.trans (World.drewN_drewN _ _ _) (congrArg (World.drewN _) (Nat.add_assoc _ _ _))⟩); have p513 : 0 ≤ (0 : Int) := (by omega); have q513 : 0 < (t496.length : Int) := of_decide_eq_true (by first | (with_reducible assumption) | assumption); obtain ⟨ad513, e513, hx513_0, hx513_1⟩ := at_T64 (Kd.R_reads' HO_9.out).2.2 0 p513 q513; cases e513; (try simp only [Int.toNat_natCast] at hx513_0); have qi513 : (0 < t496.length) = True := eq_true (by omega); (try rw [show ((0 : Int)).toNat = 0 from rfl] at hx513_0); (try rw [show 0 * 2 = 0 from rfl] at hx513_0); (try rw [Addr.add_zero'] at hx513_0); (try rw [show ((0 : Int)).toNat = 0 from rfl] at hx513_1); (try rw [show 0 * 2 = 0 from rfl] at hx513_1); (try rw [Addr.add_zero'] at hx513_1); replace p513 := eq_true p513; replace q513 := eq_true q513))
                              have tk0_ : True := trivial
                              have tk1_ : True := trivial
                              repeat (go_quiet (first | (go_at_call 54; (clear tk0_); (with_reducible refine (tally_Busy.calls k3 _ _ t496 4611686018427387904 t511 t512 _ ?side1 ?side2 A32.out).mono ?_); (case side1 => repeat (first | exact (Kd.R_reads' HO_9.out).2.2 | (with_reducible refine Kd.C_alloc ?_ _) | (with_reducible refine Kd.C_drewN ?_ _) | (with_reducible refine Kd.C_drew ?_))); (case side2 => exact (Kd.R_reads' HO_9.out).2.1); rintro e w' ⟨rfl, ⟨nd, rfl⟩⟩; (try first | exact ⟨rfl, _, World.drewN_drewN _ _ _⟩ | exact ⟨rfl, _, Eq.trans (World.drewN_drewN _ _ _) (congrArg (World.drewN _) (Nat.add_assoc _ _ _))⟩); have p513 : 0 ≤ (0 : Int) := (by omega); have q513 : 0 < (t496.length : Int) := of_decide_eq_true (by first | (with_reducible assumption) | assumption); obtain ⟨ad513, e513, hx513_0, hx513_1⟩ := at_T64 (Kd.R_reads' HO_9.out).2.2 0 p513 q513; cases e513; (try simp only [Int.toNat_natCast] at hx513_0); have qi513 : (0 < t496.length) = True := eq_true (by omega); (try rw [show ((0 : Int)).toNat = 0 from rfl] at hx513_0); (try rw [show 0 * 2 = 0 from rfl] at hx513_0); (try rw [Addr.add_zero'] at hx513_0); (try rw [show ((0 : Int)).toNat = 0 from rfl] at hx513_1); (try rw [show 0 * 2 = 0 from rfl] at hx513_1); (try rw [Addr.add_zero'] at hx513_1); replace p513 := eq_true p513; replace q513 := eq_true q513)); try go_wp2_with (first | (go_at_call 54; (clear tk1_); (with_reducible refine (tally_Busy.calls k3 _ _ t496 4611686018427387904 t511 t512 _ ?side1 ?side2 A32.out).mono ?_); (case side1 => repeat (first | exact (Kd.R_reads' HO_9.out).2.2 | (with_reducible refine Kd.C_alloc ?_ _) | (with_reducible refine Kd.C_drewN ?_ _) | (with_reducible refine Kd.C_drew ?_))); (case side2 => exact (Kd.R_reads' HO_9.out).2.1); rintro e w' ⟨rfl, ⟨nd, rfl⟩⟩; (try first | exact ⟨rfl, _, World.drewN_drewN _ _ _⟩ | exact ⟨rfl, _, Eq.trans (World.drewN_drewN _ _ _) (congrArg (World.drewN _) (Nat.add_assoc _ _ _))⟩); have p513 : 0 ≤ (0 : Int) := (by omega); have q513 : 0 < (t496.length : Int) := of_decide_eq_true (by first | (with_reducible assumption) | assumption); obtain ⟨ad513, e513, hx513_0, hx513_1⟩ := at_T64 (Kd.R_reads' HO_9.out).2.2 0 p513 q513; cases e513; (try simp only [Int.toNat_natCast] at hx513_0); have qi513 : (0 < t496.length) = True := eq_true (by omega); (try rw [show ((0 : Int)).toNat = 0 from rfl] at hx513_0); (try rw [show 0 * 2 = 0 from rfl] at hx513_0); (try rw [Addr.add_zero'] at hx513_0); (try rw [show ((0 : Int)).toNat = 0 from rfl] at hx513_1); (try rw [show 0 * 2 = 0 from rfl] at hx513_1); (try rw [Addr.add_zero'] at hx513_1); replace p513 := eq_true p513; replace q513 := eq_true q513)))
                              go_ret
                              exact ⟨by first | rfl | (simp [errW_none, errW_some] <;> rfl) | (simp [*, errW_none, errW_some] <;> rfl), by repeat (first | (with_reducible first | exact HB.out | apply below_alloc | apply pw_below_drewN | apply below_drew1) | exact HB.out)⟩
                          · rw [if_neg c35] at H
                            have c35b0 : (t500 == 0) = false := beq_eq_false_iff_ne.mpr c35
                            have c35b1 : (t500 != 0) = true := bne_iff_ne.mpr c35
                            obtain rfl := Option.some.inj H
                            obtain ⟨Ao47, co47, eo47⟩ := Kd.R_slice HO_12.out
                            subst eo47
                            go_wp2_with (first | (go_at_call 54; (with_reducible refine (tally_Busy.calls k3 _ _ t496 4611686018427387904 t511 t512 _ ?side1 ?side2 A32.out).mono ?_); (case side1 => repeat (first | exact (Kd.R_reads' HO_9.out).2.2 | (with_reducible refine Kd.C_alloc ?_ _) | (with_reducible refine Kd.C_drewN ?_ _) | (with_reducible refine Kd.C_drew ?_))); (case side2 => exact (Kd.R_reads' HO_9.out).2.1); rintro e w' ⟨rfl, ⟨nd, rfl⟩⟩; (try first | exact ⟨rfl, _, World.drewN_drewN _ _ _⟩ | exact ⟨rfl, _, Eq.trans (World.drewN_drewN _ _ _) (congrArg (World.drewN _) (Nat.add_assoc _ _ _))⟩); have p513 : 0 ≤ (0 : Int) := (by omega); have q513 : 0 < (t496.length : Int) := of_decide_eq_true (by first | (with_reducible assumption) | assumption); obtain ⟨ad513, e513, hx513_0, hx513_1⟩ := at_T64 (Kd.R_reads' HO_9.out).2.2 0 p513 q513; cases e513; (try simp only [Int.toNat_natCast] at hx513_0); have qi513 : (0 < t496.length) = True := eq_true (by omega); (try rw [show ((0 : Int)).toNat = 0 from rfl] at hx513_0); (try rw [show 0 * 2 = 0 from rfl] at hx513_0); (try rw [Addr.add_zero'] at hx513_0); (try rw [show ((0 : Int)).toNat = 0 from rfl] at hx513_1); (try rw [show 0 * 2 = 0 from rfl] at hx513_1); (try rw [Addr.add_zero'] at hx513_1); replace p513 := eq_true p513; replace q513 := eq_true q513))
                            have tk0_ : True := trivial
                            have tk1_ : True := trivial
                            repeat (go_quiet (first | (go_at_call 54; (clear tk0_); (with_reducible refine (tally_Busy.calls k3 _ _ t496 4611686018427387904 t511 t512 _ ?side1 ?side2 A32.out).mono ?_); (case side1 => repeat (first | exact (Kd.R_reads' HO_9.out).2.2 | (with_reducible refine Kd.C_alloc ?_ _) | (with_reducible refine Kd.C_drewN ?_ _) | (with_reducible refine Kd.C_drew ?_))); (case side2 => exact (Kd.R_reads' HO_9.out).2.1); rintro e w' ⟨rfl, ⟨nd, rfl⟩⟩; (try first | exact ⟨rfl, _, World.drewN_drewN _ _ _⟩ | exact ⟨rfl, _, Eq.trans (World.drewN_drewN _ _ _) (congrArg (World.drewN _) (Nat.add_assoc _ _ _))⟩); have p513 : 0 ≤ (0 : Int) := (by omega); have q513 : 0 < (t496.length : Int) := of_decide_eq_true (by first | (with_reducible assumption) | assumption); obtain ⟨ad513, e513, hx513_0, hx513_1⟩ := at_T64 (Kd.R_reads' HO_9.out).2.2 0 p513 q513; cases e513; (try simp only [Int.toNat_natCast] at hx513_0); have qi513 : (0 < t496.length) = True := eq_true (by omega); (try rw [show ((0 : Int)).toNat = 0 from rfl] at hx513_0); (try rw [show 0 * 2 = 0 from rfl] at hx513_0); (try rw [Addr.add_zero'] at hx513_0); (try rw [show ((0 : Int)).toNat = 0 from rfl] at hx513_1); (try rw [show 0 * 2 = 0 from rfl] at hx513_1); (try rw [Addr.add_zero'] at hx513_1); replace p513 := eq_true p513; replace q513 := eq_true q513)); try go_wp2_with (first | (go_at_call 54; (clear tk1_); (with_reducible refine (tally_Busy.calls k3 _ _ t496 4611686018427387904 t511 t512 _ ?side1 ?side2 A32.out).mono ?_); (case side1 => repeat (first | exact (Kd.R_reads' HO_9.out).2.2 | (with_reducible refine Kd.C_alloc ?_ _) | (with_reducible refine Kd.C_drewN ?_ _) | (with_reducible refine Kd.C_drew ?_))); (case side2 => exact (Kd.R_reads' HO_9.out).2.1); rintro e w' ⟨rfl, ⟨nd, rfl⟩⟩; (try first | exact ⟨rfl, _, World.drewN_drewN _ _ _⟩ | exact ⟨rfl, _, Eq.trans (World.drewN_drewN _ _ _) (congrArg (World.drewN _) (Nat.add_assoc _ _ _))⟩); have p513 : 0 ≤ (0 : Int) := (by omega); have q513 : 0 < (t496.length : Int) := of_decide_eq_true (by first | (with_reducible assumption) | assumption); obtain ⟨ad513, e513, hx513_0, hx513_1⟩ := at_T64 (Kd.R_reads' HO_9.out).2.2 0 p513 q513; cases e513; (try simp only [Int.toNat_natCast] at hx513_0); have qi513 : (0 < t496.length) = True := eq_true (by omega); (try rw [show ((0 : Int)).toNat = 0 from rfl] at hx513_0); (try rw [show 0 * 2 = 0 from rfl] at hx513_0); (try rw [Addr.add_zero'] at hx513_0); (try rw [show ((0 : Int)).toNat = 0 from rfl] at hx513_1); (try rw [show 0 * 2 = 0 from rfl] at hx513_1); (try rw [Addr.add_zero'] at hx513_1); replace p513 := eq_true p513; replace q513 := eq_true q513)))
                            go_ret
                            exact ⟨by first | rfl | (simp [errW_none, errW_some] <;> rfl) | (simp [*, errW_none, errW_some] <;> rfl), by repeat (first | (with_reducible first | exact HB.out | apply below_alloc | apply pw_below_drewN | apply below_drew1) | exact HB.out)⟩
                        · rw [if_neg c34] at H
                          exact absurd H (by simp)
                      · rw [if_neg c33] at H
                        have c33b0 : decide (0 < (t496.length : Int)) = false := decide_eq_false c33
                        have c33b1 : decide (0 < t496.length) = false := decide_eq_false (by omega)
                        clear c33
                        by_cases c48 : t500 = 0
                        · rw [if_pos c48] at H
                          have c48b0 : (t500 == 0) = true := beq_iff_eq.mpr c48
                          have c48b1 : (t500 != 0) = false := bne_eq_false_iff_eq.mpr c48
                          clear c48
                          by_cases c49 : x13_2 = (t496.length : Int)
                          · rw [if_pos c49] at H
                            have c49b0 : (x13_2 == (t496.length : Int)) = true := beq_iff_eq.mpr c49
                            have c49b1 : (x13_2 != (t496.length : Int)) = false := bne_eq_false_iff_eq.mpr c49
                            clear c49
                            by_cases c50 : x14_3 = (t496.length : Int)
                            · rw [if_pos c50] at H
                              have c50b0 : (x14_3 == (t496.length : Int)) = true := beq_iff_eq.mpr c50
                              have c50b1 : (x14_3 != (t496.length : Int)) = false := bne_eq_false_iff_eq.mpr c50
                              clear c50
                              by_cases c51 : t512 = (t496.length : Int)
                              · rw [if_pos c51] at H
                                have c51b0 : (t512 == (t496.length : Int)) = true := beq_iff_eq.mpr c51
                                have c51b1 : (t512 != (t496.length : Int)) = false := bne_eq_false_iff_eq.mpr c51
                                clear c51
                                by_cases c52 : t511 = 0
                                · rw [if_pos c52] at H
                                  have c52b0 : (t511 == 0) = true := beq_iff_eq.mpr c52
                                  have c52b1 : (t511 != 0) = false := bne_eq_false_iff_eq.mpr c52
                                  clear c52
                                  replace H := Option.bind_eq_some_iff.mp H
                                  obtain ⟨t515, A530, H⟩ := H
                                  replace H : (some t515) = some r := H
                                  have A53 := Aside0.mk A530
                                  clear A530
                                  obtain rfl := Option.some.inj H
                                  obtain ⟨Ao54, co54, eo54⟩ := Kd.R_slice HO_12.out
                                  subst eo54
                                  go_wp2_with (first | (go_at_call 54; (with_reducible refine (tally_Busy.calls k3 _ _ t496 4611686018427387904 t511 t512 _ ?side1 ?side2 A32.out).mono ?_); (case side1 => repeat (first | exact (Kd.R_reads' HO_9.out).2.2 | (with_reducible refine Kd.C_alloc ?_ _) | (with_reducible refine Kd.C_drewN ?_ _) | (with_reducible refine Kd.C_drew ?_))); (case side2 => exact (Kd.R_reads' HO_9.out).2.1); rintro e w' ⟨rfl, ⟨nd, rfl⟩⟩; (try first | exact ⟨rfl, _, World.drewN_drewN _ _ _⟩ | exact ⟨rfl, _, Eq.trans (World.drewN_drewN _ _ _) (congrArg (World.drewN _) (Nat.add_assoc _ _ _))⟩)) | (go_at_call 47; (with_reducible refine (juratlaw47_awake.calls k3  t515 _ A53.out).mono ?_); rintro e w55 ⟨rfl, hb⟩; have n0_ := Aside0.mk (Kd.R_below (by (with_reducible repeat (first | apply Kd.R_alloc | apply Kd.R_drewN | apply Kd.R_drew)); exact HO_9.out) hb); have n1_ := Aside0.mk (Kd.R_below (by (with_reducible repeat (first | apply Kd.R_alloc | apply Kd.R_drewN | apply Kd.R_drew)); exact HO_12.out) hb); have n2_ := Aside0.mk (below_step (by repeat (first | (with_reducible first | exact HB.out | apply below_alloc | apply pw_below_drewN | apply below_drew1) | exact HB.out)) hb); clear HO_9; clear HO_12; clear HB; have HO_9 := n0_; have HO_12 := n1_; have HB := n2_; clear n0_ n1_ n2_; (try clear hb); (try clear hb2); (try clear hk); (try clear hi)))
                                  have tk0_ : True := trivial
                                  have tk1_ : True := trivial
                                  repeat (go_quiet (first | (go_at_call 54; (clear tk0_); (with_reducible refine (tally_Busy.calls k3 _ _ t496 4611686018427387904 t511 t512 _ ?side1 ?side2 A32.out).mono ?_); (case side1 => repeat (first | exact (Kd.R_reads' HO_9.out).2.2 | (with_reducible refine Kd.C_alloc ?_ _) | (with_reducible refine Kd.C_drewN ?_ _) | (with_reducible refine Kd.C_drew ?_))); (case side2 => exact (Kd.R_reads' HO_9.out).2.1); rintro e w' ⟨rfl, ⟨nd, rfl⟩⟩; (try first | exact ⟨rfl, _, World.drewN_drewN _ _ _⟩ | exact ⟨rfl, _, Eq.trans (World.drewN_drewN _ _ _) (congrArg (World.drewN _) (Nat.add_assoc _ _ _))⟩)) | (go_at_call 47; (with_reducible refine (juratlaw47_awake.calls k3  t515 _ A53.out).mono ?_); rintro e w55 ⟨rfl, hb⟩; have n0_ := Aside0.mk (Kd.R_below (by (with_reducible repeat (first | apply Kd.R_alloc | apply Kd.R_drewN | apply Kd.R_drew)); exact HO_9.out) hb); have n1_ := Aside0.mk (Kd.R_below (by (with_reducible repeat (first | apply Kd.R_alloc | apply Kd.R_drewN | apply Kd.R_drew)); exact HO_12.out) hb); have n2_ := Aside0.mk (below_step (by repeat (first | (with_reducible first | exact HB.out | apply below_alloc | apply pw_below_drewN | apply below_drew1) | exact HB.out)) hb); clear HO_9; clear HO_12; clear HB; have HO_9 := n0_; have HO_12 := n1_; have HB := n2_; clear n0_ n1_ n2_; (try clear hb); (try clear hb2); (try clear hk); (try clear hi))); try go_wp2_with (first | (go_at_call 54; (clear tk1_); (with_reducible refine (tally_Busy.calls k3 _ _ t496 4611686018427387904 t511 t512 _ ?side1 ?side2 A32.out).mono ?_); (case side1 => repeat (first | exact (Kd.R_reads' HO_9.out).2.2 | (with_reducible refine Kd.C_alloc ?_ _) | (with_reducible refine Kd.C_drewN ?_ _) | (with_reducible refine Kd.C_drew ?_))); (case side2 => exact (Kd.R_reads' HO_9.out).2.1); rintro e w' ⟨rfl, ⟨nd, rfl⟩⟩; (try first | exact ⟨rfl, _, World.drewN_drewN _ _ _⟩ | exact ⟨rfl, _, Eq.trans (World.drewN_drewN _ _ _) (congrArg (World.drewN _) (Nat.add_assoc _ _ _))⟩)) | (go_at_call 47; (with_reducible refine (juratlaw47_awake.calls k3  t515 _ A53.out).mono ?_); rintro e w55 ⟨rfl, hb⟩; have n0_ := Aside0.mk (Kd.R_below (by (with_reducible repeat (first | apply Kd.R_alloc | apply Kd.R_drewN | apply Kd.R_drew)); exact HO_9.out) hb); have n1_ := Aside0.mk (Kd.R_below (by (with_reducible repeat (first | apply Kd.R_alloc | apply Kd.R_drewN | apply Kd.R_drew)); exact HO_12.out) hb); have n2_ := Aside0.mk (below_step (by repeat (first | (with_reducible first | exact HB.out | apply below_alloc | apply pw_below_drewN | apply below_drew1) | exact HB.out)) hb); clear HO_9; clear HO_12; clear HB; have HO_9 := n0_; have HO_12 := n1_; have HB := n2_; clear n0_ n1_ n2_; (try clear hb); (try clear hb2); (try clear hk); (try clear hi))))
                                  go_ret
                                  exact ⟨by first | rfl | (simp [errW_none, errW_some] <;> rfl) | (simp [*, errW_none, errW_some] <;> rfl), by repeat (first | (with_reducible first | exact HB.out | apply below_alloc | apply pw_below_drewN | apply below_drew1) | exact HB.out)⟩
                                · rw [if_neg c52] at H
                                  have c52b0 : (t511 == 0) = false := beq_eq_false_iff_ne.mpr c52
                                  have c52b1 : (t511 != 0) = true := bne_iff_ne.mpr c52
                                  obtain rfl := Option.some.inj H
                                  obtain ⟨Ao56, co56, eo56⟩ := Kd.R_slice HO_12.out
                                  subst eo56
                                  go_wp2_with (first | (go_at_call 54; (with_reducible refine (tally_Busy.calls k3 _ _ t496 4611686018427387904 t511 t512 _ ?side1 ?side2 A32.out).mono ?_); (case side1 => repeat (first | exact (Kd.R_reads' HO_9.out).2.2 | (with_reducible refine Kd.C_alloc ?_ _) | (with_reducible refine Kd.C_drewN ?_ _) | (with_reducible refine Kd.C_drew ?_))); (case side2 => exact (Kd.R_reads' HO_9.out).2.1); rintro e w' ⟨rfl, ⟨nd, rfl⟩⟩; (try first | exact ⟨rfl, _, World.drewN_drewN _ _ _⟩ | exact ⟨rfl, _, Eq.trans (World.drewN_drewN _ _ _) (congrArg (World.drewN _) (Nat.add_assoc _ _ _))⟩)))
                                  have tk0_ : True := trivial
                                  have tk1_ : True := trivial
                                  repeat (go_quiet (first | (go_at_call 54; (clear tk0_); (with_reducible refine (tally_Busy.calls k3 _ _ t496 4611686018427387904 t511 t512 _ ?side1 ?side2 A32.out).mono ?_); (case side1 => repeat (first | exact (Kd.R_reads' HO_9.out).2.2 | (with_reducible refine Kd.C_alloc ?_ _) | (with_reducible refine Kd.C_drewN ?_ _) | (with_reducible refine Kd.C_drew ?_))); (case side2 => exact (Kd.R_reads' HO_9.out).2.1); rintro e w' ⟨rfl, ⟨nd, rfl⟩⟩; (try first | exact ⟨rfl, _, World.drewN_drewN _ _ _⟩ | exact ⟨rfl, _, Eq.trans (World.drewN_drewN _ _ _) (congrArg (World.drewN _) (Nat.add_assoc _ _ _))⟩))); try go_wp2_with (first | (go_at_call 54; (clear tk1_); (with_reducible refine (tally_Busy.calls k3 _ _ t496 4611686018427387904 t511 t512 _ ?side1 ?side2 A32.out).mono ?_); (case side1 => repeat (first | exact (Kd.R_reads' HO_9.out).2.2 | (with_reducible refine Kd.C_alloc ?_ _) | (with_reducible refine Kd.C_drewN ?_ _) | (with_reducible refine Kd.C_drew ?_))); (case side2 => exact (Kd.R_reads' HO_9.out).2.1); rintro e w' ⟨rfl, ⟨nd, rfl⟩⟩; (try first | exact ⟨rfl, _, World.drewN_drewN _ _ _⟩ | exact ⟨rfl, _, Eq.trans (World.drewN_drewN _ _ _) (congrArg (World.drewN _) (Nat.add_assoc _ _ _))⟩))))
                                  go_ret
                                  exact ⟨by first | rfl | (simp [errW_none, errW_some] <;> rfl) | (simp [*, errW_none, errW_some] <;> rfl), by repeat (first | (with_reducible first | exact HB.out | apply below_alloc | apply pw_below_drewN | apply below_drew1) | exact HB.out)⟩
                              · rw [if_neg c51] at H
                                have c51b0 : (t512 == (t496.length : Int)) = false := beq_eq_false_iff_ne.mpr c51
                                have c51b1 : (t512 != (t496.length : Int)) = true := bne_iff_ne.mpr c51
                                obtain rfl := Option.some.inj H
                                obtain ⟨Ao57, co57, eo57⟩ := Kd.R_slice HO_12.out
                                subst eo57
                                go_wp2_with (first | (go_at_call 54; (with_reducible refine (tally_Busy.calls k3 _ _ t496 4611686018427387904 t511 t512 _ ?side1 ?side2 A32.out).mono ?_); (case side1 => repeat (first | exact (Kd.R_reads' HO_9.out).2.2 | (with_reducible refine Kd.C_alloc ?_ _) | (with_reducible refine Kd.C_drewN ?_ _) | (with_reducible refine Kd.C_drew ?_))); (case side2 => exact (Kd.R_reads' HO_9.out).2.1); rintro e w' ⟨rfl, ⟨nd, rfl⟩⟩; (try first | exact ⟨rfl, _, World.drewN_drewN _ _ _⟩ | exact ⟨rfl, _, Eq.trans (World.drewN_drewN _ _ _) (congrArg (World.drewN _) (Nat.add_assoc _ _ _))⟩)))
                                have tk0_ : True := trivial
                                have tk1_ : True := trivial
                                repeat (go_quiet (first | (go_at_call 54; (clear tk0_); (with_reducible refine (tally_Busy.calls k3 _ _ t496 4611686018427387904 t511 t512 _ ?side1 ?side2 A32.out).mono ?_); (case side1 => repeat (first | exact (Kd.R_reads' HO_9.out).2.2 | (with_reducible refine Kd.C_alloc ?_ _) | (with_reducible refine Kd.C_drewN ?_ _) | (with_reducible refine Kd.C_drew ?_))); (case side2 => exact (Kd.R_reads' HO_9.out).2.1); rintro e w' ⟨rfl, ⟨nd, rfl⟩⟩; (try first | exact ⟨rfl, _, World.drewN_drewN _ _ _⟩ | exact ⟨rfl, _, Eq.trans (World.drewN_drewN _ _ _) (congrArg (World.drewN _) (Nat.add_assoc _ _ _))⟩))); try go_wp2_with (first | (go_at_call 54; (clear tk1_); (with_reducible refine (tally_Busy.calls k3 _ _ t496 4611686018427387904 t511 t512 _ ?side1 ?side2 A32.out).mono ?_); (case side1 => repeat (first | exact (Kd.R_reads' HO_9.out).2.2 | (with_reducible refine Kd.C_alloc ?_ _) | (with_reducible refine Kd.C_drewN ?_ _) | (with_reducible refine Kd.C_drew ?_))); (case side2 => exact (Kd.R_reads' HO_9.out).2.1); rintro e w' ⟨rfl, ⟨nd, rfl⟩⟩; (try first | exact ⟨rfl, _, World.drewN_drewN _ _ _⟩ | exact ⟨rfl, _, Eq.trans (World.drewN_drewN _ _ _) (congrArg (World.drewN _) (Nat.add_assoc _ _ _))⟩))))
                                go_ret
                                exact ⟨by first | rfl | (simp [errW_none, errW_some] <;> rfl) | (simp [*, errW_none, errW_some] <;> rfl), by repeat (first | (with_reducible first | exact HB.out | apply below_alloc | apply pw_below_drewN | apply below_drew1) | exact HB.out)⟩
                            · rw [if_neg c50] at H
                              have c50b0 : (x14_3 == (t496.length : Int)) = false := beq_eq_false_iff_ne.mpr c50
                              have c50b1 : (x14_3 != (t496.length : Int)) = true := bne_iff_ne.mpr c50
                              obtain rfl := Option.some.inj H
                              obtain ⟨Ao58, co58, eo58⟩ := Kd.R_slice HO_12.out
                              subst eo58
                              go_wp2_with (first | (go_at_call 54; (with_reducible refine (tally_Busy.calls k3 _ _ t496 4611686018427387904 t511 t512 _ ?side1 ?side2 A32.out).mono ?_); (case side1 => repeat (first | exact (Kd.R_reads' HO_9.out).2.2 | (with_reducible refine Kd.C_alloc ?_ _) | (with_reducible refine Kd.C_drewN ?_ _) | (with_reducible refine Kd.C_drew ?_))); (case side2 => exact (Kd.R_reads' HO_9.out).2.1); rintro e w' ⟨rfl, ⟨nd, rfl⟩⟩; (try first | exact ⟨rfl, _, World.drewN_drewN _ _ _⟩ | exact ⟨rfl, _, Eq.trans (World.drewN_drewN _ _ _) (congrArg (World.drewN _) (Nat.add_assoc _ _ _))⟩)))
                              have tk0_ : True := trivial
                              have tk1_ : True := trivial
                              repeat (go_quiet (first | (go_at_call 54; (clear tk0_); (with_reducible refine (tally_Busy.calls k3 _ _ t496 4611686018427387904 t511 t512 _ ?side1 ?side2 A32.out).mono ?_); (case side1 => repeat (first | exact (Kd.R_reads' HO_9.out).2.2 | (with_reducible refine Kd.C_alloc ?_ _) | (with_reducible refine Kd.C_drewN ?_ _) | (with_reducible refine Kd.C_drew ?_))); (case side2 => exact (Kd.R_reads' HO_9.out).2.1); rintro e w' ⟨rfl, ⟨nd, rfl⟩⟩; (try first | exact ⟨rfl, _, World.drewN_drewN _ _ _⟩ | exact ⟨rfl, _, Eq.trans (World.drewN_drewN _ _ _) (congrArg (World.drewN _) (Nat.add_assoc _ _ _))⟩))); try go_wp2_with (first | (go_at_call 54; (clear tk1_); (with_reducible refine (tally_Busy.calls k3 _ _ t496 4611686018427387904 t511 t512 _ ?side1 ?side2 A32.out).mono ?_); (case side1 => repeat (first | exact (Kd.R_reads' HO_9.out).2.2 | (with_reducible refine Kd.C_alloc ?_ _) | (with_reducible refine Kd.C_drewN ?_ _) | (with_reducible refine Kd.C_drew ?_))); (case side2 => exact (Kd.R_reads' HO_9.out).2.1); rintro e w' ⟨rfl, ⟨nd, rfl⟩⟩; (try first | exact ⟨rfl, _, World.drewN_drewN _ _ _⟩ | exact ⟨rfl, _, Eq.trans (World.drewN_drewN _ _ _) (congrArg (World.drewN _) (Nat.add_assoc _ _ _))⟩))))
                              go_ret
                              exact ⟨by first | rfl | (simp [errW_none, errW_some] <;> rfl) | (simp [*, errW_none, errW_some] <;> rfl), by repeat (first | (with_reducible first | exact HB.out | apply below_alloc | apply pw_below_drewN | apply below_drew1) | exact HB.out)⟩
                          · rw [if_neg c49] at H
                            have c49b0 : (x13_2 == (t496.length : Int)) = false := beq_eq_false_iff_ne.mpr c49
                            have c49b1 : (x13_2 != (t496.length : Int)) = true := bne_iff_ne.mpr c49
                            obtain rfl := Option.some.inj H
                            obtain ⟨Ao59, co59, eo59⟩ := Kd.R_slice HO_12.out
                            subst eo59
                            go_wp2_with (first | (go_at_call 54; (with_reducible refine (tally_Busy.calls k3 _ _ t496 4611686018427387904 t511 t512 _ ?side1 ?side2 A32.out).mono ?_); (case side1 => repeat (first | exact (Kd.R_reads' HO_9.out).2.2 | (with_reducible refine Kd.C_alloc ?_ _) | (with_reducible refine Kd.C_drewN ?_ _) | (with_reducible refine Kd.C_drew ?_))); (case side2 => exact (Kd.R_reads' HO_9.out).2.1); rintro e w' ⟨rfl, ⟨nd, rfl⟩⟩; (try first | exact ⟨rfl, _, World.drewN_drewN _ _ _⟩ | exact ⟨rfl, _, Eq.trans (World.drewN_drewN _ _ _) (congrArg (World.drewN _) (Nat.add_assoc _ _ _))⟩)))
                            have tk0_ : True := trivial
                            have tk1_ : True := trivial
                            repeat (go_quiet (first | (go_at_call 54; (clear tk0_); (with_reducible refine (tally_Busy.calls k3 _ _ t496 4611686018427387904 t511 t512 _ ?side1 ?side2 A32.out).mono ?_); (case side1 => repeat (first | exact (Kd.R_reads' HO_9.out).2.2 | (with_reducible refine Kd.C_alloc ?_ _) | (with_reducible refine Kd.C_drewN ?_ _) | (with_reducible refine Kd.C_drew ?_))); (case side2 => exact (Kd.R_reads' HO_9.out).2.1); rintro e w' ⟨rfl, ⟨nd, rfl⟩⟩; (try first | exact ⟨rfl, _, World.drewN_drewN _ _ _⟩ | exact ⟨rfl, _, Eq.trans (World.drewN_drewN _ _ _) (congrArg (World.drewN _) (Nat.add_assoc _ _ _))⟩))); try go_wp2_with (first | (go_at_call 54; (clear tk1_); (with_reducible refine (tally_Busy.calls k3 _ _ t496 4611686018427387904 t511 t512 _ ?side1 ?side2 A32.out).mono ?_); (case side1 => repeat (first | exact (Kd.R_reads' HO_9.out).2.2 | (with_reducible refine Kd.C_alloc ?_ _) | (with_reducible refine Kd.C_drewN ?_ _) | (with_reducible refine Kd.C_drew ?_))); (case side2 => exact (Kd.R_reads' HO_9.out).2.1); rintro e w' ⟨rfl, ⟨nd, rfl⟩⟩; (try first | exact ⟨rfl, _, World.drewN_drewN _ _ _⟩ | exact ⟨rfl, _, Eq.trans (World.drewN_drewN _ _ _) (congrArg (World.drewN _) (Nat.add_assoc _ _ _))⟩))))
                            go_ret
                            exact ⟨by first | rfl | (simp [errW_none, errW_some] <;> rfl) | (simp [*, errW_none, errW_some] <;> rfl), by repeat (first | (with_reducible first | exact HB.out | apply below_alloc | apply pw_below_drewN | apply below_drew1) | exact HB.out)⟩
                        · rw [if_neg c48] at H
                          have c48b0 : (t500 == 0) = false := beq_eq_false_iff_ne.mpr c48
                          have c48b1 : (t500 != 0) = true := bne_iff_ne.mpr c48
                          obtain rfl := Option.some.inj H
                          obtain ⟨Ao60, co60, eo60⟩ := Kd.R_slice HO_12.out
                          subst eo60
                          go_wp2_with (first | (go_at_call 54; (with_reducible refine (tally_Busy.calls k3 _ _ t496 4611686018427387904 t511 t512 _ ?side1 ?side2 A32.out).mono ?_); (case side1 => repeat (first | exact (Kd.R_reads' HO_9.out).2.2 | (with_reducible refine Kd.C_alloc ?_ _) | (with_reducible refine Kd.C_drewN ?_ _) | (with_reducible refine Kd.C_drew ?_))); (case side2 => exact (Kd.R_reads' HO_9.out).2.1); rintro e w' ⟨rfl, ⟨nd, rfl⟩⟩; (try first | exact ⟨rfl, _, World.drewN_drewN _ _ _⟩ | exact ⟨rfl, _, Eq.trans (World.drewN_drewN _ _ _) (congrArg (World.drewN _) (Nat.add_assoc _ _ _))⟩)))
                          have tk0_ : True := trivial
                          have tk1_ : True := trivial
                          repeat (go_quiet (first | (go_at_call 54; (clear tk0_); (with_reducible refine (tally_Busy.calls k3 _ _ t496 4611686018427387904 t511 t512 _ ?side1 ?side2 A32.out).mono ?_); (case side1 => repeat (first | exact (Kd.R_reads' HO_9.out).2.2 | (with_reducible refine Kd.C_alloc ?_ _) | (with_reducible refine Kd.C_drewN ?_ _) | (with_reducible refine Kd.C_drew ?_))); (case side2 => exact (Kd.R_reads' HO_9.out).2.1); rintro e w' ⟨rfl, ⟨nd, rfl⟩⟩; (try first | exact ⟨rfl, _, World.drewN_drewN _ _ _⟩ | exact ⟨rfl, _, Eq.trans (World.drewN_drewN _ _ _) (congrArg (World.drewN _) (Nat.add_assoc _ _ _))⟩))); try go_wp2_with (first | (go_at_call 54; (clear tk1_); (with_reducible refine (tally_Busy.calls k3 _ _ t496 4611686018427387904 t511 t512 _ ?side1 ?side2 A32.out).mono ?_); (case side1 => repeat (first | exact (Kd.R_reads' HO_9.out).2.2 | (with_reducible refine Kd.C_alloc ?_ _) | (with_reducible refine Kd.C_drewN ?_ _) | (with_reducible refine Kd.C_drew ?_))); (case side2 => exact (Kd.R_reads' HO_9.out).2.1); rintro e w' ⟨rfl, ⟨nd, rfl⟩⟩; (try first | exact ⟨rfl, _, World.drewN_drewN _ _ _⟩ | exact ⟨rfl, _, Eq.trans (World.drewN_drewN _ _ _) (congrArg (World.drewN _) (Nat.add_assoc _ _ _))⟩))))
                          go_ret
                          exact ⟨by first | rfl | (simp [errW_none, errW_some] <;> rfl) | (simp [*, errW_none, errW_some] <;> rfl), by repeat (first | (with_reducible first | exact HB.out | apply below_alloc | apply pw_below_drewN | apply below_drew1) | exact HB.out)⟩
        · rw [if_neg c11] at H
          have c11b0 : (t492 == 0) = false := beq_eq_false_iff_ne.mpr c11
          have c11b1 : (t492 != 0) = true := bne_iff_ne.mpr c11
          replace H := Option.bind_eq_some_iff.mp H
          obtain ⟨t495, A610, H⟩ := H
          replace H : (some t495) = some r := H
          have A61 := Aside0.mk A610
          clear A610
          obtain rfl := Option.some.inj H
          go_wp2_with (first | (go_at_call 57; (with_reducible refine (juratref10_New.calls kj3 _ _ l0 t491 t492 _ ?side1 ?side2 A10.out).mono ?_); (case side1 => repeat (first | exact (Kd.C_below HR0.out HB.out) | (with_reducible refine Kd.C_alloc ?_ _) | (with_reducible refine Kd.C_drewN ?_ _) | (with_reducible refine Kd.C_drew ?_))); (case side2 => exact HC0.out); rintro e w62 ⟨v493, rfl, ho0, hb⟩; have n0_ := Aside0.mk (Kd.R_lower ho0 (below_size (by repeat (first | (with_reducible first | exact HB.out | apply below_alloc | apply pw_below_drewN | apply below_drew1) | exact HB.out)))); have n1_ := Aside0.mk (below_step (by repeat (first | (with_reducible first | exact HB.out | apply below_alloc | apply pw_below_drewN | apply below_drew1) | exact HB.out)) hb); clear HB; have HO494 := n0_; have HB := n1_; clear n0_ n1_; (try clear hb); (try clear hb2); (try clear hk); (try clear hi); (try clear ho0)) | (go_at_call 47; (with_reducible refine (juratlaw47_awake.calls kj3  t495 _ A61.out).mono ?_); rintro e w63 ⟨rfl, hb⟩; have n0_ := Aside0.mk (Kd.R_below (by (with_reducible repeat (first | apply Kd.R_alloc | apply Kd.R_drewN | apply Kd.R_drew)); exact HO494.out) hb); have n1_ := Aside0.mk (below_step (by repeat (first | (with_reducible first | exact HB.out | apply below_alloc | apply pw_below_drewN | apply below_drew1) | exact HB.out)) hb); clear HO494; clear HB; have HO494 := n0_; have HB := n1_; clear n0_ n1_; (try clear hb); (try clear hb2); (try clear hk); (try clear hi)))
          have tk0_ : True := trivial
          have tk1_ : True := trivial
          repeat (go_quiet (first | (go_at_call 57; (clear tk0_); (with_reducible refine (juratref10_New.calls kj3 _ _ l0 t491 t492 _ ?side1 ?side2 A10.out).mono ?_); (case side1 => repeat (first | exact (Kd.C_below HR0.out HB.out) | (with_reducible refine Kd.C_alloc ?_ _) | (with_reducible refine Kd.C_drewN ?_ _) | (with_reducible refine Kd.C_drew ?_))); (case side2 => exact HC0.out); rintro e w62 ⟨v493, rfl, ho0, hb⟩; have n0_ := Aside0.mk (Kd.R_lower ho0 (below_size (by repeat (first | (with_reducible first | exact HB.out | apply below_alloc | apply pw_below_drewN | apply below_drew1) | exact HB.out)))); have n1_ := Aside0.mk (below_step (by repeat (first | (with_reducible first | exact HB.out | apply below_alloc | apply pw_below_drewN | apply below_drew1) | exact HB.out)) hb); clear HB; have HO494 := n0_; have HB := n1_; clear n0_ n1_; (try clear hb); (try clear hb2); (try clear hk); (try clear hi); (try clear ho0)) | (go_at_call 47; (with_reducible refine (juratlaw47_awake.calls kj3  t495 _ A61.out).mono ?_); rintro e w63 ⟨rfl, hb⟩; have n0_ := Aside0.mk (Kd.R_below (by (with_reducible repeat (first | apply Kd.R_alloc | apply Kd.R_drewN | apply Kd.R_drew)); exact HO494.out) hb); have n1_ := Aside0.mk (below_step (by repeat (first | (with_reducible first | exact HB.out | apply below_alloc | apply pw_below_drewN | apply below_drew1) | exact HB.out)) hb); clear HO494; clear HB; have HO494 := n0_; have HB := n1_; clear n0_ n1_; (try clear hb); (try clear hb2); (try clear hk); (try clear hi))); try go_wp2_with (first | (go_at_call 57; (clear tk1_); (with_reducible refine (juratref10_New.calls kj3 _ _ l0 t491 t492 _ ?side1 ?side2 A10.out).mono ?_); (case side1 => repeat (first | exact (Kd.C_below HR0.out HB.out) | (with_reducible refine Kd.C_alloc ?_ _) | (with_reducible refine Kd.C_drewN ?_ _) | (with_reducible refine Kd.C_drew ?_))); (case side2 => exact HC0.out); rintro e w62 ⟨v493, rfl, ho0, hb⟩; have n0_ := Aside0.mk (Kd.R_lower ho0 (below_size (by repeat (first | (with_reducible first | exact HB.out | apply below_alloc | apply pw_below_drewN | apply below_drew1) | exact HB.out)))); have n1_ := Aside0.mk (below_step (by repeat (first | (with_reducible first | exact HB.out | apply below_alloc | apply pw_below_drewN | apply below_drew1) | exact HB.out)) hb); clear HB; have HO494 := n0_; have HB := n1_; clear n0_ n1_; (try clear hb); (try clear hb2); (try clear hk); (try clear hi); (try clear ho0)) | (go_at_call 47; (with_reducible refine (juratlaw47_awake.calls kj3  t495 _ A61.out).mono ?_); rintro e w63 ⟨rfl, hb⟩; have n0_ := Aside0.mk (Kd.R_below (by (with_reducible repeat (first | apply Kd.R_alloc | apply Kd.R_drewN | apply Kd.R_drew)); exact HO494.out) hb); have n1_ := Aside0.mk (below_step (by repeat (first | (with_reducible first | exact HB.out | apply below_alloc | apply pw_below_drewN | apply below_drew1) | exact HB.out)) hb); clear HO494; clear HB; have HO494 := n0_; have HB := n1_; clear n0_ n1_; (try clear hb); (try clear hb2); (try clear hk); (try clear hi))))
          go_ret
          exact ⟨by first | rfl | (simp [errW_none, errW_some] <;> rfl) | (simp [*, errW_none, errW_some] <;> rfl), by repeat (first | (with_reducible first | exact HB.out | apply below_alloc | apply pw_below_drewN | apply below_drew1) | exact HB.out)⟩

end Go.Proofs.Ytmkcoobmbjoloaa.P
