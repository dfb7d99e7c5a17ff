/- Proved here: the row of the law OccTells, with texts that lead to it, merged by a program of this session (wip/merge.py), part 2 of 2; no condition beyond the statement's own. -/
import Derived.Test.YtekdmkdidnnpbaaPx0
import Derived.Test.YtekdmkdidnnpbaaPx21
import Derived.Test.YtekdmkdidnnpbaaPx26
import Derived.Test.YtekdmkdidnnpbaaH10
import Derived.Test.YtekdmkdidnnpbaaH15
import Derived.Test.YtekdmkdidnnpbaaH15y
import Derived.Test.YtekdmkdidnnpbaaBase
import Derived.Test.YtekdmkdidnnpbaaL08
import Derived.Test.YtekdmkdidnnpbaaH09t
import Derived.Test.YtekdmkdidnnpbaaPx68
import Derived.Test.YtekdmkdidnnpbaaP10
import Derived.Test.YtekdmkdidnnpbaaH10b
import Derived.Test.YtekdmkdidnnpbaaWLast
import Derived.Laws.BitsLemmas
import Derived.Test.YtekdmkdidnnpbaaSame1
import Derived.SizedLaws
import Derived.SliceStrings
import Derived.Test.YtekdmkdidnnpbaaWWords
import Derived.Test.YtekdmkdidnnpbaaWSized
import Derived.Test.YtekdmkdidnnpbaaRows
import Derived.WalkKit
import Derived.ProofKit
import Derived.OpenShut
import Derived.ShutString
import Derived.ChangeOld
import Derived.Below
import Derived.Carry
import Derived.Test.YtekdmkdidnnpbaaZOccTellsa
/- Proved here: what Go functions of this seat compute, or a law of it; no condition beyond the statement's own. Written for this claim by a program of this session (wip/myprint.py) over the kit's print.py. -/
namespace Go.Proofs.Ytekdmkdidnnpbaa.P
open Go.RowKit Go.Proofs.YtekdmkdidnnpbaaW.PrintWords Go.Proofs.YtekdmkdidnnpbaaW.PrintLast Go.Proofs.YtekdmkdidnnpbaaW.PrintMore
attribute [local go_sem] max2_int min2_int max_two min_two max_three min_three max_four min_four   -- for this text's walks alone
set_option linter.unusedVariables false
set_option linter.unusedSimpArgs false

/-! ### juratlaw15_OccTells: function 5 -/
mutual
def juratlaw15_OccTells.j0 : Nat → List ByteArray → ByteArray → Int → Bool → Option (Bool)
  | 0, _, _, _, _ => none
  | k + 1, x0, x1, x2, x21 => if x21 = true then ((juratlaw15_awake.f k).bind fun t293 => (some t293)) else ((pats_New.f x0).bind fun bt294 => ((juratref10_New.f k x0).bind fun bt296 => ((juratref15_All.f k bt296.1 x1).bind fun t300 => ((occ_Counts.f k bt294.1 x1).bind fun t303 => ((occ_All.f bt294.1 x1).bind fun t306 => ((juratref15_Same.f k t306 t300).bind fun t309 => (if t309 = true then ((occ_At.f k bt294.1 x1 x2).bind fun t310 => ((juratref15_At.f k bt296.1 x1 x2).bind fun t313 => ((juratref01_Same.f k t310 t313).bind fun t316 => (if t316 = true then ((occ_Any.f bt294.1 x1).bind fun t317 => (if (t317 != (decide ((t300.length : Int) > 0))) = true then (juratlaw15_OccTells.j1 k x1 bt296.1 t303 true) else (juratlaw15_OccTells.j1 k x1 bt296.1 t303 ((t303.length : Int) != (bt296.1.length : Int))))) else (juratlaw15_OccTells.j1 k x1 bt296.1 t303 true))))) else (juratlaw15_OccTells.j1 k x1 bt296.1 t303 true))))))))
def juratlaw15_OccTells.j1 : Nat → ByteArray → List ByteArray → List Int → Bool → Option (Bool)
  | 0, _, _, _, _ => none
  | k + 1, x1, x9, x12, x72 => if x72 = true then (some false) else (juratlaw15_OccTells.l0 k x1 x9 x12 0)
def juratlaw15_OccTells.l0 : Nat → ByteArray → List ByteArray → List Int → Int → Option (Bool)
  | 0, _, _, _, _ => none
  | k + 1, x1, x9, x12, x13 => if x13 < (x9.length : Int) then (if 0 ≤ x13 then (if x13 < (x12.length : Int) then ((juratref15_Count.f k (rdOf ByteArray.empty x9 x13) x1).bind fun t320 => (if (rd x12 x13) = t320 then (juratlaw15_OccTells.l0 k x1 x9 x12 (wrap64 (x13 + 1))) else (some false))) else (none)) else (none)) else ((juratlaw15_awake.f k).bind fun t321 => (some t321))
end
def juratlaw15_OccTells.f (k : Nat) (l0 : List ByteArray) (a1 : ByteArray) (a2 : Int) : Option (Bool) := (juratref09_Few.f k l0 12 20).bind fun t292 => (if t292 = true then (juratlaw15_OccTells.j0 k l0 a1 a2 (decide ((a1.size : Int) > 100))) else (juratlaw15_OccTells.j0 k l0 a1 a2 true))
theorem juratlaw15_OccTells.mono_l : ∀ k, (∀ y0 y1 y2 y3, LeO (juratlaw15_OccTells.j0 k y0 y1 y2 y3) (juratlaw15_OccTells.j0 (k + 1) y0 y1 y2 y3)) ∧ (∀ y0 y1 y2 y3, LeO (juratlaw15_OccTells.j1 k y0 y1 y2 y3) (juratlaw15_OccTells.j1 (k + 1) y0 y1 y2 y3)) ∧ (∀ y0 y1 y2 y3, LeO (juratlaw15_OccTells.l0 k y0 y1 y2 y3) (juratlaw15_OccTells.l0 (k + 1) y0 y1 y2 y3))
  | 0 => ⟨fun _ _ _ _ r h => by simp [juratlaw15_OccTells.j0] at h, fun _ _ _ _ r h => by simp [juratlaw15_OccTells.j1] at h, fun _ _ _ _ r h => by simp [juratlaw15_OccTells.l0] at h⟩
  | k + 1 => by
    obtain ⟨ih0, ih1, ih2⟩ := juratlaw15_OccTells.mono_l k
    refine ⟨?_, ?_, ?_⟩
    · intro y0 y1 y2 y3
      unfold juratlaw15_OccTells.j0
      repeat' first
      | (with_reducible exact ih0 _ _ _ _)
      | (with_reducible exact ih1 _ _ _ _)
      | (with_reducible exact ih2 _ _ _ _)
      | (with_reducible exact juratlaw15_awake.mono _)
      | (with_reducible exact juratref01_Same.mono _ _ _)
      | (with_reducible exact juratref09_Few.mono _ _ _ _)
      | (with_reducible exact juratref10_New.mono _ _)
      | (with_reducible exact juratref15_All.mono _ _ _)
      | (with_reducible exact juratref15_At.mono _ _ _ _)
      | (with_reducible exact juratref15_Count.mono _ _ _)
      | (with_reducible exact juratref15_Same.mono _ _ _)
      | (with_reducible exact occ_At.mono _ _ _ _)
      | (with_reducible exact occ_Counts.mono _ _ _)
      | (with_reducible exact LeO.refl _)
      | (with_reducible exact LeO.none _)
      | (with_reducible refine LeO.ite ?_ ?_)
      | (with_reducible refine LeO.bind ?_ (fun _ => ?_))
      | exact ih0 _ _ _ _
      | exact ih1 _ _ _ _
      | exact ih2 _ _ _ _
      | exact juratlaw15_awake.mono _
      | exact juratref01_Same.mono _ _ _
      | exact juratref09_Few.mono _ _ _ _
      | exact juratref10_New.mono _ _
      | exact juratref15_All.mono _ _ _
      | exact juratref15_At.mono _ _ _ _
      | exact juratref15_Count.mono _ _ _
      | exact juratref15_Same.mono _ _ _
      | exact occ_At.mono _ _ _ _
      | exact occ_Counts.mono _ _ _
      | exact LeO.none _
      | refine LeO.ite ?_ ?_
      | refine LeO.bind ?_ (fun _ => ?_)
    · intro y0 y1 y2 y3
      unfold juratlaw15_OccTells.j1
      repeat' first
      | (with_reducible exact ih0 _ _ _ _)
      | (with_reducible exact ih1 _ _ _ _)
      | (with_reducible exact ih2 _ _ _ _)
      | (with_reducible exact juratlaw15_awake.mono _)
      | (with_reducible exact juratref01_Same.mono _ _ _)
      | (with_reducible exact juratref09_Few.mono _ _ _ _)
      | (with_reducible exact juratref10_New.mono _ _)
      | (with_reducible exact juratref15_All.mono _ _ _)
      | (with_reducible exact juratref15_At.mono _ _ _ _)
      | (with_reducible exact juratref15_Count.mono _ _ _)
      | (with_reducible exact juratref15_Same.mono _ _ _)
      | (with_reducible exact occ_At.mono _ _ _ _)
      | (with_reducible exact occ_Counts.mono _ _ _)
      | (with_reducible exact LeO.refl _)
      | (with_reducible exact LeO.none _)
      | (with_reducible refine LeO.ite ?_ ?_)
      | (with_reducible refine LeO.bind ?_ (fun _ => ?_))
      | exact ih0 _ _ _ _
      | exact ih1 _ _ _ _
      | exact ih2 _ _ _ _
      | exact juratlaw15_awake.mono _
      | exact juratref01_Same.mono _ _ _
      | exact juratref09_Few.mono _ _ _ _
      | exact juratref10_New.mono _ _
      | exact juratref15_All.mono _ _ _
      | exact juratref15_At.mono _ _ _ _
      | exact juratref15_Count.mono _ _ _
      | exact juratref15_Same.mono _ _ _
      | exact occ_At.mono _ _ _ _
      | exact occ_Counts.mono _ _ _
      | exact LeO.none _
      | refine LeO.ite ?_ ?_
      | refine LeO.bind ?_ (fun _ => ?_)
    · intro y0 y1 y2 y3
      unfold juratlaw15_OccTells.l0
      repeat' first
      | (with_reducible exact ih0 _ _ _ _)
      | (with_reducible exact ih1 _ _ _ _)
      | (with_reducible exact ih2 _ _ _ _)
      | (with_reducible exact juratlaw15_awake.mono _)
      | (with_reducible exact juratref01_Same.mono _ _ _)
      | (with_reducible exact juratref09_Few.mono _ _ _ _)
      | (with_reducible exact juratref10_New.mono _ _)
      | (with_reducible exact juratref15_All.mono _ _ _)
      | (with_reducible exact juratref15_At.mono _ _ _ _)
      | (with_reducible exact juratref15_Count.mono _ _ _)
      | (with_reducible exact juratref15_Same.mono _ _ _)
      | (with_reducible exact occ_At.mono _ _ _ _)
      | (with_reducible exact occ_Counts.mono _ _ _)
      | (with_reducible exact LeO.refl _)
      | (with_reducible exact LeO.none _)
      | (with_reducible refine LeO.ite ?_ ?_)
      | (with_reducible refine LeO.bind ?_ (fun _ => ?_))
      | exact ih0 _ _ _ _
      | exact ih1 _ _ _ _
      | exact ih2 _ _ _ _
      | exact juratlaw15_awake.mono _
      | exact juratref01_Same.mono _ _ _
      | exact juratref09_Few.mono _ _ _ _
      | exact juratref10_New.mono _ _
      | exact juratref15_All.mono _ _ _
      | exact juratref15_At.mono _ _ _ _
      | exact juratref15_Count.mono _ _ _
      | exact juratref15_Same.mono _ _ _
      | exact occ_At.mono _ _ _ _
      | exact occ_Counts.mono _ _ _
      | exact LeO.none _
      | refine LeO.ite ?_ ?_
      | refine LeO.bind ?_ (fun _ => ?_)
theorem juratlaw15_OccTells.mono : ∀ a0 a1 a2 k, LeO (juratlaw15_OccTells.f k a0 a1 a2) (juratlaw15_OccTells.f (k + 1) a0 a1 a2) := by
  intro a0 a1 a2 k
  obtain ⟨ih0, ih1, ih2⟩ := juratlaw15_OccTells.mono_l k
  unfold juratlaw15_OccTells.f
  repeat' first
      | (with_reducible exact ih0 _ _ _ _)
      | (with_reducible exact ih1 _ _ _ _)
      | (with_reducible exact ih2 _ _ _ _)
      | (with_reducible exact juratlaw15_awake.mono _)
      | (with_reducible exact juratref01_Same.mono _ _ _)
      | (with_reducible exact juratref09_Few.mono _ _ _ _)
      | (with_reducible exact juratref10_New.mono _ _)
      | (with_reducible exact juratref15_All.mono _ _ _)
      | (with_reducible exact juratref15_At.mono _ _ _ _)
      | (with_reducible exact juratref15_Count.mono _ _ _)
      | (with_reducible exact juratref15_Same.mono _ _ _)
      | (with_reducible exact occ_At.mono _ _ _ _)
      | (with_reducible exact occ_Counts.mono _ _ _)
      | (with_reducible exact LeO.refl _)
      | (with_reducible exact LeO.none _)
      | (with_reducible refine LeO.ite ?_ ?_)
      | (with_reducible refine LeO.bind ?_ (fun _ => ?_))
      | exact ih0 _ _ _ _
      | exact ih1 _ _ _ _
      | exact ih2 _ _ _ _
      | exact juratlaw15_awake.mono _
      | exact juratref01_Same.mono _ _ _
      | exact juratref09_Few.mono _ _ _ _
      | exact juratref10_New.mono _ _
      | exact juratref15_All.mono _ _ _
      | exact juratref15_At.mono _ _ _ _
      | exact juratref15_Count.mono _ _ _
      | exact juratref15_Same.mono _ _ _
      | exact occ_At.mono _ _ _ _
      | exact occ_Counts.mono _ _ _
      | exact LeO.none _
      | refine LeO.ite ?_ ?_
      | refine LeO.bind ?_ (fun _ => ?_)
set_option maxHeartbeats 8000000 in
set_option maxRecDepth 100000 in
theorem juratlaw15_OccTells.calls (k : Nat) (A0 : Option Addr) (c0 : Nat) (l0 : List ByteArray) (a1 : ByteArray) (a2 : Int) (r : Bool) (w : World) (hr0 : Kd.C Kd.string w A0 l0.length l0) (hc0 : l0.length ≤ c0) (h : juratlaw15_OccTells.f k l0 a1 a2 = some r) :
    Calls Try.prog 5 #[.slice A0 l0.length c0, .string a1, .int .i64 a2] w fun e w' => e = .returned (.bool r) ∧ Below w.heap.size w w' := by
  have HR0 := Aside0.mk hr0
  have HC0 := Aside0.mk hc0
  clear hr0 hc0
  have HB := Aside0.mk (Below.refl w.heap.size w)
  have H : ((juratref09_Few.f k l0 12 20).bind fun t292 => (if t292 = true then (juratlaw15_OccTells.j0 k l0 a1 a2 (decide ((a1.size : Int) > 100))) else (juratlaw15_OccTells.j0 k l0 a1 a2 true))) = some r := h
  clear h
  have HC4 := Aside0.mk H
  clear H
  go_enter Try.func5, Try.ntmps5
  go_upto_region 1 with (fail)
  repeat (go_quiet (fail); go_upto_region 1 with (fail))
  go_cut [21] (fun v21 wc => ∃ (kq : Nat) (x21_3 : Bool), v21 = .bool x21_3 ∧ Aside0 (juratlaw15_OccTells.j0 kq l0 a1 a2 x21_3 = some r) ∧ Aside0 (kq ≤ k) ∧ Aside0 (Below w.heap.size w wc))
  case first =>
    have H := HC4.out
    clear HC4
    replace H := Option.bind_eq_some_iff.mp H
    obtain ⟨t292, A50, H⟩ := H
    replace H : (if t292 = true then (juratlaw15_OccTells.j0 k l0 a1 a2 (decide ((a1.size : Int) > 100))) else (juratlaw15_OccTells.j0 k l0 a1 a2 true)) = some r := H
    have A5 := Aside0.mk A50
    clear A50
    by_cases c6 : t292 = true
    · subst c6
      have H1 : (juratlaw15_OccTells.j0 k l0 a1 a2 (decide ((a1.size : Int) > 100))) = some r := by rw [if_pos rfl] at H; exact H
      clear H
      have H := H1
      clear H1
      have H' := Aside0.mk H
      clear H
      go_wp2_with (first | (go_at_call 18; (with_reducible refine (juratref09_Few.calls k _ _ l0 12 20 true _ ?side1 ?side2 A5.out).mono ?_); (case side1 => repeat (first | exact (Kd.C_below HR0.out HB.out) | (with_reducible refine Kd.C_alloc ?_ _) | (with_reducible refine Kd.C_drewN ?_ _) | (with_reducible refine Kd.C_drew ?_))); (case side2 => exact HC0.out); rintro e w' ⟨rfl, ⟨nd, rfl⟩⟩; (try first | exact ⟨rfl, _, World.drewN_drewN _ _ _⟩ | exact ⟨rfl, _, Eq.trans (World.drewN_drewN _ _ _) (congrArg (World.drewN _) (Nat.add_assoc _ _ _))⟩)))
      have tk0_ : True := trivial
      have tk1_ : True := trivial
      repeat (go_quiet (first | (go_at_call 18; (clear tk0_); (with_reducible refine (juratref09_Few.calls k _ _ l0 12 20 true _ ?side1 ?side2 A5.out).mono ?_); (case side1 => repeat (first | exact (Kd.C_below HR0.out HB.out) | (with_reducible refine Kd.C_alloc ?_ _) | (with_reducible refine Kd.C_drewN ?_ _) | (with_reducible refine Kd.C_drew ?_))); (case side2 => exact HC0.out); rintro e w' ⟨rfl, ⟨nd, rfl⟩⟩; (try first | exact ⟨rfl, _, World.drewN_drewN _ _ _⟩ | exact ⟨rfl, _, Eq.trans (World.drewN_drewN _ _ _) (congrArg (World.drewN _) (Nat.add_assoc _ _ _))⟩))); try go_wp2_with (first | (go_at_call 18; (clear tk1_); (with_reducible refine (juratref09_Few.calls k _ _ l0 12 20 true _ ?side1 ?side2 A5.out).mono ?_); (case side1 => repeat (first | exact (Kd.C_below HR0.out HB.out) | (with_reducible refine Kd.C_alloc ?_ _) | (with_reducible refine Kd.C_drewN ?_ _) | (with_reducible refine Kd.C_drew ?_))); (case side2 => exact HC0.out); rintro e w' ⟨rfl, ⟨nd, rfl⟩⟩; (try first | exact ⟨rfl, _, World.drewN_drewN _ _ _⟩ | exact ⟨rfl, _, Eq.trans (World.drewN_drewN _ _ _) (congrArg (World.drewN _) (Nat.add_assoc _ _ _))⟩))))
      go_meet
      case rel => exact ⟨_, (decide ((a1.size : Int) > 100)), (by first | rfl | exact isE_ _ | exact isE2_ _ | (simp; done) | (simp [*]; done)), H', ⟨by first | omega | exact Nat.le_refl _⟩, ⟨by repeat (first | (with_reducible first | exact HB.out | apply below_alloc | apply pw_below_drewN | apply below_drew1) | exact HB.out)⟩⟩
    · replace c6 := Bool.eq_false_iff.mpr c6
      subst c6
      have H1 : (juratlaw15_OccTells.j0 k l0 a1 a2 true) = some r := by rw [if_neg (show ¬ (false = true) by decide)] at H; exact H
      clear H
      have H := H1
      clear H1
      have H' := Aside0.mk H
      clear H
      go_wp2_with (first | (go_at_call 18; (with_reducible refine (juratref09_Few.calls k _ _ l0 12 20 false _ ?side1 ?side2 A5.out).mono ?_); (case side1 => repeat (first | exact (Kd.C_below HR0.out HB.out) | (with_reducible refine Kd.C_alloc ?_ _) | (with_reducible refine Kd.C_drewN ?_ _) | (with_reducible refine Kd.C_drew ?_))); (case side2 => exact HC0.out); rintro e w' ⟨rfl, ⟨nd, rfl⟩⟩; (try first | exact ⟨rfl, _, World.drewN_drewN _ _ _⟩ | exact ⟨rfl, _, Eq.trans (World.drewN_drewN _ _ _) (congrArg (World.drewN _) (Nat.add_assoc _ _ _))⟩)))
      have tk0_ : True := trivial
      have tk1_ : True := trivial
      repeat (go_quiet (first | (go_at_call 18; (clear tk0_); (with_reducible refine (juratref09_Few.calls k _ _ l0 12 20 false _ ?side1 ?side2 A5.out).mono ?_); (case side1 => repeat (first | exact (Kd.C_below HR0.out HB.out) | (with_reducible refine Kd.C_alloc ?_ _) | (with_reducible refine Kd.C_drewN ?_ _) | (with_reducible refine Kd.C_drew ?_))); (case side2 => exact HC0.out); rintro e w' ⟨rfl, ⟨nd, rfl⟩⟩; (try first | exact ⟨rfl, _, World.drewN_drewN _ _ _⟩ | exact ⟨rfl, _, Eq.trans (World.drewN_drewN _ _ _) (congrArg (World.drewN _) (Nat.add_assoc _ _ _))⟩))); try go_wp2_with (first | (go_at_call 18; (clear tk1_); (with_reducible refine (juratref09_Few.calls k _ _ l0 12 20 false _ ?side1 ?side2 A5.out).mono ?_); (case side1 => repeat (first | exact (Kd.C_below HR0.out HB.out) | (with_reducible refine Kd.C_alloc ?_ _) | (with_reducible refine Kd.C_drewN ?_ _) | (with_reducible refine Kd.C_drew ?_))); (case side2 => exact HC0.out); rintro e w' ⟨rfl, ⟨nd, rfl⟩⟩; (try first | exact ⟨rfl, _, World.drewN_drewN _ _ _⟩ | exact ⟨rfl, _, Eq.trans (World.drewN_drewN _ _ _) (congrArg (World.drewN _) (Nat.add_assoc _ _ _))⟩))))
      go_meet
      case rel => exact ⟨_, (true), (by first | rfl | exact isE_ _ | exact isE2_ _ | (simp; done) | (simp [*]; done)), H', ⟨by first | omega | exact Nat.le_refl _⟩, ⟨by repeat (first | (with_reducible first | exact HB.out | apply below_alloc | apply pw_below_drewN | apply below_drew1) | exact HB.out)⟩⟩
  case rest =>
    clear HC4
    try clear p2
    try clear c5
    try clear c6
    obtain ⟨kq, x21_3, rfl, HA, HJ3, HB⟩ := hcut
    cases kq with
    | zero => exact absurd HA.out (by simp [juratlaw15_OccTells.j0])
    | succ kj3 =>
      have H := HA.out
      clear HA
      simp only [juratlaw15_OccTells.j0] at H
      by_cases c7 : x21_3 = true
      · subst c7
        have H1 : ((juratlaw15_awake.f kj3).bind fun t293 => (some t293)) = some r := by rw [if_pos rfl] at H; exact H
        clear H
        have H := H1
        clear H1
        replace H := Option.bind_eq_some_iff.mp H
        obtain ⟨t293, A80, H⟩ := H
        replace H : (some t293) = some r := H
        have A8 := Aside0.mk A80
        clear A80
        obtain rfl := Option.some.inj H
        go_wp2_with (first | (go_at_call 13; (with_reducible refine (juratlaw15_awake.calls kj3  t293 _ A8.out).mono ?_); rintro e w9 ⟨rfl, hb⟩; have n0_ := Aside0.mk (below_step (by repeat (first | (with_reducible first | exact HB.out | apply below_alloc | apply pw_below_drewN | apply below_drew1) | exact HB.out)) hb); clear HB; have HB := n0_; clear n0_; (try clear hb); (try clear hb2); (try clear hk); (try clear hi)))
        repeat (go_quiet (first | (go_at_call 13; (with_reducible refine (juratlaw15_awake.calls kj3  t293 _ A8.out).mono ?_); rintro e w9 ⟨rfl, hb⟩; have n0_ := Aside0.mk (below_step (by repeat (first | (with_reducible first | exact HB.out | apply below_alloc | apply pw_below_drewN | apply below_drew1) | exact HB.out)) hb); clear HB; have HB := n0_; clear n0_; (try clear hb); (try clear hb2); (try clear hk); (try clear hi))); try go_wp2_with (first | (go_at_call 13; (with_reducible refine (juratlaw15_awake.calls kj3  t293 _ A8.out).mono ?_); rintro e w9 ⟨rfl, hb⟩; have n0_ := Aside0.mk (below_step (by repeat (first | (with_reducible first | exact HB.out | apply below_alloc | apply pw_below_drewN | apply below_drew1) | exact HB.out)) hb); clear HB; have HB := n0_; clear n0_; (try clear hb); (try clear hb2); (try clear hk); (try clear hi))))
        go_ret
        exact ⟨by first | rfl | (simp [errW_none, errW_some] <;> rfl) | (simp [*, errW_none, errW_some] <;> rfl), by first | (refine HB00.out.trans (Below.mono ?_ HB00.out.size); (repeat (first | (with_reducible first | exact HB.out | apply below_alloc | apply pw_below_drewN | apply below_drew1) | exact HB.out))) | (repeat (first | (with_reducible first | exact HB.out | apply below_alloc | apply pw_below_drewN | apply below_drew1) | exact HB.out))⟩
      · replace c7 := Bool.eq_false_iff.mpr c7
        subst c7
        have H1 : ((pats_New.f l0).bind fun bt294 => ((juratref10_New.f kj3 l0).bind fun bt296 => ((juratref15_All.f kj3 bt296.1 a1).bind fun t300 => ((occ_Counts.f kj3 bt294.1 a1).bind fun t303 => ((occ_All.f bt294.1 a1).bind fun t306 => ((juratref15_Same.f kj3 t306 t300).bind fun t309 => (if t309 = true then ((occ_At.f kj3 bt294.1 a1 a2).bind fun t310 => ((juratref15_At.f kj3 bt296.1 a1 a2).bind fun t313 => ((juratref01_Same.f kj3 t310 t313).bind fun t316 => (if t316 = true then ((occ_Any.f bt294.1 a1).bind fun t317 => (if (t317 != (decide ((t300.length : Int) > 0))) = true then (juratlaw15_OccTells.j1 kj3 a1 bt296.1 t303 true) else (juratlaw15_OccTells.j1 kj3 a1 bt296.1 t303 ((t303.length : Int) != (bt296.1.length : Int))))) else (juratlaw15_OccTells.j1 kj3 a1 bt296.1 t303 true))))) else (juratlaw15_OccTells.j1 kj3 a1 bt296.1 t303 true)))))))) = some r := by rw [if_neg (show ¬ (false = true) by decide)] at H; exact H
        clear H
        have H := H1
        clear H1
        replace H := Option.bind_eq_some_iff.mp H
        obtain ⟨⟨t294, t295⟩, A100, H⟩ := H
        replace H : ((juratref10_New.f kj3 l0).bind fun bt296 => ((juratref15_All.f kj3 bt296.1 a1).bind fun t300 => ((occ_Counts.f kj3 t294 a1).bind fun t303 => ((occ_All.f t294 a1).bind fun t306 => ((juratref15_Same.f kj3 t306 t300).bind fun t309 => (if t309 = true then ((occ_At.f kj3 t294 a1 a2).bind fun t310 => ((juratref15_At.f kj3 bt296.1 a1 a2).bind fun t313 => ((juratref01_Same.f kj3 t310 t313).bind fun t316 => (if t316 = true then ((occ_Any.f t294 a1).bind fun t317 => (if (t317 != (decide ((t300.length : Int) > 0))) = true then (juratlaw15_OccTells.j1 kj3 a1 bt296.1 t303 true) else (juratlaw15_OccTells.j1 kj3 a1 bt296.1 t303 ((t303.length : Int) != (bt296.1.length : Int))))) else (juratlaw15_OccTells.j1 kj3 a1 bt296.1 t303 true))))) else (juratlaw15_OccTells.j1 kj3 a1 bt296.1 t303 true))))))) = some r := H
        have A10 := Aside0.mk A100
        clear A100
        replace H := Option.bind_eq_some_iff.mp H
        obtain ⟨⟨t296, t297⟩, A110, H⟩ := H
        replace H : ((juratref15_All.f kj3 t296 a1).bind fun t300 => ((occ_Counts.f kj3 t294 a1).bind fun t303 => ((occ_All.f t294 a1).bind fun t306 => ((juratref15_Same.f kj3 t306 t300).bind fun t309 => (if t309 = true then ((occ_At.f kj3 t294 a1 a2).bind fun t310 => ((juratref15_At.f kj3 t296 a1 a2).bind fun t313 => ((juratref01_Same.f kj3 t310 t313).bind fun t316 => (if t316 = true then ((occ_Any.f t294 a1).bind fun t317 => (if (t317 != (decide ((t300.length : Int) > 0))) = true then (juratlaw15_OccTells.j1 kj3 a1 t296 t303 true) else (juratlaw15_OccTells.j1 kj3 a1 t296 t303 ((t303.length : Int) != (t296.length : Int))))) else (juratlaw15_OccTells.j1 kj3 a1 t296 t303 true))))) else (juratlaw15_OccTells.j1 kj3 a1 t296 t303 true)))))) = some r := H
        have A11 := Aside0.mk A110
        clear A110
        replace H := Option.bind_eq_some_iff.mp H
        obtain ⟨t300, A120, H⟩ := H
        replace H : ((occ_Counts.f kj3 t294 a1).bind fun t303 => ((occ_All.f t294 a1).bind fun t306 => ((juratref15_Same.f kj3 t306 t300).bind fun t309 => (if t309 = true then ((occ_At.f kj3 t294 a1 a2).bind fun t310 => ((juratref15_At.f kj3 t296 a1 a2).bind fun t313 => ((juratref01_Same.f kj3 t310 t313).bind fun t316 => (if t316 = true then ((occ_Any.f t294 a1).bind fun t317 => (if (t317 != (decide ((t300.length : Int) > 0))) = true then (juratlaw15_OccTells.j1 kj3 a1 t296 t303 true) else (juratlaw15_OccTells.j1 kj3 a1 t296 t303 ((t303.length : Int) != (t296.length : Int))))) else (juratlaw15_OccTells.j1 kj3 a1 t296 t303 true))))) else (juratlaw15_OccTells.j1 kj3 a1 t296 t303 true))))) = some r := H
        have A12 := Aside0.mk A120
        clear A120
        replace H := Option.bind_eq_some_iff.mp H
        obtain ⟨t303, A130, H⟩ := H
        replace H : ((occ_All.f t294 a1).bind fun t306 => ((juratref15_Same.f kj3 t306 t300).bind fun t309 => (if t309 = true then ((occ_At.f kj3 t294 a1 a2).bind fun t310 => ((juratref15_At.f kj3 t296 a1 a2).bind fun t313 => ((juratref01_Same.f kj3 t310 t313).bind fun t316 => (if t316 = true then ((occ_Any.f t294 a1).bind fun t317 => (if (t317 != (decide ((t300.length : Int) > 0))) = true then (juratlaw15_OccTells.j1 kj3 a1 t296 t303 true) else (juratlaw15_OccTells.j1 kj3 a1 t296 t303 ((t303.length : Int) != (t296.length : Int))))) else (juratlaw15_OccTells.j1 kj3 a1 t296 t303 true))))) else (juratlaw15_OccTells.j1 kj3 a1 t296 t303 true)))) = some r := H
        have A13 := Aside0.mk A130
        clear A130
        have HC14 := Aside0.mk H
        clear H
        go_upto_region 7 with (first | (go_at_call 19; (with_reducible refine (pats_New.calls _ _ l0 t294 t295 _ ?side1 ?side2 A10.out).mono ?_); (case side1 => repeat (first | exact (Kd.C_below HR0.out HB.out) | (with_reducible refine Kd.C_alloc ?_ _) | (with_reducible refine Kd.C_drewN ?_ _) | (with_reducible refine Kd.C_drew ?_))); (case side2 => exact HC0.out); rintro e w15 ⟨Pt294, rfl, hob0, hb⟩; have hbw_ := below_step (by repeat (first | (with_reducible first | exact HB.out | apply below_alloc | apply pw_below_drewN | apply below_drew1) | exact HB.out)) hb; (try (have n_ := Aside0.mk (Kd.C_below HR0.out hbw_); clear HR0; have HR0 := n_; clear n_)); (first | (have n_ := Aside0.mk (HB00.out.trans (hbw_.mono HB00.out.size)); clear HB00; have HB00 := n_; clear n_) | have HB00 := Aside0.mk hbw_); clear HB hb hbw_; have HO_t294 := Aside0.mk hob0; clear hob0; obtain ⟨w, rfl⟩ : ∃ w_ : World, w_ = w15 := ⟨_, rfl⟩; have HB := Aside0.mk (Below.refl w.heap.size w)) | (go_at_call 23; (with_reducible refine (juratref10_New.calls kj3 _ _ l0 t296 t297 _ ?side1 ?side2 A11.out).mono ?_); (case side1 => repeat (first | exact (Kd.C_below HR0.out HB.out) | (with_reducible refine Kd.C_alloc ?_ _) | (with_reducible refine Kd.C_drewN ?_ _) | (with_reducible refine Kd.C_drew ?_))); (case side2 => exact HC0.out); rintro e w16 ⟨v298, rfl, ho0, hb⟩; have n0_ := Aside0.mk (Kd.R_lower ho0 (below_size (by repeat (first | (with_reducible first | exact HB.out | apply below_alloc | apply pw_below_drewN | apply below_drew1) | exact HB.out)))); have n1_ := Aside0.mk (below_step (by repeat (first | (with_reducible first | exact HB.out | apply below_alloc | apply pw_below_drewN | apply below_drew1) | exact HB.out)) hb); clear HB; have HO299 := n0_; have HB := n1_; clear n0_ n1_; (try clear hb); (try clear hb2); (try clear hk); (try clear hi); (try clear ho0); obtain ⟨Ao17, co17, eo17⟩ := Kd.R_slice HO299.out; subst eo17) | (go_at_call 24; (with_reducible refine (juratref15_All.calls kj3 _ _ t296 a1 t300 _ ?side1 ?side2 A12.out).mono ?_); (case side1 => repeat (first | exact (Kd.R_reads' HO299.out).2.2 | (with_reducible refine Kd.C_alloc ?_ _) | (with_reducible refine Kd.C_drewN ?_ _) | (with_reducible refine Kd.C_drew ?_))); (case side2 => exact (Kd.R_reads' HO299.out).2.1); rintro e w18 ⟨v301, rfl, ho0, hb⟩; have n0_ := Aside0.mk (Kd.R_below (by (with_reducible repeat (first | apply Kd.R_alloc | apply Kd.R_drewN | apply Kd.R_drew)); exact HO299.out) hb); have n1_ := Aside0.mk (Kd.R_lower ho0 (below_size (by repeat (first | (with_reducible first | exact HB.out | apply below_alloc | apply pw_below_drewN | apply below_drew1) | exact HB.out)))); have n2_ := Aside0.mk (below_step (by repeat (first | (with_reducible first | exact HB.out | apply below_alloc | apply pw_below_drewN | apply below_drew1) | exact HB.out)) hb); clear HO299; clear HB; have HO299 := n0_; have HO302 := n1_; have HB := n2_; clear n0_ n1_ n2_; (try clear hb); (try clear hb2); (try clear hk); (try clear hi); (try clear ho0)) | (go_at_call 25; (with_reducible refine (occ_Counts.calls kj3 _ t294 a1 t303 _ ?side1 A13.out).mono ?_); (case side1 => first | exact HO_t294.out | exact OB.drewN HO_t294.out _ | exact OB.below (by repeat (first | (with_reducible first | exact HB.out | apply below_alloc | apply pw_below_drewN | apply below_drew1) | exact HB.out)) HO_t294.out); rintro e w19 ⟨v304, rfl, ho0, hb⟩; have n0_ := Aside0.mk (Kd.R_below (by (with_reducible repeat (first | apply Kd.R_alloc | apply Kd.R_drewN | apply Kd.R_drew)); exact HO299.out) hb); have n1_ := Aside0.mk (Kd.R_below (by (with_reducible repeat (first | apply Kd.R_alloc | apply Kd.R_drewN | apply Kd.R_drew)); exact HO302.out) hb); have n2_ := Aside0.mk (Kd.R_lower ho0 (below_size (by repeat (first | (with_reducible first | exact HB.out | apply below_alloc | apply pw_below_drewN | apply below_drew1) | exact HB.out)))); have n3_ := Aside0.mk (below_step (by repeat (first | (with_reducible first | exact HB.out | apply below_alloc | apply pw_below_drewN | apply below_drew1) | exact HB.out)) hb); clear HO299; clear HO302; clear HB; have HO299 := n0_; have HO302 := n1_; have HO305 := n2_; have HB := n3_; clear n0_ n1_ n2_ n3_; (try clear hb); (try clear hb2); (try clear hk); (try clear hi); (try clear ho0)))
        repeat (go_quiet (first | (go_at_call 19; (with_reducible refine (pats_New.calls _ _ l0 t294 t295 _ ?side1 ?side2 A10.out).mono ?_); (case side1 => repeat (first | exact (Kd.C_below HR0.out HB.out) | (with_reducible refine Kd.C_alloc ?_ _) | (with_reducible refine Kd.C_drewN ?_ _) | (with_reducible refine Kd.C_drew ?_))); (case side2 => exact HC0.out); rintro e w15 ⟨Pt294, rfl, hob0, hb⟩; have hbw_ := below_step (by repeat (first | (with_reducible first | exact HB.out | apply below_alloc | apply pw_below_drewN | apply below_drew1) | exact HB.out)) hb; (try (have n_ := Aside0.mk (Kd.C_below HR0.out hbw_); clear HR0; have HR0 := n_; clear n_)); (first | (have n_ := Aside0.mk (HB00.out.trans (hbw_.mono HB00.out.size)); clear HB00; have HB00 := n_; clear n_) | have HB00 := Aside0.mk hbw_); clear HB hb hbw_; have HO_t294 := Aside0.mk hob0; clear hob0; obtain ⟨w, rfl⟩ : ∃ w_ : World, w_ = w15 := ⟨_, rfl⟩; have HB := Aside0.mk (Below.refl w.heap.size w)) | (go_at_call 23; (with_reducible refine (juratref10_New.calls kj3 _ _ l0 t296 t297 _ ?side1 ?side2 A11.out).mono ?_); (case side1 => repeat (first | exact (Kd.C_below HR0.out HB.out) | (with_reducible refine Kd.C_alloc ?_ _) | (with_reducible refine Kd.C_drewN ?_ _) | (with_reducible refine Kd.C_drew ?_))); (case side2 => exact HC0.out); rintro e w16 ⟨v298, rfl, ho0, hb⟩; have n0_ := Aside0.mk (Kd.R_lower ho0 (below_size (by repeat (first | (with_reducible first | exact HB.out | apply below_alloc | apply pw_below_drewN | apply below_drew1) | exact HB.out)))); have n1_ := Aside0.mk (below_step (by repeat (first | (with_reducible first | exact HB.out | apply below_alloc | apply pw_below_drewN | apply below_drew1) | exact HB.out)) hb); clear HB; have HO299 := n0_; have HB := n1_; clear n0_ n1_; (try clear hb); (try clear hb2); (try clear hk); (try clear hi); (try clear ho0); obtain ⟨Ao17, co17, eo17⟩ := Kd.R_slice HO299.out; subst eo17) | (go_at_call 24; (with_reducible refine (juratref15_All.calls kj3 _ _ t296 a1 t300 _ ?side1 ?side2 A12.out).mono ?_); (case side1 => repeat (first | exact (Kd.R_reads' HO299.out).2.2 | (with_reducible refine Kd.C_alloc ?_ _) | (with_reducible refine Kd.C_drewN ?_ _) | (with_reducible refine Kd.C_drew ?_))); (case side2 => exact (Kd.R_reads' HO299.out).2.1); rintro e w18 ⟨v301, rfl, ho0, hb⟩; have n0_ := Aside0.mk (Kd.R_below (by (with_reducible repeat (first | apply Kd.R_alloc | apply Kd.R_drewN | apply Kd.R_drew)); exact HO299.out) hb); have n1_ := Aside0.mk (Kd.R_lower ho0 (below_size (by repeat (first | (with_reducible first | exact HB.out | apply below_alloc | apply pw_below_drewN | apply below_drew1) | exact HB.out)))); have n2_ := Aside0.mk (below_step (by repeat (first | (with_reducible first | exact HB.out | apply below_alloc | apply pw_below_drewN | apply below_drew1) | exact HB.out)) hb); clear HO299; clear HB; have HO299 := n0_; have HO302 := n1_; have HB := n2_; clear n0_ n1_ n2_; (try clear hb); (try clear hb2); (try clear hk); (try clear hi); (try clear ho0)) | (go_at_call 25; (with_reducible refine (occ_Counts.calls kj3 _ t294 a1 t303 _ ?side1 A13.out).mono ?_); (case side1 => first | exact HO_t294.out | exact OB.drewN HO_t294.out _ | exact OB.below (by repeat (first | (with_reducible first | exact HB.out | apply below_alloc | apply pw_below_drewN | apply below_drew1) | exact HB.out)) HO_t294.out); rintro e w19 ⟨v304, rfl, ho0, hb⟩; have n0_ := Aside0.mk (Kd.R_below (by (with_reducible repeat (first | apply Kd.R_alloc | apply Kd.R_drewN | apply Kd.R_drew)); exact HO299.out) hb); have n1_ := Aside0.mk (Kd.R_below (by (with_reducible repeat (first | apply Kd.R_alloc | apply Kd.R_drewN | apply Kd.R_drew)); exact HO302.out) hb); have n2_ := Aside0.mk (Kd.R_lower ho0 (below_size (by repeat (first | (with_reducible first | exact HB.out | apply below_alloc | apply pw_below_drewN | apply below_drew1) | exact HB.out)))); have n3_ := Aside0.mk (below_step (by repeat (first | (with_reducible first | exact HB.out | apply below_alloc | apply pw_below_drewN | apply below_drew1) | exact HB.out)) hb); clear HO299; clear HO302; clear HB; have HO299 := n0_; have HO302 := n1_; have HO305 := n2_; have HB := n3_; clear n0_ n1_ n2_ n3_; (try clear hb); (try clear hb2); (try clear hk); (try clear hi); (try clear ho0))); go_upto_region 7 with (first | (go_at_call 19; (with_reducible refine (pats_New.calls _ _ l0 t294 t295 _ ?side1 ?side2 A10.out).mono ?_); (case side1 => repeat (first | exact (Kd.C_below HR0.out HB.out) | (with_reducible refine Kd.C_alloc ?_ _) | (with_reducible refine Kd.C_drewN ?_ _) | (with_reducible refine Kd.C_drew ?_))); (case side2 => exact HC0.out); rintro e w15 ⟨Pt294, rfl, hob0, hb⟩; have hbw_ := below_step (by repeat (first | (with_reducible first | exact HB.out | apply below_alloc | apply pw_below_drewN | apply below_drew1) | exact HB.out)) hb; (try (have n_ := Aside0.mk (Kd.C_below HR0.out hbw_); clear HR0; have HR0 := n_; clear n_)); (first | (have n_ := Aside0.mk (HB00.out.trans (hbw_.mono HB00.out.size)); clear HB00; have HB00 := n_; clear n_) | have HB00 := Aside0.mk hbw_); clear HB hb hbw_; have HO_t294 := Aside0.mk hob0; clear hob0; obtain ⟨w, rfl⟩ : ∃ w_ : World, w_ = w15 := ⟨_, rfl⟩; have HB := Aside0.mk (Below.refl w.heap.size w)) | (go_at_call 23; (with_reducible refine (juratref10_New.calls kj3 _ _ l0 t296 t297 _ ?side1 ?side2 A11.out).mono ?_); (case side1 => repeat (first | exact (Kd.C_below HR0.out HB.out) | (with_reducible refine Kd.C_alloc ?_ _) | (with_reducible refine Kd.C_drewN ?_ _) | (with_reducible refine Kd.C_drew ?_))); (case side2 => exact HC0.out); rintro e w16 ⟨v298, rfl, ho0, hb⟩; have n0_ := Aside0.mk (Kd.R_lower ho0 (below_size (by repeat (first | (with_reducible first | exact HB.out | apply below_alloc | apply pw_below_drewN | apply below_drew1) | exact HB.out)))); have n1_ := Aside0.mk (below_step (by repeat (first | (with_reducible first | exact HB.out | apply below_alloc | apply pw_below_drewN | apply below_drew1) | exact HB.out)) hb); clear HB; have HO299 := n0_; have HB := n1_; clear n0_ n1_; (try clear hb); (try clear hb2); (try clear hk); (try clear hi); (try clear ho0); obtain ⟨Ao17, co17, eo17⟩ := Kd.R_slice HO299.out; subst eo17) | (go_at_call 24; (with_reducible refine (juratref15_All.calls kj3 _ _ t296 a1 t300 _ ?side1 ?side2 A12.out).mono ?_); (case side1 => repeat (first | exact (Kd.R_reads' HO299.out).2.2 | (with_reducible refine Kd.C_alloc ?_ _) | (with_reducible refine Kd.C_drewN ?_ _) | (with_reducible refine Kd.C_drew ?_))); (case side2 => exact (Kd.R_reads' HO299.out).2.1); rintro e w18 ⟨v301, rfl, ho0, hb⟩; have n0_ := Aside0.mk (Kd.R_below (by (with_reducible repeat (first | apply Kd.R_alloc | apply Kd.R_drewN | apply Kd.R_drew)); exact HO299.out) hb); have n1_ := Aside0.mk (Kd.R_lower ho0 (below_size (by repeat (first | (with_reducible first | exact HB.out | apply below_alloc | apply pw_below_drewN | apply below_drew1) | exact HB.out)))); have n2_ := Aside0.mk (below_step (by repeat (first | (with_reducible first | exact HB.out | apply below_alloc | apply pw_below_drewN | apply below_drew1) | exact HB.out)) hb); clear HO299; clear HB; have HO299 := n0_; have HO302 := n1_; have HB := n2_; clear n0_ n1_ n2_; (try clear hb); (try clear hb2); (try clear hk); (try clear hi); (try clear ho0)) | (go_at_call 25; (with_reducible refine (occ_Counts.calls kj3 _ t294 a1 t303 _ ?side1 A13.out).mono ?_); (case side1 => first | exact HO_t294.out | exact OB.drewN HO_t294.out _ | exact OB.below (by repeat (first | (with_reducible first | exact HB.out | apply below_alloc | apply pw_below_drewN | apply below_drew1) | exact HB.out)) HO_t294.out); rintro e w19 ⟨v304, rfl, ho0, hb⟩; have n0_ := Aside0.mk (Kd.R_below (by (with_reducible repeat (first | apply Kd.R_alloc | apply Kd.R_drewN | apply Kd.R_drew)); exact HO299.out) hb); have n1_ := Aside0.mk (Kd.R_below (by (with_reducible repeat (first | apply Kd.R_alloc | apply Kd.R_drewN | apply Kd.R_drew)); exact HO302.out) hb); have n2_ := Aside0.mk (Kd.R_lower ho0 (below_size (by repeat (first | (with_reducible first | exact HB.out | apply below_alloc | apply pw_below_drewN | apply below_drew1) | exact HB.out)))); have n3_ := Aside0.mk (below_step (by repeat (first | (with_reducible first | exact HB.out | apply below_alloc | apply pw_below_drewN | apply below_drew1) | exact HB.out)) hb); clear HO299; clear HO302; clear HB; have HO299 := n0_; have HO302 := n1_; have HO305 := n2_; have HB := n3_; clear n0_ n1_ n2_ n3_; (try clear hb); (try clear hb2); (try clear hk); (try clear hi); (try clear ho0))))
        (try simp only [Act.put, List.setIfInBounds_toArray, List.set_cons_zero, List.set_cons_succ])
        go_cut [72] (fun v72 wc => ∃ (kq : Nat) (x72_13 : Bool), v72 = .bool x72_13 ∧ Aside0 (juratlaw15_OccTells.j1 kq a1 t296 t303 x72_13 = some r) ∧ Aside0 (kq ≤ kj3) ∧ Aside0 (Kd.R Kd.string 9 wc w.heap.size (fun _ => True) (.slice Ao17 t296.length co17) t296) ∧ Aside0 (Kd.R (Kd.int .i64) 3 wc w.heap.size (fun _ => True) v304 t303) ∧ Aside0 (Below w.heap.size w wc))
        case first =>
          have H := HC14.out
          clear HC14
          replace H := Option.bind_eq_some_iff.mp H
          obtain ⟨t306, A200, H⟩ := H
          replace H : ((juratref15_Same.f kj3 t306 t300).bind fun t309 => (if t309 = true then ((occ_At.f kj3 t294 a1 a2).bind fun t310 => ((juratref15_At.f kj3 t296 a1 a2).bind fun t313 => ((juratref01_Same.f kj3 t310 t313).bind fun t316 => (if t316 = true then ((occ_Any.f t294 a1).bind fun t317 => (if (t317 != (decide ((t300.length : Int) > 0))) = true then (juratlaw15_OccTells.j1 kj3 a1 t296 t303 true) else (juratlaw15_OccTells.j1 kj3 a1 t296 t303 ((t303.length : Int) != (t296.length : Int))))) else (juratlaw15_OccTells.j1 kj3 a1 t296 t303 true))))) else (juratlaw15_OccTells.j1 kj3 a1 t296 t303 true))) = some r := H
          have A20 := Aside0.mk A200
          clear A200
          replace H := Option.bind_eq_some_iff.mp H
          obtain ⟨t309, A210, H⟩ := H
          replace H : (if t309 = true then ((occ_At.f kj3 t294 a1 a2).bind fun t310 => ((juratref15_At.f kj3 t296 a1 a2).bind fun t313 => ((juratref01_Same.f kj3 t310 t313).bind fun t316 => (if t316 = true then ((occ_Any.f t294 a1).bind fun t317 => (if (t317 != (decide ((t300.length : Int) > 0))) = true then (juratlaw15_OccTells.j1 kj3 a1 t296 t303 true) else (juratlaw15_OccTells.j1 kj3 a1 t296 t303 ((t303.length : Int) != (t296.length : Int))))) else (juratlaw15_OccTells.j1 kj3 a1 t296 t303 true))))) else (juratlaw15_OccTells.j1 kj3 a1 t296 t303 true)) = some r := H
          have A21 := Aside0.mk A210
          clear A210
          by_cases c22 : t309 = true
          · subst c22
            have H1 : ((occ_At.f kj3 t294 a1 a2).bind fun t310 => ((juratref15_At.f kj3 t296 a1 a2).bind fun t313 => ((juratref01_Same.f kj3 t310 t313).bind fun t316 => (if t316 = true then ((occ_Any.f t294 a1).bind fun t317 => (if (t317 != (decide ((t300.length : Int) > 0))) = true then (juratlaw15_OccTells.j1 kj3 a1 t296 t303 true) else (juratlaw15_OccTells.j1 kj3 a1 t296 t303 ((t303.length : Int) != (t296.length : Int))))) else (juratlaw15_OccTells.j1 kj3 a1 t296 t303 true))))) = some r := by rw [if_pos rfl] at H; exact H
            clear H
            have H := H1
            clear H1
            replace H := Option.bind_eq_some_iff.mp H
            obtain ⟨t310, A230, H⟩ := H
            replace H : ((juratref15_At.f kj3 t296 a1 a2).bind fun t313 => ((juratref01_Same.f kj3 t310 t313).bind fun t316 => (if t316 = true then ((occ_Any.f t294 a1).bind fun t317 => (if (t317 != (decide ((t300.length : Int) > 0))) = true then (juratlaw15_OccTells.j1 kj3 a1 t296 t303 true) else (juratlaw15_OccTells.j1 kj3 a1 t296 t303 ((t303.length : Int) != (t296.length : Int))))) else (juratlaw15_OccTells.j1 kj3 a1 t296 t303 true)))) = some r := H
            have A23 := Aside0.mk A230
            clear A230
            replace H := Option.bind_eq_some_iff.mp H
            obtain ⟨t313, A240, H⟩ := H
            replace H : ((juratref01_Same.f kj3 t310 t313).bind fun t316 => (if t316 = true then ((occ_Any.f t294 a1).bind fun t317 => (if (t317 != (decide ((t300.length : Int) > 0))) = true then (juratlaw15_OccTells.j1 kj3 a1 t296 t303 true) else (juratlaw15_OccTells.j1 kj3 a1 t296 t303 ((t303.length : Int) != (t296.length : Int))))) else (juratlaw15_OccTells.j1 kj3 a1 t296 t303 true))) = some r := H
            have A24 := Aside0.mk A240
            clear A240
            replace H := Option.bind_eq_some_iff.mp H
            obtain ⟨t316, A250, H⟩ := H
            replace H : (if t316 = true then ((occ_Any.f t294 a1).bind fun t317 => (if (t317 != (decide ((t300.length : Int) > 0))) = true then (juratlaw15_OccTells.j1 kj3 a1 t296 t303 true) else (juratlaw15_OccTells.j1 kj3 a1 t296 t303 ((t303.length : Int) != (t296.length : Int))))) else (juratlaw15_OccTells.j1 kj3 a1 t296 t303 true)) = some r := H
            have A25 := Aside0.mk A250
            clear A250
            by_cases c26 : t316 = true
            · subst c26
              have H1 : ((occ_Any.f t294 a1).bind fun t317 => (if (t317 != (decide ((t300.length : Int) > 0))) = true then (juratlaw15_OccTells.j1 kj3 a1 t296 t303 true) else (juratlaw15_OccTells.j1 kj3 a1 t296 t303 ((t303.length : Int) != (t296.length : Int))))) = some r := by rw [if_pos rfl] at H; exact H
              clear H
              have H := H1
              clear H1
              replace H := Option.bind_eq_some_iff.mp H
              obtain ⟨t317, A270, H⟩ := H
              replace H : (if (t317 != (decide ((t300.length : Int) > 0))) = true then (juratlaw15_OccTells.j1 kj3 a1 t296 t303 true) else (juratlaw15_OccTells.j1 kj3 a1 t296 t303 ((t303.length : Int) != (t296.length : Int)))) = some r := H
              have A27 := Aside0.mk A270
              clear A270
              by_cases c28 : (t317 != (decide ((t300.length : Int) > 0))) = true
              · rw [if_pos c28] at H
                have c28b0 : (t317 != (decide ((t300.length : Int) > 0))) = true := c28
                have c28b7 : (t317 = decide (0 < t300.length)) = False := by rw [show decide (0 < t300.length) = decide ((t300.length : Int) > 0) from decide_eq_decide.2 (by omega)]; exact eq_false (bne_iff_ne.1 c28b0)
                (try (have c28b1 : decide (t317 = (decide ((t300.length : Int) > 0))) = false := by simpa using c28))
                (try (have c28b2 : (t317 == (decide ((t300.length : Int) > 0))) = false := by simpa using c28))
                (try (have c28b3 : ¬ (t317 = (decide ((t300.length : Int) > 0))) := by simpa using c28))
                clear c28
                (first | rw [c28b0] | rw [c28b1] | (simp only [i64_w, i32_w]; rw [c28b0]) | skip)
                have H' := Aside0.mk H
                clear H
                obtain ⟨Ao305, co305, eo305⟩ := Kd.R_slice HO305.out
                subst eo305
                go_wp2_with (first | (go_at_call 20; (with_reducible refine (occ_All.calls _ t294 a1 t306 _ ?side1 A20.out).mono ?_); (case side1 => first | exact HO_t294.out | exact OB.drewN HO_t294.out _ | exact OB.below (by repeat (first | (with_reducible first | exact HB.out | apply below_alloc | apply pw_below_drewN | apply below_drew1) | exact HB.out)) HO_t294.out); rintro e w29 ⟨v307, rfl, ho0, hb⟩; have n0_ := Aside0.mk (Kd.R_below (by (with_reducible repeat (first | apply Kd.R_alloc | apply Kd.R_drewN | apply Kd.R_drew)); exact HO299.out) hb); have n1_ := Aside0.mk (Kd.R_elder' (by (with_reducible repeat (first | apply Kd.R_alloc | apply Kd.R_drewN | apply Kd.R_drew)); exact HO302.out) (Kd.R_base ho0) hb); have n2_ := Aside0.mk (Kd.R_below (by (with_reducible repeat (first | apply Kd.R_alloc | apply Kd.R_drewN | apply Kd.R_drew)); exact HO305.out) hb); have n3_ := Aside0.mk (Kd.R_lower (Kd.R_new' ho0 (Kd.R_lt (by (with_reducible repeat (first | apply Kd.R_alloc | apply Kd.R_drewN | apply Kd.R_drew)); exact HO302.out))) (below_size (by repeat (first | (with_reducible first | exact HB.out | apply below_alloc | apply pw_below_drewN | apply below_drew1) | exact HB.out)))); have n4_ := Aside0.mk (below_step (by repeat (first | (with_reducible first | exact HB.out | apply below_alloc | apply pw_below_drewN | apply below_drew1) | exact HB.out)) hb); clear HO299; clear HO302; clear HO305; clear HB; have HO299 := n0_; have HO302 := n1_; have HO305 := n2_; have HO308 := n3_; have HB := n4_; clear n0_ n1_ n2_ n3_ n4_; (try clear hb); (try clear hb2); (try clear hk); (try clear hi); (try clear ho0); obtain ⟨Ao30, co30, eo30⟩ := Kd.R_slice HO308.out; subst eo30; obtain ⟨Ao31, co31, eo31⟩ := Kd.R_slice HO302.out; subst eo31) | (go_at_call 21; (with_reducible refine (juratref15_Same.calls kj3 _ _ t306 _ _ t300 true _ ?side1 ?side2 ?side3 ?side4 A21.out).mono ?_); (case side1 => repeat (first | exact (Kd.R_reads' HO308.out).2.2 | (with_reducible refine Kd.C_alloc ?_ _) | (with_reducible refine Kd.C_drewN ?_ _) | (with_reducible refine Kd.C_drew ?_))); (case side2 => exact (Kd.R_reads' HO308.out).2.1); (case side3 => repeat (first | exact (Kd.R_reads' HO302.out).2.2 | (with_reducible refine Kd.C_alloc ?_ _) | (with_reducible refine Kd.C_drewN ?_ _) | (with_reducible refine Kd.C_drew ?_))); (case side4 => exact (Kd.R_reads' HO302.out).2.1); rintro e w' ⟨rfl, ⟨nd, rfl⟩⟩; (try first | exact ⟨rfl, _, World.drewN_drewN _ _ _⟩ | exact ⟨rfl, _, Eq.trans (World.drewN_drewN _ _ _) (congrArg (World.drewN _) (Nat.add_assoc _ _ _))⟩)) | (go_at_call 27; (with_reducible refine (occ_At.calls kj3 _ t294 a1 a2 t310 _ ?side1 A23.out).mono ?_); (case side1 => first | exact HO_t294.out | exact OB.drewN HO_t294.out _ | exact OB.below (by repeat (first | (with_reducible first | exact HB.out | apply below_alloc | apply pw_below_drewN | apply below_drew1) | exact HB.out)) HO_t294.out); rintro e w32 ⟨v311, rfl, ho0, hb⟩; have n0_ := Aside0.mk (Kd.R_below (by (with_reducible repeat (first | apply Kd.R_alloc | apply Kd.R_drewN | apply Kd.R_drew)); exact HO299.out) hb); have n1_ := Aside0.mk (Kd.R_below (by (with_reducible repeat (first | apply Kd.R_alloc | apply Kd.R_drewN | apply Kd.R_drew)); exact HO302.out) hb); have n2_ := Aside0.mk (Kd.R_elder' (by (with_reducible repeat (first | apply Kd.R_alloc | apply Kd.R_drewN | apply Kd.R_drew)); exact HO305.out) (Kd.R_base ho0) hb); have n3_ := Aside0.mk (Kd.R_below (by (with_reducible repeat (first | apply Kd.R_alloc | apply Kd.R_drewN | apply Kd.R_drew)); exact HO308.out) hb); have n4_ := Aside0.mk (Kd.R_lower (Kd.R_new' ho0 (Kd.R_lt (by (with_reducible repeat (first | apply Kd.R_alloc | apply Kd.R_drewN | apply Kd.R_drew)); exact HO305.out))) (below_size (by repeat (first | (with_reducible first | exact HB.out | apply below_alloc | apply pw_below_drewN | apply below_drew1) | exact HB.out)))); have n5_ := Aside0.mk (below_step (by repeat (first | (with_reducible first | exact HB.out | apply below_alloc | apply pw_below_drewN | apply below_drew1) | exact HB.out)) hb); clear HO299; clear HO302; clear HO305; clear HO308; clear HB; have HO299 := n0_; have HO302 := n1_; have HO305 := n2_; have HO308 := n3_; have HO312 := n4_; have HB := n5_; clear n0_ n1_ n2_ n3_ n4_ n5_; (try clear hb); (try clear hb2); (try clear hk); (try clear hi); (try clear ho0)) | (go_at_call 28; (with_reducible refine (juratref15_At.calls kj3 _ _ t296 a1 a2 t313 _ ?side1 ?side2 A24.out).mono ?_); (case side1 => repeat (first | exact (Kd.R_reads' HO299.out).2.2 | (with_reducible refine Kd.C_alloc ?_ _) | (with_reducible refine Kd.C_drewN ?_ _) | (with_reducible refine Kd.C_drew ?_))); (case side2 => exact (Kd.R_reads' HO299.out).2.1); rintro e w33 ⟨v314, rfl, ho0, hb⟩; have n0_ := Aside0.mk (Kd.R_below (by (with_reducible repeat (first | apply Kd.R_alloc | apply Kd.R_drewN | apply Kd.R_drew)); exact HO299.out) hb); have n1_ := Aside0.mk (Kd.R_below (by (with_reducible repeat (first | apply Kd.R_alloc | apply Kd.R_drewN | apply Kd.R_drew)); exact HO302.out) hb); have n2_ := Aside0.mk (Kd.R_elder' (by (with_reducible repeat (first | apply Kd.R_alloc | apply Kd.R_drewN | apply Kd.R_drew)); exact HO305.out) (Kd.R_base ho0) hb); have n3_ := Aside0.mk (Kd.R_below (by (with_reducible repeat (first | apply Kd.R_alloc | apply Kd.R_drewN | apply Kd.R_drew)); exact HO308.out) hb); have n4_ := Aside0.mk (Kd.R_elder' (by (with_reducible repeat (first | apply Kd.R_alloc | apply Kd.R_drewN | apply Kd.R_drew)); exact HO312.out) (Kd.R_base ho0) hb); have n5_ := Aside0.mk (Kd.R_lower (Kd.R_new' (Kd.R_new' ho0 (Kd.R_lt (by (with_reducible repeat (first | apply Kd.R_alloc | apply Kd.R_drewN | apply Kd.R_drew)); exact HO305.out))) (Kd.R_lt (by (with_reducible repeat (first | apply Kd.R_alloc | apply Kd.R_drewN | apply Kd.R_drew)); exact HO312.out))) (below_size (by repeat (first | (with_reducible first | exact HB.out | apply below_alloc | apply pw_below_drewN | apply below_drew1) | exact HB.out)))); have n6_ := Aside0.mk (below_step (by repeat (first | (with_reducible first | exact HB.out | apply below_alloc | apply pw_below_drewN | apply below_drew1) | exact HB.out)) hb); clear HO299; clear HO302; clear HO305; clear HO308; clear HO312; clear HB; have HO299 := n0_; have HO302 := n1_; have HO305 := n2_; have HO308 := n3_; have HO312 := n4_; have HO315 := n5_; have HB := n6_; clear n0_ n1_ n2_ n3_ n4_ n5_ n6_; (try clear hb); (try clear hb2); (try clear hk); (try clear hi); (try clear ho0); obtain ⟨Ao34, co34, eo34⟩ := Kd.R_slice HO312.out; subst eo34; obtain ⟨Ao35, co35, eo35⟩ := Kd.R_slice HO315.out; subst eo35) | (go_at_call 26; (with_reducible refine (juratref01_Same.calls kj3 _ _ t310 _ _ t313 true _ ?side1 ?side2 ?side3 ?side4 A25.out).mono ?_); (case side1 => repeat (first | exact (Kd.R_reads' HO312.out).2.2 | (with_reducible refine Kd.C_alloc ?_ _) | (with_reducible refine Kd.C_drewN ?_ _) | (with_reducible refine Kd.C_drew ?_))); (case side2 => exact (Kd.R_reads' HO312.out).2.1); (case side3 => repeat (first | exact (Kd.R_reads' HO315.out).2.2 | (with_reducible refine Kd.C_alloc ?_ _) | (with_reducible refine Kd.C_drewN ?_ _) | (with_reducible refine Kd.C_drew ?_))); (case side4 => exact (Kd.R_reads' HO315.out).2.1); rintro e w' ⟨rfl, ⟨nd, rfl⟩⟩; (try first | exact ⟨rfl, _, World.drewN_drewN _ _ _⟩ | exact ⟨rfl, _, Eq.trans (World.drewN_drewN _ _ _) (congrArg (World.drewN _) (Nat.add_assoc _ _ _))⟩)) | (go_at_call 29; (with_reducible refine (occ_Any.calls _ t294 a1 t317 _ ?side1 A27.out).mono ?_); (case side1 => first | exact HO_t294.out | exact OB.drewN HO_t294.out _ | exact OB.below (by repeat (first | (with_reducible first | exact HB.out | apply below_alloc | apply pw_below_drewN | apply below_drew1) | exact HB.out)) HO_t294.out); rintro e w36 ⟨rfl, hb⟩; have n0_ := Aside0.mk (Kd.R_below (by (with_reducible repeat (first | apply Kd.R_alloc | apply Kd.R_drewN | apply Kd.R_drew)); exact HO299.out) hb); have n1_ := Aside0.mk (Kd.R_below (by (with_reducible repeat (first | apply Kd.R_alloc | apply Kd.R_drewN | apply Kd.R_drew)); exact HO302.out) hb); have n2_ := Aside0.mk (Kd.R_below (by (with_reducible repeat (first | apply Kd.R_alloc | apply Kd.R_drewN | apply Kd.R_drew)); exact HO305.out) hb); have n3_ := Aside0.mk (Kd.R_below (by (with_reducible repeat (first | apply Kd.R_alloc | apply Kd.R_drewN | apply Kd.R_drew)); exact HO308.out) hb); have n4_ := Aside0.mk (Kd.R_below (by (with_reducible repeat (first | apply Kd.R_alloc | apply Kd.R_drewN | apply Kd.R_drew)); exact HO312.out) hb); have n5_ := Aside0.mk (Kd.R_below (by (with_reducible repeat (first | apply Kd.R_alloc | apply Kd.R_drewN | apply Kd.R_drew)); exact HO315.out) hb); have n6_ := Aside0.mk (below_step (by repeat (first | (with_reducible first | exact HB.out | apply below_alloc | apply pw_below_drewN | apply below_drew1) | exact HB.out)) hb); clear HO299; clear HO302; clear HO305; clear HO308; clear HO312; clear HO315; clear HB; have HO299 := n0_; have HO302 := n1_; have HO305 := n2_; have HO308 := n3_; have HO312 := n4_; have HO315 := n5_; have HB := n6_; clear n0_ n1_ n2_ n3_ n4_ n5_ n6_; (try clear hb); (try clear hb2); (try clear hk); (try clear hi)))
                have tk0_ : True := trivial
                have tk1_ : True := trivial
                have tk2_ : True := trivial
                have tk3_ : True := trivial
                have tk4_ : True := trivial
                have tk5_ : True := trivial
                have tk6_ : True := trivial
                have tk7_ : True := trivial
                have tk8_ : True := trivial
                have tk9_ : True := trivial
                have tk10_ : True := trivial
                have tk11_ : True := trivial
                repeat (go_quiet (first | (go_at_call 20; (clear tk0_); (with_reducible refine (occ_All.calls _ t294 a1 t306 _ ?side1 A20.out).mono ?_); (case side1 => first | exact HO_t294.out | exact OB.drewN HO_t294.out _ | exact OB.below (by repeat (first | (with_reducible first | exact HB.out | apply below_alloc | apply pw_below_drewN | apply below_drew1) | exact HB.out)) HO_t294.out); rintro e w29 ⟨v307, rfl, ho0, hb⟩; have n0_ := Aside0.mk (Kd.R_below (by (with_reducible repeat (first | apply Kd.R_alloc | apply Kd.R_drewN | apply Kd.R_drew)); exact HO299.out) hb); have n1_ := Aside0.mk (Kd.R_elder' (by (with_reducible repeat (first | apply Kd.R_alloc | apply Kd.R_drewN | apply Kd.R_drew)); exact HO302.out) (Kd.R_base ho0) hb); have n2_ := Aside0.mk (Kd.R_below (by (with_reducible repeat (first | apply Kd.R_alloc | apply Kd.R_drewN | apply Kd.R_drew)); exact HO305.out) hb); have n3_ := Aside0.mk (Kd.R_lower (Kd.R_new' ho0 (Kd.R_lt (by (with_reducible repeat (first | apply Kd.R_alloc | apply Kd.R_drewN | apply Kd.R_drew)); exact HO302.out))) (below_size (by repeat (first | (with_reducible first | exact HB.out | apply below_alloc | apply pw_below_drewN | apply below_drew1) | exact HB.out)))); have n4_ := Aside0.mk (below_step (by repeat (first | (with_reducible first | exact HB.out | apply below_alloc | apply pw_below_drewN | apply below_drew1) | exact HB.out)) hb); clear HO299; clear HO302; clear HO305; clear HB; have HO299 := n0_; have HO302 := n1_; have HO305 := n2_; have HO308 := n3_; have HB := n4_; clear n0_ n1_ n2_ n3_ n4_; (try clear hb); (try clear hb2); (try clear hk); (try clear hi); (try clear ho0); obtain ⟨Ao30, co30, eo30⟩ := Kd.R_slice HO308.out; subst eo30; obtain ⟨Ao31, co31, eo31⟩ := Kd.R_slice HO302.out; subst eo31) | (go_at_call 21; (clear tk1_); (with_reducible refine (juratref15_Same.calls kj3 _ _ t306 _ _ t300 true _ ?side1 ?side2 ?side3 ?side4 A21.out).mono ?_); (case side1 => repeat (first | exact (Kd.R_reads' HO308.out).2.2 | (with_reducible refine Kd.C_alloc ?_ _) | (with_reducible refine Kd.C_drewN ?_ _) | (with_reducible refine Kd.C_drew ?_))); (case side2 => exact (Kd.R_reads' HO308.out).2.1); (case side3 => repeat (first | exact (Kd.R_reads' HO302.out).2.2 | (with_reducible refine Kd.C_alloc ?_ _) | (with_reducible refine Kd.C_drewN ?_ _) | (with_reducible refine Kd.C_drew ?_))); (case side4 => exact (Kd.R_reads' HO302.out).2.1); rintro e w' ⟨rfl, ⟨nd, rfl⟩⟩; (try first | exact ⟨rfl, _, World.drewN_drewN _ _ _⟩ | exact ⟨rfl, _, Eq.trans (World.drewN_drewN _ _ _) (congrArg (World.drewN _) (Nat.add_assoc _ _ _))⟩)) | (go_at_call 27; (clear tk2_); (with_reducible refine (occ_At.calls kj3 _ t294 a1 a2 t310 _ ?side1 A23.out).mono ?_); (case side1 => first | exact HO_t294.out | exact OB.drewN HO_t294.out _ | exact OB.below (by repeat (first | (with_reducible first | exact HB.out | apply below_alloc | apply pw_below_drewN | apply below_drew1) | exact HB.out)) HO_t294.out); rintro e w32 ⟨v311, rfl, ho0, hb⟩; have n0_ := Aside0.mk (Kd.R_below (by (with_reducible repeat (first | apply Kd.R_alloc | apply Kd.R_drewN | apply Kd.R_drew)); exact HO299.out) hb); have n1_ := Aside0.mk (Kd.R_below (by (with_reducible repeat (first | apply Kd.R_alloc | apply Kd.R_drewN | apply Kd.R_drew)); exact HO302.out) hb); have n2_ := Aside0.mk (Kd.R_elder' (by (with_reducible repeat (first | apply Kd.R_alloc | apply Kd.R_drewN | apply Kd.R_drew)); exact HO305.out) (Kd.R_base ho0) hb); have n3_ := Aside0.mk (Kd.R_below (by (with_reducible repeat (first | apply Kd.R_alloc | apply Kd.R_drewN | apply Kd.R_drew)); exact HO308.out) hb); have n4_ := Aside0.mk (Kd.R_lower (Kd.R_new' ho0 (Kd.R_lt (by (with_reducible repeat (first | apply Kd.R_alloc | apply Kd.R_drewN | apply Kd.R_drew)); exact HO305.out))) (below_size (by repeat (first | (with_reducible first | exact HB.out | apply below_alloc | apply pw_below_drewN | apply below_drew1) | exact HB.out)))); have n5_ := Aside0.mk (below_step (by repeat (first | (with_reducible first | exact HB.out | apply below_alloc | apply pw_below_drewN | apply below_drew1) | exact HB.out)) hb); clear HO299; clear HO302; clear HO305; clear HO308; clear HB; have HO299 := n0_; have HO302 := n1_; have HO305 := n2_; have HO308 := n3_; have HO312 := n4_; have HB := n5_; clear n0_ n1_ n2_ n3_ n4_ n5_; (try clear hb); (try clear hb2); (try clear hk); (try clear hi); (try clear ho0)) | (go_at_call 28; (clear tk3_); (with_reducible refine (juratref15_At.calls kj3 _ _ t296 a1 a2 t313 _ ?side1 ?side2 A24.out).mono ?_); (case side1 => repeat (first | exact (Kd.R_reads' HO299.out).2.2 | (with_reducible refine Kd.C_alloc ?_ _) | (with_reducible refine Kd.C_drewN ?_ _) | (with_reducible refine Kd.C_drew ?_))); (case side2 => exact (Kd.R_reads' HO299.out).2.1); rintro e w33 ⟨v314, rfl, ho0, hb⟩; have n0_ := Aside0.mk (Kd.R_below (by (with_reducible repeat (first | apply Kd.R_alloc | apply Kd.R_drewN | apply Kd.R_drew)); exact HO299.out) hb); have n1_ := Aside0.mk (Kd.R_below (by (with_reducible repeat (first | apply Kd.R_alloc | apply Kd.R_drewN | apply Kd.R_drew)); exact HO302.out) hb); have n2_ := Aside0.mk (Kd.R_elder' (by (with_reducible repeat (first | apply Kd.R_alloc | apply Kd.R_drewN | apply Kd.R_drew)); exact HO305.out) (Kd.R_base ho0) hb); have n3_ := Aside0.mk (Kd.R_below (by (with_reducible repeat (first | apply Kd.R_alloc | apply Kd.R_drewN | apply Kd.R_drew)); exact HO308.out) hb); have n4_ := Aside0.mk (Kd.R_elder' (by (with_reducible repeat (first | apply Kd.R_alloc | apply Kd.R_drewN | apply Kd.R_drew)); exact HO312.out) (Kd.R_base ho0) hb); have n5_ := Aside0.mk (Kd.R_lower (Kd.R_new' (Kd.R_new' ho0 (Kd.R_lt (by (with_reducible repeat (first | apply Kd.R_alloc | apply Kd.R_drewN | apply Kd.R_drew)); exact HO305.out))) (Kd.R_lt (by (with_reducible repeat (first | apply Kd.R_alloc | apply Kd.R_drewN | apply Kd.R_drew)); exact HO312.out))) (below_size (by repeat (first | (with_reducible first | exact HB.out | apply below_alloc | apply pw_below_drewN | apply below_drew1) | exact HB.out)))); have n6_ := Aside0.mk (below_step (by repeat (first | (with_reducible first | exact HB.out | apply below_alloc | apply pw_below_drewN | apply below_drew1) | exact HB.out)) hb); clear HO299; clear HO302; clear HO305; clear HO308; clear HO312; clear HB; have HO299 := n0_; have HO302 := n1_; have HO305 := n2_; have HO308 := n3_; have HO312 := n4_; have HO315 := n5_; have HB := n6_; clear n0_ n1_ n2_ n3_ n4_ n5_ n6_; (try clear hb); (try clear hb2); (try clear hk); (try clear hi); (try clear ho0); obtain ⟨Ao34, co34, eo34⟩ := Kd.R_slice HO312.out; subst eo34; obtain ⟨Ao35, co35, eo35⟩ := Kd.R_slice HO315.out; subst eo35) | (go_at_call 26; (clear tk4_); (with_reducible refine (juratref01_Same.calls kj3 _ _ t310 _ _ t313 true _ ?side1 ?side2 ?side3 ?side4 A25.out).mono ?_); (case side1 => repeat (first | exact (Kd.R_reads' HO312.out).2.2 | (with_reducible refine Kd.C_alloc ?_ _) | (with_reducible refine Kd.C_drewN ?_ _) | (with_reducible refine Kd.C_drew ?_))); (case side2 => exact (Kd.R_reads' HO312.out).2.1); (case side3 => repeat (first | exact (Kd.R_reads' HO315.out).2.2 | (with_reducible refine Kd.C_alloc ?_ _) | (with_reducible refine Kd.C_drewN ?_ _) | (with_reducible refine Kd.C_drew ?_))); (case side4 => exact (Kd.R_reads' HO315.out).2.1); rintro e w' ⟨rfl, ⟨nd, rfl⟩⟩; (try first | exact ⟨rfl, _, World.drewN_drewN _ _ _⟩ | exact ⟨rfl, _, Eq.trans (World.drewN_drewN _ _ _) (congrArg (World.drewN _) (Nat.add_assoc _ _ _))⟩)) | (go_at_call 29; (clear tk5_); (with_reducible refine (occ_Any.calls _ t294 a1 t317 _ ?side1 A27.out).mono ?_); (case side1 => first | exact HO_t294.out | exact OB.drewN HO_t294.out _ | exact OB.below (by repeat (first | (with_reducible first | exact HB.out | apply below_alloc | apply pw_below_drewN | apply below_drew1) | exact HB.out)) HO_t294.out); rintro e w36 ⟨rfl, hb⟩; have n0_ := Aside0.mk (Kd.R_below (by (with_reducible repeat (first | apply Kd.R_alloc | apply Kd.R_drewN | apply Kd.R_drew)); exact HO299.out) hb); have n1_ := Aside0.mk (Kd.R_below (by (with_reducible repeat (first | apply Kd.R_alloc | apply Kd.R_drewN | apply Kd.R_drew)); exact HO302.out) hb); have n2_ := Aside0.mk (Kd.R_below (by (with_reducible repeat (first | apply Kd.R_alloc | apply Kd.R_drewN | apply Kd.R_drew)); exact HO305.out) hb); have n3_ := Aside0.mk (Kd.R_below (by (with_reducible repeat (first | apply Kd.R_alloc | apply Kd.R_drewN | apply Kd.R_drew)); exact HO308.out) hb); have n4_ := Aside0.mk (Kd.R_below (by (with_reducible repeat (first | apply Kd.R_alloc | apply Kd.R_drewN | apply Kd.R_drew)); exact HO312.out) hb); have n5_ := Aside0.mk (Kd.R_below (by (with_reducible repeat (first | apply Kd.R_alloc | apply Kd.R_drewN | apply Kd.R_drew)); exact HO315.out) hb); have n6_ := Aside0.mk (below_step (by repeat (first | (with_reducible first | exact HB.out | apply below_alloc | apply pw_below_drewN | apply below_drew1) | exact HB.out)) hb); clear HO299; clear HO302; clear HO305; clear HO308; clear HO312; clear HO315; clear HB; have HO299 := n0_; have HO302 := n1_; have HO305 := n2_; have HO308 := n3_; have HO312 := n4_; have HO315 := n5_; have HB := n6_; clear n0_ n1_ n2_ n3_ n4_ n5_ n6_; (try clear hb); (try clear hb2); (try clear hk); (try clear hi))); try go_wp2_with (first | (go_at_call 20; (clear tk6_); (with_reducible refine (occ_All.calls _ t294 a1 t306 _ ?side1 A20.out).mono ?_); (case side1 => first | exact HO_t294.out | exact OB.drewN HO_t294.out _ | exact OB.below (by repeat (first | (with_reducible first | exact HB.out | apply below_alloc | apply pw_below_drewN | apply below_drew1) | exact HB.out)) HO_t294.out); rintro e w29 ⟨v307, rfl, ho0, hb⟩; have n0_ := Aside0.mk (Kd.R_below (by (with_reducible repeat (first | apply Kd.R_alloc | apply Kd.R_drewN | apply Kd.R_drew)); exact HO299.out) hb); have n1_ := Aside0.mk (Kd.R_elder' (by (with_reducible repeat (first | apply Kd.R_alloc | apply Kd.R_drewN | apply Kd.R_drew)); exact HO302.out) (Kd.R_base ho0) hb); have n2_ := Aside0.mk (Kd.R_below (by (with_reducible repeat (first | apply Kd.R_alloc | apply Kd.R_drewN | apply Kd.R_drew)); exact HO305.out) hb); have n3_ := Aside0.mk (Kd.R_lower (Kd.R_new' ho0 (Kd.R_lt (by (with_reducible repeat (first | apply Kd.R_alloc | apply Kd.R_drewN | apply Kd.R_drew)); exact HO302.out))) (below_size (by repeat (first | (with_reducible first | exact HB.out | apply below_alloc | apply pw_below_drewN | apply below_drew1) | exact HB.out)))); have n4_ := Aside0.mk (below_step (by repeat (first | (with_reducible first | exact HB.out | apply below_alloc | apply pw_below_drewN | apply below_drew1) | exact HB.out)) hb); clear HO299; clear HO302; clear HO305; clear HB; have HO299 := n0_; have HO302 := n1_; have HO305 := n2_; have HO308 := n3_; have HB := n4_; clear n0_ n1_ n2_ n3_ n4_; (try clear hb); (try clear hb2); (try clear hk); (try clear hi); (try clear ho0); obtain ⟨Ao30, co30, eo30⟩ := Kd.R_slice HO308.out; subst eo30; obtain ⟨Ao31, co31, eo31⟩ := Kd.R_slice HO302.out; subst eo31) | (go_at_call 21; (clear tk7_); (with_reducible refine (juratref15_Same.calls kj3 _ _ t306 _ _ t300 true _ ?side1 ?side2 ?side3 ?side4 A21.out).mono ?_); (case side1 => repeat (first | exact (Kd.R_reads' HO308.out).2.2 | (with_reducible refine Kd.C_alloc ?_ _) | (with_reducible refine Kd.C_drewN ?_ _) | (with_reducible refine Kd.C_drew ?_))); (case side2 => exact (Kd.R_reads' HO308.out).2.1); (case side3 => repeat (first | exact (Kd.R_reads' HO302.out).2.2 | (with_reducible refine Kd.C_alloc ?_ _) | (with_reducible refine Kd.C_drewN ?_ _) | (with_reducible refine Kd.C_drew ?_))); (case side4 => exact (Kd.R_reads' HO302.out).2.1); rintro e w' ⟨rfl, ⟨nd, rfl⟩⟩; (try first | exact ⟨rfl, _, World.drewN_drewN _ _ _⟩ | exact ⟨rfl, _, Eq.trans (World.drewN_drewN _ _ _) (congrArg (World.drewN _) (Nat.add_assoc _ _ _))⟩)) | (go_at_call 27; (clear tk8_); (with_reducible refine (occ_At.calls kj3 _ t294 a1 a2 t310 _ ?side1 A23.out).mono ?_); (case side1 => first | exact HO_t294.out | exact OB.drewN HO_t294.out _ | exact OB.below (by repeat (first | (with_reducible first | exact HB.out | apply below_alloc | apply pw_below_drewN | apply below_drew1) | exact HB.out)) HO_t294.out); rintro e w32 ⟨v311, rfl, ho0, hb⟩; have n0_ := Aside0.mk (Kd.R_below (by (with_reducible repeat (first | apply Kd.R_alloc | apply Kd.R_drewN | apply Kd.R_drew)); exact HO299.out) hb); have n1_ := Aside0.mk (Kd.R_below (by (with_reducible repeat (first | apply Kd.R_alloc | apply Kd.R_drewN | apply Kd.R_drew)); exact HO302.out) hb); have n2_ := Aside0.mk (Kd.R_elder' (by (with_reducible repeat (first | apply Kd.R_alloc | apply Kd.R_drewN | apply Kd.R_drew)); exact HO305.out) (Kd.R_base ho0) hb); have n3_ := Aside0.mk (Kd.R_below (by (with_reducible repeat (first | apply Kd.R_alloc | apply Kd.R_drewN | apply Kd.R_drew)); exact HO308.out) hb); have n4_ := Aside0.mk (Kd.R_lower (Kd.R_new' ho0 (Kd.R_lt (by (with_reducible repeat (first | apply Kd.R_alloc | apply Kd.R_drewN | apply Kd.R_drew)); exact HO305.out))) (below_size (by repeat (first | (with_reducible first | exact HB.out | apply below_alloc | apply pw_below_drewN | apply below_drew1) | exact HB.out)))); have n5_ := Aside0.mk (below_step (by repeat (first | (with_reducible first | exact HB.out | apply below_alloc | apply pw_below_drewN | apply below_drew1) | exact HB.out)) hb); clear HO299; clear HO302; clear HO305; clear HO308; clear HB; have HO299 := n0_; have HO302 := n1_; have HO305 := n2_; have HO308 := n3_; have HO312 := n4_; have HB := n5_; clear n0_ n1_ n2_ n3_ n4_ n5_; (try clear hb); (try clear hb2); (try clear hk); (try clear hi); (try clear ho0)) | (go_at_call 28; (clear tk9_); (with_reducible refine (juratref15_At.calls kj3 _ _ t296 a1 a2 t313 _ ?side1 ?side2 A24.out).mono ?_); (case side1 => repeat (first | exact (Kd.R_reads' HO299.out).2.2 | (with_reducible refine Kd.C_alloc ?_ _) | (with_reducible refine Kd.C_drewN ?_ _) | (with_reducible refine Kd.C_drew ?_))); (case side2 => exact (Kd.R_reads' HO299.out).2.1); rintro e w33 ⟨v314, rfl, ho0, hb⟩; have n0_ := Aside0.mk (Kd.R_below (by (with_reducible repeat (first | apply Kd.R_alloc | apply Kd.R_drewN | apply Kd.R_drew)); exact HO299.out) hb); have n1_ := Aside0.mk (Kd.R_below (by (with_reducible repeat (first | apply Kd.R_alloc | apply Kd.R_drewN | apply Kd.R_drew)); exact HO302.out) hb); have n2_ := Aside0.mk (Kd.R_elder' (by (with_reducible repeat (first | apply Kd.R_alloc | apply Kd.R_drewN | apply Kd.R_drew)); exact HO305.out) (Kd.R_base ho0) hb); have n3_ := Aside0.mk (Kd.R_below (by (with_reducible repeat (first | apply Kd.R_alloc | apply Kd.R_drewN | apply Kd.R_drew)); exact HO308.out) hb); have n4_ := Aside0.mk (Kd.R_elder' (by (with_reducible repeat (first | apply Kd.R_alloc | apply Kd.R_drewN | apply Kd.R_drew)); exact HO312.out) (Kd.R_base ho0) hb); have n5_ := Aside0.mk (Kd.R_lower (Kd.R_new' (Kd.R_new' ho0 (Kd.R_lt (by (with_reducible repeat (first | apply Kd.R_alloc | apply Kd.R_drewN | apply Kd.R_drew)); exact HO305.out))) (Kd.R_lt (by (with_reducible repeat (first | apply Kd.R_alloc | apply Kd.R_drewN | apply Kd.R_drew)); exact HO312.out))) (below_size (by repeat (first | (with_reducible first | exact HB.out | apply below_alloc | apply pw_below_drewN | apply below_drew1) | exact HB.out)))); have n6_ := Aside0.mk (below_step (by repeat (first | (with_reducible first | exact HB.out | apply below_alloc | apply pw_below_drewN | apply below_drew1) | exact HB.out)) hb); clear HO299; clear HO302; clear HO305; clear HO308; clear HO312; clear HB; have HO299 := n0_; have HO302 := n1_; have HO305 := n2_; have HO308 := n3_; have HO312 := n4_; have HO315 := n5_; have HB := n6_; clear n0_ n1_ n2_ n3_ n4_ n5_ n6_; (try clear hb); (try clear hb2); (try clear hk); (try clear hi); (try clear ho0); obtain ⟨Ao34, co34, eo34⟩ := Kd.R_slice HO312.out; subst eo34; obtain ⟨Ao35, co35, eo35⟩ := Kd.R_slice HO315.out; subst eo35) | (go_at_call 26; (clear tk10_); (with_reducible refine (juratref01_Same.calls kj3 _ _ t310 _ _ t313 true _ ?side1 ?side2 ?side3 ?side4 A25.out).mono ?_); (case side1 => repeat (first | exact (Kd.R_reads' HO312.out).2.2 | (with_reducible refine Kd.C_alloc ?_ _) | (with_reducible refine Kd.C_drewN ?_ _) | (with_reducible refine Kd.C_drew ?_))); (case side2 => exact (Kd.R_reads' HO312.out).2.1); (case side3 => repeat (first | exact (Kd.R_reads' HO315.out).2.2 | (with_reducible refine Kd.C_alloc ?_ _) | (with_reducible refine Kd.C_drewN ?_ _) | (with_reducible refine Kd.C_drew ?_))); (case side4 => exact (Kd.R_reads' HO315.out).2.1); rintro e w' ⟨rfl, ⟨nd, rfl⟩⟩; (try first | exact ⟨rfl, _, World.drewN_drewN _ _ _⟩ | exact ⟨rfl, _, Eq.trans (World.drewN_drewN _ _ _) (congrArg (World.drewN _) (Nat.add_assoc _ _ _))⟩)) | (go_at_call 29; (clear tk11_); (with_reducible refine (occ_Any.calls _ t294 a1 t317 _ ?side1 A27.out).mono ?_); (case side1 => first | exact HO_t294.out | exact OB.drewN HO_t294.out _ | exact OB.below (by repeat (first | (with_reducible first | exact HB.out | apply below_alloc | apply pw_below_drewN | apply below_drew1) | exact HB.out)) HO_t294.out); rintro e w36 ⟨rfl, hb⟩; have n0_ := Aside0.mk (Kd.R_below (by (with_reducible repeat (first | apply Kd.R_alloc | apply Kd.R_drewN | apply Kd.R_drew)); exact HO299.out) hb); have n1_ := Aside0.mk (Kd.R_below (by (with_reducible repeat (first | apply Kd.R_alloc | apply Kd.R_drewN | apply Kd.R_drew)); exact HO302.out) hb); have n2_ := Aside0.mk (Kd.R_below (by (with_reducible repeat (first | apply Kd.R_alloc | apply Kd.R_drewN | apply Kd.R_drew)); exact HO305.out) hb); have n3_ := Aside0.mk (Kd.R_below (by (with_reducible repeat (first | apply Kd.R_alloc | apply Kd.R_drewN | apply Kd.R_drew)); exact HO308.out) hb); have n4_ := Aside0.mk (Kd.R_below (by (with_reducible repeat (first | apply Kd.R_alloc | apply Kd.R_drewN | apply Kd.R_drew)); exact HO312.out) hb); have n5_ := Aside0.mk (Kd.R_below (by (with_reducible repeat (first | apply Kd.R_alloc | apply Kd.R_drewN | apply Kd.R_drew)); exact HO315.out) hb); have n6_ := Aside0.mk (below_step (by repeat (first | (with_reducible first | exact HB.out | apply below_alloc | apply pw_below_drewN | apply below_drew1) | exact HB.out)) hb); clear HO299; clear HO302; clear HO305; clear HO308; clear HO312; clear HO315; clear HB; have HO299 := n0_; have HO302 := n1_; have HO305 := n2_; have HO308 := n3_; have HO312 := n4_; have HO315 := n5_; have HB := n6_; clear n0_ n1_ n2_ n3_ n4_ n5_ n6_; (try clear hb); (try clear hb2); (try clear hk); (try clear hi))))
                go_meet
                case rel => exact ⟨_, (true), (by first | rfl | exact isE_ _ | exact isE2_ _ | (simp; done) | (simp [*]; done)), H', ⟨by have := HJ3.out; first | omega | exact Nat.le_refl _⟩, ⟨by (with_reducible repeat (first | apply Kd.R_alloc | apply Kd.R_drewN | apply Kd.R_drew)); exact HO299.out⟩, ⟨by (with_reducible repeat (first | apply Kd.R_alloc | apply Kd.R_drewN | apply Kd.R_drew)); exact Kd.R_mono HO305.out (fun _ hk => trivial)⟩, ⟨by repeat (first | (with_reducible first | exact HB.out | apply below_alloc | apply pw_below_drewN | apply below_drew1) | exact HB.out)⟩⟩
              · rw [if_neg c28] at H
                have c28b0 : (t317 != (decide ((t300.length : Int) > 0))) = false := by simpa using c28
                have c28b7 : (t317 = decide (0 < t300.length)) = True := by rw [show decide (0 < t300.length) = decide ((t300.length : Int) > 0) from decide_eq_decide.2 (by omega)]; exact eq_true (bne_eq_false_iff_eq.1 c28b0)
                (try (have c28b1 : decide (t317 = (decide ((t300.length : Int) > 0))) = true := by simpa using c28))
                (try (have c28b2 : (t317 == (decide ((t300.length : Int) > 0))) = true := by simpa using c28))
                clear c28
                (first | rw [c28b0] | rw [c28b1] | (simp only [i64_w, i32_w]; rw [c28b0]) | skip)
                have H' := Aside0.mk H
                clear H
                obtain ⟨Ao305, co305, eo305⟩ := Kd.R_slice HO305.out
                subst eo305
                go_wp2_with (first | (go_at_call 20; (with_reducible refine (occ_All.calls _ t294 a1 t306 _ ?side1 A20.out).mono ?_); (case side1 => first | exact HO_t294.out | exact OB.drewN HO_t294.out _ | exact OB.below (by repeat (first | (with_reducible first | exact HB.out | apply below_alloc | apply pw_below_drewN | apply below_drew1) | exact HB.out)) HO_t294.out); rintro e w37 ⟨v307, rfl, ho0, hb⟩; have n0_ := Aside0.mk (Kd.R_below (by (with_reducible repeat (first | apply Kd.R_alloc | apply Kd.R_drewN | apply Kd.R_drew)); exact HO299.out) hb); have n1_ := Aside0.mk (Kd.R_elder' (by (with_reducible repeat (first | apply Kd.R_alloc | apply Kd.R_drewN | apply Kd.R_drew)); exact HO302.out) (Kd.R_base ho0) hb); have n2_ := Aside0.mk (Kd.R_below (by (with_reducible repeat (first | apply Kd.R_alloc | apply Kd.R_drewN | apply Kd.R_drew)); exact HO305.out) hb); have n3_ := Aside0.mk (Kd.R_lower (Kd.R_new' ho0 (Kd.R_lt (by (with_reducible repeat (first | apply Kd.R_alloc | apply Kd.R_drewN | apply Kd.R_drew)); exact HO302.out))) (below_size (by repeat (first | (with_reducible first | exact HB.out | apply below_alloc | apply pw_below_drewN | apply below_drew1) | exact HB.out)))); have n4_ := Aside0.mk (below_step (by repeat (first | (with_reducible first | exact HB.out | apply below_alloc | apply pw_below_drewN | apply below_drew1) | exact HB.out)) hb); clear HO299; clear HO302; clear HO305; clear HB; have HO299 := n0_; have HO302 := n1_; have HO305 := n2_; have HO308 := n3_; have HB := n4_; clear n0_ n1_ n2_ n3_ n4_; (try clear hb); (try clear hb2); (try clear hk); (try clear hi); (try clear ho0); obtain ⟨Ao38, co38, eo38⟩ := Kd.R_slice HO308.out; subst eo38; obtain ⟨Ao39, co39, eo39⟩ := Kd.R_slice HO302.out; subst eo39) | (go_at_call 21; (with_reducible refine (juratref15_Same.calls kj3 _ _ t306 _ _ t300 true _ ?side1 ?side2 ?side3 ?side4 A21.out).mono ?_); (case side1 => repeat (first | exact (Kd.R_reads' HO308.out).2.2 | (with_reducible refine Kd.C_alloc ?_ _) | (with_reducible refine Kd.C_drewN ?_ _) | (with_reducible refine Kd.C_drew ?_))); (case side2 => exact (Kd.R_reads' HO308.out).2.1); (case side3 => repeat (first | exact (Kd.R_reads' HO302.out).2.2 | (with_reducible refine Kd.C_alloc ?_ _) | (with_reducible refine Kd.C_drewN ?_ _) | (with_reducible refine Kd.C_drew ?_))); (case side4 => exact (Kd.R_reads' HO302.out).2.1); rintro e w' ⟨rfl, ⟨nd, rfl⟩⟩; (try first | exact ⟨rfl, _, World.drewN_drewN _ _ _⟩ | exact ⟨rfl, _, Eq.trans (World.drewN_drewN _ _ _) (congrArg (World.drewN _) (Nat.add_assoc _ _ _))⟩)) | (go_at_call 27; (with_reducible refine (occ_At.calls kj3 _ t294 a1 a2 t310 _ ?side1 A23.out).mono ?_); (case side1 => first | exact HO_t294.out | exact OB.drewN HO_t294.out _ | exact OB.below (by repeat (first | (with_reducible first | exact HB.out | apply below_alloc | apply pw_below_drewN | apply below_drew1) | exact HB.out)) HO_t294.out); rintro e w40 ⟨v311, rfl, ho0, hb⟩; have n0_ := Aside0.mk (Kd.R_below (by (with_reducible repeat (first | apply Kd.R_alloc | apply Kd.R_drewN | apply Kd.R_drew)); exact HO299.out) hb); have n1_ := Aside0.mk (Kd.R_below (by (with_reducible repeat (first | apply Kd.R_alloc | apply Kd.R_drewN | apply Kd.R_drew)); exact HO302.out) hb); have n2_ := Aside0.mk (Kd.R_elder' (by (with_reducible repeat (first | apply Kd.R_alloc | apply Kd.R_drewN | apply Kd.R_drew)); exact HO305.out) (Kd.R_base ho0) hb); have n3_ := Aside0.mk (Kd.R_below (by (with_reducible repeat (first | apply Kd.R_alloc | apply Kd.R_drewN | apply Kd.R_drew)); exact HO308.out) hb); have n4_ := Aside0.mk (Kd.R_lower (Kd.R_new' ho0 (Kd.R_lt (by (with_reducible repeat (first | apply Kd.R_alloc | apply Kd.R_drewN | apply Kd.R_drew)); exact HO305.out))) (below_size (by repeat (first | (with_reducible first | exact HB.out | apply below_alloc | apply pw_below_drewN | apply below_drew1) | exact HB.out)))); have n5_ := Aside0.mk (below_step (by repeat (first | (with_reducible first | exact HB.out | apply below_alloc | apply pw_below_drewN | apply below_drew1) | exact HB.out)) hb); clear HO299; clear HO302; clear HO305; clear HO308; clear HB; have HO299 := n0_; have HO302 := n1_; have HO305 := n2_; have HO308 := n3_; have HO312 := n4_; have HB := n5_; clear n0_ n1_ n2_ n3_ n4_ n5_; (try clear hb); (try clear hb2); (try clear hk); (try clear hi); (try clear ho0)) | (go_at_call 28; (with_reducible refine (juratref15_At.calls kj3 _ _ t296 a1 a2 t313 _ ?side1 ?side2 A24.out).mono ?_); (case side1 => repeat (first | exact (Kd.R_reads' HO299.out).2.2 | (with_reducible refine Kd.C_alloc ?_ _) | (with_reducible refine Kd.C_drewN ?_ _) | (with_reducible refine Kd.C_drew ?_))); (case side2 => exact (Kd.R_reads' HO299.out).2.1); rintro e w41 ⟨v314, rfl, ho0, hb⟩; have n0_ := Aside0.mk (Kd.R_below (by (with_reducible repeat (first | apply Kd.R_alloc | apply Kd.R_drewN | apply Kd.R_drew)); exact HO299.out) hb); have n1_ := Aside0.mk (Kd.R_below (by (with_reducible repeat (first | apply Kd.R_alloc | apply Kd.R_drewN | apply Kd.R_drew)); exact HO302.out) hb); have n2_ := Aside0.mk (Kd.R_elder' (by (with_reducible repeat (first | apply Kd.R_alloc | apply Kd.R_drewN | apply Kd.R_drew)); exact HO305.out) (Kd.R_base ho0) hb); have n3_ := Aside0.mk (Kd.R_below (by (with_reducible repeat (first | apply Kd.R_alloc | apply Kd.R_drewN | apply Kd.R_drew)); exact HO308.out) hb); have n4_ := Aside0.mk (Kd.R_elder' (by (with_reducible repeat (first | apply Kd.R_alloc | apply Kd.R_drewN | apply Kd.R_drew)); exact HO312.out) (Kd.R_base ho0) hb); have n5_ := Aside0.mk (Kd.R_lower (Kd.R_new' (Kd.R_new' ho0 (Kd.R_lt (by (with_reducible repeat (first | apply Kd.R_alloc | apply Kd.R_drewN | apply Kd.R_drew)); exact HO305.out))) (Kd.R_lt (by (with_reducible repeat (first | apply Kd.R_alloc | apply Kd.R_drewN | apply Kd.R_drew)); exact HO312.out))) (below_size (by repeat (first | (with_reducible first | exact HB.out | apply below_alloc | apply pw_below_drewN | apply below_drew1) | exact HB.out)))); have n6_ := Aside0.mk (below_step (by repeat (first | (with_reducible first | exact HB.out | apply below_alloc | apply pw_below_drewN | apply below_drew1) | exact HB.out)) hb); clear HO299; clear HO302; clear HO305; clear HO308; clear HO312; clear HB; have HO299 := n0_; have HO302 := n1_; have HO305 := n2_; have HO308 := n3_; have HO312 := n4_; have HO315 := n5_; have HB := n6_; clear n0_ n1_ n2_ n3_ n4_ n5_ n6_; (try clear hb); (try clear hb2); (try clear hk); (try clear hi); (try clear ho0); obtain ⟨Ao42, co42, eo42⟩ := Kd.R_slice HO312.out; subst eo42; obtain ⟨Ao43, co43, eo43⟩ := Kd.R_slice HO315.out; subst eo43) | (go_at_call 26; (with_reducible refine (juratref01_Same.calls kj3 _ _ t310 _ _ t313 true _ ?side1 ?side2 ?side3 ?side4 A25.out).mono ?_); (case side1 => repeat (first | exact (Kd.R_reads' HO312.out).2.2 | (with_reducible refine Kd.C_alloc ?_ _) | (with_reducible refine Kd.C_drewN ?_ _) | (with_reducible refine Kd.C_drew ?_))); (case side2 => exact (Kd.R_reads' HO312.out).2.1); (case side3 => repeat (first | exact (Kd.R_reads' HO315.out).2.2 | (with_reducible refine Kd.C_alloc ?_ _) | (with_reducible refine Kd.C_drewN ?_ _) | (with_reducible refine Kd.C_drew ?_))); (case side4 => exact (Kd.R_reads' HO315.out).2.1); rintro e w' ⟨rfl, ⟨nd, rfl⟩⟩; (try first | exact ⟨rfl, _, World.drewN_drewN _ _ _⟩ | exact ⟨rfl, _, Eq.trans (World.drewN_drewN _ _ _) (congrArg (World.drewN _) (Nat.add_assoc _ _ _))⟩)) | (go_at_call 29; (with_reducible refine (occ_Any.calls _ t294 a1 t317 _ ?side1 A27.out).mono ?_); (case side1 => first | exact HO_t294.out | exact OB.drewN HO_t294.out _ | exact OB.below (by repeat (first | (with_reducible first | exact HB.out | apply below_alloc | apply pw_below_drewN | apply below_drew1) | exact HB.out)) HO_t294.out); rintro e w44 ⟨rfl, hb⟩; have n0_ := Aside0.mk (Kd.R_below (by (with_reducible repeat (first | apply Kd.R_alloc | apply Kd.R_drewN | apply Kd.R_drew)); exact HO299.out) hb); have n1_ := Aside0.mk (Kd.R_below (by (with_reducible repeat (first | apply Kd.R_alloc | apply Kd.R_drewN | apply Kd.R_drew)); exact HO302.out) hb); have n2_ := Aside0.mk (Kd.R_below (by (with_reducible repeat (first | apply Kd.R_alloc | apply Kd.R_drewN | apply Kd.R_drew)); exact HO305.out) hb); have n3_ := Aside0.mk (Kd.R_below (by (with_reducible repeat (first | apply Kd.R_alloc | apply Kd.R_drewN | apply Kd.R_drew)); exact HO308.out) hb); have n4_ := Aside0.mk (Kd.R_below (by (with_reducible repeat (first | apply Kd.R_alloc | apply Kd.R_drewN | apply Kd.R_drew)); exact HO312.out) hb); have n5_ := Aside0.mk (Kd.R_below (by (with_reducible repeat (first | apply Kd.R_alloc | apply Kd.R_drewN | apply Kd.R_drew)); exact HO315.out) hb); have n6_ := Aside0.mk (below_step (by repeat (first | (with_reducible first | exact HB.out | apply below_alloc | apply pw_below_drewN | apply below_drew1) | exact HB.out)) hb); clear HO299; clear HO302; clear HO305; clear HO308; clear HO312; clear HO315; clear HB; have HO299 := n0_; have HO302 := n1_; have HO305 := n2_; have HO308 := n3_; have HO312 := n4_; have HO315 := n5_; have HB := n6_; clear n0_ n1_ n2_ n3_ n4_ n5_ n6_; (try clear hb); (try clear hb2); (try clear hk); (try clear hi)))
                have tk0_ : True := trivial
                have tk1_ : True := trivial
                have tk2_ : True := trivial
                have tk3_ : True := trivial
                have tk4_ : True := trivial
                have tk5_ : True := trivial
                have tk6_ : True := trivial
                have tk7_ : True := trivial
                have tk8_ : True := trivial
                have tk9_ : True := trivial
                have tk10_ : True := trivial
                have tk11_ : True := trivial
                repeat (go_quiet (first | (go_at_call 20; (clear tk0_); (with_reducible refine (occ_All.calls _ t294 a1 t306 _ ?side1 A20.out).mono ?_); (case side1 => first | exact HO_t294.out | exact OB.drewN HO_t294.out _ | exact OB.below (by repeat (first | (with_reducible first | exact HB.out | apply below_alloc | apply pw_below_drewN | apply below_drew1) | exact HB.out)) HO_t294.out); rintro e w37 ⟨v307, rfl, ho0, hb⟩; have n0_ := Aside0.mk (Kd.R_below (by (with_reducible repeat (first | apply Kd.R_alloc | apply Kd.R_drewN | apply Kd.R_drew)); exact HO299.out) hb); have n1_ := Aside0.mk (Kd.R_elder' (by (with_reducible repeat (first | apply Kd.R_alloc | apply Kd.R_drewN | apply Kd.R_drew)); exact HO302.out) (Kd.R_base ho0) hb); have n2_ := Aside0.mk (Kd.R_below (by (with_reducible repeat (first | apply Kd.R_alloc | apply Kd.R_drewN | apply Kd.R_drew)); exact HO305.out) hb); have n3_ := Aside0.mk (Kd.R_lower (Kd.R_new' ho0 (Kd.R_lt (by (with_reducible repeat (first | apply Kd.R_alloc | apply Kd.R_drewN | apply Kd.R_drew)); exact HO302.out))) (below_size (by repeat (first | (with_reducible first | exact HB.out | apply below_alloc | apply pw_below_drewN | apply below_drew1) | exact HB.out)))); have n4_ := Aside0.mk (below_step (by repeat (first | (with_reducible first | exact HB.out | apply below_alloc | apply pw_below_drewN | apply below_drew1) | exact HB.out)) hb); clear HO299; clear HO302; clear HO305; clear HB; have HO299 := n0_; have HO302 := n1_; have HO305 := n2_; have HO308 := n3_; have HB := n4_; clear n0_ n1_ n2_ n3_ n4_; (try clear hb); (try clear hb2); (try clear hk); (try clear hi); (try clear ho0); obtain ⟨Ao38, co38, eo38⟩ := Kd.R_slice HO308.out; subst eo38; obtain ⟨Ao39, co39, eo39⟩ := Kd.R_slice HO302.out; subst eo39) | (go_at_call 21; (clear tk1_); (with_reducible refine (juratref15_Same.calls kj3 _ _ t306 _ _ t300 true _ ?side1 ?side2 ?side3 ?side4 A21.out).mono ?_); (case side1 => repeat (first | exact (Kd.R_reads' HO308.out).2.2 | (with_reducible refine Kd.C_alloc ?_ _) | (with_reducible refine Kd.C_drewN ?_ _) | (with_reducible refine Kd.C_drew ?_))); (case side2 => exact (Kd.R_reads' HO308.out).2.1); (case side3 => repeat (first | exact (Kd.R_reads' HO302.out).2.2 | (with_reducible refine Kd.C_alloc ?_ _) | (with_reducible refine Kd.C_drewN ?_ _) | (with_reducible refine Kd.C_drew ?_))); (case side4 => exact (Kd.R_reads' HO302.out).2.1); rintro e w' ⟨rfl, ⟨nd, rfl⟩⟩; (try first | exact ⟨rfl, _, World.drewN_drewN _ _ _⟩ | exact ⟨rfl, _, Eq.trans (World.drewN_drewN _ _ _) (congrArg (World.drewN _) (Nat.add_assoc _ _ _))⟩)) | (go_at_call 27; (clear tk2_); (with_reducible refine (occ_At.calls kj3 _ t294 a1 a2 t310 _ ?side1 A23.out).mono ?_); (case side1 => first | exact HO_t294.out | exact OB.drewN HO_t294.out _ | exact OB.below (by repeat (first | (with_reducible first | exact HB.out | apply below_alloc | apply pw_below_drewN | apply below_drew1) | exact HB.out)) HO_t294.out); rintro e w40 ⟨v311, rfl, ho0, hb⟩; have n0_ := Aside0.mk (Kd.R_below (by (with_reducible repeat (first | apply Kd.R_alloc | apply Kd.R_drewN | apply Kd.R_drew)); exact HO299.out) hb); have n1_ := Aside0.mk (Kd.R_below (by (with_reducible repeat (first | apply Kd.R_alloc | apply Kd.R_drewN | apply Kd.R_drew)); exact HO302.out) hb); have n2_ := Aside0.mk (Kd.R_elder' (by (with_reducible repeat (first | apply Kd.R_alloc | apply Kd.R_drewN | apply Kd.R_drew)); exact HO305.out) (Kd.R_base ho0) hb); have n3_ := Aside0.mk (Kd.R_below (by (with_reducible repeat (first | apply Kd.R_alloc | apply Kd.R_drewN | apply Kd.R_drew)); exact HO308.out) hb); have n4_ := Aside0.mk (Kd.R_lower (Kd.R_new' ho0 (Kd.R_lt (by (with_reducible repeat (first | apply Kd.R_alloc | apply Kd.R_drewN | apply Kd.R_drew)); exact HO305.out))) (below_size (by repeat (first | (with_reducible first | exact HB.out | apply below_alloc | apply pw_below_drewN | apply below_drew1) | exact HB.out)))); have n5_ := Aside0.mk (below_step (by repeat (first | (with_reducible first | exact HB.out | apply below_alloc | apply pw_below_drewN | apply below_drew1) | exact HB.out)) hb); clear HO299; clear HO302; clear HO305; clear HO308; clear HB; have HO299 := n0_; have HO302 := n1_; have HO305 := n2_; have HO308 := n3_; have HO312 := n4_; have HB := n5_; clear n0_ n1_ n2_ n3_ n4_ n5_; (try clear hb); (try clear hb2); (try clear hk); (try clear hi); (try clear ho0)) | (go_at_call 28; (clear tk3_); (with_reducible refine (juratref15_At.calls kj3 _ _ t296 a1 a2 t313 _ ?side1 ?side2 A24.out).mono ?_); (case side1 => repeat (first | exact (Kd.R_reads' HO299.out).2.2 | (with_reducible refine Kd.C_alloc ?_ _) | (with_reducible refine Kd.C_drewN ?_ _) | (with_reducible refine Kd.C_drew ?_))); (case side2 => exact (Kd.R_reads' HO299.out).2.1); rintro e w41 ⟨v314, rfl, ho0, hb⟩; have n0_ := Aside0.mk (Kd.R_below (by (with_reducible repeat (first | apply Kd.R_alloc | apply Kd.R_drewN | apply Kd.R_drew)); exact HO299.out) hb); have n1_ := Aside0.mk (Kd.R_below (by (with_reducible repeat (first | apply Kd.R_alloc | apply Kd.R_drewN | apply Kd.R_drew)); exact HO302.out) hb); have n2_ := Aside0.mk (Kd.R_elder' (by (with_reducible repeat (first | apply Kd.R_alloc | apply Kd.R_drewN | apply Kd.R_drew)); exact HO305.out) (Kd.R_base ho0) hb); have n3_ := Aside0.mk (Kd.R_below (by (with_reducible repeat (first | apply Kd.R_alloc | apply Kd.R_drewN | apply Kd.R_drew)); exact HO308.out) hb); have n4_ := Aside0.mk (Kd.R_elder' (by (with_reducible repeat (first | apply Kd.R_alloc | apply Kd.R_drewN | apply Kd.R_drew)); exact HO312.out) (Kd.R_base ho0) hb); have n5_ := Aside0.mk (Kd.R_lower (Kd.R_new' (Kd.R_new' ho0 (Kd.R_lt (by (with_reducible repeat (first | apply Kd.R_alloc | apply Kd.R_drewN | apply Kd.R_drew)); exact HO305.out))) (Kd.R_lt (by (with_reducible repeat (first | apply Kd.R_alloc | apply Kd.R_drewN | apply Kd.R_drew)); exact HO312.out))) (below_size (by repeat (first | (with_reducible first | exact HB.out | apply below_alloc | apply pw_below_drewN | apply below_drew1) | exact HB.out)))); have n6_ := Aside0.mk (below_step (by repeat (first | (with_reducible first | exact HB.out | apply below_alloc | apply pw_below_drewN | apply below_drew1) | exact HB.out)) hb); clear HO299; clear HO302; clear HO305; clear HO308; clear HO312; clear HB; have HO299 := n0_; have HO302 := n1_; have HO305 := n2_; have HO308 := n3_; have HO312 := n4_; have HO315 := n5_; have HB := n6_; clear n0_ n1_ n2_ n3_ n4_ n5_ n6_; (try clear hb); (try clear hb2); (try clear hk); (try clear hi); (try clear ho0); obtain ⟨Ao42, co42, eo42⟩ := Kd.R_slice HO312.out; subst eo42; obtain ⟨Ao43, co43, eo43⟩ := Kd.R_slice HO315.out; subst eo43) | (go_at_call 26; (clear tk4_); (with_reducible refine (juratref01_Same.calls kj3 _ _ t310 _ _ t313 true _ ?side1 ?side2 ?side3 ?side4 A25.out).mono ?_); (case side1 => repeat (first | exact (Kd.R_reads' HO312.out).2.2 | (with_reducible refine Kd.C_alloc ?_ _) | (with_reducible refine Kd.C_drewN ?_ _) | (with_reducible refine Kd.C_drew ?_))); (case side2 => exact (Kd.R_reads' HO312.out).2.1); (case side3 => repeat (first | exact (Kd.R_reads' HO315.out).2.2 | (with_reducible refine Kd.C_alloc ?_ _) | (with_reducible refine Kd.C_drewN ?_ _) | (with_reducible refine Kd.C_drew ?_))); (case side4 => exact (Kd.R_reads' HO315.out).2.1); rintro e w' ⟨rfl, ⟨nd, rfl⟩⟩; (try first | exact ⟨rfl, _, World.drewN_drewN _ _ _⟩ | exact ⟨rfl, _, Eq.trans (World.drewN_drewN _ _ _) (congrArg (World.drewN _) (Nat.add_assoc _ _ _))⟩)) | (go_at_call 29; (clear tk5_); (with_reducible refine (occ_Any.calls _ t294 a1 t317 _ ?side1 A27.out).mono ?_); (case side1 => first | exact HO_t294.out | exact OB.drewN HO_t294.out _ | exact OB.below (by repeat (first | (with_reducible first | exact HB.out | apply below_alloc | apply pw_below_drewN | apply below_drew1) | exact HB.out)) HO_t294.out); rintro e w44 ⟨rfl, hb⟩; have n0_ := Aside0.mk (Kd.R_below (by (with_reducible repeat (first | apply Kd.R_alloc | apply Kd.R_drewN | apply Kd.R_drew)); exact HO299.out) hb); have n1_ := Aside0.mk (Kd.R_below (by (with_reducible repeat (first | apply Kd.R_alloc | apply Kd.R_drewN | apply Kd.R_drew)); exact HO302.out) hb); have n2_ := Aside0.mk (Kd.R_below (by (with_reducible repeat (first | apply Kd.R_alloc | apply Kd.R_drewN | apply Kd.R_drew)); exact HO305.out) hb); have n3_ := Aside0.mk (Kd.R_below (by (with_reducible repeat (first | apply Kd.R_alloc | apply Kd.R_drewN | apply Kd.R_drew)); exact HO308.out) hb); have n4_ := Aside0.mk (Kd.R_below (by (with_reducible repeat (first | apply Kd.R_alloc | apply Kd.R_drewN | apply Kd.R_drew)); exact HO312.out) hb); have n5_ := Aside0.mk (Kd.R_below (by (with_reducible repeat (first | apply Kd.R_alloc | apply Kd.R_drewN | apply Kd.R_drew)); exact HO315.out) hb); have n6_ := Aside0.mk (below_step (by repeat (first | (with_reducible first | exact HB.out | apply below_alloc | apply pw_below_drewN | apply below_drew1) | exact HB.out)) hb); clear HO299; clear HO302; clear HO305; clear HO308; clear HO312; clear HO315; clear HB; have HO299 := n0_; have HO302 := n1_; have HO305 := n2_; have HO308 := n3_; have HO312 := n4_; have HO315 := n5_; have HB := n6_; clear n0_ n1_ n2_ n3_ n4_ n5_ n6_; (try clear hb); (try clear hb2); (try clear hk); (try clear hi))); try go_wp2_with (first | (go_at_call 20; (clear tk6_); (with_reducible refine (occ_All.calls _ t294 a1 t306 _ ?side1 A20.out).mono ?_); (case side1 => first | exact HO_t294.out | exact OB.drewN HO_t294.out _ | exact OB.below (by repeat (first | (with_reducible first | exact HB.out | apply below_alloc | apply pw_below_drewN | apply below_drew1) | exact HB.out)) HO_t294.out); rintro e w37 ⟨v307, rfl, ho0, hb⟩; have n0_ := Aside0.mk (Kd.R_below (by (with_reducible repeat (first | apply Kd.R_alloc | apply Kd.R_drewN | apply Kd.R_drew)); exact HO299.out) hb); have n1_ := Aside0.mk (Kd.R_elder' (by (with_reducible repeat (first | apply Kd.R_alloc | apply Kd.R_drewN | apply Kd.R_drew)); exact HO302.out) (Kd.R_base ho0) hb); have n2_ := Aside0.mk (Kd.R_below (by (with_reducible repeat (first | apply Kd.R_alloc | apply Kd.R_drewN | apply Kd.R_drew)); exact HO305.out) hb); have n3_ := Aside0.mk (Kd.R_lower (Kd.R_new' ho0 (Kd.R_lt (by (with_reducible repeat (first | apply Kd.R_alloc | apply Kd.R_drewN | apply Kd.R_drew)); exact HO302.out))) (below_size (by repeat (first | (with_reducible first | exact HB.out | apply below_alloc | apply pw_below_drewN | apply below_drew1) | exact HB.out)))); have n4_ := Aside0.mk (below_step (by repeat (first | (with_reducible first | exact HB.out | apply below_alloc | apply pw_below_drewN | apply below_drew1) | exact HB.out)) hb); clear HO299; clear HO302; clear HO305; clear HB; have HO299 := n0_; have HO302 := n1_; have HO305 := n2_; have HO308 := n3_; have HB := n4_; clear n0_ n1_ n2_ n3_ n4_; (try clear hb); (try clear hb2); (try clear hk); (try clear hi); (try clear ho0); obtain ⟨Ao38, co38, eo38⟩ := Kd.R_slice HO308.out; subst eo38; obtain ⟨Ao39, co39, eo39⟩ := Kd.R_slice HO302.out; subst eo39) | (go_at_call 21; (clear tk7_); (with_reducible refine (juratref15_Same.calls kj3 _ _ t306 _ _ t300 true _ ?side1 ?side2 ?side3 ?side4 A21.out).mono ?_); (case side1 => repeat (first | exact (Kd.R_reads' HO308.out).2.2 | (with_reducible refine Kd.C_alloc ?_ _) | (with_reducible refine Kd.C_drewN ?_ _) | (with_reducible refine Kd.C_drew ?_))); (case side2 => exact (Kd.R_reads' HO308.out).2.1); (case side3 => repeat (first | exact (Kd.R_reads' HO302.out).2.2 | (with_reducible refine Kd.C_alloc ?_ _) | (with_reducible refine Kd.C_drewN ?_ _) | (with_reducible refine Kd.C_drew ?_))); (case side4 => exact (Kd.R_reads' HO302.out).2.1); rintro e w' ⟨rfl, ⟨nd, rfl⟩⟩; (try first | exact ⟨rfl, _, World.drewN_drewN _ _ _⟩ | exact ⟨rfl, _, Eq.trans (World.drewN_drewN _ _ _) (congrArg (World.drewN _) (Nat.add_assoc _ _ _))⟩)) | (go_at_call 27; (clear tk8_); (with_reducible refine (occ_At.calls kj3 _ t294 a1 a2 t310 _ ?side1 A23.out).mono ?_); (case side1 => first | exact HO_t294.out | exact OB.drewN HO_t294.out _ | exact OB.below (by repeat (first | (with_reducible first | exact HB.out | apply below_alloc | apply pw_below_drewN | apply below_drew1) | exact HB.out)) HO_t294.out); rintro e w40 ⟨v311, rfl, ho0, hb⟩; have n0_ := Aside0.mk (Kd.R_below (by (with_reducible repeat (first | apply Kd.R_alloc | apply Kd.R_drewN | apply Kd.R_drew)); exact HO299.out) hb); have n1_ := Aside0.mk (Kd.R_below (by (with_reducible repeat (first | apply Kd.R_alloc | apply Kd.R_drewN | apply Kd.R_drew)); exact HO302.out) hb); have n2_ := Aside0.mk (Kd.R_elder' (by (with_reducible repeat (first | apply Kd.R_alloc | apply Kd.R_drewN | apply Kd.R_drew)); exact HO305.out) (Kd.R_base ho0) hb); have n3_ := Aside0.mk (Kd.R_below (by (with_reducible repeat (first | apply Kd.R_alloc | apply Kd.R_drewN | apply Kd.R_drew)); exact HO308.out) hb); have n4_ := Aside0.mk (Kd.R_lower (Kd.R_new' ho0 (Kd.R_lt (by (with_reducible repeat (first | apply Kd.R_alloc | apply Kd.R_drewN | apply Kd.R_drew)); exact HO305.out))) (below_size (by repeat (first | (with_reducible first | exact HB.out | apply below_alloc | apply pw_below_drewN | apply below_drew1) | exact HB.out)))); have n5_ := Aside0.mk (below_step (by repeat (first | (with_reducible first | exact HB.out | apply below_alloc | apply pw_below_drewN | apply below_drew1) | exact HB.out)) hb); clear HO299; clear HO302; clear HO305; clear HO308; clear HB; have HO299 := n0_; have HO302 := n1_; have HO305 := n2_; have HO308 := n3_; have HO312 := n4_; have HB := n5_; clear n0_ n1_ n2_ n3_ n4_ n5_; (try clear hb); (try clear hb2); (try clear hk); (try clear hi); (try clear ho0)) | (go_at_call 28; (clear tk9_); (with_reducible refine (juratref15_At.calls kj3 _ _ t296 a1 a2 t313 _ ?side1 ?side2 A24.out).mono ?_); (case side1 => repeat (first | exact (Kd.R_reads' HO299.out).2.2 | (with_reducible refine Kd.C_alloc ?_ _) | (with_reducible refine Kd.C_drewN ?_ _) | (with_reducible refine Kd.C_drew ?_))); (case side2 => exact (Kd.R_reads' HO299.out).2.1); rintro e w41 ⟨v314, rfl, ho0, hb⟩; have n0_ := Aside0.mk (Kd.R_below (by (with_reducible repeat (first | apply Kd.R_alloc | apply Kd.R_drewN | apply Kd.R_drew)); exact HO299.out) hb); have n1_ := Aside0.mk (Kd.R_below (by (with_reducible repeat (first | apply Kd.R_alloc | apply Kd.R_drewN | apply Kd.R_drew)); exact HO302.out) hb); have n2_ := Aside0.mk (Kd.R_elder' (by (with_reducible repeat (first | apply Kd.R_alloc | apply Kd.R_drewN | apply Kd.R_drew)); exact HO305.out) (Kd.R_base ho0) hb); have n3_ := Aside0.mk (Kd.R_below (by (with_reducible repeat (first | apply Kd.R_alloc | apply Kd.R_drewN | apply Kd.R_drew)); exact HO308.out) hb); have n4_ := Aside0.mk (Kd.R_elder' (by (with_reducible repeat (first | apply Kd.R_alloc | apply Kd.R_drewN | apply Kd.R_drew)); exact HO312.out) (Kd.R_base ho0) hb); have n5_ := Aside0.mk (Kd.R_lower (Kd.R_new' (Kd.R_new' ho0 (Kd.R_lt (by (with_reducible repeat (first | apply Kd.R_alloc | apply Kd.R_drewN | apply Kd.R_drew)); exact HO305.out))) (Kd.R_lt (by (with_reducible repeat (first | apply Kd.R_alloc | apply Kd.R_drewN | apply Kd.R_drew)); exact HO312.out))) (below_size (by repeat (first | (with_reducible first | exact HB.out | apply below_alloc | apply pw_below_drewN | apply below_drew1) | exact HB.out)))); have n6_ := Aside0.mk (below_step (by repeat (first | (with_reducible first | exact HB.out | apply below_alloc | apply pw_below_drewN | apply below_drew1) | exact HB.out)) hb); clear HO299; clear HO302; clear HO305; clear HO308; clear HO312; clear HB; have HO299 := n0_; have HO302 := n1_; have HO305 := n2_; have HO308 := n3_; have HO312 := n4_; have HO315 := n5_; have HB := n6_; clear n0_ n1_ n2_ n3_ n4_ n5_ n6_; (try clear hb); (try clear hb2); (try clear hk); (try clear hi); (try clear ho0); obtain ⟨Ao42, co42, eo42⟩ := Kd.R_slice HO312.out; subst eo42; obtain ⟨Ao43, co43, eo43⟩ := Kd.R_slice HO315.out; subst eo43) | (go_at_call 26; (clear tk10_); (with_reducible refine (juratref01_Same.calls kj3 _ _ t310 _ _ t313 true _ ?side1 ?side2 ?side3 ?side4 A25.out).mono ?_); (case side1 => repeat (first | exact (Kd.R_reads' HO312.out).2.2 | (with_reducible refine Kd.C_alloc ?_ _) | (with_reducible refine Kd.C_drewN ?_ _) | (with_reducible refine Kd.C_drew ?_))); (case side2 => exact (Kd.R_reads' HO312.out).2.1); (case side3 => repeat (first | exact (Kd.R_reads' HO315.out).2.2 | (with_reducible refine Kd.C_alloc ?_ _) | (with_reducible refine Kd.C_drewN ?_ _) | (with_reducible refine Kd.C_drew ?_))); (case side4 => exact (Kd.R_reads' HO315.out).2.1); rintro e w' ⟨rfl, ⟨nd, rfl⟩⟩; (try first | exact ⟨rfl, _, World.drewN_drewN _ _ _⟩ | exact ⟨rfl, _, Eq.trans (World.drewN_drewN _ _ _) (congrArg (World.drewN _) (Nat.add_assoc _ _ _))⟩)) | (go_at_call 29; (clear tk11_); (with_reducible refine (occ_Any.calls _ t294 a1 t317 _ ?side1 A27.out).mono ?_); (case side1 => first | exact HO_t294.out | exact OB.drewN HO_t294.out _ | exact OB.below (by repeat (first | (with_reducible first | exact HB.out | apply below_alloc | apply pw_below_drewN | apply below_drew1) | exact HB.out)) HO_t294.out); rintro e w44 ⟨rfl, hb⟩; have n0_ := Aside0.mk (Kd.R_below (by (with_reducible repeat (first | apply Kd.R_alloc | apply Kd.R_drewN | apply Kd.R_drew)); exact HO299.out) hb); have n1_ := Aside0.mk (Kd.R_below (by (with_reducible repeat (first | apply Kd.R_alloc | apply Kd.R_drewN | apply Kd.R_drew)); exact HO302.out) hb); have n2_ := Aside0.mk (Kd.R_below (by (with_reducible repeat (first | apply Kd.R_alloc | apply Kd.R_drewN | apply Kd.R_drew)); exact HO305.out) hb); have n3_ := Aside0.mk (Kd.R_below (by (with_reducible repeat (first | apply Kd.R_alloc | apply Kd.R_drewN | apply Kd.R_drew)); exact HO308.out) hb); have n4_ := Aside0.mk (Kd.R_below (by (with_reducible repeat (first | apply Kd.R_alloc | apply Kd.R_drewN | apply Kd.R_drew)); exact HO312.out) hb); have n5_ := Aside0.mk (Kd.R_below (by (with_reducible repeat (first | apply Kd.R_alloc | apply Kd.R_drewN | apply Kd.R_drew)); exact HO315.out) hb); have n6_ := Aside0.mk (below_step (by repeat (first | (with_reducible first | exact HB.out | apply below_alloc | apply pw_below_drewN | apply below_drew1) | exact HB.out)) hb); clear HO299; clear HO302; clear HO305; clear HO308; clear HO312; clear HO315; clear HB; have HO299 := n0_; have HO302 := n1_; have HO305 := n2_; have HO308 := n3_; have HO312 := n4_; have HO315 := n5_; have HB := n6_; clear n0_ n1_ n2_ n3_ n4_ n5_ n6_; (try clear hb); (try clear hb2); (try clear hk); (try clear hi))))
                go_meet
                case rel => exact ⟨_, (((t303.length : Int) != (t296.length : Int))), (by first | rfl | exact isE_ _ | exact isE2_ _ | (simp; done) | (simp [*]; done)), H', ⟨by have := HJ3.out; first | omega | exact Nat.le_refl _⟩, ⟨by (with_reducible repeat (first | apply Kd.R_alloc | apply Kd.R_drewN | apply Kd.R_drew)); exact HO299.out⟩, ⟨by (with_reducible repeat (first | apply Kd.R_alloc | apply Kd.R_drewN | apply Kd.R_drew)); exact Kd.R_mono HO305.out (fun _ hk => trivial)⟩, ⟨by repeat (first | (with_reducible first | exact HB.out | apply below_alloc | apply pw_below_drewN | apply below_drew1) | exact HB.out)⟩⟩
            · replace c26 := Bool.eq_false_iff.mpr c26
              subst c26
              have H1 : (juratlaw15_OccTells.j1 kj3 a1 t296 t303 true) = some r := by rw [if_neg (show ¬ (false = true) by decide)] at H; exact H
              clear H
              have H := H1
              clear H1
              have H' := Aside0.mk H
              clear H
              obtain ⟨Ao305, co305, eo305⟩ := Kd.R_slice HO305.out
              subst eo305
              go_wp2_with (first | (go_at_call 20; (with_reducible refine (occ_All.calls _ t294 a1 t306 _ ?side1 A20.out).mono ?_); (case side1 => first | exact HO_t294.out | exact OB.drewN HO_t294.out _ | exact OB.below (by repeat (first | (with_reducible first | exact HB.out | apply below_alloc | apply pw_below_drewN | apply below_drew1) | exact HB.out)) HO_t294.out); rintro e w46 ⟨v307, rfl, ho0, hb⟩; have n0_ := Aside0.mk (Kd.R_below (by (with_reducible repeat (first | apply Kd.R_alloc | apply Kd.R_drewN | apply Kd.R_drew)); exact HO299.out) hb); have n1_ := Aside0.mk (Kd.R_elder' (by (with_reducible repeat (first | apply Kd.R_alloc | apply Kd.R_drewN | apply Kd.R_drew)); exact HO302.out) (Kd.R_base ho0) hb); have n2_ := Aside0.mk (Kd.R_below (by (with_reducible repeat (first | apply Kd.R_alloc | apply Kd.R_drewN | apply Kd.R_drew)); exact HO305.out) hb); have n3_ := Aside0.mk (Kd.R_lower (Kd.R_new' ho0 (Kd.R_lt (by (with_reducible repeat (first | apply Kd.R_alloc | apply Kd.R_drewN | apply Kd.R_drew)); exact HO302.out))) (below_size (by repeat (first | (with_reducible first | exact HB.out | apply below_alloc | apply pw_below_drewN | apply below_drew1) | exact HB.out)))); have n4_ := Aside0.mk (below_step (by repeat (first | (with_reducible first | exact HB.out | apply below_alloc | apply pw_below_drewN | apply below_drew1) | exact HB.out)) hb); clear HO299; clear HO302; clear HO305; clear HB; have HO299 := n0_; have HO302 := n1_; have HO305 := n2_; have HO308 := n3_; have HB := n4_; clear n0_ n1_ n2_ n3_ n4_; (try clear hb); (try clear hb2); (try clear hk); (try clear hi); (try clear ho0); obtain ⟨Ao47, co47, eo47⟩ := Kd.R_slice HO308.out; subst eo47; obtain ⟨Ao48, co48, eo48⟩ := Kd.R_slice HO302.out; subst eo48) | (go_at_call 21; (with_reducible refine (juratref15_Same.calls kj3 _ _ t306 _ _ t300 true _ ?side1 ?side2 ?side3 ?side4 A21.out).mono ?_); (case side1 => repeat (first | exact (Kd.R_reads' HO308.out).2.2 | (with_reducible refine Kd.C_alloc ?_ _) | (with_reducible refine Kd.C_drewN ?_ _) | (with_reducible refine Kd.C_drew ?_))); (case side2 => exact (Kd.R_reads' HO308.out).2.1); (case side3 => repeat (first | exact (Kd.R_reads' HO302.out).2.2 | (with_reducible refine Kd.C_alloc ?_ _) | (with_reducible refine Kd.C_drewN ?_ _) | (with_reducible refine Kd.C_drew ?_))); (case side4 => exact (Kd.R_reads' HO302.out).2.1); rintro e w' ⟨rfl, ⟨nd, rfl⟩⟩; (try first | exact ⟨rfl, _, World.drewN_drewN _ _ _⟩ | exact ⟨rfl, _, Eq.trans (World.drewN_drewN _ _ _) (congrArg (World.drewN _) (Nat.add_assoc _ _ _))⟩)) | (go_at_call 27; (with_reducible refine (occ_At.calls kj3 _ t294 a1 a2 t310 _ ?side1 A23.out).mono ?_); (case side1 => first | exact HO_t294.out | exact OB.drewN HO_t294.out _ | exact OB.below (by repeat (first | (with_reducible first | exact HB.out | apply below_alloc | apply pw_below_drewN | apply below_drew1) | exact HB.out)) HO_t294.out); rintro e w49 ⟨v311, rfl, ho0, hb⟩; have n0_ := Aside0.mk (Kd.R_below (by (with_reducible repeat (first | apply Kd.R_alloc | apply Kd.R_drewN | apply Kd.R_drew)); exact HO299.out) hb); have n1_ := Aside0.mk (Kd.R_below (by (with_reducible repeat (first | apply Kd.R_alloc | apply Kd.R_drewN | apply Kd.R_drew)); exact HO302.out) hb); have n2_ := Aside0.mk (Kd.R_elder' (by (with_reducible repeat (first | apply Kd.R_alloc | apply Kd.R_drewN | apply Kd.R_drew)); exact HO305.out) (Kd.R_base ho0) hb); have n3_ := Aside0.mk (Kd.R_below (by (with_reducible repeat (first | apply Kd.R_alloc | apply Kd.R_drewN | apply Kd.R_drew)); exact HO308.out) hb); have n4_ := Aside0.mk (Kd.R_lower (Kd.R_new' ho0 (Kd.R_lt (by (with_reducible repeat (first | apply Kd.R_alloc | apply Kd.R_drewN | apply Kd.R_drew)); exact HO305.out))) (below_size (by repeat (first | (with_reducible first | exact HB.out | apply below_alloc | apply pw_below_drewN | apply below_drew1) | exact HB.out)))); have n5_ := Aside0.mk (below_step (by repeat (first | (with_reducible first | exact HB.out | apply below_alloc | apply pw_below_drewN | apply below_drew1) | exact HB.out)) hb); clear HO299; clear HO302; clear HO305; clear HO308; clear HB; have HO299 := n0_; have HO302 := n1_; have HO305 := n2_; have HO308 := n3_; have HO312 := n4_; have HB := n5_; clear n0_ n1_ n2_ n3_ n4_ n5_; (try clear hb); (try clear hb2); (try clear hk); (try clear hi); (try clear ho0)) | (go_at_call 28; (with_reducible refine (juratref15_At.calls kj3 _ _ t296 a1 a2 t313 _ ?side1 ?side2 A24.out).mono ?_); (case side1 => repeat (first | exact (Kd.R_reads' HO299.out).2.2 | (with_reducible refine Kd.C_alloc ?_ _) | (with_reducible refine Kd.C_drewN ?_ _) | (with_reducible refine Kd.C_drew ?_))); (case side2 => exact (Kd.R_reads' HO299.out).2.1); rintro e w50 ⟨v314, rfl, ho0, hb⟩; have n0_ := Aside0.mk (Kd.R_below (by (with_reducible repeat (first | apply Kd.R_alloc | apply Kd.R_drewN | apply Kd.R_drew)); exact HO299.out) hb); have n1_ := Aside0.mk (Kd.R_below (by (with_reducible repeat (first | apply Kd.R_alloc | apply Kd.R_drewN | apply Kd.R_drew)); exact HO302.out) hb); have n2_ := Aside0.mk (Kd.R_elder' (by (with_reducible repeat (first | apply Kd.R_alloc | apply Kd.R_drewN | apply Kd.R_drew)); exact HO305.out) (Kd.R_base ho0) hb); have n3_ := Aside0.mk (Kd.R_below (by (with_reducible repeat (first | apply Kd.R_alloc | apply Kd.R_drewN | apply Kd.R_drew)); exact HO308.out) hb); have n4_ := Aside0.mk (Kd.R_elder' (by (with_reducible repeat (first | apply Kd.R_alloc | apply Kd.R_drewN | apply Kd.R_drew)); exact HO312.out) (Kd.R_base ho0) hb); have n5_ := Aside0.mk (Kd.R_lower (Kd.R_new' (Kd.R_new' ho0 (Kd.R_lt (by (with_reducible repeat (first | apply Kd.R_alloc | apply Kd.R_drewN | apply Kd.R_drew)); exact HO305.out))) (Kd.R_lt (by (with_reducible repeat (first | apply Kd.R_alloc | apply Kd.R_drewN | apply Kd.R_drew)); exact HO312.out))) (below_size (by repeat (first | (with_reducible first | exact HB.out | apply below_alloc | apply pw_below_drewN | apply below_drew1) | exact HB.out)))); have n6_ := Aside0.mk (below_step (by repeat (first | (with_reducible first | exact HB.out | apply below_alloc | apply pw_below_drewN | apply below_drew1) | exact HB.out)) hb); clear HO299; clear HO302; clear HO305; clear HO308; clear HO312; clear HB; have HO299 := n0_; have HO302 := n1_; have HO305 := n2_; have HO308 := n3_; have HO312 := n4_; have HO315 := n5_; have HB := n6_; clear n0_ n1_ n2_ n3_ n4_ n5_ n6_; (try clear hb); (try clear hb2); (try clear hk); (try clear hi); (try clear ho0); obtain ⟨Ao51, co51, eo51⟩ := Kd.R_slice HO312.out; subst eo51; obtain ⟨Ao52, co52, eo52⟩ := Kd.R_slice HO315.out; subst eo52) | (go_at_call 26; (with_reducible refine (juratref01_Same.calls kj3 _ _ t310 _ _ t313 false _ ?side1 ?side2 ?side3 ?side4 A25.out).mono ?_); (case side1 => repeat (first | exact (Kd.R_reads' HO312.out).2.2 | (with_reducible refine Kd.C_alloc ?_ _) | (with_reducible refine Kd.C_drewN ?_ _) | (with_reducible refine Kd.C_drew ?_))); (case side2 => exact (Kd.R_reads' HO312.out).2.1); (case side3 => repeat (first | exact (Kd.R_reads' HO315.out).2.2 | (with_reducible refine Kd.C_alloc ?_ _) | (with_reducible refine Kd.C_drewN ?_ _) | (with_reducible refine Kd.C_drew ?_))); (case side4 => exact (Kd.R_reads' HO315.out).2.1); rintro e w' ⟨rfl, ⟨nd, rfl⟩⟩; (try first | exact ⟨rfl, _, World.drewN_drewN _ _ _⟩ | exact ⟨rfl, _, Eq.trans (World.drewN_drewN _ _ _) (congrArg (World.drewN _) (Nat.add_assoc _ _ _))⟩)))
              have tk0_ : True := trivial
              have tk1_ : True := trivial
              have tk2_ : True := trivial
              have tk3_ : True := trivial
              have tk4_ : True := trivial
              have tk5_ : True := trivial
              have tk6_ : True := trivial
              have tk7_ : True := trivial
              have tk8_ : True := trivial
              have tk9_ : True := trivial
              repeat (go_quiet (first | (go_at_call 20; (clear tk0_); (with_reducible refine (occ_All.calls _ t294 a1 t306 _ ?side1 A20.out).mono ?_); (case side1 => first | exact HO_t294.out | exact OB.drewN HO_t294.out _ | exact OB.below (by repeat (first | (with_reducible first | exact HB.out | apply below_alloc | apply pw_below_drewN | apply below_drew1) | exact HB.out)) HO_t294.out); rintro e w46 ⟨v307, rfl, ho0, hb⟩; have n0_ := Aside0.mk (Kd.R_below (by (with_reducible repeat (first | apply Kd.R_alloc | apply Kd.R_drewN | apply Kd.R_drew)); exact HO299.out) hb); have n1_ := Aside0.mk (Kd.R_elder' (by (with_reducible repeat (first | apply Kd.R_alloc | apply Kd.R_drewN | apply Kd.R_drew)); exact HO302.out) (Kd.R_base ho0) hb); have n2_ := Aside0.mk (Kd.R_below (by (with_reducible repeat (first | apply Kd.R_alloc | apply Kd.R_drewN | apply Kd.R_drew)); exact HO305.out) hb); have n3_ := Aside0.mk (Kd.R_lower (Kd.R_new' ho0 (Kd.R_lt (by (with_reducible repeat (first | apply Kd.R_alloc | apply Kd.R_drewN | apply Kd.R_drew)); exact HO302.out))) (below_size (by repeat (first | (with_reducible first | exact HB.out | apply below_alloc | apply pw_below_drewN | apply below_drew1) | exact HB.out)))); have n4_ := Aside0.mk (below_step (by repeat (first | (with_reducible first | exact HB.out | apply below_alloc | apply pw_below_drewN | apply below_drew1) | exact HB.out)) hb); clear HO299; clear HO302; clear HO305; clear HB; have HO299 := n0_; have HO302 := n1_; have HO305 := n2_; have HO308 := n3_; have HB := n4_; clear n0_ n1_ n2_ n3_ n4_; (try clear hb); (try clear hb2); (try clear hk); (try clear hi); (try clear ho0); obtain ⟨Ao47, co47, eo47⟩ := Kd.R_slice HO308.out; subst eo47; obtain ⟨Ao48, co48, eo48⟩ := Kd.R_slice HO302.out; subst eo48) | (go_at_call 21; (clear tk1_); (with_reducible refine (juratref15_Same.calls kj3 _ _ t306 _ _ t300 true _ ?side1 ?side2 ?side3 ?side4 A21.out).mono ?_); (case side1 => repeat (first | exact (Kd.R_reads' HO308.out).2.2 | (with_reducible refine Kd.C_alloc ?_ _) | (with_reducible refine Kd.C_drewN ?_ _) | (with_reducible refine Kd.C_drew ?_))); (case side2 => exact (Kd.R_reads' HO308.out).2.1); (case side3 => repeat (first | exact (Kd.R_reads' HO302.out).2.2 | (with_reducible refine Kd.C_alloc ?_ _) | (with_reducible refine Kd.C_drewN ?_ _) | (with_reducible refine Kd.C_drew ?_))); (case side4 => exact (Kd.R_reads' HO302.out).2.1); rintro e w' ⟨rfl, ⟨nd, rfl⟩⟩; (try first | exact ⟨rfl, _, World.drewN_drewN _ _ _⟩ | exact ⟨rfl, _, Eq.trans (World.drewN_drewN _ _ _) (congrArg (World.drewN _) (Nat.add_assoc _ _ _))⟩)) | (go_at_call 27; (clear tk2_); (with_reducible refine (occ_At.calls kj3 _ t294 a1 a2 t310 _ ?side1 A23.out).mono ?_); (case side1 => first | exact HO_t294.out | exact OB.drewN HO_t294.out _ | exact OB.below (by repeat (first | (with_reducible first | exact HB.out | apply below_alloc | apply pw_below_drewN | apply below_drew1) | exact HB.out)) HO_t294.out); rintro e w49 ⟨v311, rfl, ho0, hb⟩; have n0_ := Aside0.mk (Kd.R_below (by (with_reducible repeat (first | apply Kd.R_alloc | apply Kd.R_drewN | apply Kd.R_drew)); exact HO299.out) hb); have n1_ := Aside0.mk (Kd.R_below (by (with_reducible repeat (first | apply Kd.R_alloc | apply Kd.R_drewN | apply Kd.R_drew)); exact HO302.out) hb); have n2_ := Aside0.mk (Kd.R_elder' (by (with_reducible repeat (first | apply Kd.R_alloc | apply Kd.R_drewN | apply Kd.R_drew)); exact HO305.out) (Kd.R_base ho0) hb); have n3_ := Aside0.mk (Kd.R_below (by (with_reducible repeat (first | apply Kd.R_alloc | apply Kd.R_drewN | apply Kd.R_drew)); exact HO308.out) hb); have n4_ := Aside0.mk (Kd.R_lower (Kd.R_new' ho0 (Kd.R_lt (by (with_reducible repeat (first | apply Kd.R_alloc | apply Kd.R_drewN | apply Kd.R_drew)); exact HO305.out))) (below_size (by repeat (first | (with_reducible first | exact HB.out | apply below_alloc | apply pw_below_drewN | apply below_drew1) | exact HB.out)))); have n5_ := Aside0.mk (below_step (by repeat (first | (with_reducible first | exact HB.out | apply below_alloc | apply pw_below_drewN | apply below_drew1) | exact HB.out)) hb); clear HO299; clear HO302; clear HO305; clear HO308; clear HB; have HO299 := n0_; have HO302 := n1_; have HO305 := n2_; have HO308 := n3_; have HO312 := n4_; have HB := n5_; clear n0_ n1_ n2_ n3_ n4_ n5_; (try clear hb); (try clear hb2); (try clear hk); (try clear hi); (try clear ho0)) | (go_at_call 28; (clear tk3_); (with_reducible refine (juratref15_At.calls kj3 _ _ t296 a1 a2 t313 _ ?side1 ?side2 A24.out).mono ?_); (case side1 => repeat (first | exact (Kd.R_reads' HO299.out).2.2 | (with_reducible refine Kd.C_alloc ?_ _) | (with_reducible refine Kd.C_drewN ?_ _) | (with_reducible refine Kd.C_drew ?_))); (case side2 => exact (Kd.R_reads' HO299.out).2.1); rintro e w50 ⟨v314, rfl, ho0, hb⟩; have n0_ := Aside0.mk (Kd.R_below (by (with_reducible repeat (first | apply Kd.R_alloc | apply Kd.R_drewN | apply Kd.R_drew)); exact HO299.out) hb); have n1_ := Aside0.mk (Kd.R_below (by (with_reducible repeat (first | apply Kd.R_alloc | apply Kd.R_drewN | apply Kd.R_drew)); exact HO302.out) hb); have n2_ := Aside0.mk (Kd.R_elder' (by (with_reducible repeat (first | apply Kd.R_alloc | apply Kd.R_drewN | apply Kd.R_drew)); exact HO305.out) (Kd.R_base ho0) hb); have n3_ := Aside0.mk (Kd.R_below (by (with_reducible repeat (first | apply Kd.R_alloc | apply Kd.R_drewN | apply Kd.R_drew)); exact HO308.out) hb); have n4_ := Aside0.mk (Kd.R_elder' (by (with_reducible repeat (first | apply Kd.R_alloc | apply Kd.R_drewN | apply Kd.R_drew)); exact HO312.out) (Kd.R_base ho0) hb); have n5_ := Aside0.mk (Kd.R_lower (Kd.R_new' (Kd.R_new' ho0 (Kd.R_lt (by (with_reducible repeat (first | apply Kd.R_alloc | apply Kd.R_drewN | apply Kd.R_drew)); exact HO305.out))) (Kd.R_lt (by (with_reducible repeat (first | apply Kd.R_alloc | apply Kd.R_drewN | apply Kd.R_drew)); exact HO312.out))) (below_size (by repeat (first | (with_reducible first | exact HB.out | apply below_alloc | apply pw_below_drewN | apply below_drew1) | exact HB.out)))); have n6_ := Aside0.mk (below_step (by repeat (first | (with_reducible first | exact HB.out | apply below_alloc | apply pw_below_drewN | apply below_drew1) | exact HB.out)) hb); clear HO299; clear HO302; clear HO305; clear HO308; clear HO312; clear HB; have HO299 := n0_; have HO302 := n1_; have HO305 := n2_; have HO308 := n3_; have HO312 := n4_; have HO315 := n5_; have HB := n6_; clear n0_ n1_ n2_ n3_ n4_ n5_ n6_; (try clear hb); (try clear hb2); (try clear hk); (try clear hi); (try clear ho0); obtain ⟨Ao51, co51, eo51⟩ := Kd.R_slice HO312.out; subst eo51; obtain ⟨Ao52, co52, eo52⟩ := Kd.R_slice HO315.out; subst eo52) | (go_at_call 26; (clear tk4_); (with_reducible refine (juratref01_Same.calls kj3 _ _ t310 _ _ t313 false _ ?side1 ?side2 ?side3 ?side4 A25.out).mono ?_); (case side1 => repeat (first | exact (Kd.R_reads' HO312.out).2.2 | (with_reducible refine Kd.C_alloc ?_ _) | (with_reducible refine Kd.C_drewN ?_ _) | (with_reducible refine Kd.C_drew ?_))); (case side2 => exact (Kd.R_reads' HO312.out).2.1); (case side3 => repeat (first | exact (Kd.R_reads' HO315.out).2.2 | (with_reducible refine Kd.C_alloc ?_ _) | (with_reducible refine Kd.C_drewN ?_ _) | (with_reducible refine Kd.C_drew ?_))); (case side4 => exact (Kd.R_reads' HO315.out).2.1); rintro e w' ⟨rfl, ⟨nd, rfl⟩⟩; (try first | exact ⟨rfl, _, World.drewN_drewN _ _ _⟩ | exact ⟨rfl, _, Eq.trans (World.drewN_drewN _ _ _) (congrArg (World.drewN _) (Nat.add_assoc _ _ _))⟩))); try go_wp2_with (first | (go_at_call 20; (clear tk5_); (with_reducible refine (occ_All.calls _ t294 a1 t306 _ ?side1 A20.out).mono ?_); (case side1 => first | exact HO_t294.out | exact OB.drewN HO_t294.out _ | exact OB.below (by repeat (first | (with_reducible first | exact HB.out | apply below_alloc | apply pw_below_drewN | apply below_drew1) | exact HB.out)) HO_t294.out); rintro e w46 ⟨v307, rfl, ho0, hb⟩; have n0_ := Aside0.mk (Kd.R_below (by (with_reducible repeat (first | apply Kd.R_alloc | apply Kd.R_drewN | apply Kd.R_drew)); exact HO299.out) hb); have n1_ := Aside0.mk (Kd.R_elder' (by (with_reducible repeat (first | apply Kd.R_alloc | apply Kd.R_drewN | apply Kd.R_drew)); exact HO302.out) (Kd.R_base ho0) hb); have n2_ := Aside0.mk (Kd.R_below (by (with_reducible repeat (first | apply Kd.R_alloc | apply Kd.R_drewN | apply Kd.R_drew)); exact HO305.out) hb); have n3_ := Aside0.mk (Kd.R_lower (Kd.R_new' ho0 (Kd.R_lt (by (with_reducible repeat (first | apply Kd.R_alloc | apply Kd.R_drewN | apply Kd.R_drew)); exact HO302.out))) (below_size (by repeat (first | (with_reducible first | exact HB.out | apply below_alloc | apply pw_below_drewN | apply below_drew1) | exact HB.out)))); have n4_ := Aside0.mk (below_step (by repeat (first | (with_reducible first | exact HB.out | apply below_alloc | apply pw_below_drewN | apply below_drew1) | exact HB.out)) hb); clear HO299; clear HO302; clear HO305; clear HB; have HO299 := n0_; have HO302 := n1_; have HO305 := n2_; have HO308 := n3_; have HB := n4_; clear n0_ n1_ n2_ n3_ n4_; (try clear hb); (try clear hb2); (try clear hk); (try clear hi); (try clear ho0); obtain ⟨Ao47, co47, eo47⟩ := Kd.R_slice HO308.out; subst eo47; obtain ⟨Ao48, co48, eo48⟩ := Kd.R_slice HO302.out; subst eo48) | (go_at_call 21; (clear tk6_); (with_reducible refine (juratref15_Same.calls kj3 _ _ t306 _ _ t300 true _ ?side1 ?side2 ?side3 ?side4 A21.out).mono ?_); (case side1 => repeat (first | exact (Kd.R_reads' HO308.out).2.2 | (with_reducible refine Kd.C_alloc ?_ _) | (with_reducible refine Kd.C_drewN ?_ _) | (with_reducible refine Kd.C_drew ?_))); (case side2 => exact (Kd.R_reads' HO308.out).2.1); (case side3 => repeat (first | exact (Kd.R_reads' HO302.out).2.2 | (with_reducible refine Kd.C_alloc ?_ _) | (with_reducible refine Kd.C_drewN ?_ _) | (with_reducible refine Kd.C_drew ?_))); (case side4 => exact (Kd.R_reads' HO302.out).2.1); rintro e w' ⟨rfl, ⟨nd, rfl⟩⟩; (try first | exact ⟨rfl, _, World.drewN_drewN _ _ _⟩ | exact ⟨rfl, _, Eq.trans (World.drewN_drewN _ _ _) (congrArg (World.drewN _) (Nat.add_assoc _ _ _))⟩)) | (go_at_call 27; (clear tk7_); (with_reducible refine (occ_At.calls kj3 _ t294 a1 a2 t310 _ ?side1 A23.out).mono ?_); (case side1 => first | exact HO_t294.out | exact OB.drewN HO_t294.out _ | exact OB.below (by repeat (first | (with_reducible first | exact HB.out | apply below_alloc | apply pw_below_drewN | apply below_drew1) | exact HB.out)) HO_t294.out); rintro e w49 ⟨v311, rfl, ho0, hb⟩; have n0_ := Aside0.mk (Kd.R_below (by (with_reducible repeat (first | apply Kd.R_alloc | apply Kd.R_drewN | apply Kd.R_drew)); exact HO299.out) hb); have n1_ := Aside0.mk (Kd.R_below (by (with_reducible repeat (first | apply Kd.R_alloc | apply Kd.R_drewN | apply Kd.R_drew)); exact HO302.out) hb); have n2_ := Aside0.mk (Kd.R_elder' (by (with_reducible repeat (first | apply Kd.R_alloc | apply Kd.R_drewN | apply Kd.R_drew)); exact HO305.out) (Kd.R_base ho0) hb); have n3_ := Aside0.mk (Kd.R_below (by (with_reducible repeat (first | apply Kd.R_alloc | apply Kd.R_drewN | apply Kd.R_drew)); exact HO308.out) hb); have n4_ := Aside0.mk (Kd.R_lower (Kd.R_new' ho0 (Kd.R_lt (by (with_reducible repeat (first | apply Kd.R_alloc | apply Kd.R_drewN | apply Kd.R_drew)); exact HO305.out))) (below_size (by repeat (first | (with_reducible first | exact HB.out | apply below_alloc | apply pw_below_drewN | apply below_drew1) | exact HB.out)))); have n5_ := Aside0.mk (below_step (by repeat (first | (with_reducible first | exact HB.out | apply below_alloc | apply pw_below_drewN | apply below_drew1) | exact HB.out)) hb); clear HO299; clear HO302; clear HO305; clear HO308; clear HB; have HO299 := n0_; have HO302 := n1_; have HO305 := n2_; have HO308 := n3_; have HO312 := n4_; have HB := n5_; clear n0_ n1_ n2_ n3_ n4_ n5_; (try clear hb); (try clear hb2); (try clear hk); (try clear hi); (try clear ho0)) | (go_at_call 28; (clear tk8_); (with_reducible refine (juratref15_At.calls kj3 _ _ t296 a1 a2 t313 _ ?side1 ?side2 A24.out).mono ?_); (case side1 => repeat (first | exact (Kd.R_reads' HO299.out).2.2 | (with_reducible refine Kd.C_alloc ?_ _) | (with_reducible refine Kd.C_drewN ?_ _) | (with_reducible refine Kd.C_drew ?_))); (case side2 => exact (Kd.R_reads' HO299.out).2.1); rintro e w50 ⟨v314, rfl, ho0, hb⟩; have n0_ := Aside0.mk (Kd.R_below (by (with_reducible repeat (first | apply Kd.R_alloc | apply Kd.R_drewN | apply Kd.R_drew)); exact HO299.out) hb); have n1_ := Aside0.mk (Kd.R_below (by (with_reducible repeat (first | apply Kd.R_alloc | apply Kd.R_drewN | apply Kd.R_drew)); exact HO302.out) hb); have n2_ := Aside0.mk (Kd.R_elder' (by (with_reducible repeat (first | apply Kd.R_alloc | apply Kd.R_drewN | apply Kd.R_drew)); exact HO305.out) (Kd.R_base ho0) hb); have n3_ := Aside0.mk (Kd.R_below (by (with_reducible repeat (first | apply Kd.R_alloc | apply Kd.R_drewN | apply Kd.R_drew)); exact HO308.out) hb); have n4_ := Aside0.mk (Kd.R_elder' (by (with_reducible repeat (first | apply Kd.R_alloc | apply Kd.R_drewN | apply Kd.R_drew)); exact HO312.out) (Kd.R_base ho0) hb); have n5_ := Aside0.mk (Kd.R_lower (Kd.R_new' (Kd.R_new' ho0 (Kd.R_lt (by (with_reducible repeat (first | apply Kd.R_alloc | apply Kd.R_drewN | apply Kd.R_drew)); exact HO305.out))) (Kd.R_lt (by (with_reducible repeat (first | apply Kd.R_alloc | apply Kd.R_drewN | apply Kd.R_drew)); exact HO312.out))) (below_size (by repeat (first | (with_reducible first | exact HB.out | apply below_alloc | apply pw_below_drewN | apply below_drew1) | exact HB.out)))); have n6_ := Aside0.mk (below_step (by repeat (first | (with_reducible first | exact HB.out | apply below_alloc | apply pw_below_drewN | apply below_drew1) | exact HB.out)) hb); clear HO299; clear HO302; clear HO305; clear HO308; clear HO312; clear HB; have HO299 := n0_; have HO302 := n1_; have HO305 := n2_; have HO308 := n3_; have HO312 := n4_; have HO315 := n5_; have HB := n6_; clear n0_ n1_ n2_ n3_ n4_ n5_ n6_; (try clear hb); (try clear hb2); (try clear hk); (try clear hi); (try clear ho0); obtain ⟨Ao51, co51, eo51⟩ := Kd.R_slice HO312.out; subst eo51; obtain ⟨Ao52, co52, eo52⟩ := Kd.R_slice HO315.out; subst eo52) | (go_at_call 26; (clear tk9_); (with_reducible refine (juratref01_Same.calls kj3 _ _ t310 _ _ t313 false _ ?side1 ?side2 ?side3 ?side4 A25.out).mono ?_); (case side1 => repeat (first | exact (Kd.R_reads' HO312.out).2.2 | (with_reducible refine Kd.C_alloc ?_ _) | (with_reducible refine Kd.C_drewN ?_ _) | (with_reducible refine Kd.C_drew ?_))); (case side2 => exact (Kd.R_reads' HO312.out).2.1); (case side3 => repeat (first | exact (Kd.R_reads' HO315.out).2.2 | (with_reducible refine Kd.C_alloc ?_ _) | (with_reducible refine Kd.C_drewN ?_ _) | (with_reducible refine Kd.C_drew ?_))); (case side4 => exact (Kd.R_reads' HO315.out).2.1); rintro e w' ⟨rfl, ⟨nd, rfl⟩⟩; (try first | exact ⟨rfl, _, World.drewN_drewN _ _ _⟩ | exact ⟨rfl, _, Eq.trans (World.drewN_drewN _ _ _) (congrArg (World.drewN _) (Nat.add_assoc _ _ _))⟩))))
              go_meet
              case rel => exact ⟨_, (true), (by first | rfl | exact isE_ _ | exact isE2_ _ | (simp; done) | (simp [*]; done)), H', ⟨by have := HJ3.out; first | omega | exact Nat.le_refl _⟩, ⟨by (with_reducible repeat (first | apply Kd.R_alloc | apply Kd.R_drewN | apply Kd.R_drew)); exact HO299.out⟩, ⟨by (with_reducible repeat (first | apply Kd.R_alloc | apply Kd.R_drewN | apply Kd.R_drew)); exact Kd.R_mono HO305.out (fun _ hk => trivial)⟩, ⟨by repeat (first | (with_reducible first | exact HB.out | apply below_alloc | apply pw_below_drewN | apply below_drew1) | exact HB.out)⟩⟩
          · replace c22 := Bool.eq_false_iff.mpr c22
            subst c22
            have H1 : (juratlaw15_OccTells.j1 kj3 a1 t296 t303 true) = some r := by rw [if_neg (show ¬ (false = true) by decide)] at H; exact H
            clear H
            have H := H1
            clear H1
            have H' := Aside0.mk H
            clear H
            obtain ⟨Ao305, co305, eo305⟩ := Kd.R_slice HO305.out
            subst eo305
            go_wp2_with (first | (go_at_call 20; (with_reducible refine (occ_All.calls _ t294 a1 t306 _ ?side1 A20.out).mono ?_); (case side1 => first | exact HO_t294.out | exact OB.drewN HO_t294.out _ | exact OB.below (by repeat (first | (with_reducible first | exact HB.out | apply below_alloc | apply pw_below_drewN | apply below_drew1) | exact HB.out)) HO_t294.out); rintro e w53 ⟨v307, rfl, ho0, hb⟩; have n0_ := Aside0.mk (Kd.R_below (by (with_reducible repeat (first | apply Kd.R_alloc | apply Kd.R_drewN | apply Kd.R_drew)); exact HO299.out) hb); have n1_ := Aside0.mk (Kd.R_elder' (by (with_reducible repeat (first | apply Kd.R_alloc | apply Kd.R_drewN | apply Kd.R_drew)); exact HO302.out) (Kd.R_base ho0) hb); have n2_ := Aside0.mk (Kd.R_below (by (with_reducible repeat (first | apply Kd.R_alloc | apply Kd.R_drewN | apply Kd.R_drew)); exact HO305.out) hb); have n3_ := Aside0.mk (Kd.R_lower (Kd.R_new' ho0 (Kd.R_lt (by (with_reducible repeat (first | apply Kd.R_alloc | apply Kd.R_drewN | apply Kd.R_drew)); exact HO302.out))) (below_size (by repeat (first | (with_reducible first | exact HB.out | apply below_alloc | apply pw_below_drewN | apply below_drew1) | exact HB.out)))); have n4_ := Aside0.mk (below_step (by repeat (first | (with_reducible first | exact HB.out | apply below_alloc | apply pw_below_drewN | apply below_drew1) | exact HB.out)) hb); clear HO299; clear HO302; clear HO305; clear HB; have HO299 := n0_; have HO302 := n1_; have HO305 := n2_; have HO308 := n3_; have HB := n4_; clear n0_ n1_ n2_ n3_ n4_; (try clear hb); (try clear hb2); (try clear hk); (try clear hi); (try clear ho0); obtain ⟨Ao54, co54, eo54⟩ := Kd.R_slice HO308.out; subst eo54; obtain ⟨Ao55, co55, eo55⟩ := Kd.R_slice HO302.out; subst eo55) | (go_at_call 21; (with_reducible refine (juratref15_Same.calls kj3 _ _ t306 _ _ t300 false _ ?side1 ?side2 ?side3 ?side4 A21.out).mono ?_); (case side1 => repeat (first | exact (Kd.R_reads' HO308.out).2.2 | (with_reducible refine Kd.C_alloc ?_ _) | (with_reducible refine Kd.C_drewN ?_ _) | (with_reducible refine Kd.C_drew ?_))); (case side2 => exact (Kd.R_reads' HO308.out).2.1); (case side3 => repeat (first | exact (Kd.R_reads' HO302.out).2.2 | (with_reducible refine Kd.C_alloc ?_ _) | (with_reducible refine Kd.C_drewN ?_ _) | (with_reducible refine Kd.C_drew ?_))); (case side4 => exact (Kd.R_reads' HO302.out).2.1); rintro e w' ⟨rfl, ⟨nd, rfl⟩⟩; (try first | exact ⟨rfl, _, World.drewN_drewN _ _ _⟩ | exact ⟨rfl, _, Eq.trans (World.drewN_drewN _ _ _) (congrArg (World.drewN _) (Nat.add_assoc _ _ _))⟩)))
            have tk0_ : True := trivial
            have tk1_ : True := trivial
            have tk2_ : True := trivial
            have tk3_ : True := trivial
            repeat (go_quiet (first | (go_at_call 20; (clear tk0_); (with_reducible refine (occ_All.calls _ t294 a1 t306 _ ?side1 A20.out).mono ?_); (case side1 => first | exact HO_t294.out | exact OB.drewN HO_t294.out _ | exact OB.below (by repeat (first | (with_reducible first | exact HB.out | apply below_alloc | apply pw_below_drewN | apply below_drew1) | exact HB.out)) HO_t294.out); rintro e w53 ⟨v307, rfl, ho0, hb⟩; have n0_ := Aside0.mk (Kd.R_below (by (with_reducible repeat (first | apply Kd.R_alloc | apply Kd.R_drewN | apply Kd.R_drew)); exact HO299.out) hb); have n1_ := Aside0.mk (Kd.R_elder' (by (with_reducible repeat (first | apply Kd.R_alloc | apply Kd.R_drewN | apply Kd.R_drew)); exact HO302.out) (Kd.R_base ho0) hb); have n2_ := Aside0.mk (Kd.R_below (by (with_reducible repeat (first | apply Kd.R_alloc | apply Kd.R_drewN | apply Kd.R_drew)); exact HO305.out) hb); have n3_ := Aside0.mk (Kd.R_lower (Kd.R_new' ho0 (Kd.R_lt (by (with_reducible repeat (first | apply Kd.R_alloc | apply Kd.R_drewN | apply Kd.R_drew)); exact HO302.out))) (below_size (by repeat (first | (with_reducible first | exact HB.out | apply below_alloc | apply pw_below_drewN | apply below_drew1) | exact HB.out)))); have n4_ := Aside0.mk (below_step (by repeat (first | (with_reducible first | exact HB.out | apply below_alloc | apply pw_below_drewN | apply below_drew1) | exact HB.out)) hb); clear HO299; clear HO302; clear HO305; clear HB; have HO299 := n0_; have HO302 := n1_; have HO305 := n2_; have HO308 := n3_; have HB := n4_; clear n0_ n1_ n2_ n3_ n4_; (try clear hb); (try clear hb2); (try clear hk); (try clear hi); (try clear ho0); obtain ⟨Ao54, co54, eo54⟩ := Kd.R_slice HO308.out; subst eo54; obtain ⟨Ao55, co55, eo55⟩ := Kd.R_slice HO302.out; subst eo55) | (go_at_call 21; (clear tk1_); (with_reducible refine (juratref15_Same.calls kj3 _ _ t306 _ _ t300 false _ ?side1 ?side2 ?side3 ?side4 A21.out).mono ?_); (case side1 => repeat (first | exact (Kd.R_reads' HO308.out).2.2 | (with_reducible refine Kd.C_alloc ?_ _) | (with_reducible refine Kd.C_drewN ?_ _) | (with_reducible refine Kd.C_drew ?_))); (case side2 => exact (Kd.R_reads' HO308.out).2.1); (case side3 => repeat (first | exact (Kd.R_reads' HO302.out).2.2 | (with_reducible refine Kd.C_alloc ?_ _) | (with_reducible refine Kd.C_drewN ?_ _) | (with_reducible refine Kd.C_drew ?_))); (case side4 => exact (Kd.R_reads' HO302.out).2.1); rintro e w' ⟨rfl, ⟨nd, rfl⟩⟩; (try first | exact ⟨rfl, _, World.drewN_drewN _ _ _⟩ | exact ⟨rfl, _, Eq.trans (World.drewN_drewN _ _ _) (congrArg (World.drewN _) (Nat.add_assoc _ _ _))⟩))); try go_wp2_with (first | (go_at_call 20; (clear tk2_); (with_reducible refine (occ_All.calls _ t294 a1 t306 _ ?side1 A20.out).mono ?_); (case side1 => first | exact HO_t294.out | exact OB.drewN HO_t294.out _ | exact OB.below (by repeat (first | (with_reducible first | exact HB.out | apply below_alloc | apply pw_below_drewN | apply below_drew1) | exact HB.out)) HO_t294.out); rintro e w53 ⟨v307, rfl, ho0, hb⟩; have n0_ := Aside0.mk (Kd.R_below (by (with_reducible repeat (first | apply Kd.R_alloc | apply Kd.R_drewN | apply Kd.R_drew)); exact HO299.out) hb); have n1_ := Aside0.mk (Kd.R_elder' (by (with_reducible repeat (first | apply Kd.R_alloc | apply Kd.R_drewN | apply Kd.R_drew)); exact HO302.out) (Kd.R_base ho0) hb); have n2_ := Aside0.mk (Kd.R_below (by (with_reducible repeat (first | apply Kd.R_alloc | apply Kd.R_drewN | apply Kd.R_drew)); exact HO305.out) hb); have n3_ := Aside0.mk (Kd.R_lower (Kd.R_new' ho0 (Kd.R_lt (by (with_reducible repeat (first | apply Kd.R_alloc | apply Kd.R_drewN | apply Kd.R_drew)); exact HO302.out))) (below_size (by repeat (first | (with_reducible first | exact HB.out | apply below_alloc | apply pw_below_drewN | apply below_drew1) | exact HB.out)))); have n4_ := Aside0.mk (below_step (by repeat (first | (with_reducible first | exact HB.out | apply below_alloc | apply pw_below_drewN | apply below_drew1) | exact HB.out)) hb); clear HO299; clear HO302; clear HO305; clear HB; have HO299 := n0_; have HO302 := n1_; have HO305 := n2_; have HO308 := n3_; have HB := n4_; clear n0_ n1_ n2_ n3_ n4_; (try clear hb); (try clear hb2); (try clear hk); (try clear hi); (try clear ho0); obtain ⟨Ao54, co54, eo54⟩ := Kd.R_slice HO308.out; subst eo54; obtain ⟨Ao55, co55, eo55⟩ := Kd.R_slice HO302.out; subst eo55) | (go_at_call 21; (clear tk3_); (with_reducible refine (juratref15_Same.calls kj3 _ _ t306 _ _ t300 false _ ?side1 ?side2 ?side3 ?side4 A21.out).mono ?_); (case side1 => repeat (first | exact (Kd.R_reads' HO308.out).2.2 | (with_reducible refine Kd.C_alloc ?_ _) | (with_reducible refine Kd.C_drewN ?_ _) | (with_reducible refine Kd.C_drew ?_))); (case side2 => exact (Kd.R_reads' HO308.out).2.1); (case side3 => repeat (first | exact (Kd.R_reads' HO302.out).2.2 | (with_reducible refine Kd.C_alloc ?_ _) | (with_reducible refine Kd.C_drewN ?_ _) | (with_reducible refine Kd.C_drew ?_))); (case side4 => exact (Kd.R_reads' HO302.out).2.1); rintro e w' ⟨rfl, ⟨nd, rfl⟩⟩; (try first | exact ⟨rfl, _, World.drewN_drewN _ _ _⟩ | exact ⟨rfl, _, Eq.trans (World.drewN_drewN _ _ _) (congrArg (World.drewN _) (Nat.add_assoc _ _ _))⟩))))
            go_meet
            case rel => exact ⟨_, (true), (by first | rfl | exact isE_ _ | exact isE2_ _ | (simp; done) | (simp [*]; done)), H', ⟨by have := HJ3.out; first | omega | exact Nat.le_refl _⟩, ⟨by (with_reducible repeat (first | apply Kd.R_alloc | apply Kd.R_drewN | apply Kd.R_drew)); exact HO299.out⟩, ⟨by (with_reducible repeat (first | apply Kd.R_alloc | apply Kd.R_drewN | apply Kd.R_drew)); exact HO305.out⟩, ⟨by repeat (first | (with_reducible first | exact HB.out | apply below_alloc | apply pw_below_drewN | apply below_drew1) | exact HB.out)⟩⟩
        case rest =>
          clear HC14
          try clear c2
          try clear p2
          try clear c5
          try clear c6
          try clear c7
          try clear c22
          try clear c26
          try clear c28
          try clear c28b0
          try clear c28b1
          try clear c28b2
          try clear p2
          obtain ⟨kq, x72_13, rfl, HA, HJ13, HO_9, HO_12, HB⟩ := hcut
          cases kq with
          | zero => exact absurd HA.out (by simp [juratlaw15_OccTells.j1])
          | succ kj13 =>
            have H := HA.out
            clear HA
            simp only [juratlaw15_OccTells.j1] at H
            by_cases c56 : x72_13 = true
            · subst c56
              have H1 : (some false) = some r := by rw [if_pos rfl] at H; exact H
              clear H
              have H := H1
              clear H1
              obtain rfl := Option.some.inj H
              go_wp2
              repeat (go_quiet (fail); try go_wp2)
              go_ret
              exact ⟨by first | rfl | (simp [errW_none, errW_some] <;> rfl) | (simp [*, errW_none, errW_some] <;> rfl), by first | (refine HB00.out.trans (Below.mono ?_ HB00.out.size); (repeat (first | (with_reducible first | exact HB.out | apply below_alloc | apply pw_below_drewN | apply below_drew1) | exact HB.out))) | (repeat (first | (with_reducible first | exact HB.out | apply below_alloc | apply pw_below_drewN | apply below_drew1) | exact HB.out))⟩
            · replace c56 := Bool.eq_false_iff.mpr c56
              subst c56
              have H1 : (juratlaw15_OccTells.l0 kj13 a1 t296 t303 0) = some r := by rw [if_neg (show ¬ (false = true) by decide)] at H; exact H
              clear H
              have H := H1
              clear H1
              have H' := Aside0.mk H
              clear H
              go_wp2
              repeat (go_quiet (fail); try go_wp2)
              go_loopg [13] kj13 (fun kq v13 w' => ∃ (x13_3 : Int), v13 = .int .i64 x13_3 ∧ Aside0 (juratlaw15_OccTells.l0 kq a1 t296 t303 x13_3 = some r) ∧ Aside0 (kq ≤ kj13) ∧ Aside0 (Kd.R Kd.string 9 w' w.heap.size (fun _ => True) (.slice Ao17 t296.length co17) t296) ∧ Aside0 (Kd.R (Kd.int .i64) 3 w' w.heap.size (fun _ => True) v304 t303) ∧ Aside0 (Below w.heap.size w w'))
              case atStart => exact ⟨(0), (by first | rfl | exact isE_ _ | exact isE2_ _ | (simp; done) | (simp [*]; done)), H', ⟨Nat.le_refl _⟩, ⟨by (with_reducible repeat (first | apply Kd.R_alloc | apply Kd.R_drewN | apply Kd.R_drew)); exact HO_9.out⟩, ⟨by (with_reducible repeat (first | apply Kd.R_alloc | apply Kd.R_drewN | apply Kd.R_drew)); exact HO_12.out⟩, ⟨by repeat (first | (with_reducible first | exact HB.out | apply below_alloc | apply pw_below_drewN | apply below_drew1) | exact HB.out)⟩⟩
              case round =>
                clear H'
                try clear c2
                try clear p2
                try clear c5
                try clear c6
                try clear c7
                try clear c22
                try clear c26
                try clear c28
                try clear c28b0
                try clear c28b1
                try clear c28b2
                try clear c56
                try clear p2
                obtain ⟨x13_3, rfl, HA, HK3, HO_9, HO_12, HB⟩ := hrel
                cases gk with
                | zero => exact absurd HA.out (by simp [juratlaw15_OccTells.l0])
                | succ k3 =>
                  have H := HA.out
                  clear HA
                  simp only [juratlaw15_OccTells.l0] at H
                  by_cases c57 : x13_3 < (t296.length : Int)
                  · rw [if_pos c57] at H
                    have c57b0 : decide (x13_3 < (t296.length : Int)) = true := decide_eq_true c57
                    clear c57
                    by_cases c58 : 0 ≤ x13_3
                    · rw [if_pos c58] at H
                      have c58b0 : decide (0 ≤ x13_3) = true := decide_eq_true c58
                      clear c58
                      by_cases c59 : x13_3 < (t303.length : Int)
                      · rw [if_pos c59] at H
                        have c59b0 : decide (x13_3 < (t303.length : Int)) = true := decide_eq_true c59
                        clear c59
                        replace H := Option.bind_eq_some_iff.mp H
                        obtain ⟨t320, A600, H⟩ := H
                        replace H : (if (rd t303 x13_3) = t320 then (juratlaw15_OccTells.l0 k3 a1 t296 t303 (wrap64 (x13_3 + 1))) else (some false)) = some r := H
                        have A60 := Aside0.mk A600
                        clear A600
                        by_cases c61 : (rd t303 x13_3) = t320
                        · rw [if_pos c61] at H
                          have c61b0 : ((rd t303 x13_3) == t320) = true := beq_iff_eq.mpr c61
                          have c61b1 : ((rd t303 x13_3) != t320) = false := bne_eq_false_iff_eq.mpr c61
                          clear c61
                          have H' := Aside0.mk H
                          clear H
                          obtain ⟨Ao62, co62, eo62⟩ := Kd.R_slice HO_12.out
                          subst eo62
                          have p318 : 0 ≤ (x13_3 : Int) := of_decide_eq_true (by first | (with_reducible assumption) | assumption)
                          have q318 : x13_3 < (t303.length : Int) := of_decide_eq_true (by first | (with_reducible assumption) | assumption)
                          obtain ⟨ad318, e318, hx318_0⟩ := Kd.at_int (Kd.R_reads' HO_12.out).2.2 x13_3 p318 q318
                          cases e318
                          replace p318 := eq_true p318
                          replace q318 := eq_true q318
                          have p319 : 0 ≤ (x13_3 : Int) := of_decide_eq_true (by first | (with_reducible assumption) | assumption)
                          have q319 : x13_3 < (t296.length : Int) := of_decide_eq_true (by first | (with_reducible assumption) | assumption)
                          obtain ⟨ad319, e319, hx319_0⟩ := Kd.at_string (Kd.R_reads' HO_9.out).2.2 x13_3 p319 q319
                          cases e319
                          replace p319 := eq_true p319
                          replace q319 := eq_true q319
                          go_wp2_with (first | (go_at_call 30; (with_reducible refine (juratref15_Count.calls k3 (rdOf ByteArray.empty t296 x13_3) a1 t320 _ A60.out).mono ?_); rintro e w' ⟨rfl, ⟨nd, rfl⟩⟩; (try first | exact ⟨rfl, _, World.drewN_drewN _ _ _⟩ | exact ⟨rfl, _, Eq.trans (World.drewN_drewN _ _ _) (congrArg (World.drewN _) (Nat.add_assoc _ _ _))⟩)))
                          repeat (go_quiet (first | (go_at_call 30; (with_reducible refine (juratref15_Count.calls k3 (rdOf ByteArray.empty t296 x13_3) a1 t320 _ A60.out).mono ?_); rintro e w' ⟨rfl, ⟨nd, rfl⟩⟩; (try first | exact ⟨rfl, _, World.drewN_drewN _ _ _⟩ | exact ⟨rfl, _, Eq.trans (World.drewN_drewN _ _ _) (congrArg (World.drewN _) (Nat.add_assoc _ _ _))⟩))); try go_wp2_with (first | (go_at_call 30; (with_reducible refine (juratref15_Count.calls k3 (rdOf ByteArray.empty t296 x13_3) a1 t320 _ A60.out).mono ?_); rintro e w' ⟨rfl, ⟨nd, rfl⟩⟩; (try first | exact ⟨rfl, _, World.drewN_drewN _ _ _⟩ | exact ⟨rfl, _, Eq.trans (World.drewN_drewN _ _ _) (congrArg (World.drewN _) (Nat.add_assoc _ _ _))⟩))))
                          go_roundg k3
                          case measure => have := HJ3.out; have := HJ13.out; have := HK3.out; omega
                          case rel => exact ⟨(wrap64 (x13_3 + 1)), (by first | rfl | exact isE_ _ | exact isE2_ _ | (simp; done) | (simp [*]; done)), H', ⟨by have := HJ3.out; have := HJ13.out; have := HK3.out; omega⟩, ⟨by (with_reducible repeat (first | apply Kd.R_alloc | apply Kd.R_drewN | apply Kd.R_drew)); exact HO_9.out⟩, ⟨by (with_reducible repeat (first | apply Kd.R_alloc | apply Kd.R_drewN | apply Kd.R_drew)); exact HO_12.out⟩, ⟨by repeat (first | (with_reducible first | exact HB.out | apply below_alloc | apply pw_below_drewN | apply below_drew1) | exact HB.out)⟩⟩
                        · rw [if_neg c61] at H
                          have c61b0 : ((rd t303 x13_3) == t320) = false := beq_eq_false_iff_ne.mpr c61
                          have c61b1 : ((rd t303 x13_3) != t320) = true := bne_iff_ne.mpr c61
                          obtain rfl := Option.some.inj H
                          obtain ⟨Ao63, co63, eo63⟩ := Kd.R_slice HO_12.out
                          subst eo63
                          have p318 : 0 ≤ (x13_3 : Int) := of_decide_eq_true (by first | (with_reducible assumption) | assumption)
                          have q318 : x13_3 < (t303.length : Int) := of_decide_eq_true (by first | (with_reducible assumption) | assumption)
                          obtain ⟨ad318, e318, hx318_0⟩ := Kd.at_int (Kd.R_reads' HO_12.out).2.2 x13_3 p318 q318
                          cases e318
                          replace p318 := eq_true p318
                          replace q318 := eq_true q318
                          have p319 : 0 ≤ (x13_3 : Int) := of_decide_eq_true (by first | (with_reducible assumption) | assumption)
                          have q319 : x13_3 < (t296.length : Int) := of_decide_eq_true (by first | (with_reducible assumption) | assumption)
                          obtain ⟨ad319, e319, hx319_0⟩ := Kd.at_string (Kd.R_reads' HO_9.out).2.2 x13_3 p319 q319
                          cases e319
                          replace p319 := eq_true p319
                          replace q319 := eq_true q319
                          go_wp2_with (first | (go_at_call 30; (with_reducible refine (juratref15_Count.calls k3 (rdOf ByteArray.empty t296 x13_3) a1 t320 _ A60.out).mono ?_); rintro e w' ⟨rfl, ⟨nd, rfl⟩⟩; (try first | exact ⟨rfl, _, World.drewN_drewN _ _ _⟩ | exact ⟨rfl, _, Eq.trans (World.drewN_drewN _ _ _) (congrArg (World.drewN _) (Nat.add_assoc _ _ _))⟩)))
                          repeat (go_quiet (first | (go_at_call 30; (with_reducible refine (juratref15_Count.calls k3 (rdOf ByteArray.empty t296 x13_3) a1 t320 _ A60.out).mono ?_); rintro e w' ⟨rfl, ⟨nd, rfl⟩⟩; (try first | exact ⟨rfl, _, World.drewN_drewN _ _ _⟩ | exact ⟨rfl, _, Eq.trans (World.drewN_drewN _ _ _) (congrArg (World.drewN _) (Nat.add_assoc _ _ _))⟩))); try go_wp2_with (first | (go_at_call 30; (with_reducible refine (juratref15_Count.calls k3 (rdOf ByteArray.empty t296 x13_3) a1 t320 _ A60.out).mono ?_); rintro e w' ⟨rfl, ⟨nd, rfl⟩⟩; (try first | exact ⟨rfl, _, World.drewN_drewN _ _ _⟩ | exact ⟨rfl, _, Eq.trans (World.drewN_drewN _ _ _) (congrArg (World.drewN _) (Nat.add_assoc _ _ _))⟩))))
                          go_ret
                          exact ⟨by first | rfl | (simp [errW_none, errW_some] <;> rfl) | (simp [*, errW_none, errW_some] <;> rfl), by first | (refine HB00.out.trans (Below.mono ?_ HB00.out.size); (repeat (first | (with_reducible first | exact HB.out | apply below_alloc | apply pw_below_drewN | apply below_drew1) | exact HB.out))) | (repeat (first | (with_reducible first | exact HB.out | apply below_alloc | apply pw_below_drewN | apply below_drew1) | exact HB.out))⟩
                      · rw [if_neg c59] at H
                        exact absurd H (by simp)
                    · rw [if_neg c58] at H
                      exact absurd H (by simp)
                  · rw [if_neg c57] at H
                    have c57b0 : decide (x13_3 < (t296.length : Int)) = false := decide_eq_false c57
                    clear c57
                    replace H := Option.bind_eq_some_iff.mp H
                    obtain ⟨t321, A640, H⟩ := H
                    replace H : (some t321) = some r := H
                    have A64 := Aside0.mk A640
                    clear A640
                    obtain rfl := Option.some.inj H
                    go_wp2_with (first | (go_at_call 13; (with_reducible refine (juratlaw15_awake.calls k3  t321 _ A64.out).mono ?_); rintro e w65 ⟨rfl, hb⟩; have n0_ := Aside0.mk (Kd.R_below (by (with_reducible repeat (first | apply Kd.R_alloc | apply Kd.R_drewN | apply Kd.R_drew)); exact HO_9.out) hb); have n1_ := Aside0.mk (Kd.R_below (by (with_reducible repeat (first | apply Kd.R_alloc | apply Kd.R_drewN | apply Kd.R_drew)); exact HO_12.out) hb); have n2_ := Aside0.mk (below_step (by repeat (first | (with_reducible first | exact HB.out | apply below_alloc | apply pw_below_drewN | apply below_drew1) | exact HB.out)) hb); clear HO_9; clear HO_12; clear HB; have HO_9 := n0_; have HO_12 := n1_; have HB := n2_; clear n0_ n1_ n2_; (try clear hb); (try clear hb2); (try clear hk); (try clear hi)))
                    repeat (go_quiet (first | (go_at_call 13; (with_reducible refine (juratlaw15_awake.calls k3  t321 _ A64.out).mono ?_); rintro e w65 ⟨rfl, hb⟩; have n0_ := Aside0.mk (Kd.R_below (by (with_reducible repeat (first | apply Kd.R_alloc | apply Kd.R_drewN | apply Kd.R_drew)); exact HO_9.out) hb); have n1_ := Aside0.mk (Kd.R_below (by (with_reducible repeat (first | apply Kd.R_alloc | apply Kd.R_drewN | apply Kd.R_drew)); exact HO_12.out) hb); have n2_ := Aside0.mk (below_step (by repeat (first | (with_reducible first | exact HB.out | apply below_alloc | apply pw_below_drewN | apply below_drew1) | exact HB.out)) hb); clear HO_9; clear HO_12; clear HB; have HO_9 := n0_; have HO_12 := n1_; have HB := n2_; clear n0_ n1_ n2_; (try clear hb); (try clear hb2); (try clear hk); (try clear hi))); try go_wp2_with (first | (go_at_call 13; (with_reducible refine (juratlaw15_awake.calls k3  t321 _ A64.out).mono ?_); rintro e w65 ⟨rfl, hb⟩; have n0_ := Aside0.mk (Kd.R_below (by (with_reducible repeat (first | apply Kd.R_alloc | apply Kd.R_drewN | apply Kd.R_drew)); exact HO_9.out) hb); have n1_ := Aside0.mk (Kd.R_below (by (with_reducible repeat (first | apply Kd.R_alloc | apply Kd.R_drewN | apply Kd.R_drew)); exact HO_12.out) hb); have n2_ := Aside0.mk (below_step (by repeat (first | (with_reducible first | exact HB.out | apply below_alloc | apply pw_below_drewN | apply below_drew1) | exact HB.out)) hb); clear HO_9; clear HO_12; clear HB; have HO_9 := n0_; have HO_12 := n1_; have HB := n2_; clear n0_ n1_ n2_; (try clear hb); (try clear hb2); (try clear hk); (try clear hi))))
                    go_ret
                    exact ⟨by first | rfl | (simp [errW_none, errW_some] <;> rfl) | (simp [*, errW_none, errW_some] <;> rfl), by first | (refine HB00.out.trans (Below.mono ?_ HB00.out.size); (repeat (first | (with_reducible first | exact HB.out | apply below_alloc | apply pw_below_drewN | apply below_drew1) | exact HB.out))) | (repeat (first | (with_reducible first | exact HB.out | apply below_alloc | apply pw_below_drewN | apply below_drew1) | exact HB.out))⟩

end Go.Proofs.Ytekdmkdidnnpbaa.P

/- Where a text stands in another one, as layer 8's reference finds it; no condition beyond the sizes that stand in each statement. -/
namespace Go.Proofs.Ytekdmkdidnnpbaa.Base
open Go Go.RowKit Go.Proofs.YtekdmkdidnnpbaaW.PrintWords Go.Proofs.YtekdmkdidnnpbaaW.PrintMore Go.Proofs.Ytekdmkdidnnpbaa.P
set_option linter.unusedVariables false

/-- Does a text stand at a place? -/
def stands (s t : ByteArray) (p : Nat) : Prop := p + t.size ≤ s.size ∧ ((LL s).drop p).take t.size = LL t
instance (s t : ByteArray) (p : Nat) : Decidable (stands s t p) := inferInstanceAs (Decidable (_ ∧ _))
/-- The places from one on. -/
def occF (s t : ByteArray) : Nat → Nat → List Int
  | 0, _ => []
  | d + 1, i => if i + t.size ≤ s.size ∧ t.size ≠ 0 then (if stands s t i then (i : Int) :: occF s t d (i + 1) else occF s t d (i + 1)) else []
def occB (s t : ByteArray) : List Int := occF s t (s.size + 2) 0
theorem stands_extract {s t : ByteArray} {i : Nat} (h : i + t.size ≤ s.size) : (s.extract i (i + t.size)).toList = t.toList ↔ stands s t i := by
  rw [toList_iff, LL_iff, LL_extract, List.drop_take, Nat.add_sub_cancel_left]
  exact ⟨fun e => ⟨h, e⟩, fun e => e.2⟩
theorem occF_length (s t : ByteArray) : ∀ d i, (occF s t d i).length ≤ d
  | 0, _ => Nat.le_refl _
  | d + 1, i => by
    have := occF_length s t d (i + 1)
    simp only [occF]
    split
    · split
      · rw [List.length_cons]; omega
      · omega
    · simp
theorem occF_mem (s t : ByteArray) (q : Int) : ∀ d i, s.size < i + d → (q ∈ occF s t d i ↔ ∃ p : Nat, q = p ∧ i ≤ p ∧ t.size ≠ 0 ∧ stands s t p)
  | 0, i, h => by
    simp only [occF, List.not_mem_nil, false_iff]
    rintro ⟨p, _, h1, _, h2, _⟩
    omega
  | d + 1, i, h => by
    have ih := occF_mem s t q d (i + 1) (by omega)
    simp only [occF]
    by_cases h1 : i + t.size ≤ s.size ∧ t.size ≠ 0
    · rw [if_pos h1]
      by_cases h2 : stands s t i
      · rw [if_pos h2, List.mem_cons, ih]
        constructor
        · rintro (rfl | ⟨p, rfl, h3, h4, h5⟩)
          · exact ⟨i, rfl, Nat.le_refl _, h1.2, h2⟩
          · exact ⟨p, rfl, by omega, h4, h5⟩
        · rintro ⟨p, rfl, h3, h4, h5⟩
          by_cases h6 : p = i
          · exact .inl (by rw [h6])
          · exact .inr ⟨p, rfl, by omega, h4, h5⟩
      · rw [if_neg h2, ih]
        constructor
        · rintro ⟨p, rfl, h3, h4, h5⟩
          exact ⟨p, rfl, by omega, h4, h5⟩
        · rintro ⟨p, rfl, h3, h4, h5⟩
          refine ⟨p, rfl, ?_, h4, h5⟩
          by_cases h6 : p = i
          · subst h6; exact absurd h5 h2
          · omega
    · rw [if_neg h1]
      simp only [List.not_mem_nil, false_iff]
      rintro ⟨p, _, h3, h4, h5, _⟩
      exact h1 ⟨by omega, h4⟩
theorem occB_mem (s t : ByteArray) (q : Int) : q ∈ occB s t ↔ ∃ p : Nat, q = p ∧ t.size ≠ 0 ∧ stands s t p := by
  unfold occB
  rw [occF_mem s t q _ 0 (by omega)]
  exact ⟨fun ⟨p, h1, _, h2⟩ => ⟨p, h1, h2⟩, fun ⟨p, h1, h2⟩ => ⟨p, h1, Nat.zero_le _, h2⟩⟩
theorem occB_length (s t : ByteArray) : (occB s t).length ≤ s.size + 2 := occF_length s t _ _

end Go.Proofs.Ytekdmkdidnnpbaa.Base

/- The hits of patterns in a text, as layer 15's reference tells them; no condition beyond the sizes that stand in each statement. -/
namespace Go.Proofs.Ytekdmkdidnnpbaa.Base
open Go Go.RowKit Go.Proofs.YtekdmkdidnnpbaaW.PrintWords Go.Proofs.YtekdmkdidnnpbaaW.PrintMore Go.Proofs.Ytekdmkdidnnpbaa.P
set_option linter.unusedVariables false

/-- Does a pattern end at an end of a text? -/
def standsE (p s : ByteArray) (e : Nat) : Bool := decide (p.size ≤ e ∧ stands s p (e - p.size))
theorem standsE_iff {p s : ByteArray} {e : Nat} : standsE p s e = true ↔ p.size ≤ e ∧ stands s p (e - p.size) := by unfold standsE; exact decide_eq_true_iff
theorem standsE_le {p s : ByteArray} {e : Nat} (h : standsE p s e = true) : e ≤ s.size := by
  obtain ⟨h1, h2, _⟩ := standsE_iff.1 h
  omega
theorem rstands (p s : ByteArray) (e : Nat) (hp : p.size ≤ 1099511627776) (he : e ≤ 1099511627776) : juratref15_Stands.f p s (e : Int) = some (standsE p s e) := by
  unfold juratref15_Stands.f
  by_cases h1 : p.size ≤ e
  · rw [if_pos (by omega)]
    by_cases h2 : e ≤ s.size
    · rw [if_pos (by omega), wrap_id (by omega) (by omega), if_pos (by omega), if_pos (by omega), Int.toNat_natCast, show ((e : Int) - (p.size : Int)).toNat = e - p.size by omega]
      congr 1
      rw [Bool.eq_iff_iff, beq_iff_eq, standsE_iff]
      have := stands_extract (s := s) (t := p) (i := e - p.size) (by omega)
      rw [show e - p.size + p.size = e by omega] at this
      rw [this]
      exact ⟨fun h => ⟨h1, h⟩, fun h => h.2⟩
    · rw [if_neg (by omega)]
      congr 1
      symm
      rw [Bool.eq_false_iff]
      exact fun h => h2 (standsE_le h)
  · rw [if_neg (by omega)]
    congr 1
    symm
    rw [Bool.eq_false_iff]
    exact fun h => h1 (standsE_iff.1 h).1
/-- The numbers of the patterns that end at an end. -/
def idsF (s : ByteArray) (e : Nat) : List ByteArray → Nat → List Int
  | [], _ => []
  | p :: l, i => if standsE p s e = true then (i : Int) :: idsF s e l (i + 1) else idsF s e l (i + 1)
abbrev idsB (w : List ByteArray) (s : ByteArray) (e : Nat) : List Int := idsF s e w 0
theorem idsF_length (s : ByteArray) (e : Nat) : ∀ (l : List ByteArray) (i : Nat), (idsF s e l i).length ≤ l.length
  | [], _ => Nat.le_refl _
  | p :: l, i => by
    have := idsF_length s e l (i + 1)
    simp only [idsF, List.length_cons]
    split
    · rw [List.length_cons]; omega
    · omega
theorem idsF_mem (s : ByteArray) (e : Nat) (q : Int) : ∀ (l : List ByteArray) (i : Nat), q ∈ idsF s e l i ↔ ∃ j, j < l.length ∧ q = ((i + j : Nat) : Int) ∧ standsE (l.getD j ByteArray.empty) s e = true
  | [], i => by simp [idsF]
  | p :: l, i => by
    have ih := idsF_mem s e q l (i + 1)
    have tail : (q ∈ idsF s e l (i + 1)) ↔ ∃ j, j + 1 < (p :: l).length ∧ q = ((i + (j + 1) : Nat) : Int) ∧ standsE ((p :: l).getD (j + 1) ByteArray.empty) s e = true := by
      rw [ih]
      constructor
      · rintro ⟨j, h1, h2, h3⟩
        exact ⟨j, by rw [List.length_cons]; omega, by rw [h2]; congr 1; omega, by rw [List.getD_cons_succ]; exact h3⟩
      · rintro ⟨j, h1, h2, h3⟩
        exact ⟨j, by rw [List.length_cons] at h1; omega, by rw [h2]; congr 1; omega, by rw [List.getD_cons_succ] at h3; exact h3⟩
    simp only [idsF]
    by_cases h : standsE p s e = true
    · rw [if_pos h, List.mem_cons, tail]
      constructor
      · rintro (rfl | ⟨j, h1, h2, h3⟩)
        · exact ⟨0, by simp, rfl, by rw [List.getD_cons_zero]; exact h⟩
        · exact ⟨j + 1, h1, h2, h3⟩
      · rintro ⟨j, h1, h2, h3⟩
        cases j with
        | zero => exact .inl h2
        | succ j => exact .inr ⟨j, h1, h2, h3⟩
    · rw [if_neg h, tail]
      constructor
      · rintro ⟨j, h1, h2, h3⟩
        exact ⟨j + 1, h1, h2, h3⟩
      · rintro ⟨j, h1, h2, h3⟩
        cases j with
        | zero => rw [List.getD_cons_zero] at h3; exact absurd h3 h
        | succ j => exact ⟨j, h1, h2, h3⟩
theorem idsB_mem {w : List ByteArray} {s : ByteArray} {e : Nat} {q : Int} : q ∈ idsB w s e ↔ ∃ j, j < w.length ∧ q = (j : Int) ∧ standsE (w.getD j ByteArray.empty) s e = true := by
  rw [idsF_mem]; simp
/-- The hits that end at an end. -/
def hitsAt (w : List ByteArray) (s : ByteArray) (e : Nat) : List S23 := (idsB w s e).map fun i => (⟨(e : Int), i⟩ : S23)
/-- All hits, from one end on. -/
def hitsF (w : List ByteArray) (s : ByteArray) : Nat → Nat → List S23
  | 0, _ => []
  | d + 1, e => hitsAt w s e ++ hitsF w s d (e + 1)
abbrev hitsB (w : List ByteArray) (s : ByteArray) : List S23 := hitsF w s (s.size + 1) 0
theorem hitsF_length (w : List ByteArray) (s : ByteArray) : ∀ d e, (hitsF w s d e).length ≤ d * w.length
  | 0, _ => by simp [hitsF]
  | d + 1, e => by
    have h1 := hitsF_length w s d (e + 1)
    have h2 : (hitsAt w s e).length ≤ w.length := by unfold hitsAt; rw [List.length_map]; exact idsF_length s e w 0
    simp only [hitsF, List.length_append, Nat.succ_mul]
    omega
theorem hitsF_mem {w : List ByteArray} {s : ByteArray} {h : S23} : ∀ d e, h ∈ hitsF w s d e ↔ ∃ a j, e ≤ a ∧ a < e + d ∧ j < w.length ∧ h = (⟨((a : Nat) : Int), (j : Int)⟩ : S23) ∧ standsE (w.getD j ByteArray.empty) s a = true
  | 0, e => by
    simp only [hitsF, List.not_mem_nil, false_iff]
    rintro ⟨a, j, h1, h2, _⟩
    omega
  | d + 1, e => by
    simp only [hitsF, List.mem_append]
    rw [hitsF_mem d (e + 1)]
    have h0 : h ∈ hitsAt w s e ↔ ∃ j, j < w.length ∧ h = (⟨(e : Int), (j : Int)⟩ : S23) ∧ standsE (w.getD j ByteArray.empty) s e = true := by
      unfold hitsAt
      rw [List.mem_map]
      constructor
      · rintro ⟨q, hq, rfl⟩
        obtain ⟨j, h1, rfl, h2⟩ := idsB_mem.1 hq
        exact ⟨j, h1, rfl, h2⟩
      · rintro ⟨j, h1, rfl, h2⟩
        exact ⟨_, idsB_mem.2 ⟨j, h1, rfl, h2⟩, rfl⟩
    rw [h0]
    constructor
    · rintro (⟨j, h1, h2, h3⟩ | ⟨a, j, h1, h2, h3, h4, h5⟩)
      · exact ⟨e, j, Nat.le_refl _, by omega, h1, h2, h3⟩
      · exact ⟨a, j, by omega, by omega, h3, h4, h5⟩
    · rintro ⟨a, j, h1, h2, h3, h4, h5⟩
      by_cases he : a = e
      · subst he; exact .inl ⟨j, h3, h4, h5⟩
      · exact .inr ⟨a, j, by omega, by omega, h3, h4, h5⟩
theorem hitsB_mem {w : List ByteArray} {s : ByteArray} {h : S23} : h ∈ hitsB w s ↔ ∃ a j, a ≤ s.size ∧ j < w.length ∧ h = (⟨((a : Nat) : Int), (j : Int)⟩ : S23) ∧ standsE (w.getD j ByteArray.empty) s a = true := by
  rw [hitsF_mem]
  constructor
  · rintro ⟨a, j, _, h2, h3, h4, h5⟩
    exact ⟨a, j, by omega, h3, h4, h5⟩
  · rintro ⟨a, j, h2, h3, h4, h5⟩
    exact ⟨a, j, by omega, by omega, h3, h4, h5⟩
theorem rall_l1 (w : List ByteArray) (s : ByteArray) (hw : w.length ≤ 65535) (hz : ∀ t ∈ w, t.size ≤ 65535) (e : Nat) (he : e ≤ 1048576) (r : List S23) : ∀ (d i : Nat) (out : List S23), i + d = w.length → out.length + d ≤ 8796093022207 →
    Ev (fun k => juratref15_All.l0 k w s (out ++ (idsF s e (w.drop i) i).map fun i => (⟨(e : Int), i⟩ : S23)) ((e + 1 : Nat) : Int)) r → Ev (fun k => juratref15_All.l1 k w s out (e : Int) (i : Int)) r := by
  intro d
  induction d with
  | zero =>
    intro i out hi ho h
    rw [List.drop_of_length_le (by omega)] at h
    simp only [idsF, List.map_nil, List.append_nil] at h
    refine Ev.step (fun k => ?_) h
    simp only [juratref15_All.l1]
    rw [if_neg (by omega), wrap_id (by omega) (by omega)]
    rfl
  | succ d ih =>
    intro i out hi ho h
    have hd := getD_drop w i ByteArray.empty (by omega)
    have hz1 := hz _ (getD_mem w i ByteArray.empty (by omega))
    have e1 : rdOf ByteArray.empty w (i : Int) = w.getD i ByteArray.empty := rfl
    rw [hd] at h
    have hst := rstands (w.getD i ByteArray.empty) s e (by omega) (by omega)
    simp only [idsF] at h
    by_cases hs : standsE (w.getD i ByteArray.empty) s e = true
    · rw [if_pos hs, List.map_cons, ← List.singleton_append, ← List.append_assoc] at h
      refine Ev.step (fun k => ?_) (ih (i + 1) (out ++ [(⟨(e : Int), (i : Int)⟩ : S23)]) (by omega) (by simp; omega) h)
      simp only [juratref15_All.l1]
      rw [if_pos (by omega), if_pos (by omega), e1, hst]
      simp only [Option.bind_some]
      rw [if_pos hs, if_pos (by omega), wrap_id (by omega) (by omega)]
      rfl
    · rw [if_neg hs] at h
      refine Ev.step (fun k => ?_) (ih (i + 1) out (by omega) (by omega) h)
      simp only [juratref15_All.l1]
      rw [if_pos (by omega), if_pos (by omega), e1, hst]
      simp only [Option.bind_some]
      rw [if_neg hs, wrap_id (by omega) (by omega)]
      rfl
theorem rall_l0 (w : List ByteArray) (s : ByteArray) (hw : w.length ≤ 65535) (hz : ∀ t ∈ w, t.size ≤ 65535) (hs : s.size ≤ 1048575) : ∀ (d e : Nat) (out : List S23), e + d = s.size + 1 → out.length ≤ e * w.length →
    Ev (fun k => juratref15_All.l0 k w s out (e : Int)) (out ++ hitsF w s d e) := by
  intro d
  induction d with
  | zero =>
    intro e out he ho
    refine Ev.ret fun k => ?_
    simp only [juratref15_All.l0, hitsF, List.append_nil]
    rw [if_neg (by omega)]
  | succ d ih =>
    intro e out he ho
    have hm : e * w.length ≤ 1048576 * 65535 := Nat.mul_le_mul (by omega) hw
    have hid : (idsB w s e).length ≤ w.length := idsF_length s e w 0
    have := ih (e + 1) (out ++ hitsAt w s e) (by omega) (by unfold hitsAt; rw [List.length_append, List.length_map, Nat.succ_mul]; omega)
    rw [List.append_assoc] at this
    refine Ev.step (f := fun k => juratref15_All.l1 k w s out (e : Int) ((0 : Nat) : Int)) (fun k => ?_) (rall_l1 w s hw hz e (by omega) _ w.length 0 out (by omega) (by omega) (by rw [List.drop_zero]; exact this))
    simp only [juratref15_All.l0]
    rw [if_pos (by omega)]
    rfl
theorem rall_ev (w : List ByteArray) (s : ByteArray) (hw : w.length ≤ 65535) (hz : ∀ t ∈ w, t.size ≤ 65535) (hs : s.size ≤ 1048575) : Ev (fun k => juratref15_All.f k w s) (hitsB w s) := by
  have := rall_l0 w s hw hz hs (s.size + 1) 0 [] (by omega) (by simp)
  rw [List.nil_append] at this
  exact this

end Go.Proofs.Ytekdmkdidnnpbaa.Base

/- What is told of hits: which comes first, whether they rise, how often each pattern stands; layer 15's and its reference's answers are these; no condition beyond the sizes that stand in each statement. -/
namespace Go.Proofs.Ytekdmkdidnnpbaa.Base
open Go Go.RowKit Go.Proofs.YtekdmkdidnnpbaaW.PrintWords Go.Proofs.YtekdmkdidnnpbaaW.PrintMore Go.Proofs.Ytekdmkdidnnpbaa.P
set_option linter.unusedVariables false

theorem less_trans {a b c : HitS} (h1 : lessH a b = true) (h2 : lessH b c = true) : lessH a c = true := by
  have h1 := of_decide_eq_true h1
  have h2 := of_decide_eq_true h2
  refine decide_eq_true ?_
  omega
theorem idsF_up15 (s : ByteArray) (e : Nat) : ∀ (l : List ByteArray) (i : Nat), (idsF s e l i).Pairwise (· < ·) ∧ ∀ q ∈ idsF s e l i, (i : Int) ≤ q
  | [], i => ⟨List.Pairwise.nil, by simp [idsF]⟩
  | p :: l, i => by
    obtain ⟨h1, h2⟩ := idsF_up15 s e l (i + 1)
    simp only [idsF]
    by_cases h : standsE p s e = true
    · rw [if_pos h]
      refine ⟨List.pairwise_cons.2 ⟨fun q hq => by have := h2 q hq; omega, h1⟩, fun q hq => ?_⟩
      rcases List.mem_cons.1 hq with rfl | hq
      · exact Int.le_refl _
      · have := h2 q hq; omega
    · rw [if_neg h]
      exact ⟨h1, fun q hq => by have := h2 q hq; omega⟩
theorem hitsF_up15 (w : List ByteArray) (s : ByteArray) : ∀ d e, (hitsF w s d e).Pairwise (fun a b => lessH a b = true)
  | 0, _ => List.Pairwise.nil
  | d + 1, e => by
    refine List.pairwise_append.2 ⟨?_, hitsF_up15 w s d (e + 1), fun x hx y hy => ?_⟩
    · unfold hitsAt
      rw [List.pairwise_map]
      exact (idsF_up15 s e w 0).1.imp (fun h => decide_eq_true (.inr ⟨rfl, h⟩))
    · obtain ⟨q, _, rfl⟩ := List.mem_map.1 hx
      obtain ⟨a, j, h1, _, _, rfl, _⟩ := (hitsF_mem d (e + 1)).1 hy
      exact decide_eq_true (.inl (show (e : Int) < (a : Int) by omega))
theorem ids_count15 (s : ByteArray) (e : Nat) : ∀ (l : List ByteArray) (i j : Nat), j < l.length → (idsF s e l i).countP (fun q => decide (q = ((i + j : Nat) : Int))) = if standsE (l.getD j ByteArray.empty) s e = true then 1 else 0
  | [], i, j, h => by simp at h
  | p :: l, i, 0, h => by
    have h0 : (idsF s e l (i + 1)).countP (fun q => decide (q = ((i + 0 : Nat) : Int))) = 0 := by
      rw [List.countP_eq_zero]
      intro q hq
      have := (idsF_up15 s e l (i + 1)).2 q hq
      simp only [decide_eq_true_eq]
      omega
    simp only [idsF, List.getD_cons_zero]
    by_cases hs : standsE p s e = true
    · rw [if_pos hs, if_pos hs, List.countP_cons, h0, if_pos (decide_eq_true (show (i : Int) = ((i + 0 : Nat) : Int) by omega))]
    · rw [if_neg hs, if_neg hs, h0]
  | p :: l, i, j + 1, h => by
    have ih := ids_count15 s e l (i + 1) j (by simpa using h)
    rw [show i + 1 + j = i + (j + 1) by omega] at ih
    simp only [idsF, List.getD_cons_succ]
    by_cases hs : standsE p s e = true
    · rw [if_pos hs, List.countP_cons, ih, if_neg (show ¬ decide ((i : Int) = ((i + (j + 1) : Nat) : Int)) = true by rw [decide_eq_true_iff]; omega), Nat.add_zero]
    · rw [if_neg hs, ih]
/-- How often a pattern stands, from one end on. -/
def cntF15 (p s : ByteArray) : Nat → Nat → Nat
  | 0, _ => 0
  | d + 1, e => (if standsE p s e = true then 1 else 0) + cntF15 p s d (e + 1)
theorem hits_count15 (w : List ByteArray) (s : ByteArray) (j : Nat) (hj : j < w.length) : ∀ d e, (hitsF w s d e).countP (fun h => decide (h.f1 = (j : Int))) = cntF15 (w.getD j ByteArray.empty) s d e
  | 0, _ => rfl
  | d + 1, e => by
    simp only [hitsF, cntF15]
    rw [List.countP_append, hits_count15 w s j hj d (e + 1)]
    congr 1
    unfold hitsAt
    rw [List.countP_map]
    have := ids_count15 s e w 0 j hj
    rw [Nat.zero_add] at this
    exact this
theorem rcount15_l0 (p s : ByteArray) (hp : p.size ≤ 1099511627776) (hs : s.size ≤ 1048575) : ∀ (d e n : Nat), e + d = s.size + 1 → n ≤ e →
    Ev (fun k => juratref15_Count.l0 k p s (n : Int) (e : Int)) ((n + cntF15 p s d e : Nat) : Int) := by
  intro d
  induction d with
  | zero =>
    intro e n he hn
    refine Ev.ret fun k => ?_
    simp only [juratref15_Count.l0]
    rw [if_neg (by omega)]
    rfl
  | succ d ih =>
    intro e n he hn
    have hst := rstands p s e hp (by omega)
    have w1 : wrap64 ((e : Int) + 1) = ((e + 1 : Nat) : Int) := by rw [wrap_id (by omega) (by omega)]; rfl
    simp only [cntF15]
    by_cases h : standsE p s e = true
    · rw [if_pos h, show n + (1 + cntF15 p s d (e + 1)) = n + 1 + cntF15 p s d (e + 1) by omega]
      refine Ev.step (fun k => ?_) (ih (e + 1) (n + 1) (by omega) (by omega))
      simp only [juratref15_Count.l0]
      rw [if_pos (by omega), hst]
      simp only [Option.bind_some]
      rw [if_pos h, w1, wrap_id (by omega) (by omega)]
      rfl
    · rw [if_neg h, Nat.zero_add]
      refine Ev.step (fun k => ?_) (ih (e + 1) n (by omega) (by omega))
      simp only [juratref15_Count.l0]
      rw [if_pos (by omega), hst]
      simp only [Option.bind_some]
      rw [if_neg h, w1]
theorem rcount15 (p s : ByteArray) (hp : p.size ≤ 1099511627776) (hs : s.size ≤ 1048575) : Ev (fun k => juratref15_Count.f k p s) (cntF15 p s (s.size + 1) 0 : Int) := by
  have := rcount15_l0 p s hp hs (s.size + 1) 0 0 (by omega) (Nat.le_refl _)
  rw [Nat.zero_add] at this
  exact this
end Go.Proofs.Ytekdmkdidnnpbaa.Base

/- The reference's places of a text in another one are those of the border layer; no condition beyond the sizes that stand in each statement. -/
namespace Go.Proofs.Ytekdmkdidnnpbaa.Base
open Go Go.RowKit Go.Proofs.YtekdmkdidnnpbaaW.PrintWords Go.Proofs.YtekdmkdidnnpbaaW.PrintMore Go.Proofs.Ytekdmkdidnnpbaa.P

theorem take_all (s : ByteArray) : (LL s).take s.size = LL s := List.take_of_length_le (by rw [LL_length]; exact Nat.le_refl _)
theorem stS_le_i (a b : ByteArray) (i : Nat) : stS a b i ≤ i := by
  have := (st_Sf (LL b) ((LL a).take i) b.size).2.1
  rw [List.length_take] at this
  unfold stS
  omega
/-- t stands in s up to the end e. -/
theorem stS_iff (s t : ByteArray) (e : Nat) (he : e ≤ s.size) : stS s t e = t.size ↔ t.size ≤ e ∧ s.extract (e - t.size) e = t := by
  have hl : ((LL s).take e).length = e := by rw [List.length_take, LL_length]; omega
  have key : Sf (LL t) ((LL s).take e) t.size ↔ t.size ≤ e ∧ s.extract (e - t.size) e = t := by
    unfold Sf
    rw [hl, take_all, LL_iff, LL_extract]
    constructor
    · rintro ⟨_, h2, h3⟩; exact ⟨h2, h3.symm⟩
    · rintro ⟨h2, h3⟩; exact ⟨by rw [LL_length]; exact Nat.le_refl _, h2, h3.symm⟩
  rw [← key]
  constructor
  · intro h
    have := st_Sf (LL t) ((LL s).take e) t.size
    unfold stS at h
    rwa [h] at this
  · intro h
    by_cases h0 : 0 < t.size
    · exact Nat.le_antisymm (stS_le _ _ _) (top_max _ _ _ h0 (Nat.le_refl _) h)
    · have := stS_le s t e
      omega
theorem findTo_none (s t : ByteArray) (i : Nat) (h : i ≤ t.size) (_h0 : 0 < t.size) : findTo s t i = [] := by
  unfold findTo
  rw [List.map_eq_nil_iff, List.filter_eq_nil_iff]
  intro a ha
  have h1 := List.mem_range.1 ha
  have h2 := stS_le_i s t a
  simp only [decide_eq_true_eq]
  omega
theorem findS_length (s t : ByteArray) : (findS s t).length ≤ s.size + 1 := by
  unfold findS
  split
  · simp
  · rw [List.length_map]
    exact Nat.le_trans (List.length_filter_le _ _) (by simp)
end Go.Proofs.Ytekdmkdidnnpbaa.Base

/- What layer 9 and its reference compute, as plain functions on lists of bytes; no condition beyond the sizes that stand in each statement. -/
namespace Go.Proofs.Ytekdmkdidnnpbaa.Base
open Go Go.RowKit Go.Proofs.YtekdmkdidnnpbaaW.PrintWords Go.Proofs.YtekdmkdidnnpbaaW.PrintMore Go.Proofs.Ytekdmkdidnnpbaa.P
set_option linter.unusedVariables false

/-! few texts, of few bytes -/
def fewB (l : List ByteArray) (b : Int) : Bool := l.all fun s => decide ((s.size : Int) ≤ b)
theorem fewB_iff {l : List ByteArray} {b : Int} : fewB l b = true ↔ ∀ s ∈ l, (s.size : Int) ≤ b := by unfold fewB; rw [List.all_eq_true]; simp
theorem few_l0 (l : List ByteArray) (b : Int) (hm : l.length ≤ 9223372036854775807) : ∀ (d i : Nat), i + d = l.length →
    Ev (fun k => juratref09_Few.l0 k l b (i : Int)) (fewB (l.drop i) b) := by
  intro d
  induction d with
  | zero =>
    intro i hi
    refine Ev.ret fun k => ?_
    simp only [juratref09_Few.l0]
    rw [if_neg (by omega), List.drop_of_length_le (by omega)]
    rfl
  | succ d ih =>
    intro i hi
    have hd := getD_drop l i ByteArray.empty (by omega)
    have e : rdOf ByteArray.empty l (i : Int) = l.getD i ByteArray.empty := rfl
    have e2 : fewB (l.drop i) b = (decide (((l.getD i ByteArray.empty).size : Int) ≤ b) && fewB (l.drop (i + 1)) b) := by rw [hd]; rfl
    rw [e2]
    by_cases h : ((l.getD i ByteArray.empty).size : Int) > b
    · refine Ev.ret fun k => ?_
      simp only [juratref09_Few.l0]
      rw [if_pos (by omega), if_pos (by omega), e, if_pos h, decide_eq_false (by omega)]
      rfl
    · rw [decide_eq_true (by omega), Bool.true_and]
      refine Ev.step (f := fun k => juratref09_Few.l0 k l b ((i + 1 : Nat) : Int)) (fun k => ?_) (ih (i + 1) (by omega))
      simp only [juratref09_Few.l0]
      rw [if_pos (by omega), if_pos (by omega), e, if_neg h, wrap_id (by omega) (by omega)]
      rfl
theorem few_ev (l : List ByteArray) (m b : Int) (hm : l.length ≤ 9223372036854775807) : Ev (fun k => juratref09_Few.f k l m b) (decide ((l.length : Int) ≤ m) && fewB l b) := by
  by_cases h : (l.length : Int) > m
  · rw [decide_eq_false (by omega)]
    refine Ev.const fun k => ?_
    unfold juratref09_Few.f
    rw [if_pos h]
    rfl
  · have h' := few_l0 l b hm l.length 0 (by omega)
    rw [List.drop_zero] at h'
    rw [decide_eq_true (by omega), Bool.true_and]
    refine Ev.congr (fun k => ?_) h'
    unfold juratref09_Few.f
    rw [if_neg h]
    rfl

/-! sorted: two lists in order with the same texts are one -/
theorem up_unique : ∀ {l m : List ByteArray}, l.Perm m → upB l → upB m → l = m
  | [], m, h, _, _ => by rw [List.nil_perm.1 h]
  | x :: l, [], h, _, _ => by have := h.length_eq; simp at this
  | x :: l, y :: m, h, hl, hm => by
    obtain ⟨hl1, hl2⟩ := List.pairwise_cons.1 hl
    obtain ⟨hm1, hm2⟩ := List.pairwise_cons.1 hm
    have e : x = y := by
      rcases bl_tri (LL x) (LL y) with h' | h' | h'
      · exact LL_inj h'
      · rcases List.mem_cons.1 (h.mem_iff.1 List.mem_cons_self : x ∈ y :: m) with rfl | hx
        · rfl
        · rw [hm1 x hx] at h'; cases h'
      · rcases List.mem_cons.1 (h.mem_iff.2 List.mem_cons_self : y ∈ x :: l) with rfl | hy
        · rfl
        · rw [hl1 y hy] at h'; cases h'
    subst e
    rw [up_unique (List.Perm.cons_inv h) hl2 hm2]
theorem sortB_up (l : List ByteArray) : upB (sortB l) := by
  have h := List.pairwise_mergeSort (le := fun x y : ByteArray => !Op.bytesLess (LL y) (LL x)) (fun a b c h1 h2 => by
      simp only [Bool.not_eq_true'] at h1 h2 ⊢
      exact bl_ntrans h2 h1) (fun a b => by
      rcases bl_tri (LL a) (LL b) with h | h | h
      · rw [h, bl_irrefl]; rfl
      · rw [bl_asym h]; rfl
      · rw [bl_asym h]; simp) l
  exact h.imp (fun h => by simpa using h)
theorem sortB_perm (l : List ByteArray) : (sortB l).Perm l := List.mergeSort_perm _ _
theorem sortB_of {l m : List ByteArray} (h : m.Perm l) (hu : upB m) : m = sortB l := up_unique (h.trans (sortB_perm l).symm) hu (sortB_up l)
theorem sortB_sized {l : List ByteArray} (h : sizedB l) : sizedB (sortB l) := ⟨by rw [sortB_length]; exact h.1, fun s hs => h.2 s ((sortB_perm l).mem_iff.1 hs)⟩

theorem take_snoc {α : Type} (l : List α) (i : Nat) (z : α) (h : i < l.length) : l.take (i + 1) = l.take i ++ [l.getD i z] := by
  rw [List.take_succ_eq_append_getElem h, List.getD_eq_getElem?_getD, List.getElem?_eq_getElem h]; rfl

end Go.Proofs.Ytekdmkdidnnpbaa.Base

/- What layer 9's reference computes by sorting and looking for what is there twice, as plain functions on lists of texts; no condition beyond the sizes that stand in each statement. -/
namespace Go.Proofs.Ytekdmkdidnnpbaa.Base
open Go Go.RowKit Go.Proofs.YtekdmkdidnnpbaaW.PrintWords Go.Proofs.YtekdmkdidnnpbaaW.PrintMore Go.Proofs.Ytekdmkdidnnpbaa.P
set_option linter.unusedVariables false

/-! sorted by insertion -/
theorem rsorted_put (l out : List ByteArray) (i j : Nat) (hi : i < l.length) (hl : l.length ≤ 8796093022200) (ho : out.length = i) (hj : j ≤ out.length) (hup : upB out)
    (hbelow : ∀ t, t < j → Op.bytesLess (LL (l.getD i ByteArray.empty)) (LL (out.getD t ByteArray.empty)) = false) (habove : ∀ t, j ≤ t → t < out.length → Op.bytesLess (LL (l.getD i ByteArray.empty)) (LL (out.getD t ByteArray.empty)) = true) :
    upB (out.take j ++ l.getD i ByteArray.empty :: out.drop j) ∧ (out.take j ++ l.getD i ByteArray.empty :: out.drop j).Perm (l.getD i ByteArray.empty :: out) := by
  refine ⟨?_, ?_⟩
  · have h1 : ∀ x ∈ out.take j, Op.bytesLess (LL (l.getD i ByteArray.empty)) (LL x) = false := fun x hx => by
      obtain ⟨t, ht, rfl⟩ := List.mem_iff_getElem.1 hx
      rw [List.length_take] at ht
      have := hbelow t (by omega)
      rw [List.getD_eq_getElem?_getD (l := out), List.getElem?_eq_getElem (by omega : t < out.length)] at this
      rw [List.getElem_take]
      exact this
    have h2 : ∀ x ∈ out.drop j, Op.bytesLess (LL (l.getD i ByteArray.empty)) (LL x) = true := fun x hx => by
      obtain ⟨t, ht, rfl⟩ := List.mem_iff_getElem.1 hx
      rw [List.length_drop] at ht
      have := habove (j + t) (by omega) (by omega)
      rw [List.getD_eq_getElem?_getD (l := out), List.getElem?_eq_getElem (by omega : j + t < out.length)] at this
      rw [List.getElem_drop]
      exact this
    have hsplit : (out.take j ++ out.drop j).Pairwise (fun x y => Op.bytesLess (LL y) (LL x) = false) := by rw [List.take_append_drop]; exact hup
    obtain ⟨p1, p2, p3⟩ := List.pairwise_append.1 hsplit
    refine List.pairwise_append.2 ⟨p1, List.pairwise_cons.2 ⟨fun y hy => bl_asym (h2 y hy), p2⟩, fun x hx y hy => ?_⟩
    rcases List.mem_cons.1 hy with rfl | hy
    · exact h1 x hx
    · exact p3 x hx y hy
  · refine List.perm_middle.trans ?_
    rw [List.take_append_drop]
theorem rsorted_both (l : List ByteArray) (hl : l.length ≤ 8796093022200) : ∀ (d i : Nat), i + d = l.length → ∀ out : List ByteArray, out.Perm (l.take i) → upB out →
    Ev (fun k => juratref09_Sorted.l0 k l out (i : Int)) (sortB l) := by
  intro d
  induction d with
  | zero =>
    intro i hi out hp hu
    rw [List.take_of_length_le (by omega)] at hp
    refine Ev.ret fun k => ?_
    simp only [juratref09_Sorted.l0]
    rw [if_neg (by omega), sortB_of hp hu]
  | succ d ih =>
    intro i hi out hp hu
    have ho : out.length = i := by rw [hp.length_eq, List.length_take]; omega
    have hx : rdOf ByteArray.empty l (i : Int) = l.getD i ByteArray.empty := rfl
    have fin : ∀ j, j ≤ out.length → (∀ t, t < j → Op.bytesLess (LL (l.getD i ByteArray.empty)) (LL (out.getD t ByteArray.empty)) = false) → (∀ t, j ≤ t → t < out.length → Op.bytesLess (LL (l.getD i ByteArray.empty)) (LL (out.getD t ByteArray.empty)) = true) →
        Ev (fun k => juratref09_Sorted.l0 k l ((([] ++ out.take j) ++ [l.getD i ByteArray.empty]) ++ out.drop j) ((i + 1 : Nat) : Int)) (sortB l) := fun j hj hb ha => by
      obtain ⟨u, p⟩ := rsorted_put l out i j (by omega) hl ho hj hu hb ha
      rw [List.nil_append, List.append_assoc, List.singleton_append]
      refine ih (i + 1) (by omega) _ (p.trans ?_) u
      rw [take_snoc l i ByteArray.empty (by omega)]
      exact (List.Perm.cons _ hp).trans (List.perm_append_singleton _ _).symm
    have inner : ∀ j, j ≤ out.length → (∀ t, j ≤ t → t < out.length → Op.bytesLess (LL (l.getD i ByteArray.empty)) (LL (out.getD t ByteArray.empty)) = true) →
        Ev (fun k => juratref09_Sorted.l1 k l out (i : Int) (j : Int)) (sortB l) := by
      intro j
      induction j with
      | zero =>
        intro hj ha
        refine Ev.step (f := fun k => juratref09_Sorted.l0 k l ((([] ++ out.take 0) ++ [l.getD i ByteArray.empty]) ++ out.drop 0) ((i + 1 : Nat) : Int)) (fun k => ?_) (fin 0 hj (fun t ht => absurd ht (Nat.not_lt_zero _)) ha)
        simp only [juratref09_Sorted.l1, Option.bind_some]
        rw [if_neg (by omega), if_pos (by omega), if_pos (by omega), if_pos (by simp), if_pos (by omega), if_pos (by omega), if_pos (by simp), hx, Int.toNat_natCast, if_pos (by simp; omega), wrap_id (by omega) (by omega)]
        rfl
      | succ j ihj =>
        intro hj ha
        have hy : rdOf ByteArray.empty out (((j + 1 : Nat) : Int) - 1) = out.getD j ByteArray.empty := by unfold rdOf; rw [show (((j + 1 : Nat) : Int) - 1).toNat = j by omega]
        cases hlt : Op.bytesLess (LL (l.getD i ByteArray.empty)) (LL (out.getD j ByteArray.empty)) with
        | true =>
          refine Ev.step (f := fun k => juratref09_Sorted.l1 k l out (i : Int) (j : Int)) (fun k => ?_) (ihj (by omega) (fun t h1 h2 => by
            by_cases he : t = j
            · subst he; exact hlt
            · exact ha t (by omega) h2))
          simp only [juratref09_Sorted.l1, Option.bind_some]
          rw [wrap_id (x := ((j + 1 : Nat) : Int) - 1) (by omega) (by omega), if_pos (by omega), if_pos (by omega), if_pos (by omega), if_pos (by omega), if_pos (by omega), hx, hy, if_pos (by rw [ByteArray.toList_eq, ByteArray.toList_eq]; exact hlt), show ((j + 1 : Nat) : Int) - 1 = (j : Int) by omega]
        | false =>
          refine Ev.step (f := fun k => juratref09_Sorted.l0 k l ((([] ++ out.take (j + 1)) ++ [l.getD i ByteArray.empty]) ++ out.drop (j + 1)) ((i + 1 : Nat) : Int)) (fun k => ?_) (fin (j + 1) hj (fun t ht => by
            by_cases he : t = j
            · subst he; exact hlt
            · have hp := List.pairwise_iff_getElem.1 hu t j (by omega) (by omega) (by omega)
              rw [List.getD_eq_getElem?_getD (l := out), List.getElem?_eq_getElem (by omega : j < out.length)] at hlt
              rw [List.getD_eq_getElem?_getD (l := out), List.getElem?_eq_getElem (by omega : t < out.length)]
              exact bl_ntrans hlt hp) ha)
          simp only [juratref09_Sorted.l1, Option.bind_some]
          rw [wrap_id (x := ((j + 1 : Nat) : Int) - 1) (by omega) (by omega), if_pos (by omega), if_pos (by omega), if_pos (by omega), if_pos (by omega), if_pos (by omega), hx, hy, if_neg (by rw [ByteArray.toList_eq, ByteArray.toList_eq, hlt]; simp), if_pos (by omega), if_pos (by omega), Int.toNat_natCast,
            if_pos (by simp; omega), if_pos (by simp; omega), if_pos (by simp; omega), wrap_id (by omega) (by omega)]
          rfl
    refine Ev.step (f := fun k => juratref09_Sorted.l1 k l out (i : Int) (out.length : Int)) (fun k => ?_) (inner out.length (Nat.le_refl _) (fun t h1 h2 => by omega))
    simp only [juratref09_Sorted.l0]
    rw [if_pos (by omega)]
theorem rsorted_ev (l : List ByteArray) (hl : l.length ≤ 8796093022200) : Ev (fun k => juratref09_Sorted.f k l) (sortB l) :=
  rsorted_both l hl l.length 0 (by omega) [] (by rw [List.take_zero]) List.Pairwise.nil

/-! there already -/
theorem inB_take (s : ByteArray) (l : List ByteArray) (i : Nat) : inB s (l.take i) = true ↔ ∃ t, t < i ∧ t < l.length ∧ l.getD t ByteArray.empty = s := by
  rw [inB_iff, List.mem_iff_getElem]
  constructor
  · rintro ⟨t, ht, rfl⟩
    rw [List.length_take] at ht
    refine ⟨t, by omega, by omega, ?_⟩
    rw [List.getD_eq_getElem?_getD, List.getElem?_eq_getElem (by omega : t < l.length), List.getElem_take]; rfl
  · rintro ⟨t, h1, h2, rfl⟩
    refine ⟨t, by rw [List.length_take]; omega, ?_⟩
    rw [List.getD_eq_getElem?_getD, List.getElem?_eq_getElem (by omega : t < l.length), List.getElem_take]; rfl
theorem rtwice_both (l : List ByteArray) (hl : l.length ≤ 9223372036854775806) : ∀ (d i : Nat), i + d = l.length →
    Ev (fun k => juratref09_Twice.l0 k l (i : Int)) (twB (l.take i) (l.drop i) i) := by
  intro d
  induction d with
  | zero =>
    intro i hi
    refine Ev.ret fun k => ?_
    simp only [juratref09_Twice.l0]
    rw [if_neg (by omega), List.drop_of_length_le (by omega)]
    rfl
  | succ d ih =>
    intro i hi
    have ih' := ih (i + 1) (by omega)
    rw [take_snoc l i ByteArray.empty (by omega)] at ih'
    rw [getD_drop l i ByteArray.empty (by omega)]
    have inner : ∀ e j, j + e = i → (∀ t, t < j → ¬ l.getD t ByteArray.empty = l.getD i ByteArray.empty) →
        Ev (fun k => juratref09_Twice.l1 k l (i : Int) (j : Int)) (twB (l.take i) (l.getD i ByteArray.empty :: l.drop (i + 1)) i) := by
      intro e
      induction e with
      | zero =>
        intro j hj hn
        have hin : ¬ inB (l.getD i ByteArray.empty) (l.take i) = true := fun h => by
          obtain ⟨t, h1, h2, h3⟩ := (inB_take _ _ _).1 h
          exact hn t (by omega) h3
        simp only [twB]
        rw [if_neg hin]
        refine Ev.step (f := fun k => juratref09_Twice.l0 k l ((i + 1 : Nat) : Int)) (fun k => ?_) ih'
        simp only [juratref09_Twice.l1]
        rw [if_neg (by omega), wrap_id (by omega) (by omega)]
        rfl
      | succ e ihe =>
        intro j hj hn
        have e1 : rdOf ByteArray.empty l (i : Int) = l.getD i ByteArray.empty := rfl
        have e2 : rdOf ByteArray.empty l (j : Int) = l.getD j ByteArray.empty := rfl
        by_cases h : l.getD j ByteArray.empty = l.getD i ByteArray.empty
        · have hin : inB (l.getD i ByteArray.empty) (l.take i) = true := (inB_take _ _ _).2 ⟨j, by omega, by omega, h⟩
          simp only [twB]
          rw [if_pos hin]
          refine Ev.ret fun k => ?_
          simp only [juratref09_Twice.l1]
          rw [if_pos (by omega), if_pos (by omega), if_pos (by omega), if_pos (by omega), if_pos (by omega), e1, e2, if_pos (toList_iff.2 h)]
        · refine Ev.step (f := fun k => juratref09_Twice.l1 k l (i : Int) ((j + 1 : Nat) : Int)) (fun k => ?_) (ihe (j + 1) (by omega) (fun t ht => by
            by_cases he : t = j
            · subst he; exact h
            · exact hn t (by omega)))
          simp only [juratref09_Twice.l1]
          rw [if_pos (by omega), if_pos (by omega), if_pos (by omega), if_pos (by omega), if_pos (by omega), e1, e2, if_neg (fun x => h (toList_iff.1 x)), wrap_id (by omega) (by omega)]
          rfl
    refine Ev.step (f := fun k => juratref09_Twice.l1 k l (i : Int) ((0 : Nat) : Int)) (fun k => ?_) (inner i 0 (by omega) (fun t ht => absurd ht (Nat.not_lt_zero _)))
    simp only [juratref09_Twice.l0]
    rw [if_pos (by omega)]
    rfl
theorem rtwice_ev (l : List ByteArray) (hl : l.length ≤ 9223372036854775806) : Ev (fun k => juratref09_Twice.f k l) (twB [] l 0) := by
  have h := rtwice_both l hl l.length 0 (by omega)
  rw [List.take_zero, List.drop_zero] at h
  exact h

end Go.Proofs.Ytekdmkdidnnpbaa.Base

/- What layer 10's reference makes of texts, as plain functions; no condition beyond the sizes that stand in each statement. -/
namespace Go.Proofs.Ytekdmkdidnnpbaa.Base
open Go Go.RowKit Go.Proofs.YtekdmkdidnnpbaaW.PrintWords Go.Proofs.YtekdmkdidnnpbaaW.PrintMore Go.Proofs.Ytekdmkdidnnpbaa.P
set_option linter.unusedVariables false

/-- The patterns in order, or the error. -/
def newB (l : List ByteArray) : List ByteArray × Int :=
  if l.length = 0 then ([], 14) else if l.length > 65535 then ([], 6) else if badB l ≠ 0 then ([], badB l) else if totalB 0 l > 16777216 then ([], 13) else if twB [] l 0 ≥ 0 then ([], 8) else (sortB l, 0)
theorem rnew_l0 (l : List ByteArray) (hl : l.length ≤ 65535) : ∀ (d i n : Nat), i + d = l.length → n ≤ i * 65535 →
    Ev (fun k => juratref10_New.l0 k l (n : Int) (i : Int)) (if badB (l.drop i) ≠ 0 then ([], badB (l.drop i)) else if totalB n (l.drop i) > 16777216 then ([], 13) else if twB [] l 0 ≥ 0 then ([], 8) else (sortB l, 0)) := by
  intro d
  induction d with
  | zero =>
    intro i n hi hn
    rw [List.drop_of_length_le (by omega), if_neg (by simp [badB])]
    have hn' : totalB n [] = n := rfl
    rw [hn']
    by_cases h1 : n > 16777216
    · rw [if_pos h1]
      refine Ev.ret fun k => ?_
      simp only [juratref10_New.l0]
      rw [if_neg (by omega), if_pos (by omega)]
    · rw [if_neg h1]
      refine Ev.step (f := fun k => (juratref09_Twice.f k l).bind fun t => if t ≥ 0 then some ([], 8) else (juratref09_Sorted.f k l).bind fun s => some (s, 0)) (fun k => ?_) ?_
      · simp only [juratref10_New.l0]
        rw [if_neg (by omega), if_neg (by omega)]
      refine Ev.bind (rtwice_ev l (by omega)) ?_
      by_cases h2 : twB [] l 0 ≥ 0
      · rw [if_pos h2]
        exact Ev.congr (fun k => if_pos h2) (Ev.now _)
      · rw [if_neg h2]
        exact Ev.congr (fun k => if_neg h2) (Ev.bind (rsorted_ev l (by omega)) (Ev.now _))
  | succ d ih =>
    intro i n hi hn
    have hd := getD_drop l i ByteArray.empty (by omega)
    have e : rdOf ByteArray.empty l (i : Int) = l.getD i ByteArray.empty := rfl
    rw [hd]
    generalize l.getD i ByteArray.empty = s at e
    by_cases h0 : s.size = 0
    · have hc : chkB s = 7 := by unfold chkB; rw [if_pos h0]
      have hb : badB (s :: l.drop (i + 1)) = chkB s := by show (if chkB s = 0 then _ else chkB s) = chkB s; rw [if_neg (by omega)]
      rw [hb, hc, if_pos (by omega)]
      refine Ev.ret fun k => ?_
      simp only [juratref10_New.l0]
      rw [if_pos (by omega), if_pos (by omega), e, if_pos (toList_nil.2 h0)]
    by_cases h1 : s.size > 65535
    · have hc : chkB s = 5 := by unfold chkB; rw [if_neg h0, if_pos h1]
      have hb : badB (s :: l.drop (i + 1)) = chkB s := by show (if chkB s = 0 then _ else chkB s) = chkB s; rw [if_neg (by omega)]
      rw [hb, hc, if_pos (by omega)]
      refine Ev.ret fun k => ?_
      simp only [juratref10_New.l0]
      rw [if_pos (by omega), if_pos (by omega), e, if_neg (fun x => h0 (toList_nil.1 x)), if_pos (by omega)]
    have hc : chkB s = 0 := by unfold chkB; rw [if_neg h0, if_neg h1]
    have hb : badB (s :: l.drop (i + 1)) = badB (l.drop (i + 1)) := if_pos hc
    rw [hb]
    have ht : totalB n (s :: l.drop (i + 1)) = totalB (n + s.size) (l.drop (i + 1)) := rfl
    rw [ht]
    refine Ev.step (f := fun k => juratref10_New.l0 k l ((n + s.size : Nat) : Int) ((i + 1 : Nat) : Int)) (fun k => ?_) (ih (i + 1) (n + s.size) (by omega) (by omega))
    simp only [juratref10_New.l0]
    rw [if_pos (by omega), if_pos (by omega), e, if_neg (fun x => h0 (toList_nil.1 x)), if_neg (by omega), wrap_id (by omega) (by omega), wrap_id (by omega) (by omega)]
    rfl
theorem rnew_ev (l : List ByteArray) : Ev (fun k => juratref10_New.f k l) (newB l) := by
  unfold newB
  by_cases h0 : l.length = 0
  · rw [if_pos h0]
    refine Ev.const fun k => ?_
    unfold juratref10_New.f
    rw [if_pos (by omega)]
  rw [if_neg h0]
  by_cases h1 : l.length > 65535
  · rw [if_pos h1]
    refine Ev.const fun k => ?_
    unfold juratref10_New.f
    rw [if_neg (by omega), if_pos (by omega)]
  rw [if_neg h1]
  have h := rnew_l0 l (by omega) l.length 0 0 (by omega) (by omega)
  rw [List.drop_zero] at h
  refine Ev.congr (fun k => ?_) h
  unfold juratref10_New.f
  rw [if_neg (by omega), if_neg (by omega)]
  rfl

/-- What the document tells of a list. -/
def minB (l : List ByteArray) : Nat := leastB (l.getD 0 ByteArray.empty).size l

end Go.Proofs.Ytekdmkdidnnpbaa.Base

/- Proved here: what Go functions of this seat compute, or a law of it; no condition beyond the statement's own. Written for this claim by a program of this session (wip/myprint.py) over the kit's print.py. -/
namespace Go.Proofs.Ytekdmkdidnnpbaa.P
open Go.RowKit Go.Proofs.YtekdmkdidnnpbaaW.PrintWords Go.Proofs.YtekdmkdidnnpbaaW.PrintLast Go.Proofs.YtekdmkdidnnpbaaW.PrintMore
attribute [local go_sem] max2_int min2_int max_two min_two max_three min_three max_four min_four   -- for this text's walks alone
set_option linter.unusedVariables false
set_option linter.unusedSimpArgs false

/-! ### juratref10_Find: function 48 -/
def juratref10_Find.l0 : Nat → List ByteArray → ByteArray → Int → Option (Int)
  | 0, _, _, _ => none
  | k + 1, x0, x1, x5 => if x5 < (x0.length : Int) then (if 0 ≤ x5 then (if (rdOf ByteArray.empty x0 x5).toList = x1.toList then (some x5) else (juratref10_Find.l0 k x0 x1 (wrap64 (x5 + 1)))) else (none)) else (some (-1))
def juratref10_Find.f (k : Nat) (l0 : List ByteArray) (a1 : ByteArray) : Option (Int) := juratref10_Find.l0 k l0 a1 0
theorem juratref10_Find.mono_l : ∀ k, (∀ y0 y1 y2, LeO (juratref10_Find.l0 k y0 y1 y2) (juratref10_Find.l0 (k + 1) y0 y1 y2))
  | 0 => fun _ _ _ r h => by simp [juratref10_Find.l0] at h
  | k + 1 => by
    have ih0 := juratref10_Find.mono_l k
    · intro y0 y1 y2
      unfold juratref10_Find.l0
      repeat' first
      | (with_reducible exact ih0 _ _ _)
      | (with_reducible exact LeO.refl _)
      | (with_reducible exact LeO.none _)
      | (with_reducible refine LeO.ite ?_ ?_)
      | (with_reducible refine LeO.bind ?_ (fun _ => ?_))
      | exact ih0 _ _ _
      | exact LeO.none _
      | refine LeO.ite ?_ ?_
      | refine LeO.bind ?_ (fun _ => ?_)
theorem juratref10_Find.mono : ∀ a0 a1 k, LeO (juratref10_Find.f k a0 a1) (juratref10_Find.f (k + 1) a0 a1) := by
  intro a0 a1 k
  have ih0 := juratref10_Find.mono_l k
  unfold juratref10_Find.f
  repeat' first
      | (with_reducible exact ih0 _ _ _)
      | (with_reducible exact LeO.refl _)
      | (with_reducible exact LeO.none _)
      | (with_reducible refine LeO.ite ?_ ?_)
      | (with_reducible refine LeO.bind ?_ (fun _ => ?_))
      | exact ih0 _ _ _
      | exact LeO.none _
      | refine LeO.ite ?_ ?_
      | refine LeO.bind ?_ (fun _ => ?_)
set_option maxHeartbeats 8000000 in
set_option maxRecDepth 100000 in
theorem juratref10_Find.calls (k : Nat) (A0 : Option Addr) (c0 : Nat) (l0 : List ByteArray) (a1 : ByteArray) (r : Int) (w : World) (hr0 : Kd.C Kd.string w A0 l0.length l0) (hc0 : l0.length ≤ c0) (h : juratref10_Find.f k l0 a1 = some r) :
    Calls Try.prog 48 #[.slice A0 l0.length c0, .string a1] w fun e w' => e = .returned (.int .i64 r) ∧ Drawn0 w w' := by
  have HR0 := Aside0.mk hr0
  have HC0 := Aside0.mk hc0
  clear hr0 hc0
  have H : (juratref10_Find.l0 k l0 a1 0) = some r := h
  clear h
  have H' := Aside0.mk H
  clear H
  go_enter Try.func48, Try.ntmps48
  go_wp2
  go_loopg [5] k (fun kq v5 w' => ∃ (x5_1 : Int), v5 = .int .i64 x5_1 ∧ Aside0 (juratref10_Find.l0 kq l0 a1 x5_1 = some r) ∧ Aside0 (kq ≤ k) ∧ Drawn0 w w')
  case atStart => exact ⟨(0), (by first | rfl | exact isE_ _ | exact isE2_ _ | (simp; done) | (simp [*]; done)), H', ⟨Nat.le_refl _⟩, by repeat (first | exact Drawn0.refl _ | apply Drawn0.step)⟩
  case round =>
    clear H'
    try clear p2
    obtain ⟨x5_1, rfl, HA, HK1, ⟨m1, rfl⟩⟩ := hrel
    cases gk with
    | zero => exact absurd HA.out (by simp [juratref10_Find.l0])
    | succ k1 =>
      have H := HA.out
      clear HA
      simp only [juratref10_Find.l0] at H
      by_cases c3 : x5_1 < (l0.length : Int)
      · rw [if_pos c3] at H
        have c3b0 : decide (x5_1 < (l0.length : Int)) = true := decide_eq_true c3
        clear c3
        by_cases c4 : 0 ≤ x5_1
        · rw [if_pos c4] at H
          have c4b0 : decide (0 ≤ x5_1) = true := decide_eq_true c4
          clear c4
          by_cases c5 : (rdOf ByteArray.empty l0 x5_1).toList = a1.toList
          · rw [if_pos c5] at H
            have c5b0 : ((rdOf ByteArray.empty l0 x5_1).toList == a1.toList) = true := beq_iff_eq.mpr c5
            have c5b1 : ((rdOf ByteArray.empty l0 x5_1).toList != a1.toList) = false := bne_eq_false_iff_eq.mpr c5
            clear c5
            obtain rfl := Option.some.inj H
            have p483 : 0 ≤ (x5_1 : Int) := of_decide_eq_true (by first | (with_reducible assumption) | assumption)
            have q483 : x5_1 < (l0.length : Int) := of_decide_eq_true (by first | (with_reducible assumption) | assumption)
            obtain ⟨ad483, e483, hx483_0⟩ := Kd.at_string HR0.out x5_1 p483 q483
            cases e483
            replace p483 := eq_true p483
            replace q483 := eq_true q483
            go_wp2
            go_ret
            exact ⟨by first | rfl | (simp; done) | (simp [*]; done), by repeat (first | exact Drawn0.refl _ | apply Drawn0.step)⟩
          · rw [if_neg c5] at H
            have c5b0 : ((rdOf ByteArray.empty l0 x5_1).toList == a1.toList) = false := beq_eq_false_iff_ne.mpr c5
            have c5b1 : ((rdOf ByteArray.empty l0 x5_1).toList != a1.toList) = true := bne_iff_ne.mpr c5
            have H' := Aside0.mk H
            clear H
            have p483 : 0 ≤ (x5_1 : Int) := of_decide_eq_true (by first | (with_reducible assumption) | assumption)
            have q483 : x5_1 < (l0.length : Int) := of_decide_eq_true (by first | (with_reducible assumption) | assumption)
            obtain ⟨ad483, e483, hx483_0⟩ := Kd.at_string HR0.out x5_1 p483 q483
            cases e483
            replace p483 := eq_true p483
            replace q483 := eq_true q483
            go_wp2
            go_roundg k1
            case measure => have := HK1.out; omega
            case rel => exact ⟨(wrap64 (x5_1 + 1)), (by first | rfl | exact isE_ _ | exact isE2_ _ | (simp; done) | (simp [*]; done)), H', ⟨by have := HK1.out; omega⟩, by repeat (first | exact Drawn0.refl _ | apply Drawn0.step)⟩
        · rw [if_neg c4] at H
          exact absurd H (by simp)
      · rw [if_neg c3] at H
        have c3b0 : decide (x5_1 < (l0.length : Int)) = false := decide_eq_false c3
        clear c3
        obtain rfl := Option.some.inj H
        go_wp2
        go_ret
        exact ⟨by first | rfl | (simp; done) | (simp [*]; done), by repeat (first | exact Drawn0.refl _ | apply Drawn0.step)⟩

end Go.Proofs.Ytekdmkdidnnpbaa.P

/- What layer 10's reference computes, as plain functions on lists of texts, and that layer 10's set is it; no condition beyond the sizes that stand in each statement. -/
namespace Go.Proofs.Ytekdmkdidnnpbaa.Base
open Go Go.RowKit Go.Proofs.YtekdmkdidnnpbaaW.PrintWords Go.Proofs.YtekdmkdidnnpbaaW.PrintMore Go.Proofs.Ytekdmkdidnnpbaa.P
set_option linter.unusedVariables false

/-- Where a text stands first; -1: nowhere. -/
def findB (s : ByteArray) : List ByteArray → Nat → Int
  | [], _ => -1
  | x :: l, i => if x = s then (i : Int) else findB s l (i + 1)
theorem rfind_l0 (l : List ByteArray) (s : ByteArray) (hl : l.length ≤ 9223372036854775806) : ∀ (d i : Nat), i + d = l.length →
    Ev (fun k => juratref10_Find.l0 k l s (i : Int)) (findB s (l.drop i) i) := by
  intro d
  induction d with
  | zero =>
    intro i hi
    rw [List.drop_of_length_le (by omega)]
    refine Ev.ret fun k => ?_
    simp only [juratref10_Find.l0]
    rw [if_neg (by omega)]
    rfl
  | succ d ih =>
    intro i hi
    have hd := getD_drop l i ByteArray.empty (by omega)
    have e : rdOf ByteArray.empty l (i : Int) = l.getD i ByteArray.empty := rfl
    rw [hd]
    by_cases h : l.getD i ByteArray.empty = s
    · have hf : findB s (l.getD i ByteArray.empty :: l.drop (i + 1)) i = (i : Int) := if_pos h
      rw [hf]
      refine Ev.ret fun k => ?_
      simp only [juratref10_Find.l0]
      rw [if_pos (by omega), if_pos (by omega), e, if_pos (toList_iff.2 h)]
    · have hf : findB s (l.getD i ByteArray.empty :: l.drop (i + 1)) i = findB s (l.drop (i + 1)) (i + 1) := if_neg h
      rw [hf]
      refine Ev.step (f := fun k => juratref10_Find.l0 k l s ((i + 1 : Nat) : Int)) (fun k => ?_) (ih (i + 1) (by omega))
      simp only [juratref10_Find.l0]
      rw [if_pos (by omega), if_pos (by omega), e, if_neg (fun x => h (toList_iff.1 x)), wrap_id (by omega) (by omega)]
      rfl
theorem rfind10_ev (l : List ByteArray) (s : ByteArray) (hl : l.length ≤ 9223372036854775806) : Ev (fun k => juratref10_Find.f k l s) (findB s l 0) := by
  have h := rfind_l0 l s hl l.length 0 (by omega)
  rw [List.drop_zero] at h
  exact h

end Go.Proofs.Ytekdmkdidnnpbaa.Base

/- What is told of a set of patterns, of the list in order and of the list as it came; layer 10's examples; no condition beyond the sizes that stand in each statement. -/
namespace Go.Proofs.Ytekdmkdidnnpbaa.Base
open Go Go.RowKit Go.Proofs.YtekdmkdidnnpbaaW.PrintWords Go.Proofs.YtekdmkdidnnpbaaW.PrintMore Go.Proofs.Ytekdmkdidnnpbaa.P
set_option linter.unusedVariables false

theorem findB_up (s : ByteArray) : ∀ (l : List ByteArray) (i : Nat), upB l → findB s l i = if inB s l = true then ((i + aheadB s l : Nat) : Int) else -1
  | [], i, _ => rfl
  | x :: l, i, h => by
    obtain ⟨h1, h2⟩ := List.pairwise_cons.1 h
    have ih := findB_up s l (i + 1) h2
    have ef : findB s (x :: l) i = if x = s then (i : Int) else findB s l (i + 1) := rfl
    rw [ef]
    by_cases hx : x = s
    · subst hx
      rw [if_pos rfl, if_pos (inB_iff.2 List.mem_cons_self), aheadB_none x (x :: l) (fun y hy => by
        rcases List.mem_cons.1 hy with rfl | hy
        · exact bl_irrefl _
        · exact h1 y hy)]
      rfl
    · rw [if_neg hx, inB_cons, decide_eq_false hx, Bool.false_or, ih]
      cases hb : Op.bytesLess (LL x) (LL s) with
      | true =>
        have e : aheadB s (x :: l) = aheadB s l + 1 := by unfold aheadB; rw [List.countP_cons_of_pos (by simpa using hb)]
        rw [e, show i + 1 + aheadB s l = i + (aheadB s l + 1) by omega]
      | false =>
        have hn : ¬ inB s l = true := fun hi => by
          rcases bl_tri (LL x) (LL s) with h' | h' | h'
          · exact hx (LL_inj h')
          · rw [hb] at h'; cases h'
          · rw [h1 s (inB_iff.1 hi)] at h'; cases h'
        rw [if_neg hn, if_neg hn]
theorem fold_perm {β : Type} (f : β → ByteArray → β) (hc : ∀ a x y, f (f a x) y = f (f a y) x) {l m : List ByteArray} (h : l.Perm m) : ∀ a, l.foldl f a = m.foldl f a := by
  induction h with
  | nil => intro a; rfl
  | cons x _ ih => intro a; exact ih _
  | swap x y l => intro a; simp only [List.foldl_cons]; rw [hc]
  | trans _ _ ih1 ih2 => intro a; rw [ih1, ih2]
theorem total_perm {l m : List ByteArray} (h : l.Perm m) : totalB 0 l = totalB 0 m := fold_perm _ (fun a x y => by omega) h 0
theorem most_perm {l m : List ByteArray} (h : l.Perm m) : mostB 0 l = mostB 0 m := fold_perm _ (fun a x y => by omega) h 0
theorem least_spec : ∀ (l : List ByteArray) (a : Nat), leastB a l ≤ a ∧ (∀ s ∈ l, leastB a l ≤ s.size) ∧ (leastB a l = a ∨ ∃ s ∈ l, leastB a l = s.size)
  | [], a => ⟨Nat.le_refl _, by simp, .inl rfl⟩
  | x :: l, a => by
    obtain ⟨h1, h2, h3⟩ := least_spec l (min a x.size)
    have e : leastB a (x :: l) = leastB (min a x.size) l := rfl
    rw [e]
    refine ⟨by omega, fun s hs => ?_, ?_⟩
    · rcases List.mem_cons.1 hs with rfl | hs
      · omega
      · exact h2 s hs
    · rcases h3 with h3 | ⟨s, hs, h3⟩
      · by_cases ha : a ≤ x.size
        · left; omega
        · right; exact ⟨x, List.mem_cons_self, by omega⟩
      · right; exact ⟨s, List.mem_cons_of_mem _ hs, h3⟩
theorem min_spec (l : List ByteArray) (h : 0 < l.length) : (∀ s ∈ l, minB l ≤ s.size) ∧ ∃ s ∈ l, minB l = s.size := by
  obtain ⟨h1, h2, h3⟩ := least_spec l (l.getD 0 ByteArray.empty).size
  refine ⟨h2, ?_⟩
  rcases h3 with h3 | h3
  · exact ⟨_, getD_mem l 0 ByteArray.empty h, h3⟩
  · exact h3
theorem min_perm {l m : List ByteArray} (h : l.Perm m) (h0 : 0 < l.length) : minB l = minB m := by
  obtain ⟨a1, s, hs, a2⟩ := min_spec l h0
  obtain ⟨b1, t, ht, b2⟩ := min_spec m (by rw [← h.length_eq]; exact h0)
  have := a1 t (h.mem_iff.2 ht)
  have := b1 s (h.mem_iff.1 hs)
  omega

/-- A set that is made of texts. -/
def setB (l : List ByteArray) : SetD := ⟨sortB l, (minB l : Nat), (mostB 0 l : Nat), (totalB 0 l : Nat)⟩
theorem new_cases (l : List ByteArray) :
    (∃ e, e ≠ 0 ∧ pats_New.f l = some (none, e) ∧ newB l = ([], e)) ∨
    (pats_New.f l = some (some (setB l), 0) ∧ newB l = (sortB l, 0) ∧ 0 < l.length ∧ l.length ≤ 65535 ∧ badB l = 0 ∧ totalB 0 l ≤ 16777216 ∧ twB [] l 0 < 0) := by
  unfold pats_New.f newB
  by_cases h0 : l.length = 0
  · exact .inl ⟨14, by decide, by rw [if_pos h0], by rw [if_pos h0]⟩
  by_cases h1 : l.length > 65535
  · exact .inl ⟨6, by decide, by rw [if_neg h0, if_pos h1], by rw [if_neg h0, if_pos h1]⟩
  by_cases h2 : badB l ≠ 0
  · exact .inl ⟨_, h2, by rw [if_neg h0, if_neg h1, if_pos h2], by rw [if_neg h0, if_neg h1, if_pos h2]⟩
  by_cases h3 : totalB 0 l > 16777216
  · exact .inl ⟨13, by decide, by rw [if_neg h0, if_neg h1, if_neg h2, if_pos h3], by rw [if_neg h0, if_neg h1, if_neg h2, if_pos h3]⟩
  by_cases h4 : twB [] l 0 ≥ 0
  · exact .inl ⟨8, by decide, by rw [if_neg h0, if_neg h1, if_neg h2, if_neg h3, if_pos h4], by rw [if_neg h0, if_neg h1, if_neg h2, if_neg h3, if_pos h4]⟩
  refine .inr ⟨by rw [if_neg h0, if_neg h1, if_neg h2, if_neg h3, if_neg h4]; rfl, by rw [if_neg h0, if_neg h1, if_neg h2, if_neg h3, if_neg h4], by omega, by omega, Classical.not_not.1 h2, by omega, by omega⟩


end Go.Proofs.Ytekdmkdidnnpbaa.Base

/- A number under a mask; no condition beyond those in the statement. -/
namespace Go.Proofs.Ytekdmkdidnnpbaa.Base
open Go Go.RowKit Go.Proofs.YtekdmkdidnnpbaaW.PrintWords Go.Proofs.YtekdmkdidnnpbaaW.PrintLast Go.Proofs.YtekdmkdidnnpbaaW.PrintMore

theorem bits_and_mask (x : Int) (m : Nat) (hm : m < 9223372036854775808) : 0 ≤ Go.bits .and .i64 x (m : Int) ∧ Go.bits .and .i64 x (m : Int) ≤ m := by
  have h : Go.bits .and .i64 x (m : Int) = IntKind.i64.wrap (((BitVec.ofInt 64 x &&& BitVec.ofInt 64 (m : Int)).toNat : Int)) := rfl
  have h2 : (BitVec.ofInt 64 x &&& BitVec.ofInt 64 (m : Int)).toNat ≤ m := by
    rw [BitVec.toNat_and]
    refine Nat.le_trans Nat.and_le_right ?_
    rw [BitVec.toNat_ofInt]
    omega
  rw [h, i64_w, wrap_id (by omega) (by omega)]
  omega

end Go.Proofs.Ytekdmkdidnnpbaa.Base

/- Sets of the same patterns are one, in whatever order these come; a pattern is found by its number; no condition beyond the sizes that stand in each statement. -/
namespace Go.Proofs.Ytekdmkdidnnpbaa.Base
open Go Go.RowKit Go.Proofs.YtekdmkdidnnpbaaW.PrintWords Go.Proofs.YtekdmkdidnnpbaaW.PrintLast Go.Proofs.YtekdmkdidnnpbaaW.PrintMore Go.Proofs.Ytekdmkdidnnpbaa.P
set_option linter.unusedVariables false

theorem twB_iff : ∀ (l seen : List ByteArray) (i : Nat), twB seen l i < 0 ↔ (l.Nodup ∧ ∀ x ∈ l, ¬ inB x seen = true)
  | [], seen, i => by simp [twB]
  | x :: l, seen, i => by
    simp only [twB]
    by_cases h : inB x seen = true
    · rw [if_pos h]
      constructor
      · intro h'; omega
      · rintro ⟨_, h'⟩; exact absurd h (h' x List.mem_cons_self)
    · rw [if_neg h, twB_iff l (seen ++ [x]) (i + 1), List.nodup_cons]
      constructor
      · rintro ⟨h1, h2⟩
        refine ⟨⟨fun hx => ?_, h1⟩, fun y hy => ?_⟩
        · have := h2 x hx
          rw [inB_snoc] at this
          simp at this
        · rcases List.mem_cons.1 hy with rfl | hy
          · exact h
          · have := h2 y hy
            rw [inB_snoc] at this
            intro h3
            rw [h3] at this
            simp at this
      · rintro ⟨⟨h1, h2⟩, h3⟩
        refine ⟨h2, fun y hy => ?_⟩
        rw [inB_snoc]
        intro h4
        rcases Bool.or_eq_true_iff.1 h4 with h4 | h4
        · exact h3 y (List.mem_cons_of_mem _ hy) h4
        · exact h1 (by rw [of_decide_eq_true h4]; exact hy)
theorem nodup_of_tw {l : List ByteArray} (h : twB [] l 0 < 0) : l.Nodup := ((twB_iff l [] 0).1 h).1
theorem tw_of_nodup {l : List ByteArray} (h : l.Nodup) : twB [] l 0 < 0 := (twB_iff l [] 0).2 ⟨h, fun x _ => by simp [inB]⟩
theorem badB_iff : ∀ (l : List ByteArray), badB l = 0 ↔ ∀ s ∈ l, chkB s = 0
  | [] => by simp [badB]
  | s :: l => by
    simp only [badB]
    by_cases h : chkB s = 0
    · rw [if_pos h, badB_iff l]
      simp [h]
    · rw [if_neg h]
      simp [h]
theorem setB_perm {l m : List ByteArray} (h : l.Perm m) (h0 : 0 < l.length) : setB l = setB m := by
  have e : sortB l = sortB m := sortB_of ((sortB_perm l).trans h) (sortB_up l)
  unfold setB
  rw [e, min_perm h h0, most_perm h, total_perm h]
/-- Texts that make a set make it in any order. -/
theorem new_perm {l m : List ByteArray} (h : l.Perm m) (hp : 0 < l.length) (h1 : l.length ≤ 65535) (h2 : badB l = 0) (h3 : totalB 0 l ≤ 16777216) (h4 : twB [] l 0 < 0) :
    pats_New.f m = some (some (setB l), 0) := by
  have e := h.length_eq
  rcases new_cases m with ⟨c, hc, hn, hw⟩ | ⟨hn, _⟩
  · exfalso
    unfold pats_New.f at hn
    have b2 : badB m = 0 := (badB_iff m).2 fun s hs => (badB_iff l).1 h2 s (h.mem_iff.2 hs)
    have b4 := tw_of_nodup ((h.nodup_iff).1 (nodup_of_tw h4))
    rw [if_neg (by omega), if_neg (by omega), if_neg (by rw [b2]; simp), if_neg (by rw [← total_perm h]; omega), if_neg (by omega)] at hn
    have := (Prod.mk.inj (Option.some.inj hn)).1
    cases this
  · rw [hn, setB_perm h hp]
theorem findB_mem (s : ByteArray) : ∀ (l : List ByteArray) (i : Nat), s ∈ l → ∃ n, findB s l i = ((i + n : Nat) : Int) ∧ n < l.length ∧ l.getD n ByteArray.empty = s
  | [], i, h => by cases h
  | x :: l, i, h => by
    have ef : findB s (x :: l) i = if x = s then (i : Int) else findB s l (i + 1) := rfl
    rw [ef]
    by_cases hx : x = s
    · rw [if_pos hx]
      exact ⟨0, rfl, by simp, by simpa using hx⟩
    · rw [if_neg hx]
      rcases List.mem_cons.1 h with rfl | h
      · exact absurd rfl hx
      · obtain ⟨n, h1, h2, h3⟩ := findB_mem s l (i + 1) h
        exact ⟨n + 1, by rw [h1]; congr 1; omega, by rw [List.length_cons]; omega, by rw [List.getD_cons_succ]; exact h3⟩
theorem list_is (l : List ByteArray) (h : l.length ≤ 65535) : pats_Set_List.f (some (setB l)) = some (sortB l) := by
  show (if (sortB l).length ≤ 8796093022208 then some (sortB l) else none) = _
  rw [if_pos (by rw [sortB_length]; omega)]
end Go.Proofs.Ytekdmkdidnnpbaa.Base

/- A set of texts and its list, made or not, told together; no condition beyond the sizes that stand in each statement. -/
namespace Go.Proofs.Ytekdmkdidnnpbaa.Base
open Go Go.RowKit Go.Proofs.YtekdmkdidnnpbaaW.PrintWords Go.Proofs.YtekdmkdidnnpbaaW.PrintMore Go.Proofs.Ytekdmkdidnnpbaa.P
set_option linter.unusedVariables false

/-- What is made of texts: a set or none, its list, why there is none. -/
structure SetOk (l : List ByteArray) (x : Option SetD) (w : List ByteArray) (e : Int) : Prop where
  hn : pats_New.f l = some (x, e)
  hw : newB l = (w, e)
  hL : setL x = w
  hM : setM x = minB w
  mem : ∀ s ∈ w, s ∈ l
  len : w.length ≤ l.length
  few : w.length ≤ 65535
  size : ∀ s ∈ w, s.size ≤ 65535
  up : upB w
  pos : ∀ s ∈ w, 0 < s.size
  nodup : w.Nodup
  kind : (e = 0 ∧ 0 < w.length ∧ x = some (setB l) ∧ w = sortB l ∧ w.length = l.length) ∨ (e ≠ 0 ∧ x = none ∧ w = [])
theorem chkB_pos {s : ByteArray} (h : chkB s = 0) : 0 < s.size ∧ s.size ≤ 65535 := by
  unfold chkB at h
  by_cases h1 : s.size = 0
  · rw [if_pos h1] at h; omega
  · rw [if_neg h1] at h
    by_cases h2 : s.size > 65535
    · rw [if_pos h2] at h; omega
    · omega
theorem set_ok (l : List ByteArray) : ∃ x w e, SetOk l x w e := by
  rcases new_cases l with ⟨e, he, hn, hw⟩ | ⟨hn, hw, hp, hl, hb, ht, hd⟩
  · exact ⟨none, [], e, hn, hw, rfl, rfl, by simp, by simp, by simp, by simp, List.Pairwise.nil, by simp, List.nodup_nil, .inr ⟨he, rfl, rfl⟩⟩
  · have hm := fun s => (sortB_perm l).mem_iff (a := s)
    have hlen := sortB_length l
    refine ⟨some (setB l), sortB l, 0, hn, hw, rfl, ?_, fun s hs => (hm s).1 hs, by omega, by omega, fun s hs => (chkB_pos ((badB_iff l).1 hb s ((hm s).1 hs))).2, sortB_up l, fun s hs => (chkB_pos ((badB_iff l).1 hb s ((hm s).1 hs))).1, ((sortB_perm l).nodup_iff).2 (nodup_of_tw hd), .inl ⟨rfl, by omega, rfl, rfl, by omega⟩⟩
    show ((minB l : Nat) : Int) = _
    rw [min_perm (sortB_perm l).symm hp]
theorem min_le {w : List ByteArray} : ∀ s ∈ w, minB w ≤ s.size := fun s hs => (min_spec w (List.length_pos_of_mem hs)).1 s hs
theorem list_ok {l w : List ByteArray} {x : Option SetD} {e : Int} (h : SetOk l x w e) : pats_Set_List.f x = some w := by
  rcases h.kind with ⟨_, _, rfl, rfl, _⟩ | ⟨_, rfl, rfl⟩
  · exact list_is l (by have := h.few; rw [sortB_length] at this; exact this)
  · rfl
theorem rnew_ok {l w : List ByteArray} {x : Option SetD} {e : Int} (h : SetOk l x w e) : Ev (fun k => juratref10_New.f k l) (w, e) := by
  have := rnew_ev l
  rw [h.hw] at this
  exact this

end Go.Proofs.Ytekdmkdidnnpbaa.Base

/- Layer 15's hits are the reference's; no condition beyond the sizes that stand in each statement. -/
namespace Go.Proofs.Ytekdmkdidnnpbaa.Base
open Go Go.RowKit Go.Lib Go.Proofs.YtekdmkdidnnpbaaW.PrintWords Go.Proofs.YtekdmkdidnnpbaaW.PrintMore Go.Proofs.Ytekdmkdidnnpbaa.P
set_option linter.unusedVariables false

/-- The ends at which a pattern stands. -/
def endsOf (p s : ByteArray) : List Nat := (List.range (s.size + 1)).filter fun e => standsE p s e
theorem stS_stands (p s : ByteArray) (e : Nat) (he : e ≤ s.size) : decide (stS s p e = p.size) = standsE p s e := by
  rw [Bool.eq_iff_iff, decide_eq_true_iff, stS_iff s p e he, standsE_iff]
  constructor
  · rintro ⟨h1, h2⟩
    refine ⟨h1, (stands_extract (by omega)).1 ?_⟩
    rw [show e - p.size + p.size = e by omega, h2]
  · rintro ⟨h1, h2⟩
    refine ⟨h1, ?_⟩
    have h3 := (stands_extract (s := s) (t := p) (i := e - p.size) (by omega)).2 h2
    rw [show e - p.size + p.size = e by omega] at h3
    exact toList_iff.1 h3
theorem raw_one (p s : ByteArray) (i : Nat) (hp : 0 < p.size) (hs : s.size ≤ 1048575) : (findS s p).map (hitAt p i) = (endsOf p s).map fun e : Nat => (⟨(e : Int), (i : Int)⟩ : HitS) := by
  unfold findS endsOf
  rw [if_neg (by omega), List.map_map, List.filter_congr (q := fun e => standsE p s e) (fun e he => by rw [List.mem_range] at he; exact stS_stands p s e (by omega))]
  apply List.map_congr_left
  intro e he
  have h1 := (List.mem_filter.1 he).1
  rw [List.mem_range] at h1
  show (⟨wrap64 ((e : Int) - (p.size : Int) + (p.size : Int)), (i : Int)⟩ : HitS) = _
  rw [show (e : Int) - (p.size : Int) + (p.size : Int) = (e : Int) by omega, wrap_id (by omega) (by omega)]
theorem raw_mem {s : ByteArray} (hs : s.size ≤ 1048575) {h : HitS} : ∀ (l : List ByteArray) (i : Nat), (∀ p ∈ l, 0 < p.size) →
    (h ∈ rawF s l i ↔ ∃ a j, a ≤ s.size ∧ j < l.length ∧ h = (⟨((a : Nat) : Int), ((i + j : Nat) : Int)⟩ : HitS) ∧ standsE (l.getD j ByteArray.empty) s a = true)
  | [], i, _ => by simp [rawF]
  | p :: l, i, hp => by
    have ih := raw_mem hs (h := h) l (i + 1) (fun q hq => hp q (List.mem_cons_of_mem _ hq))
    simp only [rawF, List.mem_append]
    rw [raw_one p s i (hp p List.mem_cons_self) hs, ih]
    constructor
    · rintro (hm | ⟨a, j, h1, h2, h3, h4⟩)
      · obtain ⟨e, he, rfl⟩ := List.mem_map.1 hm
        obtain ⟨h1, h2⟩ := List.mem_filter.1 he
        rw [List.mem_range] at h1
        exact ⟨e, 0, by omega, by simp, rfl, by rw [List.getD_cons_zero]; exact h2⟩
      · exact ⟨a, j + 1, h1, by rw [List.length_cons]; omega, by rw [h3, show i + 1 + j = i + (j + 1) by omega], by rw [List.getD_cons_succ]; exact h4⟩
    · rintro ⟨a, j, h1, h2, h3, h4⟩
      cases j with
      | zero =>
        refine .inl (List.mem_map.2 ⟨a, List.mem_filter.2 ⟨List.mem_range.2 (by omega), ?_⟩, h3.symm⟩)
        rw [List.getD_cons_zero] at h4
        exact h4
      | succ j =>
        rw [List.getD_cons_succ] at h4
        exact .inr ⟨a, j, h1, by rw [List.length_cons] at h2; omega, by rw [h3, show i + 1 + j = i + (j + 1) by omega], h4⟩
theorem raw_nodup {s : ByteArray} (hs : s.size ≤ 1048575) : ∀ (l : List ByteArray) (i : Nat), (∀ p ∈ l, 0 < p.size) → (rawF s l i).Nodup
  | [], i, _ => List.nodup_nil
  | p :: l, i, hp => by
    have ih := raw_nodup hs l (i + 1) (fun q hq => hp q (List.mem_cons_of_mem _ hq))
    simp only [rawF]
    rw [raw_one p s i (hp p List.mem_cons_self) hs]
    refine List.nodup_append.2 ⟨?_, ih, ?_⟩
    · unfold endsOf
      have h0 : ((List.range (s.size + 1)).filter fun e => standsE p s e).Nodup := List.nodup_range.filter _
      refine List.pairwise_map.2 (List.Pairwise.imp ?_ h0)
      intro a b hab he
      injection he with h1 h2
      exact hab (by omega)
    · intro x hx y hy he
      subst he
      obtain ⟨e, _, rfl⟩ := List.mem_map.1 hx
      obtain ⟨a, j, _, _, h3, _⟩ := (raw_mem hs l (i + 1) (fun q hq => hp q (List.mem_cons_of_mem _ hq))).1 hy
      injection h3 with h4 h5
      omega
instance : DecidableEq HitS := fun a b => decidable_of_iff (a.f0 = b.f0 ∧ a.f1 = b.f1) ⟨fun h => by obtain ⟨a0, a1⟩ := a; obtain ⟨b0, b1⟩ := b; simp only at h; rw [h.1, h.2], fun h => by rw [h]; exact ⟨rfl, rfl⟩⟩
theorem less_irrefl (a : HitS) : lessH a a = false := by rw [lessH_not]; omega
theorem up_nodup {l : List HitS} (h : l.Pairwise (fun a b => lessH a b = true)) : l.Nodup := h.imp (fun {a b} hab he => by subst he; rw [less_irrefl] at hab; cases hab)
/-- Rising lists of the same hits are the same. -/
theorem rise_unique : ∀ {l m : List HitS}, l.Perm m → l.Pairwise (fun a b => lessH b a = false) → m.Pairwise (fun a b => lessH b a = false) → l = m
  | [], m, h, _, _ => (List.Perm.nil_eq h)
  | a :: l, [], h, _, _ => absurd h.length_eq (by simp)
  | a :: l, b :: m, h, hl, hm => by
    obtain ⟨hl1, hl2⟩ := List.pairwise_cons.1 hl
    obtain ⟨hm1, hm2⟩ := List.pairwise_cons.1 hm
    have e : a = b := by
      have ha : a ∈ b :: m := h.mem_iff.1 List.mem_cons_self
      have hb : b ∈ a :: l := h.mem_iff.2 List.mem_cons_self
      rcases List.mem_cons.1 ha with rfl | ha
      · rfl
      rcases List.mem_cons.1 hb with rfl | hb
      · rfl
      have g1 := hm1 a ha
      have g2 := hl1 b hb
      exact totH a b (by rw [ltH]; exact g1) (by rw [ltH]; exact g2)
    subst e
    rw [rise_unique (List.Perm.cons_inv h) hl2 hm2]
theorem sortH_up (l : List HitS) : (sortH l).Pairwise (fun a b => lessH b a = false) := by
  have h := List.pairwise_mergeSort (le := fun x y : HitS => !(Go.Proofs.ltOf cfH) y x) (fun a b c h1 h2 => by
      simp only [Bool.not_eq_true'] at h1 h2 ⊢
      exact swoH.ntrans _ _ _ h2 h1) (fun a b => by
      rw [ltH, ltH]
      cases h1 : lessH b a
      · simp
      · have : lessH a b = false := by
          rw [lessH_iff] at h1
          rw [lessH_not]
          omega
        simp [this]) l
  exact h.imp (fun h => by rw [← ltH]; simpa using h)
theorem all_is {l w : List ByteArray} {x : Option SetD} {e : Int} (h : SetOk l x w e) (s : ByteArray) (hs : s.size ≤ 1048575) : occ_All.f x s = some (hitsB w s) := by
  unfold occ_All.f
  rw [h.hL, if_pos ⟨h.few, hs, fun t ht => by have := h.size t ht; omega⟩]
  congr 1
  have hu := hitsF_up15 w s (s.size + 1) 0
  refine rise_unique ((List.mergeSort_perm _ _).trans ?_) (sortH_up _) (hu.imp (fun {a b} hab => by rw [lessH_iff] at hab; rw [lessH_not]; omega))
  refine (List.perm_ext_iff_of_nodup (raw_nodup hs w 0 h.pos) (up_nodup hu)).2 (fun y => ?_)
  rw [raw_mem hs w 0 h.pos, hitsB_mem]
  simp only [Nat.zero_add]
theorem awake15 : Ev (fun k => juratlaw15_awake.f k) true := by
  obtain ⟨x, w, e, h⟩ := set_ok [(⟨#[97]⟩ : ByteArray), (⟨#[97, 98, 97]⟩ : ByteArray)]
  have hn : pats_New.f [(⟨#[97]⟩ : ByteArray), (⟨#[97, 98, 97]⟩ : ByteArray)] = some (some (⟨[(⟨#[97]⟩ : ByteArray), (⟨#[97, 98, 97]⟩ : ByteArray)], 1, 3, 4⟩ : SetD), 0) := by
    have hs : sortB [(⟨#[97]⟩ : ByteArray), (⟨#[97, 98, 97]⟩ : ByteArray)] = [(⟨#[97]⟩ : ByteArray), (⟨#[97, 98, 97]⟩ : ByteArray)] := (sortB_of (List.Perm.refl _) (by decide)).symm
    unfold pats_New.f
    rw [hs]
    rfl
  have hh := h.hn
  rw [hn] at hh
  obtain ⟨hx, he⟩ := Prod.mk.inj (Option.some.inj hh)
  have hw : w = [(⟨#[97]⟩ : ByteArray), (⟨#[97, 98, 97]⟩ : ByteArray)] := by rw [← h.hL, ← hx]; rfl
  have ha := all_is h (⟨#[97, 98, 97, 98, 97]⟩ : ByteArray) (by decide)
  rw [← hx, hw] at ha
  have hb : hitsB [(⟨#[97]⟩ : ByteArray), (⟨#[97, 98, 97]⟩ : ByteArray)] (⟨#[97, 98, 97, 98, 97]⟩ : ByteArray) = [(⟨1, 0⟩ : HitS), ⟨3, 0⟩, ⟨3, 1⟩, ⟨5, 0⟩, ⟨5, 1⟩] := by decide +kernel
  rw [hb] at ha
  have hy : occ_Any.f (some (⟨[(⟨#[97]⟩ : ByteArray), (⟨#[97, 98, 97]⟩ : ByteArray)], 1, 3, 4⟩ : SetD)) (⟨#[120, 97]⟩ : ByteArray) = some true := by
    unfold occ_Any.f
    rw [if_pos ⟨by decide, by decide, fun s hs => by
      simp only [setL, List.mem_cons, List.not_mem_nil, or_false] at hs
      rcases hs with rfl | rfl <;> decide⟩]
    congr 1
  unfold juratlaw15_awake.f
  refine Ev.bind (Ev.const fun _ => hn) (Ev.congr (fun k => if_pos rfl) ?_)
  refine Ev.bind (Ev.const fun _ => ha) ?_
  refine Ev.bind (Ev.of (juratref15_Same.mono _ _) (k := 12) (r := true) (by decide +kernel)) (Ev.congr (fun k => if_pos rfl) ?_)
  exact Ev.bind (Ev.const fun _ => hy) (Ev.now true)

end Go.Proofs.Ytekdmkdidnnpbaa.Base

/- Proved here: what Go functions of this seat compute, or a law of it; no condition beyond the statement's own. Written for this claim by a program of this session (wip/myprint.py) over the kit's print.py. -/
namespace Go.Proofs.Ytekdmkdidnnpbaa.P
open Go.RowKit Go.Proofs.YtekdmkdidnnpbaaW.PrintWords Go.Proofs.YtekdmkdidnnpbaaW.PrintLast Go.Proofs.YtekdmkdidnnpbaaW.PrintMore
attribute [local go_sem] max2_int min2_int max_two min_two max_three min_three max_four min_four   -- for this text's walks alone
set_option linter.unusedVariables false
set_option linter.unusedSimpArgs false

/-! ### juratref09_Prefix: function 80 -/
def juratref09_Prefix.l0 : Nat → ByteArray → ByteArray → Int → Option (Int)
  | 0, _, _, _ => none
  | k + 1, x0, x1, x5 => if x5 < (x0.size : Int) then (if x5 < (x1.size : Int) then (if 0 ≤ x5 then (if (bt x0 x5) = (bt x1 x5) then (juratref09_Prefix.l0 k x0 x1 (wrap64 (x5 + 1))) else (some x5)) else (none)) else (some x5)) else (some x5)
def juratref09_Prefix.f (k : Nat) (a0 : ByteArray) (a1 : ByteArray) : Option (Int) := juratref09_Prefix.l0 k a0 a1 0
theorem juratref09_Prefix.mono_l : ∀ k, (∀ y0 y1 y2, LeO (juratref09_Prefix.l0 k y0 y1 y2) (juratref09_Prefix.l0 (k + 1) y0 y1 y2))
  | 0 => fun _ _ _ r h => by simp [juratref09_Prefix.l0] at h
  | k + 1 => by
    have ih0 := juratref09_Prefix.mono_l k
    · intro y0 y1 y2
      unfold juratref09_Prefix.l0
      repeat' first
      | (with_reducible exact ih0 _ _ _)
      | (with_reducible exact LeO.refl _)
      | (with_reducible exact LeO.none _)
      | (with_reducible refine LeO.ite ?_ ?_)
      | (with_reducible refine LeO.bind ?_ (fun _ => ?_))
      | exact ih0 _ _ _
      | exact LeO.none _
      | refine LeO.ite ?_ ?_
      | refine LeO.bind ?_ (fun _ => ?_)
theorem juratref09_Prefix.mono : ∀ a0 a1 k, LeO (juratref09_Prefix.f k a0 a1) (juratref09_Prefix.f (k + 1) a0 a1) := by
  intro a0 a1 k
  have ih0 := juratref09_Prefix.mono_l k
  unfold juratref09_Prefix.f
  repeat' first
      | (with_reducible exact ih0 _ _ _)
      | (with_reducible exact LeO.refl _)
      | (with_reducible exact LeO.none _)
      | (with_reducible refine LeO.ite ?_ ?_)
      | (with_reducible refine LeO.bind ?_ (fun _ => ?_))
      | exact ih0 _ _ _
      | exact LeO.none _
      | refine LeO.ite ?_ ?_
      | refine LeO.bind ?_ (fun _ => ?_)
set_option maxHeartbeats 8000000 in
set_option maxRecDepth 100000 in
theorem juratref09_Prefix.calls (k : Nat) (a0 : ByteArray) (a1 : ByteArray) (r : Int) (w : World) (h : juratref09_Prefix.f k a0 a1 = some r) :
    Calls Try.prog 80 #[.string a0, .string a1] w fun e w' => e = .returned (.int .i64 r) ∧ Drawn0 w w' := by
  have H : (juratref09_Prefix.l0 k a0 a1 0) = some r := h
  clear h
  have H' := Aside0.mk H
  clear H
  go_enter Try.func80, Try.ntmps80
  go_wp2
  repeat (go_quiet (fail); try go_wp2)
  go_loopg [5] k (fun kq v5 w' => ∃ (x5_1 : Int), v5 = .int .i64 x5_1 ∧ Aside0 (juratref09_Prefix.l0 kq a0 a1 x5_1 = some r) ∧ Aside0 (kq ≤ k) ∧ Drawn0 w w')
  case atStart => exact ⟨(0), (by first | rfl | exact isE_ _ | exact isE2_ _ | (simp; done) | (simp [*]; done)), H', ⟨Nat.le_refl _⟩, by repeat (first | exact Drawn0.refl _ | apply Drawn0.step)⟩
  case round =>
    clear H'
    try clear p2
    obtain ⟨x5_1, rfl, HA, HK1, ⟨m1, rfl⟩⟩ := hrel
    cases gk with
    | zero => exact absurd HA.out (by simp [juratref09_Prefix.l0])
    | succ k1 =>
      have H := HA.out
      clear HA
      simp only [juratref09_Prefix.l0] at H
      by_cases c3 : x5_1 < (a0.size : Int)
      · rw [if_pos c3] at H
        have c3b0 : decide (x5_1 < (a0.size : Int)) = true := decide_eq_true c3
        clear c3
        by_cases c4 : x5_1 < (a1.size : Int)
        · rw [if_pos c4] at H
          have c4b0 : decide (x5_1 < (a1.size : Int)) = true := decide_eq_true c4
          clear c4
          by_cases c5 : 0 ≤ x5_1
          · rw [if_pos c5] at H
            have c5b0 : decide (0 ≤ x5_1) = true := decide_eq_true c5
            clear c5
            by_cases c8 : (bt a0 x5_1) = (bt a1 x5_1)
            · rw [if_pos c8] at H
              have c8b0 : ((bt a0 x5_1) == (bt a1 x5_1)) = true := beq_iff_eq.mpr c8
              have c8b1 : ((bt a0 x5_1) != (bt a1 x5_1)) = false := bne_eq_false_iff_eq.mpr c8
              clear c8
              have H' := Aside0.mk H
              clear H
              have p6 : 0 ≤ (x5_1 : Int) := of_decide_eq_true (by first | (with_reducible assumption) | assumption)
              have q6 : x5_1 < (a0.size : Int) := of_decide_eq_true (by first | (with_reducible assumption) | assumption)
              have hx6 := bt_at a0 x5_1
              replace p6 := eq_true p6
              replace q6 := eq_true q6
              have p7 : 0 ≤ (x5_1 : Int) := of_decide_eq_true (by first | (with_reducible assumption) | assumption)
              have q7 : x5_1 < (a1.size : Int) := of_decide_eq_true (by first | (with_reducible assumption) | assumption)
              have hx7 := bt_at a1 x5_1
              replace p7 := eq_true p7
              replace q7 := eq_true q7
              go_wp2
              repeat (go_quiet (fail); try go_wp2)
              go_roundg k1
              case measure => have := HK1.out; omega
              case rel => exact ⟨(wrap64 (x5_1 + 1)), (by first | rfl | exact isE_ _ | exact isE2_ _ | (simp; done) | (simp [*]; done)), H', ⟨by have := HK1.out; omega⟩, by repeat (first | exact Drawn0.refl _ | apply Drawn0.step)⟩
            · rw [if_neg c8] at H
              have c8b0 : ((bt a0 x5_1) == (bt a1 x5_1)) = false := beq_eq_false_iff_ne.mpr c8
              have c8b1 : ((bt a0 x5_1) != (bt a1 x5_1)) = true := bne_iff_ne.mpr c8
              obtain rfl := Option.some.inj H
              have p6 : 0 ≤ (x5_1 : Int) := of_decide_eq_true (by first | (with_reducible assumption) | assumption)
              have q6 : x5_1 < (a0.size : Int) := of_decide_eq_true (by first | (with_reducible assumption) | assumption)
              have hx6 := bt_at a0 x5_1
              replace p6 := eq_true p6
              replace q6 := eq_true q6
              have p7 : 0 ≤ (x5_1 : Int) := of_decide_eq_true (by first | (with_reducible assumption) | assumption)
              have q7 : x5_1 < (a1.size : Int) := of_decide_eq_true (by first | (with_reducible assumption) | assumption)
              have hx7 := bt_at a1 x5_1
              replace p7 := eq_true p7
              replace q7 := eq_true q7
              go_wp2
              repeat (go_quiet (fail); try go_wp2)
              go_ret
              exact ⟨by first | rfl | (simp; done) | (simp [*]; done), by repeat (first | exact Drawn0.refl _ | apply Drawn0.step)⟩
          · rw [if_neg c5] at H
            exact absurd H (by simp)
        · rw [if_neg c4] at H
          have c4b0 : decide (x5_1 < (a1.size : Int)) = false := decide_eq_false c4
          clear c4
          obtain rfl := Option.some.inj H
          go_wp2
          repeat (go_quiet (fail); try go_wp2)
          go_ret
          exact ⟨by first | rfl | (simp; done) | (simp [*]; done), by repeat (first | exact Drawn0.refl _ | apply Drawn0.step)⟩
      · rw [if_neg c3] at H
        have c3b0 : decide (x5_1 < (a0.size : Int)) = false := decide_eq_false c3
        clear c3
        obtain rfl := Option.some.inj H
        go_wp2
        repeat (go_quiet (fail); try go_wp2)
        go_ret
        exact ⟨by first | rfl | (simp; done) | (simp [*]; done), by repeat (first | exact Drawn0.refl _ | apply Drawn0.step)⟩

end Go.Proofs.Ytekdmkdidnnpbaa.P

/- What layer 9 and its reference compute beside sorting, as plain functions on lists of bytes; no condition beyond the sizes that stand in each statement. -/
namespace Go.Proofs.Ytekdmkdidnnpbaa.Base
open Go Go.RowKit Go.Proofs.YtekdmkdidnnpbaaW.PrintWords Go.Proofs.YtekdmkdidnnpbaaW.PrintMore Go.Proofs.Ytekdmkdidnnpbaa.P
set_option linter.unusedVariables false

/-! alike at the beginning, at the end -/
theorem rprefix_l0 (a b : ByteArray) (ha : a.size < 4611686018427387904) : ∀ (d i : Nat), i + d = min a.size b.size →
    Ev (fun k => juratref09_Prefix.l0 k a b (i : Int)) (((i + pre ((LL a).drop i) ((LL b).drop i) : Nat)) : Int) := by
  intro d
  induction d with
  | zero =>
    intro i hi
    refine Ev.ret fun k => ?_
    have : pre ((LL a).drop i) ((LL b).drop i) = 0 := by
      have h := pre_le ((LL a).drop i) ((LL b).drop i)
      rw [List.length_drop, List.length_drop, LL_length, LL_length] at h
      omega
    rw [this]
    simp only [juratref09_Prefix.l0]
    by_cases h : i < a.size
    · rw [if_pos (by omega), if_neg (by omega)]; rfl
    · rw [if_neg (by omega)]; rfl
  | succ d ih =>
    intro i hi
    have h1 : i < (LL a).length := by rw [LL_length]; omega
    have h2 : i < (LL b).length := by rw [LL_length]; omega
    rw [getD_drop (LL a) i 0 h1, getD_drop (LL b) i 0 h2]
    by_cases h : bt a i = bt b i
    · have h' : (LL a).getD i 0 = (LL b).getD i 0 := by
        rw [bt_eq, bt_eq, Int.toNat_natCast] at h
        exact UInt8.toNat_inj.1 (by omega)
      refine Ev.step (f := fun k => juratref09_Prefix.l0 k a b ((i + 1 : Nat) : Int)) (fun k => ?_) ?_
      · simp only [juratref09_Prefix.l0]
        rw [if_pos (by omega), if_pos (by omega), if_pos (by omega), if_pos h, wrap_id (by omega) (by omega)]
        rfl
      · have := ih (i + 1) (by omega)
        simp only [pre, if_pos h']
        rw [show i + (pre ((LL a).drop (i + 1)) ((LL b).drop (i + 1)) + 1) = i + 1 + pre ((LL a).drop (i + 1)) ((LL b).drop (i + 1)) by omega]
        exact this
    · have h' : ¬ (LL a).getD i 0 = (LL b).getD i 0 := fun e => h (by rw [bt_eq, bt_eq, Int.toNat_natCast, e])
      refine Ev.ret fun k => ?_
      simp only [juratref09_Prefix.l0]
      rw [if_pos (by omega), if_pos (by omega), if_pos (by omega), if_neg h]
      simp only [pre, if_neg h']
      rfl
theorem rprefix_ev (a b : ByteArray) (ha : a.size < 4611686018427387904) : Ev (fun k => juratref09_Prefix.f k a b) (pre (LL a) (LL b) : Int) := by
  have h := rprefix_l0 a b ha (min a.size b.size) 0 (by omega)
  rw [List.drop_zero, List.drop_zero, Nat.zero_add] at h
  exact h

theorem bt_rev {a : ByteArray} {i : Nat} (hi : i < a.size) : bt a ((a.size : Int) - 1 - (i : Int)) = (((LL a).reverse.getD i 0).toNat : Int) := by
  rw [bt_eq, show ((a.size : Int) - 1 - (i : Int)).toNat = a.size - 1 - i by omega]
  have h1 : i < (LL a).length := by rw [LL_length]; exact hi
  rw [List.getD_eq_getElem?_getD, List.getD_eq_getElem?_getD, List.getElem?_reverse h1, LL_length]
def suf (a b : ByteArray) : Nat := pre (LL a).reverse (LL b).reverse
theorem LL_rev_length (s : ByteArray) : (LL s).reverse.length = s.size := by rw [List.length_reverse, LL_length]
theorem suffix_l0 (a b : ByteArray) (ha : a.size < 4611686018427387904) (hb : b.size < 4611686018427387904) (n : Int) (hn : n = (min a.size b.size : Nat)) : ∀ (d i : Nat), i + d = min a.size b.size →
    Ev (fun k => affix_Suffix.l0 k a b n n (i : Int)) (((i + pre ((LL a).reverse.drop i) ((LL b).reverse.drop i) : Nat)) : Int) := by
  intro d
  induction d with
  | zero =>
    intro i hi
    refine Ev.ret fun k => ?_
    simp only [affix_Suffix.l0]
    rw [if_neg (by omega)]
    have : pre ((LL a).reverse.drop i) ((LL b).reverse.drop i) = 0 := by
      have h := pre_le ((LL a).reverse.drop i) ((LL b).reverse.drop i)
      rw [List.length_drop, List.length_drop, LL_rev_length, LL_rev_length] at h
      omega
    rw [this]
    congr 1
    omega
  | succ d ih =>
    intro i hi
    have h1 : i < (LL a).reverse.length := by rw [LL_rev_length]; omega
    have h2 : i < (LL b).reverse.length := by rw [LL_rev_length]; omega
    rw [getD_drop (LL a).reverse i 0 h1, getD_drop (LL b).reverse i 0 h2]
    have b1 := bt_rev (a := a) (i := i) (by omega)
    have b2 := bt_rev (a := b) (i := i) (by omega)
    by_cases h : (LL a).reverse.getD i 0 = (LL b).reverse.getD i 0
    · refine Ev.step (f := fun k => affix_Suffix.l0 k a b n n ((i + 1 : Nat) : Int)) (fun k => ?_) ?_
      · simp only [affix_Suffix.l0]
        rw [wrap_id (x := (a.size : Int) - 1) (by omega) (by omega), wrap_id (x := (b.size : Int) - 1) (by omega) (by omega), wrap_id (x := (a.size : Int) - 1 - (i : Int)) (by omega) (by omega), wrap_id (x := (b.size : Int) - 1 - (i : Int)) (by omega) (by omega), b1, b2]
        rw [if_pos (by omega), if_pos (by omega), if_pos (by omega), if_pos (by omega), if_pos (by omega), if_pos (by rw [h]), wrap_id (by omega) (by omega)]
        rfl
      · have := ih (i + 1) (by omega)
        simp only [pre, if_pos h]
        rw [show i + (pre ((LL a).reverse.drop (i + 1)) ((LL b).reverse.drop (i + 1)) + 1) = i + 1 + pre ((LL a).reverse.drop (i + 1)) ((LL b).reverse.drop (i + 1)) by omega]
        exact this
    · refine Ev.ret fun k => ?_
      simp only [affix_Suffix.l0]
      rw [wrap_id (x := (a.size : Int) - 1) (by omega) (by omega), wrap_id (x := (b.size : Int) - 1) (by omega) (by omega), wrap_id (x := (a.size : Int) - 1 - (i : Int)) (by omega) (by omega), wrap_id (x := (b.size : Int) - 1 - (i : Int)) (by omega) (by omega), b1, b2]
      rw [if_pos (by omega), if_pos (by omega), if_pos (by omega), if_pos (by omega), if_pos (by omega), if_neg (fun e => h (UInt8.toNat_inj.1 (by omega)))]
      simp only [pre, if_neg h]
      rfl
theorem suffix_ev (a b : ByteArray) (ha : a.size < 4611686018427387904) (hb : b.size < 4611686018427387904) : Ev (fun k => affix_Suffix.f k a b) (suf a b : Int) := by
  have h := suffix_l0 a b ha hb _ (mn_eq a.size b.size) (min a.size b.size) 0 (by omega)
  rw [List.drop_zero, List.drop_zero, Nat.zero_add] at h
  exact h
theorem ends_ev (a b : ByteArray) (ha : a.size < 4611686018427387904) (hb : b.size < 4611686018427387904) : Ev (fun k => affix_Ends.f k a b) ((suf a b : Int) == (b.size : Int)) := by
  unfold affix_Ends.f
  exact Ev.bind (suffix_ev a b ha hb) (Ev.now _)

/-! where a text stands -/

/-! what neighbours share -/
def sharedL (l : List ByteArray) : List Int := (List.range l.length).map fun i => if i = 0 then 0 else (pre (LL (l.getD (i - 1) ByteArray.empty)) (LL (l.getD i ByteArray.empty)) : Int)
theorem sharedL_length (l : List ByteArray) : (sharedL l).length = l.length := by unfold sharedL; simp
theorem sharedL_getD (l : List ByteArray) (i : Nat) (h : i < l.length) : (sharedL l).getD i 0 = if i = 0 then 0 else (pre (LL (l.getD (i - 1) ByteArray.empty)) (LL (l.getD i ByteArray.empty)) : Int) := by
  unfold sharedL
  rw [List.getD_eq_getElem?_getD, List.getElem?_map, List.getElem?_range h]
  rfl

end Go.Proofs.Ytekdmkdidnnpbaa.Base

/- What ends at an end, how often each pattern stands, whether one stands: layer 15's answers are the reference's; no condition beyond the sizes that stand in each statement. -/
namespace Go.Proofs.Ytekdmkdidnnpbaa.Base
open Go Go.RowKit Go.Lib Go.Proofs.YtekdmkdidnnpbaaW.PrintWords Go.Proofs.YtekdmkdidnnpbaaW.PrintMore Go.Proofs.Ytekdmkdidnnpbaa.P
set_option linter.unusedVariables false

/-! the same hits -/
theorem sameH_l0 (a : List HitS) (hm : a.length ≤ 8796093022208) : ∀ (d i : Nat), i + d = a.length → Ev (fun k => juratref15_Same.l0 k a a (i : Int)) true := by
  intro d
  induction d with
  | zero =>
    intro i hi
    refine Ev.ret fun k => ?_
    simp only [juratref15_Same.l0]
    rw [if_neg (by omega)]
  | succ d ih =>
    intro i hi
    refine Ev.step (fun k => ?_) (ih (i + 1) (by omega))
    simp only [juratref15_Same.l0]
    rw [if_pos (by omega), if_pos (by omega), if_pos (by omega), if_neg (by simp), wrap_id (by omega) (by omega)]
    rfl
theorem sameH (a : List HitS) (hm : a.length ≤ 8796093022208) : Ev (fun k => juratref15_Same.f k a a) true := by
  unfold juratref15_Same.f
  exact Ev.congr (fun k => if_pos rfl) (sameH_l0 a hm a.length 0 (by omega))

/-! what ends at an end -/
theorem pre_full : ∀ x y : List UInt8, pre x y = y.length ↔ x.take y.length = y
  | x, [] => by cases x <;> simp [pre]
  | [], b :: y => by simp [pre]
  | a :: x, b :: y => by
    simp only [pre, List.length_cons, List.take_succ_cons, List.cons.injEq]
    by_cases h : a = b
    · rw [if_pos h]
      have := pre_full x y
      constructor
      · intro e; exact ⟨h, this.1 (by omega)⟩
      · intro e; have := this.2 e.2; omega
    · rw [if_neg h]
      constructor
      · intro e; omega
      · intro e; exact absurd e.1 h
theorem suf_stands (p s : ByteArray) (e : Nat) (he : e ≤ s.size) : (((suf (s.extract 0 e) p : Nat) : Int) == (p.size : Int)) = standsE p s e := by
  have h1 : LL (s.extract 0 e) = (LL s).take e := by rw [LL_extract, List.drop_zero]
  have hl : ((LL s).take e).length = e := by rw [List.length_take, LL_length]; omega
  rw [Bool.eq_iff_iff, beq_iff_eq, standsE_iff]
  unfold suf
  rw [h1]
  have h2 := pre_full ((LL s).take e).reverse (LL p).reverse
  rw [LL_rev_length] at h2
  have h3 : (((pre ((LL s).take e).reverse (LL p).reverse : Nat)) : Int) = (p.size : Int) ↔ pre ((LL s).take e).reverse (LL p).reverse = p.size := by omega
  rw [h3, h2, List.take_reverse, List.reverse_inj, hl, List.drop_take]
  unfold stands
  constructor
  · intro h
    have hlen := congrArg List.length h
    rw [List.length_take, List.length_drop, LL_length, LL_length] at hlen
    have hp : p.size ≤ e := by omega
    refine ⟨hp, by omega, ?_⟩
    rw [show e - (e - p.size) = p.size by omega] at h
    exact h
  · rintro ⟨hp, _, h⟩
    rw [show e - (e - p.size) = p.size by omega]
    exact h
def idsG (g : ByteArray → Bool) : List ByteArray → Nat → List Int
  | [], _ => []
  | p :: l, i => if g p = true then (i : Int) :: idsG g l (i + 1) else idsG g l (i + 1)
theorem idsG_none (g : ByteArray → Bool) (hg : ∀ p, g p = false) : ∀ (l : List ByteArray) (i : Nat), idsG g l i = []
  | [], _ => rfl
  | p :: l, i => by
    simp only [idsG]
    rw [if_neg (by rw [hg]; decide)]
    exact idsG_none g hg l (i + 1)
theorem idsG_length (g : ByteArray → Bool) : ∀ (l : List ByteArray) (i : Nat), (idsG g l i).length ≤ l.length
  | [], _ => Nat.le_refl _
  | p :: l, i => by
    have := idsG_length g l (i + 1)
    simp only [idsG, List.length_cons]
    split
    · rw [List.length_cons]; omega
    · omega
theorem rat_l0 (w : List ByteArray) (hw : w.length ≤ 65535) (s : ByteArray) (e : Int) (g : ByteArray → Bool) (hst : e ≥ 0 → ∀ p ∈ w, juratref15_Stands.f p s e = some (g p)) (hneg : ¬ e ≥ 0 → ∀ p, g p = false) : ∀ (d i : Nat) (out : List Int), i + d = w.length → out.length ≤ i →
    Ev (fun k => juratref15_At.l0 k w s e out (i : Int)) (out ++ idsG g (w.drop i) i) := by
  intro d
  induction d with
  | zero =>
    intro i out hi ho
    rw [List.drop_of_length_le (by omega)]
    refine Ev.ret fun k => ?_
    simp only [juratref15_At.l0, idsG, List.append_nil]
    rw [if_neg (by omega)]
  | succ d ih =>
    intro i out hi ho
    have hd := getD_drop w i ByteArray.empty (by omega)
    have hm := getD_mem w i ByteArray.empty (by omega)
    have e1 : rdOf ByteArray.empty w (i : Int) = w.getD i ByteArray.empty := rfl
    have w1 : wrap64 ((i : Int) + 1) = ((i + 1 : Nat) : Int) := by rw [wrap_id (by omega) (by omega)]; rfl
    rw [hd]
    simp only [idsG]
    by_cases he : e ≥ 0
    · have hs := hst he _ hm
      by_cases hg : g (w.getD i ByteArray.empty) = true
      · rw [if_pos hg]
        have := ih (i + 1) (out ++ [(i : Int)]) (by omega) (by simp; omega)
        rw [List.append_assoc, List.singleton_append] at this
        refine Ev.step (fun k => ?_) this
        simp only [juratref15_At.l0]
        rw [if_pos (by omega), if_pos he, if_pos (by omega), e1, hs]
        simp only [Option.bind_some]
        rw [if_pos hg, if_pos (by omega), w1]
      · rw [if_neg hg]
        refine Ev.step (fun k => ?_) (ih (i + 1) out (by omega) (by omega))
        simp only [juratref15_At.l0]
        rw [if_pos (by omega), if_pos he, if_pos (by omega), e1, hs]
        simp only [Option.bind_some]
        rw [if_neg hg, w1]
    · rw [if_neg (by rw [hneg he]; decide)]
      refine Ev.step (fun k => ?_) (ih (i + 1) out (by omega) (by omega))
      simp only [juratref15_At.l0]
      rw [if_pos (by omega), if_neg he, w1]
theorem at_l0 (w : List ByteArray) (hw : w.length ≤ 65535) (s : ByteArray) (e : Int) (he : 0 ≤ e) (hes : e ≤ (s.size : Int)) (g : ByteArray → Bool) (hst : ∀ p ∈ w, Ev (fun k => affix_Ends.f k (s.extract 0 e.toNat) p) (g p)) : ∀ (d i : Nat) (out : List Int), i + d = w.length → out.length ≤ i →
    Ev (fun k => occ_At.l0 k s e out w (w.length : Int) (i : Int)) (out ++ idsG g (w.drop i) i) := by
  intro d
  induction d with
  | zero =>
    intro i out hi ho
    rw [List.drop_of_length_le (by omega)]
    refine Ev.ret fun k => ?_
    simp only [occ_At.l0, idsG, List.append_nil]
    rw [if_neg (by omega)]
  | succ d ih =>
    intro i out hi ho
    have hd := getD_drop w i ByteArray.empty (by omega)
    have hm := getD_mem w i ByteArray.empty (by omega)
    have e1 : rdOf ByteArray.empty w (i : Int) = w.getD i ByteArray.empty := rfl
    have w1 : wrap64 ((i : Int) + 1) = ((i + 1 : Nat) : Int) := by rw [wrap_id (by omega) (by omega)]; rfl
    have hs := hst _ hm
    rw [hd]
    simp only [idsG]
    refine Ev.step (f := fun k => (affix_Ends.f k (s.extract 0 e.toNat) (w.getD i ByteArray.empty)).bind fun t279 => (if t279 = true then (occ_At.l0 k s e (out ++ [(i : Int)]) w (w.length : Int) ((i + 1 : Nat) : Int)) else (occ_At.l0 k s e out w (w.length : Int) ((i + 1 : Nat) : Int)))) (fun k => ?_) ?_
    · simp only [occ_At.l0]
      rw [if_pos (by omega), if_pos (by omega), if_pos (by omega), if_pos he, if_pos hes, e1, if_pos (by omega), w1]
    refine Ev.bind hs ?_
    by_cases hg : g (w.getD i ByteArray.empty) = true
    · rw [if_pos hg]
      have := ih (i + 1) (out ++ [(i : Int)]) (by omega) (by simp; omega)
      rw [List.append_assoc, List.singleton_append] at this
      exact Ev.congr (fun k => if_pos hg) this
    · rw [if_neg hg]
      exact Ev.congr (fun k => if_neg hg) (ih (i + 1) out (by omega) (by omega))
/-- The numbers of the patterns that end at an end, be it one of the text's or not. -/
def atB (w : List ByteArray) (s : ByteArray) (e : Int) : List Int := if 0 ≤ e ∧ e ≤ (s.size : Int) then idsG (fun p => standsE p s e.toNat) w 0 else []
theorem at_ev {l w : List ByteArray} {x : Option SetD} {er : Int} (h : SetOk l x w er) (s : ByteArray) (hs : s.size ≤ 1048575) (e : Int) : Ev (fun k => occ_At.f k x s e) (atB w s e) := by
  have out : ¬ (0 ≤ e ∧ e ≤ (s.size : Int)) → Ev (fun k => occ_At.j0 k x s e true) (atB w s e) := fun hn => by
    unfold atB
    rw [if_neg hn]
    refine Ev.ret fun k => ?_
    simp only [occ_At.j0]
    rw [if_pos trivial]
  unfold occ_At.f
  by_cases h1 : e < 0
  · exact Ev.congr (fun k => if_pos h1) (out (by omega))
  refine Ev.congr (fun k => if_neg h1) ?_
  by_cases h2 : e > (s.size : Int)
  · rw [decide_eq_true h2]; exact out (by omega)
  · rw [decide_eq_false h2]
    refine Ev.step (f := fun k => (pats_Set_List.f x).bind fun t275 => (occ_At.l0 k s e ([] : List Int) t275 (t275.length : Int) 0)) (fun k => ?_) ?_
    · simp only [occ_At.j0]
      rw [if_neg (by decide)]
    refine Ev.bind (Ev.const fun _ => list_ok h) ?_
    have := at_l0 w h.few s e (by omega) (by omega) (fun p => standsE p s e.toNat) (fun p hp => by
      have hz := h.size p hp
      have := ends_ev (s.extract 0 e.toNat) p (by rw [ByteArray.size_extract]; omega) (by omega)
      rw [suf_stands p s e.toNat (by omega)] at this
      exact this) w.length 0 [] (by omega) (Nat.le_refl _)
    rw [List.drop_zero, List.nil_append] at this
    unfold atB
    rw [if_pos ⟨by omega, by omega⟩]
    exact this
theorem rat_ev {l w : List ByteArray} {x : Option SetD} {er : Int} (h : SetOk l x w er) (s : ByteArray) (hs : s.size ≤ 1048575) (e : Int) : Ev (fun k => juratref15_At.f k w s e) (atB w s e) := by
  unfold juratref15_At.f atB
  by_cases h1 : 0 ≤ e ∧ e ≤ (s.size : Int)
  · rw [if_pos h1]
    have := rat_l0 w h.few s e (fun p => standsE p s e.toNat) (fun _ p hp => by
      have := rstands p s e.toNat (by have := h.size p hp; omega) (by omega)
      rw [Int.toNat_of_nonneg h1.1] at this
      exact this) (fun hn => absurd h1.1 hn) w.length 0 [] (by omega) (Nat.le_refl _)
    rw [List.drop_zero, List.nil_append] at this
    exact this
  · rw [if_neg h1]
    have := rat_l0 w h.few s e (fun _ => false) (fun he p hp => by
      unfold juratref15_Stands.f
      by_cases h2 : e ≥ (p.size : Int)
      · rw [if_pos h2, if_neg (by omega)]
      · rw [if_neg h2]) (fun _ _ => rfl) w.length 0 [] (by omega) (Nat.le_refl _)
    rw [List.drop_zero, List.nil_append, idsG_none _ (fun _ => rfl)] at this
    exact this
theorem atB_length (w : List ByteArray) (s : ByteArray) (e : Int) : (atB w s e).length ≤ w.length := by
  unfold atB
  split
  · exact idsG_length _ _ _
  · simp

/-! does one stand? -/
theorem raw_perm {l w : List ByteArray} {x : Option SetD} {e : Int} (h : SetOk l x w e) (s : ByteArray) (hs : s.size ≤ 1048575) : (rawF s w 0).Perm (hitsB w s) := by
  refine (List.perm_ext_iff_of_nodup (raw_nodup hs w 0 h.pos) (up_nodup (hitsF_up15 w s (s.size + 1) 0))).2 (fun y => ?_)
  rw [raw_mem hs w 0 h.pos, hitsB_mem]
  simp only [Nat.zero_add]
theorem raw_any (s : ByteArray) : ∀ (l : List ByteArray) (i : Nat), l.any (hasB s) = decide (0 < (rawF s l i).length)
  | [], i => rfl
  | p :: l, i => by
    rw [List.any_cons, raw_any s l (i + 1)]
    simp only [rawF, List.length_append, List.length_map, hasB]
    rw [Bool.eq_iff_iff, Bool.or_eq_true, decide_eq_true_iff, decide_eq_true_iff, decide_eq_true_iff]
    omega
theorem any_is {l w : List ByteArray} {x : Option SetD} {e : Int} (h : SetOk l x w e) (s : ByteArray) (hs : s.size ≤ 1048575) : occ_Any.f x s = some (decide (0 < (hitsB w s).length)) := by
  unfold occ_Any.f
  rw [h.hL, if_pos ⟨by have := h.few; omega, by omega, fun t ht => by have := h.size t ht; omega⟩, raw_any s w 0, (raw_perm h s hs).length_eq]

/-! how often each stands -/
def cntsH (n : Nat) (H : List HitS) : List Int := (List.range n).map fun j : Nat => ((H.countP (fun h => decide (h.f1 = (j : Int))) : Nat) : Int)
theorem cntsH_length (n : Nat) (H : List HitS) : (cntsH n H).length = n := by unfold cntsH; simp
theorem cntsH_getD (n : Nat) (H : List HitS) (j : Nat) (hj : j < n) : (cntsH n H).getD j 0 = ((H.countP (fun h => decide (h.f1 = (j : Int))) : Nat) : Int) := by
  unfold cntsH
  rw [List.getD_eq_getElem?_getD, List.getElem?_map, List.getElem?_range hj]
  rfl
theorem cntsH_snoc (n : Nat) (H : List HitS) (h : HitS) (j : Nat) (hj : h.f1 = (j : Int)) (hn : j < n) : cntsH n (H ++ [h]) = (cntsH n H).set j ((cntsH n H).getD j 0 + 1) := by
  apply List.ext_getElem?
  intro i
  rw [List.getElem?_set, cntsH_length]
  by_cases hi : i < n
  · have a1 : (cntsH n (H ++ [h]))[i]? = some (((H ++ [h]).countP (fun h => decide (h.f1 = (i : Int))) : Nat) : Int) := by
      unfold cntsH; rw [List.getElem?_map, List.getElem?_range hi]; rfl
    have a2 : (cntsH n H)[i]? = some ((H.countP (fun h => decide (h.f1 = (i : Int))) : Nat) : Int) := by
      unfold cntsH; rw [List.getElem?_map, List.getElem?_range hi]; rfl
    rw [a1, a2, List.countP_append]
    by_cases hij : j = i
    · subst hij
      rw [if_pos rfl, if_pos hn, cntsH_getD n H j hn, List.countP_cons, if_pos (decide_eq_true hj)]
      simp
    · rw [if_neg hij, List.countP_cons, if_neg (by rw [decide_eq_true_iff, hj]; omega)]
      simp
  · rw [List.getElem?_eq_none (by rw [cntsH_length]; omega), List.getElem?_eq_none (by rw [cntsH_length]; omega)]
    split
    · omega
    · rfl
theorem counts_l0 (n : Nat) (H : List HitS) (hH : H.length ≤ 8796093022208) (hz : ∀ h ∈ H, ∃ j : Nat, j < n ∧ h.f1 = (j : Int)) : ∀ (d i : Nat), i + d = H.length →
    Ev (fun k => occ_Counts.l0 k (cntsH n (H.take i)) H (H.length : Int) (i : Int)) (cntsH n H) := by
  intro d
  induction d with
  | zero =>
    intro i hi
    refine Ev.ret fun k => ?_
    simp only [occ_Counts.l0]
    rw [if_neg (by omega), List.take_of_length_le (by omega)]
  | succ d ih =>
    intro i hi
    have hm := getD_mem H i z23 (by omega)
    obtain ⟨j, hj, hf⟩ := hz _ hm
    have e1 : rd_T23 H (i : Int) = H.getD i z23 := rfl
    have ht : H.take (i + 1) = H.take i ++ [H.getD i z23] := by
      rw [List.take_succ_eq_append_getElem (by omega), List.getD_eq_getElem?_getD, List.getElem?_eq_getElem (by omega)]; rfl
    have hs := cntsH_snoc n (H.take i) _ j hf hj
    rw [← ht] at hs
    have ih := ih (i + 1) (by omega)
    rw [hs] at ih
    have hc : (cntsH n (H.take i)).getD j 0 ≤ 8796093022208 ∧ 0 ≤ (cntsH n (H.take i)).getD j 0 := by
      rw [cntsH_getD _ _ _ hj]
      have := List.countP_le_length (p := fun h : HitS => decide (h.f1 = (j : Int))) (l := H.take i)
      rw [List.length_take] at this
      omega
    have e2 : rd (cntsH n (H.take i)) (j : Int) = (cntsH n (H.take i)).getD j 0 := rfl
    have hl := cntsH_length n (H.take i)
    refine Ev.step (fun k => ?_) ih
    simp only [occ_Counts.l0]
    rw [if_pos (by omega), if_pos (by omega), if_pos (by omega), e1, hf, if_pos (by omega), if_pos (by rw [hl]; omega), e2, wrap_id (x := (i : Int) + 1) (by omega) (by omega), wrap_id (by omega) (by omega), Int.toNat_natCast]
    rfl
theorem hits_ids (w : List ByteArray) (s : ByteArray) : ∀ h ∈ hitsB w s, ∃ j : Nat, j < w.length ∧ h.f1 = (j : Int) := fun h hh => by
  obtain ⟨a, j, _, h2, rfl, _⟩ := hitsB_mem.1 hh
  exact ⟨j, h2, rfl⟩
theorem hits_len {l w : List ByteArray} {x : Option SetD} {e : Int} (h : SetOk l x w e) (s : ByteArray) (hs : s.size ≤ 1048575) : (hitsB w s).length ≤ 8796093022208 := by
  have h1 := hitsF_length w s (s.size + 1) 0
  have h2 := h.few
  refine Nat.le_trans h1 (Nat.le_trans (Nat.mul_le_mul (show s.size + 1 ≤ 1048576 by omega) h2) (by decide))
theorem counts_ev {l w : List ByteArray} {x : Option SetD} {e : Int} (h : SetOk l x w e) (s : ByteArray) (hs : s.size ≤ 1048575) : Ev (fun k => occ_Counts.f k x s) (cntsH w.length (hitsB w s)) := by
  have hl : pats_Set_Len.f x = some ((w.length : Nat) : Int) := by
    rw [← h.hL]
    cases x <;> rfl
  have hw := h.few
  unfold occ_Counts.f
  refine Ev.bind (Ev.const fun _ => hl) (Ev.congr (fun k => if_pos (by omega)) (Ev.congr (fun k => if_pos (by rw [Int.toNat_natCast]; omega)) (Ev.bind (Ev.const fun _ => all_is h s hs) ?_)))
  have := counts_l0 w.length (hitsB w s) (hits_len h s hs) (hits_ids w s) (hitsB w s).length 0 (by omega)
  rw [List.take_zero] at this
  have e0 : cntsH w.length [] = List.replicate w.length 0 := by
    unfold cntsH
    apply List.ext_getElem?
    intro i
    rw [List.getElem?_map, List.getElem?_replicate]
    by_cases hi : i < w.length
    · rw [List.getElem?_range hi, if_pos hi]; rfl
    · rw [List.getElem?_eq_none (by rw [List.length_range]; omega), if_neg hi]; rfl
  rw [e0] at this
  rw [Int.toNat_natCast]
  exact this
theorem cnts_at (w : List ByteArray) (s : ByteArray) (j : Nat) (hj : j < w.length) : (cntsH w.length (hitsB w s)).getD j 0 = (cntF15 (w.getD j ByteArray.empty) s (s.size + 1) 0 : Int) := by
  rw [cntsH_getD _ _ _ hj, hits_count15 w s j hj]

end Go.Proofs.Ytekdmkdidnnpbaa.Base

/- Proved: for all texts, every text and every number the law OccTells of layer 15 answers true. No condition beyond the statement's own. -/
namespace Go.Proofs.Ytekdmkdidnnpbaa.Pure
open Go Go.RowKit Go.Proofs.Ytekdmkdidnnpbaa.P Go.Proofs.YtekdmkdidnnpbaaW.PrintWords Go.Proofs.YtekdmkdidnnpbaaW.PrintLast Go.Proofs.Ytekdmkdidnnpbaa.Base
set_option linter.unusedVariables false

theorem tells15_big (l : List ByteArray) (s : ByteArray) (e : Int) : Ev (fun k => juratlaw15_OccTells.j0 k l s e true) true := by
  refine Ev.step (f := fun k => (juratlaw15_awake.f k).bind fun t => some t) (fun k => ?_) (Ev.bind awake15 (Ev.now true))
  simp only [juratlaw15_OccTells.j0]
  rw [if_pos trivial]
theorem tells15_l0 (w : List ByteArray) (s : ByteArray) (hw : w.length ≤ 65535) (hz : ∀ t ∈ w, t.size ≤ 65535) (hs : s.size ≤ 1048575) : ∀ (d i : Nat), i + d = w.length →
    Ev (fun k => juratlaw15_OccTells.l0 k s w (cntsH w.length (hitsB w s)) (i : Int)) true := by
  intro d
  induction d with
  | zero =>
    intro i hi
    refine Ev.step (f := fun k => (juratlaw15_awake.f k).bind fun t => some t) (fun k => ?_) (Ev.bind awake15 (Ev.now true))
    simp only [juratlaw15_OccTells.l0]
    rw [if_neg (by omega)]
  | succ d ih =>
    intro i hi
    have hc := cnts_at w s i (by omega)
    have hz1 := hz _ (getD_mem w i ByteArray.empty (by omega))
    have hr := rcount15 (w.getD i ByteArray.empty) s (by omega) hs
    have hl := cntsH_length w.length (hitsB w s)
    have e1 : rdOf ByteArray.empty w (i : Int) = w.getD i ByteArray.empty := rfl
    have e2 : rd (cntsH w.length (hitsB w s)) (i : Int) = (cntsH w.length (hitsB w s)).getD i 0 := rfl
    refine Ev.step (f := fun k => (juratref15_Count.f k (w.getD i ByteArray.empty) s).bind fun t320 => (if (cntsH w.length (hitsB w s)).getD i 0 = t320 then (juratlaw15_OccTells.l0 k s w (cntsH w.length (hitsB w s)) ((i + 1 : Nat) : Int)) else (some false))) (fun k => ?_) ?_
    · simp only [juratlaw15_OccTells.l0]
      rw [if_pos (by omega), if_pos (by omega), if_pos (by rw [hl]; omega), e1, e2, wrap_id (by omega) (by omega)]
      rfl
    exact Ev.bind hr (Ev.congr (fun k => if_pos hc) (ih (i + 1) (by omega)))
theorem OccTells (l : List ByteArray) (s : ByteArray) (e : Int) (hl : l.length * 16 ≤ 140737488351232) (_ : ∀ x ∈ l, x.size ≤ maxLen) (_ : s.size ≤ 140737488351232) (_ : (Lit.int .i64 e).wf = true) : ∃ k, juratlaw15_OccTells.f k l s e = some true := by
  refine Ev.rounds ?_
  unfold juratlaw15_OccTells.f
  refine Ev.bind (few_ev l 12 20 (by omega)) ?_
  by_cases h1 : (decide ((l.length : Int) ≤ 12) && fewB l 20) = true
  · refine Ev.congr (fun k => if_pos h1) ?_
    by_cases h2 : (s.size : Int) > 100
    · rw [decide_eq_true h2]; exact tells15_big l s e
    · rw [decide_eq_false h2]
      have hs : s.size ≤ 1048575 := by omega
      obtain ⟨x, w, er, h⟩ := set_ok l
      have hlen := hits_len h s hs
      have c1 := sameH (hitsB w s) hlen
      have c2 := same1 (atB w s e) (atB w s e) (by have := atB_length w s e; have := h.few; omega)
      rw [decide_eq_true rfl] at c2
      refine Ev.step (f := fun k => (pats_New.f l).bind fun bt294 => ((juratref10_New.f k l).bind fun bt296 => ((juratref15_All.f k bt296.1 s).bind fun t300 => ((occ_Counts.f k bt294.1 s).bind fun t303 => ((occ_All.f bt294.1 s).bind fun t306 => ((juratref15_Same.f k t306 t300).bind fun t309 => (if t309 = true then ((occ_At.f k bt294.1 s e).bind fun t310 => ((juratref15_At.f k bt296.1 s e).bind fun t313 => ((juratref01_Same.f k t310 t313).bind fun t316 => (if t316 = true then ((occ_Any.f bt294.1 s).bind fun t317 => (if (t317 != (decide ((t300.length : Int) > 0))) = true then (juratlaw15_OccTells.j1 k s bt296.1 t303 true) else (juratlaw15_OccTells.j1 k s bt296.1 t303 ((t303.length : Int) != (bt296.1.length : Int))))) else (juratlaw15_OccTells.j1 k s bt296.1 t303 true))))) else (juratlaw15_OccTells.j1 k s bt296.1 t303 true)))))))) (fun k => ?_) ?_
      · simp only [juratlaw15_OccTells.j0]
        rw [if_neg (by decide)]
      refine Ev.bind (Ev.const fun _ => h.hn) (Ev.bind (rnew_ok h) (Ev.bind (rall_ev w s h.few h.size hs) (Ev.bind (counts_ev h s hs) (Ev.bind (Ev.const fun _ => all_is h s hs) (Ev.bind c1 (Ev.congr (fun k => if_pos rfl) ?_))))))
      refine Ev.bind (at_ev h s hs e) (Ev.bind (rat_ev h s hs e) (Ev.bind c2 (Ev.congr (fun k => if_pos rfl) ?_)))
      refine Ev.bind (Ev.const fun _ => any_is h s hs) (Ev.congr (fun k => if_neg (by
        rw [bne_iff_ne, Classical.not_not, decide_eq_decide]
        show 0 < (hitsB w s).length ↔ ((hitsB w s).length : Int) > 0
        omega)) ?_)
      have e3 : (((cntsH w.length (hitsB w s)).length : Int) != (w.length : Int)) = false := by rw [cntsH_length]; simp
      show Ev (fun k => juratlaw15_OccTells.j1 k s w (cntsH w.length (hitsB w s)) (((cntsH w.length (hitsB w s)).length : Int) != (w.length : Int))) true
      rw [e3]
      refine Ev.step (fun k => ?_) (tells15_l0 w s h.few h.size hs w.length 0 (by omega))
      simp only [juratlaw15_OccTells.j1]
      rw [if_neg (by decide)]
      rfl
  · refine Ev.congr (fun k => if_neg h1) ?_
    exact tells15_big l s e

end Go.Proofs.Ytekdmkdidnnpbaa.Pure

/- How a law's arguments are opened: slices of texts and of numbers, as lists, with their sizes out of the row's weights. -/
namespace Go.Proofs.Ytekdmkdidnnpbaa.RowS
open Go Go.ChangeShapes Go.WideShapes Go.RowKit Go.Proofs.YtekdmkdidnnpbaaW.PrintWords

theorem slice_strings {H : Type} {enc : TypeId × Value → H} {P : Program} {W : World} {t e : TypeId} {a : Option Addr} {len cap : Nat} {d : DataW H} {ps : List MemPlace} {ts : List TypeId} {ds : List (DataW H)} {j : Nat}
    (hsz : (DataW.weightsEach P ts ds).all (· ≤ reachBytes) = true) (ht : ts[j]? = some t) (hd : ds[j]? = some d) (hu : P.underlying t = some (.slice e)) (he : P.underlying e = some .string) (hc : P.cellsOf e = 1) (hB : P.bytesOf e = 16)
    (h : DataW.Trod enc P W 0 (fun _ => true) true t (.slice a len cap) d ps) :
    ∃ l : List ByteArray, l.length = len ∧ len ≤ cap ∧ Kd.C Kd.string W a l.length l ∧ l.length * 16 ≤ 140737488351232 ∧ ∀ s ∈ l, s.size ≤ maxLen := by
  obtain ⟨fuel, hf⟩ := h
  rcases open_strings hu he hc hf with ⟨hcs, _⟩ | ⟨x, l, c, ss, hcs, _, hl, hm, hz, hx, hcell, hw⟩
  · simp [Value.cells] at hcs
    obtain ⟨rfl, rfl, rfl⟩ := hcs
    exact ⟨[], rfl, Nat.le_refl _, Kd.C_nil _ _, by simp, by simp⟩
  · simp [Value.cells] at hcs
    obtain ⟨rfl, rfl, rfl⟩ := hcs
    obtain ⟨hx, _⟩ := Prod.mk.inj hx
    subst hx
    have z := sized_slice hsz ht hd hu
    rw [hB] at z
    rw [if_pos rfl] at hz
    have hl2 : len ≤ ss.length := by omega
    have h1 : (strs (H := H) (ss.take len)).length + (strs (H := H) (ss.drop len)).length = ss.length := by
      simp [strs]
      omega
    rw [h1] at z
    have hlen : (ss.take len).length = len := by rw [List.length_take]; omega
    refine ⟨ss.take len, hlen, hl, Kd.C_of_reads (d := ByteArray.empty) (h1 := fun _ => rfl) ⟨rfl, by rw [hlen]; unfold maxLen at hm; omega, fun _ => ⟨x, rfl, fun i hi => ?_⟩⟩, ?_, fun s hs => hw s (List.mem_of_mem_take hs)⟩
    · rw [hlen] at hi
      rw [hcell i (by omega), List.getD_eq_getElem?_getD, List.getD_eq_getElem?_getD, List.getElem?_take_of_lt hi]
    · rw [hlen]
      exact Nat.le_trans (Nat.mul_le_mul_right _ hl2) z
theorem slice_ints {H : Type} {enc : TypeId × Value → H} {P : Program} {W : World} {t e : TypeId} {k : IntKind} {a : Option Addr} {len cap : Nat} {d : DataW H} {ps : List MemPlace} {ts : List TypeId} {ds : List (DataW H)} {j : Nat}
    (hsz : (DataW.weightsEach P ts ds).all (· ≤ reachBytes) = true) (ht : ts[j]? = some t) (hd : ds[j]? = some d) (hu : P.underlying t = some (.slice e)) (he : P.underlying e = some (.int k)) (hc : P.cellsOf e = 1) {B : Nat} (hB : P.bytesOf e = B)
    (h : DataW.Trod enc P W 0 (fun _ => true) true t (.slice a len cap) d ps) :
    ∃ l : List Int, l.length = len ∧ len ≤ cap ∧ Kd.C (Kd.int k) W a l.length l ∧ l.length ≤ maxLen ∧ l.length * B ≤ 140737488351232 ∧ ∀ n ∈ l, (Lit.int k n).wf = true := by
  have y := sized_ints hsz ht hd hu he hc hB h
  obtain ⟨fuel, hf⟩ := h
  rcases open_ints hu he hc hf with ⟨hcs, _⟩ | ⟨x, l, c, zs, hcs, _, hl, hm, hz, _, hcell, hw⟩
  · simp [Value.cells] at hcs
    obtain ⟨rfl, rfl, rfl⟩ := hcs
    exact ⟨[], rfl, Nat.le_refl _, Kd.C_nil _ _, by simp, by simp, by simp⟩
  · simp [Value.cells] at hcs
    obtain ⟨rfl, rfl, rfl⟩ := hcs
    rw [if_pos rfl] at hz
    have hlen : (zs.take len).length = len := by rw [List.length_take]; omega
    refine ⟨zs.take len, hlen, hl, Kd.C_of_reads (d := (0 : Int)) (h1 := fun _ => rfl) ⟨rfl, by rw [hlen]; unfold maxLen at hm; omega, fun _ => ⟨x, rfl, fun i hi => ?_⟩⟩, by rw [hlen]; omega, by rw [hlen]; exact y, fun s hs => hw s (List.mem_of_mem_take hs)⟩
    rw [hlen] at hi
    rw [hcell i (by omega), List.getD_eq_getElem?_getD, List.getD_eq_getElem?_getD, List.getElem?_take_of_lt hi]

end Go.Proofs.Ytekdmkdidnnpbaa.RowS

/- The row of the law OccTells, out of its plain statement and the walk; written for this claim by a program of this session (wip/mkrow.py). -/
namespace Go.Proofs.Ytekdmkdidnnpbaa.occTells
open Go.ChangeShapes Go.WideShapes Go.ChangeAt Go.RowKit
open Go.ChangeMaps (open_string shut_string)
set_option linter.unusedVariables false
theorem own : ownKnob Try.prog.godebug = none := by kernel_rfl
theorem laidOut : laidOutB Try.prog = true := by kernel_rfl
set_option maxRecDepth 100000 in
theorem lifted (os : Os) (started : os.Started) (H : Type) (enc : TypeId × Value → H) :
    ReturnsInHanded {} Try.checked os 5 .any (Rows.occTellsSpec.pre6 enc Try.prog Try.f5 Rows.occTellsRow.domain false) (Rows.occTellsSpec.post enc Try.prog Try.f5 false true false false) := by
  refine returnsInHanded_of_change_sized (C := Try.checked) own started (by kernel_rfl) Try.func5
    (ChangeSpec.witness6 (enc := enc) (C := Try.checked) false ⟨#[], #[.slice none 0 0, .string ByteArray.empty, .int .i64 0], []⟩ 8 (by kernel_rfl) (by kernel_rfl) (by kernel_rfl) (by kernel_rfl)) ?_
  intro W base args ds gs before hval0 hW hcnd hsz0 _
  have hsz : (DataW.weightsEach Try.prog (Try.f5.params.toList ++ Rows.occTellsSpec.plain.varTypes Try.prog) (ds ++ gs)).all (· ≤ reachBytes) = true := hsz0
  have hval : ∀ (j : Nat) t v, Try.f5.params[j]? = some t → args[j]? = some v → Value.okWide Try.prog W .any base t v := hval0
  have hW' := hW
  obtain ⟨p, q, hA0, hV, rfl, hfz, hnd⟩ := hW
  have hA : DataW.TrodAll enc Try.prog W 0 (fun _ => true) true Try.f5.params.toList args.toList ds p := hA0
  rw [Try.params5] at hA hval hsz
  obtain ⟨v0, vs0, d0, ds0, p0, q0, hargs, rfl, rfl, h0, r0⟩ := trodAll_cons hA
  obtain ⟨v1, vs1, d1, ds1, p1, q1, rfl, rfl, rfl, h1, r1⟩ := trodAll_cons r0
  obtain ⟨v2, vs2, d2, ds2, p2, q2, rfl, rfl, rfl, h2, r2⟩ := trodAll_cons r1
  obtain ⟨rfl, rfl, rfl⟩ := trodAll_nil r2
  obtain rfl : args = #[v0, v1, v2] := by cases args; simp_all
  obtain ⟨rfl, rfl⟩ := trodVars_none hV
  obtain ⟨a0, len0, cap0, rfl⟩ := okWide_slice Try.underlying30 (hval 0 30 v0 rfl rfl)
  have k0 := h0
  have lt0 : ∀ x ∈ p0, x.block < W.heap.size := by obtain ⟨m, hm⟩ := k0; exact DataW.trod_lt m _ _ _ hm
  obtain ⟨l0, hn0, hc0, hr0, y0, w0⟩ := RowS.slice_strings hsz (j := 0) (t := 30) rfl rfl Try.underlying30 Try.underlying9 (by kernel_rfl) (by kernel_rfl) h0
  subst hn0
  obtain ⟨a1, rfl, rfl, rfl, y1⟩ := open_string Try.underlying9 (hval 1 9 v1 rfl rfl) h1
  have w1 : a1.size ≤ 140737488351232 := by
    have z := sized_string hsz (j := 1) (t := 9) rfl rfl
    rw [Array.length_toList] at z
    exact z
  obtain ⟨a2, rfl, rfl, rfl, w2⟩ := open_int Try.underlying3 (hval 2 3 v2 rfl rfl) h2
  clear hA0 hval0 hsz0 hsz
  obtain ⟨k, hk⟩ := Pure.OccTells l0 a1 a2 y0 w0 w1 w2
  refine (P.juratlaw15_OccTells.calls k a0 cap0 l0 a1 a2 true W hr0 hc0 hk).mono fun e W' ⟨he, bel⟩ => ?_
  subst he
  exact ⟨_, rfl, _, _, _, [], _, [], hW', trodAll_mk1 (shut_bool Try.underlying4 _), (trodAll_cons_mk (Below.trod laidOut (by kernel_rfl) (of_decide_eq_true (by kernel_rfl)) k0 bel lt0) (trodAll_cons_mk (shut_string Try.underlying9 y1) (trodAll_cons_mk (shut_int Try.underlying3 w2) trodAll_mk0))), rfl, bel.frame _, fun h => by cases h⟩
theorem over : Rows.occTellsRow.holds Try.pinned (OpenSpec.ofChange Rows.occTellsSpec) :=
  OpenClaim.holds_of_wide 5 Try.f5 rfl rfl rfl rfl rfl rfl rfl ⟨rfl, rfl, rfl, rfl, rfl⟩ rfl rfl rfl rfl rfl (by kernel_rfl) Try.func5 (by kernel_rfl)
    (of_decide_eq_true (by kernel_rfl)) (by unfold Func.isWrapper; first | (rw [if_pos (by decide +kernel)]; kernel_rfl) | (rw [if_neg (by decide +kernel)]; exact ⟨rfl, rfl⟩))
    (fun os started H enc _ => lifted os started H enc)
theorem proved : Rows.OccTellsSaid := over
#print axioms proved
end Go.Proofs.Ytekdmkdidnnpbaa.occTells
namespace Go.Proofs.Ytekdmkdidnnpbaa
/-- The row, under a short name, for the claim. -/
theorem occTells_holds : Rows.OccTellsSaid := occTells.proved
end Go.Proofs.Ytekdmkdidnnpbaa
