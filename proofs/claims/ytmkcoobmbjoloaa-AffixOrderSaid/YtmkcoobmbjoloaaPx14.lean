/- Proved here: what Go functions of this seat compute, or a law of it; no condition beyond the statement's own. Written for this claim by a program of this session (wip/myprint.py) over the kit's print.py. -/
import Derived.Test.YtmkcoobmbjoloaaPx0
import Derived.Test.YtmkcoobmbjoloaaPx56
import Derived.Test.YtmkcoobmbjoloaaPx68
import Derived.Test.YtmkcoobmbjoloaaPx69
import Derived.Test.YtmkcoobmbjoloaaPx71
import Derived.Test.YtmkcoobmbjoloaaPx72
import Derived.Test.YtmkcoobmbjoloaaH09
namespace Go.Proofs.Ytmkcoobmbjoloaa.P
open Go.RowKit Go.Proofs.YtmkcoobmbjoloaaW.PrintWords Go.Proofs.YtmkcoobmbjoloaaW.PrintLast Go.Proofs.YtmkcoobmbjoloaaW.PrintMore
attribute [local go_sem] max2_int min2_int max_two min_two max_three min_three max_four min_four   -- for this text's walks alone
set_option linter.unusedVariables false
set_option linter.unusedSimpArgs false

/-! ### juratlaw09_AffixOrder: function 14 -/
mutual
def juratlaw09_AffixOrder.j0 : Nat → ByteArray → ByteArray → ByteArray → List ByteArray → Int → Int → Bool → Option (Bool)
  | 0, _, _, _, _, _, _, _ => none
  | k + 1, x0, x1, x2, x3, x4, x5, x28 => if x28 = true then ((juratlaw09_awake.f k).bind fun t584 => (some t584)) else ((affix_Compare.f k x0 x1).bind fun t585 => ((affix_Compare.f k x1 x2).bind fun t586 => ((affix_Compare.f k x1 x0).bind fun t587 => (if t585 = (wrap64 (-t587)) then (if t585 ≤ 0 then (if t586 ≤ 0 then ((affix_Compare.f k x0 x2).bind fun t588 => (if t588 > 0 then (juratlaw09_AffixOrder.j1 k x3 x4 x5 true) else (juratlaw09_AffixOrder.j1 k x3 x4 x5 ((t585 == 0) != (x0.toList == x1.toList))))) else (juratlaw09_AffixOrder.j1 k x3 x4 x5 ((t585 == 0) != (x0.toList == x1.toList)))) else (juratlaw09_AffixOrder.j1 k x3 x4 x5 ((t585 == 0) != (x0.toList == x1.toList)))) else (juratlaw09_AffixOrder.j1 k x3 x4 x5 true)))))
def juratlaw09_AffixOrder.j1 : Nat → List ByteArray → Int → Int → Bool → Option (Bool)
  | 0, _, _, _, _ => none
  | k + 1, x3, x4, x5, x63 => if x63 = true then (some false) else ((affix_Sorted.f x3).bind fun t589 => (if (t589.length : Int) = (x3.length : Int) then ((affix_Shared.f k t589).bind fun t592 => (if x4 < 0 then (juratlaw09_AffixOrder.j2 k x4 x5 t589 t592 true) else (if x5 ≤ x4 then (juratlaw09_AffixOrder.j2 k x4 x5 t589 t592 true) else (if x5 ≥ (t589.length : Int) then (juratlaw09_AffixOrder.j2 k x4 x5 t589 t592 true) else (juratlaw09_AffixOrder.j2 k x4 x5 t589 t592 (decide (x5 ≥ (t592.length : Int)))))))) else (some false)))
def juratlaw09_AffixOrder.j2 : Nat → Int → Int → List ByteArray → List Int → Bool → Option (Bool)
  | 0, _, _, _, _, _ => none
  | k + 1, x4, x5, x15, x16, x91 => if x91 = true then (if (x16.length : Int) = (x15.length : Int) then ((juratlaw09_awake.f k).bind fun t595 => (some t595)) else (some false)) else (juratlaw09_AffixOrder.l0 k x4 x5 x15 x16 (wrap64 (x4 + 1)))
def juratlaw09_AffixOrder.l0 : Nat → Int → Int → List ByteArray → List Int → Int → Option (Bool)
  | 0, _, _, _, _, _ => none
  | k + 1, x4, x5, x15, x16, x17 => if x17 ≤ x5 then (if 0 ≤ x4 then (if x4 < (x15.length : Int) then (if 0 ≤ x5 then (if x5 < (x15.length : Int) then ((affix_Prefix.f k (rdOf ByteArray.empty x15 x4) (rdOf ByteArray.empty x15 x5)).bind fun t599 => (if 0 ≤ x17 then (if x17 < (x16.length : Int) then (if t599 > (rd x16 x17) then (some false) else (if 0 ≤ (wrap64 (x17 - 1)) then (if (wrap64 (x17 - 1)) < (x15.length : Int) then (if x17 < (x15.length : Int) then ((affix_Compare.f k (rdOf ByteArray.empty x15 (wrap64 (x17 - 1))) (rdOf ByteArray.empty x15 x17)).bind fun t603 => (if t603 > 0 then (some false) else (juratlaw09_AffixOrder.l0 k x4 x5 x15 x16 (wrap64 (x17 + 1))))) else (none)) else (none)) else (none))) else (none)) else (none))) else (none)) else (none)) else (none)) else (none)) else ((juratlaw09_awake.f k).bind fun t596 => (some t596))
end
def juratlaw09_AffixOrder.f (k : Nat) (a0 : ByteArray) (a1 : ByteArray) (a2 : ByteArray) (l3 : List ByteArray) (a4 : Int) (a5 : Int) : Option (Bool) := (juratref09_Few.f k l3 20 50).bind fun t579 => (if t579 = true then ((juratref09_Few.f k (([a0, a1, a2] : List ByteArray)) 3 50).bind fun t583 => (juratlaw09_AffixOrder.j0 k a0 a1 a2 l3 a4 a5 (!t583))) else (juratlaw09_AffixOrder.j0 k a0 a1 a2 l3 a4 a5 true))
theorem juratlaw09_AffixOrder.mono_l : ∀ k, (∀ y0 y1 y2 y3 y4 y5 y6, LeO (juratlaw09_AffixOrder.j0 k y0 y1 y2 y3 y4 y5 y6) (juratlaw09_AffixOrder.j0 (k + 1) y0 y1 y2 y3 y4 y5 y6)) ∧ (∀ y0 y1 y2 y3, LeO (juratlaw09_AffixOrder.j1 k y0 y1 y2 y3) (juratlaw09_AffixOrder.j1 (k + 1) y0 y1 y2 y3)) ∧ (∀ y0 y1 y2 y3 y4, LeO (juratlaw09_AffixOrder.j2 k y0 y1 y2 y3 y4) (juratlaw09_AffixOrder.j2 (k + 1) y0 y1 y2 y3 y4)) ∧ (∀ y0 y1 y2 y3 y4, LeO (juratlaw09_AffixOrder.l0 k y0 y1 y2 y3 y4) (juratlaw09_AffixOrder.l0 (k + 1) y0 y1 y2 y3 y4))
  | 0 => ⟨fun _ _ _ _ _ _ _ r h => by simp [juratlaw09_AffixOrder.j0] at h, fun _ _ _ _ r h => by simp [juratlaw09_AffixOrder.j1] at h, fun _ _ _ _ _ r h => by simp [juratlaw09_AffixOrder.j2] at h, fun _ _ _ _ _ r h => by simp [juratlaw09_AffixOrder.l0] at h⟩
  | k + 1 => by
    obtain ⟨ih0, ih1, ih2, ih3⟩ := juratlaw09_AffixOrder.mono_l k
    refine ⟨?_, ?_, ?_, ?_⟩
    · intro y0 y1 y2 y3 y4 y5 y6
      unfold juratlaw09_AffixOrder.j0
      repeat' first
      | (with_reducible exact ih0 _ _ _ _ _ _ _)
      | (with_reducible exact ih1 _ _ _ _)
      | (with_reducible exact ih2 _ _ _ _ _)
      | (with_reducible exact ih3 _ _ _ _ _)
      | (with_reducible exact affix_Compare.mono _ _ _)
      | (with_reducible exact affix_Prefix.mono _ _ _)
      | (with_reducible exact affix_Shared.mono _ _)
      | (with_reducible exact juratlaw09_awake.mono _)
      | (with_reducible exact juratref09_Few.mono _ _ _ _)
      | (with_reducible exact LeO.refl _)
      | (with_reducible exact LeO.none _)
      | (with_reducible refine LeO.ite ?_ ?_)
      | (with_reducible refine LeO.bind ?_ (fun _ => ?_))
      | exact ih0 _ _ _ _ _ _ _
      | exact ih1 _ _ _ _
      | exact ih2 _ _ _ _ _
      | exact ih3 _ _ _ _ _
      | exact affix_Compare.mono _ _ _
      | exact affix_Prefix.mono _ _ _
      | exact affix_Shared.mono _ _
      | exact juratlaw09_awake.mono _
      | exact juratref09_Few.mono _ _ _ _
      | exact LeO.none _
      | refine LeO.ite ?_ ?_
      | refine LeO.bind ?_ (fun _ => ?_)
    · intro y0 y1 y2 y3
      unfold juratlaw09_AffixOrder.j1
      repeat' first
      | (with_reducible exact ih0 _ _ _ _ _ _ _)
      | (with_reducible exact ih1 _ _ _ _)
      | (with_reducible exact ih2 _ _ _ _ _)
      | (with_reducible exact ih3 _ _ _ _ _)
      | (with_reducible exact affix_Compare.mono _ _ _)
      | (with_reducible exact affix_Prefix.mono _ _ _)
      | (with_reducible exact affix_Shared.mono _ _)
      | (with_reducible exact juratlaw09_awake.mono _)
      | (with_reducible exact juratref09_Few.mono _ _ _ _)
      | (with_reducible exact LeO.refl _)
      | (with_reducible exact LeO.none _)
      | (with_reducible refine LeO.ite ?_ ?_)
      | (with_reducible refine LeO.bind ?_ (fun _ => ?_))
      | exact ih0 _ _ _ _ _ _ _
      | exact ih1 _ _ _ _
      | exact ih2 _ _ _ _ _
      | exact ih3 _ _ _ _ _
      | exact affix_Compare.mono _ _ _
      | exact affix_Prefix.mono _ _ _
      | exact affix_Shared.mono _ _
      | exact juratlaw09_awake.mono _
      | exact juratref09_Few.mono _ _ _ _
      | exact LeO.none _
      | refine LeO.ite ?_ ?_
      | refine LeO.bind ?_ (fun _ => ?_)
    · intro y0 y1 y2 y3 y4
      unfold juratlaw09_AffixOrder.j2
      repeat' first
      | (with_reducible exact ih0 _ _ _ _ _ _ _)
      | (with_reducible exact ih1 _ _ _ _)
      | (with_reducible exact ih2 _ _ _ _ _)
      | (with_reducible exact ih3 _ _ _ _ _)
      | (with_reducible exact affix_Compare.mono _ _ _)
      | (with_reducible exact affix_Prefix.mono _ _ _)
      | (with_reducible exact affix_Shared.mono _ _)
      | (with_reducible exact juratlaw09_awake.mono _)
      | (with_reducible exact juratref09_Few.mono _ _ _ _)
      | (with_reducible exact LeO.refl _)
      | (with_reducible exact LeO.none _)
      | (with_reducible refine LeO.ite ?_ ?_)
      | (with_reducible refine LeO.bind ?_ (fun _ => ?_))
      | exact ih0 _ _ _ _ _ _ _
      | exact ih1 _ _ _ _
      | exact ih2 _ _ _ _ _
      | exact ih3 _ _ _ _ _
      | exact affix_Compare.mono _ _ _
      | exact affix_Prefix.mono _ _ _
      | exact affix_Shared.mono _ _
      | exact juratlaw09_awake.mono _
      | exact juratref09_Few.mono _ _ _ _
      | exact LeO.none _
      | refine LeO.ite ?_ ?_
      | refine LeO.bind ?_ (fun _ => ?_)
    · intro y0 y1 y2 y3 y4
      unfold juratlaw09_AffixOrder.l0
      repeat' first
      | (with_reducible exact ih0 _ _ _ _ _ _ _)
      | (with_reducible exact ih1 _ _ _ _)
      | (with_reducible exact ih2 _ _ _ _ _)
      | (with_reducible exact ih3 _ _ _ _ _)
      | (with_reducible exact affix_Compare.mono _ _ _)
      | (with_reducible exact affix_Prefix.mono _ _ _)
      | (with_reducible exact affix_Shared.mono _ _)
      | (with_reducible exact juratlaw09_awake.mono _)
      | (with_reducible exact juratref09_Few.mono _ _ _ _)
      | (with_reducible exact LeO.refl _)
      | (with_reducible exact LeO.none _)
      | (with_reducible refine LeO.ite ?_ ?_)
      | (with_reducible refine LeO.bind ?_ (fun _ => ?_))
      | exact ih0 _ _ _ _ _ _ _
      | exact ih1 _ _ _ _
      | exact ih2 _ _ _ _ _
      | exact ih3 _ _ _ _ _
      | exact affix_Compare.mono _ _ _
      | exact affix_Prefix.mono _ _ _
      | exact affix_Shared.mono _ _
      | exact juratlaw09_awake.mono _
      | exact juratref09_Few.mono _ _ _ _
      | exact LeO.none _
      | refine LeO.ite ?_ ?_
      | refine LeO.bind ?_ (fun _ => ?_)
theorem juratlaw09_AffixOrder.mono : ∀ a0 a1 a2 a3 a4 a5 k, LeO (juratlaw09_AffixOrder.f k a0 a1 a2 a3 a4 a5) (juratlaw09_AffixOrder.f (k + 1) a0 a1 a2 a3 a4 a5) := by
  intro a0 a1 a2 a3 a4 a5 k
  obtain ⟨ih0, ih1, ih2, ih3⟩ := juratlaw09_AffixOrder.mono_l k
  unfold juratlaw09_AffixOrder.f
  repeat' first
      | (with_reducible exact ih0 _ _ _ _ _ _ _)
      | (with_reducible exact ih1 _ _ _ _)
      | (with_reducible exact ih2 _ _ _ _ _)
      | (with_reducible exact ih3 _ _ _ _ _)
      | (with_reducible exact affix_Compare.mono _ _ _)
      | (with_reducible exact affix_Prefix.mono _ _ _)
      | (with_reducible exact affix_Shared.mono _ _)
      | (with_reducible exact juratlaw09_awake.mono _)
      | (with_reducible exact juratref09_Few.mono _ _ _ _)
      | (with_reducible exact LeO.refl _)
      | (with_reducible exact LeO.none _)
      | (with_reducible refine LeO.ite ?_ ?_)
      | (with_reducible refine LeO.bind ?_ (fun _ => ?_))
      | exact ih0 _ _ _ _ _ _ _
      | exact ih1 _ _ _ _
      | exact ih2 _ _ _ _ _
      | exact ih3 _ _ _ _ _
      | exact affix_Compare.mono _ _ _
      | exact affix_Prefix.mono _ _ _
      | exact affix_Shared.mono _ _
      | exact juratlaw09_awake.mono _
      | exact juratref09_Few.mono _ _ _ _
      | exact LeO.none _
      | refine LeO.ite ?_ ?_
      | refine LeO.bind ?_ (fun _ => ?_)
set_option maxHeartbeats 8000000 in
set_option maxRecDepth 100000 in
theorem juratlaw09_AffixOrder.calls (k : Nat) (a0 : ByteArray) (a1 : ByteArray) (a2 : ByteArray) (A3 : Option Addr) (c3 : Nat) (l3 : List ByteArray) (a4 : Int) (a5 : Int) (r : Bool) (w : World) (hr3 : Kd.C Kd.string w A3 l3.length l3) (hc3 : l3.length ≤ c3) (h : juratlaw09_AffixOrder.f k a0 a1 a2 l3 a4 a5 = some r) :
    Calls Try.prog 14 #[.string a0, .string a1, .string a2, .slice A3 l3.length c3, .int .i64 a4, .int .i64 a5] w fun e w' => e = .returned (.bool r) ∧ Below w.heap.size w w' := by
  have HR3 := Aside0.mk hr3
  have HC3 := Aside0.mk hc3
  clear hr3 hc3
  have HB := Aside0.mk (Below.refl w.heap.size w)
  have H : ((juratref09_Few.f k l3 20 50).bind fun t579 => (if t579 = true then ((juratref09_Few.f k (([a0, a1, a2] : List ByteArray)) 3 50).bind fun t583 => (juratlaw09_AffixOrder.j0 k a0 a1 a2 l3 a4 a5 (!t583))) else (juratlaw09_AffixOrder.j0 k a0 a1 a2 l3 a4 a5 true))) = some r := h
  clear h
  have HC7 := Aside0.mk H
  clear H
  go_enter Try.func14, Try.ntmps14
  go_upto_region 1 with (fail)
  repeat (go_quiet (fail); go_upto_region 1 with (fail))
  go_cut [28] (fun v28 wc => ∃ (kq : Nat) (x28_6 : Bool), v28 = .bool x28_6 ∧ Aside0 (juratlaw09_AffixOrder.j0 kq a0 a1 a2 l3 a4 a5 x28_6 = some r) ∧ Aside0 (kq ≤ k) ∧ Aside0 (Below w.heap.size w wc))
  case first =>
    have H := HC7.out
    clear HC7
    replace H := Option.bind_eq_some_iff.mp H
    obtain ⟨t579, A80, H⟩ := H
    replace H : (if t579 = true then ((juratref09_Few.f k (([a0, a1, a2] : List ByteArray)) 3 50).bind fun t583 => (juratlaw09_AffixOrder.j0 k a0 a1 a2 l3 a4 a5 (!t583))) else (juratlaw09_AffixOrder.j0 k a0 a1 a2 l3 a4 a5 true)) = some r := H
    have A8 := Aside0.mk A80
    clear A80
    by_cases c9 : t579 = true
    · subst c9
      have H1 : ((juratref09_Few.f k (([a0, a1, a2] : List ByteArray)) 3 50).bind fun t583 => (juratlaw09_AffixOrder.j0 k a0 a1 a2 l3 a4 a5 (!t583))) = some r := by rw [if_pos rfl] at H; exact H
      clear H
      have H := H1
      clear H1
      obtain ⟨y580, hy580⟩ : ∃ y_ : List ByteArray, y_ = (([a0, a1, a2] : List ByteArray)) := ⟨_, rfl⟩
      replace H : ((juratref09_Few.f k y580 3 50).bind fun t583 => (juratlaw09_AffixOrder.j0 k a0 a1 a2 l3 a4 a5 (!t583))) = some r := by first | (rw [hy580]; with_reducible exact H) | (have H2_ := (Option.bind_some _ _).symm.trans H; rw [hy580]; with_reducible exact H2_) | (have H2_ := (Option.bind_some _ _).symm.trans H; with_reducible exact H2_) | with_reducible exact H | (rw [hy580]; exact H) | exact H
      have Ny580 := Aside0.mk hy580
      clear hy580
      replace H := Option.bind_eq_some_iff.mp H
      obtain ⟨t583, A100, H⟩ := H
      replace H : (juratlaw09_AffixOrder.j0 k a0 a1 a2 l3 a4 a5 (!t583)) = some r := H
      have A10 := Aside0.mk A100
      clear A100
      have H' := Aside0.mk H
      clear H
      go_wp2_with (first | (go_at_call 56; (with_reducible refine (juratref09_Few.calls k _ _ l3 20 50 true _ ?side1 ?side2 A8.out).mono ?_); (case side1 => repeat (first | exact (Kd.C_below HR3.out HB.out) | (with_reducible refine Kd.C_alloc ?_ _) | (with_reducible refine Kd.C_drewN ?_ _) | (with_reducible refine Kd.C_drew ?_))); (case side2 => exact HC3.out); rintro e w' ⟨rfl, ⟨nd, rfl⟩⟩; (try first | exact ⟨rfl, _, World.drewN_drewN _ _ _⟩ | exact ⟨rfl, _, Eq.trans (World.drewN_drewN _ _ _) (congrArg (World.drewN _) (Nat.add_assoc _ _ _))⟩)) | ((with_reducible refine gate_dst (N := 25) rfl ?_); (try (refine gate_guard (by rfl) ?_; dsimp only)); refine Kd.R_lit Kd.string _ 9 ?hg (N := 25) ?hd (xs := ([a0, a1, a2] : List ByteArray)) (inner := [.string a0, .string a1, .string a2]) (ok := fun _ => True) (okp := fun _ => True) ?hr ?hp (fun _ hk => hk) trivial (Below.refl _ _) (Nat.le_refl _) (by simp) ?_; (case hd => rfl); (case hg => rfl); (case hr => first | (go_simp; done) | (go_simp; rfl)); (case hp => exact (Reps.one (show Kd.M Kd.string _ _ _ a0 [.string a0] from rfl) (Reps.one (show Kd.M Kd.string _ _ _ a1 [.string a1] from rfl) (Reps.one (show Kd.M Kd.string _ _ _ a2 [.string a2] from rfl) (Reps.none _ _))))); intro v581 w11 ho12 hb hg_ hnew_; clear hg_ hnew_; (first | rw [← Ny580.out] at ho12 | (simp only [Int.reduceToNat] at ho12; rw [← Ny580.out] at ho12)); have n0_ := Aside0.mk (Kd.R_lower ho12 (below_size (by repeat (first | (with_reducible first | exact HB.out | apply below_alloc | apply pw_below_drewN | apply below_drew1) | exact HB.out)))); have n1_ := Aside0.mk (below_step (by repeat (first | (with_reducible first | exact HB.out | apply below_alloc | apply pw_below_drewN | apply below_drew1) | exact HB.out)) hb); clear HB; have HO582 := n0_; have HB := n1_; clear n0_ n1_; clear hb ho12; obtain ⟨Ao13, co13, eo13⟩ := Kd.R_slice HO582.out; subst eo13) | (go_at_call 56; (with_reducible refine (juratref09_Few.calls k _ _ y580 3 50 t583 _ ?side1 ?side2 A10.out).mono ?_); (case side1 => repeat (first | exact (Kd.R_reads' HO582.out).2.2 | (with_reducible refine Kd.C_alloc ?_ _) | (with_reducible refine Kd.C_drewN ?_ _) | (with_reducible refine Kd.C_drew ?_))); (case side2 => exact (Kd.R_reads' HO582.out).2.1); rintro e w' ⟨rfl, ⟨nd, rfl⟩⟩; (try first | exact ⟨rfl, _, World.drewN_drewN _ _ _⟩ | exact ⟨rfl, _, Eq.trans (World.drewN_drewN _ _ _) (congrArg (World.drewN _) (Nat.add_assoc _ _ _))⟩)))
      have tk0_ : True := trivial
      have tk1_ : True := trivial
      have tk2_ : True := trivial
      have tk3_ : True := trivial
      repeat (go_quiet (first | (go_at_call 56; (clear tk0_); (with_reducible refine (juratref09_Few.calls k _ _ l3 20 50 true _ ?side1 ?side2 A8.out).mono ?_); (case side1 => repeat (first | exact (Kd.C_below HR3.out HB.out) | (with_reducible refine Kd.C_alloc ?_ _) | (with_reducible refine Kd.C_drewN ?_ _) | (with_reducible refine Kd.C_drew ?_))); (case side2 => exact HC3.out); rintro e w' ⟨rfl, ⟨nd, rfl⟩⟩; (try first | exact ⟨rfl, _, World.drewN_drewN _ _ _⟩ | exact ⟨rfl, _, Eq.trans (World.drewN_drewN _ _ _) (congrArg (World.drewN _) (Nat.add_assoc _ _ _))⟩)) | ((with_reducible refine gate_dst (N := 25) rfl ?_); (try (refine gate_guard (by rfl) ?_; dsimp only)); refine Kd.R_lit Kd.string _ 9 ?hg (N := 25) ?hd (xs := ([a0, a1, a2] : List ByteArray)) (inner := [.string a0, .string a1, .string a2]) (ok := fun _ => True) (okp := fun _ => True) ?hr ?hp (fun _ hk => hk) trivial (Below.refl _ _) (Nat.le_refl _) (by simp) ?_; (case hd => rfl); (case hg => rfl); (case hr => first | (go_simp; done) | (go_simp; rfl)); (case hp => exact (Reps.one (show Kd.M Kd.string _ _ _ a0 [.string a0] from rfl) (Reps.one (show Kd.M Kd.string _ _ _ a1 [.string a1] from rfl) (Reps.one (show Kd.M Kd.string _ _ _ a2 [.string a2] from rfl) (Reps.none _ _))))); intro v581 w11 ho12 hb hg_ hnew_; clear hg_ hnew_; (first | rw [← Ny580.out] at ho12 | (simp only [Int.reduceToNat] at ho12; rw [← Ny580.out] at ho12)); have n0_ := Aside0.mk (Kd.R_lower ho12 (below_size (by repeat (first | (with_reducible first | exact HB.out | apply below_alloc | apply pw_below_drewN | apply below_drew1) | exact HB.out)))); have n1_ := Aside0.mk (below_step (by repeat (first | (with_reducible first | exact HB.out | apply below_alloc | apply pw_below_drewN | apply below_drew1) | exact HB.out)) hb); clear HB; have HO582 := n0_; have HB := n1_; clear n0_ n1_; clear hb ho12; obtain ⟨Ao13, co13, eo13⟩ := Kd.R_slice HO582.out; subst eo13) | (go_at_call 56; (clear tk1_); (with_reducible refine (juratref09_Few.calls k _ _ y580 3 50 t583 _ ?side1 ?side2 A10.out).mono ?_); (case side1 => repeat (first | exact (Kd.R_reads' HO582.out).2.2 | (with_reducible refine Kd.C_alloc ?_ _) | (with_reducible refine Kd.C_drewN ?_ _) | (with_reducible refine Kd.C_drew ?_))); (case side2 => exact (Kd.R_reads' HO582.out).2.1); rintro e w' ⟨rfl, ⟨nd, rfl⟩⟩; (try first | exact ⟨rfl, _, World.drewN_drewN _ _ _⟩ | exact ⟨rfl, _, Eq.trans (World.drewN_drewN _ _ _) (congrArg (World.drewN _) (Nat.add_assoc _ _ _))⟩))); try go_wp2_with (first | (go_at_call 56; (clear tk2_); (with_reducible refine (juratref09_Few.calls k _ _ l3 20 50 true _ ?side1 ?side2 A8.out).mono ?_); (case side1 => repeat (first | exact (Kd.C_below HR3.out HB.out) | (with_reducible refine Kd.C_alloc ?_ _) | (with_reducible refine Kd.C_drewN ?_ _) | (with_reducible refine Kd.C_drew ?_))); (case side2 => exact HC3.out); rintro e w' ⟨rfl, ⟨nd, rfl⟩⟩; (try first | exact ⟨rfl, _, World.drewN_drewN _ _ _⟩ | exact ⟨rfl, _, Eq.trans (World.drewN_drewN _ _ _) (congrArg (World.drewN _) (Nat.add_assoc _ _ _))⟩)) | ((with_reducible refine gate_dst (N := 25) rfl ?_); (try (refine gate_guard (by rfl) ?_; dsimp only)); refine Kd.R_lit Kd.string _ 9 ?hg (N := 25) ?hd (xs := ([a0, a1, a2] : List ByteArray)) (inner := [.string a0, .string a1, .string a2]) (ok := fun _ => True) (okp := fun _ => True) ?hr ?hp (fun _ hk => hk) trivial (Below.refl _ _) (Nat.le_refl _) (by simp) ?_; (case hd => rfl); (case hg => rfl); (case hr => first | (go_simp; done) | (go_simp; rfl)); (case hp => exact (Reps.one (show Kd.M Kd.string _ _ _ a0 [.string a0] from rfl) (Reps.one (show Kd.M Kd.string _ _ _ a1 [.string a1] from rfl) (Reps.one (show Kd.M Kd.string _ _ _ a2 [.string a2] from rfl) (Reps.none _ _))))); intro v581 w11 ho12 hb hg_ hnew_; clear hg_ hnew_; (first | rw [← Ny580.out] at ho12 | (simp only [Int.reduceToNat] at ho12; rw [← Ny580.out] at ho12)); have n0_ := Aside0.mk (Kd.R_lower ho12 (below_size (by repeat (first | (with_reducible first | exact HB.out | apply below_alloc | apply pw_below_drewN | apply below_drew1) | exact HB.out)))); have n1_ := Aside0.mk (below_step (by repeat (first | (with_reducible first | exact HB.out | apply below_alloc | apply pw_below_drewN | apply below_drew1) | exact HB.out)) hb); clear HB; have HO582 := n0_; have HB := n1_; clear n0_ n1_; clear hb ho12; obtain ⟨Ao13, co13, eo13⟩ := Kd.R_slice HO582.out; subst eo13) | (go_at_call 56; (clear tk3_); (with_reducible refine (juratref09_Few.calls k _ _ y580 3 50 t583 _ ?side1 ?side2 A10.out).mono ?_); (case side1 => repeat (first | exact (Kd.R_reads' HO582.out).2.2 | (with_reducible refine Kd.C_alloc ?_ _) | (with_reducible refine Kd.C_drewN ?_ _) | (with_reducible refine Kd.C_drew ?_))); (case side2 => exact (Kd.R_reads' HO582.out).2.1); rintro e w' ⟨rfl, ⟨nd, rfl⟩⟩; (try first | exact ⟨rfl, _, World.drewN_drewN _ _ _⟩ | exact ⟨rfl, _, Eq.trans (World.drewN_drewN _ _ _) (congrArg (World.drewN _) (Nat.add_assoc _ _ _))⟩))))
      go_meet
      case rel => exact ⟨_, (!t583), (by first | rfl | exact isE_ _ | exact isE2_ _ | (simp; done) | (simp [*]; done)), H', ⟨by first | omega | exact Nat.le_refl _⟩, ⟨by repeat (first | (with_reducible first | exact HB.out | apply below_alloc | apply pw_below_drewN | apply below_drew1) | exact HB.out)⟩⟩
    · replace c9 := Bool.eq_false_iff.mpr c9
      subst c9
      have H1 : (juratlaw09_AffixOrder.j0 k a0 a1 a2 l3 a4 a5 true) = some r := by rw [if_neg (show ¬ (false = true) by decide)] at H; exact H
      clear H
      have H := H1
      clear H1
      have H' := Aside0.mk H
      clear H
      go_wp2_with (first | (go_at_call 56; (with_reducible refine (juratref09_Few.calls k _ _ l3 20 50 false _ ?side1 ?side2 A8.out).mono ?_); (case side1 => repeat (first | exact (Kd.C_below HR3.out HB.out) | (with_reducible refine Kd.C_alloc ?_ _) | (with_reducible refine Kd.C_drewN ?_ _) | (with_reducible refine Kd.C_drew ?_))); (case side2 => exact HC3.out); rintro e w' ⟨rfl, ⟨nd, rfl⟩⟩; (try first | exact ⟨rfl, _, World.drewN_drewN _ _ _⟩ | exact ⟨rfl, _, Eq.trans (World.drewN_drewN _ _ _) (congrArg (World.drewN _) (Nat.add_assoc _ _ _))⟩)))
      have tk0_ : True := trivial
      have tk1_ : True := trivial
      repeat (go_quiet (first | (go_at_call 56; (clear tk0_); (with_reducible refine (juratref09_Few.calls k _ _ l3 20 50 false _ ?side1 ?side2 A8.out).mono ?_); (case side1 => repeat (first | exact (Kd.C_below HR3.out HB.out) | (with_reducible refine Kd.C_alloc ?_ _) | (with_reducible refine Kd.C_drewN ?_ _) | (with_reducible refine Kd.C_drew ?_))); (case side2 => exact HC3.out); rintro e w' ⟨rfl, ⟨nd, rfl⟩⟩; (try first | exact ⟨rfl, _, World.drewN_drewN _ _ _⟩ | exact ⟨rfl, _, Eq.trans (World.drewN_drewN _ _ _) (congrArg (World.drewN _) (Nat.add_assoc _ _ _))⟩))); try go_wp2_with (first | (go_at_call 56; (clear tk1_); (with_reducible refine (juratref09_Few.calls k _ _ l3 20 50 false _ ?side1 ?side2 A8.out).mono ?_); (case side1 => repeat (first | exact (Kd.C_below HR3.out HB.out) | (with_reducible refine Kd.C_alloc ?_ _) | (with_reducible refine Kd.C_drewN ?_ _) | (with_reducible refine Kd.C_drew ?_))); (case side2 => exact HC3.out); rintro e w' ⟨rfl, ⟨nd, rfl⟩⟩; (try first | exact ⟨rfl, _, World.drewN_drewN _ _ _⟩ | exact ⟨rfl, _, Eq.trans (World.drewN_drewN _ _ _) (congrArg (World.drewN _) (Nat.add_assoc _ _ _))⟩))))
      go_meet
      case rel => exact ⟨_, (true), (by first | rfl | exact isE_ _ | exact isE2_ _ | (simp; done) | (simp [*]; done)), H', ⟨by first | omega | exact Nat.le_refl _⟩, ⟨by repeat (first | (with_reducible first | exact HB.out | apply below_alloc | apply pw_below_drewN | apply below_drew1) | exact HB.out)⟩⟩
  case rest =>
    clear HC7
    try clear c1
    try clear p2
    try clear c3
    try clear c9
    obtain ⟨kq, x28_6, rfl, HA, HJ6, HB⟩ := hcut
    cases kq with
    | zero => exact absurd HA.out (by simp [juratlaw09_AffixOrder.j0])
    | succ kj6 =>
      have H := HA.out
      clear HA
      simp only [juratlaw09_AffixOrder.j0] at H
      by_cases c14 : x28_6 = true
      · subst c14
        have H1 : ((juratlaw09_awake.f kj6).bind fun t584 => (some t584)) = some r := by rw [if_pos rfl] at H; exact H
        clear H
        have H := H1
        clear H1
        replace H := Option.bind_eq_some_iff.mp H
        obtain ⟨t584, A150, H⟩ := H
        replace H : (some t584) = some r := H
        have A15 := Aside0.mk A150
        clear A150
        obtain rfl := Option.some.inj H
        go_wp2_with (first | (go_at_call 68; (with_reducible refine (juratlaw09_awake.calls kj6  t584 _ A15.out).mono ?_); rintro e w16 ⟨rfl, hb⟩; have n0_ := Aside0.mk (below_step (by repeat (first | (with_reducible first | exact HB.out | apply below_alloc | apply pw_below_drewN | apply below_drew1) | exact HB.out)) hb); clear HB; have HB := n0_; clear n0_; (try clear hb); (try clear hb2); (try clear hk); (try clear hi)))
        repeat (go_quiet (first | (go_at_call 68; (with_reducible refine (juratlaw09_awake.calls kj6  t584 _ A15.out).mono ?_); rintro e w16 ⟨rfl, hb⟩; have n0_ := Aside0.mk (below_step (by repeat (first | (with_reducible first | exact HB.out | apply below_alloc | apply pw_below_drewN | apply below_drew1) | exact HB.out)) hb); clear HB; have HB := n0_; clear n0_; (try clear hb); (try clear hb2); (try clear hk); (try clear hi))); try go_wp2_with (first | (go_at_call 68; (with_reducible refine (juratlaw09_awake.calls kj6  t584 _ A15.out).mono ?_); rintro e w16 ⟨rfl, hb⟩; have n0_ := Aside0.mk (below_step (by repeat (first | (with_reducible first | exact HB.out | apply below_alloc | apply pw_below_drewN | apply below_drew1) | exact HB.out)) hb); clear HB; have HB := n0_; clear n0_; (try clear hb); (try clear hb2); (try clear hk); (try clear hi))))
        go_ret
        exact ⟨by first | rfl | (simp [errW_none, errW_some] <;> rfl) | (simp [*, errW_none, errW_some] <;> rfl), by repeat (first | (with_reducible first | exact HB.out | apply below_alloc | apply pw_below_drewN | apply below_drew1) | exact HB.out)⟩
      · replace c14 := Bool.eq_false_iff.mpr c14
        subst c14
        have H1 : ((affix_Compare.f kj6 a0 a1).bind fun t585 => ((affix_Compare.f kj6 a1 a2).bind fun t586 => ((affix_Compare.f kj6 a1 a0).bind fun t587 => (if t585 = (wrap64 (-t587)) then (if t585 ≤ 0 then (if t586 ≤ 0 then ((affix_Compare.f kj6 a0 a2).bind fun t588 => (if t588 > 0 then (juratlaw09_AffixOrder.j1 kj6 l3 a4 a5 true) else (juratlaw09_AffixOrder.j1 kj6 l3 a4 a5 ((t585 == 0) != (a0.toList == a1.toList))))) else (juratlaw09_AffixOrder.j1 kj6 l3 a4 a5 ((t585 == 0) != (a0.toList == a1.toList)))) else (juratlaw09_AffixOrder.j1 kj6 l3 a4 a5 ((t585 == 0) != (a0.toList == a1.toList)))) else (juratlaw09_AffixOrder.j1 kj6 l3 a4 a5 true))))) = some r := by rw [if_neg (show ¬ (false = true) by decide)] at H; exact H
        clear H
        have H := H1
        clear H1
        replace H := Option.bind_eq_some_iff.mp H
        obtain ⟨t585, A170, H⟩ := H
        replace H : ((affix_Compare.f kj6 a1 a2).bind fun t586 => ((affix_Compare.f kj6 a1 a0).bind fun t587 => (if t585 = (wrap64 (-t587)) then (if t585 ≤ 0 then (if t586 ≤ 0 then ((affix_Compare.f kj6 a0 a2).bind fun t588 => (if t588 > 0 then (juratlaw09_AffixOrder.j1 kj6 l3 a4 a5 true) else (juratlaw09_AffixOrder.j1 kj6 l3 a4 a5 ((t585 == 0) != (a0.toList == a1.toList))))) else (juratlaw09_AffixOrder.j1 kj6 l3 a4 a5 ((t585 == 0) != (a0.toList == a1.toList)))) else (juratlaw09_AffixOrder.j1 kj6 l3 a4 a5 ((t585 == 0) != (a0.toList == a1.toList)))) else (juratlaw09_AffixOrder.j1 kj6 l3 a4 a5 true)))) = some r := H
        have A17 := Aside0.mk A170
        clear A170
        replace H := Option.bind_eq_some_iff.mp H
        obtain ⟨t586, A180, H⟩ := H
        replace H : ((affix_Compare.f kj6 a1 a0).bind fun t587 => (if t585 = (wrap64 (-t587)) then (if t585 ≤ 0 then (if t586 ≤ 0 then ((affix_Compare.f kj6 a0 a2).bind fun t588 => (if t588 > 0 then (juratlaw09_AffixOrder.j1 kj6 l3 a4 a5 true) else (juratlaw09_AffixOrder.j1 kj6 l3 a4 a5 ((t585 == 0) != (a0.toList == a1.toList))))) else (juratlaw09_AffixOrder.j1 kj6 l3 a4 a5 ((t585 == 0) != (a0.toList == a1.toList)))) else (juratlaw09_AffixOrder.j1 kj6 l3 a4 a5 ((t585 == 0) != (a0.toList == a1.toList)))) else (juratlaw09_AffixOrder.j1 kj6 l3 a4 a5 true))) = some r := H
        have A18 := Aside0.mk A180
        clear A180
        have HC19 := Aside0.mk H
        clear H
        go_upto_region 4 with (first | (go_at_call 69; (with_reducible refine (affix_Compare.calls kj6 a0 a1 t585 _ A17.out).mono ?_); rintro e w' ⟨rfl, ⟨nd, rfl⟩⟩; (try first | exact ⟨rfl, _, World.drewN_drewN _ _ _⟩ | exact ⟨rfl, _, Eq.trans (World.drewN_drewN _ _ _) (congrArg (World.drewN _) (Nat.add_assoc _ _ _))⟩)) | (go_at_call 69; (with_reducible refine (affix_Compare.calls kj6 a1 a2 t586 _ A18.out).mono ?_); rintro e w' ⟨rfl, ⟨nd, rfl⟩⟩; (try first | exact ⟨rfl, _, World.drewN_drewN _ _ _⟩ | exact ⟨rfl, _, Eq.trans (World.drewN_drewN _ _ _) (congrArg (World.drewN _) (Nat.add_assoc _ _ _))⟩)))
        repeat (go_quiet (first | (go_at_call 69; (with_reducible refine (affix_Compare.calls kj6 a0 a1 t585 _ A17.out).mono ?_); rintro e w' ⟨rfl, ⟨nd, rfl⟩⟩; (try first | exact ⟨rfl, _, World.drewN_drewN _ _ _⟩ | exact ⟨rfl, _, Eq.trans (World.drewN_drewN _ _ _) (congrArg (World.drewN _) (Nat.add_assoc _ _ _))⟩)) | (go_at_call 69; (with_reducible refine (affix_Compare.calls kj6 a1 a2 t586 _ A18.out).mono ?_); rintro e w' ⟨rfl, ⟨nd, rfl⟩⟩; (try first | exact ⟨rfl, _, World.drewN_drewN _ _ _⟩ | exact ⟨rfl, _, Eq.trans (World.drewN_drewN _ _ _) (congrArg (World.drewN _) (Nat.add_assoc _ _ _))⟩))); go_upto_region 4 with (first | (go_at_call 69; (with_reducible refine (affix_Compare.calls kj6 a0 a1 t585 _ A17.out).mono ?_); rintro e w' ⟨rfl, ⟨nd, rfl⟩⟩; (try first | exact ⟨rfl, _, World.drewN_drewN _ _ _⟩ | exact ⟨rfl, _, Eq.trans (World.drewN_drewN _ _ _) (congrArg (World.drewN _) (Nat.add_assoc _ _ _))⟩)) | (go_at_call 69; (with_reducible refine (affix_Compare.calls kj6 a1 a2 t586 _ A18.out).mono ?_); rintro e w' ⟨rfl, ⟨nd, rfl⟩⟩; (try first | exact ⟨rfl, _, World.drewN_drewN _ _ _⟩ | exact ⟨rfl, _, Eq.trans (World.drewN_drewN _ _ _) (congrArg (World.drewN _) (Nat.add_assoc _ _ _))⟩))))
        (try simp only [Act.put, List.setIfInBounds_toArray, List.set_cons_zero, List.set_cons_succ])
        go_cut [63] (fun v63 wc => ∃ (kq : Nat) (x63_18 : Bool), v63 = .bool x63_18 ∧ Aside0 (juratlaw09_AffixOrder.j1 kq l3 a4 a5 x63_18 = some r) ∧ Aside0 (kq ≤ kj6) ∧ Aside0 (Below w.heap.size w wc))
        case first =>
          have H := HC19.out
          clear HC19
          replace H := Option.bind_eq_some_iff.mp H
          obtain ⟨t587, A200, H⟩ := H
          replace H : (if t585 = (wrap64 (-t587)) then (if t585 ≤ 0 then (if t586 ≤ 0 then ((affix_Compare.f kj6 a0 a2).bind fun t588 => (if t588 > 0 then (juratlaw09_AffixOrder.j1 kj6 l3 a4 a5 true) else (juratlaw09_AffixOrder.j1 kj6 l3 a4 a5 ((t585 == 0) != (a0.toList == a1.toList))))) else (juratlaw09_AffixOrder.j1 kj6 l3 a4 a5 ((t585 == 0) != (a0.toList == a1.toList)))) else (juratlaw09_AffixOrder.j1 kj6 l3 a4 a5 ((t585 == 0) != (a0.toList == a1.toList)))) else (juratlaw09_AffixOrder.j1 kj6 l3 a4 a5 true)) = some r := H
          have A20 := Aside0.mk A200
          clear A200
          by_cases c21 : t585 = (wrap64 (-t587))
          · rw [if_pos c21] at H
            have c21b0 : (t585 == (wrap64 (-t587))) = true := beq_iff_eq.mpr c21
            have c21b1 : (t585 != (wrap64 (-t587))) = false := bne_eq_false_iff_eq.mpr c21
            clear c21
            (first | rw [c21b0] | rw [c21b1] | (simp only [i64_w, i32_w]; rw [c21b0]) | skip)
            by_cases c22 : t585 ≤ 0
            · rw [if_pos c22] at H
              have c22b0 : decide (t585 ≤ 0) = true := decide_eq_true c22
              clear c22
              by_cases c23 : t586 ≤ 0
              · rw [if_pos c23] at H
                have c23b0 : decide (t586 ≤ 0) = true := decide_eq_true c23
                clear c23
                replace H := Option.bind_eq_some_iff.mp H
                obtain ⟨t588, A240, H⟩ := H
                replace H : (if t588 > 0 then (juratlaw09_AffixOrder.j1 kj6 l3 a4 a5 true) else (juratlaw09_AffixOrder.j1 kj6 l3 a4 a5 ((t585 == 0) != (a0.toList == a1.toList)))) = some r := H
                have A24 := Aside0.mk A240
                clear A240
                by_cases c25 : t588 > 0
                · rw [if_pos c25] at H
                  have c25b0 : decide (0 < t588) = true := decide_eq_true c25
                  clear c25
                  have H' := Aside0.mk H
                  clear H
                  go_wp2_with (first | (go_at_call 69; (with_reducible refine (affix_Compare.calls kj6 a1 a0 t587 _ A20.out).mono ?_); rintro e w' ⟨rfl, ⟨nd, rfl⟩⟩; (try first | exact ⟨rfl, _, World.drewN_drewN _ _ _⟩ | exact ⟨rfl, _, Eq.trans (World.drewN_drewN _ _ _) (congrArg (World.drewN _) (Nat.add_assoc _ _ _))⟩)) | (go_at_call 69; (with_reducible refine (affix_Compare.calls kj6 a0 a2 t588 _ A24.out).mono ?_); rintro e w' ⟨rfl, ⟨nd, rfl⟩⟩; (try first | exact ⟨rfl, _, World.drewN_drewN _ _ _⟩ | exact ⟨rfl, _, Eq.trans (World.drewN_drewN _ _ _) (congrArg (World.drewN _) (Nat.add_assoc _ _ _))⟩)))
                  repeat (go_quiet (first | (go_at_call 69; (with_reducible refine (affix_Compare.calls kj6 a1 a0 t587 _ A20.out).mono ?_); rintro e w' ⟨rfl, ⟨nd, rfl⟩⟩; (try first | exact ⟨rfl, _, World.drewN_drewN _ _ _⟩ | exact ⟨rfl, _, Eq.trans (World.drewN_drewN _ _ _) (congrArg (World.drewN _) (Nat.add_assoc _ _ _))⟩)) | (go_at_call 69; (with_reducible refine (affix_Compare.calls kj6 a0 a2 t588 _ A24.out).mono ?_); rintro e w' ⟨rfl, ⟨nd, rfl⟩⟩; (try first | exact ⟨rfl, _, World.drewN_drewN _ _ _⟩ | exact ⟨rfl, _, Eq.trans (World.drewN_drewN _ _ _) (congrArg (World.drewN _) (Nat.add_assoc _ _ _))⟩))); try go_wp2_with (first | (go_at_call 69; (with_reducible refine (affix_Compare.calls kj6 a1 a0 t587 _ A20.out).mono ?_); rintro e w' ⟨rfl, ⟨nd, rfl⟩⟩; (try first | exact ⟨rfl, _, World.drewN_drewN _ _ _⟩ | exact ⟨rfl, _, Eq.trans (World.drewN_drewN _ _ _) (congrArg (World.drewN _) (Nat.add_assoc _ _ _))⟩)) | (go_at_call 69; (with_reducible refine (affix_Compare.calls kj6 a0 a2 t588 _ A24.out).mono ?_); rintro e w' ⟨rfl, ⟨nd, rfl⟩⟩; (try first | exact ⟨rfl, _, World.drewN_drewN _ _ _⟩ | exact ⟨rfl, _, Eq.trans (World.drewN_drewN _ _ _) (congrArg (World.drewN _) (Nat.add_assoc _ _ _))⟩))))
                  go_meet
                  case rel => exact ⟨_, (true), (by first | rfl | exact isE_ _ | exact isE2_ _ | (simp; done) | (simp [*]; done)), H', ⟨by have := HJ6.out; first | omega | exact Nat.le_refl _⟩, ⟨by repeat (first | (with_reducible first | exact HB.out | apply below_alloc | apply pw_below_drewN | apply below_drew1) | exact HB.out)⟩⟩
                · rw [if_neg c25] at H
                  have c25b0 : decide (0 < t588) = false := decide_eq_false c25
                  clear c25
                  have H' := Aside0.mk H
                  clear H
                  go_wp2_with (first | (go_at_call 69; (with_reducible refine (affix_Compare.calls kj6 a1 a0 t587 _ A20.out).mono ?_); rintro e w' ⟨rfl, ⟨nd, rfl⟩⟩; (try first | exact ⟨rfl, _, World.drewN_drewN _ _ _⟩ | exact ⟨rfl, _, Eq.trans (World.drewN_drewN _ _ _) (congrArg (World.drewN _) (Nat.add_assoc _ _ _))⟩)) | (go_at_call 69; (with_reducible refine (affix_Compare.calls kj6 a0 a2 t588 _ A24.out).mono ?_); rintro e w' ⟨rfl, ⟨nd, rfl⟩⟩; (try first | exact ⟨rfl, _, World.drewN_drewN _ _ _⟩ | exact ⟨rfl, _, Eq.trans (World.drewN_drewN _ _ _) (congrArg (World.drewN _) (Nat.add_assoc _ _ _))⟩)))
                  repeat (go_quiet (first | (go_at_call 69; (with_reducible refine (affix_Compare.calls kj6 a1 a0 t587 _ A20.out).mono ?_); rintro e w' ⟨rfl, ⟨nd, rfl⟩⟩; (try first | exact ⟨rfl, _, World.drewN_drewN _ _ _⟩ | exact ⟨rfl, _, Eq.trans (World.drewN_drewN _ _ _) (congrArg (World.drewN _) (Nat.add_assoc _ _ _))⟩)) | (go_at_call 69; (with_reducible refine (affix_Compare.calls kj6 a0 a2 t588 _ A24.out).mono ?_); rintro e w' ⟨rfl, ⟨nd, rfl⟩⟩; (try first | exact ⟨rfl, _, World.drewN_drewN _ _ _⟩ | exact ⟨rfl, _, Eq.trans (World.drewN_drewN _ _ _) (congrArg (World.drewN _) (Nat.add_assoc _ _ _))⟩))); try go_wp2_with (first | (go_at_call 69; (with_reducible refine (affix_Compare.calls kj6 a1 a0 t587 _ A20.out).mono ?_); rintro e w' ⟨rfl, ⟨nd, rfl⟩⟩; (try first | exact ⟨rfl, _, World.drewN_drewN _ _ _⟩ | exact ⟨rfl, _, Eq.trans (World.drewN_drewN _ _ _) (congrArg (World.drewN _) (Nat.add_assoc _ _ _))⟩)) | (go_at_call 69; (with_reducible refine (affix_Compare.calls kj6 a0 a2 t588 _ A24.out).mono ?_); rintro e w' ⟨rfl, ⟨nd, rfl⟩⟩; (try first | exact ⟨rfl, _, World.drewN_drewN _ _ _⟩ | exact ⟨rfl, _, Eq.trans (World.drewN_drewN _ _ _) (congrArg (World.drewN _) (Nat.add_assoc _ _ _))⟩))))
                  go_meet
                  case rel => exact ⟨_, (((t585 == 0) != (a0.toList == a1.toList))), (by first | rfl | exact isE_ _ | exact isE2_ _ | (simp; done) | (simp [*]; done)), H', ⟨by have := HJ6.out; first | omega | exact Nat.le_refl _⟩, ⟨by repeat (first | (with_reducible first | exact HB.out | apply below_alloc | apply pw_below_drewN | apply below_drew1) | exact HB.out)⟩⟩
              · rw [if_neg c23] at H
                have c23b0 : decide (t586 ≤ 0) = false := decide_eq_false c23
                clear c23
                have H' := Aside0.mk H
                clear H
                go_wp2_with (first | (go_at_call 69; (with_reducible refine (affix_Compare.calls kj6 a1 a0 t587 _ A20.out).mono ?_); rintro e w' ⟨rfl, ⟨nd, rfl⟩⟩; (try first | exact ⟨rfl, _, World.drewN_drewN _ _ _⟩ | exact ⟨rfl, _, Eq.trans (World.drewN_drewN _ _ _) (congrArg (World.drewN _) (Nat.add_assoc _ _ _))⟩)))
                repeat (go_quiet (first | (go_at_call 69; (with_reducible refine (affix_Compare.calls kj6 a1 a0 t587 _ A20.out).mono ?_); rintro e w' ⟨rfl, ⟨nd, rfl⟩⟩; (try first | exact ⟨rfl, _, World.drewN_drewN _ _ _⟩ | exact ⟨rfl, _, Eq.trans (World.drewN_drewN _ _ _) (congrArg (World.drewN _) (Nat.add_assoc _ _ _))⟩))); try go_wp2_with (first | (go_at_call 69; (with_reducible refine (affix_Compare.calls kj6 a1 a0 t587 _ A20.out).mono ?_); rintro e w' ⟨rfl, ⟨nd, rfl⟩⟩; (try first | exact ⟨rfl, _, World.drewN_drewN _ _ _⟩ | exact ⟨rfl, _, Eq.trans (World.drewN_drewN _ _ _) (congrArg (World.drewN _) (Nat.add_assoc _ _ _))⟩))))
                go_meet
                case rel => exact ⟨_, (((t585 == 0) != (a0.toList == a1.toList))), (by first | rfl | exact isE_ _ | exact isE2_ _ | (simp; done) | (simp [*]; done)), H', ⟨by have := HJ6.out; first | omega | exact Nat.le_refl _⟩, ⟨by repeat (first | (with_reducible first | exact HB.out | apply below_alloc | apply pw_below_drewN | apply below_drew1) | exact HB.out)⟩⟩
            · rw [if_neg c22] at H
              have c22b0 : decide (t585 ≤ 0) = false := decide_eq_false c22
              clear c22
              have H' := Aside0.mk H
              clear H
              go_wp2_with (first | (go_at_call 69; (with_reducible refine (affix_Compare.calls kj6 a1 a0 t587 _ A20.out).mono ?_); rintro e w' ⟨rfl, ⟨nd, rfl⟩⟩; (try first | exact ⟨rfl, _, World.drewN_drewN _ _ _⟩ | exact ⟨rfl, _, Eq.trans (World.drewN_drewN _ _ _) (congrArg (World.drewN _) (Nat.add_assoc _ _ _))⟩)))
              repeat (go_quiet (first | (go_at_call 69; (with_reducible refine (affix_Compare.calls kj6 a1 a0 t587 _ A20.out).mono ?_); rintro e w' ⟨rfl, ⟨nd, rfl⟩⟩; (try first | exact ⟨rfl, _, World.drewN_drewN _ _ _⟩ | exact ⟨rfl, _, Eq.trans (World.drewN_drewN _ _ _) (congrArg (World.drewN _) (Nat.add_assoc _ _ _))⟩))); try go_wp2_with (first | (go_at_call 69; (with_reducible refine (affix_Compare.calls kj6 a1 a0 t587 _ A20.out).mono ?_); rintro e w' ⟨rfl, ⟨nd, rfl⟩⟩; (try first | exact ⟨rfl, _, World.drewN_drewN _ _ _⟩ | exact ⟨rfl, _, Eq.trans (World.drewN_drewN _ _ _) (congrArg (World.drewN _) (Nat.add_assoc _ _ _))⟩))))
              go_meet
              case rel => exact ⟨_, (((t585 == 0) != (a0.toList == a1.toList))), (by first | rfl | exact isE_ _ | exact isE2_ _ | (simp; done) | (simp [*]; done)), H', ⟨by have := HJ6.out; first | omega | exact Nat.le_refl _⟩, ⟨by repeat (first | (with_reducible first | exact HB.out | apply below_alloc | apply pw_below_drewN | apply below_drew1) | exact HB.out)⟩⟩
          · rw [if_neg c21] at H
            have c21b0 : (t585 == (wrap64 (-t587))) = false := beq_eq_false_iff_ne.mpr c21
            have c21b1 : (t585 != (wrap64 (-t587))) = true := bne_iff_ne.mpr c21
            (first | rw [c21b0] | rw [c21b1] | (simp only [i64_w, i32_w]; rw [c21b0]) | skip)
            have H' := Aside0.mk H
            clear H
            go_wp2_with (first | (go_at_call 69; (with_reducible refine (affix_Compare.calls kj6 a1 a0 t587 _ A20.out).mono ?_); rintro e w' ⟨rfl, ⟨nd, rfl⟩⟩; (try first | exact ⟨rfl, _, World.drewN_drewN _ _ _⟩ | exact ⟨rfl, _, Eq.trans (World.drewN_drewN _ _ _) (congrArg (World.drewN _) (Nat.add_assoc _ _ _))⟩)))
            repeat (go_quiet (first | (go_at_call 69; (with_reducible refine (affix_Compare.calls kj6 a1 a0 t587 _ A20.out).mono ?_); rintro e w' ⟨rfl, ⟨nd, rfl⟩⟩; (try first | exact ⟨rfl, _, World.drewN_drewN _ _ _⟩ | exact ⟨rfl, _, Eq.trans (World.drewN_drewN _ _ _) (congrArg (World.drewN _) (Nat.add_assoc _ _ _))⟩))); try go_wp2_with (first | (go_at_call 69; (with_reducible refine (affix_Compare.calls kj6 a1 a0 t587 _ A20.out).mono ?_); rintro e w' ⟨rfl, ⟨nd, rfl⟩⟩; (try first | exact ⟨rfl, _, World.drewN_drewN _ _ _⟩ | exact ⟨rfl, _, Eq.trans (World.drewN_drewN _ _ _) (congrArg (World.drewN _) (Nat.add_assoc _ _ _))⟩))))
            go_meet
            case rel => exact ⟨_, (true), (by first | rfl | exact isE_ _ | exact isE2_ _ | (simp; done) | (simp [*]; done)), H', ⟨by have := HJ6.out; first | omega | exact Nat.le_refl _⟩, ⟨by repeat (first | (with_reducible first | exact HB.out | apply below_alloc | apply pw_below_drewN | apply below_drew1) | exact HB.out)⟩⟩
        case rest =>
          clear HC19
          try clear c1
          try clear c2
          try clear p2
          try clear c3
          try clear p6
          try clear c9
          try clear c14
          try clear c21
          try clear c21b0
          try clear c21b1
          try clear c22
          try clear c22b0
          try clear c23
          try clear c23b0
          try clear c25
          try clear c25b0
          try clear p2
          obtain ⟨kq, x63_18, rfl, HA, HJ18, HB⟩ := hcut
          cases kq with
          | zero => exact absurd HA.out (by simp [juratlaw09_AffixOrder.j1])
          | succ kj18 =>
            have H := HA.out
            clear HA
            simp only [juratlaw09_AffixOrder.j1] at H
            by_cases c26 : x63_18 = true
            · subst c26
              have H1 : (some false) = some r := by rw [if_pos rfl] at H; exact H
              clear H
              have H := H1
              clear H1
              obtain rfl := Option.some.inj H
              go_wp2
              repeat (go_quiet (fail); try go_wp2)
              go_ret
              exact ⟨by first | rfl | (simp [errW_none, errW_some] <;> rfl) | (simp [*, errW_none, errW_some] <;> rfl), by repeat (first | (with_reducible first | exact HB.out | apply below_alloc | apply pw_below_drewN | apply below_drew1) | exact HB.out)⟩
            · replace c26 := Bool.eq_false_iff.mpr c26
              subst c26
              have H1 : ((affix_Sorted.f l3).bind fun t589 => (if (t589.length : Int) = (l3.length : Int) then ((affix_Shared.f kj18 t589).bind fun t592 => (if a4 < 0 then (juratlaw09_AffixOrder.j2 kj18 a4 a5 t589 t592 true) else (if a5 ≤ a4 then (juratlaw09_AffixOrder.j2 kj18 a4 a5 t589 t592 true) else (if a5 ≥ (t589.length : Int) then (juratlaw09_AffixOrder.j2 kj18 a4 a5 t589 t592 true) else (juratlaw09_AffixOrder.j2 kj18 a4 a5 t589 t592 (decide (a5 ≥ (t592.length : Int)))))))) else (some false))) = some r := by rw [if_neg (show ¬ (false = true) by decide)] at H; exact H
              clear H
              have H := H1
              clear H1
              replace H := Option.bind_eq_some_iff.mp H
              obtain ⟨t589, A270, H⟩ := H
              replace H : (if (t589.length : Int) = (l3.length : Int) then ((affix_Shared.f kj18 t589).bind fun t592 => (if a4 < 0 then (juratlaw09_AffixOrder.j2 kj18 a4 a5 t589 t592 true) else (if a5 ≤ a4 then (juratlaw09_AffixOrder.j2 kj18 a4 a5 t589 t592 true) else (if a5 ≥ (t589.length : Int) then (juratlaw09_AffixOrder.j2 kj18 a4 a5 t589 t592 true) else (juratlaw09_AffixOrder.j2 kj18 a4 a5 t589 t592 (decide (a5 ≥ (t592.length : Int)))))))) else (some false)) = some r := H
              have A27 := Aside0.mk A270
              clear A270
              by_cases c28 : (t589.length : Int) = (l3.length : Int)
              · rw [if_pos c28] at H
                have c28b0 : ((t589.length : Int) == (l3.length : Int)) = true := beq_iff_eq.mpr c28
                have c28b1 : ((t589.length : Int) != (l3.length : Int)) = false := bne_eq_false_iff_eq.mpr c28
                have c28b2 : (t589.length == l3.length) = true := by first | simpa using c28 | (simp at c28 ⊢; omega)
                clear c28
                replace H := Option.bind_eq_some_iff.mp H
                obtain ⟨t592, A290, H⟩ := H
                replace H : (if a4 < 0 then (juratlaw09_AffixOrder.j2 kj18 a4 a5 t589 t592 true) else (if a5 ≤ a4 then (juratlaw09_AffixOrder.j2 kj18 a4 a5 t589 t592 true) else (if a5 ≥ (t589.length : Int) then (juratlaw09_AffixOrder.j2 kj18 a4 a5 t589 t592 true) else (juratlaw09_AffixOrder.j2 kj18 a4 a5 t589 t592 (decide (a5 ≥ (t592.length : Int))))))) = some r := H
                have A29 := Aside0.mk A290
                clear A290
                have HC30 := Aside0.mk H
                clear H
                go_upto_region 10 with (first | (go_at_call 70; (with_reducible refine (affix_Sorted.calls _ _ l3 t589 _ ?side1 ?side2 A27.out).mono ?_); (case side1 => repeat (first | exact (Kd.C_below HR3.out HB.out) | (with_reducible refine Kd.C_alloc ?_ _) | (with_reducible refine Kd.C_drewN ?_ _) | (with_reducible refine Kd.C_drew ?_))); (case side2 => exact HC3.out); rintro e w31 ⟨v590, rfl, ho0, hb⟩; have n0_ := Aside0.mk (Kd.R_lower ho0 (below_size (by repeat (first | (with_reducible first | exact HB.out | apply below_alloc | apply pw_below_drewN | apply below_drew1) | exact HB.out)))); have n1_ := Aside0.mk (below_step (by repeat (first | (with_reducible first | exact HB.out | apply below_alloc | apply pw_below_drewN | apply below_drew1) | exact HB.out)) hb); clear HB; have HO591 := n0_; have HB := n1_; clear n0_ n1_; (try clear hb); (try clear hb2); (try clear hk); (try clear hi); (try clear ho0); obtain ⟨Ao32, co32, eo32⟩ := Kd.R_slice HO591.out; subst eo32) | (go_at_call 71; (with_reducible refine (affix_Shared.calls kj18 _ _ t589 t592 _ ?side1 ?side2 A29.out).mono ?_); (case side1 => repeat (first | exact (Kd.R_reads' HO591.out).2.2 | (with_reducible refine Kd.C_alloc ?_ _) | (with_reducible refine Kd.C_drewN ?_ _) | (with_reducible refine Kd.C_drew ?_))); (case side2 => exact (Kd.R_reads' HO591.out).2.1); rintro e w33 ⟨v593, rfl, ho0, hb⟩; have n0_ := Aside0.mk (Kd.R_below (by (with_reducible repeat (first | apply Kd.R_alloc | apply Kd.R_drewN | apply Kd.R_drew)); exact HO591.out) hb); have n1_ := Aside0.mk (Kd.R_lower ho0 (below_size (by repeat (first | (with_reducible first | exact HB.out | apply below_alloc | apply pw_below_drewN | apply below_drew1) | exact HB.out)))); have n2_ := Aside0.mk (below_step (by repeat (first | (with_reducible first | exact HB.out | apply below_alloc | apply pw_below_drewN | apply below_drew1) | exact HB.out)) hb); clear HO591; clear HB; have HO591 := n0_; have HO594 := n1_; have HB := n2_; clear n0_ n1_ n2_; (try clear hb); (try clear hb2); (try clear hk); (try clear hi); (try clear ho0)))
                repeat (go_quiet (first | (go_at_call 70; (with_reducible refine (affix_Sorted.calls _ _ l3 t589 _ ?side1 ?side2 A27.out).mono ?_); (case side1 => repeat (first | exact (Kd.C_below HR3.out HB.out) | (with_reducible refine Kd.C_alloc ?_ _) | (with_reducible refine Kd.C_drewN ?_ _) | (with_reducible refine Kd.C_drew ?_))); (case side2 => exact HC3.out); rintro e w31 ⟨v590, rfl, ho0, hb⟩; have n0_ := Aside0.mk (Kd.R_lower ho0 (below_size (by repeat (first | (with_reducible first | exact HB.out | apply below_alloc | apply pw_below_drewN | apply below_drew1) | exact HB.out)))); have n1_ := Aside0.mk (below_step (by repeat (first | (with_reducible first | exact HB.out | apply below_alloc | apply pw_below_drewN | apply below_drew1) | exact HB.out)) hb); clear HB; have HO591 := n0_; have HB := n1_; clear n0_ n1_; (try clear hb); (try clear hb2); (try clear hk); (try clear hi); (try clear ho0); obtain ⟨Ao32, co32, eo32⟩ := Kd.R_slice HO591.out; subst eo32) | (go_at_call 71; (with_reducible refine (affix_Shared.calls kj18 _ _ t589 t592 _ ?side1 ?side2 A29.out).mono ?_); (case side1 => repeat (first | exact (Kd.R_reads' HO591.out).2.2 | (with_reducible refine Kd.C_alloc ?_ _) | (with_reducible refine Kd.C_drewN ?_ _) | (with_reducible refine Kd.C_drew ?_))); (case side2 => exact (Kd.R_reads' HO591.out).2.1); rintro e w33 ⟨v593, rfl, ho0, hb⟩; have n0_ := Aside0.mk (Kd.R_below (by (with_reducible repeat (first | apply Kd.R_alloc | apply Kd.R_drewN | apply Kd.R_drew)); exact HO591.out) hb); have n1_ := Aside0.mk (Kd.R_lower ho0 (below_size (by repeat (first | (with_reducible first | exact HB.out | apply below_alloc | apply pw_below_drewN | apply below_drew1) | exact HB.out)))); have n2_ := Aside0.mk (below_step (by repeat (first | (with_reducible first | exact HB.out | apply below_alloc | apply pw_below_drewN | apply below_drew1) | exact HB.out)) hb); clear HO591; clear HB; have HO591 := n0_; have HO594 := n1_; have HB := n2_; clear n0_ n1_ n2_; (try clear hb); (try clear hb2); (try clear hk); (try clear hi); (try clear ho0))); go_upto_region 10 with (first | (go_at_call 70; (with_reducible refine (affix_Sorted.calls _ _ l3 t589 _ ?side1 ?side2 A27.out).mono ?_); (case side1 => repeat (first | exact (Kd.C_below HR3.out HB.out) | (with_reducible refine Kd.C_alloc ?_ _) | (with_reducible refine Kd.C_drewN ?_ _) | (with_reducible refine Kd.C_drew ?_))); (case side2 => exact HC3.out); rintro e w31 ⟨v590, rfl, ho0, hb⟩; have n0_ := Aside0.mk (Kd.R_lower ho0 (below_size (by repeat (first | (with_reducible first | exact HB.out | apply below_alloc | apply pw_below_drewN | apply below_drew1) | exact HB.out)))); have n1_ := Aside0.mk (below_step (by repeat (first | (with_reducible first | exact HB.out | apply below_alloc | apply pw_below_drewN | apply below_drew1) | exact HB.out)) hb); clear HB; have HO591 := n0_; have HB := n1_; clear n0_ n1_; (try clear hb); (try clear hb2); (try clear hk); (try clear hi); (try clear ho0); obtain ⟨Ao32, co32, eo32⟩ := Kd.R_slice HO591.out; subst eo32) | (go_at_call 71; (with_reducible refine (affix_Shared.calls kj18 _ _ t589 t592 _ ?side1 ?side2 A29.out).mono ?_); (case side1 => repeat (first | exact (Kd.R_reads' HO591.out).2.2 | (with_reducible refine Kd.C_alloc ?_ _) | (with_reducible refine Kd.C_drewN ?_ _) | (with_reducible refine Kd.C_drew ?_))); (case side2 => exact (Kd.R_reads' HO591.out).2.1); rintro e w33 ⟨v593, rfl, ho0, hb⟩; have n0_ := Aside0.mk (Kd.R_below (by (with_reducible repeat (first | apply Kd.R_alloc | apply Kd.R_drewN | apply Kd.R_drew)); exact HO591.out) hb); have n1_ := Aside0.mk (Kd.R_lower ho0 (below_size (by repeat (first | (with_reducible first | exact HB.out | apply below_alloc | apply pw_below_drewN | apply below_drew1) | exact HB.out)))); have n2_ := Aside0.mk (below_step (by repeat (first | (with_reducible first | exact HB.out | apply below_alloc | apply pw_below_drewN | apply below_drew1) | exact HB.out)) hb); clear HO591; clear HB; have HO591 := n0_; have HO594 := n1_; have HB := n2_; clear n0_ n1_ n2_; (try clear hb); (try clear hb2); (try clear hk); (try clear hi); (try clear ho0))))
                (try simp only [Act.put, List.setIfInBounds_toArray, List.set_cons_zero, List.set_cons_succ])
                go_cut [91] (fun v91 wc => ∃ (kq : Nat) (x91_29 : Bool), v91 = .bool x91_29 ∧ Aside0 (juratlaw09_AffixOrder.j2 kq a4 a5 t589 t592 x91_29 = some r) ∧ Aside0 (kq ≤ kj18) ∧ Aside0 (Kd.R Kd.string 9 wc w.heap.size (fun _ => True) (.slice Ao32 t589.length co32) t589) ∧ Aside0 (Kd.R (Kd.int .i64) 3 wc w.heap.size (fun _ => True) v593 t592) ∧ Aside0 (Below w.heap.size w wc))
                case first =>
                  have H := HC30.out
                  clear HC30
                  by_cases c34 : a4 < 0
                  · rw [if_pos c34] at H
                    have c34b0 : decide (a4 < 0) = true := decide_eq_true c34
                    clear c34
                    (first | rw [c34b0] | rw [c34b1] | (simp only [i64_w, i32_w]; rw [c34b0]) | skip)
                    have H' := Aside0.mk H
                    clear H
                    go_wp2
                    repeat (go_quiet (fail); try go_wp2)
                    go_meet
                    case rel => exact ⟨_, (true), (by first | rfl | exact isE_ _ | exact isE2_ _ | (simp; done) | (simp [*]; done)), H', ⟨by have := HJ6.out; have := HJ18.out; first | omega | exact Nat.le_refl _⟩, ⟨by (with_reducible repeat (first | apply Kd.R_alloc | apply Kd.R_drewN | apply Kd.R_drew)); exact HO591.out⟩, ⟨by (with_reducible repeat (first | apply Kd.R_alloc | apply Kd.R_drewN | apply Kd.R_drew)); exact HO594.out⟩, ⟨by repeat (first | (with_reducible first | exact HB.out | apply below_alloc | apply pw_below_drewN | apply below_drew1) | exact HB.out)⟩⟩
                  · rw [if_neg c34] at H
                    have c34b0 : decide (a4 < 0) = false := decide_eq_false c34
                    clear c34
                    (first | rw [c34b0] | rw [c34b1] | (simp only [i64_w, i32_w]; rw [c34b0]) | skip)
                    by_cases c35 : a5 ≤ a4
                    · rw [if_pos c35] at H
                      have c35b0 : decide (a5 ≤ a4) = true := decide_eq_true c35
                      clear c35
                      have H' := Aside0.mk H
                      clear H
                      go_wp2
                      repeat (go_quiet (fail); try go_wp2)
                      go_meet
                      case rel => exact ⟨_, (true), (by first | rfl | exact isE_ _ | exact isE2_ _ | (simp; done) | (simp [*]; done)), H', ⟨by have := HJ6.out; have := HJ18.out; first | omega | exact Nat.le_refl _⟩, ⟨by (with_reducible repeat (first | apply Kd.R_alloc | apply Kd.R_drewN | apply Kd.R_drew)); exact HO591.out⟩, ⟨by (with_reducible repeat (first | apply Kd.R_alloc | apply Kd.R_drewN | apply Kd.R_drew)); exact HO594.out⟩, ⟨by repeat (first | (with_reducible first | exact HB.out | apply below_alloc | apply pw_below_drewN | apply below_drew1) | exact HB.out)⟩⟩
                    · rw [if_neg c35] at H
                      have c35b0 : decide (a5 ≤ a4) = false := decide_eq_false c35
                      clear c35
                      by_cases c36 : a5 ≥ (t589.length : Int)
                      · rw [if_pos c36] at H
                        have c36b0 : decide ((t589.length : Int) ≤ a5) = true := decide_eq_true c36
                        clear c36
                        have H' := Aside0.mk H
                        clear H
                        go_wp2
                        repeat (go_quiet (fail); try go_wp2)
                        go_meet
                        case rel => exact ⟨_, (true), (by first | rfl | exact isE_ _ | exact isE2_ _ | (simp; done) | (simp [*]; done)), H', ⟨by have := HJ6.out; have := HJ18.out; first | omega | exact Nat.le_refl _⟩, ⟨by (with_reducible repeat (first | apply Kd.R_alloc | apply Kd.R_drewN | apply Kd.R_drew)); exact HO591.out⟩, ⟨by (with_reducible repeat (first | apply Kd.R_alloc | apply Kd.R_drewN | apply Kd.R_drew)); exact HO594.out⟩, ⟨by repeat (first | (with_reducible first | exact HB.out | apply below_alloc | apply pw_below_drewN | apply below_drew1) | exact HB.out)⟩⟩
                      · rw [if_neg c36] at H
                        have c36b0 : decide ((t589.length : Int) ≤ a5) = false := decide_eq_false c36
                        clear c36
                        have H' := Aside0.mk H
                        clear H
                        obtain ⟨Ao37, co37, eo37⟩ := Kd.R_slice HO594.out
                        subst eo37
                        go_wp2
                        repeat (go_quiet (fail); try go_wp2)
                        go_meet
                        case rel => exact ⟨_, (decide (a5 ≥ (t592.length : Int))), (by first | rfl | exact isE_ _ | exact isE2_ _ | (simp; done) | (simp [*]; done)), H', ⟨by have := HJ6.out; have := HJ18.out; first | omega | exact Nat.le_refl _⟩, ⟨by (with_reducible repeat (first | apply Kd.R_alloc | apply Kd.R_drewN | apply Kd.R_drew)); exact HO591.out⟩, ⟨by (with_reducible repeat (first | apply Kd.R_alloc | apply Kd.R_drewN | apply Kd.R_drew)); exact HO594.out⟩, ⟨by repeat (first | (with_reducible first | exact HB.out | apply below_alloc | apply pw_below_drewN | apply below_drew1) | exact HB.out)⟩⟩
                case rest =>
                  clear HC30
                  try clear c1
                  try clear c2
                  try clear p2
                  try clear c3
                  try clear p6
                  try clear c9
                  try clear c14
                  try clear c21
                  try clear c21b0
                  try clear c21b1
                  try clear c22
                  try clear c22b0
                  try clear c23
                  try clear c23b0
                  try clear c25
                  try clear c25b0
                  try clear c26
                  try clear c28
                  try clear c28b0
                  try clear c28b1
                  try clear c28b2
                  try clear c34
                  try clear c34b0
                  try clear c35
                  try clear c35b0
                  try clear c36
                  try clear c36b0
                  try clear p2
                  try clear p6
                  obtain ⟨kq, x91_29, rfl, HA, HJ29, HO_15, HO_16, HB⟩ := hcut
                  cases kq with
                  | zero => exact absurd HA.out (by simp [juratlaw09_AffixOrder.j2])
                  | succ kj29 =>
                    have H := HA.out
                    clear HA
                    simp only [juratlaw09_AffixOrder.j2] at H
                    by_cases c38 : x91_29 = true
                    · subst c38
                      have H1 : (if (t592.length : Int) = (t589.length : Int) then ((juratlaw09_awake.f kj29).bind fun t595 => (some t595)) else (some false)) = some r := by rw [if_pos rfl] at H; exact H
                      clear H
                      have H := H1
                      clear H1
                      by_cases c39 : (t592.length : Int) = (t589.length : Int)
                      · rw [if_pos c39] at H
                        have c39b0 : ((t592.length : Int) == (t589.length : Int)) = true := beq_iff_eq.mpr c39
                        have c39b1 : ((t592.length : Int) != (t589.length : Int)) = false := bne_eq_false_iff_eq.mpr c39
                        have c39b2 : (t592.length == t589.length) = true := by first | simpa using c39 | (simp at c39 ⊢; omega)
                        clear c39
                        replace H := Option.bind_eq_some_iff.mp H
                        obtain ⟨t595, A400, H⟩ := H
                        replace H : (some t595) = some r := H
                        have A40 := Aside0.mk A400
                        clear A400
                        obtain rfl := Option.some.inj H
                        obtain ⟨Ao41, co41, eo41⟩ := Kd.R_slice HO_16.out
                        subst eo41
                        go_wp2_with (first | (go_at_call 68; (with_reducible refine (juratlaw09_awake.calls kj29  t595 _ A40.out).mono ?_); rintro e w42 ⟨rfl, hb⟩; have n0_ := Aside0.mk (Kd.R_below (by (with_reducible repeat (first | apply Kd.R_alloc | apply Kd.R_drewN | apply Kd.R_drew)); exact HO_15.out) hb); have n1_ := Aside0.mk (Kd.R_below (by (with_reducible repeat (first | apply Kd.R_alloc | apply Kd.R_drewN | apply Kd.R_drew)); exact HO_16.out) hb); have n2_ := Aside0.mk (below_step (by repeat (first | (with_reducible first | exact HB.out | apply below_alloc | apply pw_below_drewN | apply below_drew1) | exact HB.out)) hb); clear HO_15; clear HO_16; clear HB; have HO_15 := n0_; have HO_16 := n1_; have HB := n2_; clear n0_ n1_ n2_; (try clear hb); (try clear hb2); (try clear hk); (try clear hi)))
                        repeat (go_quiet (first | (go_at_call 68; (with_reducible refine (juratlaw09_awake.calls kj29  t595 _ A40.out).mono ?_); rintro e w42 ⟨rfl, hb⟩; have n0_ := Aside0.mk (Kd.R_below (by (with_reducible repeat (first | apply Kd.R_alloc | apply Kd.R_drewN | apply Kd.R_drew)); exact HO_15.out) hb); have n1_ := Aside0.mk (Kd.R_below (by (with_reducible repeat (first | apply Kd.R_alloc | apply Kd.R_drewN | apply Kd.R_drew)); exact HO_16.out) hb); have n2_ := Aside0.mk (below_step (by repeat (first | (with_reducible first | exact HB.out | apply below_alloc | apply pw_below_drewN | apply below_drew1) | exact HB.out)) hb); clear HO_15; clear HO_16; clear HB; have HO_15 := n0_; have HO_16 := n1_; have HB := n2_; clear n0_ n1_ n2_; (try clear hb); (try clear hb2); (try clear hk); (try clear hi))); try go_wp2_with (first | (go_at_call 68; (with_reducible refine (juratlaw09_awake.calls kj29  t595 _ A40.out).mono ?_); rintro e w42 ⟨rfl, hb⟩; have n0_ := Aside0.mk (Kd.R_below (by (with_reducible repeat (first | apply Kd.R_alloc | apply Kd.R_drewN | apply Kd.R_drew)); exact HO_15.out) hb); have n1_ := Aside0.mk (Kd.R_below (by (with_reducible repeat (first | apply Kd.R_alloc | apply Kd.R_drewN | apply Kd.R_drew)); exact HO_16.out) hb); have n2_ := Aside0.mk (below_step (by repeat (first | (with_reducible first | exact HB.out | apply below_alloc | apply pw_below_drewN | apply below_drew1) | exact HB.out)) hb); clear HO_15; clear HO_16; clear HB; have HO_15 := n0_; have HO_16 := n1_; have HB := n2_; clear n0_ n1_ n2_; (try clear hb); (try clear hb2); (try clear hk); (try clear hi))))
                        go_ret
                        exact ⟨by first | rfl | (simp [errW_none, errW_some] <;> rfl) | (simp [*, errW_none, errW_some] <;> rfl), by repeat (first | (with_reducible first | exact HB.out | apply below_alloc | apply pw_below_drewN | apply below_drew1) | exact HB.out)⟩
                      · rw [if_neg c39] at H
                        have c39b0 : ((t592.length : Int) == (t589.length : Int)) = false := beq_eq_false_iff_ne.mpr c39
                        have c39b1 : ((t592.length : Int) != (t589.length : Int)) = true := bne_iff_ne.mpr c39
                        have c39b2 : (t592.length == t589.length) = false := by first | simpa using c39 | (simp at c39 ⊢; omega)
                        obtain rfl := Option.some.inj H
                        obtain ⟨Ao43, co43, eo43⟩ := Kd.R_slice HO_16.out
                        subst eo43
                        go_wp2
                        repeat (go_quiet (fail); try go_wp2)
                        go_ret
                        exact ⟨by first | rfl | (simp [errW_none, errW_some] <;> rfl) | (simp [*, errW_none, errW_some] <;> rfl), by repeat (first | (with_reducible first | exact HB.out | apply below_alloc | apply pw_below_drewN | apply below_drew1) | exact HB.out)⟩
                    · replace c38 := Bool.eq_false_iff.mpr c38
                      subst c38
                      have H1 : (juratlaw09_AffixOrder.l0 kj29 a4 a5 t589 t592 (wrap64 (a4 + 1))) = some r := by rw [if_neg (show ¬ (false = true) by decide)] at H; exact H
                      clear H
                      have H := H1
                      clear H1
                      have H' := Aside0.mk H
                      clear H
                      go_wp2
                      repeat (go_quiet (fail); try go_wp2)
                      go_loopg [17] kj29 (fun kq v17 w' => ∃ (x17_4 : Int), v17 = .int .i64 x17_4 ∧ Aside0 (juratlaw09_AffixOrder.l0 kq a4 a5 t589 t592 x17_4 = some r) ∧ Aside0 (kq ≤ kj29) ∧ Aside0 (Kd.R Kd.string 9 w' w.heap.size (fun _ => True) (.slice Ao32 t589.length co32) t589) ∧ Aside0 (Kd.R (Kd.int .i64) 3 w' w.heap.size (fun _ => True) v593 t592) ∧ Aside0 (Below w.heap.size w w'))
                      case atStart => exact ⟨(wrap64 (a4 + 1)), (by first | rfl | exact isE_ _ | exact isE2_ _ | (simp; done) | (simp [*]; done)), H', ⟨Nat.le_refl _⟩, ⟨by (with_reducible repeat (first | apply Kd.R_alloc | apply Kd.R_drewN | apply Kd.R_drew)); exact HO_15.out⟩, ⟨by (with_reducible repeat (first | apply Kd.R_alloc | apply Kd.R_drewN | apply Kd.R_drew)); exact HO_16.out⟩, ⟨by repeat (first | (with_reducible first | exact HB.out | apply below_alloc | apply pw_below_drewN | apply below_drew1) | exact HB.out)⟩⟩
                      case round =>
                        clear H'
                        try clear c1
                        try clear c2
                        try clear p2
                        try clear c3
                        try clear p6
                        try clear c9
                        try clear c14
                        try clear c21
                        try clear c21b0
                        try clear c21b1
                        try clear c22
                        try clear c22b0
                        try clear c23
                        try clear c23b0
                        try clear c25
                        try clear c25b0
                        try clear c26
                        try clear c28
                        try clear c28b0
                        try clear c28b1
                        try clear c28b2
                        try clear c34
                        try clear c34b0
                        try clear c35
                        try clear c35b0
                        try clear c36
                        try clear c36b0
                        try clear c38
                        try clear c39
                        try clear c39b0
                        try clear c39b1
                        try clear c39b2
                        try clear p2
                        try clear p6
                        obtain ⟨x17_4, rfl, HA, HK4, HO_15, HO_16, HB⟩ := hrel
                        cases gk with
                        | zero => exact absurd HA.out (by simp [juratlaw09_AffixOrder.l0])
                        | succ k4 =>
                          have H := HA.out
                          clear HA
                          simp only [juratlaw09_AffixOrder.l0] at H
                          by_cases c44 : x17_4 ≤ a5
                          · rw [if_pos c44] at H
                            have c44b0 : decide (x17_4 ≤ a5) = true := decide_eq_true c44
                            clear c44
                            by_cases c45 : 0 ≤ a4
                            · rw [if_pos c45] at H
                              have c45b0 : decide (0 ≤ a4) = true := decide_eq_true c45
                              clear c45
                              by_cases c46 : a4 < (t589.length : Int)
                              · rw [if_pos c46] at H
                                have c46b0 : decide (a4 < (t589.length : Int)) = true := decide_eq_true c46
                                clear c46
                                by_cases c47 : 0 ≤ a5
                                · rw [if_pos c47] at H
                                  have c47b0 : decide (0 ≤ a5) = true := decide_eq_true c47
                                  clear c47
                                  by_cases c48 : a5 < (t589.length : Int)
                                  · rw [if_pos c48] at H
                                    have c48b0 : decide (a5 < (t589.length : Int)) = true := decide_eq_true c48
                                    clear c48
                                    replace H := Option.bind_eq_some_iff.mp H
                                    obtain ⟨t599, A490, H⟩ := H
                                    replace H : (if 0 ≤ x17_4 then (if x17_4 < (t592.length : Int) then (if t599 > (rd t592 x17_4) then (some false) else (if 0 ≤ (wrap64 (x17_4 - 1)) then (if (wrap64 (x17_4 - 1)) < (t589.length : Int) then (if x17_4 < (t589.length : Int) then ((affix_Compare.f k4 (rdOf ByteArray.empty t589 (wrap64 (x17_4 - 1))) (rdOf ByteArray.empty t589 x17_4)).bind fun t603 => (if t603 > 0 then (some false) else (juratlaw09_AffixOrder.l0 k4 a4 a5 t589 t592 (wrap64 (x17_4 + 1))))) else (none)) else (none)) else (none))) else (none)) else (none)) = some r := H
                                    have A49 := Aside0.mk A490
                                    clear A490
                                    by_cases c50 : 0 ≤ x17_4
                                    · rw [if_pos c50] at H
                                      have c50b0 : decide (0 ≤ x17_4) = true := decide_eq_true c50
                                      clear c50
                                      by_cases c51 : x17_4 < (t592.length : Int)
                                      · rw [if_pos c51] at H
                                        have c51b0 : decide (x17_4 < (t592.length : Int)) = true := decide_eq_true c51
                                        clear c51
                                        by_cases c52 : t599 > (rd t592 x17_4)
                                        · rw [if_pos c52] at H
                                          have c52b0 : decide ((rd t592 x17_4) < t599) = true := decide_eq_true c52
                                          clear c52
                                          obtain rfl := Option.some.inj H
                                          have p597 : 0 ≤ (a4 : Int) := of_decide_eq_true (by first | (with_reducible assumption) | assumption)
                                          have q597 : a4 < (t589.length : Int) := of_decide_eq_true (by first | (with_reducible assumption) | assumption)
                                          obtain ⟨ad597, e597, hx597_0⟩ := Kd.at_string (Kd.R_reads' HO_15.out).2.2 a4 p597 q597
                                          cases e597
                                          replace p597 := eq_true p597
                                          replace q597 := eq_true q597
                                          have p598 : 0 ≤ (a5 : Int) := of_decide_eq_true (by first | (with_reducible assumption) | assumption)
                                          have q598 : a5 < (t589.length : Int) := of_decide_eq_true (by first | (with_reducible assumption) | assumption)
                                          obtain ⟨ad598, e598, hx598_0⟩ := Kd.at_string (Kd.R_reads' HO_15.out).2.2 a5 p598 q598
                                          obtain rfl : ad597 = ad598 := (by injection e598)
                                          replace p598 := eq_true p598
                                          replace q598 := eq_true q598
                                          obtain ⟨Ao53, co53, eo53⟩ := Kd.R_slice HO_16.out
                                          subst eo53
                                          have p600 : 0 ≤ (x17_4 : Int) := of_decide_eq_true (by first | (with_reducible assumption) | assumption)
                                          have q600 : x17_4 < (t592.length : Int) := of_decide_eq_true (by first | (with_reducible assumption) | assumption)
                                          obtain ⟨ad600, e600, hx600_0⟩ := Kd.at_int (Kd.R_reads' HO_16.out).2.2 x17_4 p600 q600
                                          cases e600
                                          (try simp only [Int.toNat_natCast] at hx600_0)
                                          replace p600 := eq_true p600
                                          replace q600 := eq_true q600
                                          go_wp2_with (first | (go_at_call 72; (with_reducible refine (affix_Prefix.calls k4 (rdOf ByteArray.empty t589 a4) (rdOf ByteArray.empty t589 a5) t599 _ A49.out).mono ?_); rintro e w' ⟨rfl, ⟨nd, rfl⟩⟩; (try first | exact ⟨rfl, _, World.drewN_drewN _ _ _⟩ | exact ⟨rfl, _, Eq.trans (World.drewN_drewN _ _ _) (congrArg (World.drewN _) (Nat.add_assoc _ _ _))⟩)))
                                          repeat (go_quiet (first | (go_at_call 72; (with_reducible refine (affix_Prefix.calls k4 (rdOf ByteArray.empty t589 a4) (rdOf ByteArray.empty t589 a5) t599 _ A49.out).mono ?_); rintro e w' ⟨rfl, ⟨nd, rfl⟩⟩; (try first | exact ⟨rfl, _, World.drewN_drewN _ _ _⟩ | exact ⟨rfl, _, Eq.trans (World.drewN_drewN _ _ _) (congrArg (World.drewN _) (Nat.add_assoc _ _ _))⟩))); try go_wp2_with (first | (go_at_call 72; (with_reducible refine (affix_Prefix.calls k4 (rdOf ByteArray.empty t589 a4) (rdOf ByteArray.empty t589 a5) t599 _ A49.out).mono ?_); rintro e w' ⟨rfl, ⟨nd, rfl⟩⟩; (try first | exact ⟨rfl, _, World.drewN_drewN _ _ _⟩ | exact ⟨rfl, _, Eq.trans (World.drewN_drewN _ _ _) (congrArg (World.drewN _) (Nat.add_assoc _ _ _))⟩))))
                                          go_ret
                                          exact ⟨by first | rfl | (simp [errW_none, errW_some] <;> rfl) | (simp [*, errW_none, errW_some] <;> rfl), by repeat (first | (with_reducible first | exact HB.out | apply below_alloc | apply pw_below_drewN | apply below_drew1) | exact HB.out)⟩
                                        · rw [if_neg c52] at H
                                          have c52b0 : decide ((rd t592 x17_4) < t599) = false := decide_eq_false c52
                                          clear c52
                                          obtain ⟨ji54, hji54⟩ : ∃ j_ : Int, (wrap64 (x17_4 - 1)) = j_ := ⟨_, rfl⟩
                                          replace H : (if 0 ≤ (ji54) then (if (ji54) < (t589.length : Int) then (if x17_4 < (t589.length : Int) then ((affix_Compare.f k4 (rdOf ByteArray.empty t589 (ji54)) (rdOf ByteArray.empty t589 x17_4)).bind fun t603 => (if t603 > 0 then (some false) else (juratlaw09_AffixOrder.l0 k4 a4 a5 t589 t592 (wrap64 (x17_4 + 1))))) else (none)) else (none)) else (none)) = some r := by first | (rw [hji54] at H; exact H) | (simp only [hji54] at H ⊢; exact H)
                                          (try rw [hji54] at A49)
                                          have hji54w : (IntKind.i64.wrap (x17_4 - 1)) = ji54 := (i64_w _).trans hji54
                                          by_cases c55 : 0 ≤ (ji54)
                                          · rw [if_pos c55] at H
                                            have c55b0 : decide (0 ≤ (ji54)) = true := decide_eq_true c55
                                            clear c55
                                            by_cases c56 : (ji54) < (t589.length : Int)
                                            · rw [if_pos c56] at H
                                              have c56b0 : decide ((ji54) < (t589.length : Int)) = true := decide_eq_true c56
                                              clear c56
                                              by_cases c57 : x17_4 < (t589.length : Int)
                                              · rw [if_pos c57] at H
                                                have c57b0 : decide (x17_4 < (t589.length : Int)) = true := decide_eq_true c57
                                                clear c57
                                                replace H := Option.bind_eq_some_iff.mp H
                                                obtain ⟨t603, A580, H⟩ := H
                                                replace H : (if t603 > 0 then (some false) else (juratlaw09_AffixOrder.l0 k4 a4 a5 t589 t592 (wrap64 (x17_4 + 1)))) = some r := H
                                                have A58 := Aside0.mk A580
                                                clear A580
                                                by_cases c59 : t603 > 0
                                                · rw [if_pos c59] at H
                                                  have c59b0 : decide (0 < t603) = true := decide_eq_true c59
                                                  clear c59
                                                  obtain rfl := Option.some.inj H
                                                  have p597 : 0 ≤ (a4 : Int) := of_decide_eq_true (by first | (with_reducible assumption) | assumption)
                                                  have q597 : a4 < (t589.length : Int) := of_decide_eq_true (by first | (with_reducible assumption) | assumption)
                                                  obtain ⟨ad597, e597, hx597_0⟩ := Kd.at_string (Kd.R_reads' HO_15.out).2.2 a4 p597 q597
                                                  cases e597
                                                  replace p597 := eq_true p597
                                                  replace q597 := eq_true q597
                                                  have p598 : 0 ≤ (a5 : Int) := of_decide_eq_true (by first | (with_reducible assumption) | assumption)
                                                  have q598 : a5 < (t589.length : Int) := of_decide_eq_true (by first | (with_reducible assumption) | assumption)
                                                  obtain ⟨ad598, e598, hx598_0⟩ := Kd.at_string (Kd.R_reads' HO_15.out).2.2 a5 p598 q598
                                                  obtain rfl : ad597 = ad598 := (by injection e598)
                                                  replace p598 := eq_true p598
                                                  replace q598 := eq_true q598
                                                  obtain ⟨Ao60, co60, eo60⟩ := Kd.R_slice HO_16.out
                                                  subst eo60
                                                  have p600 : 0 ≤ (x17_4 : Int) := of_decide_eq_true (by first | (with_reducible assumption) | assumption)
                                                  have q600 : x17_4 < (t592.length : Int) := of_decide_eq_true (by first | (with_reducible assumption) | assumption)
                                                  obtain ⟨ad600, e600, hx600_0⟩ := Kd.at_int (Kd.R_reads' HO_16.out).2.2 x17_4 p600 q600
                                                  cases e600
                                                  (try simp only [Int.toNat_natCast] at hx600_0)
                                                  replace p600 := eq_true p600
                                                  replace q600 := eq_true q600
                                                  have p601 : 0 ≤ ((ji54) : Int) := of_decide_eq_true (by first | (with_reducible assumption) | assumption)
                                                  have q601 : (ji54) < (t589.length : Int) := of_decide_eq_true (by first | (with_reducible assumption) | assumption)
                                                  obtain ⟨ad601, e601, hx601_0⟩ := Kd.at_string (Kd.R_reads' HO_15.out).2.2 (ji54) p601 q601
                                                  obtain rfl : ad597 = ad601 := (by injection e601)
                                                  replace p601 := eq_true p601
                                                  replace q601 := eq_true q601
                                                  have p602 : 0 ≤ (x17_4 : Int) := of_decide_eq_true (by first | (with_reducible assumption) | assumption)
                                                  have q602 : x17_4 < (t589.length : Int) := of_decide_eq_true (by first | (with_reducible assumption) | assumption)
                                                  obtain ⟨ad602, e602, hx602_0⟩ := Kd.at_string (Kd.R_reads' HO_15.out).2.2 x17_4 p602 q602
                                                  obtain rfl : ad597 = ad602 := (by injection e602)
                                                  replace p602 := eq_true p602
                                                  replace q602 := eq_true q602
                                                  go_wp2_with (first | (go_at_call 72; (with_reducible refine (affix_Prefix.calls k4 (rdOf ByteArray.empty t589 a4) (rdOf ByteArray.empty t589 a5) t599 _ A49.out).mono ?_); rintro e w' ⟨rfl, ⟨nd, rfl⟩⟩; (try first | exact ⟨rfl, _, World.drewN_drewN _ _ _⟩ | exact ⟨rfl, _, Eq.trans (World.drewN_drewN _ _ _) (congrArg (World.drewN _) (Nat.add_assoc _ _ _))⟩)) | (go_at_call 69; (with_reducible refine (affix_Compare.calls k4 (rdOf ByteArray.empty t589 (ji54)) (rdOf ByteArray.empty t589 x17_4) t603 _ A58.out).mono ?_); rintro e w' ⟨rfl, ⟨nd, rfl⟩⟩; (try first | exact ⟨rfl, _, World.drewN_drewN _ _ _⟩ | exact ⟨rfl, _, Eq.trans (World.drewN_drewN _ _ _) (congrArg (World.drewN _) (Nat.add_assoc _ _ _))⟩)))
                                                  repeat (go_quiet (first | (go_at_call 72; (with_reducible refine (affix_Prefix.calls k4 (rdOf ByteArray.empty t589 a4) (rdOf ByteArray.empty t589 a5) t599 _ A49.out).mono ?_); rintro e w' ⟨rfl, ⟨nd, rfl⟩⟩; (try first | exact ⟨rfl, _, World.drewN_drewN _ _ _⟩ | exact ⟨rfl, _, Eq.trans (World.drewN_drewN _ _ _) (congrArg (World.drewN _) (Nat.add_assoc _ _ _))⟩)) | (go_at_call 69; (with_reducible refine (affix_Compare.calls k4 (rdOf ByteArray.empty t589 (ji54)) (rdOf ByteArray.empty t589 x17_4) t603 _ A58.out).mono ?_); rintro e w' ⟨rfl, ⟨nd, rfl⟩⟩; (try first | exact ⟨rfl, _, World.drewN_drewN _ _ _⟩ | exact ⟨rfl, _, Eq.trans (World.drewN_drewN _ _ _) (congrArg (World.drewN _) (Nat.add_assoc _ _ _))⟩))); try go_wp2_with (first | (go_at_call 72; (with_reducible refine (affix_Prefix.calls k4 (rdOf ByteArray.empty t589 a4) (rdOf ByteArray.empty t589 a5) t599 _ A49.out).mono ?_); rintro e w' ⟨rfl, ⟨nd, rfl⟩⟩; (try first | exact ⟨rfl, _, World.drewN_drewN _ _ _⟩ | exact ⟨rfl, _, Eq.trans (World.drewN_drewN _ _ _) (congrArg (World.drewN _) (Nat.add_assoc _ _ _))⟩)) | (go_at_call 69; (with_reducible refine (affix_Compare.calls k4 (rdOf ByteArray.empty t589 (ji54)) (rdOf ByteArray.empty t589 x17_4) t603 _ A58.out).mono ?_); rintro e w' ⟨rfl, ⟨nd, rfl⟩⟩; (try first | exact ⟨rfl, _, World.drewN_drewN _ _ _⟩ | exact ⟨rfl, _, Eq.trans (World.drewN_drewN _ _ _) (congrArg (World.drewN _) (Nat.add_assoc _ _ _))⟩))))
                                                  go_ret
                                                  exact ⟨by first | rfl | (simp [errW_none, errW_some] <;> rfl) | (simp only [← hji54]; first | rfl | (simp [errW_none, errW_some] <;> rfl)) | (simp [*, errW_none, errW_some] <;> rfl), by repeat (first | (with_reducible first | exact HB.out | apply below_alloc | apply pw_below_drewN | apply below_drew1) | exact HB.out)⟩
                                                · rw [if_neg c59] at H
                                                  have c59b0 : decide (0 < t603) = false := decide_eq_false c59
                                                  clear c59
                                                  have H' := Aside0.mk H
                                                  clear H
                                                  have p597 : 0 ≤ (a4 : Int) := of_decide_eq_true (by first | (with_reducible assumption) | assumption)
                                                  have q597 : a4 < (t589.length : Int) := of_decide_eq_true (by first | (with_reducible assumption) | assumption)
                                                  obtain ⟨ad597, e597, hx597_0⟩ := Kd.at_string (Kd.R_reads' HO_15.out).2.2 a4 p597 q597
                                                  cases e597
                                                  replace p597 := eq_true p597
                                                  replace q597 := eq_true q597
                                                  have p598 : 0 ≤ (a5 : Int) := of_decide_eq_true (by first | (with_reducible assumption) | assumption)
                                                  have q598 : a5 < (t589.length : Int) := of_decide_eq_true (by first | (with_reducible assumption) | assumption)
                                                  obtain ⟨ad598, e598, hx598_0⟩ := Kd.at_string (Kd.R_reads' HO_15.out).2.2 a5 p598 q598
                                                  obtain rfl : ad597 = ad598 := (by injection e598)
                                                  replace p598 := eq_true p598
                                                  replace q598 := eq_true q598
                                                  obtain ⟨Ao61, co61, eo61⟩ := Kd.R_slice HO_16.out
                                                  subst eo61
                                                  have p600 : 0 ≤ (x17_4 : Int) := of_decide_eq_true (by first | (with_reducible assumption) | assumption)
                                                  have q600 : x17_4 < (t592.length : Int) := of_decide_eq_true (by first | (with_reducible assumption) | assumption)
                                                  obtain ⟨ad600, e600, hx600_0⟩ := Kd.at_int (Kd.R_reads' HO_16.out).2.2 x17_4 p600 q600
                                                  cases e600
                                                  (try simp only [Int.toNat_natCast] at hx600_0)
                                                  replace p600 := eq_true p600
                                                  replace q600 := eq_true q600
                                                  have p601 : 0 ≤ ((ji54) : Int) := of_decide_eq_true (by first | (with_reducible assumption) | assumption)
                                                  have q601 : (ji54) < (t589.length : Int) := of_decide_eq_true (by first | (with_reducible assumption) | assumption)
                                                  obtain ⟨ad601, e601, hx601_0⟩ := Kd.at_string (Kd.R_reads' HO_15.out).2.2 (ji54) p601 q601
                                                  obtain rfl : ad597 = ad601 := (by injection e601)
                                                  replace p601 := eq_true p601
                                                  replace q601 := eq_true q601
                                                  have p602 : 0 ≤ (x17_4 : Int) := of_decide_eq_true (by first | (with_reducible assumption) | assumption)
                                                  have q602 : x17_4 < (t589.length : Int) := of_decide_eq_true (by first | (with_reducible assumption) | assumption)
                                                  obtain ⟨ad602, e602, hx602_0⟩ := Kd.at_string (Kd.R_reads' HO_15.out).2.2 x17_4 p602 q602
                                                  obtain rfl : ad597 = ad602 := (by injection e602)
                                                  replace p602 := eq_true p602
                                                  replace q602 := eq_true q602
                                                  go_wp2_with (first | (go_at_call 72; (with_reducible refine (affix_Prefix.calls k4 (rdOf ByteArray.empty t589 a4) (rdOf ByteArray.empty t589 a5) t599 _ A49.out).mono ?_); rintro e w' ⟨rfl, ⟨nd, rfl⟩⟩; (try first | exact ⟨rfl, _, World.drewN_drewN _ _ _⟩ | exact ⟨rfl, _, Eq.trans (World.drewN_drewN _ _ _) (congrArg (World.drewN _) (Nat.add_assoc _ _ _))⟩)) | (go_at_call 69; (with_reducible refine (affix_Compare.calls k4 (rdOf ByteArray.empty t589 (ji54)) (rdOf ByteArray.empty t589 x17_4) t603 _ A58.out).mono ?_); rintro e w' ⟨rfl, ⟨nd, rfl⟩⟩; (try first | exact ⟨rfl, _, World.drewN_drewN _ _ _⟩ | exact ⟨rfl, _, Eq.trans (World.drewN_drewN _ _ _) (congrArg (World.drewN _) (Nat.add_assoc _ _ _))⟩)))
                                                  repeat (go_quiet (first | (go_at_call 72; (with_reducible refine (affix_Prefix.calls k4 (rdOf ByteArray.empty t589 a4) (rdOf ByteArray.empty t589 a5) t599 _ A49.out).mono ?_); rintro e w' ⟨rfl, ⟨nd, rfl⟩⟩; (try first | exact ⟨rfl, _, World.drewN_drewN _ _ _⟩ | exact ⟨rfl, _, Eq.trans (World.drewN_drewN _ _ _) (congrArg (World.drewN _) (Nat.add_assoc _ _ _))⟩)) | (go_at_call 69; (with_reducible refine (affix_Compare.calls k4 (rdOf ByteArray.empty t589 (ji54)) (rdOf ByteArray.empty t589 x17_4) t603 _ A58.out).mono ?_); rintro e w' ⟨rfl, ⟨nd, rfl⟩⟩; (try first | exact ⟨rfl, _, World.drewN_drewN _ _ _⟩ | exact ⟨rfl, _, Eq.trans (World.drewN_drewN _ _ _) (congrArg (World.drewN _) (Nat.add_assoc _ _ _))⟩))); try go_wp2_with (first | (go_at_call 72; (with_reducible refine (affix_Prefix.calls k4 (rdOf ByteArray.empty t589 a4) (rdOf ByteArray.empty t589 a5) t599 _ A49.out).mono ?_); rintro e w' ⟨rfl, ⟨nd, rfl⟩⟩; (try first | exact ⟨rfl, _, World.drewN_drewN _ _ _⟩ | exact ⟨rfl, _, Eq.trans (World.drewN_drewN _ _ _) (congrArg (World.drewN _) (Nat.add_assoc _ _ _))⟩)) | (go_at_call 69; (with_reducible refine (affix_Compare.calls k4 (rdOf ByteArray.empty t589 (ji54)) (rdOf ByteArray.empty t589 x17_4) t603 _ A58.out).mono ?_); rintro e w' ⟨rfl, ⟨nd, rfl⟩⟩; (try first | exact ⟨rfl, _, World.drewN_drewN _ _ _⟩ | exact ⟨rfl, _, Eq.trans (World.drewN_drewN _ _ _) (congrArg (World.drewN _) (Nat.add_assoc _ _ _))⟩))))
                                                  go_roundg k4
                                                  case measure => have := HJ6.out; have := HJ18.out; have := HJ29.out; have := HK4.out; omega
                                                  case rel => exact ⟨(wrap64 (x17_4 + 1)), (by first | rfl | exact isE_ _ | exact isE2_ _ | (simp; done) | (simp [*]; done)), H', ⟨by have := HJ6.out; have := HJ18.out; have := HJ29.out; have := HK4.out; omega⟩, ⟨by (with_reducible repeat (first | apply Kd.R_alloc | apply Kd.R_drewN | apply Kd.R_drew)); exact HO_15.out⟩, ⟨by (with_reducible repeat (first | apply Kd.R_alloc | apply Kd.R_drewN | apply Kd.R_drew)); exact HO_16.out⟩, ⟨by repeat (first | (with_reducible first | exact HB.out | apply below_alloc | apply pw_below_drewN | apply below_drew1) | exact HB.out)⟩⟩
                                              · rw [if_neg c57] at H
                                                exact absurd H (by simp)
                                            · rw [if_neg c56] at H
                                              exact absurd H (by simp)
                                          · rw [if_neg c55] at H
                                            exact absurd H (by simp)
                                      · rw [if_neg c51] at H
                                        exact absurd H (by simp)
                                    · rw [if_neg c50] at H
                                      exact absurd H (by simp)
                                  · rw [if_neg c48] at H
                                    exact absurd H (by simp)
                                · rw [if_neg c47] at H
                                  exact absurd H (by simp)
                              · rw [if_neg c46] at H
                                exact absurd H (by simp)
                            · rw [if_neg c45] at H
                              exact absurd H (by simp)
                          · rw [if_neg c44] at H
                            have c44b0 : decide (x17_4 ≤ a5) = false := decide_eq_false c44
                            clear c44
                            replace H := Option.bind_eq_some_iff.mp H
                            obtain ⟨t596, A620, H⟩ := H
                            replace H : (some t596) = some r := H
                            have A62 := Aside0.mk A620
                            clear A620
                            obtain rfl := Option.some.inj H
                            go_wp2_with (first | (go_at_call 68; (with_reducible refine (juratlaw09_awake.calls k4  t596 _ A62.out).mono ?_); rintro e w63 ⟨rfl, hb⟩; have n0_ := Aside0.mk (Kd.R_below (by (with_reducible repeat (first | apply Kd.R_alloc | apply Kd.R_drewN | apply Kd.R_drew)); exact HO_15.out) hb); have n1_ := Aside0.mk (Kd.R_below (by (with_reducible repeat (first | apply Kd.R_alloc | apply Kd.R_drewN | apply Kd.R_drew)); exact HO_16.out) hb); have n2_ := Aside0.mk (below_step (by repeat (first | (with_reducible first | exact HB.out | apply below_alloc | apply pw_below_drewN | apply below_drew1) | exact HB.out)) hb); clear HO_15; clear HO_16; clear HB; have HO_15 := n0_; have HO_16 := n1_; have HB := n2_; clear n0_ n1_ n2_; (try clear hb); (try clear hb2); (try clear hk); (try clear hi)))
                            repeat (go_quiet (first | (go_at_call 68; (with_reducible refine (juratlaw09_awake.calls k4  t596 _ A62.out).mono ?_); rintro e w63 ⟨rfl, hb⟩; have n0_ := Aside0.mk (Kd.R_below (by (with_reducible repeat (first | apply Kd.R_alloc | apply Kd.R_drewN | apply Kd.R_drew)); exact HO_15.out) hb); have n1_ := Aside0.mk (Kd.R_below (by (with_reducible repeat (first | apply Kd.R_alloc | apply Kd.R_drewN | apply Kd.R_drew)); exact HO_16.out) hb); have n2_ := Aside0.mk (below_step (by repeat (first | (with_reducible first | exact HB.out | apply below_alloc | apply pw_below_drewN | apply below_drew1) | exact HB.out)) hb); clear HO_15; clear HO_16; clear HB; have HO_15 := n0_; have HO_16 := n1_; have HB := n2_; clear n0_ n1_ n2_; (try clear hb); (try clear hb2); (try clear hk); (try clear hi))); try go_wp2_with (first | (go_at_call 68; (with_reducible refine (juratlaw09_awake.calls k4  t596 _ A62.out).mono ?_); rintro e w63 ⟨rfl, hb⟩; have n0_ := Aside0.mk (Kd.R_below (by (with_reducible repeat (first | apply Kd.R_alloc | apply Kd.R_drewN | apply Kd.R_drew)); exact HO_15.out) hb); have n1_ := Aside0.mk (Kd.R_below (by (with_reducible repeat (first | apply Kd.R_alloc | apply Kd.R_drewN | apply Kd.R_drew)); exact HO_16.out) hb); have n2_ := Aside0.mk (below_step (by repeat (first | (with_reducible first | exact HB.out | apply below_alloc | apply pw_below_drewN | apply below_drew1) | exact HB.out)) hb); clear HO_15; clear HO_16; clear HB; have HO_15 := n0_; have HO_16 := n1_; have HB := n2_; clear n0_ n1_ n2_; (try clear hb); (try clear hb2); (try clear hk); (try clear hi))))
                            go_ret
                            exact ⟨by first | rfl | (simp [errW_none, errW_some] <;> rfl) | (simp [*, errW_none, errW_some] <;> rfl), by repeat (first | (with_reducible first | exact HB.out | apply below_alloc | apply pw_below_drewN | apply below_drew1) | exact HB.out)⟩
              · rw [if_neg c28] at H
                have c28b0 : ((t589.length : Int) == (l3.length : Int)) = false := beq_eq_false_iff_ne.mpr c28
                have c28b1 : ((t589.length : Int) != (l3.length : Int)) = true := bne_iff_ne.mpr c28
                have c28b2 : (t589.length == l3.length) = false := by first | simpa using c28 | (simp at c28 ⊢; omega)
                obtain rfl := Option.some.inj H
                go_wp2_with (first | (go_at_call 70; (with_reducible refine (affix_Sorted.calls _ _ l3 t589 _ ?side1 ?side2 A27.out).mono ?_); (case side1 => repeat (first | exact (Kd.C_below HR3.out HB.out) | (with_reducible refine Kd.C_alloc ?_ _) | (with_reducible refine Kd.C_drewN ?_ _) | (with_reducible refine Kd.C_drew ?_))); (case side2 => exact HC3.out); rintro e w64 ⟨v590, rfl, ho0, hb⟩; have n0_ := Aside0.mk (Kd.R_lower ho0 (below_size (by repeat (first | (with_reducible first | exact HB.out | apply below_alloc | apply pw_below_drewN | apply below_drew1) | exact HB.out)))); have n1_ := Aside0.mk (below_step (by repeat (first | (with_reducible first | exact HB.out | apply below_alloc | apply pw_below_drewN | apply below_drew1) | exact HB.out)) hb); clear HB; have HO591 := n0_; have HB := n1_; clear n0_ n1_; (try clear hb); (try clear hb2); (try clear hk); (try clear hi); (try clear ho0); obtain ⟨Ao65, co65, eo65⟩ := Kd.R_slice HO591.out; subst eo65))
                have tk0_ : True := trivial
                have tk1_ : True := trivial
                repeat (go_quiet (first | (go_at_call 70; (clear tk0_); (with_reducible refine (affix_Sorted.calls _ _ l3 t589 _ ?side1 ?side2 A27.out).mono ?_); (case side1 => repeat (first | exact (Kd.C_below HR3.out HB.out) | (with_reducible refine Kd.C_alloc ?_ _) | (with_reducible refine Kd.C_drewN ?_ _) | (with_reducible refine Kd.C_drew ?_))); (case side2 => exact HC3.out); rintro e w64 ⟨v590, rfl, ho0, hb⟩; have n0_ := Aside0.mk (Kd.R_lower ho0 (below_size (by repeat (first | (with_reducible first | exact HB.out | apply below_alloc | apply pw_below_drewN | apply below_drew1) | exact HB.out)))); have n1_ := Aside0.mk (below_step (by repeat (first | (with_reducible first | exact HB.out | apply below_alloc | apply pw_below_drewN | apply below_drew1) | exact HB.out)) hb); clear HB; have HO591 := n0_; have HB := n1_; clear n0_ n1_; (try clear hb); (try clear hb2); (try clear hk); (try clear hi); (try clear ho0); obtain ⟨Ao65, co65, eo65⟩ := Kd.R_slice HO591.out; subst eo65)); try go_wp2_with (first | (go_at_call 70; (clear tk1_); (with_reducible refine (affix_Sorted.calls _ _ l3 t589 _ ?side1 ?side2 A27.out).mono ?_); (case side1 => repeat (first | exact (Kd.C_below HR3.out HB.out) | (with_reducible refine Kd.C_alloc ?_ _) | (with_reducible refine Kd.C_drewN ?_ _) | (with_reducible refine Kd.C_drew ?_))); (case side2 => exact HC3.out); rintro e w64 ⟨v590, rfl, ho0, hb⟩; have n0_ := Aside0.mk (Kd.R_lower ho0 (below_size (by repeat (first | (with_reducible first | exact HB.out | apply below_alloc | apply pw_below_drewN | apply below_drew1) | exact HB.out)))); have n1_ := Aside0.mk (below_step (by repeat (first | (with_reducible first | exact HB.out | apply below_alloc | apply pw_below_drewN | apply below_drew1) | exact HB.out)) hb); clear HB; have HO591 := n0_; have HB := n1_; clear n0_ n1_; (try clear hb); (try clear hb2); (try clear hk); (try clear hi); (try clear ho0); obtain ⟨Ao65, co65, eo65⟩ := Kd.R_slice HO591.out; subst eo65)))
                go_ret
                exact ⟨by first | rfl | (simp [errW_none, errW_some] <;> rfl) | (simp [*, errW_none, errW_some] <;> rfl), by repeat (first | (with_reducible first | exact HB.out | apply below_alloc | apply pw_below_drewN | apply below_drew1) | exact HB.out)⟩

end Go.Proofs.Ytmkcoobmbjoloaa.P
