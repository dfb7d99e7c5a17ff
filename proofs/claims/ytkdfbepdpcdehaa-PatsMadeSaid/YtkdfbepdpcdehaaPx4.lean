/- Proved here: what Go functions of this seat compute, or a law of it; no condition beyond the statement's own. Written for this claim by a program of this session (wip/myprint.py) over the kit's print.py. -/
import Derived.Test.YtkdfbepdpcdehaaPx0
import Derived.Test.YtkdfbepdpcdehaaPx10
import Derived.Test.YtkdfbepdpcdehaaPx14
import Derived.Test.YtkdfbepdpcdehaaPx15
import Derived.Test.YtkdfbepdpcdehaaPx17
import Derived.Test.YtkdfbepdpcdehaaPx19
import Derived.Test.YtkdfbepdpcdehaaPx21
import Derived.Test.YtkdfbepdpcdehaaPx6
import Derived.Test.YtkdfbepdpcdehaaPx7
import Derived.Test.YtkdfbepdpcdehaaH10
import Derived.Test.YtkdfbepdpcdehaaH10a
import Derived.Test.YtkdfbepdpcdehaaH10b
import Derived.Test.YtkdfbepdpcdehaaOb10
namespace Go.Proofs.Ytkdfbepdpcdehaa.P
open Go.RowKit Go.Proofs.YtkdfbepdpcdehaaW.PrintWords Go.Proofs.YtkdfbepdpcdehaaW.PrintLast Go.Proofs.YtkdfbepdpcdehaaW.PrintMore
attribute [local go_sem] max2_int min2_int max_two min_two max_three min_three max_four min_four   -- for this text's walks alone
set_option linter.unusedVariables false
set_option linter.unusedSimpArgs false

/-! ### juratlaw10_PatsMade: function 4 -/
mutual
def juratlaw10_PatsMade.j0 : Nat → List ByteArray → Int → ByteArray → Bool → Option (Bool)
  | 0, _, _, _, _ => none
  | k + 1, x0, x1, x2, x23 => if x23 = true then ((juratlaw10_awake.f).bind fun t241 => (some t241)) else ((pats_New.f x0).bind fun bt242 => ((juratref10_New.f k x0).bind fun bt244 => (if bt242.2 = bt244.2 then (if bt242.1.isNone = true then (juratlaw10_PatsMade.j1 k x1 x2 none bt244.1 (false != (bt242.2 == 0))) else (juratlaw10_PatsMade.j1 k x1 x2 (some (bt242.1.get!)) bt244.1 (true != (bt242.2 == 0)))) else (juratlaw10_PatsMade.j1 k x1 x2 bt242.1 bt244.1 true))))
def juratlaw10_PatsMade.j1 : Nat → Int → ByteArray → Option D46 → List ByteArray → Bool → Option (Bool)
  | 0, _, _, _, _, _ => none
  | k + 1, x1, x2, x7, x9, x44 => if x44 = true then (some false) else ((pats_Set_At.f x7 x1).bind fun bt249 => ((pats_Set_Find.f x7 x2).bind fun bt251 => ((juratref10_Find.f k x9 x2).bind fun t253 => (if x1 ≥ 0 then (if (bt249.2 != (decide (x1 < (x9.length : Int)))) = true then (juratlaw10_PatsMade.j2 k x7 x9 true) else (if bt249.2 = true then (if 0 ≤ x1 then (if x1 < (x9.length : Int) then (if bt249.1.toList = (rdOf ByteArray.empty x9 x1).toList then (if (bt251.2 != (decide (t253 ≥ 0))) = true then (juratlaw10_PatsMade.j2 k x7 x9 true) else (if bt251.2 = true then (if bt251.1 = t253 then (juratlaw10_PatsMade.j2 k x7 x9 false) else (juratlaw10_PatsMade.j2 k x7 x9 true)) else (juratlaw10_PatsMade.j2 k x7 x9 (bt251.1 != 0)))) else (juratlaw10_PatsMade.j2 k x7 x9 true)) else (none)) else (none)) else (if bt249.1.toList = ([] : List UInt8) then (if (bt251.2 != (decide (t253 ≥ 0))) = true then (juratlaw10_PatsMade.j2 k x7 x9 true) else (if bt251.2 = true then (if bt251.1 = t253 then (juratlaw10_PatsMade.j2 k x7 x9 false) else (juratlaw10_PatsMade.j2 k x7 x9 true)) else (juratlaw10_PatsMade.j2 k x7 x9 (bt251.1 != 0)))) else (juratlaw10_PatsMade.j2 k x7 x9 true)))) else (if (bt249.2 != false) = true then (juratlaw10_PatsMade.j2 k x7 x9 true) else (if bt249.2 = true then (if 0 ≤ x1 then (if x1 < (x9.length : Int) then (if bt249.1.toList = (rdOf ByteArray.empty x9 x1).toList then (if (bt251.2 != (decide (t253 ≥ 0))) = true then (juratlaw10_PatsMade.j2 k x7 x9 true) else (if bt251.2 = true then (if bt251.1 = t253 then (juratlaw10_PatsMade.j2 k x7 x9 false) else (juratlaw10_PatsMade.j2 k x7 x9 true)) else (juratlaw10_PatsMade.j2 k x7 x9 (bt251.1 != 0)))) else (juratlaw10_PatsMade.j2 k x7 x9 true)) else (none)) else (none)) else (if bt249.1.toList = ([] : List UInt8) then (if (bt251.2 != (decide (t253 ≥ 0))) = true then (juratlaw10_PatsMade.j2 k x7 x9 true) else (if bt251.2 = true then (if bt251.1 = t253 then (juratlaw10_PatsMade.j2 k x7 x9 false) else (juratlaw10_PatsMade.j2 k x7 x9 true)) else (juratlaw10_PatsMade.j2 k x7 x9 (bt251.1 != 0)))) else (juratlaw10_PatsMade.j2 k x7 x9 true))))))))
def juratlaw10_PatsMade.j2 : Nat → Option D46 → List ByteArray → Bool → Option (Bool)
  | 0, _, _, _ => none
  | k + 1, x7, x9, x110 => if x110 = true then (some false) else ((pats_Set_List.f x7).bind fun t256 => ((juratref05_Same.f k t256 x9).bind fun t259 => (if t259 = true then ((pats_Set_Len.f x7).bind fun t260 => (if t260 = (x9.length : Int) then ((pats_Set_Least.f x7).bind fun t261 => ((juratref10_Least.f k x9).bind fun t262 => (if t261 = t262 then ((pats_Set_Most.f x7).bind fun t263 => ((juratref10_Most.f k x9).bind fun t264 => (if t263 = t264 then ((pats_Set_Total.f x7).bind fun t265 => ((juratref10_Total.f k x9).bind fun t266 => (if t265 = t266 then ((juratlaw10_awake.f).bind fun t267 => (some t267)) else (some false)))) else (some false)))) else (some false)))) else (some false))) else (some false))))
end
def juratlaw10_PatsMade.f (k : Nat) (l0 : List ByteArray) (a1 : Int) (a2 : ByteArray) : Option (Bool) := (juratref09_Few.f k l0 20 50).bind fun t240 => (if t240 = true then (juratlaw10_PatsMade.j0 k l0 a1 a2 (decide ((a2.size : Int) > 50))) else (juratlaw10_PatsMade.j0 k l0 a1 a2 true))
theorem juratlaw10_PatsMade.mono_l : ∀ k, (∀ y0 y1 y2 y3, LeO (juratlaw10_PatsMade.j0 k y0 y1 y2 y3) (juratlaw10_PatsMade.j0 (k + 1) y0 y1 y2 y3)) ∧ (∀ y0 y1 y2 y3 y4, LeO (juratlaw10_PatsMade.j1 k y0 y1 y2 y3 y4) (juratlaw10_PatsMade.j1 (k + 1) y0 y1 y2 y3 y4)) ∧ (∀ y0 y1 y2, LeO (juratlaw10_PatsMade.j2 k y0 y1 y2) (juratlaw10_PatsMade.j2 (k + 1) y0 y1 y2))
  | 0 => ⟨fun _ _ _ _ r h => by simp [juratlaw10_PatsMade.j0] at h, fun _ _ _ _ _ r h => by simp [juratlaw10_PatsMade.j1] at h, fun _ _ _ r h => by simp [juratlaw10_PatsMade.j2] at h⟩
  | k + 1 => by
    obtain ⟨ih0, ih1, ih2⟩ := juratlaw10_PatsMade.mono_l k
    refine ⟨?_, ?_, ?_⟩
    · intro y0 y1 y2 y3
      unfold juratlaw10_PatsMade.j0
      repeat' first
      | (with_reducible exact ih0 _ _ _ _)
      | (with_reducible exact ih1 _ _ _ _ _)
      | (with_reducible exact ih2 _ _ _)
      | (with_reducible exact juratref05_Same.mono _ _ _)
      | (with_reducible exact juratref09_Few.mono _ _ _ _)
      | (with_reducible exact juratref10_Find.mono _ _ _)
      | (with_reducible exact juratref10_Least.mono _ _)
      | (with_reducible exact juratref10_Most.mono _ _)
      | (with_reducible exact juratref10_New.mono _ _)
      | (with_reducible exact juratref10_Total.mono _ _)
      | (with_reducible exact LeO.refl _)
      | (with_reducible exact LeO.none _)
      | (with_reducible refine LeO.ite ?_ ?_)
      | (with_reducible refine LeO.bind ?_ (fun _ => ?_))
      | exact ih0 _ _ _ _
      | exact ih1 _ _ _ _ _
      | exact ih2 _ _ _
      | exact juratref05_Same.mono _ _ _
      | exact juratref09_Few.mono _ _ _ _
      | exact juratref10_Find.mono _ _ _
      | exact juratref10_Least.mono _ _
      | exact juratref10_Most.mono _ _
      | exact juratref10_New.mono _ _
      | exact juratref10_Total.mono _ _
      | exact LeO.none _
      | refine LeO.ite ?_ ?_
      | refine LeO.bind ?_ (fun _ => ?_)
    · intro y0 y1 y2 y3 y4
      unfold juratlaw10_PatsMade.j1
      repeat' first
      | (with_reducible exact ih0 _ _ _ _)
      | (with_reducible exact ih1 _ _ _ _ _)
      | (with_reducible exact ih2 _ _ _)
      | (with_reducible exact juratref05_Same.mono _ _ _)
      | (with_reducible exact juratref09_Few.mono _ _ _ _)
      | (with_reducible exact juratref10_Find.mono _ _ _)
      | (with_reducible exact juratref10_Least.mono _ _)
      | (with_reducible exact juratref10_Most.mono _ _)
      | (with_reducible exact juratref10_New.mono _ _)
      | (with_reducible exact juratref10_Total.mono _ _)
      | (with_reducible exact LeO.refl _)
      | (with_reducible exact LeO.none _)
      | (with_reducible refine LeO.ite ?_ ?_)
      | (with_reducible refine LeO.bind ?_ (fun _ => ?_))
      | exact ih0 _ _ _ _
      | exact ih1 _ _ _ _ _
      | exact ih2 _ _ _
      | exact juratref05_Same.mono _ _ _
      | exact juratref09_Few.mono _ _ _ _
      | exact juratref10_Find.mono _ _ _
      | exact juratref10_Least.mono _ _
      | exact juratref10_Most.mono _ _
      | exact juratref10_New.mono _ _
      | exact juratref10_Total.mono _ _
      | exact LeO.none _
      | refine LeO.ite ?_ ?_
      | refine LeO.bind ?_ (fun _ => ?_)
    · intro y0 y1 y2
      unfold juratlaw10_PatsMade.j2
      repeat' first
      | (with_reducible exact ih0 _ _ _ _)
      | (with_reducible exact ih1 _ _ _ _ _)
      | (with_reducible exact ih2 _ _ _)
      | (with_reducible exact juratref05_Same.mono _ _ _)
      | (with_reducible exact juratref09_Few.mono _ _ _ _)
      | (with_reducible exact juratref10_Find.mono _ _ _)
      | (with_reducible exact juratref10_Least.mono _ _)
      | (with_reducible exact juratref10_Most.mono _ _)
      | (with_reducible exact juratref10_New.mono _ _)
      | (with_reducible exact juratref10_Total.mono _ _)
      | (with_reducible exact LeO.refl _)
      | (with_reducible exact LeO.none _)
      | (with_reducible refine LeO.ite ?_ ?_)
      | (with_reducible refine LeO.bind ?_ (fun _ => ?_))
      | exact ih0 _ _ _ _
      | exact ih1 _ _ _ _ _
      | exact ih2 _ _ _
      | exact juratref05_Same.mono _ _ _
      | exact juratref09_Few.mono _ _ _ _
      | exact juratref10_Find.mono _ _ _
      | exact juratref10_Least.mono _ _
      | exact juratref10_Most.mono _ _
      | exact juratref10_New.mono _ _
      | exact juratref10_Total.mono _ _
      | exact LeO.none _
      | refine LeO.ite ?_ ?_
      | refine LeO.bind ?_ (fun _ => ?_)
theorem juratlaw10_PatsMade.mono : ∀ a0 a1 a2 k, LeO (juratlaw10_PatsMade.f k a0 a1 a2) (juratlaw10_PatsMade.f (k + 1) a0 a1 a2) := by
  intro a0 a1 a2 k
  obtain ⟨ih0, ih1, ih2⟩ := juratlaw10_PatsMade.mono_l k
  unfold juratlaw10_PatsMade.f
  repeat' first
      | (with_reducible exact ih0 _ _ _ _)
      | (with_reducible exact ih1 _ _ _ _ _)
      | (with_reducible exact ih2 _ _ _)
      | (with_reducible exact juratref05_Same.mono _ _ _)
      | (with_reducible exact juratref09_Few.mono _ _ _ _)
      | (with_reducible exact juratref10_Find.mono _ _ _)
      | (with_reducible exact juratref10_Least.mono _ _)
      | (with_reducible exact juratref10_Most.mono _ _)
      | (with_reducible exact juratref10_New.mono _ _)
      | (with_reducible exact juratref10_Total.mono _ _)
      | (with_reducible exact LeO.refl _)
      | (with_reducible exact LeO.none _)
      | (with_reducible refine LeO.ite ?_ ?_)
      | (with_reducible refine LeO.bind ?_ (fun _ => ?_))
      | exact ih0 _ _ _ _
      | exact ih1 _ _ _ _ _
      | exact ih2 _ _ _
      | exact juratref05_Same.mono _ _ _
      | exact juratref09_Few.mono _ _ _ _
      | exact juratref10_Find.mono _ _ _
      | exact juratref10_Least.mono _ _
      | exact juratref10_Most.mono _ _
      | exact juratref10_New.mono _ _
      | exact juratref10_Total.mono _ _
      | exact LeO.none _
      | refine LeO.ite ?_ ?_
      | refine LeO.bind ?_ (fun _ => ?_)
set_option maxHeartbeats 8000000 in
set_option maxRecDepth 100000 in
theorem juratlaw10_PatsMade.calls (k : Nat) (A0 : Option Addr) (c0 : Nat) (l0 : List ByteArray) (a1 : Int) (a2 : ByteArray) (r : Bool) (w : World) (hr0 : Kd.C Kd.string w A0 l0.length l0) (hc0 : l0.length ≤ c0) (h : juratlaw10_PatsMade.f k l0 a1 a2 = some r) :
    Calls Try.prog 4 #[.slice A0 l0.length c0, .int .i64 a1, .string a2] w fun e w' => e = .returned (.bool r) ∧ Below w.heap.size w w' := by
  have HR0 := Aside0.mk hr0
  have HC0 := Aside0.mk hc0
  clear hr0 hc0
  have HB := Aside0.mk (Below.refl w.heap.size w)
  have H : ((juratref09_Few.f k l0 20 50).bind fun t240 => (if t240 = true then (juratlaw10_PatsMade.j0 k l0 a1 a2 (decide ((a2.size : Int) > 50))) else (juratlaw10_PatsMade.j0 k l0 a1 a2 true))) = some r := h
  clear h
  have HC4 := Aside0.mk H
  clear H
  go_enter Try.func4, Try.ntmps4
  go_upto_region 1 with (fail)
  go_cut [23] (fun v23 wc => ∃ (kq : Nat) (x23_3 : Bool), v23 = .bool x23_3 ∧ Aside0 (juratlaw10_PatsMade.j0 kq l0 a1 a2 x23_3 = some r) ∧ Aside0 (kq ≤ k) ∧ Aside0 (Below w.heap.size w wc))
  case first =>
    have H := HC4.out
    clear HC4
    replace H := Option.bind_eq_some_iff.mp H
    obtain ⟨t240, A50, H⟩ := H
    replace H : (if t240 = true then (juratlaw10_PatsMade.j0 k l0 a1 a2 (decide ((a2.size : Int) > 50))) else (juratlaw10_PatsMade.j0 k l0 a1 a2 true)) = some r := H
    have A5 := Aside0.mk A50
    clear A50
    by_cases c6 : t240 = true
    · subst c6
      have H1 : (juratlaw10_PatsMade.j0 k l0 a1 a2 (decide ((a2.size : Int) > 50))) = some r := by rw [if_pos rfl] at H; exact H
      clear H
      have H := H1
      clear H1
      have H' := Aside0.mk H
      clear H
      go_wp2_with (first | ((with_reducible refine gate_callee (f := 6) rfl ?_); refine goesL_ (some 17) rfl rfl Try.func6 (by kernel_rfl) rfl #[.slice A0 l0.length c0, .int .i64 20, .int .i64 50] rfl (by (try simp only [List.map_toArray, List.map_cons, List.map_nil]); first | done | rfl | (simp only [List.length_drop, List.length_take]; rfl)) ?_; (with_reducible refine (juratref09_Few.calls k _ _ l0 20 50 true _ ?side1 ?side2 A5.out).mono ?_); (case side1 => repeat (first | exact (Kd.C_below HR0.out HB.out) | (with_reducible refine Kd.C_alloc ?_ _) | (with_reducible refine Kd.C_drewN ?_ _) | (with_reducible refine Kd.C_drew ?_))); (case side2 => exact HC0.out); rintro e w' ⟨rfl, ⟨nd, rfl⟩⟩; refine ⟨_, rfl, ?_⟩))
      go_meet
      case rel => exact ⟨_, (decide ((a2.size : Int) > 50)), (by first | rfl | exact isE_ _ | exact isE2_ _ | (simp; done) | (simp [*]; done)), H', ⟨by first | omega | exact Nat.le_refl _⟩, ⟨by repeat (first | (with_reducible first | exact HB.out | apply below_alloc | apply pw_below_drewN | apply below_drew1) | exact HB.out)⟩⟩
    · replace c6 := Bool.eq_false_iff.mpr c6
      subst c6
      have H1 : (juratlaw10_PatsMade.j0 k l0 a1 a2 true) = some r := by rw [if_neg (show ¬ (false = true) by decide)] at H; exact H
      clear H
      have H := H1
      clear H1
      have H' := Aside0.mk H
      clear H
      go_wp2_with (first | ((with_reducible refine gate_callee (f := 6) rfl ?_); refine goesL_ (some 17) rfl rfl Try.func6 (by kernel_rfl) rfl #[.slice A0 l0.length c0, .int .i64 20, .int .i64 50] rfl (by (try simp only [List.map_toArray, List.map_cons, List.map_nil]); first | done | rfl | (simp only [List.length_drop, List.length_take]; rfl)) ?_; (with_reducible refine (juratref09_Few.calls k _ _ l0 20 50 false _ ?side1 ?side2 A5.out).mono ?_); (case side1 => repeat (first | exact (Kd.C_below HR0.out HB.out) | (with_reducible refine Kd.C_alloc ?_ _) | (with_reducible refine Kd.C_drewN ?_ _) | (with_reducible refine Kd.C_drew ?_))); (case side2 => exact HC0.out); rintro e w' ⟨rfl, ⟨nd, rfl⟩⟩; refine ⟨_, rfl, ?_⟩))
      go_meet
      case rel => exact ⟨_, (true), (by first | rfl | exact isE_ _ | exact isE2_ _ | (simp; done) | (simp [*]; done)), H', ⟨by first | omega | exact Nat.le_refl _⟩, ⟨by repeat (first | (with_reducible first | exact HB.out | apply below_alloc | apply pw_below_drewN | apply below_drew1) | exact HB.out)⟩⟩
  case rest =>
    clear HC4
    try clear p2
    try clear c4
    try clear c6
    obtain ⟨kq, x23_3, rfl, HA, HJ3, HB⟩ := hcut
    cases kq with
    | zero => exact absurd HA.out (by simp [juratlaw10_PatsMade.j0])
    | succ kj3 =>
      have H := HA.out
      clear HA
      simp only [juratlaw10_PatsMade.j0] at H
      by_cases c7 : x23_3 = true
      · subst c7
        have H1 : ((juratlaw10_awake.f).bind fun t241 => (some t241)) = some r := by rw [if_pos rfl] at H; exact H
        clear H
        have H := H1
        clear H1
        replace H := Option.bind_eq_some_iff.mp H
        obtain ⟨t241, A80, H⟩ := H
        replace H : (some t241) = some r := H
        have A8 := Aside0.mk A80
        clear A80
        obtain rfl := Option.some.inj H
        go_wp2_with (first | ((with_reducible refine gate_callee (f := 7) rfl ?_); refine goesL_ (some 24) rfl rfl Try.func7 (by kernel_rfl) rfl #[] rfl (by (try simp only [List.map_toArray, List.map_cons, List.map_nil]); first | done | rfl | (simp only [List.length_drop, List.length_take]; rfl)) ?_; (with_reducible refine (juratlaw10_awake.calls  t241 _ A8.out).mono ?_); rintro e w9 ⟨rfl, hb⟩; refine ⟨_, rfl, ?_⟩; have n0_ := Aside0.mk (below_step (by repeat (first | (with_reducible first | exact HB.out | apply below_alloc | apply pw_below_drewN | apply below_drew1) | exact HB.out)) hb); clear HB; have HB := n0_; clear n0_; (try clear hb); (try clear hb2); (try clear hk); (try clear hi)))
        go_ret
        exact ⟨by first | rfl | (simp [errW_none, errW_some] <;> rfl) | (simp [*, errW_none, errW_some] <;> rfl), by first | (refine HB00.out.trans (Below.mono ?_ HB00.out.size); (repeat (first | (with_reducible first | exact HB.out | apply below_alloc | apply pw_below_drewN | apply below_drew1) | exact HB.out))) | (repeat (first | (with_reducible first | exact HB.out | apply below_alloc | apply pw_below_drewN | apply below_drew1) | exact HB.out))⟩
      · replace c7 := Bool.eq_false_iff.mpr c7
        subst c7
        have H1 : ((pats_New.f l0).bind fun bt242 => ((juratref10_New.f kj3 l0).bind fun bt244 => (if bt242.2 = bt244.2 then (if bt242.1.isNone = true then (juratlaw10_PatsMade.j1 kj3 a1 a2 none bt244.1 (false != (bt242.2 == 0))) else (juratlaw10_PatsMade.j1 kj3 a1 a2 (some (bt242.1.get!)) bt244.1 (true != (bt242.2 == 0)))) else (juratlaw10_PatsMade.j1 kj3 a1 a2 bt242.1 bt244.1 true)))) = some r := by rw [if_neg (show ¬ (false = true) by decide)] at H; exact H
        clear H
        have H := H1
        clear H1
        replace H := Option.bind_eq_some_iff.mp H
        obtain ⟨⟨t242, t243⟩, A100, H⟩ := H
        replace H : ((juratref10_New.f kj3 l0).bind fun bt244 => (if t243 = bt244.2 then (if t242.isNone = true then (juratlaw10_PatsMade.j1 kj3 a1 a2 none bt244.1 (false != (t243 == 0))) else (juratlaw10_PatsMade.j1 kj3 a1 a2 (some (t242.get!)) bt244.1 (true != (t243 == 0)))) else (juratlaw10_PatsMade.j1 kj3 a1 a2 t242 bt244.1 true))) = some r := H
        have A10 := Aside0.mk A100
        clear A100
        replace H := Option.bind_eq_some_iff.mp H
        obtain ⟨⟨t244, t245⟩, A110, H⟩ := H
        replace H : (if t243 = t245 then (if t242.isNone = true then (juratlaw10_PatsMade.j1 kj3 a1 a2 none t244 (false != (t243 == 0))) else (juratlaw10_PatsMade.j1 kj3 a1 a2 (some (t242.get!)) t244 (true != (t243 == 0)))) else (juratlaw10_PatsMade.j1 kj3 a1 a2 t242 t244 true)) = some r := H
        have A11 := Aside0.mk A110
        clear A110
        have HC12 := Aside0.mk H
        clear H
        go_upto_region 5 with (first | ((with_reducible refine gate_callee (f := 8) rfl ?_); refine goesL_ (some 27) rfl rfl Try.func8 (by kernel_rfl) rfl #[.slice A0 l0.length c0] rfl (by (try simp only [List.map_toArray, List.map_cons, List.map_nil]); first | done | rfl | (simp only [List.length_drop, List.length_take]; rfl)) ?_; (with_reducible refine (pats_New.calls _ _ l0 t242 t243 _ ?side1 ?side2 A10.out).mono ?_); (case side1 => repeat (first | exact (Kd.C_below HR0.out HB.out) | (with_reducible refine Kd.C_alloc ?_ _) | (with_reducible refine Kd.C_drewN ?_ _) | (with_reducible refine Kd.C_drew ?_))); (case side2 => exact HC0.out); rintro e w13 ⟨Pt242, rfl, hob0, hb⟩; refine ⟨_, rfl, ?_⟩; have hbw_ := below_step (by repeat (first | (with_reducible first | exact HB.out | apply below_alloc | apply pw_below_drewN | apply below_drew1) | exact HB.out)) hb; (try (have n_ := Aside0.mk (Kd.C_below HR0.out hbw_); clear HR0; have HR0 := n_; clear n_)); (first | (have n_ := Aside0.mk (HB00.out.trans (hbw_.mono HB00.out.size)); clear HB00; have HB00 := n_; clear n_) | have HB00 := Aside0.mk hbw_); clear HB hb hbw_; have HO_t242 := Aside0.mk hob0; clear hob0; obtain ⟨w, rfl⟩ : ∃ w_ : World, w_ = w13 := ⟨_, rfl⟩; have HB := Aside0.mk (Below.refl w.heap.size w)) | ((with_reducible refine gate_callee (f := 14) rfl ?_); refine goesL_ (some 32) rfl rfl Try.func14 (by kernel_rfl) rfl #[.slice A0 l0.length c0] rfl (by (try simp only [List.map_toArray, List.map_cons, List.map_nil]); first | done | rfl | (simp only [List.length_drop, List.length_take]; rfl)) ?_; (with_reducible refine (juratref10_New.calls kj3 _ _ l0 t244 t245 _ ?side1 ?side2 A11.out).mono ?_); (case side1 => repeat (first | exact (Kd.C_below HR0.out HB.out) | (with_reducible refine Kd.C_alloc ?_ _) | (with_reducible refine Kd.C_drewN ?_ _) | (with_reducible refine Kd.C_drew ?_))); (case side2 => exact HC0.out); rintro e w14 ⟨v246, rfl, ho0, hb⟩; refine ⟨_, rfl, ?_⟩; have n0_ := Aside0.mk (Kd.R_lower ho0 (below_size (by repeat (first | (with_reducible first | exact HB.out | apply below_alloc | apply pw_below_drewN | apply below_drew1) | exact HB.out)))); have n1_ := Aside0.mk (below_step (by repeat (first | (with_reducible first | exact HB.out | apply below_alloc | apply pw_below_drewN | apply below_drew1) | exact HB.out)) hb); clear HB; have HO247 := n0_; have HB := n1_; clear n0_ n1_; (try clear hb); (try clear hb2); (try clear hk); (try clear hi); (try clear ho0)))
        (try simp only [Act.put, List.setIfInBounds_toArray, List.set_cons_zero, List.set_cons_succ])
        go_cut [44] (fun v44 wc => ∃ (kq : Nat) (x44_11 : Bool), v44 = .bool x44_11 ∧ Aside0 (juratlaw10_PatsMade.j1 kq a1 a2 t242 t244 x44_11 = some r) ∧ Aside0 (kq ≤ kj3) ∧ Aside0 (Kd.R Kd.string 9 wc w.heap.size (fun _ => True) v246 t244) ∧ Aside0 (Below w.heap.size w wc))
        case first =>
          have H := HC12.out
          clear HC12
          by_cases c15 : t243 = t245
          · rw [if_pos c15] at H
            have c15b0 : (t243 == t245) = true := beq_iff_eq.mpr c15
            have c15b1 : (t243 != t245) = false := bne_eq_false_iff_eq.mpr c15
            clear c15
            (first | rw [c15b0] | rw [c15b1] | (simp only [i64_w, i32_w]; rw [c15b0]) | skip)
            rcases t242 with _ | qo248
            · have H1 : (juratlaw10_PatsMade.j1 kj3 a1 a2 none t244 (false != (t243 == 0))) = some r := by rw [if_pos (show (none : Option _).isNone = true by rfl)] at H; exact H
              clear H
              have H := H1
              clear H1
              have hp_ := OB.p_none HO_t242.out
              subst hp_
              clear HO_t242
              have H' := Aside0.mk H
              clear H
              go_wp2
              go_meet
              case rel => exact ⟨_, ((false != (t243 == 0))), (by first | rfl | exact isE_ _ | exact isE2_ _ | (simp; done) | (simp [*]; done)), H', ⟨by have := HJ3.out; first | omega | exact Nat.le_refl _⟩, ⟨by (with_reducible repeat (first | apply Kd.R_alloc | apply Kd.R_drewN | apply Kd.R_drew)); exact HO247.out⟩, ⟨by repeat (first | (with_reducible first | exact HB.out | apply below_alloc | apply pw_below_drewN | apply below_drew1) | exact HB.out)⟩⟩
            · have H1 : (juratlaw10_PatsMade.j1 kj3 a1 a2 (some qo248) t244 (true != (t243 == 0))) = some r := by rw [if_neg (show ¬ (some qo248).isNone = true by simp)] at H; exact H
              clear H
              have H := H1
              clear H1
              obtain ⟨Pqo248, hp_⟩ := OB.p_some HO_t242.out
              subst hp_
              have HO_qo248 := HO_t242
              clear HO_t242
              have H' := Aside0.mk H
              clear H
              go_wp2
              go_meet
              case rel => exact ⟨_, ((true != (t243 == 0))), (by first | rfl | exact isE_ _ | exact isE2_ _ | (simp; done) | (simp [*]; done)), H', ⟨by have := HJ3.out; first | omega | exact Nat.le_refl _⟩, ⟨by (with_reducible repeat (first | apply Kd.R_alloc | apply Kd.R_drewN | apply Kd.R_drew)); exact HO247.out⟩, ⟨by repeat (first | (with_reducible first | exact HB.out | apply below_alloc | apply pw_below_drewN | apply below_drew1) | exact HB.out)⟩⟩
          · rw [if_neg c15] at H
            have c15b0 : (t243 == t245) = false := beq_eq_false_iff_ne.mpr c15
            have c15b1 : (t243 != t245) = true := bne_iff_ne.mpr c15
            (first | rw [c15b0] | rw [c15b1] | (simp only [i64_w, i32_w]; rw [c15b0]) | skip)
            have H' := Aside0.mk H
            clear H
            go_wp2
            go_meet
            case rel => exact ⟨_, (true), (by first | rfl | exact isE_ _ | exact isE2_ _ | (simp; done) | (simp [*]; done)), H', ⟨by have := HJ3.out; first | omega | exact Nat.le_refl _⟩, ⟨by (with_reducible repeat (first | apply Kd.R_alloc | apply Kd.R_drewN | apply Kd.R_drew)); exact HO247.out⟩, ⟨by repeat (first | (with_reducible first | exact HB.out | apply below_alloc | apply pw_below_drewN | apply below_drew1) | exact HB.out)⟩⟩
        case rest =>
          clear HC12
          try clear c1
          try clear p2
          try clear c4
          try clear c6
          try clear c7
          try clear c8
          try clear c14
          try clear c15
          try clear c15b0
          try clear c15b1
          try clear p2
          obtain ⟨kq, x44_11, rfl, HA, HJ11, HO_9, HB⟩ := hcut
          cases kq with
          | zero => exact absurd HA.out (by simp [juratlaw10_PatsMade.j1])
          | succ kj11 =>
            have H := HA.out
            clear HA
            simp only [juratlaw10_PatsMade.j1] at H
            by_cases c16 : x44_11 = true
            · subst c16
              have H1 : (some false) = some r := by rw [if_pos rfl] at H; exact H
              clear H
              have H := H1
              clear H1
              obtain rfl := Option.some.inj H
              go_wp2
              go_ret
              exact ⟨by first | rfl | (simp [errW_none, errW_some] <;> rfl) | (simp [*, errW_none, errW_some] <;> rfl), by first | (refine HB00.out.trans (Below.mono ?_ HB00.out.size); (repeat (first | (with_reducible first | exact HB.out | apply below_alloc | apply pw_below_drewN | apply below_drew1) | exact HB.out))) | (repeat (first | (with_reducible first | exact HB.out | apply below_alloc | apply pw_below_drewN | apply below_drew1) | exact HB.out))⟩
            · replace c16 := Bool.eq_false_iff.mpr c16
              subst c16
              have H1 : ((pats_Set_At.f t242 a1).bind fun bt249 => ((pats_Set_Find.f t242 a2).bind fun bt251 => ((juratref10_Find.f kj11 t244 a2).bind fun t253 => (if a1 ≥ 0 then (if (bt249.2 != (decide (a1 < (t244.length : Int)))) = true then (juratlaw10_PatsMade.j2 kj11 t242 t244 true) else (if bt249.2 = true then (if 0 ≤ a1 then (if a1 < (t244.length : Int) then (if bt249.1.toList = (rdOf ByteArray.empty t244 a1).toList then (if (bt251.2 != (decide (t253 ≥ 0))) = true then (juratlaw10_PatsMade.j2 kj11 t242 t244 true) else (if bt251.2 = true then (if bt251.1 = t253 then (juratlaw10_PatsMade.j2 kj11 t242 t244 false) else (juratlaw10_PatsMade.j2 kj11 t242 t244 true)) else (juratlaw10_PatsMade.j2 kj11 t242 t244 (bt251.1 != 0)))) else (juratlaw10_PatsMade.j2 kj11 t242 t244 true)) else (none)) else (none)) else (if bt249.1.toList = ([] : List UInt8) then (if (bt251.2 != (decide (t253 ≥ 0))) = true then (juratlaw10_PatsMade.j2 kj11 t242 t244 true) else (if bt251.2 = true then (if bt251.1 = t253 then (juratlaw10_PatsMade.j2 kj11 t242 t244 false) else (juratlaw10_PatsMade.j2 kj11 t242 t244 true)) else (juratlaw10_PatsMade.j2 kj11 t242 t244 (bt251.1 != 0)))) else (juratlaw10_PatsMade.j2 kj11 t242 t244 true)))) else (if (bt249.2 != false) = true then (juratlaw10_PatsMade.j2 kj11 t242 t244 true) else (if bt249.2 = true then (if 0 ≤ a1 then (if a1 < (t244.length : Int) then (if bt249.1.toList = (rdOf ByteArray.empty t244 a1).toList then (if (bt251.2 != (decide (t253 ≥ 0))) = true then (juratlaw10_PatsMade.j2 kj11 t242 t244 true) else (if bt251.2 = true then (if bt251.1 = t253 then (juratlaw10_PatsMade.j2 kj11 t242 t244 false) else (juratlaw10_PatsMade.j2 kj11 t242 t244 true)) else (juratlaw10_PatsMade.j2 kj11 t242 t244 (bt251.1 != 0)))) else (juratlaw10_PatsMade.j2 kj11 t242 t244 true)) else (none)) else (none)) else (if bt249.1.toList = ([] : List UInt8) then (if (bt251.2 != (decide (t253 ≥ 0))) = true then (juratlaw10_PatsMade.j2 kj11 t242 t244 true) else (if bt251.2 = true then (if bt251.1 = t253 then (juratlaw10_PatsMade.j2 kj11 t242 t244 false) else (juratlaw10_PatsMade.j2 kj11 t242 t244 true)) else (juratlaw10_PatsMade.j2 kj11 t242 t244 (bt251.1 != 0)))) else (juratlaw10_PatsMade.j2 kj11 t242 t244 true)))))))) = some r := by rw [if_neg (show ¬ (false = true) by decide)] at H; exact H
              clear H
              have H := H1
              clear H1
              replace H := Option.bind_eq_some_iff.mp H
              obtain ⟨⟨t249, t250⟩, A170, H⟩ := H
              replace H : ((pats_Set_Find.f t242 a2).bind fun bt251 => ((juratref10_Find.f kj11 t244 a2).bind fun t253 => (if a1 ≥ 0 then (if (t250 != (decide (a1 < (t244.length : Int)))) = true then (juratlaw10_PatsMade.j2 kj11 t242 t244 true) else (if t250 = true then (if 0 ≤ a1 then (if a1 < (t244.length : Int) then (if t249.toList = (rdOf ByteArray.empty t244 a1).toList then (if (bt251.2 != (decide (t253 ≥ 0))) = true then (juratlaw10_PatsMade.j2 kj11 t242 t244 true) else (if bt251.2 = true then (if bt251.1 = t253 then (juratlaw10_PatsMade.j2 kj11 t242 t244 false) else (juratlaw10_PatsMade.j2 kj11 t242 t244 true)) else (juratlaw10_PatsMade.j2 kj11 t242 t244 (bt251.1 != 0)))) else (juratlaw10_PatsMade.j2 kj11 t242 t244 true)) else (none)) else (none)) else (if t249.toList = ([] : List UInt8) then (if (bt251.2 != (decide (t253 ≥ 0))) = true then (juratlaw10_PatsMade.j2 kj11 t242 t244 true) else (if bt251.2 = true then (if bt251.1 = t253 then (juratlaw10_PatsMade.j2 kj11 t242 t244 false) else (juratlaw10_PatsMade.j2 kj11 t242 t244 true)) else (juratlaw10_PatsMade.j2 kj11 t242 t244 (bt251.1 != 0)))) else (juratlaw10_PatsMade.j2 kj11 t242 t244 true)))) else (if (t250 != false) = true then (juratlaw10_PatsMade.j2 kj11 t242 t244 true) else (if t250 = true then (if 0 ≤ a1 then (if a1 < (t244.length : Int) then (if t249.toList = (rdOf ByteArray.empty t244 a1).toList then (if (bt251.2 != (decide (t253 ≥ 0))) = true then (juratlaw10_PatsMade.j2 kj11 t242 t244 true) else (if bt251.2 = true then (if bt251.1 = t253 then (juratlaw10_PatsMade.j2 kj11 t242 t244 false) else (juratlaw10_PatsMade.j2 kj11 t242 t244 true)) else (juratlaw10_PatsMade.j2 kj11 t242 t244 (bt251.1 != 0)))) else (juratlaw10_PatsMade.j2 kj11 t242 t244 true)) else (none)) else (none)) else (if t249.toList = ([] : List UInt8) then (if (bt251.2 != (decide (t253 ≥ 0))) = true then (juratlaw10_PatsMade.j2 kj11 t242 t244 true) else (if bt251.2 = true then (if bt251.1 = t253 then (juratlaw10_PatsMade.j2 kj11 t242 t244 false) else (juratlaw10_PatsMade.j2 kj11 t242 t244 true)) else (juratlaw10_PatsMade.j2 kj11 t242 t244 (bt251.1 != 0)))) else (juratlaw10_PatsMade.j2 kj11 t242 t244 true))))))) = some r := H
              have A17 := Aside0.mk A170
              clear A170
              replace H := Option.bind_eq_some_iff.mp H
              obtain ⟨⟨t251, t252⟩, A180, H⟩ := H
              replace H : ((juratref10_Find.f kj11 t244 a2).bind fun t253 => (if a1 ≥ 0 then (if (t250 != (decide (a1 < (t244.length : Int)))) = true then (juratlaw10_PatsMade.j2 kj11 t242 t244 true) else (if t250 = true then (if 0 ≤ a1 then (if a1 < (t244.length : Int) then (if t249.toList = (rdOf ByteArray.empty t244 a1).toList then (if (t252 != (decide (t253 ≥ 0))) = true then (juratlaw10_PatsMade.j2 kj11 t242 t244 true) else (if t252 = true then (if t251 = t253 then (juratlaw10_PatsMade.j2 kj11 t242 t244 false) else (juratlaw10_PatsMade.j2 kj11 t242 t244 true)) else (juratlaw10_PatsMade.j2 kj11 t242 t244 (t251 != 0)))) else (juratlaw10_PatsMade.j2 kj11 t242 t244 true)) else (none)) else (none)) else (if t249.toList = ([] : List UInt8) then (if (t252 != (decide (t253 ≥ 0))) = true then (juratlaw10_PatsMade.j2 kj11 t242 t244 true) else (if t252 = true then (if t251 = t253 then (juratlaw10_PatsMade.j2 kj11 t242 t244 false) else (juratlaw10_PatsMade.j2 kj11 t242 t244 true)) else (juratlaw10_PatsMade.j2 kj11 t242 t244 (t251 != 0)))) else (juratlaw10_PatsMade.j2 kj11 t242 t244 true)))) else (if (t250 != false) = true then (juratlaw10_PatsMade.j2 kj11 t242 t244 true) else (if t250 = true then (if 0 ≤ a1 then (if a1 < (t244.length : Int) then (if t249.toList = (rdOf ByteArray.empty t244 a1).toList then (if (t252 != (decide (t253 ≥ 0))) = true then (juratlaw10_PatsMade.j2 kj11 t242 t244 true) else (if t252 = true then (if t251 = t253 then (juratlaw10_PatsMade.j2 kj11 t242 t244 false) else (juratlaw10_PatsMade.j2 kj11 t242 t244 true)) else (juratlaw10_PatsMade.j2 kj11 t242 t244 (t251 != 0)))) else (juratlaw10_PatsMade.j2 kj11 t242 t244 true)) else (none)) else (none)) else (if t249.toList = ([] : List UInt8) then (if (t252 != (decide (t253 ≥ 0))) = true then (juratlaw10_PatsMade.j2 kj11 t242 t244 true) else (if t252 = true then (if t251 = t253 then (juratlaw10_PatsMade.j2 kj11 t242 t244 false) else (juratlaw10_PatsMade.j2 kj11 t242 t244 true)) else (juratlaw10_PatsMade.j2 kj11 t242 t244 (t251 != 0)))) else (juratlaw10_PatsMade.j2 kj11 t242 t244 true)))))) = some r := H
              have A18 := Aside0.mk A180
              clear A180
              replace H := Option.bind_eq_some_iff.mp H
              obtain ⟨t253, A190, H⟩ := H
              replace H : (if a1 ≥ 0 then (if (t250 != (decide (a1 < (t244.length : Int)))) = true then (juratlaw10_PatsMade.j2 kj11 t242 t244 true) else (if t250 = true then (if 0 ≤ a1 then (if a1 < (t244.length : Int) then (if t249.toList = (rdOf ByteArray.empty t244 a1).toList then (if (t252 != (decide (t253 ≥ 0))) = true then (juratlaw10_PatsMade.j2 kj11 t242 t244 true) else (if t252 = true then (if t251 = t253 then (juratlaw10_PatsMade.j2 kj11 t242 t244 false) else (juratlaw10_PatsMade.j2 kj11 t242 t244 true)) else (juratlaw10_PatsMade.j2 kj11 t242 t244 (t251 != 0)))) else (juratlaw10_PatsMade.j2 kj11 t242 t244 true)) else (none)) else (none)) else (if t249.toList = ([] : List UInt8) then (if (t252 != (decide (t253 ≥ 0))) = true then (juratlaw10_PatsMade.j2 kj11 t242 t244 true) else (if t252 = true then (if t251 = t253 then (juratlaw10_PatsMade.j2 kj11 t242 t244 false) else (juratlaw10_PatsMade.j2 kj11 t242 t244 true)) else (juratlaw10_PatsMade.j2 kj11 t242 t244 (t251 != 0)))) else (juratlaw10_PatsMade.j2 kj11 t242 t244 true)))) else (if (t250 != false) = true then (juratlaw10_PatsMade.j2 kj11 t242 t244 true) else (if t250 = true then (if 0 ≤ a1 then (if a1 < (t244.length : Int) then (if t249.toList = (rdOf ByteArray.empty t244 a1).toList then (if (t252 != (decide (t253 ≥ 0))) = true then (juratlaw10_PatsMade.j2 kj11 t242 t244 true) else (if t252 = true then (if t251 = t253 then (juratlaw10_PatsMade.j2 kj11 t242 t244 false) else (juratlaw10_PatsMade.j2 kj11 t242 t244 true)) else (juratlaw10_PatsMade.j2 kj11 t242 t244 (t251 != 0)))) else (juratlaw10_PatsMade.j2 kj11 t242 t244 true)) else (none)) else (none)) else (if t249.toList = ([] : List UInt8) then (if (t252 != (decide (t253 ≥ 0))) = true then (juratlaw10_PatsMade.j2 kj11 t242 t244 true) else (if t252 = true then (if t251 = t253 then (juratlaw10_PatsMade.j2 kj11 t242 t244 false) else (juratlaw10_PatsMade.j2 kj11 t242 t244 true)) else (juratlaw10_PatsMade.j2 kj11 t242 t244 (t251 != 0)))) else (juratlaw10_PatsMade.j2 kj11 t242 t244 true))))) = some r := H
              have A19 := Aside0.mk A190
              clear A190
              have HC20 := Aside0.mk H
              clear H
              go_upto_region 10 with (first | ((with_reducible refine gate_callee (f := 12) rfl ?_); refine goesL_ (some 48) rfl rfl Try.func12 (by kernel_rfl) rfl #[.pointer Pt242, .int .i64 a1] rfl (by (try simp only [List.map_toArray, List.map_cons, List.map_nil]); first | done | rfl | (simp only [List.length_drop, List.length_take]; rfl)) ?_; (with_reducible refine (pats_Set_At.calls _ t242 a1 t249 t250 _ ?side1 A17.out).mono ?_); (case side1 => first | exact HO_t242.out | exact OB.drewN HO_t242.out _ | exact OB.below (by repeat (first | (with_reducible first | exact HB.out | apply below_alloc | apply pw_below_drewN | apply below_drew1) | exact HB.out)) HO_t242.out); rintro e w' ⟨rfl, ⟨nd, rfl⟩⟩; refine ⟨_, rfl, ?_⟩) | ((with_reducible refine gate_callee (f := 11) rfl ?_); refine goesL_ (some 54) rfl rfl Try.func11 (by kernel_rfl) rfl #[.pointer Pt242, .string a2] rfl (by (try simp only [List.map_toArray, List.map_cons, List.map_nil]); first | done | rfl | (simp only [List.length_drop, List.length_take]; rfl)) ?_; (with_reducible refine (pats_Set_Find.calls _ t242 a2 t251 t252 _ ?side1 A18.out).mono ?_); (case side1 => first | exact HO_t242.out | exact OB.drewN HO_t242.out _ | exact OB.below (by repeat (first | (with_reducible first | exact HB.out | apply below_alloc | apply pw_below_drewN | apply below_drew1) | exact HB.out)) HO_t242.out); rintro e w' ⟨rfl, ⟨nd, rfl⟩⟩; refine ⟨_, rfl, ?_⟩; obtain ⟨Ao21, co21, eo21⟩ := Kd.R_slice HO_9.out; subst eo21) | ((with_reducible refine gate_callee (f := 15) rfl ?_); refine goesL_ (some 59) rfl rfl Try.func15 (by kernel_rfl) rfl #[.slice Ao21 t244.length co21, .string a2] rfl (by (try simp only [List.map_toArray, List.map_cons, List.map_nil]); first | done | rfl | (simp only [List.length_drop, List.length_take]; rfl)) ?_; (with_reducible refine (juratref10_Find.calls kj11 _ _ t244 a2 t253 _ ?side1 ?side2 A19.out).mono ?_); (case side1 => repeat (first | exact (Kd.R_reads' HO_9.out).2.2 | (with_reducible refine Kd.C_alloc ?_ _) | (with_reducible refine Kd.C_drewN ?_ _) | (with_reducible refine Kd.C_drew ?_))); (case side2 => exact (Kd.R_reads' HO_9.out).2.1); rintro e w' ⟨rfl, ⟨nd, rfl⟩⟩; refine ⟨_, rfl, ?_⟩))
              (try simp only [Act.put, List.setIfInBounds_toArray, List.set_cons_zero, List.set_cons_succ])
              go_cut [110] (fun v110 wc => ∃ (kq : Nat) (x110_19 : Bool), v110 = .bool x110_19 ∧ Aside0 (juratlaw10_PatsMade.j2 kq t242 t244 x110_19 = some r) ∧ Aside0 (kq ≤ kj11) ∧ Aside0 (Kd.R Kd.string 9 wc w.heap.size (fun _ => True) (.slice Ao21 t244.length co21) t244) ∧ Aside0 (Below w.heap.size w wc))
              case first =>
                have H := HC20.out
                clear HC20
                by_cases c22 : a1 ≥ 0
                · rw [if_pos c22] at H
                  have c22b0 : decide (0 ≤ a1) = true := decide_eq_true c22
                  clear c22
                  (first | rw [c22b0] | rw [c22b1] | (simp only [i64_w, i32_w]; rw [c22b0]) | skip)
                  by_cases c23 : (t250 != (decide (a1 < (t244.length : Int)))) = true
                  · rw [if_pos c23] at H
                    have c23b0 : (t250 != (decide (a1 < (t244.length : Int)))) = true := c23
                    (try (have c23b1 : decide (t250 = (decide (a1 < (t244.length : Int)))) = false := by simpa using c23))
                    (try (have c23b2 : (t250 == (decide (a1 < (t244.length : Int)))) = false := by simpa using c23))
                    (try (have c23b3 : ¬ (t250 = (decide (a1 < (t244.length : Int)))) := by simpa using c23))
                    clear c23
                    have H' := Aside0.mk H
                    clear H
                    go_wp2
                    go_meet
                    case rel => exact ⟨_, (true), (by first | rfl | exact isE_ _ | exact isE2_ _ | (simp; done) | (simp [*]; done)), H', ⟨by have := HJ3.out; have := HJ11.out; first | omega | exact Nat.le_refl _⟩, ⟨by (with_reducible repeat (first | apply Kd.R_alloc | apply Kd.R_drewN | apply Kd.R_drew)); exact HO_9.out⟩, ⟨by repeat (first | (with_reducible first | exact HB.out | apply below_alloc | apply pw_below_drewN | apply below_drew1) | exact HB.out)⟩⟩
                  · rw [if_neg c23] at H
                    have c23b0 : (t250 != (decide (a1 < (t244.length : Int)))) = false := by simpa using c23
                    (try (have c23b1 : decide (t250 = (decide (a1 < (t244.length : Int)))) = true := by simpa using c23))
                    (try (have c23b2 : (t250 == (decide (a1 < (t244.length : Int)))) = true := by simpa using c23))
                    clear c23
                    by_cases c24 : t250 = true
                    · subst c24
                      have H1 : (if 0 ≤ a1 then (if a1 < (t244.length : Int) then (if t249.toList = (rdOf ByteArray.empty t244 a1).toList then (if (t252 != (decide (t253 ≥ 0))) = true then (juratlaw10_PatsMade.j2 kj11 t242 t244 true) else (if t252 = true then (if t251 = t253 then (juratlaw10_PatsMade.j2 kj11 t242 t244 false) else (juratlaw10_PatsMade.j2 kj11 t242 t244 true)) else (juratlaw10_PatsMade.j2 kj11 t242 t244 (t251 != 0)))) else (juratlaw10_PatsMade.j2 kj11 t242 t244 true)) else (none)) else (none)) = some r := by rw [if_pos rfl] at H; exact H
                      clear H
                      have H := H1
                      clear H1
                      by_cases c25 : 0 ≤ a1
                      · rw [if_pos c25] at H
                        have c25b0 : decide (0 ≤ a1) = true := decide_eq_true c25
                        clear c25
                        by_cases c26 : a1 < (t244.length : Int)
                        · rw [if_pos c26] at H
                          have c26b0 : decide (a1 < (t244.length : Int)) = true := decide_eq_true c26
                          clear c26
                          by_cases c27 : t249.toList = (rdOf ByteArray.empty t244 a1).toList
                          · rw [if_pos c27] at H
                            have c27b0 : (t249.toList == (rdOf ByteArray.empty t244 a1).toList) = true := beq_iff_eq.mpr c27
                            have c27b1 : (t249.toList != (rdOf ByteArray.empty t244 a1).toList) = false := bne_eq_false_iff_eq.mpr c27
                            clear c27
                            by_cases c28 : (t252 != (decide (t253 ≥ 0))) = true
                            · rw [if_pos c28] at H
                              have c28b0 : (t252 != (decide (t253 ≥ 0))) = true := c28
                              (try (have c28b1 : decide (t252 = (decide (t253 ≥ 0))) = false := by simpa using c28))
                              (try (have c28b2 : (t252 == (decide (t253 ≥ 0))) = false := by simpa using c28))
                              (try (have c28b3 : ¬ (t252 = (decide (t253 ≥ 0))) := by simpa using c28))
                              clear c28
                              have H' := Aside0.mk H
                              clear H
                              have p254 : 0 ≤ (a1 : Int) := of_decide_eq_true (by first | (with_reducible assumption) | assumption)
                              have q254 : a1 < (t244.length : Int) := of_decide_eq_true (by first | (with_reducible assumption) | assumption)
                              obtain ⟨ad254, e254, hx254_0⟩ := Kd.at_string (Kd.R_reads' HO_9.out).2.2 a1 p254 q254
                              cases e254
                              replace p254 := eq_true p254
                              replace q254 := eq_true q254
                              go_wp2
                              go_meet
                              case rel => exact ⟨_, (true), (by first | rfl | exact isE_ _ | exact isE2_ _ | (simp; done) | (simp [*]; done)), H', ⟨by have := HJ3.out; have := HJ11.out; first | omega | exact Nat.le_refl _⟩, ⟨by (with_reducible repeat (first | apply Kd.R_alloc | apply Kd.R_drewN | apply Kd.R_drew)); exact HO_9.out⟩, ⟨by repeat (first | (with_reducible first | exact HB.out | apply below_alloc | apply pw_below_drewN | apply below_drew1) | exact HB.out)⟩⟩
                            · rw [if_neg c28] at H
                              have c28b0 : (t252 != (decide (t253 ≥ 0))) = false := by simpa using c28
                              (try (have c28b1 : decide (t252 = (decide (t253 ≥ 0))) = true := by simpa using c28))
                              (try (have c28b2 : (t252 == (decide (t253 ≥ 0))) = true := by simpa using c28))
                              clear c28
                              by_cases c29 : t252 = true
                              · subst c29
                                have H1 : (if t251 = t253 then (juratlaw10_PatsMade.j2 kj11 t242 t244 false) else (juratlaw10_PatsMade.j2 kj11 t242 t244 true)) = some r := by rw [if_pos rfl] at H; exact H
                                clear H
                                have H := H1
                                clear H1
                                by_cases c30 : t251 = t253
                                · rw [if_pos c30] at H
                                  have c30b0 : (t251 == t253) = true := beq_iff_eq.mpr c30
                                  have c30b1 : (t251 != t253) = false := bne_eq_false_iff_eq.mpr c30
                                  clear c30
                                  have H' := Aside0.mk H
                                  clear H
                                  have p254 : 0 ≤ (a1 : Int) := of_decide_eq_true (by first | (with_reducible assumption) | assumption)
                                  have q254 : a1 < (t244.length : Int) := of_decide_eq_true (by first | (with_reducible assumption) | assumption)
                                  obtain ⟨ad254, e254, hx254_0⟩ := Kd.at_string (Kd.R_reads' HO_9.out).2.2 a1 p254 q254
                                  cases e254
                                  replace p254 := eq_true p254
                                  replace q254 := eq_true q254
                                  go_wp2
                                  go_meet
                                  case rel => exact ⟨_, (false), (by first | rfl | exact isE_ _ | exact isE2_ _ | (simp; done) | (simp [*]; done)), H', ⟨by have := HJ3.out; have := HJ11.out; first | omega | exact Nat.le_refl _⟩, ⟨by (with_reducible repeat (first | apply Kd.R_alloc | apply Kd.R_drewN | apply Kd.R_drew)); exact HO_9.out⟩, ⟨by repeat (first | (with_reducible first | exact HB.out | apply below_alloc | apply pw_below_drewN | apply below_drew1) | exact HB.out)⟩⟩
                                · rw [if_neg c30] at H
                                  have c30b0 : (t251 == t253) = false := beq_eq_false_iff_ne.mpr c30
                                  have c30b1 : (t251 != t253) = true := bne_iff_ne.mpr c30
                                  have H' := Aside0.mk H
                                  clear H
                                  have p254 : 0 ≤ (a1 : Int) := of_decide_eq_true (by first | (with_reducible assumption) | assumption)
                                  have q254 : a1 < (t244.length : Int) := of_decide_eq_true (by first | (with_reducible assumption) | assumption)
                                  obtain ⟨ad254, e254, hx254_0⟩ := Kd.at_string (Kd.R_reads' HO_9.out).2.2 a1 p254 q254
                                  cases e254
                                  replace p254 := eq_true p254
                                  replace q254 := eq_true q254
                                  go_wp2
                                  go_meet
                                  case rel => exact ⟨_, (true), (by first | rfl | exact isE_ _ | exact isE2_ _ | (simp; done) | (simp [*]; done)), H', ⟨by have := HJ3.out; have := HJ11.out; first | omega | exact Nat.le_refl _⟩, ⟨by (with_reducible repeat (first | apply Kd.R_alloc | apply Kd.R_drewN | apply Kd.R_drew)); exact HO_9.out⟩, ⟨by repeat (first | (with_reducible first | exact HB.out | apply below_alloc | apply pw_below_drewN | apply below_drew1) | exact HB.out)⟩⟩
                              · replace c29 := Bool.eq_false_iff.mpr c29
                                subst c29
                                have H1 : (juratlaw10_PatsMade.j2 kj11 t242 t244 (t251 != 0)) = some r := by rw [if_neg (show ¬ (false = true) by decide)] at H; exact H
                                clear H
                                have H := H1
                                clear H1
                                have H' := Aside0.mk H
                                clear H
                                have p254 : 0 ≤ (a1 : Int) := of_decide_eq_true (by first | (with_reducible assumption) | assumption)
                                have q254 : a1 < (t244.length : Int) := of_decide_eq_true (by first | (with_reducible assumption) | assumption)
                                obtain ⟨ad254, e254, hx254_0⟩ := Kd.at_string (Kd.R_reads' HO_9.out).2.2 a1 p254 q254
                                cases e254
                                replace p254 := eq_true p254
                                replace q254 := eq_true q254
                                go_wp2
                                go_meet
                                case rel => exact ⟨_, ((t251 != 0)), (by first | rfl | exact isE_ _ | exact isE2_ _ | (simp; done) | (simp [*]; done)), H', ⟨by have := HJ3.out; have := HJ11.out; first | omega | exact Nat.le_refl _⟩, ⟨by (with_reducible repeat (first | apply Kd.R_alloc | apply Kd.R_drewN | apply Kd.R_drew)); exact HO_9.out⟩, ⟨by repeat (first | (with_reducible first | exact HB.out | apply below_alloc | apply pw_below_drewN | apply below_drew1) | exact HB.out)⟩⟩
                          · rw [if_neg c27] at H
                            have c27b0 : (t249.toList == (rdOf ByteArray.empty t244 a1).toList) = false := beq_eq_false_iff_ne.mpr c27
                            have c27b1 : (t249.toList != (rdOf ByteArray.empty t244 a1).toList) = true := bne_iff_ne.mpr c27
                            have H' := Aside0.mk H
                            clear H
                            have p254 : 0 ≤ (a1 : Int) := of_decide_eq_true (by first | (with_reducible assumption) | assumption)
                            have q254 : a1 < (t244.length : Int) := of_decide_eq_true (by first | (with_reducible assumption) | assumption)
                            obtain ⟨ad254, e254, hx254_0⟩ := Kd.at_string (Kd.R_reads' HO_9.out).2.2 a1 p254 q254
                            cases e254
                            replace p254 := eq_true p254
                            replace q254 := eq_true q254
                            go_wp2
                            go_meet
                            case rel => exact ⟨_, (true), (by first | rfl | exact isE_ _ | exact isE2_ _ | (simp; done) | (simp [*]; done)), H', ⟨by have := HJ3.out; have := HJ11.out; first | omega | exact Nat.le_refl _⟩, ⟨by (with_reducible repeat (first | apply Kd.R_alloc | apply Kd.R_drewN | apply Kd.R_drew)); exact HO_9.out⟩, ⟨by repeat (first | (with_reducible first | exact HB.out | apply below_alloc | apply pw_below_drewN | apply below_drew1) | exact HB.out)⟩⟩
                        · rw [if_neg c26] at H
                          exact absurd H (by simp)
                      · rw [if_neg c25] at H
                        exact absurd H (by simp)
                    · replace c24 := Bool.eq_false_iff.mpr c24
                      subst c24
                      have H1 : (if t249.toList = ([] : List UInt8) then (if (t252 != (decide (t253 ≥ 0))) = true then (juratlaw10_PatsMade.j2 kj11 t242 t244 true) else (if t252 = true then (if t251 = t253 then (juratlaw10_PatsMade.j2 kj11 t242 t244 false) else (juratlaw10_PatsMade.j2 kj11 t242 t244 true)) else (juratlaw10_PatsMade.j2 kj11 t242 t244 (t251 != 0)))) else (juratlaw10_PatsMade.j2 kj11 t242 t244 true)) = some r := by rw [if_neg (show ¬ (false = true) by decide)] at H; exact H
                      clear H
                      have H := H1
                      clear H1
                      by_cases c31 : t249.toList = ([] : List UInt8)
                      · rw [if_pos c31] at H
                        have c31b0 : (t249.toList == ([] : List UInt8)) = true := beq_iff_eq.mpr c31
                        have c31b1 : (t249.toList != ([] : List UInt8)) = false := bne_eq_false_iff_eq.mpr c31
                        clear c31
                        by_cases c32 : (t252 != (decide (t253 ≥ 0))) = true
                        · rw [if_pos c32] at H
                          have c32b0 : (t252 != (decide (t253 ≥ 0))) = true := c32
                          (try (have c32b1 : decide (t252 = (decide (t253 ≥ 0))) = false := by simpa using c32))
                          (try (have c32b2 : (t252 == (decide (t253 ≥ 0))) = false := by simpa using c32))
                          (try (have c32b3 : ¬ (t252 = (decide (t253 ≥ 0))) := by simpa using c32))
                          clear c32
                          have H' := Aside0.mk H
                          clear H
                          go_wp2
                          go_meet
                          case rel => exact ⟨_, (true), (by first | rfl | exact isE_ _ | exact isE2_ _ | (simp; done) | (simp [*]; done)), H', ⟨by have := HJ3.out; have := HJ11.out; first | omega | exact Nat.le_refl _⟩, ⟨by (with_reducible repeat (first | apply Kd.R_alloc | apply Kd.R_drewN | apply Kd.R_drew)); exact HO_9.out⟩, ⟨by repeat (first | (with_reducible first | exact HB.out | apply below_alloc | apply pw_below_drewN | apply below_drew1) | exact HB.out)⟩⟩
                        · rw [if_neg c32] at H
                          have c32b0 : (t252 != (decide (t253 ≥ 0))) = false := by simpa using c32
                          (try (have c32b1 : decide (t252 = (decide (t253 ≥ 0))) = true := by simpa using c32))
                          (try (have c32b2 : (t252 == (decide (t253 ≥ 0))) = true := by simpa using c32))
                          clear c32
                          by_cases c33 : t252 = true
                          · subst c33
                            have H1 : (if t251 = t253 then (juratlaw10_PatsMade.j2 kj11 t242 t244 false) else (juratlaw10_PatsMade.j2 kj11 t242 t244 true)) = some r := by rw [if_pos rfl] at H; exact H
                            clear H
                            have H := H1
                            clear H1
                            by_cases c34 : t251 = t253
                            · rw [if_pos c34] at H
                              have c34b0 : (t251 == t253) = true := beq_iff_eq.mpr c34
                              have c34b1 : (t251 != t253) = false := bne_eq_false_iff_eq.mpr c34
                              clear c34
                              have H' := Aside0.mk H
                              clear H
                              go_wp2
                              go_meet
                              case rel => exact ⟨_, (false), (by first | rfl | exact isE_ _ | exact isE2_ _ | (simp; done) | (simp [*]; done)), H', ⟨by have := HJ3.out; have := HJ11.out; first | omega | exact Nat.le_refl _⟩, ⟨by (with_reducible repeat (first | apply Kd.R_alloc | apply Kd.R_drewN | apply Kd.R_drew)); exact HO_9.out⟩, ⟨by repeat (first | (with_reducible first | exact HB.out | apply below_alloc | apply pw_below_drewN | apply below_drew1) | exact HB.out)⟩⟩
                            · rw [if_neg c34] at H
                              have c34b0 : (t251 == t253) = false := beq_eq_false_iff_ne.mpr c34
                              have c34b1 : (t251 != t253) = true := bne_iff_ne.mpr c34
                              have H' := Aside0.mk H
                              clear H
                              go_wp2
                              go_meet
                              case rel => exact ⟨_, (true), (by first | rfl | exact isE_ _ | exact isE2_ _ | (simp; done) | (simp [*]; done)), H', ⟨by have := HJ3.out; have := HJ11.out; first | omega | exact Nat.le_refl _⟩, ⟨by (with_reducible repeat (first | apply Kd.R_alloc | apply Kd.R_drewN | apply Kd.R_drew)); exact HO_9.out⟩, ⟨by repeat (first | (with_reducible first | exact HB.out | apply below_alloc | apply pw_below_drewN | apply below_drew1) | exact HB.out)⟩⟩
                          · replace c33 := Bool.eq_false_iff.mpr c33
                            subst c33
                            have H1 : (juratlaw10_PatsMade.j2 kj11 t242 t244 (t251 != 0)) = some r := by rw [if_neg (show ¬ (false = true) by decide)] at H; exact H
                            clear H
                            have H := H1
                            clear H1
                            have H' := Aside0.mk H
                            clear H
                            go_wp2
                            go_meet
                            case rel => exact ⟨_, ((t251 != 0)), (by first | rfl | exact isE_ _ | exact isE2_ _ | (simp; done) | (simp [*]; done)), H', ⟨by have := HJ3.out; have := HJ11.out; first | omega | exact Nat.le_refl _⟩, ⟨by (with_reducible repeat (first | apply Kd.R_alloc | apply Kd.R_drewN | apply Kd.R_drew)); exact HO_9.out⟩, ⟨by repeat (first | (with_reducible first | exact HB.out | apply below_alloc | apply pw_below_drewN | apply below_drew1) | exact HB.out)⟩⟩
                      · rw [if_neg c31] at H
                        have c31b0 : (t249.toList == ([] : List UInt8)) = false := beq_eq_false_iff_ne.mpr c31
                        have c31b1 : (t249.toList != ([] : List UInt8)) = true := bne_iff_ne.mpr c31
                        have H' := Aside0.mk H
                        clear H
                        go_wp2
                        go_meet
                        case rel => exact ⟨_, (true), (by first | rfl | exact isE_ _ | exact isE2_ _ | (simp; done) | (simp [*]; done)), H', ⟨by have := HJ3.out; have := HJ11.out; first | omega | exact Nat.le_refl _⟩, ⟨by (with_reducible repeat (first | apply Kd.R_alloc | apply Kd.R_drewN | apply Kd.R_drew)); exact HO_9.out⟩, ⟨by repeat (first | (with_reducible first | exact HB.out | apply below_alloc | apply pw_below_drewN | apply below_drew1) | exact HB.out)⟩⟩
                · rw [if_neg c22] at H
                  have c22b0 : decide (0 ≤ a1) = false := decide_eq_false c22
                  clear c22
                  (first | rw [c22b0] | rw [c22b1] | (simp only [i64_w, i32_w]; rw [c22b0]) | skip)
                  by_cases c35 : (t250 != false) = true
                  · rw [if_pos c35] at H
                    have c35b0 : (t250 != false) = true := c35
                    (try (have c35b1 : decide (t250 = false) = false := by simpa using c35))
                    (try (have c35b2 : (t250 == false) = false := by simpa using c35))
                    (try (have c35b3 : ¬ (t250 = false) := by simpa using c35))
                    clear c35
                    have H' := Aside0.mk H
                    clear H
                    go_wp2
                    go_meet
                    case rel => exact ⟨_, (true), (by first | rfl | exact isE_ _ | exact isE2_ _ | (simp; done) | (simp [*]; done)), H', ⟨by have := HJ3.out; have := HJ11.out; first | omega | exact Nat.le_refl _⟩, ⟨by (with_reducible repeat (first | apply Kd.R_alloc | apply Kd.R_drewN | apply Kd.R_drew)); exact HO_9.out⟩, ⟨by repeat (first | (with_reducible first | exact HB.out | apply below_alloc | apply pw_below_drewN | apply below_drew1) | exact HB.out)⟩⟩
                  · rw [if_neg c35] at H
                    have c35b0 : (t250 != false) = false := by simpa using c35
                    (try (have c35b1 : decide (t250 = false) = true := by simpa using c35))
                    (try (have c35b2 : (t250 == false) = true := by simpa using c35))
                    clear c35
                    by_cases c36 : t250 = true
                    · subst c36
                      have H1 : (if 0 ≤ a1 then (if a1 < (t244.length : Int) then (if t249.toList = (rdOf ByteArray.empty t244 a1).toList then (if (t252 != (decide (t253 ≥ 0))) = true then (juratlaw10_PatsMade.j2 kj11 t242 t244 true) else (if t252 = true then (if t251 = t253 then (juratlaw10_PatsMade.j2 kj11 t242 t244 false) else (juratlaw10_PatsMade.j2 kj11 t242 t244 true)) else (juratlaw10_PatsMade.j2 kj11 t242 t244 (t251 != 0)))) else (juratlaw10_PatsMade.j2 kj11 t242 t244 true)) else (none)) else (none)) = some r := by rw [if_pos rfl] at H; exact H
                      clear H
                      have H := H1
                      clear H1
                      by_cases c37 : 0 ≤ a1
                      · rw [if_pos c37] at H
                        have c37b0 : decide (0 ≤ a1) = true := decide_eq_true c37
                        clear c37
                        by_cases c38 : a1 < (t244.length : Int)
                        · rw [if_pos c38] at H
                          have c38b0 : decide (a1 < (t244.length : Int)) = true := decide_eq_true c38
                          clear c38
                          by_cases c39 : t249.toList = (rdOf ByteArray.empty t244 a1).toList
                          · rw [if_pos c39] at H
                            have c39b0 : (t249.toList == (rdOf ByteArray.empty t244 a1).toList) = true := beq_iff_eq.mpr c39
                            have c39b1 : (t249.toList != (rdOf ByteArray.empty t244 a1).toList) = false := bne_eq_false_iff_eq.mpr c39
                            clear c39
                            by_cases c40 : (t252 != (decide (t253 ≥ 0))) = true
                            · rw [if_pos c40] at H
                              have c40b0 : (t252 != (decide (t253 ≥ 0))) = true := c40
                              (try (have c40b1 : decide (t252 = (decide (t253 ≥ 0))) = false := by simpa using c40))
                              (try (have c40b2 : (t252 == (decide (t253 ≥ 0))) = false := by simpa using c40))
                              (try (have c40b3 : ¬ (t252 = (decide (t253 ≥ 0))) := by simpa using c40))
                              clear c40
                              have H' := Aside0.mk H
                              clear H
                              have p255 : 0 ≤ (a1 : Int) := of_decide_eq_true (by first | (with_reducible assumption) | assumption)
                              have q255 : a1 < (t244.length : Int) := of_decide_eq_true (by first | (with_reducible assumption) | assumption)
                              obtain ⟨ad255, e255, hx255_0⟩ := Kd.at_string (Kd.R_reads' HO_9.out).2.2 a1 p255 q255
                              cases e255
                              replace p255 := eq_true p255
                              replace q255 := eq_true q255
                              go_wp2
                              go_meet
                              case rel => exact ⟨_, (true), (by first | rfl | exact isE_ _ | exact isE2_ _ | (simp; done) | (simp [*]; done)), H', ⟨by have := HJ3.out; have := HJ11.out; first | omega | exact Nat.le_refl _⟩, ⟨by (with_reducible repeat (first | apply Kd.R_alloc | apply Kd.R_drewN | apply Kd.R_drew)); exact HO_9.out⟩, ⟨by repeat (first | (with_reducible first | exact HB.out | apply below_alloc | apply pw_below_drewN | apply below_drew1) | exact HB.out)⟩⟩
                            · rw [if_neg c40] at H
                              have c40b0 : (t252 != (decide (t253 ≥ 0))) = false := by simpa using c40
                              (try (have c40b1 : decide (t252 = (decide (t253 ≥ 0))) = true := by simpa using c40))
                              (try (have c40b2 : (t252 == (decide (t253 ≥ 0))) = true := by simpa using c40))
                              clear c40
                              by_cases c41 : t252 = true
                              · subst c41
                                have H1 : (if t251 = t253 then (juratlaw10_PatsMade.j2 kj11 t242 t244 false) else (juratlaw10_PatsMade.j2 kj11 t242 t244 true)) = some r := by rw [if_pos rfl] at H; exact H
                                clear H
                                have H := H1
                                clear H1
                                by_cases c42 : t251 = t253
                                · rw [if_pos c42] at H
                                  have c42b0 : (t251 == t253) = true := beq_iff_eq.mpr c42
                                  have c42b1 : (t251 != t253) = false := bne_eq_false_iff_eq.mpr c42
                                  clear c42
                                  have H' := Aside0.mk H
                                  clear H
                                  have p255 : 0 ≤ (a1 : Int) := of_decide_eq_true (by first | (with_reducible assumption) | assumption)
                                  have q255 : a1 < (t244.length : Int) := of_decide_eq_true (by first | (with_reducible assumption) | assumption)
                                  obtain ⟨ad255, e255, hx255_0⟩ := Kd.at_string (Kd.R_reads' HO_9.out).2.2 a1 p255 q255
                                  cases e255
                                  replace p255 := eq_true p255
                                  replace q255 := eq_true q255
                                  go_wp2
                                  go_meet
                                  case rel => exact ⟨_, (false), (by first | rfl | exact isE_ _ | exact isE2_ _ | (simp; done) | (simp [*]; done)), H', ⟨by have := HJ3.out; have := HJ11.out; first | omega | exact Nat.le_refl _⟩, ⟨by (with_reducible repeat (first | apply Kd.R_alloc | apply Kd.R_drewN | apply Kd.R_drew)); exact HO_9.out⟩, ⟨by repeat (first | (with_reducible first | exact HB.out | apply below_alloc | apply pw_below_drewN | apply below_drew1) | exact HB.out)⟩⟩
                                · rw [if_neg c42] at H
                                  have c42b0 : (t251 == t253) = false := beq_eq_false_iff_ne.mpr c42
                                  have c42b1 : (t251 != t253) = true := bne_iff_ne.mpr c42
                                  have H' := Aside0.mk H
                                  clear H
                                  have p255 : 0 ≤ (a1 : Int) := of_decide_eq_true (by first | (with_reducible assumption) | assumption)
                                  have q255 : a1 < (t244.length : Int) := of_decide_eq_true (by first | (with_reducible assumption) | assumption)
                                  obtain ⟨ad255, e255, hx255_0⟩ := Kd.at_string (Kd.R_reads' HO_9.out).2.2 a1 p255 q255
                                  cases e255
                                  replace p255 := eq_true p255
                                  replace q255 := eq_true q255
                                  go_wp2
                                  go_meet
                                  case rel => exact ⟨_, (true), (by first | rfl | exact isE_ _ | exact isE2_ _ | (simp; done) | (simp [*]; done)), H', ⟨by have := HJ3.out; have := HJ11.out; first | omega | exact Nat.le_refl _⟩, ⟨by (with_reducible repeat (first | apply Kd.R_alloc | apply Kd.R_drewN | apply Kd.R_drew)); exact HO_9.out⟩, ⟨by repeat (first | (with_reducible first | exact HB.out | apply below_alloc | apply pw_below_drewN | apply below_drew1) | exact HB.out)⟩⟩
                              · replace c41 := Bool.eq_false_iff.mpr c41
                                subst c41
                                have H1 : (juratlaw10_PatsMade.j2 kj11 t242 t244 (t251 != 0)) = some r := by rw [if_neg (show ¬ (false = true) by decide)] at H; exact H
                                clear H
                                have H := H1
                                clear H1
                                have H' := Aside0.mk H
                                clear H
                                have p255 : 0 ≤ (a1 : Int) := of_decide_eq_true (by first | (with_reducible assumption) | assumption)
                                have q255 : a1 < (t244.length : Int) := of_decide_eq_true (by first | (with_reducible assumption) | assumption)
                                obtain ⟨ad255, e255, hx255_0⟩ := Kd.at_string (Kd.R_reads' HO_9.out).2.2 a1 p255 q255
                                cases e255
                                replace p255 := eq_true p255
                                replace q255 := eq_true q255
                                go_wp2
                                go_meet
                                case rel => exact ⟨_, ((t251 != 0)), (by first | rfl | exact isE_ _ | exact isE2_ _ | (simp; done) | (simp [*]; done)), H', ⟨by have := HJ3.out; have := HJ11.out; first | omega | exact Nat.le_refl _⟩, ⟨by (with_reducible repeat (first | apply Kd.R_alloc | apply Kd.R_drewN | apply Kd.R_drew)); exact HO_9.out⟩, ⟨by repeat (first | (with_reducible first | exact HB.out | apply below_alloc | apply pw_below_drewN | apply below_drew1) | exact HB.out)⟩⟩
                          · rw [if_neg c39] at H
                            have c39b0 : (t249.toList == (rdOf ByteArray.empty t244 a1).toList) = false := beq_eq_false_iff_ne.mpr c39
                            have c39b1 : (t249.toList != (rdOf ByteArray.empty t244 a1).toList) = true := bne_iff_ne.mpr c39
                            have H' := Aside0.mk H
                            clear H
                            have p255 : 0 ≤ (a1 : Int) := of_decide_eq_true (by first | (with_reducible assumption) | assumption)
                            have q255 : a1 < (t244.length : Int) := of_decide_eq_true (by first | (with_reducible assumption) | assumption)
                            obtain ⟨ad255, e255, hx255_0⟩ := Kd.at_string (Kd.R_reads' HO_9.out).2.2 a1 p255 q255
                            cases e255
                            replace p255 := eq_true p255
                            replace q255 := eq_true q255
                            go_wp2
                            go_meet
                            case rel => exact ⟨_, (true), (by first | rfl | exact isE_ _ | exact isE2_ _ | (simp; done) | (simp [*]; done)), H', ⟨by have := HJ3.out; have := HJ11.out; first | omega | exact Nat.le_refl _⟩, ⟨by (with_reducible repeat (first | apply Kd.R_alloc | apply Kd.R_drewN | apply Kd.R_drew)); exact HO_9.out⟩, ⟨by repeat (first | (with_reducible first | exact HB.out | apply below_alloc | apply pw_below_drewN | apply below_drew1) | exact HB.out)⟩⟩
                        · rw [if_neg c38] at H
                          exact absurd H (by simp)
                      · rw [if_neg c37] at H
                        exact absurd H (by simp)
                    · replace c36 := Bool.eq_false_iff.mpr c36
                      subst c36
                      have H1 : (if t249.toList = ([] : List UInt8) then (if (t252 != (decide (t253 ≥ 0))) = true then (juratlaw10_PatsMade.j2 kj11 t242 t244 true) else (if t252 = true then (if t251 = t253 then (juratlaw10_PatsMade.j2 kj11 t242 t244 false) else (juratlaw10_PatsMade.j2 kj11 t242 t244 true)) else (juratlaw10_PatsMade.j2 kj11 t242 t244 (t251 != 0)))) else (juratlaw10_PatsMade.j2 kj11 t242 t244 true)) = some r := by rw [if_neg (show ¬ (false = true) by decide)] at H; exact H
                      clear H
                      have H := H1
                      clear H1
                      by_cases c43 : t249.toList = ([] : List UInt8)
                      · rw [if_pos c43] at H
                        have c43b0 : (t249.toList == ([] : List UInt8)) = true := beq_iff_eq.mpr c43
                        have c43b1 : (t249.toList != ([] : List UInt8)) = false := bne_eq_false_iff_eq.mpr c43
                        clear c43
                        by_cases c44 : (t252 != (decide (t253 ≥ 0))) = true
                        · rw [if_pos c44] at H
                          have c44b0 : (t252 != (decide (t253 ≥ 0))) = true := c44
                          (try (have c44b1 : decide (t252 = (decide (t253 ≥ 0))) = false := by simpa using c44))
                          (try (have c44b2 : (t252 == (decide (t253 ≥ 0))) = false := by simpa using c44))
                          (try (have c44b3 : ¬ (t252 = (decide (t253 ≥ 0))) := by simpa using c44))
                          clear c44
                          have H' := Aside0.mk H
                          clear H
                          go_wp2
                          go_meet
                          case rel => exact ⟨_, (true), (by first | rfl | exact isE_ _ | exact isE2_ _ | (simp; done) | (simp [*]; done)), H', ⟨by have := HJ3.out; have := HJ11.out; first | omega | exact Nat.le_refl _⟩, ⟨by (with_reducible repeat (first | apply Kd.R_alloc | apply Kd.R_drewN | apply Kd.R_drew)); exact HO_9.out⟩, ⟨by repeat (first | (with_reducible first | exact HB.out | apply below_alloc | apply pw_below_drewN | apply below_drew1) | exact HB.out)⟩⟩
                        · rw [if_neg c44] at H
                          have c44b0 : (t252 != (decide (t253 ≥ 0))) = false := by simpa using c44
                          (try (have c44b1 : decide (t252 = (decide (t253 ≥ 0))) = true := by simpa using c44))
                          (try (have c44b2 : (t252 == (decide (t253 ≥ 0))) = true := by simpa using c44))
                          clear c44
                          by_cases c45 : t252 = true
                          · subst c45
                            have H1 : (if t251 = t253 then (juratlaw10_PatsMade.j2 kj11 t242 t244 false) else (juratlaw10_PatsMade.j2 kj11 t242 t244 true)) = some r := by rw [if_pos rfl] at H; exact H
                            clear H
                            have H := H1
                            clear H1
                            by_cases c46 : t251 = t253
                            · rw [if_pos c46] at H
                              have c46b0 : (t251 == t253) = true := beq_iff_eq.mpr c46
                              have c46b1 : (t251 != t253) = false := bne_eq_false_iff_eq.mpr c46
                              clear c46
                              have H' := Aside0.mk H
                              clear H
                              go_wp2
                              go_meet
                              case rel => exact ⟨_, (false), (by first | rfl | exact isE_ _ | exact isE2_ _ | (simp; done) | (simp [*]; done)), H', ⟨by have := HJ3.out; have := HJ11.out; first | omega | exact Nat.le_refl _⟩, ⟨by (with_reducible repeat (first | apply Kd.R_alloc | apply Kd.R_drewN | apply Kd.R_drew)); exact HO_9.out⟩, ⟨by repeat (first | (with_reducible first | exact HB.out | apply below_alloc | apply pw_below_drewN | apply below_drew1) | exact HB.out)⟩⟩
                            · rw [if_neg c46] at H
                              have c46b0 : (t251 == t253) = false := beq_eq_false_iff_ne.mpr c46
                              have c46b1 : (t251 != t253) = true := bne_iff_ne.mpr c46
                              have H' := Aside0.mk H
                              clear H
                              go_wp2
                              go_meet
                              case rel => exact ⟨_, (true), (by first | rfl | exact isE_ _ | exact isE2_ _ | (simp; done) | (simp [*]; done)), H', ⟨by have := HJ3.out; have := HJ11.out; first | omega | exact Nat.le_refl _⟩, ⟨by (with_reducible repeat (first | apply Kd.R_alloc | apply Kd.R_drewN | apply Kd.R_drew)); exact HO_9.out⟩, ⟨by repeat (first | (with_reducible first | exact HB.out | apply below_alloc | apply pw_below_drewN | apply below_drew1) | exact HB.out)⟩⟩
                          · replace c45 := Bool.eq_false_iff.mpr c45
                            subst c45
                            have H1 : (juratlaw10_PatsMade.j2 kj11 t242 t244 (t251 != 0)) = some r := by rw [if_neg (show ¬ (false = true) by decide)] at H; exact H
                            clear H
                            have H := H1
                            clear H1
                            have H' := Aside0.mk H
                            clear H
                            go_wp2
                            go_meet
                            case rel => exact ⟨_, ((t251 != 0)), (by first | rfl | exact isE_ _ | exact isE2_ _ | (simp; done) | (simp [*]; done)), H', ⟨by have := HJ3.out; have := HJ11.out; first | omega | exact Nat.le_refl _⟩, ⟨by (with_reducible repeat (first | apply Kd.R_alloc | apply Kd.R_drewN | apply Kd.R_drew)); exact HO_9.out⟩, ⟨by repeat (first | (with_reducible first | exact HB.out | apply below_alloc | apply pw_below_drewN | apply below_drew1) | exact HB.out)⟩⟩
                      · rw [if_neg c43] at H
                        have c43b0 : (t249.toList == ([] : List UInt8)) = false := beq_eq_false_iff_ne.mpr c43
                        have c43b1 : (t249.toList != ([] : List UInt8)) = true := bne_iff_ne.mpr c43
                        have H' := Aside0.mk H
                        clear H
                        go_wp2
                        go_meet
                        case rel => exact ⟨_, (true), (by first | rfl | exact isE_ _ | exact isE2_ _ | (simp; done) | (simp [*]; done)), H', ⟨by have := HJ3.out; have := HJ11.out; first | omega | exact Nat.le_refl _⟩, ⟨by (with_reducible repeat (first | apply Kd.R_alloc | apply Kd.R_drewN | apply Kd.R_drew)); exact HO_9.out⟩, ⟨by repeat (first | (with_reducible first | exact HB.out | apply below_alloc | apply pw_below_drewN | apply below_drew1) | exact HB.out)⟩⟩
              case rest =>
                clear HC20
                try clear c1
                try clear c2
                try clear p2
                try clear q2
                try clear hx2
                try clear c3
                try clear c4
                try clear c6
                try clear c7
                try clear c8
                try clear c11
                try clear c12
                try clear c14
                try clear c15
                try clear c15b0
                try clear c15b1
                try clear c16
                try clear c22
                try clear c22b0
                try clear c23
                try clear c23b0
                try clear c23b1
                try clear c23b2
                try clear c24
                try clear c25
                try clear c25b0
                try clear p25
                try clear q25
                try clear hx25
                try clear c26
                try clear c26b0
                try clear c27
                try clear c27b0
                try clear c27b1
                try clear c28
                try clear c28b0
                try clear c28b1
                try clear c28b2
                try clear c29
                try clear c30
                try clear c30b0
                try clear c30b1
                try clear c31
                try clear c31b0
                try clear c31b1
                try clear c32
                try clear c32b0
                try clear c32b1
                try clear c32b2
                try clear c33
                try clear c34
                try clear c34b0
                try clear c34b1
                try clear c35
                try clear c35b0
                try clear c35b1
                try clear c35b2
                try clear c36
                try clear c37
                try clear c37b0
                try clear c38
                try clear c38b0
                try clear c39
                try clear c39b0
                try clear c39b1
                try clear c40
                try clear c40b0
                try clear c40b1
                try clear c40b2
                try clear c41
                try clear c42
                try clear c42b0
                try clear c42b1
                try clear c43
                try clear c43b0
                try clear c43b1
                try clear c44
                try clear c44b0
                try clear c44b1
                try clear c44b2
                try clear c45
                try clear c46
                try clear c46b0
                try clear c46b1
                try clear hx254_0
                try clear hx255_0
                try clear p2
                try clear p254
                try clear p255
                try clear q254
                try clear q255
                obtain ⟨kq, x110_19, rfl, HA, HJ19, HO_9, HB⟩ := hcut
                cases kq with
                | zero => exact absurd HA.out (by simp [juratlaw10_PatsMade.j2])
                | succ kj19 =>
                  have H := HA.out
                  clear HA
                  simp only [juratlaw10_PatsMade.j2] at H
                  by_cases c47 : x110_19 = true
                  · subst c47
                    have H1 : (some false) = some r := by rw [if_pos rfl] at H; exact H
                    clear H
                    have H := H1
                    clear H1
                    obtain rfl := Option.some.inj H
                    go_wp2
                    go_ret
                    exact ⟨by first | rfl | (simp [errW_none, errW_some] <;> rfl) | (simp [*, errW_none, errW_some] <;> rfl), by first | (refine HB00.out.trans (Below.mono ?_ HB00.out.size); (repeat (first | (with_reducible first | exact HB.out | apply below_alloc | apply pw_below_drewN | apply below_drew1) | exact HB.out))) | (repeat (first | (with_reducible first | exact HB.out | apply below_alloc | apply pw_below_drewN | apply below_drew1) | exact HB.out))⟩
                  · replace c47 := Bool.eq_false_iff.mpr c47
                    subst c47
                    have H1 : ((pats_Set_List.f t242).bind fun t256 => ((juratref05_Same.f kj19 t256 t244).bind fun t259 => (if t259 = true then ((pats_Set_Len.f t242).bind fun t260 => (if t260 = (t244.length : Int) then ((pats_Set_Least.f t242).bind fun t261 => ((juratref10_Least.f kj19 t244).bind fun t262 => (if t261 = t262 then ((pats_Set_Most.f t242).bind fun t263 => ((juratref10_Most.f kj19 t244).bind fun t264 => (if t263 = t264 then ((pats_Set_Total.f t242).bind fun t265 => ((juratref10_Total.f kj19 t244).bind fun t266 => (if t265 = t266 then ((juratlaw10_awake.f).bind fun t267 => (some t267)) else (some false)))) else (some false)))) else (some false)))) else (some false))) else (some false)))) = some r := by rw [if_neg (show ¬ (false = true) by decide)] at H; exact H
                    clear H
                    have H := H1
                    clear H1
                    replace H := Option.bind_eq_some_iff.mp H
                    obtain ⟨t256, A480, H⟩ := H
                    replace H : ((juratref05_Same.f kj19 t256 t244).bind fun t259 => (if t259 = true then ((pats_Set_Len.f t242).bind fun t260 => (if t260 = (t244.length : Int) then ((pats_Set_Least.f t242).bind fun t261 => ((juratref10_Least.f kj19 t244).bind fun t262 => (if t261 = t262 then ((pats_Set_Most.f t242).bind fun t263 => ((juratref10_Most.f kj19 t244).bind fun t264 => (if t263 = t264 then ((pats_Set_Total.f t242).bind fun t265 => ((juratref10_Total.f kj19 t244).bind fun t266 => (if t265 = t266 then ((juratlaw10_awake.f).bind fun t267 => (some t267)) else (some false)))) else (some false)))) else (some false)))) else (some false))) else (some false))) = some r := H
                    have A48 := Aside0.mk A480
                    clear A480
                    replace H := Option.bind_eq_some_iff.mp H
                    obtain ⟨t259, A490, H⟩ := H
                    replace H : (if t259 = true then ((pats_Set_Len.f t242).bind fun t260 => (if t260 = (t244.length : Int) then ((pats_Set_Least.f t242).bind fun t261 => ((juratref10_Least.f kj19 t244).bind fun t262 => (if t261 = t262 then ((pats_Set_Most.f t242).bind fun t263 => ((juratref10_Most.f kj19 t244).bind fun t264 => (if t263 = t264 then ((pats_Set_Total.f t242).bind fun t265 => ((juratref10_Total.f kj19 t244).bind fun t266 => (if t265 = t266 then ((juratlaw10_awake.f).bind fun t267 => (some t267)) else (some false)))) else (some false)))) else (some false)))) else (some false))) else (some false)) = some r := H
                    have A49 := Aside0.mk A490
                    clear A490
                    by_cases c50 : t259 = true
                    · subst c50
                      have H1 : ((pats_Set_Len.f t242).bind fun t260 => (if t260 = (t244.length : Int) then ((pats_Set_Least.f t242).bind fun t261 => ((juratref10_Least.f kj19 t244).bind fun t262 => (if t261 = t262 then ((pats_Set_Most.f t242).bind fun t263 => ((juratref10_Most.f kj19 t244).bind fun t264 => (if t263 = t264 then ((pats_Set_Total.f t242).bind fun t265 => ((juratref10_Total.f kj19 t244).bind fun t266 => (if t265 = t266 then ((juratlaw10_awake.f).bind fun t267 => (some t267)) else (some false)))) else (some false)))) else (some false)))) else (some false))) = some r := by rw [if_pos rfl] at H; exact H
                      clear H
                      have H := H1
                      clear H1
                      replace H := Option.bind_eq_some_iff.mp H
                      obtain ⟨t260, A510, H⟩ := H
                      replace H : (if t260 = (t244.length : Int) then ((pats_Set_Least.f t242).bind fun t261 => ((juratref10_Least.f kj19 t244).bind fun t262 => (if t261 = t262 then ((pats_Set_Most.f t242).bind fun t263 => ((juratref10_Most.f kj19 t244).bind fun t264 => (if t263 = t264 then ((pats_Set_Total.f t242).bind fun t265 => ((juratref10_Total.f kj19 t244).bind fun t266 => (if t265 = t266 then ((juratlaw10_awake.f).bind fun t267 => (some t267)) else (some false)))) else (some false)))) else (some false)))) else (some false)) = some r := H
                      have A51 := Aside0.mk A510
                      clear A510
                      by_cases c52 : t260 = (t244.length : Int)
                      · rw [if_pos c52] at H
                        have c52b0 : (t260 == (t244.length : Int)) = true := beq_iff_eq.mpr c52
                        have c52b1 : (t260 != (t244.length : Int)) = false := bne_eq_false_iff_eq.mpr c52
                        clear c52
                        replace H := Option.bind_eq_some_iff.mp H
                        obtain ⟨t261, A530, H⟩ := H
                        replace H : ((juratref10_Least.f kj19 t244).bind fun t262 => (if t261 = t262 then ((pats_Set_Most.f t242).bind fun t263 => ((juratref10_Most.f kj19 t244).bind fun t264 => (if t263 = t264 then ((pats_Set_Total.f t242).bind fun t265 => ((juratref10_Total.f kj19 t244).bind fun t266 => (if t265 = t266 then ((juratlaw10_awake.f).bind fun t267 => (some t267)) else (some false)))) else (some false)))) else (some false))) = some r := H
                        have A53 := Aside0.mk A530
                        clear A530
                        replace H := Option.bind_eq_some_iff.mp H
                        obtain ⟨t262, A540, H⟩ := H
                        replace H : (if t261 = t262 then ((pats_Set_Most.f t242).bind fun t263 => ((juratref10_Most.f kj19 t244).bind fun t264 => (if t263 = t264 then ((pats_Set_Total.f t242).bind fun t265 => ((juratref10_Total.f kj19 t244).bind fun t266 => (if t265 = t266 then ((juratlaw10_awake.f).bind fun t267 => (some t267)) else (some false)))) else (some false)))) else (some false)) = some r := H
                        have A54 := Aside0.mk A540
                        clear A540
                        by_cases c55 : t261 = t262
                        · rw [if_pos c55] at H
                          have c55b0 : (t261 == t262) = true := beq_iff_eq.mpr c55
                          have c55b1 : (t261 != t262) = false := bne_eq_false_iff_eq.mpr c55
                          clear c55
                          replace H := Option.bind_eq_some_iff.mp H
                          obtain ⟨t263, A560, H⟩ := H
                          replace H : ((juratref10_Most.f kj19 t244).bind fun t264 => (if t263 = t264 then ((pats_Set_Total.f t242).bind fun t265 => ((juratref10_Total.f kj19 t244).bind fun t266 => (if t265 = t266 then ((juratlaw10_awake.f).bind fun t267 => (some t267)) else (some false)))) else (some false))) = some r := H
                          have A56 := Aside0.mk A560
                          clear A560
                          replace H := Option.bind_eq_some_iff.mp H
                          obtain ⟨t264, A570, H⟩ := H
                          replace H : (if t263 = t264 then ((pats_Set_Total.f t242).bind fun t265 => ((juratref10_Total.f kj19 t244).bind fun t266 => (if t265 = t266 then ((juratlaw10_awake.f).bind fun t267 => (some t267)) else (some false)))) else (some false)) = some r := H
                          have A57 := Aside0.mk A570
                          clear A570
                          by_cases c58 : t263 = t264
                          · rw [if_pos c58] at H
                            have c58b0 : (t263 == t264) = true := beq_iff_eq.mpr c58
                            have c58b1 : (t263 != t264) = false := bne_eq_false_iff_eq.mpr c58
                            clear c58
                            replace H := Option.bind_eq_some_iff.mp H
                            obtain ⟨t265, A590, H⟩ := H
                            replace H : ((juratref10_Total.f kj19 t244).bind fun t266 => (if t265 = t266 then ((juratlaw10_awake.f).bind fun t267 => (some t267)) else (some false))) = some r := H
                            have A59 := Aside0.mk A590
                            clear A590
                            replace H := Option.bind_eq_some_iff.mp H
                            obtain ⟨t266, A600, H⟩ := H
                            replace H : (if t265 = t266 then ((juratlaw10_awake.f).bind fun t267 => (some t267)) else (some false)) = some r := H
                            have A60 := Aside0.mk A600
                            clear A600
                            by_cases c61 : t265 = t266
                            · rw [if_pos c61] at H
                              have c61b0 : (t265 == t266) = true := beq_iff_eq.mpr c61
                              have c61b1 : (t265 != t266) = false := bne_eq_false_iff_eq.mpr c61
                              clear c61
                              replace H := Option.bind_eq_some_iff.mp H
                              obtain ⟨t267, A620, H⟩ := H
                              replace H : (some t267) = some r := H
                              have A62 := Aside0.mk A620
                              clear A620
                              obtain rfl := Option.some.inj H
                              go_wp2_with (first | ((with_reducible refine gate_callee (f := 9) rfl ?_); refine goesL_ (some 112) rfl rfl Try.func9 (by kernel_rfl) rfl #[.pointer Pt242] rfl (by (try simp only [List.map_toArray, List.map_cons, List.map_nil]); first | done | rfl | (simp only [List.length_drop, List.length_take]; rfl)) ?_; (with_reducible refine (pats_Set_List.calls _ t242 t256 _ ?side1 A48.out).mono ?_); (case side1 => first | exact HO_t242.out | exact OB.drewN HO_t242.out _ | exact OB.below (by repeat (first | (with_reducible first | exact HB.out | apply below_alloc | apply pw_below_drewN | apply below_drew1) | exact HB.out)) HO_t242.out); rintro e w63 ⟨v257, rfl, ho0, hb⟩; refine ⟨_, rfl, ?_⟩; have n0_ := Aside0.mk (Kd.R_elder' (by (with_reducible repeat (first | apply Kd.R_alloc | apply Kd.R_drewN | apply Kd.R_drew)); exact HO_9.out) (Kd.R_base ho0) hb); have n1_ := Aside0.mk (Kd.R_lower (Kd.R_new' ho0 (Kd.R_lt (by (with_reducible repeat (first | apply Kd.R_alloc | apply Kd.R_drewN | apply Kd.R_drew)); exact HO_9.out))) (below_size (by repeat (first | (with_reducible first | exact HB.out | apply below_alloc | apply pw_below_drewN | apply below_drew1) | exact HB.out)))); have n2_ := Aside0.mk (below_step (by repeat (first | (with_reducible first | exact HB.out | apply below_alloc | apply pw_below_drewN | apply below_drew1) | exact HB.out)) hb); clear HO_9; clear HB; have HO_9 := n0_; have HO258 := n1_; have HB := n2_; clear n0_ n1_ n2_; (try clear hb); (try clear hb2); (try clear hk); (try clear hi); (try clear ho0); obtain ⟨Ao64, co64, eo64⟩ := Kd.R_slice HO258.out; subst eo64) | ((with_reducible refine gate_callee (f := 10) rfl ?_); refine goesL_ (some 114) rfl rfl Try.func10 (by kernel_rfl) rfl #[.slice Ao64 t256.length co64, .slice Ao21 t244.length co21] rfl (by (try simp only [List.map_toArray, List.map_cons, List.map_nil]); first | done | rfl | (simp only [List.length_drop, List.length_take]; rfl)) ?_; (with_reducible refine (juratref05_Same.calls kj19 _ _ t256 _ _ t244 true _ ?side1 ?side2 ?side3 ?side4 A49.out).mono ?_); (case side1 => repeat (first | exact (Kd.R_reads' HO258.out).2.2 | (with_reducible refine Kd.C_alloc ?_ _) | (with_reducible refine Kd.C_drewN ?_ _) | (with_reducible refine Kd.C_drew ?_))); (case side2 => exact (Kd.R_reads' HO258.out).2.1); (case side3 => repeat (first | exact (Kd.R_reads' HO_9.out).2.2 | (with_reducible refine Kd.C_alloc ?_ _) | (with_reducible refine Kd.C_drewN ?_ _) | (with_reducible refine Kd.C_drew ?_))); (case side4 => exact (Kd.R_reads' HO_9.out).2.1); rintro e w' ⟨rfl, ⟨nd, rfl⟩⟩; refine ⟨_, rfl, ?_⟩) | (go_at_call 13; (with_reducible refine (pats_Set_Len.calls _ t242 t260 _ ?side1 A51.out).mono ?_); (case side1 => first | exact HO_t242.out | exact OB.drewN HO_t242.out _ | exact OB.below (by repeat (first | (with_reducible first | exact HB.out | apply below_alloc | apply pw_below_drewN | apply below_drew1) | exact HB.out)) HO_t242.out); rintro e w' ⟨rfl, ⟨nd, rfl⟩⟩) | (go_at_call 16; (with_reducible refine (pats_Set_Least.calls _ t242 t261 _ ?side1 A53.out).mono ?_); (case side1 => first | exact HO_t242.out | exact OB.drewN HO_t242.out _ | exact OB.below (by repeat (first | (with_reducible first | exact HB.out | apply below_alloc | apply pw_below_drewN | apply below_drew1) | exact HB.out)) HO_t242.out); rintro e w' ⟨rfl, ⟨nd, rfl⟩⟩) | (go_at_call 17; (with_reducible refine (juratref10_Least.calls kj19 _ _ t244 t262 _ ?side1 ?side2 A54.out).mono ?_); (case side1 => repeat (first | exact (Kd.R_reads' HO_9.out).2.2 | (with_reducible refine Kd.C_alloc ?_ _) | (with_reducible refine Kd.C_drewN ?_ _) | (with_reducible refine Kd.C_drew ?_))); (case side2 => exact (Kd.R_reads' HO_9.out).2.1); rintro e w' ⟨rfl, ⟨nd, rfl⟩⟩) | (go_at_call 18; (with_reducible refine (pats_Set_Most.calls _ t242 t263 _ ?side1 A56.out).mono ?_); (case side1 => first | exact HO_t242.out | exact OB.drewN HO_t242.out _ | exact OB.below (by repeat (first | (with_reducible first | exact HB.out | apply below_alloc | apply pw_below_drewN | apply below_drew1) | exact HB.out)) HO_t242.out); rintro e w' ⟨rfl, ⟨nd, rfl⟩⟩) | (go_at_call 19; (with_reducible refine (juratref10_Most.calls kj19 _ _ t244 t264 _ ?side1 ?side2 A57.out).mono ?_); (case side1 => repeat (first | exact (Kd.R_reads' HO_9.out).2.2 | (with_reducible refine Kd.C_alloc ?_ _) | (with_reducible refine Kd.C_drewN ?_ _) | (with_reducible refine Kd.C_drew ?_))); (case side2 => exact (Kd.R_reads' HO_9.out).2.1); rintro e w' ⟨rfl, ⟨nd, rfl⟩⟩) | (go_at_call 20; (with_reducible refine (pats_Set_Total.calls _ t242 t265 _ ?side1 A59.out).mono ?_); (case side1 => first | exact HO_t242.out | exact OB.drewN HO_t242.out _ | exact OB.below (by repeat (first | (with_reducible first | exact HB.out | apply below_alloc | apply pw_below_drewN | apply below_drew1) | exact HB.out)) HO_t242.out); rintro e w' ⟨rfl, ⟨nd, rfl⟩⟩) | (go_at_call 21; (with_reducible refine (juratref10_Total.calls kj19 _ _ t244 t266 _ ?side1 ?side2 A60.out).mono ?_); (case side1 => repeat (first | exact (Kd.R_reads' HO_9.out).2.2 | (with_reducible refine Kd.C_alloc ?_ _) | (with_reducible refine Kd.C_drewN ?_ _) | (with_reducible refine Kd.C_drew ?_))); (case side2 => exact (Kd.R_reads' HO_9.out).2.1); rintro e w' ⟨rfl, ⟨nd, rfl⟩⟩) | (go_at_call 7; (with_reducible refine (juratlaw10_awake.calls  t267 _ A62.out).mono ?_); rintro e w65 ⟨rfl, hb⟩; have n0_ := Aside0.mk (Kd.R_below (by (with_reducible repeat (first | apply Kd.R_alloc | apply Kd.R_drewN | apply Kd.R_drew)); exact HO_9.out) hb); have n1_ := Aside0.mk (Kd.R_below (by (with_reducible repeat (first | apply Kd.R_alloc | apply Kd.R_drewN | apply Kd.R_drew)); exact HO258.out) hb); have n2_ := Aside0.mk (below_step (by repeat (first | (with_reducible first | exact HB.out | apply below_alloc | apply pw_below_drewN | apply below_drew1) | exact HB.out)) hb); clear HO_9; clear HO258; clear HB; have HO_9 := n0_; have HO258 := n1_; have HB := n2_; clear n0_ n1_ n2_; (try clear hb); (try clear hb2); (try clear hk); (try clear hi)))
                              go_ret
                              exact ⟨by first | rfl | (simp [errW_none, errW_some] <;> rfl) | (simp [*, errW_none, errW_some] <;> rfl), by first | (refine HB00.out.trans (Below.mono ?_ HB00.out.size); (repeat (first | (with_reducible first | exact HB.out | apply below_alloc | apply pw_below_drewN | apply below_drew1) | exact HB.out))) | (repeat (first | (with_reducible first | exact HB.out | apply below_alloc | apply pw_below_drewN | apply below_drew1) | exact HB.out))⟩
                            · rw [if_neg c61] at H
                              have c61b0 : (t265 == t266) = false := beq_eq_false_iff_ne.mpr c61
                              have c61b1 : (t265 != t266) = true := bne_iff_ne.mpr c61
                              obtain rfl := Option.some.inj H
                              go_wp2_with (first | ((with_reducible refine gate_callee (f := 9) rfl ?_); refine goesL_ (some 112) rfl rfl Try.func9 (by kernel_rfl) rfl #[.pointer Pt242] rfl (by (try simp only [List.map_toArray, List.map_cons, List.map_nil]); first | done | rfl | (simp only [List.length_drop, List.length_take]; rfl)) ?_; (with_reducible refine (pats_Set_List.calls _ t242 t256 _ ?side1 A48.out).mono ?_); (case side1 => first | exact HO_t242.out | exact OB.drewN HO_t242.out _ | exact OB.below (by repeat (first | (with_reducible first | exact HB.out | apply below_alloc | apply pw_below_drewN | apply below_drew1) | exact HB.out)) HO_t242.out); rintro e w66 ⟨v257, rfl, ho0, hb⟩; refine ⟨_, rfl, ?_⟩; have n0_ := Aside0.mk (Kd.R_elder' (by (with_reducible repeat (first | apply Kd.R_alloc | apply Kd.R_drewN | apply Kd.R_drew)); exact HO_9.out) (Kd.R_base ho0) hb); have n1_ := Aside0.mk (Kd.R_lower (Kd.R_new' ho0 (Kd.R_lt (by (with_reducible repeat (first | apply Kd.R_alloc | apply Kd.R_drewN | apply Kd.R_drew)); exact HO_9.out))) (below_size (by repeat (first | (with_reducible first | exact HB.out | apply below_alloc | apply pw_below_drewN | apply below_drew1) | exact HB.out)))); have n2_ := Aside0.mk (below_step (by repeat (first | (with_reducible first | exact HB.out | apply below_alloc | apply pw_below_drewN | apply below_drew1) | exact HB.out)) hb); clear HO_9; clear HB; have HO_9 := n0_; have HO258 := n1_; have HB := n2_; clear n0_ n1_ n2_; (try clear hb); (try clear hb2); (try clear hk); (try clear hi); (try clear ho0); obtain ⟨Ao67, co67, eo67⟩ := Kd.R_slice HO258.out; subst eo67) | ((with_reducible refine gate_callee (f := 10) rfl ?_); refine goesL_ (some 114) rfl rfl Try.func10 (by kernel_rfl) rfl #[.slice Ao67 t256.length co67, .slice Ao21 t244.length co21] rfl (by (try simp only [List.map_toArray, List.map_cons, List.map_nil]); first | done | rfl | (simp only [List.length_drop, List.length_take]; rfl)) ?_; (with_reducible refine (juratref05_Same.calls kj19 _ _ t256 _ _ t244 true _ ?side1 ?side2 ?side3 ?side4 A49.out).mono ?_); (case side1 => repeat (first | exact (Kd.R_reads' HO258.out).2.2 | (with_reducible refine Kd.C_alloc ?_ _) | (with_reducible refine Kd.C_drewN ?_ _) | (with_reducible refine Kd.C_drew ?_))); (case side2 => exact (Kd.R_reads' HO258.out).2.1); (case side3 => repeat (first | exact (Kd.R_reads' HO_9.out).2.2 | (with_reducible refine Kd.C_alloc ?_ _) | (with_reducible refine Kd.C_drewN ?_ _) | (with_reducible refine Kd.C_drew ?_))); (case side4 => exact (Kd.R_reads' HO_9.out).2.1); rintro e w' ⟨rfl, ⟨nd, rfl⟩⟩; refine ⟨_, rfl, ?_⟩) | (go_at_call 13; (with_reducible refine (pats_Set_Len.calls _ t242 t260 _ ?side1 A51.out).mono ?_); (case side1 => first | exact HO_t242.out | exact OB.drewN HO_t242.out _ | exact OB.below (by repeat (first | (with_reducible first | exact HB.out | apply below_alloc | apply pw_below_drewN | apply below_drew1) | exact HB.out)) HO_t242.out); rintro e w' ⟨rfl, ⟨nd, rfl⟩⟩) | (go_at_call 16; (with_reducible refine (pats_Set_Least.calls _ t242 t261 _ ?side1 A53.out).mono ?_); (case side1 => first | exact HO_t242.out | exact OB.drewN HO_t242.out _ | exact OB.below (by repeat (first | (with_reducible first | exact HB.out | apply below_alloc | apply pw_below_drewN | apply below_drew1) | exact HB.out)) HO_t242.out); rintro e w' ⟨rfl, ⟨nd, rfl⟩⟩) | (go_at_call 17; (with_reducible refine (juratref10_Least.calls kj19 _ _ t244 t262 _ ?side1 ?side2 A54.out).mono ?_); (case side1 => repeat (first | exact (Kd.R_reads' HO_9.out).2.2 | (with_reducible refine Kd.C_alloc ?_ _) | (with_reducible refine Kd.C_drewN ?_ _) | (with_reducible refine Kd.C_drew ?_))); (case side2 => exact (Kd.R_reads' HO_9.out).2.1); rintro e w' ⟨rfl, ⟨nd, rfl⟩⟩) | (go_at_call 18; (with_reducible refine (pats_Set_Most.calls _ t242 t263 _ ?side1 A56.out).mono ?_); (case side1 => first | exact HO_t242.out | exact OB.drewN HO_t242.out _ | exact OB.below (by repeat (first | (with_reducible first | exact HB.out | apply below_alloc | apply pw_below_drewN | apply below_drew1) | exact HB.out)) HO_t242.out); rintro e w' ⟨rfl, ⟨nd, rfl⟩⟩) | (go_at_call 19; (with_reducible refine (juratref10_Most.calls kj19 _ _ t244 t264 _ ?side1 ?side2 A57.out).mono ?_); (case side1 => repeat (first | exact (Kd.R_reads' HO_9.out).2.2 | (with_reducible refine Kd.C_alloc ?_ _) | (with_reducible refine Kd.C_drewN ?_ _) | (with_reducible refine Kd.C_drew ?_))); (case side2 => exact (Kd.R_reads' HO_9.out).2.1); rintro e w' ⟨rfl, ⟨nd, rfl⟩⟩) | (go_at_call 20; (with_reducible refine (pats_Set_Total.calls _ t242 t265 _ ?side1 A59.out).mono ?_); (case side1 => first | exact HO_t242.out | exact OB.drewN HO_t242.out _ | exact OB.below (by repeat (first | (with_reducible first | exact HB.out | apply below_alloc | apply pw_below_drewN | apply below_drew1) | exact HB.out)) HO_t242.out); rintro e w' ⟨rfl, ⟨nd, rfl⟩⟩) | (go_at_call 21; (with_reducible refine (juratref10_Total.calls kj19 _ _ t244 t266 _ ?side1 ?side2 A60.out).mono ?_); (case side1 => repeat (first | exact (Kd.R_reads' HO_9.out).2.2 | (with_reducible refine Kd.C_alloc ?_ _) | (with_reducible refine Kd.C_drewN ?_ _) | (with_reducible refine Kd.C_drew ?_))); (case side2 => exact (Kd.R_reads' HO_9.out).2.1); rintro e w' ⟨rfl, ⟨nd, rfl⟩⟩))
                              go_ret
                              exact ⟨by first | rfl | (simp [errW_none, errW_some] <;> rfl) | (simp [*, errW_none, errW_some] <;> rfl), by first | (refine HB00.out.trans (Below.mono ?_ HB00.out.size); (repeat (first | (with_reducible first | exact HB.out | apply below_alloc | apply pw_below_drewN | apply below_drew1) | exact HB.out))) | (repeat (first | (with_reducible first | exact HB.out | apply below_alloc | apply pw_below_drewN | apply below_drew1) | exact HB.out))⟩
                          · rw [if_neg c58] at H
                            have c58b0 : (t263 == t264) = false := beq_eq_false_iff_ne.mpr c58
                            have c58b1 : (t263 != t264) = true := bne_iff_ne.mpr c58
                            obtain rfl := Option.some.inj H
                            go_wp2_with (first | ((with_reducible refine gate_callee (f := 9) rfl ?_); refine goesL_ (some 112) rfl rfl Try.func9 (by kernel_rfl) rfl #[.pointer Pt242] rfl (by (try simp only [List.map_toArray, List.map_cons, List.map_nil]); first | done | rfl | (simp only [List.length_drop, List.length_take]; rfl)) ?_; (with_reducible refine (pats_Set_List.calls _ t242 t256 _ ?side1 A48.out).mono ?_); (case side1 => first | exact HO_t242.out | exact OB.drewN HO_t242.out _ | exact OB.below (by repeat (first | (with_reducible first | exact HB.out | apply below_alloc | apply pw_below_drewN | apply below_drew1) | exact HB.out)) HO_t242.out); rintro e w68 ⟨v257, rfl, ho0, hb⟩; refine ⟨_, rfl, ?_⟩; have n0_ := Aside0.mk (Kd.R_elder' (by (with_reducible repeat (first | apply Kd.R_alloc | apply Kd.R_drewN | apply Kd.R_drew)); exact HO_9.out) (Kd.R_base ho0) hb); have n1_ := Aside0.mk (Kd.R_lower (Kd.R_new' ho0 (Kd.R_lt (by (with_reducible repeat (first | apply Kd.R_alloc | apply Kd.R_drewN | apply Kd.R_drew)); exact HO_9.out))) (below_size (by repeat (first | (with_reducible first | exact HB.out | apply below_alloc | apply pw_below_drewN | apply below_drew1) | exact HB.out)))); have n2_ := Aside0.mk (below_step (by repeat (first | (with_reducible first | exact HB.out | apply below_alloc | apply pw_below_drewN | apply below_drew1) | exact HB.out)) hb); clear HO_9; clear HB; have HO_9 := n0_; have HO258 := n1_; have HB := n2_; clear n0_ n1_ n2_; (try clear hb); (try clear hb2); (try clear hk); (try clear hi); (try clear ho0); obtain ⟨Ao69, co69, eo69⟩ := Kd.R_slice HO258.out; subst eo69) | ((with_reducible refine gate_callee (f := 10) rfl ?_); refine goesL_ (some 114) rfl rfl Try.func10 (by kernel_rfl) rfl #[.slice Ao69 t256.length co69, .slice Ao21 t244.length co21] rfl (by (try simp only [List.map_toArray, List.map_cons, List.map_nil]); first | done | rfl | (simp only [List.length_drop, List.length_take]; rfl)) ?_; (with_reducible refine (juratref05_Same.calls kj19 _ _ t256 _ _ t244 true _ ?side1 ?side2 ?side3 ?side4 A49.out).mono ?_); (case side1 => repeat (first | exact (Kd.R_reads' HO258.out).2.2 | (with_reducible refine Kd.C_alloc ?_ _) | (with_reducible refine Kd.C_drewN ?_ _) | (with_reducible refine Kd.C_drew ?_))); (case side2 => exact (Kd.R_reads' HO258.out).2.1); (case side3 => repeat (first | exact (Kd.R_reads' HO_9.out).2.2 | (with_reducible refine Kd.C_alloc ?_ _) | (with_reducible refine Kd.C_drewN ?_ _) | (with_reducible refine Kd.C_drew ?_))); (case side4 => exact (Kd.R_reads' HO_9.out).2.1); rintro e w' ⟨rfl, ⟨nd, rfl⟩⟩; refine ⟨_, rfl, ?_⟩) | (go_at_call 13; (with_reducible refine (pats_Set_Len.calls _ t242 t260 _ ?side1 A51.out).mono ?_); (case side1 => first | exact HO_t242.out | exact OB.drewN HO_t242.out _ | exact OB.below (by repeat (first | (with_reducible first | exact HB.out | apply below_alloc | apply pw_below_drewN | apply below_drew1) | exact HB.out)) HO_t242.out); rintro e w' ⟨rfl, ⟨nd, rfl⟩⟩) | (go_at_call 16; (with_reducible refine (pats_Set_Least.calls _ t242 t261 _ ?side1 A53.out).mono ?_); (case side1 => first | exact HO_t242.out | exact OB.drewN HO_t242.out _ | exact OB.below (by repeat (first | (with_reducible first | exact HB.out | apply below_alloc | apply pw_below_drewN | apply below_drew1) | exact HB.out)) HO_t242.out); rintro e w' ⟨rfl, ⟨nd, rfl⟩⟩) | (go_at_call 17; (with_reducible refine (juratref10_Least.calls kj19 _ _ t244 t262 _ ?side1 ?side2 A54.out).mono ?_); (case side1 => repeat (first | exact (Kd.R_reads' HO_9.out).2.2 | (with_reducible refine Kd.C_alloc ?_ _) | (with_reducible refine Kd.C_drewN ?_ _) | (with_reducible refine Kd.C_drew ?_))); (case side2 => exact (Kd.R_reads' HO_9.out).2.1); rintro e w' ⟨rfl, ⟨nd, rfl⟩⟩) | (go_at_call 18; (with_reducible refine (pats_Set_Most.calls _ t242 t263 _ ?side1 A56.out).mono ?_); (case side1 => first | exact HO_t242.out | exact OB.drewN HO_t242.out _ | exact OB.below (by repeat (first | (with_reducible first | exact HB.out | apply below_alloc | apply pw_below_drewN | apply below_drew1) | exact HB.out)) HO_t242.out); rintro e w' ⟨rfl, ⟨nd, rfl⟩⟩) | (go_at_call 19; (with_reducible refine (juratref10_Most.calls kj19 _ _ t244 t264 _ ?side1 ?side2 A57.out).mono ?_); (case side1 => repeat (first | exact (Kd.R_reads' HO_9.out).2.2 | (with_reducible refine Kd.C_alloc ?_ _) | (with_reducible refine Kd.C_drewN ?_ _) | (with_reducible refine Kd.C_drew ?_))); (case side2 => exact (Kd.R_reads' HO_9.out).2.1); rintro e w' ⟨rfl, ⟨nd, rfl⟩⟩))
                            go_ret
                            exact ⟨by first | rfl | (simp [errW_none, errW_some] <;> rfl) | (simp [*, errW_none, errW_some] <;> rfl), by first | (refine HB00.out.trans (Below.mono ?_ HB00.out.size); (repeat (first | (with_reducible first | exact HB.out | apply below_alloc | apply pw_below_drewN | apply below_drew1) | exact HB.out))) | (repeat (first | (with_reducible first | exact HB.out | apply below_alloc | apply pw_below_drewN | apply below_drew1) | exact HB.out))⟩
                        · rw [if_neg c55] at H
                          have c55b0 : (t261 == t262) = false := beq_eq_false_iff_ne.mpr c55
                          have c55b1 : (t261 != t262) = true := bne_iff_ne.mpr c55
                          obtain rfl := Option.some.inj H
                          go_wp2_with (first | ((with_reducible refine gate_callee (f := 9) rfl ?_); refine goesL_ (some 112) rfl rfl Try.func9 (by kernel_rfl) rfl #[.pointer Pt242] rfl (by (try simp only [List.map_toArray, List.map_cons, List.map_nil]); first | done | rfl | (simp only [List.length_drop, List.length_take]; rfl)) ?_; (with_reducible refine (pats_Set_List.calls _ t242 t256 _ ?side1 A48.out).mono ?_); (case side1 => first | exact HO_t242.out | exact OB.drewN HO_t242.out _ | exact OB.below (by repeat (first | (with_reducible first | exact HB.out | apply below_alloc | apply pw_below_drewN | apply below_drew1) | exact HB.out)) HO_t242.out); rintro e w70 ⟨v257, rfl, ho0, hb⟩; refine ⟨_, rfl, ?_⟩; have n0_ := Aside0.mk (Kd.R_elder' (by (with_reducible repeat (first | apply Kd.R_alloc | apply Kd.R_drewN | apply Kd.R_drew)); exact HO_9.out) (Kd.R_base ho0) hb); have n1_ := Aside0.mk (Kd.R_lower (Kd.R_new' ho0 (Kd.R_lt (by (with_reducible repeat (first | apply Kd.R_alloc | apply Kd.R_drewN | apply Kd.R_drew)); exact HO_9.out))) (below_size (by repeat (first | (with_reducible first | exact HB.out | apply below_alloc | apply pw_below_drewN | apply below_drew1) | exact HB.out)))); have n2_ := Aside0.mk (below_step (by repeat (first | (with_reducible first | exact HB.out | apply below_alloc | apply pw_below_drewN | apply below_drew1) | exact HB.out)) hb); clear HO_9; clear HB; have HO_9 := n0_; have HO258 := n1_; have HB := n2_; clear n0_ n1_ n2_; (try clear hb); (try clear hb2); (try clear hk); (try clear hi); (try clear ho0); obtain ⟨Ao71, co71, eo71⟩ := Kd.R_slice HO258.out; subst eo71) | ((with_reducible refine gate_callee (f := 10) rfl ?_); refine goesL_ (some 114) rfl rfl Try.func10 (by kernel_rfl) rfl #[.slice Ao71 t256.length co71, .slice Ao21 t244.length co21] rfl (by (try simp only [List.map_toArray, List.map_cons, List.map_nil]); first | done | rfl | (simp only [List.length_drop, List.length_take]; rfl)) ?_; (with_reducible refine (juratref05_Same.calls kj19 _ _ t256 _ _ t244 true _ ?side1 ?side2 ?side3 ?side4 A49.out).mono ?_); (case side1 => repeat (first | exact (Kd.R_reads' HO258.out).2.2 | (with_reducible refine Kd.C_alloc ?_ _) | (with_reducible refine Kd.C_drewN ?_ _) | (with_reducible refine Kd.C_drew ?_))); (case side2 => exact (Kd.R_reads' HO258.out).2.1); (case side3 => repeat (first | exact (Kd.R_reads' HO_9.out).2.2 | (with_reducible refine Kd.C_alloc ?_ _) | (with_reducible refine Kd.C_drewN ?_ _) | (with_reducible refine Kd.C_drew ?_))); (case side4 => exact (Kd.R_reads' HO_9.out).2.1); rintro e w' ⟨rfl, ⟨nd, rfl⟩⟩; refine ⟨_, rfl, ?_⟩) | (go_at_call 13; (with_reducible refine (pats_Set_Len.calls _ t242 t260 _ ?side1 A51.out).mono ?_); (case side1 => first | exact HO_t242.out | exact OB.drewN HO_t242.out _ | exact OB.below (by repeat (first | (with_reducible first | exact HB.out | apply below_alloc | apply pw_below_drewN | apply below_drew1) | exact HB.out)) HO_t242.out); rintro e w' ⟨rfl, ⟨nd, rfl⟩⟩) | (go_at_call 16; (with_reducible refine (pats_Set_Least.calls _ t242 t261 _ ?side1 A53.out).mono ?_); (case side1 => first | exact HO_t242.out | exact OB.drewN HO_t242.out _ | exact OB.below (by repeat (first | (with_reducible first | exact HB.out | apply below_alloc | apply pw_below_drewN | apply below_drew1) | exact HB.out)) HO_t242.out); rintro e w' ⟨rfl, ⟨nd, rfl⟩⟩) | (go_at_call 17; (with_reducible refine (juratref10_Least.calls kj19 _ _ t244 t262 _ ?side1 ?side2 A54.out).mono ?_); (case side1 => repeat (first | exact (Kd.R_reads' HO_9.out).2.2 | (with_reducible refine Kd.C_alloc ?_ _) | (with_reducible refine Kd.C_drewN ?_ _) | (with_reducible refine Kd.C_drew ?_))); (case side2 => exact (Kd.R_reads' HO_9.out).2.1); rintro e w' ⟨rfl, ⟨nd, rfl⟩⟩))
                          go_ret
                          exact ⟨by first | rfl | (simp [errW_none, errW_some] <;> rfl) | (simp [*, errW_none, errW_some] <;> rfl), by first | (refine HB00.out.trans (Below.mono ?_ HB00.out.size); (repeat (first | (with_reducible first | exact HB.out | apply below_alloc | apply pw_below_drewN | apply below_drew1) | exact HB.out))) | (repeat (first | (with_reducible first | exact HB.out | apply below_alloc | apply pw_below_drewN | apply below_drew1) | exact HB.out))⟩
                      · rw [if_neg c52] at H
                        have c52b0 : (t260 == (t244.length : Int)) = false := beq_eq_false_iff_ne.mpr c52
                        have c52b1 : (t260 != (t244.length : Int)) = true := bne_iff_ne.mpr c52
                        obtain rfl := Option.some.inj H
                        go_wp2_with (first | ((with_reducible refine gate_callee (f := 9) rfl ?_); refine goesL_ (some 112) rfl rfl Try.func9 (by kernel_rfl) rfl #[.pointer Pt242] rfl (by (try simp only [List.map_toArray, List.map_cons, List.map_nil]); first | done | rfl | (simp only [List.length_drop, List.length_take]; rfl)) ?_; (with_reducible refine (pats_Set_List.calls _ t242 t256 _ ?side1 A48.out).mono ?_); (case side1 => first | exact HO_t242.out | exact OB.drewN HO_t242.out _ | exact OB.below (by repeat (first | (with_reducible first | exact HB.out | apply below_alloc | apply pw_below_drewN | apply below_drew1) | exact HB.out)) HO_t242.out); rintro e w72 ⟨v257, rfl, ho0, hb⟩; refine ⟨_, rfl, ?_⟩; have n0_ := Aside0.mk (Kd.R_elder' (by (with_reducible repeat (first | apply Kd.R_alloc | apply Kd.R_drewN | apply Kd.R_drew)); exact HO_9.out) (Kd.R_base ho0) hb); have n1_ := Aside0.mk (Kd.R_lower (Kd.R_new' ho0 (Kd.R_lt (by (with_reducible repeat (first | apply Kd.R_alloc | apply Kd.R_drewN | apply Kd.R_drew)); exact HO_9.out))) (below_size (by repeat (first | (with_reducible first | exact HB.out | apply below_alloc | apply pw_below_drewN | apply below_drew1) | exact HB.out)))); have n2_ := Aside0.mk (below_step (by repeat (first | (with_reducible first | exact HB.out | apply below_alloc | apply pw_below_drewN | apply below_drew1) | exact HB.out)) hb); clear HO_9; clear HB; have HO_9 := n0_; have HO258 := n1_; have HB := n2_; clear n0_ n1_ n2_; (try clear hb); (try clear hb2); (try clear hk); (try clear hi); (try clear ho0); obtain ⟨Ao73, co73, eo73⟩ := Kd.R_slice HO258.out; subst eo73) | ((with_reducible refine gate_callee (f := 10) rfl ?_); refine goesL_ (some 114) rfl rfl Try.func10 (by kernel_rfl) rfl #[.slice Ao73 t256.length co73, .slice Ao21 t244.length co21] rfl (by (try simp only [List.map_toArray, List.map_cons, List.map_nil]); first | done | rfl | (simp only [List.length_drop, List.length_take]; rfl)) ?_; (with_reducible refine (juratref05_Same.calls kj19 _ _ t256 _ _ t244 true _ ?side1 ?side2 ?side3 ?side4 A49.out).mono ?_); (case side1 => repeat (first | exact (Kd.R_reads' HO258.out).2.2 | (with_reducible refine Kd.C_alloc ?_ _) | (with_reducible refine Kd.C_drewN ?_ _) | (with_reducible refine Kd.C_drew ?_))); (case side2 => exact (Kd.R_reads' HO258.out).2.1); (case side3 => repeat (first | exact (Kd.R_reads' HO_9.out).2.2 | (with_reducible refine Kd.C_alloc ?_ _) | (with_reducible refine Kd.C_drewN ?_ _) | (with_reducible refine Kd.C_drew ?_))); (case side4 => exact (Kd.R_reads' HO_9.out).2.1); rintro e w' ⟨rfl, ⟨nd, rfl⟩⟩; refine ⟨_, rfl, ?_⟩) | (go_at_call 13; (with_reducible refine (pats_Set_Len.calls _ t242 t260 _ ?side1 A51.out).mono ?_); (case side1 => first | exact HO_t242.out | exact OB.drewN HO_t242.out _ | exact OB.below (by repeat (first | (with_reducible first | exact HB.out | apply below_alloc | apply pw_below_drewN | apply below_drew1) | exact HB.out)) HO_t242.out); rintro e w' ⟨rfl, ⟨nd, rfl⟩⟩))
                        go_ret
                        exact ⟨by first | rfl | (simp [errW_none, errW_some] <;> rfl) | (simp [*, errW_none, errW_some] <;> rfl), by first | (refine HB00.out.trans (Below.mono ?_ HB00.out.size); (repeat (first | (with_reducible first | exact HB.out | apply below_alloc | apply pw_below_drewN | apply below_drew1) | exact HB.out))) | (repeat (first | (with_reducible first | exact HB.out | apply below_alloc | apply pw_below_drewN | apply below_drew1) | exact HB.out))⟩
                    · replace c50 := Bool.eq_false_iff.mpr c50
                      subst c50
                      have H1 : (some false) = some r := by rw [if_neg (show ¬ (false = true) by decide)] at H; exact H
                      clear H
                      have H := H1
                      clear H1
                      obtain rfl := Option.some.inj H
                      go_wp2_with (first | ((with_reducible refine gate_callee (f := 9) rfl ?_); refine goesL_ (some 112) rfl rfl Try.func9 (by kernel_rfl) rfl #[.pointer Pt242] rfl (by (try simp only [List.map_toArray, List.map_cons, List.map_nil]); first | done | rfl | (simp only [List.length_drop, List.length_take]; rfl)) ?_; (with_reducible refine (pats_Set_List.calls _ t242 t256 _ ?side1 A48.out).mono ?_); (case side1 => first | exact HO_t242.out | exact OB.drewN HO_t242.out _ | exact OB.below (by repeat (first | (with_reducible first | exact HB.out | apply below_alloc | apply pw_below_drewN | apply below_drew1) | exact HB.out)) HO_t242.out); rintro e w74 ⟨v257, rfl, ho0, hb⟩; refine ⟨_, rfl, ?_⟩; have n0_ := Aside0.mk (Kd.R_elder' (by (with_reducible repeat (first | apply Kd.R_alloc | apply Kd.R_drewN | apply Kd.R_drew)); exact HO_9.out) (Kd.R_base ho0) hb); have n1_ := Aside0.mk (Kd.R_lower (Kd.R_new' ho0 (Kd.R_lt (by (with_reducible repeat (first | apply Kd.R_alloc | apply Kd.R_drewN | apply Kd.R_drew)); exact HO_9.out))) (below_size (by repeat (first | (with_reducible first | exact HB.out | apply below_alloc | apply pw_below_drewN | apply below_drew1) | exact HB.out)))); have n2_ := Aside0.mk (below_step (by repeat (first | (with_reducible first | exact HB.out | apply below_alloc | apply pw_below_drewN | apply below_drew1) | exact HB.out)) hb); clear HO_9; clear HB; have HO_9 := n0_; have HO258 := n1_; have HB := n2_; clear n0_ n1_ n2_; (try clear hb); (try clear hb2); (try clear hk); (try clear hi); (try clear ho0); obtain ⟨Ao75, co75, eo75⟩ := Kd.R_slice HO258.out; subst eo75) | ((with_reducible refine gate_callee (f := 10) rfl ?_); refine goesL_ (some 114) rfl rfl Try.func10 (by kernel_rfl) rfl #[.slice Ao75 t256.length co75, .slice Ao21 t244.length co21] rfl (by (try simp only [List.map_toArray, List.map_cons, List.map_nil]); first | done | rfl | (simp only [List.length_drop, List.length_take]; rfl)) ?_; (with_reducible refine (juratref05_Same.calls kj19 _ _ t256 _ _ t244 false _ ?side1 ?side2 ?side3 ?side4 A49.out).mono ?_); (case side1 => repeat (first | exact (Kd.R_reads' HO258.out).2.2 | (with_reducible refine Kd.C_alloc ?_ _) | (with_reducible refine Kd.C_drewN ?_ _) | (with_reducible refine Kd.C_drew ?_))); (case side2 => exact (Kd.R_reads' HO258.out).2.1); (case side3 => repeat (first | exact (Kd.R_reads' HO_9.out).2.2 | (with_reducible refine Kd.C_alloc ?_ _) | (with_reducible refine Kd.C_drewN ?_ _) | (with_reducible refine Kd.C_drew ?_))); (case side4 => exact (Kd.R_reads' HO_9.out).2.1); rintro e w' ⟨rfl, ⟨nd, rfl⟩⟩; refine ⟨_, rfl, ?_⟩))
                      go_ret
                      exact ⟨by first | rfl | (simp [errW_none, errW_some] <;> rfl) | (simp [*, errW_none, errW_some] <;> rfl), by first | (refine HB00.out.trans (Below.mono ?_ HB00.out.size); (repeat (first | (with_reducible first | exact HB.out | apply below_alloc | apply pw_below_drewN | apply below_drew1) | exact HB.out))) | (repeat (first | (with_reducible first | exact HB.out | apply below_alloc | apply pw_below_drewN | apply below_drew1) | exact HB.out))⟩

end Go.Proofs.Ytkdfbepdpcdehaa.P
