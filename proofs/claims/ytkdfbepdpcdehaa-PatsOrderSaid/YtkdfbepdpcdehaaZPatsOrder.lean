/- Proved here: the row of the law PatsOrder, with the plain texts that lead to it, merged by a program of this session (wip/merge.py); no condition beyond the statement's own. -/
import Derived.Test.YtkdfbepdpcdehaaPx0
import Derived.Test.YtkdfbepdpcdehaaPx10
import Derived.Test.YtkdfbepdpcdehaaPx6
import Derived.Test.YtkdfbepdpcdehaaPx7
import Derived.Test.YtkdfbepdpcdehaaH10
import Derived.Test.YtkdfbepdpcdehaaH10a
import Derived.Test.YtkdfbepdpcdehaaH10b
import Derived.Test.YtkdfbepdpcdehaaOb10
import Derived.Test.YtkdfbepdpcdehaaN10
import Derived.Test.YtkdfbepdpcdehaaSame5
import Derived.Test.YtkdfbepdpcdehaaRows
import Derived.Test.YtkdfbepdpcdehaaRowS
import Derived.WalkKit
import Derived.ProofKit
import Derived.OpenShut
import Derived.ShutString
import Derived.ChangeOld
import Derived.Below
import Derived.SizedLaws
import Derived.Carry
/- Proved here: what Go functions of this seat compute, or a law of it; no condition beyond the statement's own. Written for this claim by a program of this session (wip/myprint.py) over the kit's print.py. -/
namespace Go.Proofs.Ytkdfbepdpcdehaa.P
open Go.RowKit Go.Proofs.YtkdfbepdpcdehaaW.PrintWords Go.Proofs.YtkdfbepdpcdehaaW.PrintLast Go.Proofs.YtkdfbepdpcdehaaW.PrintMore
attribute [local go_sem] max2_int min2_int max_two min_two max_three min_three max_four min_four   -- for this text's walks alone
set_option linter.unusedVariables false
set_option linter.unusedSimpArgs false

/-! ### juratlaw10_PatsOrder: function 3 -/
mutual
def juratlaw10_PatsOrder.j0 : Nat → List ByteArray → Int → Option D46 → Bool → Option (Bool)
  | 0, _, _, _, _ => none
  | k + 1, x0, x1, x5, x32 => if x32 = true then (if x5.isNone = true then ((juratlaw10_awake.f).bind fun t132 => (some t132)) else (some false)) else (if (x0.length : Int) = 0 then (none) else ((some (([] : List ByteArray) : List ByteArray)).bind fun y133 => (if 0 ≤ (Int.tmod (Go.bits .and .i64 x1 1023) (x0.length : Int)) then (if (Int.tmod (Go.bits .and .i64 x1 1023) (x0.length : Int)) ≤ (x0.length : Int) then (if y133.length + (x0.drop ((Int.tmod (Go.bits .and .i64 x1 1023) (x0.length : Int)) : Int).toNat).length < 8796093022208 then ((some (y133 ++ (x0.drop ((Int.tmod (Go.bits .and .i64 x1 1023) (x0.length : Int)) : Int).toNat) : List ByteArray)).bind fun y137 => (if y137.length + (x0.take ((Int.tmod (Go.bits .and .i64 x1 1023) (x0.length : Int)) : Int).toNat).length < 8796093022208 then ((pats_New.f (y137 ++ (x0.take ((Int.tmod (Go.bits .and .i64 x1 1023) (x0.length : Int)) : Int).toNat))).bind fun bt144 => ((pats_Set_List.f x5).bind fun t149 => ((pats_New.f t149).bind fun bt152 => (if bt144.2 = 0 then (if bt152.2 = 0 then ((pats_Set_List.f x5).bind fun t155 => ((pats_Set_List.f bt144.1).bind fun t158 => ((juratref05_Same.f k t155 t158).bind fun t161 => (if t161 = true then ((pats_Set_List.f x5).bind fun t162 => ((pats_Set_List.f bt152.1).bind fun t165 => ((juratref05_Same.f k t162 t165).bind fun t168 => (juratlaw10_PatsOrder.j1 k x0 x5 (!t168))))) else (juratlaw10_PatsOrder.j1 k x0 x5 true))))) else (juratlaw10_PatsOrder.j1 k x0 x5 true)) else (juratlaw10_PatsOrder.j1 k x0 x5 true))))) else (none))) else (none)) else (none)) else (none))))
def juratlaw10_PatsOrder.j1 : Nat → List ByteArray → Option D46 → Bool → Option (Bool)
  | 0, _, _, _ => none
  | k + 1, x0, x5, x84 => if x84 = true then (some false) else (juratlaw10_PatsOrder.l0 k x0 x5 0)
def juratlaw10_PatsOrder.l0 : Nat → List ByteArray → Option D46 → Int → Option (Bool)
  | 0, _, _, _ => none
  | k + 1, x0, x5, x12 => if x12 < (x0.length : Int) then (if 0 ≤ x12 then ((pats_Set_Find.f x5 (rdOf ByteArray.empty x0 x12)).bind fun bt172 => ((pats_Set_At.f x5 bt172.1).bind fun bt174 => (if bt172.2 = true then (if bt174.2 = true then (if bt174.1.toList = (rdOf ByteArray.empty x0 x12).toList then (juratlaw10_PatsOrder.l0 k x0 x5 (wrap64 (x12 + 1))) else (some false)) else (some false)) else (some false)))) else (none)) else ((pats_Set_Len.f x5).bind fun t169 => (if t169 = (x0.length : Int) then ((juratlaw10_awake.f).bind fun t170 => (some t170)) else (some false)))
end
def juratlaw10_PatsOrder.f (k : Nat) (l0 : List ByteArray) (a1 : Int) : Option (Bool) := (juratref09_Few.f k l0 20 50).bind fun t127 => (if t127 = true then ((pats_New.f l0).bind fun bt129 => (if bt129.2 = 0 then (juratlaw10_PatsOrder.j0 k l0 a1 bt129.1 ((l0.length : Int) == 0)) else (juratlaw10_PatsOrder.j0 k l0 a1 bt129.1 true))) else ((juratlaw10_awake.f).bind fun t128 => (some t128)))
theorem juratlaw10_PatsOrder.mono_l : ∀ k, (∀ y0 y1 y2 y3, LeO (juratlaw10_PatsOrder.j0 k y0 y1 y2 y3) (juratlaw10_PatsOrder.j0 (k + 1) y0 y1 y2 y3)) ∧ (∀ y0 y1 y2, LeO (juratlaw10_PatsOrder.j1 k y0 y1 y2) (juratlaw10_PatsOrder.j1 (k + 1) y0 y1 y2)) ∧ (∀ y0 y1 y2, LeO (juratlaw10_PatsOrder.l0 k y0 y1 y2) (juratlaw10_PatsOrder.l0 (k + 1) y0 y1 y2))
  | 0 => ⟨fun _ _ _ _ r h => by simp [juratlaw10_PatsOrder.j0] at h, fun _ _ _ r h => by simp [juratlaw10_PatsOrder.j1] at h, fun _ _ _ r h => by simp [juratlaw10_PatsOrder.l0] at h⟩
  | k + 1 => by
    obtain ⟨ih0, ih1, ih2⟩ := juratlaw10_PatsOrder.mono_l k
    refine ⟨?_, ?_, ?_⟩
    · intro y0 y1 y2 y3
      unfold juratlaw10_PatsOrder.j0
      repeat' first
      | (with_reducible exact ih0 _ _ _ _)
      | (with_reducible exact ih1 _ _ _)
      | (with_reducible exact ih2 _ _ _)
      | (with_reducible exact juratref05_Same.mono _ _ _)
      | (with_reducible exact juratref09_Few.mono _ _ _ _)
      | (with_reducible exact LeO.refl _)
      | (with_reducible exact LeO.none _)
      | (with_reducible refine LeO.ite ?_ ?_)
      | (with_reducible refine LeO.bind ?_ (fun _ => ?_))
      | exact ih0 _ _ _ _
      | exact ih1 _ _ _
      | exact ih2 _ _ _
      | exact juratref05_Same.mono _ _ _
      | exact juratref09_Few.mono _ _ _ _
      | exact LeO.none _
      | refine LeO.ite ?_ ?_
      | refine LeO.bind ?_ (fun _ => ?_)
    · intro y0 y1 y2
      unfold juratlaw10_PatsOrder.j1
      repeat' first
      | (with_reducible exact ih0 _ _ _ _)
      | (with_reducible exact ih1 _ _ _)
      | (with_reducible exact ih2 _ _ _)
      | (with_reducible exact juratref05_Same.mono _ _ _)
      | (with_reducible exact juratref09_Few.mono _ _ _ _)
      | (with_reducible exact LeO.refl _)
      | (with_reducible exact LeO.none _)
      | (with_reducible refine LeO.ite ?_ ?_)
      | (with_reducible refine LeO.bind ?_ (fun _ => ?_))
      | exact ih0 _ _ _ _
      | exact ih1 _ _ _
      | exact ih2 _ _ _
      | exact juratref05_Same.mono _ _ _
      | exact juratref09_Few.mono _ _ _ _
      | exact LeO.none _
      | refine LeO.ite ?_ ?_
      | refine LeO.bind ?_ (fun _ => ?_)
    · intro y0 y1 y2
      unfold juratlaw10_PatsOrder.l0
      repeat' first
      | (with_reducible exact ih0 _ _ _ _)
      | (with_reducible exact ih1 _ _ _)
      | (with_reducible exact ih2 _ _ _)
      | (with_reducible exact juratref05_Same.mono _ _ _)
      | (with_reducible exact juratref09_Few.mono _ _ _ _)
      | (with_reducible exact LeO.refl _)
      | (with_reducible exact LeO.none _)
      | (with_reducible refine LeO.ite ?_ ?_)
      | (with_reducible refine LeO.bind ?_ (fun _ => ?_))
      | exact ih0 _ _ _ _
      | exact ih1 _ _ _
      | exact ih2 _ _ _
      | exact juratref05_Same.mono _ _ _
      | exact juratref09_Few.mono _ _ _ _
      | exact LeO.none _
      | refine LeO.ite ?_ ?_
      | refine LeO.bind ?_ (fun _ => ?_)
theorem juratlaw10_PatsOrder.mono : ∀ a0 a1 k, LeO (juratlaw10_PatsOrder.f k a0 a1) (juratlaw10_PatsOrder.f (k + 1) a0 a1) := by
  intro a0 a1 k
  obtain ⟨ih0, ih1, ih2⟩ := juratlaw10_PatsOrder.mono_l k
  unfold juratlaw10_PatsOrder.f
  repeat' first
      | (with_reducible exact ih0 _ _ _ _)
      | (with_reducible exact ih1 _ _ _)
      | (with_reducible exact ih2 _ _ _)
      | (with_reducible exact juratref05_Same.mono _ _ _)
      | (with_reducible exact juratref09_Few.mono _ _ _ _)
      | (with_reducible exact LeO.refl _)
      | (with_reducible exact LeO.none _)
      | (with_reducible refine LeO.ite ?_ ?_)
      | (with_reducible refine LeO.bind ?_ (fun _ => ?_))
      | exact ih0 _ _ _ _
      | exact ih1 _ _ _
      | exact ih2 _ _ _
      | exact juratref05_Same.mono _ _ _
      | exact juratref09_Few.mono _ _ _ _
      | exact LeO.none _
      | refine LeO.ite ?_ ?_
      | refine LeO.bind ?_ (fun _ => ?_)
def juratlaw10_PatsOrder.T7 : Bool × List (List Nat × List Nat) := (true, [([], []), ([], []), ([], []), ([1, 2], [1, 2]), ([0, 3], [0, 3]), ([], []), ([], []), ([5, 6], [5, 6]), ([4, 7, 4], [4, 7]), ([8, 8, 0, 1, 2, 3, 4, 5, 6, 7, 8], [8])])
def juratlaw10_PatsOrder.B7 : List Nat := [0, 0, 0, 6, 15, 0, 0, 96, 255, 511]
theorem juratlaw10_PatsOrder.tab7 : rtab .any (opsOf Try.f3 7) = juratlaw10_PatsOrder.T7 := by kernel_rfl
theorem juratlaw10_PatsOrder.bits7 : waitsOk juratlaw10_PatsOrder.T7.2 juratlaw10_PatsOrder.B7 = true := by kernel_rfl
set_option maxHeartbeats 8000000 in
set_option maxRecDepth 100000 in
theorem juratlaw10_PatsOrder.calls (k : Nat) (A0 : Option Addr) (c0 : Nat) (l0 : List ByteArray) (a1 : Int) (r : Bool) (w : World) (hr0 : Kd.C Kd.string w A0 l0.length l0) (hc0 : l0.length ≤ c0) (h : juratlaw10_PatsOrder.f k l0 a1 = some r) :
    Calls Try.prog 3 #[.slice A0 l0.length c0, .int .i64 a1] w fun e w' => e = .returned (.bool r) ∧ Below w.heap.size w w' := by
  have HR0 := Aside0.mk hr0
  have HC0 := Aside0.mk hc0
  clear hr0 hc0
  have HB := Aside0.mk (Below.refl w.heap.size w)
  have H : ((juratref09_Few.f k l0 20 50).bind fun t127 => (if t127 = true then ((pats_New.f l0).bind fun bt129 => (if bt129.2 = 0 then (juratlaw10_PatsOrder.j0 k l0 a1 bt129.1 ((l0.length : Int) == 0)) else (juratlaw10_PatsOrder.j0 k l0 a1 bt129.1 true))) else ((juratlaw10_awake.f).bind fun t128 => (some t128)))) = some r := h
  clear h
  replace H := Option.bind_eq_some_iff.mp H
  obtain ⟨t127, A30, H⟩ := H
  replace H : (if t127 = true then ((pats_New.f l0).bind fun bt129 => (if bt129.2 = 0 then (juratlaw10_PatsOrder.j0 k l0 a1 bt129.1 ((l0.length : Int) == 0)) else (juratlaw10_PatsOrder.j0 k l0 a1 bt129.1 true))) else ((juratlaw10_awake.f).bind fun t128 => (some t128))) = some r := H
  have A3 := Aside0.mk A30
  clear A30
  by_cases c4 : t127 = true
  · subst c4
    have H1 : ((pats_New.f l0).bind fun bt129 => (if bt129.2 = 0 then (juratlaw10_PatsOrder.j0 k l0 a1 bt129.1 ((l0.length : Int) == 0)) else (juratlaw10_PatsOrder.j0 k l0 a1 bt129.1 true))) = some r := by rw [if_pos rfl] at H; exact H
    clear H
    have H := H1
    clear H1
    replace H := Option.bind_eq_some_iff.mp H
    obtain ⟨⟨t129, t130⟩, A50, H⟩ := H
    replace H : (if t130 = 0 then (juratlaw10_PatsOrder.j0 k l0 a1 t129 ((l0.length : Int) == 0)) else (juratlaw10_PatsOrder.j0 k l0 a1 t129 true)) = some r := H
    have A5 := Aside0.mk A50
    clear A50
    have HC6 := Aside0.mk H
    clear H
    go_enter Try.func3, Try.ntmps3
    go_upto_region 4 with (first | ((with_reducible refine gate_callee (f := 6) rfl ?_); refine goesL_ (some 18) rfl rfl Try.func6 (by kernel_rfl) rfl #[.slice A0 l0.length c0, .int .i64 20, .int .i64 50] rfl (by (try simp only [List.map_toArray, List.map_cons, List.map_nil]); first | done | rfl | (simp only [List.length_drop, List.length_take]; rfl)) ?_; (with_reducible refine (juratref09_Few.calls k _ _ l0 20 50 true _ ?side1 ?side2 A3.out).mono ?_); (case side1 => repeat (first | exact HR0.out | (with_reducible refine Kd.C_alloc ?_ _) | (with_reducible refine Kd.C_drewN ?_ _) | (with_reducible refine Kd.C_drew ?_))); (case side2 => exact HC0.out); rintro e w' ⟨rfl, ⟨nd, rfl⟩⟩; refine ⟨_, rfl, ?_⟩) | ((with_reducible refine gate_callee (f := 8) rfl ?_); refine goesL_ (some 23) rfl rfl Try.func8 (by kernel_rfl) rfl #[.slice A0 l0.length c0] rfl (by (try simp only [List.map_toArray, List.map_cons, List.map_nil]); first | done | rfl | (simp only [List.length_drop, List.length_take]; rfl)) ?_; (with_reducible refine (pats_New.calls _ _ l0 t129 t130 _ ?side1 ?side2 A5.out).mono ?_); (case side1 => repeat (first | exact HR0.out | (with_reducible refine Kd.C_alloc ?_ _) | (with_reducible refine Kd.C_drewN ?_ _) | (with_reducible refine Kd.C_drew ?_))); (case side2 => exact HC0.out); rintro e w7 ⟨Pt129, rfl, hob0, hb⟩; refine ⟨_, rfl, ?_⟩; have hbw_ := below_step (by repeat (first | (with_reducible first | exact HB.out | apply below_alloc | apply pw_below_drewN | apply below_drew1) | exact HB.out)) hb; (try (have n_ := Aside0.mk (Kd.C_below HR0.out hbw_); clear HR0; have HR0 := n_; clear n_)); (first | (have n_ := Aside0.mk (HB00.out.trans (hbw_.mono HB00.out.size)); clear HB00; have HB00 := n_; clear n_) | have HB00 := Aside0.mk hbw_); clear HB hb hbw_; have HO_t129 := Aside0.mk hob0; clear hob0; obtain ⟨w, rfl⟩ : ∃ w_ : World, w_ = w7 := ⟨_, rfl⟩; have HB := Aside0.mk (Below.refl w.heap.size w)))
    (try simp only [Act.put, List.setIfInBounds_toArray, List.set_cons_zero, List.set_cons_succ])
    go_cut [32] (fun v32 wc => ∃ (kq : Nat) (x32_5 : Bool), v32 = .bool x32_5 ∧ Aside0 (juratlaw10_PatsOrder.j0 kq l0 a1 t129 x32_5 = some r) ∧ Aside0 (kq ≤ k) ∧ Aside0 (Below w.heap.size w wc))
    case first =>
      have H := HC6.out
      clear HC6
      by_cases c8 : t130 = 0
      · rw [if_pos c8] at H
        have c8b0 : (t130 == 0) = true := beq_iff_eq.mpr c8
        have c8b1 : (t130 != 0) = false := bne_eq_false_iff_eq.mpr c8
        clear c8
        (first | rw [c8b0] | rw [c8b1] | (simp only [i64_w, i32_w]; rw [c8b0]) | skip)
        have H' := Aside0.mk H
        clear H
        go_wp2
        go_meet
        case rel => exact ⟨_, (((l0.length : Int) == 0)), (by first | rfl | exact isE_ _ | exact isE2_ _ | (simp; done) | (simp [*]; done)), H', ⟨by first | omega | exact Nat.le_refl _⟩, ⟨by repeat (first | (with_reducible first | exact HB.out | apply below_alloc | apply pw_below_drewN | apply below_drew1) | exact HB.out)⟩⟩
      · rw [if_neg c8] at H
        have c8b0 : (t130 == 0) = false := beq_eq_false_iff_ne.mpr c8
        have c8b1 : (t130 != 0) = true := bne_iff_ne.mpr c8
        (first | rw [c8b0] | rw [c8b1] | (simp only [i64_w, i32_w]; rw [c8b0]) | skip)
        have H' := Aside0.mk H
        clear H
        go_wp2
        go_meet
        case rel => exact ⟨_, (true), (by first | rfl | exact isE_ _ | exact isE2_ _ | (simp; done) | (simp [*]; done)), H', ⟨by first | omega | exact Nat.le_refl _⟩, ⟨by repeat (first | (with_reducible first | exact HB.out | apply below_alloc | apply pw_below_drewN | apply below_drew1) | exact HB.out)⟩⟩
    case rest =>
      clear HC6
      try clear p2
      try clear c3
      try clear c4
      try clear c6
      try clear c8
      try clear c8b0
      try clear c8b1
      obtain ⟨kq, x32_5, rfl, HA, HJ5, HB⟩ := hcut
      cases kq with
      | zero => exact absurd HA.out (by simp [juratlaw10_PatsOrder.j0])
      | succ kj5 =>
        have H := HA.out
        clear HA
        simp only [juratlaw10_PatsOrder.j0] at H
        by_cases c9 : x32_5 = true
        · subst c9
          have H1 : (if t129.isNone = true then ((juratlaw10_awake.f).bind fun t132 => (some t132)) else (some false)) = some r := by rw [if_pos rfl] at H; exact H
          clear H
          have H := H1
          clear H1
          rcases t129 with _ | qo131
          · have H1 : ((juratlaw10_awake.f).bind fun t132 => (some t132)) = some r := by rw [if_pos (show (none : Option _).isNone = true by rfl)] at H; exact H
            clear H
            have H := H1
            clear H1
            have hp_ := OB.p_none HO_t129.out
            subst hp_
            clear HO_t129
            replace H := Option.bind_eq_some_iff.mp H
            obtain ⟨t132, A100, H⟩ := H
            replace H : (some t132) = some r := H
            have A10 := Aside0.mk A100
            clear A100
            obtain rfl := Option.some.inj H
            go_wp2_with (first | (go_at_call 7; (with_reducible refine (juratlaw10_awake.calls  t132 _ A10.out).mono ?_); rintro e w11 ⟨rfl, hb⟩; have n0_ := Aside0.mk (below_step (by repeat (first | (with_reducible first | exact HB.out | apply below_alloc | apply pw_below_drewN | apply below_drew1) | exact HB.out)) hb); clear HB; have HB := n0_; clear n0_; (try clear hb); (try clear hb2); (try clear hk); (try clear hi)))
            go_ret
            exact ⟨by first | rfl | (simp [errW_none, errW_some] <;> rfl) | (simp [*, errW_none, errW_some] <;> rfl), by first | (refine HB00.out.trans (Below.mono ?_ HB00.out.size); (repeat (first | (with_reducible first | exact HB.out | apply below_alloc | apply pw_below_drewN | apply below_drew1) | exact HB.out))) | (repeat (first | (with_reducible first | exact HB.out | apply below_alloc | apply pw_below_drewN | apply below_drew1) | exact HB.out))⟩
          · have H1 : (some false) = some r := by rw [if_neg (show ¬ (some qo131).isNone = true by simp)] at H; exact H
            clear H
            have H := H1
            clear H1
            obtain ⟨Pqo131, hp_⟩ := OB.p_some HO_t129.out
            subst hp_
            have HO_qo131 := HO_t129
            clear HO_t129
            obtain rfl := Option.some.inj H
            go_wp2
            go_ret
            exact ⟨by first | rfl | (simp [errW_none, errW_some] <;> rfl) | (simp [*, errW_none, errW_some] <;> rfl), by first | (refine HB00.out.trans (Below.mono ?_ HB00.out.size); (repeat (first | (with_reducible first | exact HB.out | apply below_alloc | apply pw_below_drewN | apply below_drew1) | exact HB.out))) | (repeat (first | (with_reducible first | exact HB.out | apply below_alloc | apply pw_below_drewN | apply below_drew1) | exact HB.out))⟩
        · replace c9 := Bool.eq_false_iff.mpr c9
          subst c9
          have H1 : (if (l0.length : Int) = 0 then (none) else ((some (([] : List ByteArray) : List ByteArray)).bind fun y133 => (if 0 ≤ (Int.tmod (Go.bits .and .i64 a1 1023) (l0.length : Int)) then (if (Int.tmod (Go.bits .and .i64 a1 1023) (l0.length : Int)) ≤ (l0.length : Int) then (if y133.length + (l0.drop ((Int.tmod (Go.bits .and .i64 a1 1023) (l0.length : Int)) : Int).toNat).length < 8796093022208 then ((some (y133 ++ (l0.drop ((Int.tmod (Go.bits .and .i64 a1 1023) (l0.length : Int)) : Int).toNat) : List ByteArray)).bind fun y137 => (if y137.length + (l0.take ((Int.tmod (Go.bits .and .i64 a1 1023) (l0.length : Int)) : Int).toNat).length < 8796093022208 then ((pats_New.f (y137 ++ (l0.take ((Int.tmod (Go.bits .and .i64 a1 1023) (l0.length : Int)) : Int).toNat))).bind fun bt144 => ((pats_Set_List.f t129).bind fun t149 => ((pats_New.f t149).bind fun bt152 => (if bt144.2 = 0 then (if bt152.2 = 0 then ((pats_Set_List.f t129).bind fun t155 => ((pats_Set_List.f bt144.1).bind fun t158 => ((juratref05_Same.f kj5 t155 t158).bind fun t161 => (if t161 = true then ((pats_Set_List.f t129).bind fun t162 => ((pats_Set_List.f bt152.1).bind fun t165 => ((juratref05_Same.f kj5 t162 t165).bind fun t168 => (juratlaw10_PatsOrder.j1 kj5 l0 t129 (!t168))))) else (juratlaw10_PatsOrder.j1 kj5 l0 t129 true))))) else (juratlaw10_PatsOrder.j1 kj5 l0 t129 true)) else (juratlaw10_PatsOrder.j1 kj5 l0 t129 true))))) else (none))) else (none)) else (none)) else (none)))) = some r := by rw [if_neg (show ¬ (false = true) by decide)] at H; exact H
          clear H
          have H := H1
          clear H1
          by_cases c12 : (l0.length : Int) = 0
          · rw [if_pos c12] at H
            exact absurd H (by simp)
          · rw [if_neg c12] at H
            have c12b0 : ((l0.length : Int) == 0) = false := beq_eq_false_iff_ne.mpr c12
            have c12b1 : ((l0.length : Int) != 0) = true := bne_iff_ne.mpr c12
            have c12b2 : ¬ (l0 = []) := fun h_ => c12 (by rw [h_]; rfl)
            obtain ⟨y133, hy133⟩ : ∃ y_ : List ByteArray, y_ = (([] : List ByteArray)) := ⟨_, rfl⟩
            replace H : (if 0 ≤ (Int.tmod (Go.bits .and .i64 a1 1023) (l0.length : Int)) then (if (Int.tmod (Go.bits .and .i64 a1 1023) (l0.length : Int)) ≤ (l0.length : Int) then (if y133.length + (l0.drop ((Int.tmod (Go.bits .and .i64 a1 1023) (l0.length : Int)) : Int).toNat).length < 8796093022208 then ((some (y133 ++ (l0.drop ((Int.tmod (Go.bits .and .i64 a1 1023) (l0.length : Int)) : Int).toNat) : List ByteArray)).bind fun y137 => (if y137.length + (l0.take ((Int.tmod (Go.bits .and .i64 a1 1023) (l0.length : Int)) : Int).toNat).length < 8796093022208 then ((pats_New.f (y137 ++ (l0.take ((Int.tmod (Go.bits .and .i64 a1 1023) (l0.length : Int)) : Int).toNat))).bind fun bt144 => ((pats_Set_List.f t129).bind fun t149 => ((pats_New.f t149).bind fun bt152 => (if bt144.2 = 0 then (if bt152.2 = 0 then ((pats_Set_List.f t129).bind fun t155 => ((pats_Set_List.f bt144.1).bind fun t158 => ((juratref05_Same.f kj5 t155 t158).bind fun t161 => (if t161 = true then ((pats_Set_List.f t129).bind fun t162 => ((pats_Set_List.f bt152.1).bind fun t165 => ((juratref05_Same.f kj5 t162 t165).bind fun t168 => (juratlaw10_PatsOrder.j1 kj5 l0 t129 (!t168))))) else (juratlaw10_PatsOrder.j1 kj5 l0 t129 true))))) else (juratlaw10_PatsOrder.j1 kj5 l0 t129 true)) else (juratlaw10_PatsOrder.j1 kj5 l0 t129 true))))) else (none))) else (none)) else (none)) else (none)) = some r := by first | (rw [hy133]; with_reducible exact H) | (have H2_ := (Option.bind_some _ _).symm.trans H; rw [hy133]; with_reducible exact H2_) | (have H2_ := (Option.bind_some _ _).symm.trans H; with_reducible exact H2_) | with_reducible exact H | (rw [hy133]; exact H) | exact H
            have Ny133 := Aside0.mk hy133
            clear hy133
            obtain ⟨ji13, hji13⟩ : ∃ j_ : Int, (Int.tmod (Go.bits .and .i64 a1 1023) (l0.length : Int)) = j_ := ⟨_, rfl⟩
            replace H : (if 0 ≤ (ji13) then (if (ji13) ≤ (l0.length : Int) then (if y133.length + (l0.drop ((ji13) : Int).toNat).length < 8796093022208 then ((some (y133 ++ (l0.drop ((ji13) : Int).toNat) : List ByteArray)).bind fun y137 => (if y137.length + (l0.take ((ji13) : Int).toNat).length < 8796093022208 then ((pats_New.f (y137 ++ (l0.take ((ji13) : Int).toNat))).bind fun bt144 => ((pats_Set_List.f t129).bind fun t149 => ((pats_New.f t149).bind fun bt152 => (if bt144.2 = 0 then (if bt152.2 = 0 then ((pats_Set_List.f t129).bind fun t155 => ((pats_Set_List.f bt144.1).bind fun t158 => ((juratref05_Same.f kj5 t155 t158).bind fun t161 => (if t161 = true then ((pats_Set_List.f t129).bind fun t162 => ((pats_Set_List.f bt152.1).bind fun t165 => ((juratref05_Same.f kj5 t162 t165).bind fun t168 => (juratlaw10_PatsOrder.j1 kj5 l0 t129 (!t168))))) else (juratlaw10_PatsOrder.j1 kj5 l0 t129 true))))) else (juratlaw10_PatsOrder.j1 kj5 l0 t129 true)) else (juratlaw10_PatsOrder.j1 kj5 l0 t129 true))))) else (none))) else (none)) else (none)) else (none)) = some r := by first | (rw [hji13] at H; exact H) | (simp only [hji13] at H ⊢; exact H)
            by_cases c14 : 0 ≤ (ji13)
            · rw [if_pos c14] at H
              have c14b0 := eq_true c14
              have c14b1 : decide (0 ≤ (ji13)) = true := decide_eq_true c14
              clear c14
              by_cases c15 : (ji13) ≤ (l0.length : Int)
              · rw [if_pos c15] at H
                have c15b0 := eq_true c15
                have c15b1 : decide ((ji13) ≤ (l0.length : Int)) = true := decide_eq_true c15
                clear c15
                by_cases c16 : y133.length + (l0.drop ((ji13) : Int).toNat).length < 8796093022208
                · rw [if_pos c16] at H
                  have LMc16 := Aside0.mk c16
                  clear c16
                  obtain ⟨y137, hy137⟩ : ∃ y_ : List ByteArray, y_ = (y133 ++ (l0.drop ((ji13) : Int).toNat)) := ⟨_, rfl⟩
                  replace H : (if y137.length + (l0.take ((ji13) : Int).toNat).length < 8796093022208 then ((pats_New.f (y137 ++ (l0.take ((ji13) : Int).toNat))).bind fun bt144 => ((pats_Set_List.f t129).bind fun t149 => ((pats_New.f t149).bind fun bt152 => (if bt144.2 = 0 then (if bt152.2 = 0 then ((pats_Set_List.f t129).bind fun t155 => ((pats_Set_List.f bt144.1).bind fun t158 => ((juratref05_Same.f kj5 t155 t158).bind fun t161 => (if t161 = true then ((pats_Set_List.f t129).bind fun t162 => ((pats_Set_List.f bt152.1).bind fun t165 => ((juratref05_Same.f kj5 t162 t165).bind fun t168 => (juratlaw10_PatsOrder.j1 kj5 l0 t129 (!t168))))) else (juratlaw10_PatsOrder.j1 kj5 l0 t129 true))))) else (juratlaw10_PatsOrder.j1 kj5 l0 t129 true)) else (juratlaw10_PatsOrder.j1 kj5 l0 t129 true))))) else (none)) = some r := by first | (rw [hy137]; with_reducible exact H) | (have H2_ := (Option.bind_some _ _).symm.trans H; rw [hy137]; with_reducible exact H2_) | (have H2_ := (Option.bind_some _ _).symm.trans H; with_reducible exact H2_) | with_reducible exact H | (rw [hy137]; exact H) | exact H
                  have Ny137 := Aside0.mk hy137
                  clear hy137
                  have c17b0 := eq_true (of_decide_eq_true (by first | (with_reducible assumption) | assumption) : 0 ≤ (ji13))
                  have c18b0 := eq_true (of_decide_eq_true (by first | (with_reducible assumption) | assumption) : (ji13) ≤ (l0.length : Int))
                  by_cases c19 : y137.length + (l0.take ((ji13) : Int).toNat).length < 8796093022208
                  · rw [if_pos c19] at H
                    have LMc19 := Aside0.mk c19
                    clear c19
                    obtain ⟨y141, hy141⟩ : ∃ y_ : List ByteArray, y_ = (y137 ++ (l0.take ((ji13) : Int).toNat)) := ⟨_, rfl⟩
                    replace H : ((pats_New.f y141).bind fun bt144 => ((pats_Set_List.f t129).bind fun t149 => ((pats_New.f t149).bind fun bt152 => (if bt144.2 = 0 then (if bt152.2 = 0 then ((pats_Set_List.f t129).bind fun t155 => ((pats_Set_List.f bt144.1).bind fun t158 => ((juratref05_Same.f kj5 t155 t158).bind fun t161 => (if t161 = true then ((pats_Set_List.f t129).bind fun t162 => ((pats_Set_List.f bt152.1).bind fun t165 => ((juratref05_Same.f kj5 t162 t165).bind fun t168 => (juratlaw10_PatsOrder.j1 kj5 l0 t129 (!t168))))) else (juratlaw10_PatsOrder.j1 kj5 l0 t129 true))))) else (juratlaw10_PatsOrder.j1 kj5 l0 t129 true)) else (juratlaw10_PatsOrder.j1 kj5 l0 t129 true))))) = some r := by first | (rw [hy141]; with_reducible exact H) | (have H2_ := (Option.bind_some _ _).symm.trans H; rw [hy141]; with_reducible exact H2_) | (have H2_ := (Option.bind_some _ _).symm.trans H; with_reducible exact H2_) | with_reducible exact H | (rw [hy141]; exact H) | exact H
                    have Ny141 := Aside0.mk hy141
                    clear hy141
                    replace H := Option.bind_eq_some_iff.mp H
                    obtain ⟨⟨t144, t145⟩, A200, H⟩ := H
                    replace H : ((pats_Set_List.f t129).bind fun t149 => ((pats_New.f t149).bind fun bt152 => (if t145 = 0 then (if bt152.2 = 0 then ((pats_Set_List.f t129).bind fun t155 => ((pats_Set_List.f t144).bind fun t158 => ((juratref05_Same.f kj5 t155 t158).bind fun t161 => (if t161 = true then ((pats_Set_List.f t129).bind fun t162 => ((pats_Set_List.f bt152.1).bind fun t165 => ((juratref05_Same.f kj5 t162 t165).bind fun t168 => (juratlaw10_PatsOrder.j1 kj5 l0 t129 (!t168))))) else (juratlaw10_PatsOrder.j1 kj5 l0 t129 true))))) else (juratlaw10_PatsOrder.j1 kj5 l0 t129 true)) else (juratlaw10_PatsOrder.j1 kj5 l0 t129 true)))) = some r := H
                    have A20 := Aside0.mk A200
                    clear A200
                    replace H := Option.bind_eq_some_iff.mp H
                    obtain ⟨t149, A210, H⟩ := H
                    replace H : ((pats_New.f t149).bind fun bt152 => (if t145 = 0 then (if bt152.2 = 0 then ((pats_Set_List.f t129).bind fun t155 => ((pats_Set_List.f t144).bind fun t158 => ((juratref05_Same.f kj5 t155 t158).bind fun t161 => (if t161 = true then ((pats_Set_List.f t129).bind fun t162 => ((pats_Set_List.f bt152.1).bind fun t165 => ((juratref05_Same.f kj5 t162 t165).bind fun t168 => (juratlaw10_PatsOrder.j1 kj5 l0 t129 (!t168))))) else (juratlaw10_PatsOrder.j1 kj5 l0 t129 true))))) else (juratlaw10_PatsOrder.j1 kj5 l0 t129 true)) else (juratlaw10_PatsOrder.j1 kj5 l0 t129 true))) = some r := H
                    have A21 := Aside0.mk A210
                    clear A210
                    replace H := Option.bind_eq_some_iff.mp H
                    obtain ⟨⟨t152, t153⟩, A220, H⟩ := H
                    replace H : (if t145 = 0 then (if t153 = 0 then ((pats_Set_List.f t129).bind fun t155 => ((pats_Set_List.f t144).bind fun t158 => ((juratref05_Same.f kj5 t155 t158).bind fun t161 => (if t161 = true then ((pats_Set_List.f t129).bind fun t162 => ((pats_Set_List.f t152).bind fun t165 => ((juratref05_Same.f kj5 t162 t165).bind fun t168 => (juratlaw10_PatsOrder.j1 kj5 l0 t129 (!t168))))) else (juratlaw10_PatsOrder.j1 kj5 l0 t129 true))))) else (juratlaw10_PatsOrder.j1 kj5 l0 t129 true)) else (juratlaw10_PatsOrder.j1 kj5 l0 t129 true)) = some r := H
                    have A22 := Aside0.mk A220
                    clear A220
                    have HC23 := Aside0.mk H
                    clear H
                    try go_wp2
                    have n0_ := Aside0.mk (below_drew1 HB.out)
                    clear HB
                    have HB := n0_
                    clear n0_
                    obtain ⟨i025, hi025, _, hsz25, _⟩ := info_parts info9
                    obtain ⟨A25, hcut25, hA25, hC25⟩ := print_drop_of (P := Try.prog) Value.string (⟨#[]⟩ : ByteArray) 22 9 .i64 Try.underlying22 hi025 hsz25 A0 c0 l0 (ji13) (of_decide_eq_true (by first | (with_reducible assumption) | assumption)) (of_decide_eq_true (by first | (with_reducible assumption) | assumption)) HC0.out
                    have HR136 := Aside0.mk (Kd.C_of_reads (h1 := fun _ => rfl) (hA25 _ (Kd.reads_of_C HR0.out)))
                    have HC136 := Aside0.mk hC25
                    clear hA25 hC25 hi025 hsz25
                    obtain ⟨i026, hi026, _, hsz26, _⟩ := info_parts info9
                    obtain ⟨hcut26, hA26, hC26⟩ := print_take_of (P := Try.prog) Value.string (⟨#[]⟩ : ByteArray) 22 9 .i64 Try.underlying22 hi026 hsz26 A0 c0 l0 (ji13) (of_decide_eq_true (by first | (with_reducible assumption) | assumption)) (of_decide_eq_true (by first | (with_reducible assumption) | assumption)) HC0.out
                    have HR140 := Aside0.mk (Kd.C_of_reads (h1 := fun _ => rfl) (hA26 _ (Kd.reads_of_C HR0.out)))
                    have HC140 := Aside0.mk hC26
                    clear hA26 hC26 hi026 hsz26
                    refine start_ (n := 10) (S := fun w' => True) (ds := []) #[false, false, false, false, false, false, false, false, false, false] (by kernel_rfl) rfl rfl trivial (fun hHeld => ?_); refine with_tabW juratlaw10_PatsOrder.tab7 juratlaw10_PatsOrder.bits7 (fun HT_ HW_ => ?_)
                    generalize wc.drew = w24 at HB HR136 HR140 hHeld ⊢
                    refine pure_ (i := 1) (N := some 44) (v := ?_) (a' := ?_) #[false, true, false, false, false, false, false, false, false, false] rfl rfl (any_of HT_.out (by kernel_rfl)) (fun _ _ _ h => h) (Or.inl ⟨by rfl, ?_⟩) ?_ ?_
                    rotate_left
                    · intro w'
                      go_simp
                      with_reducible rfl
                    rotate_left
                    · simp only [Act.put, List.setIfInBounds_toArray, List.set_cons_zero, List.set_cons_succ, i64_w, i32_w]
                      rfl
                    refine pure_ (i := 2) (N := some 45) (v := ?_) (a' := ?_) #[false, true, true, false, false, false, false, false, false, false] rfl rfl (any_of HT_.out (by kernel_rfl)) (fun _ _ _ h => h) (Or.inl ⟨by rfl, ?_⟩) ?_ ?_
                    rotate_left
                    · intro w'
                      go_simp
                      with_reducible rfl
                    rotate_left
                    · simp only [Act.put, List.setIfInBounds_toArray, List.set_cons_zero, List.set_cons_succ, i64_w, i32_w]
                      rfl
                    refine pure_ (i := 3) (N := some 46) (v := ?_) (a' := ?_) #[false, true, true, true, false, false, false, false, false, false] rfl rfl (any_of HT_.out (by kernel_rfl)) (fun _ _ _ h => h) (Or.inl ⟨by rfl, ?_⟩) ?_ ?_
                    rotate_left
                    · intro w'
                      go_simp
                      with_reducible rfl
                    rotate_left
                    · simp only [Act.put, List.setIfInBounds_toArray, List.set_cons_zero, List.set_cons_succ, i64_w, i32_w]
                      rfl
                    refine pure_ (i := 5) (N := some 48) (v := ?_) (a' := ?_) #[false, true, true, true, false, true, false, false, false, false] rfl rfl (any_of HT_.out (by kernel_rfl)) (fun _ _ _ h => h) (Or.inl ⟨by rfl, ?_⟩) ?_ ?_
                    rotate_left
                    · intro w'
                      go_simp
                      with_reducible rfl
                    rotate_left
                    · simp only [Act.put, List.setIfInBounds_toArray, List.set_cons_zero, List.set_cons_succ, i64_w, i32_w]
                      rfl
                    refine pure_ (i := 6) (N := some 49) (v := ?_) (a' := ?_) #[false, true, true, true, false, true, true, false, false, false] rfl rfl (any_of HT_.out (by kernel_rfl)) (fun _ _ _ h => h) (Or.inl ⟨by rfl, ?_⟩) ?_ ?_
                    rotate_left
                    · intro w'
                      go_simp
                      with_reducible rfl
                    rotate_left
                    · simp only [Act.put, List.setIfInBounds_toArray, List.set_cons_zero, List.set_cons_succ, i64_w, i32_w]
                      rfl
                    refine pure_ (i := 7) (N := some 50) (v := ?_) (a' := ?_) #[false, true, true, true, false, true, true, true, false, false] rfl rfl (any_of HT_.out (by kernel_rfl)) (fun _ _ _ h => h) (Or.inl ⟨by rfl, ?_⟩) ?_ ?_
                    rotate_left
                    · intro w'
                      go_simp
                      with_reducible rfl
                    rotate_left
                    · simp only [Act.put, List.setIfInBounds_toArray, List.set_cons_zero, List.set_cons_succ, i64_w, i32_w]
                      rfl
                    refine one_ (i := 0) (N := some 43) #[true, true, true, true, false, true, true, true, false, false] rfl rfl (one_of HT_.out (by kernel_rfl)) (by decide) (fun K hK => ?_)
                    refine Kd.R_lit_step Kd.string _ 9 ?hg (N := 43) ?hd (xs := ([] : List ByteArray)) (inner := []) (ok := fun _ => True) (okp := fun _ => True) ?hr ?hp (fun _ hk => hk) trivial (Below.refl _ _) (Nat.le_refl _) (by simp) ?_; (case hd => rfl); (case hg => rfl); (case hr => first | (go_simp; done) | (go_simp; rfl)); (case hp => exact (Reps.none _ _))
                    intro v134 w27 ho28 hb hg_ hnew_
                    clear hg_ hnew_
                    (first | rw [← Ny133.out] at ho28 | (simp only [Int.reduceToNat] at ho28; rw [← Ny133.out] at ho28))
                    have n0_ := Aside0.mk (Kd.R_lower ho28 (below_size (by repeat (first | (with_reducible first | exact HB.out | apply below_alloc | apply pw_below_drewN | apply below_drew1) | exact HB.out))))
                    have n1_ := Aside0.mk (below_step (by repeat (first | (with_reducible first | exact HB.out | apply below_alloc | apply pw_below_drewN | apply below_drew1) | exact HB.out)) hb)
                    clear HB
                    have HO135 := n0_
                    have HB := n1_
                    clear n0_ n1_
                    clear hb ho28
                    refine hK.out _ _ trivial (fun hHeld => ?_)
                    clear hK K
                    refine norm_ (a' := ?_) ?_ ?_
                    rotate_left
                    · show Act.put _ (some 43) _ = _
                      simp only [Act.put, List.setIfInBounds_toArray, List.set_cons_zero, List.set_cons_succ, i64_w, i32_w]
                      rfl
                    refine one_ (i := 4) (N := some 47) #[true, true, true, true, true, true, true, true, false, false] rfl rfl (one_of HT_.out (by kernel_rfl)) (by decide) (fun K hK => ?_)
                    refine Kd.R_append_rows_step Kd.string (w0 := w) w.heap.size (by rfl) (.tmp 43) (.tmp 46) 22 9 (.string ⟨#[]⟩) 16 rfl Try.underlying22 info9 rfl (by decide) (by omega) v134 y133 (l0.drop ((ji13) : Int).toNat) _ _ _ (fun _ => True) (fun _ => False) rfl rfl ?aO ?aR (fun _ _ h => h) (fun _ h => h.elim) ?aF ?aB ?aS ?aL ?_
                    (case aR => first | (rw [← show (l0.drop ((ji13) : Int).toNat).length = (l0.length - (ji13).toNat) from List.length_drop]; repeat (first | exact (Kd.C_below HR136.out HB.out) | (with_reducible refine Kd.C_alloc ?_ _) | (with_reducible refine Kd.C_drewN ?_ _) | (with_reducible refine Kd.C_drew ?_))) | (repeat (first | exact (Kd.C_below HR136.out HB.out) | (with_reducible refine Kd.C_alloc ?_ _) | (with_reducible refine Kd.C_drewN ?_ _) | (with_reducible refine Kd.C_drew ?_))))
                    (case aB => exact (by repeat (first | (with_reducible first | exact HB.out | apply below_alloc | apply pw_below_drewN | apply below_drew1) | exact HB.out)))
                    (case aF => exact (fun _ _ => trivial))
                    (case aO => exact (by (with_reducible repeat (first | apply Kd.R_alloc | apply Kd.R_drewN | apply Kd.R_drew)); exact HO135.out))
                    (case aS => exact (below_size (by repeat (first | (with_reducible first | exact HB.out | apply below_alloc | apply pw_below_drewN | apply below_drew1) | exact HB.out))))
                    (case aL => have := LMc16.out; have hlx_ := (show (l0.drop ((ji13) : Int).toNat).length = (l0.length - (ji13).toNat) from List.length_drop); omega)
                    intro v138 w29 ho hb hg hat
                    rw [← Ny137.out] at ho
                    have n0_ := Aside0.mk (hb)
                    have n1_ := Aside0.mk (ho)
                    clear HB
                    clear HO135
                    have HB := n0_
                    have HO139 := n1_
                    clear n0_ n1_
                    clear ho hb hg hat
                    refine hK.out _ _ trivial (fun hHeld => ?_)
                    clear hK K
                    refine norm_ (a' := ?_) ?_ ?_
                    rotate_left
                    · show Act.put _ (some 47) _ = _
                      simp only [Act.put, List.setIfInBounds_toArray, List.set_cons_zero, List.set_cons_succ, i64_w, i32_w]
                      rfl
                    refine one_ (i := 8) (N := some 51) #[true, true, true, true, true, true, true, true, true, false] rfl rfl (one_of HT_.out (by kernel_rfl)) (by decide) (fun K hK => ?_)
                    refine Kd.R_append_rows_step Kd.string (w0 := w) w.heap.size (by rfl) (.tmp 47) (.tmp 50) 22 9 (.string ⟨#[]⟩) 16 rfl Try.underlying22 info9 rfl (by decide) (by omega) v138 y137 (l0.take ((ji13) : Int).toNat) _ _ _ (fun _ => True) (fun _ => False) rfl rfl ?aO ?aR (fun _ _ h => h) (fun _ h => h.elim) ?aF ?aB ?aS ?aL ?_
                    (case aR => first | (have e_ : (l0.take ((ji13) : Int).toNat).length = (ji13).toNat := (by rw [List.length_take]; have h_ : ((ji13) : Int) ≤ (l0.length : Int) := of_decide_eq_true (by first | (with_reducible assumption) | assumption); omega); refine (show ∀ (w_ : World) (n_ m_ : Nat), n_ = m_ → (Kd.C _ w_ _ n_ _) → (Kd.C _ w_ _ m_ _) from fun _ _ _ h_ k_ => h_ ▸ k_) _ _ _ e_ ?_; repeat (first | exact (Kd.C_below HR140.out HB.out) | (with_reducible refine Kd.C_alloc ?_ _) | (with_reducible refine Kd.C_drewN ?_ _) | (with_reducible refine Kd.C_drew ?_)); done) | (rw [← show (l0.take ((ji13) : Int).toNat).length = (ji13).toNat from (by rw [List.length_take]; have h_ : ((ji13) : Int) ≤ (l0.length : Int) := of_decide_eq_true (by first | (with_reducible assumption) | assumption); omega)]; repeat (first | exact (Kd.C_below HR140.out HB.out) | (with_reducible refine Kd.C_alloc ?_ _) | (with_reducible refine Kd.C_drewN ?_ _) | (with_reducible refine Kd.C_drew ?_))) | (repeat (first | exact (Kd.C_below HR140.out HB.out) | (with_reducible refine Kd.C_alloc ?_ _) | (with_reducible refine Kd.C_drewN ?_ _) | (with_reducible refine Kd.C_drew ?_))))
                    (case aB => exact (by repeat (first | (with_reducible first | exact HB.out | apply below_alloc | apply pw_below_drewN | apply below_drew1) | exact HB.out)))
                    (case aF => exact (fun _ _ => trivial))
                    (case aO => exact (by (with_reducible repeat (first | apply Kd.R_alloc | apply Kd.R_drewN | apply Kd.R_drew)); exact HO139.out))
                    (case aS => exact (below_size (by repeat (first | (with_reducible first | exact HB.out | apply below_alloc | apply pw_below_drewN | apply below_drew1) | exact HB.out))))
                    (case aL => have := LMc19.out; have hlx_ := (show (l0.take ((ji13) : Int).toNat).length = (ji13).toNat from (by rw [List.length_take]; have h_ : ((ji13) : Int) ≤ (l0.length : Int) := of_decide_eq_true (by first | (with_reducible assumption) | assumption); omega)); omega)
                    intro v142 w30 ho hb hg hat
                    rw [← Ny141.out] at ho
                    have n0_ := Aside0.mk (hb)
                    have n1_ := Aside0.mk (ho)
                    clear HB
                    clear HO139
                    have HB := n0_
                    have HO143 := n1_
                    clear n0_ n1_
                    clear ho hb hg hat
                    refine hK.out _ _ trivial (fun hHeld => ?_)
                    clear hK K
                    refine norm_ (a' := ?_) ?_ ?_
                    rotate_left
                    · show Act.put _ (some 51) _ = _
                      simp only [Act.put, List.setIfInBounds_toArray, List.set_cons_zero, List.set_cons_succ, i64_w, i32_w]
                      rfl
                    refine pure_ (i := 9) (N := some 7) (v := ?_) (a' := ?_) #[true, true, true, true, true, true, true, true, true, true] rfl rfl (any_of HT_.out (by kernel_rfl)) (fun _ _ _ h => h) (Or.inl ⟨by rfl, ?_⟩) ?_ ?_
                    rotate_left
                    · intro w'
                      go_simp
                      with_reducible rfl
                    rotate_left
                    · simp only [Act.put, List.setIfInBounds_toArray, List.set_cons_zero, List.set_cons_succ, i64_w, i32_w]
                      rfl
                    refine done_ (done_of HT_.out (by kernel_rfl)) ?_
                    obtain ⟨Ao31, co31, eo31⟩ := Kd.R_slice HO143.out
                    subst eo31
                    go_upto_region 10 with (first | ((with_reducible refine gate_callee (f := 8) rfl ?_); refine goesL_ (some 54) rfl rfl Try.func8 (by kernel_rfl) rfl #[.slice Ao31 y141.length co31] rfl (by (try simp only [List.map_toArray, List.map_cons, List.map_nil]); first | done | rfl | (simp only [List.length_drop, List.length_take]; rfl)) ?_; (with_reducible refine (pats_New.calls _ _ y141 t144 t145 _ ?side1 ?side2 A20.out).mono ?_); (case side1 => repeat (first | exact (Kd.R_reads' HO143.out).2.2 | (with_reducible refine Kd.C_alloc ?_ _) | (with_reducible refine Kd.C_drewN ?_ _) | (with_reducible refine Kd.C_drew ?_))); (case side2 => exact (Kd.R_reads' HO143.out).2.1); rintro e w32 ⟨Pt144, rfl, hob0, hb⟩; refine ⟨_, rfl, ?_⟩; have hbw_ := below_step (by repeat (first | (with_reducible first | exact HB.out | apply below_alloc | apply pw_below_drewN | apply below_drew1) | exact HB.out)) hb; obtain ⟨Ab148, cb148, eb148_, lb148_, gb148_⟩ := Kd.R_reads (Kd.R_below (by (with_reducible repeat (first | apply Kd.R_alloc | apply Kd.R_drewN | apply Kd.R_drew)); exact HO143.out) hb); (first | subst eb148_ | (injection eb148_ with f1_ f2_ f3_; have f4_ := f1_.symm; have f5_ := f3_.symm; clear f1_ f2_ f3_; subst f4_; subst f5_)); have HRb148 := Aside0.mk gb148_; have HCb148 := Aside0.mk lb148_; clear gb148_ lb148_; (try clear HO143); (try (have n_ := Aside0.mk (Kd.C_below HR0.out hbw_); clear HR0; have HR0 := n_; clear n_)); (try (have n_ := Aside0.mk (OB.below hbw_ HO_t129.out); clear HO_t129; have HO_t129 := n_; clear n_)); (try (have n_ := Aside0.mk (OB.below hbw_ HO_qo131.out); clear HO_qo131; have HO_qo131 := n_; clear n_)); (first | (have n_ := Aside0.mk (HB00.out.trans (hbw_.mono HB00.out.size)); clear HB00; have HB00 := n_; clear n_) | have HB00 := Aside0.mk hbw_); clear HB hb hbw_; have HO_t144 := Aside0.mk hob0; clear hob0; obtain ⟨w, rfl⟩ : ∃ w_ : World, w_ = w32 := ⟨_, rfl⟩; have HB := Aside0.mk (Below.refl w.heap.size w)) | ((with_reducible refine gate_callee (f := 9) rfl ?_); refine goesL_ (some 59) rfl rfl Try.func9 (by kernel_rfl) rfl #[.pointer Pt129] rfl (by (try simp only [List.map_toArray, List.map_cons, List.map_nil]); first | done | rfl | (simp only [List.length_drop, List.length_take]; rfl)) ?_; (with_reducible refine (pats_Set_List.calls _ t129 t149 _ ?side1 A21.out).mono ?_); (case side1 => first | exact HO_t129.out | exact OB.drewN HO_t129.out _ | exact OB.below (by repeat (first | (with_reducible first | exact HB.out | apply below_alloc | apply pw_below_drewN | apply below_drew1) | exact HB.out)) HO_t129.out); rintro e w33 ⟨v150, rfl, ho0, hb⟩; refine ⟨_, rfl, ?_⟩; have n0_ := Aside0.mk (Kd.R_lower ho0 (below_size (by repeat (first | (with_reducible first | exact HB.out | apply below_alloc | apply pw_below_drewN | apply below_drew1) | exact HB.out)))); have n1_ := Aside0.mk (below_step (by repeat (first | (with_reducible first | exact HB.out | apply below_alloc | apply pw_below_drewN | apply below_drew1) | exact HB.out)) hb); clear HB; have HO151 := n0_; have HB := n1_; clear n0_ n1_; (try clear hb); (try clear hb2); (try clear hk); (try clear hi); (try clear ho0); obtain ⟨Ao34, co34, eo34⟩ := Kd.R_slice HO151.out; subst eo34) | ((with_reducible refine gate_callee (f := 8) rfl ?_); refine goesL_ (some 60) rfl rfl Try.func8 (by kernel_rfl) rfl #[.slice Ao34 t149.length co34] rfl (by (try simp only [List.map_toArray, List.map_cons, List.map_nil]); first | done | rfl | (simp only [List.length_drop, List.length_take]; rfl)) ?_; (with_reducible refine (pats_New.calls _ _ t149 t152 t153 _ ?side1 ?side2 A22.out).mono ?_); (case side1 => repeat (first | exact (Kd.R_reads' HO151.out).2.2 | (with_reducible refine Kd.C_alloc ?_ _) | (with_reducible refine Kd.C_drewN ?_ _) | (with_reducible refine Kd.C_drew ?_))); (case side2 => exact (Kd.R_reads' HO151.out).2.1); rintro e w35 ⟨Pt152, rfl, hob0, hb⟩; refine ⟨_, rfl, ?_⟩; have hbw_ := below_step (by repeat (first | (with_reducible first | exact HB.out | apply below_alloc | apply pw_below_drewN | apply below_drew1) | exact HB.out)) hb; obtain ⟨Ab154, cb154, eb154_, lb154_, gb154_⟩ := Kd.R_reads (Kd.R_below (by (with_reducible repeat (first | apply Kd.R_alloc | apply Kd.R_drewN | apply Kd.R_drew)); exact HO151.out) hb); (first | subst eb154_ | (injection eb154_ with f1_ f2_ f3_; have f4_ := f1_.symm; have f5_ := f3_.symm; clear f1_ f2_ f3_; subst f4_; subst f5_)); have HRb154 := Aside0.mk gb154_; have HCb154 := Aside0.mk lb154_; clear gb154_ lb154_; (try clear HO151); (try (have n_ := Aside0.mk (Kd.C_below HR0.out hbw_); clear HR0; have HR0 := n_; clear n_)); (try (have n_ := Aside0.mk (Kd.C_below HRb146.out hbw_); clear HRb146; have HRb146 := n_; clear n_)); (try (have n_ := Aside0.mk (Kd.C_below HRb147.out hbw_); clear HRb147; have HRb147 := n_; clear n_)); (try (have n_ := Aside0.mk (Kd.C_below HRb148.out hbw_); clear HRb148; have HRb148 := n_; clear n_)); (try (have n_ := Aside0.mk (OB.below hbw_ HO_t129.out); clear HO_t129; have HO_t129 := n_; clear n_)); (try (have n_ := Aside0.mk (OB.below hbw_ HO_qo131.out); clear HO_qo131; have HO_qo131 := n_; clear n_)); (try (have n_ := Aside0.mk (OB.below hbw_ HO_t144.out); clear HO_t144; have HO_t144 := n_; clear n_)); (first | (have n_ := Aside0.mk (HB00.out.trans (hbw_.mono HB00.out.size)); clear HB00; have HB00 := n_; clear n_) | have HB00 := Aside0.mk hbw_); clear HB hb hbw_; have HO_t152 := Aside0.mk hob0; clear hob0; obtain ⟨w, rfl⟩ : ∃ w_ : World, w_ = w35 := ⟨_, rfl⟩; have HB := Aside0.mk (Below.refl w.heap.size w)))
                    (try simp only [Act.put, List.setIfInBounds_toArray, List.set_cons_zero, List.set_cons_succ])
                    go_cut [84] (fun v84 wc => ∃ (kq : Nat) (x84_22 : Bool), v84 = .bool x84_22 ∧ Aside0 (juratlaw10_PatsOrder.j1 kq l0 t129 x84_22 = some r) ∧ Aside0 (kq ≤ kj5) ∧ Aside0 (Below w.heap.size w wc))
                    case first =>
                      have H := HC23.out
                      clear HC23
                      by_cases c36 : t145 = 0
                      · rw [if_pos c36] at H
                        have c36b0 : (t145 == 0) = true := beq_iff_eq.mpr c36
                        have c36b1 : (t145 != 0) = false := bne_eq_false_iff_eq.mpr c36
                        clear c36
                        (first | rw [c36b0] | rw [c36b1] | (simp only [i64_w, i32_w]; rw [c36b0]) | skip)
                        by_cases c37 : t153 = 0
                        · rw [if_pos c37] at H
                          have c37b0 : (t153 == 0) = true := beq_iff_eq.mpr c37
                          have c37b1 : (t153 != 0) = false := bne_eq_false_iff_eq.mpr c37
                          clear c37
                          replace H := Option.bind_eq_some_iff.mp H
                          obtain ⟨t155, A380, H⟩ := H
                          replace H : ((pats_Set_List.f t144).bind fun t158 => ((juratref05_Same.f kj5 t155 t158).bind fun t161 => (if t161 = true then ((pats_Set_List.f t129).bind fun t162 => ((pats_Set_List.f t152).bind fun t165 => ((juratref05_Same.f kj5 t162 t165).bind fun t168 => (juratlaw10_PatsOrder.j1 kj5 l0 t129 (!t168))))) else (juratlaw10_PatsOrder.j1 kj5 l0 t129 true)))) = some r := H
                          have A38 := Aside0.mk A380
                          clear A380
                          replace H := Option.bind_eq_some_iff.mp H
                          obtain ⟨t158, A390, H⟩ := H
                          replace H : ((juratref05_Same.f kj5 t155 t158).bind fun t161 => (if t161 = true then ((pats_Set_List.f t129).bind fun t162 => ((pats_Set_List.f t152).bind fun t165 => ((juratref05_Same.f kj5 t162 t165).bind fun t168 => (juratlaw10_PatsOrder.j1 kj5 l0 t129 (!t168))))) else (juratlaw10_PatsOrder.j1 kj5 l0 t129 true))) = some r := H
                          have A39 := Aside0.mk A390
                          clear A390
                          replace H := Option.bind_eq_some_iff.mp H
                          obtain ⟨t161, A400, H⟩ := H
                          replace H : (if t161 = true then ((pats_Set_List.f t129).bind fun t162 => ((pats_Set_List.f t152).bind fun t165 => ((juratref05_Same.f kj5 t162 t165).bind fun t168 => (juratlaw10_PatsOrder.j1 kj5 l0 t129 (!t168))))) else (juratlaw10_PatsOrder.j1 kj5 l0 t129 true)) = some r := H
                          have A40 := Aside0.mk A400
                          clear A400
                          by_cases c41 : t161 = true
                          · subst c41
                            have H1 : ((pats_Set_List.f t129).bind fun t162 => ((pats_Set_List.f t152).bind fun t165 => ((juratref05_Same.f kj5 t162 t165).bind fun t168 => (juratlaw10_PatsOrder.j1 kj5 l0 t129 (!t168))))) = some r := by rw [if_pos rfl] at H; exact H
                            clear H
                            have H := H1
                            clear H1
                            replace H := Option.bind_eq_some_iff.mp H
                            obtain ⟨t162, A420, H⟩ := H
                            replace H : ((pats_Set_List.f t152).bind fun t165 => ((juratref05_Same.f kj5 t162 t165).bind fun t168 => (juratlaw10_PatsOrder.j1 kj5 l0 t129 (!t168)))) = some r := H
                            have A42 := Aside0.mk A420
                            clear A420
                            replace H := Option.bind_eq_some_iff.mp H
                            obtain ⟨t165, A430, H⟩ := H
                            replace H : ((juratref05_Same.f kj5 t162 t165).bind fun t168 => (juratlaw10_PatsOrder.j1 kj5 l0 t129 (!t168))) = some r := H
                            have A43 := Aside0.mk A430
                            clear A430
                            replace H := Option.bind_eq_some_iff.mp H
                            obtain ⟨t168, A440, H⟩ := H
                            replace H : (juratlaw10_PatsOrder.j1 kj5 l0 t129 (!t168)) = some r := H
                            have A44 := Aside0.mk A440
                            clear A440
                            have H' := Aside0.mk H
                            clear H
                            have tk0_ : True := trivial
                            have tk1_ : True := trivial
                            go_wp2_with (first | (go_at_call 9; (clear tk0_); (with_reducible refine (pats_Set_List.calls _ t129 t155 _ ?side1 A38.out).mono ?_); (case side1 => first | exact HO_t129.out | exact OB.drewN HO_t129.out _ | exact OB.below (by repeat (first | (with_reducible first | exact HB.out | apply below_alloc | apply pw_below_drewN | apply below_drew1) | exact HB.out)) HO_t129.out); rintro e w45 ⟨v156, rfl, ho0, hb⟩; have n0_ := Aside0.mk (Kd.R_lower ho0 (below_size (by repeat (first | (with_reducible first | exact HB.out | apply below_alloc | apply pw_below_drewN | apply below_drew1) | exact HB.out)))); have n1_ := Aside0.mk (below_step (by repeat (first | (with_reducible first | exact HB.out | apply below_alloc | apply pw_below_drewN | apply below_drew1) | exact HB.out)) hb); clear HB; have HO157 := n0_; have HB := n1_; clear n0_ n1_; (try clear hb); (try clear hb2); (try clear hk); (try clear hi); (try clear ho0)) | (go_at_call 9; (with_reducible refine (pats_Set_List.calls _ t144 t158 _ ?side1 A39.out).mono ?_); (case side1 => first | exact HO_t144.out | exact OB.drewN HO_t144.out _ | exact OB.below (by repeat (first | (with_reducible first | exact HB.out | apply below_alloc | apply pw_below_drewN | apply below_drew1) | exact HB.out)) HO_t144.out); rintro e w46 ⟨v159, rfl, ho0, hb⟩; have n0_ := Aside0.mk (Kd.R_elder' (by (with_reducible repeat (first | apply Kd.R_alloc | apply Kd.R_drewN | apply Kd.R_drew)); exact HO157.out) (Kd.R_base ho0) hb); have n1_ := Aside0.mk (Kd.R_lower (Kd.R_new' ho0 (Kd.R_lt (by (with_reducible repeat (first | apply Kd.R_alloc | apply Kd.R_drewN | apply Kd.R_drew)); exact HO157.out))) (below_size (by repeat (first | (with_reducible first | exact HB.out | apply below_alloc | apply pw_below_drewN | apply below_drew1) | exact HB.out)))); have n2_ := Aside0.mk (below_step (by repeat (first | (with_reducible first | exact HB.out | apply below_alloc | apply pw_below_drewN | apply below_drew1) | exact HB.out)) hb); clear HO157; clear HB; have HO157 := n0_; have HO160 := n1_; have HB := n2_; clear n0_ n1_ n2_; (try clear hb); (try clear hb2); (try clear hk); (try clear hi); (try clear ho0); obtain ⟨Ao47, co47, eo47⟩ := Kd.R_slice HO157.out; subst eo47; obtain ⟨Ao48, co48, eo48⟩ := Kd.R_slice HO160.out; subst eo48) | (go_at_call 10; (with_reducible refine (juratref05_Same.calls kj5 _ _ t155 _ _ t158 true _ ?side1 ?side2 ?side3 ?side4 A40.out).mono ?_); (case side1 => repeat (first | exact (Kd.R_reads' HO157.out).2.2 | (with_reducible refine Kd.C_alloc ?_ _) | (with_reducible refine Kd.C_drewN ?_ _) | (with_reducible refine Kd.C_drew ?_))); (case side2 => exact (Kd.R_reads' HO157.out).2.1); (case side3 => repeat (first | exact (Kd.R_reads' HO160.out).2.2 | (with_reducible refine Kd.C_alloc ?_ _) | (with_reducible refine Kd.C_drewN ?_ _) | (with_reducible refine Kd.C_drew ?_))); (case side4 => exact (Kd.R_reads' HO160.out).2.1); rintro e w' ⟨rfl, ⟨nd, rfl⟩⟩) | (go_at_call 9; (clear tk1_); (with_reducible refine (pats_Set_List.calls _ t129 t162 _ ?side1 A42.out).mono ?_); (case side1 => first | exact HO_t129.out | exact OB.drewN HO_t129.out _ | exact OB.below (by repeat (first | (with_reducible first | exact HB.out | apply below_alloc | apply pw_below_drewN | apply below_drew1) | exact HB.out)) HO_t129.out); rintro e w49 ⟨v163, rfl, ho0, hb⟩; have n0_ := Aside0.mk (Kd.R_elder' (by (with_reducible repeat (first | apply Kd.R_alloc | apply Kd.R_drewN | apply Kd.R_drew)); exact HO157.out) (Kd.R_base ho0) hb); have n1_ := Aside0.mk (Kd.R_elder' (by (with_reducible repeat (first | apply Kd.R_alloc | apply Kd.R_drewN | apply Kd.R_drew)); exact HO160.out) (Kd.R_base ho0) hb); have n2_ := Aside0.mk (Kd.R_lower (Kd.R_new' (Kd.R_new' ho0 (Kd.R_lt (by (with_reducible repeat (first | apply Kd.R_alloc | apply Kd.R_drewN | apply Kd.R_drew)); exact HO157.out))) (Kd.R_lt (by (with_reducible repeat (first | apply Kd.R_alloc | apply Kd.R_drewN | apply Kd.R_drew)); exact HO160.out))) (below_size (by repeat (first | (with_reducible first | exact HB.out | apply below_alloc | apply pw_below_drewN | apply below_drew1) | exact HB.out)))); have n3_ := Aside0.mk (below_step (by repeat (first | (with_reducible first | exact HB.out | apply below_alloc | apply pw_below_drewN | apply below_drew1) | exact HB.out)) hb); clear HO157; clear HO160; clear HB; have HO157 := n0_; have HO160 := n1_; have HO164 := n2_; have HB := n3_; clear n0_ n1_ n2_ n3_; (try clear hb); (try clear hb2); (try clear hk); (try clear hi); (try clear ho0)) | (go_at_call 9; (with_reducible refine (pats_Set_List.calls _ t152 t165 _ ?side1 A43.out).mono ?_); (case side1 => first | exact HO_t152.out | exact OB.drewN HO_t152.out _ | exact OB.below (by repeat (first | (with_reducible first | exact HB.out | apply below_alloc | apply pw_below_drewN | apply below_drew1) | exact HB.out)) HO_t152.out); rintro e w50 ⟨v166, rfl, ho0, hb⟩; have n0_ := Aside0.mk (Kd.R_elder' (by (with_reducible repeat (first | apply Kd.R_alloc | apply Kd.R_drewN | apply Kd.R_drew)); exact HO157.out) (Kd.R_base ho0) hb); have n1_ := Aside0.mk (Kd.R_elder' (by (with_reducible repeat (first | apply Kd.R_alloc | apply Kd.R_drewN | apply Kd.R_drew)); exact HO160.out) (Kd.R_base ho0) hb); have n2_ := Aside0.mk (Kd.R_elder' (by (with_reducible repeat (first | apply Kd.R_alloc | apply Kd.R_drewN | apply Kd.R_drew)); exact HO164.out) (Kd.R_base ho0) hb); have n3_ := Aside0.mk (Kd.R_lower (Kd.R_new' (Kd.R_new' (Kd.R_new' ho0 (Kd.R_lt (by (with_reducible repeat (first | apply Kd.R_alloc | apply Kd.R_drewN | apply Kd.R_drew)); exact HO157.out))) (Kd.R_lt (by (with_reducible repeat (first | apply Kd.R_alloc | apply Kd.R_drewN | apply Kd.R_drew)); exact HO160.out))) (Kd.R_lt (by (with_reducible repeat (first | apply Kd.R_alloc | apply Kd.R_drewN | apply Kd.R_drew)); exact HO164.out))) (below_size (by repeat (first | (with_reducible first | exact HB.out | apply below_alloc | apply pw_below_drewN | apply below_drew1) | exact HB.out)))); have n4_ := Aside0.mk (below_step (by repeat (first | (with_reducible first | exact HB.out | apply below_alloc | apply pw_below_drewN | apply below_drew1) | exact HB.out)) hb); clear HO157; clear HO160; clear HO164; clear HB; have HO157 := n0_; have HO160 := n1_; have HO164 := n2_; have HO167 := n3_; have HB := n4_; clear n0_ n1_ n2_ n3_ n4_; (try clear hb); (try clear hb2); (try clear hk); (try clear hi); (try clear ho0); obtain ⟨Ao51, co51, eo51⟩ := Kd.R_slice HO164.out; subst eo51; obtain ⟨Ao52, co52, eo52⟩ := Kd.R_slice HO167.out; subst eo52) | (go_at_call 10; (with_reducible refine (juratref05_Same.calls kj5 _ _ t162 _ _ t165 t168 _ ?side1 ?side2 ?side3 ?side4 A44.out).mono ?_); (case side1 => repeat (first | exact (Kd.R_reads' HO164.out).2.2 | (with_reducible refine Kd.C_alloc ?_ _) | (with_reducible refine Kd.C_drewN ?_ _) | (with_reducible refine Kd.C_drew ?_))); (case side2 => exact (Kd.R_reads' HO164.out).2.1); (case side3 => repeat (first | exact (Kd.R_reads' HO167.out).2.2 | (with_reducible refine Kd.C_alloc ?_ _) | (with_reducible refine Kd.C_drewN ?_ _) | (with_reducible refine Kd.C_drew ?_))); (case side4 => exact (Kd.R_reads' HO167.out).2.1); rintro e w' ⟨rfl, ⟨nd, rfl⟩⟩))
                            go_meet
                            case rel => exact ⟨_, (!t168), (by first | rfl | exact isE_ _ | exact isE2_ _ | (simp; done) | (simp [*]; done)), H', ⟨by have := HJ5.out; first | omega | exact Nat.le_refl _⟩, ⟨by repeat (first | (with_reducible first | exact HB.out | apply below_alloc | apply pw_below_drewN | apply below_drew1) | exact HB.out)⟩⟩
                          · replace c41 := Bool.eq_false_iff.mpr c41
                            subst c41
                            have H1 : (juratlaw10_PatsOrder.j1 kj5 l0 t129 true) = some r := by rw [if_neg (show ¬ (false = true) by decide)] at H; exact H
                            clear H
                            have H := H1
                            clear H1
                            have H' := Aside0.mk H
                            clear H
                            go_wp2_with (first | (go_at_call 9; (with_reducible refine (pats_Set_List.calls _ t129 t155 _ ?side1 A38.out).mono ?_); (case side1 => first | exact HO_t129.out | exact OB.drewN HO_t129.out _ | exact OB.below (by repeat (first | (with_reducible first | exact HB.out | apply below_alloc | apply pw_below_drewN | apply below_drew1) | exact HB.out)) HO_t129.out); rintro e w53 ⟨v156, rfl, ho0, hb⟩; have n0_ := Aside0.mk (Kd.R_lower ho0 (below_size (by repeat (first | (with_reducible first | exact HB.out | apply below_alloc | apply pw_below_drewN | apply below_drew1) | exact HB.out)))); have n1_ := Aside0.mk (below_step (by repeat (first | (with_reducible first | exact HB.out | apply below_alloc | apply pw_below_drewN | apply below_drew1) | exact HB.out)) hb); clear HB; have HO157 := n0_; have HB := n1_; clear n0_ n1_; (try clear hb); (try clear hb2); (try clear hk); (try clear hi); (try clear ho0)) | (go_at_call 9; (with_reducible refine (pats_Set_List.calls _ t144 t158 _ ?side1 A39.out).mono ?_); (case side1 => first | exact HO_t144.out | exact OB.drewN HO_t144.out _ | exact OB.below (by repeat (first | (with_reducible first | exact HB.out | apply below_alloc | apply pw_below_drewN | apply below_drew1) | exact HB.out)) HO_t144.out); rintro e w54 ⟨v159, rfl, ho0, hb⟩; have n0_ := Aside0.mk (Kd.R_elder' (by (with_reducible repeat (first | apply Kd.R_alloc | apply Kd.R_drewN | apply Kd.R_drew)); exact HO157.out) (Kd.R_base ho0) hb); have n1_ := Aside0.mk (Kd.R_lower (Kd.R_new' ho0 (Kd.R_lt (by (with_reducible repeat (first | apply Kd.R_alloc | apply Kd.R_drewN | apply Kd.R_drew)); exact HO157.out))) (below_size (by repeat (first | (with_reducible first | exact HB.out | apply below_alloc | apply pw_below_drewN | apply below_drew1) | exact HB.out)))); have n2_ := Aside0.mk (below_step (by repeat (first | (with_reducible first | exact HB.out | apply below_alloc | apply pw_below_drewN | apply below_drew1) | exact HB.out)) hb); clear HO157; clear HB; have HO157 := n0_; have HO160 := n1_; have HB := n2_; clear n0_ n1_ n2_; (try clear hb); (try clear hb2); (try clear hk); (try clear hi); (try clear ho0); obtain ⟨Ao55, co55, eo55⟩ := Kd.R_slice HO157.out; subst eo55; obtain ⟨Ao56, co56, eo56⟩ := Kd.R_slice HO160.out; subst eo56) | (go_at_call 10; (with_reducible refine (juratref05_Same.calls kj5 _ _ t155 _ _ t158 false _ ?side1 ?side2 ?side3 ?side4 A40.out).mono ?_); (case side1 => repeat (first | exact (Kd.R_reads' HO157.out).2.2 | (with_reducible refine Kd.C_alloc ?_ _) | (with_reducible refine Kd.C_drewN ?_ _) | (with_reducible refine Kd.C_drew ?_))); (case side2 => exact (Kd.R_reads' HO157.out).2.1); (case side3 => repeat (first | exact (Kd.R_reads' HO160.out).2.2 | (with_reducible refine Kd.C_alloc ?_ _) | (with_reducible refine Kd.C_drewN ?_ _) | (with_reducible refine Kd.C_drew ?_))); (case side4 => exact (Kd.R_reads' HO160.out).2.1); rintro e w' ⟨rfl, ⟨nd, rfl⟩⟩))
                            go_meet
                            case rel => exact ⟨_, (true), (by first | rfl | exact isE_ _ | exact isE2_ _ | (simp; done) | (simp [*]; done)), H', ⟨by have := HJ5.out; first | omega | exact Nat.le_refl _⟩, ⟨by repeat (first | (with_reducible first | exact HB.out | apply below_alloc | apply pw_below_drewN | apply below_drew1) | exact HB.out)⟩⟩
                        · rw [if_neg c37] at H
                          have c37b0 : (t153 == 0) = false := beq_eq_false_iff_ne.mpr c37
                          have c37b1 : (t153 != 0) = true := bne_iff_ne.mpr c37
                          have H' := Aside0.mk H
                          clear H
                          go_wp2
                          go_meet
                          case rel => exact ⟨_, (true), (by first | rfl | exact isE_ _ | exact isE2_ _ | (simp; done) | (simp [*]; done)), H', ⟨by have := HJ5.out; first | omega | exact Nat.le_refl _⟩, ⟨by repeat (first | (with_reducible first | exact HB.out | apply below_alloc | apply pw_below_drewN | apply below_drew1) | exact HB.out)⟩⟩
                      · rw [if_neg c36] at H
                        have c36b0 : (t145 == 0) = false := beq_eq_false_iff_ne.mpr c36
                        have c36b1 : (t145 != 0) = true := bne_iff_ne.mpr c36
                        (first | rw [c36b0] | rw [c36b1] | (simp only [i64_w, i32_w]; rw [c36b0]) | skip)
                        have H' := Aside0.mk H
                        clear H
                        go_wp2
                        go_meet
                        case rel => exact ⟨_, (true), (by first | rfl | exact isE_ _ | exact isE2_ _ | (simp; done) | (simp [*]; done)), H', ⟨by have := HJ5.out; first | omega | exact Nat.le_refl _⟩, ⟨by repeat (first | (with_reducible first | exact HB.out | apply below_alloc | apply pw_below_drewN | apply below_drew1) | exact HB.out)⟩⟩
                    case rest =>
                      clear HC23
                      try clear c1
                      try clear p2
                      try clear c3
                      try clear c4
                      try clear c6
                      try clear c8
                      try clear c8b0
                      try clear c8b1
                      try clear c9
                      try clear c12
                      try clear c12b0
                      try clear c12b1
                      try clear c12b2
                      try clear c14
                      try clear c14b0
                      try clear c14b1
                      try clear c15
                      try clear c15b0
                      try clear c15b1
                      try clear c16
                      try clear c17
                      try clear c17b0
                      try clear c18
                      try clear c18b0
                      try clear c19
                      try clear c36
                      try clear c36b0
                      try clear c36b1
                      try clear c37
                      try clear c37b0
                      try clear c37b1
                      try clear c41
                      try clear p2
                      obtain ⟨kq, x84_22, rfl, HA, HJ22, HB⟩ := hcut
                      cases kq with
                      | zero => exact absurd HA.out (by simp [juratlaw10_PatsOrder.j1])
                      | succ kj22 =>
                        have H := HA.out
                        clear HA
                        simp only [juratlaw10_PatsOrder.j1] at H
                        by_cases c57 : x84_22 = true
                        · subst c57
                          have H1 : (some false) = some r := by rw [if_pos rfl] at H; exact H
                          clear H
                          have H := H1
                          clear H1
                          obtain rfl := Option.some.inj H
                          go_wp2
                          go_ret
                          exact ⟨by first | rfl | (simp [errW_none, errW_some] <;> rfl) | (simp only [← hji13]; first | rfl | (simp [errW_none, errW_some] <;> rfl)) | (simp [*, errW_none, errW_some] <;> rfl), by first | (refine HB00.out.trans (Below.mono ?_ HB00.out.size); (repeat (first | (with_reducible first | exact HB.out | apply below_alloc | apply pw_below_drewN | apply below_drew1) | exact HB.out))) | (repeat (first | (with_reducible first | exact HB.out | apply below_alloc | apply pw_below_drewN | apply below_drew1) | exact HB.out))⟩
                        · replace c57 := Bool.eq_false_iff.mpr c57
                          subst c57
                          have H1 : (juratlaw10_PatsOrder.l0 kj22 l0 t129 0) = some r := by rw [if_neg (show ¬ (false = true) by decide)] at H; exact H
                          clear H
                          have H := H1
                          clear H1
                          have H' := Aside0.mk H
                          clear H
                          go_wp2
                          go_loopg [12] kj22 (fun kq v12 w' => ∃ (x12_3 : Int), v12 = .int .i64 x12_3 ∧ Aside0 (juratlaw10_PatsOrder.l0 kq l0 t129 x12_3 = some r) ∧ Aside0 (kq ≤ kj22) ∧ Aside0 (Below w.heap.size w w'))
                          case atStart => exact ⟨(0), (by first | rfl | exact isE_ _ | exact isE2_ _ | (simp; done) | (simp [*]; done)), H', ⟨Nat.le_refl _⟩, ⟨by repeat (first | (with_reducible first | exact HB.out | apply below_alloc | apply pw_below_drewN | apply below_drew1) | exact HB.out)⟩⟩
                          case round =>
                            clear H'
                            try clear c1
                            try clear p2
                            try clear c3
                            try clear c4
                            try clear c5
                            try clear c6
                            try clear c8
                            try clear c8b0
                            try clear c8b1
                            try clear c9
                            try clear c12
                            try clear c12b0
                            try clear c12b1
                            try clear c12b2
                            try clear c14
                            try clear c14b0
                            try clear c14b1
                            try clear c15
                            try clear c15b0
                            try clear c15b1
                            try clear c16
                            try clear c17
                            try clear c17b0
                            try clear c18
                            try clear c18b0
                            try clear c19
                            try clear c36
                            try clear c36b0
                            try clear c36b1
                            try clear c37
                            try clear c37b0
                            try clear c37b1
                            try clear c41
                            try clear c57
                            try clear p2
                            obtain ⟨x12_3, rfl, HA, HK3, HB⟩ := hrel
                            cases gk with
                            | zero => exact absurd HA.out (by simp [juratlaw10_PatsOrder.l0])
                            | succ k3 =>
                              have H := HA.out
                              clear HA
                              simp only [juratlaw10_PatsOrder.l0] at H
                              by_cases c58 : x12_3 < (l0.length : Int)
                              · rw [if_pos c58] at H
                                have c58b0 : decide (x12_3 < (l0.length : Int)) = true := decide_eq_true c58
                                clear c58
                                by_cases c59 : 0 ≤ x12_3
                                · rw [if_pos c59] at H
                                  have c59b0 : decide (0 ≤ x12_3) = true := decide_eq_true c59
                                  clear c59
                                  replace H := Option.bind_eq_some_iff.mp H
                                  obtain ⟨⟨t172, t173⟩, A600, H⟩ := H
                                  replace H : ((pats_Set_At.f t129 t172).bind fun bt174 => (if t173 = true then (if bt174.2 = true then (if bt174.1.toList = (rdOf ByteArray.empty l0 x12_3).toList then (juratlaw10_PatsOrder.l0 k3 l0 t129 (wrap64 (x12_3 + 1))) else (some false)) else (some false)) else (some false))) = some r := H
                                  have A60 := Aside0.mk A600
                                  clear A600
                                  replace H := Option.bind_eq_some_iff.mp H
                                  obtain ⟨⟨t174, t175⟩, A610, H⟩ := H
                                  replace H : (if t173 = true then (if t175 = true then (if t174.toList = (rdOf ByteArray.empty l0 x12_3).toList then (juratlaw10_PatsOrder.l0 k3 l0 t129 (wrap64 (x12_3 + 1))) else (some false)) else (some false)) else (some false)) = some r := H
                                  have A61 := Aside0.mk A610
                                  clear A610
                                  by_cases c62 : t173 = true
                                  · subst c62
                                    have H1 : (if t175 = true then (if t174.toList = (rdOf ByteArray.empty l0 x12_3).toList then (juratlaw10_PatsOrder.l0 k3 l0 t129 (wrap64 (x12_3 + 1))) else (some false)) else (some false)) = some r := by rw [if_pos rfl] at H; exact H
                                    clear H
                                    have H := H1
                                    clear H1
                                    by_cases c63 : t175 = true
                                    · subst c63
                                      have H1 : (if t174.toList = (rdOf ByteArray.empty l0 x12_3).toList then (juratlaw10_PatsOrder.l0 k3 l0 t129 (wrap64 (x12_3 + 1))) else (some false)) = some r := by rw [if_pos rfl] at H; exact H
                                      clear H
                                      have H := H1
                                      clear H1
                                      by_cases c64 : t174.toList = (rdOf ByteArray.empty l0 x12_3).toList
                                      · rw [if_pos c64] at H
                                        have c64b0 : (t174.toList == (rdOf ByteArray.empty l0 x12_3).toList) = true := beq_iff_eq.mpr c64
                                        have c64b1 : (t174.toList != (rdOf ByteArray.empty l0 x12_3).toList) = false := bne_eq_false_iff_eq.mpr c64
                                        clear c64
                                        have H' := Aside0.mk H
                                        clear H
                                        have p171 : 0 ≤ (x12_3 : Int) := of_decide_eq_true (by first | (with_reducible assumption) | assumption)
                                        have q171 : x12_3 < (l0.length : Int) := of_decide_eq_true (by first | (with_reducible assumption) | assumption)
                                        obtain ⟨ad171, e171, hx171_0⟩ := Kd.at_string HR0.out x12_3 p171 q171
                                        cases e171
                                        replace hx171_0 := (HB.out.cell (World.block_lt_of_cell? w _ hx171_0)).trans hx171_0
                                        replace p171 := eq_true p171
                                        replace q171 := eq_true q171
                                        go_wp2_with (first | ((with_reducible refine gate_callee (f := 11) rfl ?_); refine goesL_ (some 97) rfl rfl Try.func11 (by kernel_rfl) rfl #[.pointer Pt129, .string (rdOf ByteArray.empty l0 x12_3)] rfl (by (try simp only [List.map_toArray, List.map_cons, List.map_nil]); first | done | rfl | (simp only [List.length_drop, List.length_take]; rfl)) ?_; (with_reducible refine (pats_Set_Find.calls _ t129 (rdOf ByteArray.empty l0 x12_3) t172 true _ ?side1 A60.out).mono ?_); (case side1 => first | exact HO_t129.out | exact OB.drewN HO_t129.out _ | exact OB.below (by repeat (first | (with_reducible first | exact HB.out | apply below_alloc | apply pw_below_drewN | apply below_drew1) | exact HB.out)) HO_t129.out); rintro e w' ⟨rfl, ⟨nd, rfl⟩⟩; refine ⟨_, rfl, ?_⟩) | ((with_reducible refine gate_callee (f := 12) rfl ?_); refine goesL_ (some 103) rfl rfl Try.func12 (by kernel_rfl) rfl #[.pointer Pt129, .int .i64 t172] rfl (by (try simp only [List.map_toArray, List.map_cons, List.map_nil]); first | done | rfl | (simp only [List.length_drop, List.length_take]; rfl)) ?_; (with_reducible refine (pats_Set_At.calls _ t129 t172 t174 true _ ?side1 A61.out).mono ?_); (case side1 => first | exact HO_t129.out | exact OB.drewN HO_t129.out _ | exact OB.below (by repeat (first | (with_reducible first | exact HB.out | apply below_alloc | apply pw_below_drewN | apply below_drew1) | exact HB.out)) HO_t129.out); rintro e w' ⟨rfl, ⟨nd, rfl⟩⟩; refine ⟨_, rfl, ?_⟩; have p176 : 0 ≤ (x12_3 : Int) := of_decide_eq_true (by first | (with_reducible assumption) | assumption); have q176 : x12_3 < (l0.length : Int) := of_decide_eq_true (by first | (with_reducible assumption) | assumption); obtain ⟨ad176, e176, hx176_0⟩ := Kd.at_string HR0.out x12_3 p176 q176; obtain rfl : ad171 = ad176 := (by injection e176); replace hx176_0 := (HB.out.cell (World.block_lt_of_cell? w _ hx176_0)).trans hx176_0; replace p176 := eq_true p176; replace q176 := eq_true q176))
                                        go_roundg k3
                                        case measure => have := HJ5.out; have := HJ22.out; have := HK3.out; omega
                                        case rel => exact ⟨(wrap64 (x12_3 + 1)), (by first | rfl | exact isE_ _ | exact isE2_ _ | (simp; done) | (simp [*]; done)), H', ⟨by have := HJ5.out; have := HJ22.out; have := HK3.out; omega⟩, ⟨by repeat (first | (with_reducible first | exact HB.out | apply below_alloc | apply pw_below_drewN | apply below_drew1) | exact HB.out)⟩⟩
                                      · rw [if_neg c64] at H
                                        have c64b0 : (t174.toList == (rdOf ByteArray.empty l0 x12_3).toList) = false := beq_eq_false_iff_ne.mpr c64
                                        have c64b1 : (t174.toList != (rdOf ByteArray.empty l0 x12_3).toList) = true := bne_iff_ne.mpr c64
                                        obtain rfl := Option.some.inj H
                                        have p171 : 0 ≤ (x12_3 : Int) := of_decide_eq_true (by first | (with_reducible assumption) | assumption)
                                        have q171 : x12_3 < (l0.length : Int) := of_decide_eq_true (by first | (with_reducible assumption) | assumption)
                                        obtain ⟨ad171, e171, hx171_0⟩ := Kd.at_string HR0.out x12_3 p171 q171
                                        cases e171
                                        replace hx171_0 := (HB.out.cell (World.block_lt_of_cell? w _ hx171_0)).trans hx171_0
                                        replace p171 := eq_true p171
                                        replace q171 := eq_true q171
                                        go_wp2_with (first | ((with_reducible refine gate_callee (f := 11) rfl ?_); refine goesL_ (some 97) rfl rfl Try.func11 (by kernel_rfl) rfl #[.pointer Pt129, .string (rdOf ByteArray.empty l0 x12_3)] rfl (by (try simp only [List.map_toArray, List.map_cons, List.map_nil]); first | done | rfl | (simp only [List.length_drop, List.length_take]; rfl)) ?_; (with_reducible refine (pats_Set_Find.calls _ t129 (rdOf ByteArray.empty l0 x12_3) t172 true _ ?side1 A60.out).mono ?_); (case side1 => first | exact HO_t129.out | exact OB.drewN HO_t129.out _ | exact OB.below (by repeat (first | (with_reducible first | exact HB.out | apply below_alloc | apply pw_below_drewN | apply below_drew1) | exact HB.out)) HO_t129.out); rintro e w' ⟨rfl, ⟨nd, rfl⟩⟩; refine ⟨_, rfl, ?_⟩) | ((with_reducible refine gate_callee (f := 12) rfl ?_); refine goesL_ (some 103) rfl rfl Try.func12 (by kernel_rfl) rfl #[.pointer Pt129, .int .i64 t172] rfl (by (try simp only [List.map_toArray, List.map_cons, List.map_nil]); first | done | rfl | (simp only [List.length_drop, List.length_take]; rfl)) ?_; (with_reducible refine (pats_Set_At.calls _ t129 t172 t174 true _ ?side1 A61.out).mono ?_); (case side1 => first | exact HO_t129.out | exact OB.drewN HO_t129.out _ | exact OB.below (by repeat (first | (with_reducible first | exact HB.out | apply below_alloc | apply pw_below_drewN | apply below_drew1) | exact HB.out)) HO_t129.out); rintro e w' ⟨rfl, ⟨nd, rfl⟩⟩; refine ⟨_, rfl, ?_⟩; have p176 : 0 ≤ (x12_3 : Int) := of_decide_eq_true (by first | (with_reducible assumption) | assumption); have q176 : x12_3 < (l0.length : Int) := of_decide_eq_true (by first | (with_reducible assumption) | assumption); obtain ⟨ad176, e176, hx176_0⟩ := Kd.at_string HR0.out x12_3 p176 q176; obtain rfl : ad171 = ad176 := (by injection e176); replace hx176_0 := (HB.out.cell (World.block_lt_of_cell? w _ hx176_0)).trans hx176_0; replace p176 := eq_true p176; replace q176 := eq_true q176))
                                        go_ret
                                        exact ⟨by first | rfl | (simp [errW_none, errW_some] <;> rfl) | (simp only [← hji13]; first | rfl | (simp [errW_none, errW_some] <;> rfl)) | (simp [*, errW_none, errW_some] <;> rfl), by first | (refine HB00.out.trans (Below.mono ?_ HB00.out.size); (repeat (first | (with_reducible first | exact HB.out | apply below_alloc | apply pw_below_drewN | apply below_drew1) | exact HB.out))) | (repeat (first | (with_reducible first | exact HB.out | apply below_alloc | apply pw_below_drewN | apply below_drew1) | exact HB.out))⟩
                                    · replace c63 := Bool.eq_false_iff.mpr c63
                                      subst c63
                                      have H1 : (some false) = some r := by rw [if_neg (show ¬ (false = true) by decide)] at H; exact H
                                      clear H
                                      have H := H1
                                      clear H1
                                      obtain rfl := Option.some.inj H
                                      have p171 : 0 ≤ (x12_3 : Int) := of_decide_eq_true (by first | (with_reducible assumption) | assumption)
                                      have q171 : x12_3 < (l0.length : Int) := of_decide_eq_true (by first | (with_reducible assumption) | assumption)
                                      obtain ⟨ad171, e171, hx171_0⟩ := Kd.at_string HR0.out x12_3 p171 q171
                                      cases e171
                                      replace hx171_0 := (HB.out.cell (World.block_lt_of_cell? w _ hx171_0)).trans hx171_0
                                      replace p171 := eq_true p171
                                      replace q171 := eq_true q171
                                      go_wp2_with (first | ((with_reducible refine gate_callee (f := 11) rfl ?_); refine goesL_ (some 97) rfl rfl Try.func11 (by kernel_rfl) rfl #[.pointer Pt129, .string (rdOf ByteArray.empty l0 x12_3)] rfl (by (try simp only [List.map_toArray, List.map_cons, List.map_nil]); first | done | rfl | (simp only [List.length_drop, List.length_take]; rfl)) ?_; (with_reducible refine (pats_Set_Find.calls _ t129 (rdOf ByteArray.empty l0 x12_3) t172 true _ ?side1 A60.out).mono ?_); (case side1 => first | exact HO_t129.out | exact OB.drewN HO_t129.out _ | exact OB.below (by repeat (first | (with_reducible first | exact HB.out | apply below_alloc | apply pw_below_drewN | apply below_drew1) | exact HB.out)) HO_t129.out); rintro e w' ⟨rfl, ⟨nd, rfl⟩⟩; refine ⟨_, rfl, ?_⟩) | ((with_reducible refine gate_callee (f := 12) rfl ?_); refine goesL_ (some 103) rfl rfl Try.func12 (by kernel_rfl) rfl #[.pointer Pt129, .int .i64 t172] rfl (by (try simp only [List.map_toArray, List.map_cons, List.map_nil]); first | done | rfl | (simp only [List.length_drop, List.length_take]; rfl)) ?_; (with_reducible refine (pats_Set_At.calls _ t129 t172 t174 false _ ?side1 A61.out).mono ?_); (case side1 => first | exact HO_t129.out | exact OB.drewN HO_t129.out _ | exact OB.below (by repeat (first | (with_reducible first | exact HB.out | apply below_alloc | apply pw_below_drewN | apply below_drew1) | exact HB.out)) HO_t129.out); rintro e w' ⟨rfl, ⟨nd, rfl⟩⟩; refine ⟨_, rfl, ?_⟩))
                                      go_ret
                                      exact ⟨by first | rfl | (simp [errW_none, errW_some] <;> rfl) | (simp only [← hji13]; first | rfl | (simp [errW_none, errW_some] <;> rfl)) | (simp [*, errW_none, errW_some] <;> rfl), by first | (refine HB00.out.trans (Below.mono ?_ HB00.out.size); (repeat (first | (with_reducible first | exact HB.out | apply below_alloc | apply pw_below_drewN | apply below_drew1) | exact HB.out))) | (repeat (first | (with_reducible first | exact HB.out | apply below_alloc | apply pw_below_drewN | apply below_drew1) | exact HB.out))⟩
                                  · replace c62 := Bool.eq_false_iff.mpr c62
                                    subst c62
                                    have H1 : (some false) = some r := by rw [if_neg (show ¬ (false = true) by decide)] at H; exact H
                                    clear H
                                    have H := H1
                                    clear H1
                                    obtain rfl := Option.some.inj H
                                    have p171 : 0 ≤ (x12_3 : Int) := of_decide_eq_true (by first | (with_reducible assumption) | assumption)
                                    have q171 : x12_3 < (l0.length : Int) := of_decide_eq_true (by first | (with_reducible assumption) | assumption)
                                    obtain ⟨ad171, e171, hx171_0⟩ := Kd.at_string HR0.out x12_3 p171 q171
                                    cases e171
                                    replace hx171_0 := (HB.out.cell (World.block_lt_of_cell? w _ hx171_0)).trans hx171_0
                                    replace p171 := eq_true p171
                                    replace q171 := eq_true q171
                                    go_wp2_with (first | ((with_reducible refine gate_callee (f := 11) rfl ?_); refine goesL_ (some 97) rfl rfl Try.func11 (by kernel_rfl) rfl #[.pointer Pt129, .string (rdOf ByteArray.empty l0 x12_3)] rfl (by (try simp only [List.map_toArray, List.map_cons, List.map_nil]); first | done | rfl | (simp only [List.length_drop, List.length_take]; rfl)) ?_; (with_reducible refine (pats_Set_Find.calls _ t129 (rdOf ByteArray.empty l0 x12_3) t172 false _ ?side1 A60.out).mono ?_); (case side1 => first | exact HO_t129.out | exact OB.drewN HO_t129.out _ | exact OB.below (by repeat (first | (with_reducible first | exact HB.out | apply below_alloc | apply pw_below_drewN | apply below_drew1) | exact HB.out)) HO_t129.out); rintro e w' ⟨rfl, ⟨nd, rfl⟩⟩; refine ⟨_, rfl, ?_⟩) | ((with_reducible refine gate_callee (f := 12) rfl ?_); refine goesL_ (some 103) rfl rfl Try.func12 (by kernel_rfl) rfl #[.pointer Pt129, .int .i64 t172] rfl (by (try simp only [List.map_toArray, List.map_cons, List.map_nil]); first | done | rfl | (simp only [List.length_drop, List.length_take]; rfl)) ?_; (with_reducible refine (pats_Set_At.calls _ t129 t172 t174 t175 _ ?side1 A61.out).mono ?_); (case side1 => first | exact HO_t129.out | exact OB.drewN HO_t129.out _ | exact OB.below (by repeat (first | (with_reducible first | exact HB.out | apply below_alloc | apply pw_below_drewN | apply below_drew1) | exact HB.out)) HO_t129.out); rintro e w' ⟨rfl, ⟨nd, rfl⟩⟩; refine ⟨_, rfl, ?_⟩))
                                    go_ret
                                    exact ⟨by first | rfl | (simp [errW_none, errW_some] <;> rfl) | (simp only [← hji13]; first | rfl | (simp [errW_none, errW_some] <;> rfl)) | (simp [*, errW_none, errW_some] <;> rfl), by first | (refine HB00.out.trans (Below.mono ?_ HB00.out.size); (repeat (first | (with_reducible first | exact HB.out | apply below_alloc | apply pw_below_drewN | apply below_drew1) | exact HB.out))) | (repeat (first | (with_reducible first | exact HB.out | apply below_alloc | apply pw_below_drewN | apply below_drew1) | exact HB.out))⟩
                                · rw [if_neg c59] at H
                                  exact absurd H (by simp)
                              · rw [if_neg c58] at H
                                have c58b0 : decide (x12_3 < (l0.length : Int)) = false := decide_eq_false c58
                                clear c58
                                replace H := Option.bind_eq_some_iff.mp H
                                obtain ⟨t169, A650, H⟩ := H
                                replace H : (if t169 = (l0.length : Int) then ((juratlaw10_awake.f).bind fun t170 => (some t170)) else (some false)) = some r := H
                                have A65 := Aside0.mk A650
                                clear A650
                                by_cases c66 : t169 = (l0.length : Int)
                                · rw [if_pos c66] at H
                                  have c66b0 : (t169 == (l0.length : Int)) = true := beq_iff_eq.mpr c66
                                  have c66b1 : (t169 != (l0.length : Int)) = false := bne_eq_false_iff_eq.mpr c66
                                  clear c66
                                  replace H := Option.bind_eq_some_iff.mp H
                                  obtain ⟨t170, A670, H⟩ := H
                                  replace H : (some t170) = some r := H
                                  have A67 := Aside0.mk A670
                                  clear A670
                                  obtain rfl := Option.some.inj H
                                  go_wp2_with (first | ((with_reducible refine gate_callee (f := 13) rfl ?_); refine goesL_ (some 121) rfl rfl Try.func13 (by kernel_rfl) rfl #[.pointer Pt129] rfl (by (try simp only [List.map_toArray, List.map_cons, List.map_nil]); first | done | rfl | (simp only [List.length_drop, List.length_take]; rfl)) ?_; (with_reducible refine (pats_Set_Len.calls _ t129 t169 _ ?side1 A65.out).mono ?_); (case side1 => first | exact HO_t129.out | exact OB.drewN HO_t129.out _ | exact OB.below (by repeat (first | (with_reducible first | exact HB.out | apply below_alloc | apply pw_below_drewN | apply below_drew1) | exact HB.out)) HO_t129.out); rintro e w' ⟨rfl, ⟨nd, rfl⟩⟩; refine ⟨_, rfl, ?_⟩) | (go_at_call 7; (with_reducible refine (juratlaw10_awake.calls  t170 _ A67.out).mono ?_); rintro e w68 ⟨rfl, hb⟩; have n0_ := Aside0.mk (below_step (by repeat (first | (with_reducible first | exact HB.out | apply below_alloc | apply pw_below_drewN | apply below_drew1) | exact HB.out)) hb); clear HB; have HB := n0_; clear n0_; (try clear hb); (try clear hb2); (try clear hk); (try clear hi)))
                                  go_ret
                                  exact ⟨by first | rfl | (simp [errW_none, errW_some] <;> rfl) | (simp only [← hji13]; first | rfl | (simp [errW_none, errW_some] <;> rfl)) | (simp [*, errW_none, errW_some] <;> rfl), by first | (refine HB00.out.trans (Below.mono ?_ HB00.out.size); (repeat (first | (with_reducible first | exact HB.out | apply below_alloc | apply pw_below_drewN | apply below_drew1) | exact HB.out))) | (repeat (first | (with_reducible first | exact HB.out | apply below_alloc | apply pw_below_drewN | apply below_drew1) | exact HB.out))⟩
                                · rw [if_neg c66] at H
                                  have c66b0 : (t169 == (l0.length : Int)) = false := beq_eq_false_iff_ne.mpr c66
                                  have c66b1 : (t169 != (l0.length : Int)) = true := bne_iff_ne.mpr c66
                                  obtain rfl := Option.some.inj H
                                  go_wp2_with (first | ((with_reducible refine gate_callee (f := 13) rfl ?_); refine goesL_ (some 121) rfl rfl Try.func13 (by kernel_rfl) rfl #[.pointer Pt129] rfl (by (try simp only [List.map_toArray, List.map_cons, List.map_nil]); first | done | rfl | (simp only [List.length_drop, List.length_take]; rfl)) ?_; (with_reducible refine (pats_Set_Len.calls _ t129 t169 _ ?side1 A65.out).mono ?_); (case side1 => first | exact HO_t129.out | exact OB.drewN HO_t129.out _ | exact OB.below (by repeat (first | (with_reducible first | exact HB.out | apply below_alloc | apply pw_below_drewN | apply below_drew1) | exact HB.out)) HO_t129.out); rintro e w' ⟨rfl, ⟨nd, rfl⟩⟩; refine ⟨_, rfl, ?_⟩))
                                  go_ret
                                  exact ⟨by first | rfl | (simp [errW_none, errW_some] <;> rfl) | (simp only [← hji13]; first | rfl | (simp [errW_none, errW_some] <;> rfl)) | (simp [*, errW_none, errW_some] <;> rfl), by first | (refine HB00.out.trans (Below.mono ?_ HB00.out.size); (repeat (first | (with_reducible first | exact HB.out | apply below_alloc | apply pw_below_drewN | apply below_drew1) | exact HB.out))) | (repeat (first | (with_reducible first | exact HB.out | apply below_alloc | apply pw_below_drewN | apply below_drew1) | exact HB.out))⟩
                  · rw [if_neg c19] at H
                    exact absurd H (by simp)
                · rw [if_neg c16] at H
                  exact absurd H (by simp)
              · rw [if_neg c15] at H
                exact absurd H (by simp)
            · rw [if_neg c14] at H
              exact absurd H (by simp)
  · replace c4 := Bool.eq_false_iff.mpr c4
    subst c4
    have H1 : ((juratlaw10_awake.f).bind fun t128 => (some t128)) = some r := by rw [if_neg (show ¬ (false = true) by decide)] at H; exact H
    clear H
    have H := H1
    clear H1
    replace H := Option.bind_eq_some_iff.mp H
    obtain ⟨t128, A690, H⟩ := H
    replace H : (some t128) = some r := H
    have A69 := Aside0.mk A690
    clear A690
    obtain rfl := Option.some.inj H
    go_enter Try.func3, Try.ntmps3
    go_wp2_with (first | ((with_reducible refine gate_callee (f := 6) rfl ?_); refine goesL_ (some 18) rfl rfl Try.func6 (by kernel_rfl) rfl #[.slice A0 l0.length c0, .int .i64 20, .int .i64 50] rfl (by (try simp only [List.map_toArray, List.map_cons, List.map_nil]); first | done | rfl | (simp only [List.length_drop, List.length_take]; rfl)) ?_; (with_reducible refine (juratref09_Few.calls k _ _ l0 20 50 false _ ?side1 ?side2 A3.out).mono ?_); (case side1 => repeat (first | exact HR0.out | (with_reducible refine Kd.C_alloc ?_ _) | (with_reducible refine Kd.C_drewN ?_ _) | (with_reducible refine Kd.C_drew ?_))); (case side2 => exact HC0.out); rintro e w' ⟨rfl, ⟨nd, rfl⟩⟩; refine ⟨_, rfl, ?_⟩) | ((with_reducible refine gate_callee (f := 7) rfl ?_); refine goesL_ (some 20) rfl rfl Try.func7 (by kernel_rfl) rfl #[] rfl (by (try simp only [List.map_toArray, List.map_cons, List.map_nil]); first | done | rfl | (simp only [List.length_drop, List.length_take]; rfl)) ?_; (with_reducible refine (juratlaw10_awake.calls  t128 _ A69.out).mono ?_); rintro e w70 ⟨rfl, hb⟩; refine ⟨_, rfl, ?_⟩; have n0_ := Aside0.mk (below_step (by repeat (first | (with_reducible first | exact HB.out | apply below_alloc | apply pw_below_drewN | apply below_drew1) | exact HB.out)) hb); clear HB; have HB := n0_; clear n0_; (try clear hb); (try clear hb2); (try clear hk); (try clear hi)))
    go_ret
    exact ⟨by first | rfl | (simp [errW_none, errW_some] <;> rfl) | (simp [*, errW_none, errW_some] <;> rfl), by first | (refine HB00.out.trans (Below.mono ?_ HB00.out.size); (repeat (first | (with_reducible first | exact HB.out | apply below_alloc | apply pw_below_drewN | apply below_drew1) | exact HB.out))) | (repeat (first | (with_reducible first | exact HB.out | apply below_alloc | apply pw_below_drewN | apply below_drew1) | exact HB.out))⟩

end Go.Proofs.Ytkdfbepdpcdehaa.P

/- Sets of the same patterns are one, in whatever order these come; a pattern is found by its number; no condition beyond the sizes that stand in each statement. -/
namespace Go.Proofs.Ytkdfbepdpcdehaa.Base
open Go Go.RowKit Go.Proofs.YtkdfbepdpcdehaaW.PrintWords Go.Proofs.YtkdfbepdpcdehaaW.PrintLast Go.Proofs.YtkdfbepdpcdehaaW.PrintMore Go.Proofs.Ytkdfbepdpcdehaa.P
set_option linter.unusedVariables false

theorem twB_iff : ∀ (l seen : List ByteArray) (i : Nat), twB seen l i < 0 ↔ (l.Nodup ∧ ∀ x ∈ l, ¬ inB x seen = true)
  | [], seen, i => by simp [twB]
  | x :: l, seen, i => by
    simp only [twB]
    by_cases h : inB x seen = true
    · rw [if_pos h]
      constructor
      · intro h'; omega
      · rintro ⟨_, h'⟩; exact absurd h (h' x List.mem_cons_self)
    · rw [if_neg h, twB_iff l (seen ++ [x]) (i + 1), List.nodup_cons]
      constructor
      · rintro ⟨h1, h2⟩
        refine ⟨⟨fun hx => ?_, h1⟩, fun y hy => ?_⟩
        · have := h2 x hx
          rw [inB_snoc] at this
          simp at this
        · rcases List.mem_cons.1 hy with rfl | hy
          · exact h
          · have := h2 y hy
            rw [inB_snoc] at this
            intro h3
            rw [h3] at this
            simp at this
      · rintro ⟨⟨h1, h2⟩, h3⟩
        refine ⟨h2, fun y hy => ?_⟩
        rw [inB_snoc]
        intro h4
        rcases Bool.or_eq_true_iff.1 h4 with h4 | h4
        · exact h3 y (List.mem_cons_of_mem _ hy) h4
        · exact h1 (by rw [of_decide_eq_true h4]; exact hy)
theorem nodup_of_tw {l : List ByteArray} (h : twB [] l 0 < 0) : l.Nodup := ((twB_iff l [] 0).1 h).1
theorem tw_of_nodup {l : List ByteArray} (h : l.Nodup) : twB [] l 0 < 0 := (twB_iff l [] 0).2 ⟨h, fun x _ => by simp [inB]⟩
theorem badB_iff : ∀ (l : List ByteArray), badB l = 0 ↔ ∀ s ∈ l, chkB s = 0
  | [] => by simp [badB]
  | s :: l => by
    simp only [badB]
    by_cases h : chkB s = 0
    · rw [if_pos h, badB_iff l]
      simp [h]
    · rw [if_neg h]
      simp [h]
theorem setB_perm {l m : List ByteArray} (h : l.Perm m) (h0 : 0 < l.length) : setB l = setB m := by
  have e : sortB l = sortB m := sortB_of ((sortB_perm l).trans h) (sortB_up l)
  unfold setB
  rw [e, min_perm h h0, most_perm h, total_perm h]
/-- Texts that make a set make it in any order. -/
theorem new_perm {l m : List ByteArray} (h : l.Perm m) (hp : 0 < l.length) (h1 : l.length ≤ 65535) (h2 : badB l = 0) (h3 : totalB 0 l ≤ 16777216) (h4 : twB [] l 0 < 0) :
    pats_New.f m = some (some (setB l), 0) := by
  have e := h.length_eq
  rcases new_cases m with ⟨c, hc, hn, hw⟩ | ⟨hn, _⟩
  · exfalso
    unfold pats_New.f at hn
    have b2 : badB m = 0 := (badB_iff m).2 fun s hs => (badB_iff l).1 h2 s (h.mem_iff.2 hs)
    have b4 := tw_of_nodup ((h.nodup_iff).1 (nodup_of_tw h4))
    rw [if_neg (by omega), if_neg (by omega), if_neg (by rw [b2]; simp), if_neg (by rw [← total_perm h]; omega), if_neg (by omega)] at hn
    have := (Prod.mk.inj (Option.some.inj hn)).1
    cases this
  · rw [hn, setB_perm h hp]
theorem findB_mem (s : ByteArray) : ∀ (l : List ByteArray) (i : Nat), s ∈ l → ∃ n, findB s l i = ((i + n : Nat) : Int) ∧ n < l.length ∧ l.getD n ByteArray.empty = s
  | [], i, h => by cases h
  | x :: l, i, h => by
    have ef : findB s (x :: l) i = if x = s then (i : Int) else findB s l (i + 1) := rfl
    rw [ef]
    by_cases hx : x = s
    · rw [if_pos hx]
      exact ⟨0, rfl, by simp, by simpa using hx⟩
    · rw [if_neg hx]
      rcases List.mem_cons.1 h with rfl | h
      · exact absurd rfl hx
      · obtain ⟨n, h1, h2, h3⟩ := findB_mem s l (i + 1) h
        exact ⟨n + 1, by rw [h1]; congr 1; omega, by rw [List.length_cons]; omega, by rw [List.getD_cons_succ]; exact h3⟩
theorem list_is (l : List ByteArray) (h : l.length ≤ 65535) : pats_Set_List.f (some (setB l)) = some (sortB l) := by
  show (if (sortB l).length ≤ 8796093022208 then some (sortB l) else none) = _
  rw [if_pos (by rw [sortB_length]; omega)]
theorem bits_and_mask (x : Int) (m : Nat) (hm : m < 9223372036854775808) : 0 ≤ Go.bits .and .i64 x (m : Int) ∧ Go.bits .and .i64 x (m : Int) ≤ m := by
  have h : Go.bits .and .i64 x (m : Int) = IntKind.i64.wrap (((BitVec.ofInt 64 x &&& BitVec.ofInt 64 (m : Int)).toNat : Int)) := rfl
  have h2 : (BitVec.ofInt 64 x &&& BitVec.ofInt 64 (m : Int)).toNat ≤ m := by
    rw [BitVec.toNat_and]
    refine Nat.le_trans Nat.and_le_right ?_
    rw [BitVec.toNat_ofInt]
    omega
  rw [h, i64_w, wrap_id (by omega) (by omega)]
  omega

end Go.Proofs.Ytkdfbepdpcdehaa.Base

/- Proved: for all texts and every number the law PatsOrder of layer 10 answers true. No condition beyond the statement's own. -/
namespace Go.Proofs.Ytkdfbepdpcdehaa.Pure
open Go Go.RowKit Go.Proofs.Ytkdfbepdpcdehaa.P Go.Proofs.YtkdfbepdpcdehaaW.PrintWords Go.Proofs.YtkdfbepdpcdehaaW.PrintLast Go.Proofs.Ytkdfbepdpcdehaa.Base
set_option linter.unusedVariables false

theorem order_l0 (l : List ByteArray) (hs : sizedB l) (hl : l.length ≤ 65535) : ∀ (d i : Nat), i + d = l.length →
    Ev (fun k => juratlaw10_PatsOrder.l0 k l (some (setB l)) (i : Int)) true := by
  intro d
  induction d with
  | zero =>
    intro i hi
    refine Ev.ret fun k => ?_
    have e : pats_Set_Len.f (some (setB l)) = some (l.length : Int) := by
      show some (((sortB l).length : Nat) : Int) = _
      rw [sortB_length]
    simp only [juratlaw10_PatsOrder.l0]
    rw [if_neg (by omega), e]
    simp only [Option.bind_some]
    rw [if_pos trivial, awake10]
    rfl
  | succ d ih =>
    intro i hi
    refine Ev.step (f := fun k => juratlaw10_PatsOrder.l0 k l (some (setB l)) ((i + 1 : Nat) : Int)) (fun k => ?_) (ih (i + 1) (by omega))
    have e : rdOf ByteArray.empty l (i : Int) = l.getD i ByteArray.empty := rfl
    have hm := getD_mem l i ByteArray.empty (by omega)
    obtain ⟨n, h1, h2, h3⟩ := findB_mem (l.getD i ByteArray.empty) (sortB l) 0 ((sortB_perm l).mem_iff.2 hm)
    rw [Nat.zero_add] at h1
    have hf := find_is l (l.getD i ByteArray.empty) hs
    rw [h1, if_pos (by omega)] at hf
    have ha : pats_Set_At.f (some (setB l)) (n : Int) = some (l.getD i ByteArray.empty, true) := by
      show some (if 0 ≤ (n : Int) ∧ (n : Int) < ((sortB l).length : Int) then ((sortB l).getD (n : Int).toNat ByteArray.empty, true) else (⟨#[]⟩, false)) = _
      rw [if_pos ⟨by omega, by omega⟩, Int.toNat_natCast, h3]
    simp only [juratlaw10_PatsOrder.l0]
    rw [if_pos (by omega), if_pos (by omega), e, hf]
    simp only [Option.bind_some]
    rw [ha]
    simp only [Option.bind_some]
    rw [if_pos trivial, if_pos trivial, if_pos trivial, wrap_id (by omega) (by omega)]
    rfl

theorem PatsOrder (l : List ByteArray) (i : Int) (hl : l.length * 16 ≤ 140737488351232) (_ : ∀ x ∈ l, x.size ≤ maxLen) (_ : (Lit.int .i64 i).wf = true) : ∃ k, juratlaw10_PatsOrder.f k l i = some true := by
  refine Ev.rounds ?_
  unfold juratlaw10_PatsOrder.f
  refine Ev.bind (few_ev l 20 50 (by omega)) ?_
  by_cases h1 : (decide ((l.length : Int) ≤ 20) && fewB l 50) = true
  rotate_left
  · refine Ev.congr (fun k => if_neg h1) ?_
    refine Ev.const fun k => ?_
    rw [awake10]
    rfl
  refine Ev.congr (fun k => if_pos h1) ?_
  obtain ⟨h3, h4⟩ := Bool.and_eq_true_iff.1 h1
  have h3 := of_decide_eq_true h3
  have h4 := fewB_iff.1 h4
  have hs : sizedB l := ⟨by omega, fun x hx => by have := h4 x hx; omega⟩
  rcases new_cases l with ⟨e, he, hn, hw⟩ | ⟨hn, hw, hp, h5, hb, ht, hd⟩
  · refine Ev.bind (Ev.const fun _ => hn) ?_
    refine Ev.congr (fun k => if_neg he) ?_
    refine Ev.ret fun k => ?_
    simp only [juratlaw10_PatsOrder.j0]
    rw [if_pos trivial, if_pos (show (none : Option SetD).isNone = true from rfl), awake10]
    rfl
  · refine Ev.bind (Ev.const fun _ => hn) ?_
    refine Ev.congr (fun k => if_pos rfl) ?_
    obtain ⟨b0, b1⟩ := bits_and_mask i 1023 (by decide)
    have t0 : 0 ≤ Int.tmod (Go.bits .and .i64 i 1023) (l.length : Int) := Int.tmod_nonneg _ b0
    have t1 : Int.tmod (Go.bits .and .i64 i 1023) (l.length : Int) < (l.length : Int) := Int.tmod_lt_of_pos _ (by omega)
    obtain ⟨t, ht0⟩ : ∃ t : Nat, Int.tmod (Go.bits .and .i64 i 1023) (l.length : Int) = (t : Int) := ⟨_, (Int.toNat_of_nonneg t0).symm⟩
    have hperm : l.Perm ([] ++ l.drop t ++ l.take t) := by
      rw [List.nil_append]
      refine List.Perm.trans ?_ List.perm_append_comm
      rw [List.take_append_drop]
    have hn1 := new_perm hperm hp h5 hb ht hd
    have hn2 := new_perm (sortB_perm l).symm hp h5 hb ht hd
    have hli := list_is l h5
    refine Ev.step (f := fun k => (juratref05_Same.f k (sortB l) (sortB l)).bind fun t161 => if t161 = true then ((juratref05_Same.f k (sortB l) (sortB l)).bind fun t168 => (juratlaw10_PatsOrder.j1 k l (some (setB l)) (!t168))) else (juratlaw10_PatsOrder.j1 k l (some (setB l)) true)) (fun k => ?_) ?_
    · simp only [juratlaw10_PatsOrder.j0]
      rw [if_neg (by rw [beq_iff_eq]; omega), if_neg (by omega), ht0]
      simp only [Option.bind_some, Int.toNat_natCast]
      rw [ht0] at t0 t1
      rw [if_pos t0, if_pos (by omega), if_pos (by simp; omega), if_pos (by simp; omega), hn1]
      simp only [Option.bind_some]
      rw [hli]
      simp only [Option.bind_some]
      rw [hn2]
      simp only [Option.bind_some]
      rw [if_pos trivial, if_pos trivial, hli]
      rfl
    have e1 := same5 (sortB l) (sortB l) (by rw [sortB_length]; omega)
    rw [decide_eq_true rfl] at e1
    refine Ev.bind e1 ?_
    refine Ev.congr (fun k => if_pos rfl) ?_
    refine Ev.bind e1 ?_
    refine Ev.step (f := fun k => juratlaw10_PatsOrder.l0 k l (some (setB l)) ((0 : Nat) : Int)) (fun k => ?_) (order_l0 l hs h5 l.length 0 (by omega))
    simp only [juratlaw10_PatsOrder.j1]
    rw [if_neg (by simp)]
    rfl

end Go.Proofs.Ytkdfbepdpcdehaa.Pure

/- The row of the law PatsOrder, out of its plain statement and the walk; written for this claim by a program of this session (wip/mkrow.py). -/
namespace Go.Proofs.Ytkdfbepdpcdehaa.patsOrder
open Go.ChangeShapes Go.WideShapes Go.ChangeAt Go.RowKit
open Go.ChangeMaps (open_string shut_string)
set_option linter.unusedVariables false
theorem own : ownKnob Try.prog.godebug = none := by kernel_rfl
theorem laidOut : laidOutB Try.prog = true := by kernel_rfl
set_option maxRecDepth 100000 in
theorem lifted (os : Os) (started : os.Started) (H : Type) (enc : TypeId × Value → H) :
    ReturnsInHanded {} Try.checked os 3 .any (Rows.patsOrderSpec.pre6 enc Try.prog Try.f3 Rows.patsOrderRow.domain false) (Rows.patsOrderSpec.post enc Try.prog Try.f3 false true false false) := by
  refine returnsInHanded_of_change_sized (C := Try.checked) own started (by kernel_rfl) Try.func3
    (ChangeSpec.witness6 (enc := enc) (C := Try.checked) false ⟨#[], #[.slice none 0 0, .int .i64 0], []⟩ 8 (by kernel_rfl) (by kernel_rfl) (by kernel_rfl) (by kernel_rfl)) ?_
  intro W base args ds gs before hval0 hW hcnd hsz0 _
  have hsz : (DataW.weightsEach Try.prog (Try.f3.params.toList ++ Rows.patsOrderSpec.plain.varTypes Try.prog) (ds ++ gs)).all (· ≤ reachBytes) = true := hsz0
  have hval : ∀ (j : Nat) t v, Try.f3.params[j]? = some t → args[j]? = some v → Value.okWide Try.prog W .any base t v := hval0
  have hW' := hW
  obtain ⟨p, q, hA0, hV, rfl, hfz, hnd⟩ := hW
  have hA : DataW.TrodAll enc Try.prog W 0 (fun _ => true) true Try.f3.params.toList args.toList ds p := hA0
  rw [Try.params3] at hA hval hsz
  obtain ⟨v0, vs0, d0, ds0, p0, q0, hargs, rfl, rfl, h0, r0⟩ := trodAll_cons hA
  obtain ⟨v1, vs1, d1, ds1, p1, q1, rfl, rfl, rfl, h1, r1⟩ := trodAll_cons r0
  obtain ⟨rfl, rfl, rfl⟩ := trodAll_nil r1
  obtain rfl : args = #[v0, v1] := by cases args; simp_all
  obtain ⟨rfl, rfl⟩ := trodVars_none hV
  obtain ⟨a0, len0, cap0, rfl⟩ := okWide_slice Try.underlying22 (hval 0 22 v0 rfl rfl)
  have k0 := h0
  have lt0 : ∀ x ∈ p0, x.block < W.heap.size := by obtain ⟨m, hm⟩ := k0; exact DataW.trod_lt m _ _ _ hm
  obtain ⟨l0, hn0, hc0, hr0, y0, w0⟩ := RowS.slice_strings hsz (j := 0) (t := 22) rfl rfl Try.underlying22 Try.underlying9 (by kernel_rfl) (by kernel_rfl) h0
  subst hn0
  obtain ⟨a1, rfl, rfl, rfl, w1⟩ := open_int Try.underlying3 (hval 1 3 v1 rfl rfl) h1
  clear hA0 hval0 hsz0 hsz
  obtain ⟨k, hk⟩ := Pure.PatsOrder l0 a1 y0 w0 w1
  refine (P.juratlaw10_PatsOrder.calls k a0 cap0 l0 a1 true W hr0 hc0 hk).mono fun e W' ⟨he, bel⟩ => ?_
  subst he
  exact ⟨_, rfl, _, _, _, [], _, [], hW', trodAll_mk1 (shut_bool Try.underlying4 _), (trodAll_cons_mk (Below.trod laidOut (by kernel_rfl) (of_decide_eq_true (by kernel_rfl)) k0 bel lt0) (trodAll_cons_mk (shut_int Try.underlying3 w1) trodAll_mk0)), rfl, bel.frame _, fun h => by cases h⟩
theorem over : Rows.patsOrderRow.holds Try.pinned (OpenSpec.ofChange Rows.patsOrderSpec) :=
  OpenClaim.holds_of_wide 3 Try.f3 rfl rfl rfl rfl rfl rfl rfl ⟨rfl, rfl, rfl, rfl, rfl⟩ rfl rfl rfl rfl rfl (by kernel_rfl) Try.func3 (by kernel_rfl)
    (of_decide_eq_true (by kernel_rfl)) (by unfold Func.isWrapper; first | (rw [if_pos (by decide +kernel)]; kernel_rfl) | (rw [if_neg (by decide +kernel)]; exact ⟨rfl, rfl⟩))
    (fun os started H enc _ => lifted os started H enc)
theorem proved : Rows.PatsOrderSaid := over
#print axioms proved
end Go.Proofs.Ytkdfbepdpcdehaa.patsOrder
namespace Go.Proofs.Ytkdfbepdpcdehaa
/-- The row, under a short name, for the claim. -/
theorem patsOrder_holds : Rows.PatsOrderSaid := patsOrder.proved
end Go.Proofs.Ytkdfbepdpcdehaa
