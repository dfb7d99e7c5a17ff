/- Proved here: what Go functions of this seat compute, or a law of it; no condition beyond the statement's own. Written for this claim by a program of this session (wip/myprint.py) over the kit's print.py. -/
import Derived.Test.YtkdfbepdpcdehaaPx0
import Derived.Test.YtkdfbepdpcdehaaPx7
import Derived.Test.YtkdfbepdpcdehaaH10
import Derived.Test.YtkdfbepdpcdehaaH10a
import Derived.Test.YtkdfbepdpcdehaaH10b
namespace Go.Proofs.Ytkdfbepdpcdehaa.P
open Go.RowKit Go.Proofs.YtkdfbepdpcdehaaW.PrintWords Go.Proofs.YtkdfbepdpcdehaaW.PrintLast Go.Proofs.YtkdfbepdpcdehaaW.PrintMore
attribute [local go_sem] max2_int min2_int max_two min_two max_three min_three max_four min_four   -- for this text's walks alone
set_option linter.unusedVariables false
set_option linter.unusedSimpArgs false

/-! ### juratlaw10_PatsLong: function 5 -/
def juratlaw10_PatsLong.j0 : Nat → Int → Bool → Option (Bool)
  | 0, _, _ => none
  | k + 1, x0, x67 => if x67 = true then (some false) else (if 0 ≤ (wrap64 (65533 + (Go.bits .and .i64 x0 3))) then (if (wrap64 (65533 + (Go.bits .and .i64 x0 3)) : Int).toNat ≤ 281474976710656 then ((pats_New.f (([strOfNums (List.replicate (wrap64 (65533 + (Go.bits .and .i64 x0 3)) : Int).toNat 0)] : List ByteArray))).bind fun bt286 => (if (wrap64 (65533 + (Go.bits .and .i64 x0 3))) > 65535 then (if bt286.1.isNone = true then (if bt286.2 = 5 then ((juratlaw10_awake.f).bind fun t291 => (some t291)) else (some false)) else (some false)) else (if bt286.2 = 0 then ((pats_Set_Most.f bt286.1).bind fun t292 => (if t292 = (wrap64 (65533 + (Go.bits .and .i64 x0 3))) then ((pats_Set_Total.f bt286.1).bind fun t293 => (if t293 = (wrap64 (65533 + (Go.bits .and .i64 x0 3))) then ((juratlaw10_awake.f).bind fun t294 => (some t294)) else (some false))) else (some false))) else (some false)))) else (none)) else (none))
def juratlaw10_PatsLong.f (k : Nat) (a0 : Int) (a1 : Int) (a2 : ByteArray) : Option (Bool) := if (a2.size : Int) > 50 then ((juratlaw10_awake.f).bind fun t268 => (some t268)) else ((pats_Set_At.f none a1).bind fun bt269 => ((pats_Set_Find.f none a2).bind fun bt271 => (if bt269.1.toList = ([] : List UInt8) then (if bt269.2 = true then (juratlaw10_PatsLong.j0 k a0 true) else (if bt271.1 = 0 then (if bt271.2 = true then (juratlaw10_PatsLong.j0 k a0 true) else ((pats_Set_Len.f none).bind fun t273 => (if t273 = 0 then ((pats_Set_Least.f none).bind fun t274 => (if t274 = 0 then ((pats_Set_Most.f none).bind fun t275 => (if t275 = 0 then ((pats_Set_Total.f none).bind fun t276 => (if t276 = 0 then ((pats_Set_List.f none).bind fun t277 => (juratlaw10_PatsLong.j0 k a0 (decide ((t277.length : Int) > 0)))) else (juratlaw10_PatsLong.j0 k a0 true))) else (juratlaw10_PatsLong.j0 k a0 true))) else (juratlaw10_PatsLong.j0 k a0 true))) else (juratlaw10_PatsLong.j0 k a0 true)))) else (juratlaw10_PatsLong.j0 k a0 true))) else (juratlaw10_PatsLong.j0 k a0 true))))
theorem juratlaw10_PatsLong.mono_l : ∀ k, (∀ y0 y1, LeO (juratlaw10_PatsLong.j0 k y0 y1) (juratlaw10_PatsLong.j0 (k + 1) y0 y1))
  | 0 => fun _ _ r h => by simp [juratlaw10_PatsLong.j0] at h
  | k + 1 => by
    have ih0 := juratlaw10_PatsLong.mono_l k
    · intro y0 y1
      unfold juratlaw10_PatsLong.j0
      repeat' first
      | (with_reducible exact ih0 _ _)
      | (with_reducible exact LeO.refl _)
      | (with_reducible exact LeO.none _)
      | (with_reducible refine LeO.ite ?_ ?_)
      | (with_reducible refine LeO.bind ?_ (fun _ => ?_))
      | exact ih0 _ _
      | exact LeO.none _
      | refine LeO.ite ?_ ?_
      | refine LeO.bind ?_ (fun _ => ?_)
theorem juratlaw10_PatsLong.mono : ∀ a0 a1 a2 k, LeO (juratlaw10_PatsLong.f k a0 a1 a2) (juratlaw10_PatsLong.f (k + 1) a0 a1 a2) := by
  intro a0 a1 a2 k
  have ih0 := juratlaw10_PatsLong.mono_l k
  unfold juratlaw10_PatsLong.f
  repeat' first
      | (with_reducible exact ih0 _ _)
      | (with_reducible exact LeO.refl _)
      | (with_reducible exact LeO.none _)
      | (with_reducible refine LeO.ite ?_ ?_)
      | (with_reducible refine LeO.bind ?_ (fun _ => ?_))
      | exact ih0 _ _
      | exact LeO.none _
      | refine LeO.ite ?_ ?_
      | refine LeO.bind ?_ (fun _ => ?_)
set_option maxHeartbeats 8000000 in
set_option maxRecDepth 100000 in
theorem juratlaw10_PatsLong.calls (k : Nat) (a0 : Int) (a1 : Int) (a2 : ByteArray) (r : Bool) (w : World) (h : juratlaw10_PatsLong.f k a0 a1 a2 = some r) :
    Calls Try.prog 5 #[.int .i64 a0, .int .i64 a1, .string a2] w fun e w' => e = .returned (.bool r) ∧ Below w.heap.size w w' := by
  have HB := Aside0.mk (Below.refl w.heap.size w)
  have H : (if (a2.size : Int) > 50 then ((juratlaw10_awake.f).bind fun t268 => (some t268)) else ((pats_Set_At.f none a1).bind fun bt269 => ((pats_Set_Find.f none a2).bind fun bt271 => (if bt269.1.toList = ([] : List UInt8) then (if bt269.2 = true then (juratlaw10_PatsLong.j0 k a0 true) else (if bt271.1 = 0 then (if bt271.2 = true then (juratlaw10_PatsLong.j0 k a0 true) else ((pats_Set_Len.f none).bind fun t273 => (if t273 = 0 then ((pats_Set_Least.f none).bind fun t274 => (if t274 = 0 then ((pats_Set_Most.f none).bind fun t275 => (if t275 = 0 then ((pats_Set_Total.f none).bind fun t276 => (if t276 = 0 then ((pats_Set_List.f none).bind fun t277 => (juratlaw10_PatsLong.j0 k a0 (decide ((t277.length : Int) > 0)))) else (juratlaw10_PatsLong.j0 k a0 true))) else (juratlaw10_PatsLong.j0 k a0 true))) else (juratlaw10_PatsLong.j0 k a0 true))) else (juratlaw10_PatsLong.j0 k a0 true)))) else (juratlaw10_PatsLong.j0 k a0 true))) else (juratlaw10_PatsLong.j0 k a0 true))))) = some r := h
  clear h
  by_cases c4 : (a2.size : Int) > 50
  · rw [if_pos c4] at H
    have c4b0 : decide (50 < (a2.size : Int)) = true := decide_eq_true c4
    have c4b1 : decide (50 < a2.size) = true := decide_eq_true (by omega)
    clear c4
    replace H := Option.bind_eq_some_iff.mp H
    obtain ⟨t268, A50, H⟩ := H
    replace H : (some t268) = some r := H
    have A5 := Aside0.mk A50
    clear A50
    obtain rfl := Option.some.inj H
    go_enter Try.func5, Try.ntmps5
    go_wp2_with (first | ((with_reducible refine gate_callee (f := 7) rfl ?_); refine goesL_ (some 17) rfl rfl Try.func7 (by kernel_rfl) rfl #[] rfl (by (try simp only [List.map_toArray, List.map_cons, List.map_nil]); first | done | rfl | (simp only [List.length_drop, List.length_take]; rfl)) ?_; (with_reducible refine (juratlaw10_awake.calls  t268 _ A5.out).mono ?_); rintro e w6 ⟨rfl, hb⟩; refine ⟨_, rfl, ?_⟩; have n0_ := Aside0.mk (below_step (by repeat (first | (with_reducible first | exact HB.out | apply below_alloc | apply pw_below_drewN | apply below_drew1) | exact HB.out)) hb); clear HB; have HB := n0_; clear n0_; (try clear hb); (try clear hb2); (try clear hk); (try clear hi)))
    go_ret
    exact ⟨by first | rfl | (simp [errW_none, errW_some] <;> rfl) | (simp [*, errW_none, errW_some] <;> rfl), by first | (refine HB00.out.trans (Below.mono ?_ HB00.out.size); (repeat (first | (with_reducible first | exact HB.out | apply below_alloc | apply pw_below_drewN | apply below_drew1) | exact HB.out))) | (repeat (first | (with_reducible first | exact HB.out | apply below_alloc | apply pw_below_drewN | apply below_drew1) | exact HB.out))⟩
  · rw [if_neg c4] at H
    have c4b0 : decide (50 < (a2.size : Int)) = false := decide_eq_false c4
    have c4b1 : decide (50 < a2.size) = false := decide_eq_false (by omega)
    clear c4
    replace H := Option.bind_eq_some_iff.mp H
    obtain ⟨⟨t269, t270⟩, A70, H⟩ := H
    replace H : ((pats_Set_Find.f none a2).bind fun bt271 => (if t269.toList = ([] : List UInt8) then (if t270 = true then (juratlaw10_PatsLong.j0 k a0 true) else (if bt271.1 = 0 then (if bt271.2 = true then (juratlaw10_PatsLong.j0 k a0 true) else ((pats_Set_Len.f none).bind fun t273 => (if t273 = 0 then ((pats_Set_Least.f none).bind fun t274 => (if t274 = 0 then ((pats_Set_Most.f none).bind fun t275 => (if t275 = 0 then ((pats_Set_Total.f none).bind fun t276 => (if t276 = 0 then ((pats_Set_List.f none).bind fun t277 => (juratlaw10_PatsLong.j0 k a0 (decide ((t277.length : Int) > 0)))) else (juratlaw10_PatsLong.j0 k a0 true))) else (juratlaw10_PatsLong.j0 k a0 true))) else (juratlaw10_PatsLong.j0 k a0 true))) else (juratlaw10_PatsLong.j0 k a0 true)))) else (juratlaw10_PatsLong.j0 k a0 true))) else (juratlaw10_PatsLong.j0 k a0 true))) = some r := H
    have A7 := Aside0.mk A70
    clear A70
    replace H := Option.bind_eq_some_iff.mp H
    obtain ⟨⟨t271, t272⟩, A80, H⟩ := H
    replace H : (if t269.toList = ([] : List UInt8) then (if t270 = true then (juratlaw10_PatsLong.j0 k a0 true) else (if t271 = 0 then (if t272 = true then (juratlaw10_PatsLong.j0 k a0 true) else ((pats_Set_Len.f none).bind fun t273 => (if t273 = 0 then ((pats_Set_Least.f none).bind fun t274 => (if t274 = 0 then ((pats_Set_Most.f none).bind fun t275 => (if t275 = 0 then ((pats_Set_Total.f none).bind fun t276 => (if t276 = 0 then ((pats_Set_List.f none).bind fun t277 => (juratlaw10_PatsLong.j0 k a0 (decide ((t277.length : Int) > 0)))) else (juratlaw10_PatsLong.j0 k a0 true))) else (juratlaw10_PatsLong.j0 k a0 true))) else (juratlaw10_PatsLong.j0 k a0 true))) else (juratlaw10_PatsLong.j0 k a0 true)))) else (juratlaw10_PatsLong.j0 k a0 true))) else (juratlaw10_PatsLong.j0 k a0 true)) = some r := H
    have A8 := Aside0.mk A80
    clear A80
    have HC9 := Aside0.mk H
    clear H
    go_enter Try.func5, Try.ntmps5
    go_upto_region 6 with (first | ((with_reducible refine gate_callee (f := 12) rfl ?_); refine goesL_ (some 21) rfl rfl Try.func12 (by kernel_rfl) rfl #[.pointer none, .int .i64 a1] rfl (by (try simp only [List.map_toArray, List.map_cons, List.map_nil]); first | done | rfl | (simp only [List.length_drop, List.length_take]; rfl)) ?_; (with_reducible refine (pats_Set_At.calls _ none a1 t269 t270 _ ?side1 A7.out).mono ?_); (case side1 => exact OB.nil _ _); rintro e w' ⟨rfl, ⟨nd, rfl⟩⟩; refine ⟨_, rfl, ?_⟩) | ((with_reducible refine gate_callee (f := 11) rfl ?_); refine goesL_ (some 27) rfl rfl Try.func11 (by kernel_rfl) rfl #[.pointer none, .string a2] rfl (by (try simp only [List.map_toArray, List.map_cons, List.map_nil]); first | done | rfl | (simp only [List.length_drop, List.length_take]; rfl)) ?_; (with_reducible refine (pats_Set_Find.calls _ none a2 t271 t272 _ ?side1 A8.out).mono ?_); (case side1 => exact OB.nil _ _); rintro e w' ⟨rfl, ⟨nd, rfl⟩⟩; refine ⟨_, rfl, ?_⟩))
    (try simp only [Act.put, List.setIfInBounds_toArray, List.set_cons_zero, List.set_cons_succ])
    go_cut [67] (fun v67 wc => ∃ (kq : Nat) (x67_8 : Bool), v67 = .bool x67_8 ∧ Aside0 (juratlaw10_PatsLong.j0 kq a0 x67_8 = some r) ∧ Aside0 (kq ≤ k) ∧ Aside0 (Below w.heap.size w wc))
    case first =>
      have H := HC9.out
      clear HC9
      by_cases c10 : t269.toList = ([] : List UInt8)
      · rw [if_pos c10] at H
        have c10b0 : (t269.toList == ([] : List UInt8)) = true := beq_iff_eq.mpr c10
        have c10b1 : (t269.toList != ([] : List UInt8)) = false := bne_eq_false_iff_eq.mpr c10
        clear c10
        (first | rw [c10b0] | rw [c10b1] | (simp only [i64_w, i32_w]; rw [c10b0]) | skip)
        by_cases c11 : t270 = true
        · subst c11
          have H1 : (juratlaw10_PatsLong.j0 k a0 true) = some r := by rw [if_pos rfl] at H; exact H
          clear H
          have H := H1
          clear H1
          have H' := Aside0.mk H
          clear H
          go_wp2
          go_meet
          case rel => exact ⟨_, (true), (by first | rfl | exact isE_ _ | exact isE2_ _ | (simp; done) | (simp [*]; done)), H', ⟨by first | omega | exact Nat.le_refl _⟩, ⟨by repeat (first | (with_reducible first | exact HB.out | apply below_alloc | apply pw_below_drewN | apply below_drew1) | exact HB.out)⟩⟩
        · replace c11 := Bool.eq_false_iff.mpr c11
          subst c11
          have H1 : (if t271 = 0 then (if t272 = true then (juratlaw10_PatsLong.j0 k a0 true) else ((pats_Set_Len.f none).bind fun t273 => (if t273 = 0 then ((pats_Set_Least.f none).bind fun t274 => (if t274 = 0 then ((pats_Set_Most.f none).bind fun t275 => (if t275 = 0 then ((pats_Set_Total.f none).bind fun t276 => (if t276 = 0 then ((pats_Set_List.f none).bind fun t277 => (juratlaw10_PatsLong.j0 k a0 (decide ((t277.length : Int) > 0)))) else (juratlaw10_PatsLong.j0 k a0 true))) else (juratlaw10_PatsLong.j0 k a0 true))) else (juratlaw10_PatsLong.j0 k a0 true))) else (juratlaw10_PatsLong.j0 k a0 true)))) else (juratlaw10_PatsLong.j0 k a0 true)) = some r := by rw [if_neg (show ¬ (false = true) by decide)] at H; exact H
          clear H
          have H := H1
          clear H1
          by_cases c12 : t271 = 0
          · rw [if_pos c12] at H
            have c12b0 : (t271 == 0) = true := beq_iff_eq.mpr c12
            have c12b1 : (t271 != 0) = false := bne_eq_false_iff_eq.mpr c12
            clear c12
            by_cases c13 : t272 = true
            · subst c13
              have H1 : (juratlaw10_PatsLong.j0 k a0 true) = some r := by rw [if_pos rfl] at H; exact H
              clear H
              have H := H1
              clear H1
              have H' := Aside0.mk H
              clear H
              go_wp2
              go_meet
              case rel => exact ⟨_, (true), (by first | rfl | exact isE_ _ | exact isE2_ _ | (simp; done) | (simp [*]; done)), H', ⟨by first | omega | exact Nat.le_refl _⟩, ⟨by repeat (first | (with_reducible first | exact HB.out | apply below_alloc | apply pw_below_drewN | apply below_drew1) | exact HB.out)⟩⟩
            · replace c13 := Bool.eq_false_iff.mpr c13
              subst c13
              have H1 : ((pats_Set_Len.f none).bind fun t273 => (if t273 = 0 then ((pats_Set_Least.f none).bind fun t274 => (if t274 = 0 then ((pats_Set_Most.f none).bind fun t275 => (if t275 = 0 then ((pats_Set_Total.f none).bind fun t276 => (if t276 = 0 then ((pats_Set_List.f none).bind fun t277 => (juratlaw10_PatsLong.j0 k a0 (decide ((t277.length : Int) > 0)))) else (juratlaw10_PatsLong.j0 k a0 true))) else (juratlaw10_PatsLong.j0 k a0 true))) else (juratlaw10_PatsLong.j0 k a0 true))) else (juratlaw10_PatsLong.j0 k a0 true))) = some r := by rw [if_neg (show ¬ (false = true) by decide)] at H; exact H
              clear H
              have H := H1
              clear H1
              replace H := Option.bind_eq_some_iff.mp H
              obtain ⟨t273, A140, H⟩ := H
              replace H : (if t273 = 0 then ((pats_Set_Least.f none).bind fun t274 => (if t274 = 0 then ((pats_Set_Most.f none).bind fun t275 => (if t275 = 0 then ((pats_Set_Total.f none).bind fun t276 => (if t276 = 0 then ((pats_Set_List.f none).bind fun t277 => (juratlaw10_PatsLong.j0 k a0 (decide ((t277.length : Int) > 0)))) else (juratlaw10_PatsLong.j0 k a0 true))) else (juratlaw10_PatsLong.j0 k a0 true))) else (juratlaw10_PatsLong.j0 k a0 true))) else (juratlaw10_PatsLong.j0 k a0 true)) = some r := H
              have A14 := Aside0.mk A140
              clear A140
              by_cases c15 : t273 = 0
              · rw [if_pos c15] at H
                have c15b0 : (t273 == 0) = true := beq_iff_eq.mpr c15
                have c15b1 : (t273 != 0) = false := bne_eq_false_iff_eq.mpr c15
                clear c15
                replace H := Option.bind_eq_some_iff.mp H
                obtain ⟨t274, A160, H⟩ := H
                replace H : (if t274 = 0 then ((pats_Set_Most.f none).bind fun t275 => (if t275 = 0 then ((pats_Set_Total.f none).bind fun t276 => (if t276 = 0 then ((pats_Set_List.f none).bind fun t277 => (juratlaw10_PatsLong.j0 k a0 (decide ((t277.length : Int) > 0)))) else (juratlaw10_PatsLong.j0 k a0 true))) else (juratlaw10_PatsLong.j0 k a0 true))) else (juratlaw10_PatsLong.j0 k a0 true)) = some r := H
                have A16 := Aside0.mk A160
                clear A160
                by_cases c17 : t274 = 0
                · rw [if_pos c17] at H
                  have c17b0 : (t274 == 0) = true := beq_iff_eq.mpr c17
                  have c17b1 : (t274 != 0) = false := bne_eq_false_iff_eq.mpr c17
                  clear c17
                  replace H := Option.bind_eq_some_iff.mp H
                  obtain ⟨t275, A180, H⟩ := H
                  replace H : (if t275 = 0 then ((pats_Set_Total.f none).bind fun t276 => (if t276 = 0 then ((pats_Set_List.f none).bind fun t277 => (juratlaw10_PatsLong.j0 k a0 (decide ((t277.length : Int) > 0)))) else (juratlaw10_PatsLong.j0 k a0 true))) else (juratlaw10_PatsLong.j0 k a0 true)) = some r := H
                  have A18 := Aside0.mk A180
                  clear A180
                  by_cases c19 : t275 = 0
                  · rw [if_pos c19] at H
                    have c19b0 : (t275 == 0) = true := beq_iff_eq.mpr c19
                    have c19b1 : (t275 != 0) = false := bne_eq_false_iff_eq.mpr c19
                    clear c19
                    replace H := Option.bind_eq_some_iff.mp H
                    obtain ⟨t276, A200, H⟩ := H
                    replace H : (if t276 = 0 then ((pats_Set_List.f none).bind fun t277 => (juratlaw10_PatsLong.j0 k a0 (decide ((t277.length : Int) > 0)))) else (juratlaw10_PatsLong.j0 k a0 true)) = some r := H
                    have A20 := Aside0.mk A200
                    clear A200
                    by_cases c21 : t276 = 0
                    · rw [if_pos c21] at H
                      have c21b0 : (t276 == 0) = true := beq_iff_eq.mpr c21
                      have c21b1 : (t276 != 0) = false := bne_eq_false_iff_eq.mpr c21
                      clear c21
                      replace H := Option.bind_eq_some_iff.mp H
                      obtain ⟨t277, A220, H⟩ := H
                      replace H : (juratlaw10_PatsLong.j0 k a0 (decide ((t277.length : Int) > 0))) = some r := H
                      have A22 := Aside0.mk A220
                      clear A220
                      have H' := Aside0.mk H
                      clear H
                      go_wp2_with (first | (go_at_call 13; (with_reducible refine (pats_Set_Len.calls _ none t273 _ ?side1 A14.out).mono ?_); (case side1 => exact OB.nil _ _); rintro e w' ⟨rfl, ⟨nd, rfl⟩⟩) | (go_at_call 16; (with_reducible refine (pats_Set_Least.calls _ none t274 _ ?side1 A16.out).mono ?_); (case side1 => exact OB.nil _ _); rintro e w' ⟨rfl, ⟨nd, rfl⟩⟩) | (go_at_call 18; (with_reducible refine (pats_Set_Most.calls _ none t275 _ ?side1 A18.out).mono ?_); (case side1 => exact OB.nil _ _); rintro e w' ⟨rfl, ⟨nd, rfl⟩⟩) | (go_at_call 20; (with_reducible refine (pats_Set_Total.calls _ none t276 _ ?side1 A20.out).mono ?_); (case side1 => exact OB.nil _ _); rintro e w' ⟨rfl, ⟨nd, rfl⟩⟩) | (go_at_call 9; (with_reducible refine (pats_Set_List.calls _ none t277 _ ?side1 A22.out).mono ?_); (case side1 => exact OB.nil _ _); rintro e w23 ⟨v278, rfl, ho0, hb⟩; have n0_ := Aside0.mk (Kd.R_lower ho0 (below_size (by repeat (first | (with_reducible first | exact HB.out | apply below_alloc | apply pw_below_drewN | apply below_drew1) | exact HB.out)))); have n1_ := Aside0.mk (below_step (by repeat (first | (with_reducible first | exact HB.out | apply below_alloc | apply pw_below_drewN | apply below_drew1) | exact HB.out)) hb); clear HB; have HO279 := n0_; have HB := n1_; clear n0_ n1_; (try clear hb); (try clear hb2); (try clear hk); (try clear hi); (try clear ho0); obtain ⟨Ao24, co24, eo24⟩ := Kd.R_slice HO279.out; subst eo24))
                      go_meet
                      case rel => exact ⟨_, (decide ((t277.length : Int) > 0)), (by first | rfl | exact isE_ _ | exact isE2_ _ | (simp; done) | (simp [*]; done)), H', ⟨by first | omega | exact Nat.le_refl _⟩, ⟨by repeat (first | (with_reducible first | exact HB.out | apply below_alloc | apply pw_below_drewN | apply below_drew1) | exact HB.out)⟩⟩
                    · rw [if_neg c21] at H
                      have c21b0 : (t276 == 0) = false := beq_eq_false_iff_ne.mpr c21
                      have c21b1 : (t276 != 0) = true := bne_iff_ne.mpr c21
                      have H' := Aside0.mk H
                      clear H
                      go_wp2_with (first | (go_at_call 13; (with_reducible refine (pats_Set_Len.calls _ none t273 _ ?side1 A14.out).mono ?_); (case side1 => exact OB.nil _ _); rintro e w' ⟨rfl, ⟨nd, rfl⟩⟩) | (go_at_call 16; (with_reducible refine (pats_Set_Least.calls _ none t274 _ ?side1 A16.out).mono ?_); (case side1 => exact OB.nil _ _); rintro e w' ⟨rfl, ⟨nd, rfl⟩⟩) | (go_at_call 18; (with_reducible refine (pats_Set_Most.calls _ none t275 _ ?side1 A18.out).mono ?_); (case side1 => exact OB.nil _ _); rintro e w' ⟨rfl, ⟨nd, rfl⟩⟩) | (go_at_call 20; (with_reducible refine (pats_Set_Total.calls _ none t276 _ ?side1 A20.out).mono ?_); (case side1 => exact OB.nil _ _); rintro e w' ⟨rfl, ⟨nd, rfl⟩⟩))
                      go_meet
                      case rel => exact ⟨_, (true), (by first | rfl | exact isE_ _ | exact isE2_ _ | (simp; done) | (simp [*]; done)), H', ⟨by first | omega | exact Nat.le_refl _⟩, ⟨by repeat (first | (with_reducible first | exact HB.out | apply below_alloc | apply pw_below_drewN | apply below_drew1) | exact HB.out)⟩⟩
                  · rw [if_neg c19] at H
                    have c19b0 : (t275 == 0) = false := beq_eq_false_iff_ne.mpr c19
                    have c19b1 : (t275 != 0) = true := bne_iff_ne.mpr c19
                    have H' := Aside0.mk H
                    clear H
                    go_wp2_with (first | (go_at_call 13; (with_reducible refine (pats_Set_Len.calls _ none t273 _ ?side1 A14.out).mono ?_); (case side1 => exact OB.nil _ _); rintro e w' ⟨rfl, ⟨nd, rfl⟩⟩) | (go_at_call 16; (with_reducible refine (pats_Set_Least.calls _ none t274 _ ?side1 A16.out).mono ?_); (case side1 => exact OB.nil _ _); rintro e w' ⟨rfl, ⟨nd, rfl⟩⟩) | (go_at_call 18; (with_reducible refine (pats_Set_Most.calls _ none t275 _ ?side1 A18.out).mono ?_); (case side1 => exact OB.nil _ _); rintro e w' ⟨rfl, ⟨nd, rfl⟩⟩))
                    go_meet
                    case rel => exact ⟨_, (true), (by first | rfl | exact isE_ _ | exact isE2_ _ | (simp; done) | (simp [*]; done)), H', ⟨by first | omega | exact Nat.le_refl _⟩, ⟨by repeat (first | (with_reducible first | exact HB.out | apply below_alloc | apply pw_below_drewN | apply below_drew1) | exact HB.out)⟩⟩
                · rw [if_neg c17] at H
                  have c17b0 : (t274 == 0) = false := beq_eq_false_iff_ne.mpr c17
                  have c17b1 : (t274 != 0) = true := bne_iff_ne.mpr c17
                  have H' := Aside0.mk H
                  clear H
                  go_wp2_with (first | (go_at_call 13; (with_reducible refine (pats_Set_Len.calls _ none t273 _ ?side1 A14.out).mono ?_); (case side1 => exact OB.nil _ _); rintro e w' ⟨rfl, ⟨nd, rfl⟩⟩) | (go_at_call 16; (with_reducible refine (pats_Set_Least.calls _ none t274 _ ?side1 A16.out).mono ?_); (case side1 => exact OB.nil _ _); rintro e w' ⟨rfl, ⟨nd, rfl⟩⟩))
                  go_meet
                  case rel => exact ⟨_, (true), (by first | rfl | exact isE_ _ | exact isE2_ _ | (simp; done) | (simp [*]; done)), H', ⟨by first | omega | exact Nat.le_refl _⟩, ⟨by repeat (first | (with_reducible first | exact HB.out | apply below_alloc | apply pw_below_drewN | apply below_drew1) | exact HB.out)⟩⟩
              · rw [if_neg c15] at H
                have c15b0 : (t273 == 0) = false := beq_eq_false_iff_ne.mpr c15
                have c15b1 : (t273 != 0) = true := bne_iff_ne.mpr c15
                have H' := Aside0.mk H
                clear H
                go_wp2_with (first | (go_at_call 13; (with_reducible refine (pats_Set_Len.calls _ none t273 _ ?side1 A14.out).mono ?_); (case side1 => exact OB.nil _ _); rintro e w' ⟨rfl, ⟨nd, rfl⟩⟩))
                go_meet
                case rel => exact ⟨_, (true), (by first | rfl | exact isE_ _ | exact isE2_ _ | (simp; done) | (simp [*]; done)), H', ⟨by first | omega | exact Nat.le_refl _⟩, ⟨by repeat (first | (with_reducible first | exact HB.out | apply below_alloc | apply pw_below_drewN | apply below_drew1) | exact HB.out)⟩⟩
          · rw [if_neg c12] at H
            have c12b0 : (t271 == 0) = false := beq_eq_false_iff_ne.mpr c12
            have c12b1 : (t271 != 0) = true := bne_iff_ne.mpr c12
            have H' := Aside0.mk H
            clear H
            go_wp2
            go_meet
            case rel => exact ⟨_, (true), (by first | rfl | exact isE_ _ | exact isE2_ _ | (simp; done) | (simp [*]; done)), H', ⟨by first | omega | exact Nat.le_refl _⟩, ⟨by repeat (first | (with_reducible first | exact HB.out | apply below_alloc | apply pw_below_drewN | apply below_drew1) | exact HB.out)⟩⟩
      · rw [if_neg c10] at H
        have c10b0 : (t269.toList == ([] : List UInt8)) = false := beq_eq_false_iff_ne.mpr c10
        have c10b1 : (t269.toList != ([] : List UInt8)) = true := bne_iff_ne.mpr c10
        (first | rw [c10b0] | rw [c10b1] | (simp only [i64_w, i32_w]; rw [c10b0]) | skip)
        have H' := Aside0.mk H
        clear H
        go_wp2
        go_meet
        case rel => exact ⟨_, (true), (by first | rfl | exact isE_ _ | exact isE2_ _ | (simp; done) | (simp [*]; done)), H', ⟨by first | omega | exact Nat.le_refl _⟩, ⟨by repeat (first | (with_reducible first | exact HB.out | apply below_alloc | apply pw_below_drewN | apply below_drew1) | exact HB.out)⟩⟩
    case rest =>
      clear HC9
      try clear c1
      try clear c2
      try clear p2
      try clear c4
      try clear c4b0
      try clear c4b1
      try clear c5
      try clear c7
      try clear c10
      try clear c10b0
      try clear c10b1
      try clear c11
      try clear c12
      try clear c12b0
      try clear c12b1
      try clear c13
      try clear c15
      try clear c15b0
      try clear c15b1
      try clear c17
      try clear c17b0
      try clear c17b1
      try clear c19
      try clear c19b0
      try clear c19b1
      try clear c21
      try clear c21b0
      try clear c21b1
      obtain ⟨kq, x67_8, rfl, HA, HJ8, HB⟩ := hcut
      cases kq with
      | zero => exact absurd HA.out (by simp [juratlaw10_PatsLong.j0])
      | succ kj8 =>
        have H := HA.out
        clear HA
        simp only [juratlaw10_PatsLong.j0] at H
        by_cases c25 : x67_8 = true
        · subst c25
          have H1 : (some false) = some r := by rw [if_pos rfl] at H; exact H
          clear H
          have H := H1
          clear H1
          obtain rfl := Option.some.inj H
          go_wp2
          go_ret
          exact ⟨by first | rfl | (simp [errW_none, errW_some] <;> rfl) | (simp [*, errW_none, errW_some] <;> rfl), by first | (refine HB00.out.trans (Below.mono ?_ HB00.out.size); (repeat (first | (with_reducible first | exact HB.out | apply below_alloc | apply pw_below_drewN | apply below_drew1) | exact HB.out))) | (repeat (first | (with_reducible first | exact HB.out | apply below_alloc | apply pw_below_drewN | apply below_drew1) | exact HB.out))⟩
        · replace c25 := Bool.eq_false_iff.mpr c25
          subst c25
          have H1 : (if 0 ≤ (wrap64 (65533 + (Go.bits .and .i64 a0 3))) then (if (wrap64 (65533 + (Go.bits .and .i64 a0 3)) : Int).toNat ≤ 281474976710656 then ((pats_New.f (([strOfNums (List.replicate (wrap64 (65533 + (Go.bits .and .i64 a0 3)) : Int).toNat 0)] : List ByteArray))).bind fun bt286 => (if (wrap64 (65533 + (Go.bits .and .i64 a0 3))) > 65535 then (if bt286.1.isNone = true then (if bt286.2 = 5 then ((juratlaw10_awake.f).bind fun t291 => (some t291)) else (some false)) else (some false)) else (if bt286.2 = 0 then ((pats_Set_Most.f bt286.1).bind fun t292 => (if t292 = (wrap64 (65533 + (Go.bits .and .i64 a0 3))) then ((pats_Set_Total.f bt286.1).bind fun t293 => (if t293 = (wrap64 (65533 + (Go.bits .and .i64 a0 3))) then ((juratlaw10_awake.f).bind fun t294 => (some t294)) else (some false))) else (some false))) else (some false)))) else (none)) else (none)) = some r := by rw [if_neg (show ¬ (false = true) by decide)] at H; exact H
          clear H
          have H := H1
          clear H1
          obtain ⟨ji26, hji26⟩ : ∃ j_ : Int, (wrap64 (65533 + (Go.bits .and .i64 a0 3))) = j_ := ⟨_, rfl⟩
          replace H : (if 0 ≤ (ji26) then (if (ji26 : Int).toNat ≤ 281474976710656 then ((pats_New.f (([strOfNums (List.replicate (ji26 : Int).toNat 0)] : List ByteArray))).bind fun bt286 => (if (ji26) > 65535 then (if bt286.1.isNone = true then (if bt286.2 = 5 then ((juratlaw10_awake.f).bind fun t291 => (some t291)) else (some false)) else (some false)) else (if bt286.2 = 0 then ((pats_Set_Most.f bt286.1).bind fun t292 => (if t292 = (ji26) then ((pats_Set_Total.f bt286.1).bind fun t293 => (if t293 = (ji26) then ((juratlaw10_awake.f).bind fun t294 => (some t294)) else (some false))) else (some false))) else (some false)))) else (none)) else (none)) = some r := by first | (rw [hji26] at H; exact H) | (simp only [hji26] at H ⊢; exact H)
          have hji26w : (IntKind.i64.wrap (65533 + (Go.bits .and .i64 a0 3))) = ji26 := (i64_w _).trans hji26
          by_cases c27 : 0 ≤ (ji26)
          · rw [if_pos c27] at H
            have c27b0 := eq_true c27
            have c27b1 : decide (0 ≤ (ji26)) = true := decide_eq_true c27
            clear c27
            by_cases c28 : (ji26 : Int).toNat ≤ 281474976710656
            · rw [if_pos c28] at H
              have c28b0 := eq_true c28
              have c28b1 : decide ((ji26 : Int).toNat ≤ 281474976710656) = true := decide_eq_true c28
              clear c28
              obtain ⟨y280, hy280⟩ : ∃ y_ : List Int, y_ = (List.replicate (ji26 : Int).toNat 0) := ⟨_, rfl⟩
              replace H : ((pats_New.f (([strOfNums y280] : List ByteArray))).bind fun bt286 => (if (ji26) > 65535 then (if bt286.1.isNone = true then (if bt286.2 = 5 then ((juratlaw10_awake.f).bind fun t291 => (some t291)) else (some false)) else (some false)) else (if bt286.2 = 0 then ((pats_Set_Most.f bt286.1).bind fun t292 => (if t292 = (ji26) then ((pats_Set_Total.f bt286.1).bind fun t293 => (if t293 = (ji26) then ((juratlaw10_awake.f).bind fun t294 => (some t294)) else (some false))) else (some false))) else (some false)))) = some r := by first | (rw [hy280]; with_reducible exact H) | (have H2_ := (Option.bind_some _ _).symm.trans H; rw [hy280]; with_reducible exact H2_) | (have H2_ := (Option.bind_some _ _).symm.trans H; with_reducible exact H2_) | with_reducible exact H | (rw [hy280]; exact H) | exact H
              have Ny280 := Aside0.mk hy280
              clear hy280
              obtain ⟨y283, hy283⟩ : ∃ y_ : List ByteArray, y_ = (([strOfNums y280] : List ByteArray)) := ⟨_, rfl⟩
              replace H : ((pats_New.f y283).bind fun bt286 => (if (ji26) > 65535 then (if bt286.1.isNone = true then (if bt286.2 = 5 then ((juratlaw10_awake.f).bind fun t291 => (some t291)) else (some false)) else (some false)) else (if bt286.2 = 0 then ((pats_Set_Most.f bt286.1).bind fun t292 => (if t292 = (ji26) then ((pats_Set_Total.f bt286.1).bind fun t293 => (if t293 = (ji26) then ((juratlaw10_awake.f).bind fun t294 => (some t294)) else (some false))) else (some false))) else (some false)))) = some r := by first | (rw [hy283]; with_reducible exact H) | (have H2_ := (Option.bind_some _ _).symm.trans H; rw [hy283]; with_reducible exact H2_) | (have H2_ := (Option.bind_some _ _).symm.trans H; with_reducible exact H2_) | with_reducible exact H | (rw [hy283]; exact H) | exact H
              have Ny283 := Aside0.mk hy283
              clear hy283
              replace H := Option.bind_eq_some_iff.mp H
              obtain ⟨⟨t286, t287⟩, A290, H⟩ := H
              replace H : (if (ji26) > 65535 then (if t286.isNone = true then (if t287 = 5 then ((juratlaw10_awake.f).bind fun t291 => (some t291)) else (some false)) else (some false)) else (if t287 = 0 then ((pats_Set_Most.f t286).bind fun t292 => (if t292 = (ji26) then ((pats_Set_Total.f t286).bind fun t293 => (if t293 = (ji26) then ((juratlaw10_awake.f).bind fun t294 => (some t294)) else (some false))) else (some false))) else (some false))) = some r := H
              have A29 := Aside0.mk A290
              clear A290
              by_cases c30 : (ji26) > 65535
              · rw [if_pos c30] at H
                have c30b0 : decide (65535 < (ji26)) = true := decide_eq_true c30
                clear c30
                rcases t286 with _ | qo290
                · have H1 : (if t287 = 5 then ((juratlaw10_awake.f).bind fun t291 => (some t291)) else (some false)) = some r := by rw [if_pos (show (none : Option _).isNone = true by rfl)] at H; exact H
                  clear H
                  have H := H1
                  clear H1
                  by_cases c31 : t287 = 5
                  · rw [if_pos c31] at H
                    have c31b0 : (t287 == 5) = true := beq_iff_eq.mpr c31
                    have c31b1 : (t287 != 5) = false := bne_eq_false_iff_eq.mpr c31
                    clear c31
                    replace H := Option.bind_eq_some_iff.mp H
                    obtain ⟨t291, A320, H⟩ := H
                    replace H : (some t291) = some r := H
                    have A32 := Aside0.mk A320
                    clear A320
                    obtain rfl := Option.some.inj H
                    go_wp2_with (first | ((with_reducible refine gate_dst (N := 73) rfl ?_); (try (refine gate_guard (by rfl) ?_; dsimp only)); refine Kd.R_make (Kd.int .u8) _ 5 rfl (N := 73) rfl 42 _ _ rfl ji26 rfl rfl Try.underlying42 (.int .u8 0) 1 info5 rfl (by decide) (by omega) 0 (ok := fun _ => True) (okp := fun _ => True) rfl (fun _ hk => hk) trivial (of_decide_eq_true (by first | (with_reducible assumption) | assumption)) (Nat.le_trans (Nat.mul_le_mul_right _ (of_decide_eq_true (by first | (with_reducible assumption) | assumption) : ji26.toNat ≤ 281474976710656)) (by omega)) (Below.refl _ _) (Nat.le_refl _) ?_; intro v281 w33 ho34 hb hg_ hnew_; clear hg_ hnew_; (first | rw [← Ny280.out] at ho34 | (simp only [Int.reduceToNat] at ho34; rw [← Ny280.out] at ho34)); have n0_ := Aside0.mk (Kd.R_lower ho34 (below_size (by repeat (first | (with_reducible first | exact HB.out | apply below_alloc | apply pw_below_drewN | apply below_drew1) | exact HB.out)))); have n1_ := Aside0.mk (below_step (by repeat (first | (with_reducible first | exact HB.out | apply below_alloc | apply pw_below_drewN | apply below_drew1) | exact HB.out)) hb); clear HB; have HO282 := n0_; have HB := n1_; clear n0_ n1_; clear hb ho34; have hcv35 := own_string (P := Try.prog) Try.underlying42 Try.underlying5 Try.underlying9 (Kd.own_of_R HO282.out)) | ((with_reducible refine gate_dst (N := 75) rfl ?_); (try (refine gate_guard (by rfl) ?_; dsimp only)); refine Kd.R_lit Kd.string _ 9 ?hg (N := 75) ?hd (xs := ([strOfNums y280] : List ByteArray)) (inner := [.string (strOfNums y280)]) (ok := fun _ => True) (okp := fun _ => True) ?hr ?hp (fun _ hk => hk) trivial (Below.refl _ _) (Nat.le_refl _) (by simp) ?_; (case hd => rfl); (case hg => rfl); (case hr => first | (go_simp; done) | (go_simp; rfl)); (case hp => exact (Reps.one (show Kd.M Kd.string _ _ _ (strOfNums y280) [.string (strOfNums y280)] from rfl) (Reps.none _ _))); intro v284 w36 ho37 hb hg_ hnew_; clear hg_ hnew_; (first | rw [← Ny283.out] at ho37 | (simp only [Int.reduceToNat] at ho37; rw [← Ny283.out] at ho37)); have n0_ := Aside0.mk (Kd.R_below (by (with_reducible repeat (first | apply Kd.R_alloc | apply Kd.R_drewN | apply Kd.R_drew)); exact HO282.out) hb); have n1_ := Aside0.mk (Kd.R_lower ho37 (below_size (by repeat (first | (with_reducible first | exact HB.out | apply below_alloc | apply pw_below_drewN | apply below_drew1) | exact HB.out)))); have n2_ := Aside0.mk (below_step (by repeat (first | (with_reducible first | exact HB.out | apply below_alloc | apply pw_below_drewN | apply below_drew1) | exact HB.out)) hb); clear HO282; clear HB; have HO282 := n0_; have HO285 := n1_; have HB := n2_; clear n0_ n1_ n2_; clear hb ho37; obtain ⟨Ao38, co38, eo38⟩ := Kd.R_slice HO285.out; subst eo38) | ((with_reducible refine gate_callee (f := 8) rfl ?_); refine goesL_ (some 76) rfl rfl Try.func8 (by kernel_rfl) rfl #[.slice Ao38 y283.length co38] rfl (by (try simp only [List.map_toArray, List.map_cons, List.map_nil]); first | done | rfl | (simp only [List.length_drop, List.length_take]; rfl)) ?_; (with_reducible refine (pats_New.calls _ _ y283 none t287 _ ?side1 ?side2 A29.out).mono ?_); (case side1 => repeat (first | exact (Kd.R_reads' HO285.out).2.2 | (with_reducible refine Kd.C_alloc ?_ _) | (with_reducible refine Kd.C_drewN ?_ _) | (with_reducible refine Kd.C_drew ?_))); (case side2 => exact (Kd.R_reads' HO285.out).2.1); rintro e w39 ⟨Pn0_, rfl, hob0, hb⟩; refine ⟨_, rfl, ?_⟩; have hbw_ := below_step (by repeat (first | (with_reducible first | exact HB.out | apply below_alloc | apply pw_below_drewN | apply below_drew1) | exact HB.out)) hb; obtain ⟨Ab288, cb288, eb288_, lb288_, gb288_⟩ := Kd.R_reads (Kd.R_below (by (with_reducible repeat (first | apply Kd.R_alloc | apply Kd.R_drewN | apply Kd.R_drew)); exact HO282.out) hb); (first | subst eb288_ | (injection eb288_ with f1_ f2_ f3_; have f4_ := f1_.symm; have f5_ := f3_.symm; clear f1_ f2_ f3_; subst f4_; subst f5_)); have HRb288 := Aside0.mk gb288_; have HCb288 := Aside0.mk lb288_; clear gb288_ lb288_; obtain ⟨Ab289, cb289, eb289_, lb289_, gb289_⟩ := Kd.R_reads (Kd.R_below (by (with_reducible repeat (first | apply Kd.R_alloc | apply Kd.R_drewN | apply Kd.R_drew)); exact HO285.out) hb); (first | subst eb289_ | (injection eb289_ with f1_ f2_ f3_; have f4_ := f1_.symm; have f5_ := f3_.symm; clear f1_ f2_ f3_; subst f4_; subst f5_)); have HRb289 := Aside0.mk gb289_; have HCb289 := Aside0.mk lb289_; clear gb289_ lb289_; (try clear HO282); (try clear HO285); (first | (have n_ := Aside0.mk (HB00.out.trans (hbw_.mono HB00.out.size)); clear HB00; have HB00 := n_; clear n_) | have HB00 := Aside0.mk hbw_); clear HB hb hbw_; obtain rfl := OB.p_none hob0; clear hob0; obtain ⟨w, rfl⟩ : ∃ w_ : World, w_ = w39 := ⟨_, rfl⟩; have HB := Aside0.mk (Below.refl w.heap.size w)) | (go_at_call 7; (with_reducible refine (juratlaw10_awake.calls  t291 _ A32.out).mono ?_); rintro e w40 ⟨rfl, hb⟩; have n0_ := Aside0.mk (below_step (by repeat (first | (with_reducible first | exact HB.out | apply below_alloc | apply pw_below_drewN | apply below_drew1) | exact HB.out)) hb); clear HB; have HB := n0_; clear n0_; (try clear hb); (try clear hb2); (try clear hk); (try clear hi)))
                    go_ret
                    exact ⟨by first | rfl | (simp [errW_none, errW_some] <;> rfl) | (simp only [← hji26]; first | rfl | (simp [errW_none, errW_some] <;> rfl)) | (simp [*, errW_none, errW_some] <;> rfl), by first | (refine HB00.out.trans (Below.mono ?_ HB00.out.size); (repeat (first | (with_reducible first | exact HB.out | apply below_alloc | apply pw_below_drewN | apply below_drew1) | exact HB.out))) | (repeat (first | (with_reducible first | exact HB.out | apply below_alloc | apply pw_below_drewN | apply below_drew1) | exact HB.out))⟩
                  · rw [if_neg c31] at H
                    have c31b0 : (t287 == 5) = false := beq_eq_false_iff_ne.mpr c31
                    have c31b1 : (t287 != 5) = true := bne_iff_ne.mpr c31
                    obtain rfl := Option.some.inj H
                    go_wp2_with (first | ((with_reducible refine gate_dst (N := 73) rfl ?_); (try (refine gate_guard (by rfl) ?_; dsimp only)); refine Kd.R_make (Kd.int .u8) _ 5 rfl (N := 73) rfl 42 _ _ rfl ji26 rfl rfl Try.underlying42 (.int .u8 0) 1 info5 rfl (by decide) (by omega) 0 (ok := fun _ => True) (okp := fun _ => True) rfl (fun _ hk => hk) trivial (of_decide_eq_true (by first | (with_reducible assumption) | assumption)) (Nat.le_trans (Nat.mul_le_mul_right _ (of_decide_eq_true (by first | (with_reducible assumption) | assumption) : ji26.toNat ≤ 281474976710656)) (by omega)) (Below.refl _ _) (Nat.le_refl _) ?_; intro v281 w41 ho42 hb hg_ hnew_; clear hg_ hnew_; (first | rw [← Ny280.out] at ho42 | (simp only [Int.reduceToNat] at ho42; rw [← Ny280.out] at ho42)); have n0_ := Aside0.mk (Kd.R_lower ho42 (below_size (by repeat (first | (with_reducible first | exact HB.out | apply below_alloc | apply pw_below_drewN | apply below_drew1) | exact HB.out)))); have n1_ := Aside0.mk (below_step (by repeat (first | (with_reducible first | exact HB.out | apply below_alloc | apply pw_below_drewN | apply below_drew1) | exact HB.out)) hb); clear HB; have HO282 := n0_; have HB := n1_; clear n0_ n1_; clear hb ho42; have hcv43 := own_string (P := Try.prog) Try.underlying42 Try.underlying5 Try.underlying9 (Kd.own_of_R HO282.out)) | ((with_reducible refine gate_dst (N := 75) rfl ?_); (try (refine gate_guard (by rfl) ?_; dsimp only)); refine Kd.R_lit Kd.string _ 9 ?hg (N := 75) ?hd (xs := ([strOfNums y280] : List ByteArray)) (inner := [.string (strOfNums y280)]) (ok := fun _ => True) (okp := fun _ => True) ?hr ?hp (fun _ hk => hk) trivial (Below.refl _ _) (Nat.le_refl _) (by simp) ?_; (case hd => rfl); (case hg => rfl); (case hr => first | (go_simp; done) | (go_simp; rfl)); (case hp => exact (Reps.one (show Kd.M Kd.string _ _ _ (strOfNums y280) [.string (strOfNums y280)] from rfl) (Reps.none _ _))); intro v284 w44 ho45 hb hg_ hnew_; clear hg_ hnew_; (first | rw [← Ny283.out] at ho45 | (simp only [Int.reduceToNat] at ho45; rw [← Ny283.out] at ho45)); have n0_ := Aside0.mk (Kd.R_below (by (with_reducible repeat (first | apply Kd.R_alloc | apply Kd.R_drewN | apply Kd.R_drew)); exact HO282.out) hb); have n1_ := Aside0.mk (Kd.R_lower ho45 (below_size (by repeat (first | (with_reducible first | exact HB.out | apply below_alloc | apply pw_below_drewN | apply below_drew1) | exact HB.out)))); have n2_ := Aside0.mk (below_step (by repeat (first | (with_reducible first | exact HB.out | apply below_alloc | apply pw_below_drewN | apply below_drew1) | exact HB.out)) hb); clear HO282; clear HB; have HO282 := n0_; have HO285 := n1_; have HB := n2_; clear n0_ n1_ n2_; clear hb ho45; obtain ⟨Ao46, co46, eo46⟩ := Kd.R_slice HO285.out; subst eo46) | ((with_reducible refine gate_callee (f := 8) rfl ?_); refine goesL_ (some 76) rfl rfl Try.func8 (by kernel_rfl) rfl #[.slice Ao46 y283.length co46] rfl (by (try simp only [List.map_toArray, List.map_cons, List.map_nil]); first | done | rfl | (simp only [List.length_drop, List.length_take]; rfl)) ?_; (with_reducible refine (pats_New.calls _ _ y283 none t287 _ ?side1 ?side2 A29.out).mono ?_); (case side1 => repeat (first | exact (Kd.R_reads' HO285.out).2.2 | (with_reducible refine Kd.C_alloc ?_ _) | (with_reducible refine Kd.C_drewN ?_ _) | (with_reducible refine Kd.C_drew ?_))); (case side2 => exact (Kd.R_reads' HO285.out).2.1); rintro e w47 ⟨Pn0_, rfl, hob0, hb⟩; refine ⟨_, rfl, ?_⟩; have hbw_ := below_step (by repeat (first | (with_reducible first | exact HB.out | apply below_alloc | apply pw_below_drewN | apply below_drew1) | exact HB.out)) hb; obtain ⟨Ab288, cb288, eb288_, lb288_, gb288_⟩ := Kd.R_reads (Kd.R_below (by (with_reducible repeat (first | apply Kd.R_alloc | apply Kd.R_drewN | apply Kd.R_drew)); exact HO282.out) hb); (first | subst eb288_ | (injection eb288_ with f1_ f2_ f3_; have f4_ := f1_.symm; have f5_ := f3_.symm; clear f1_ f2_ f3_; subst f4_; subst f5_)); have HRb288 := Aside0.mk gb288_; have HCb288 := Aside0.mk lb288_; clear gb288_ lb288_; obtain ⟨Ab289, cb289, eb289_, lb289_, gb289_⟩ := Kd.R_reads (Kd.R_below (by (with_reducible repeat (first | apply Kd.R_alloc | apply Kd.R_drewN | apply Kd.R_drew)); exact HO285.out) hb); (first | subst eb289_ | (injection eb289_ with f1_ f2_ f3_; have f4_ := f1_.symm; have f5_ := f3_.symm; clear f1_ f2_ f3_; subst f4_; subst f5_)); have HRb289 := Aside0.mk gb289_; have HCb289 := Aside0.mk lb289_; clear gb289_ lb289_; (try clear HO282); (try clear HO285); (try (have n_ := Aside0.mk (Kd.C_below HRb288.out hbw_); clear HRb288; have HRb288 := n_; clear n_)); (try (have n_ := Aside0.mk (Kd.C_below HRb289.out hbw_); clear HRb289; have HRb289 := n_; clear n_)); (first | (have n_ := Aside0.mk (HB00.out.trans (hbw_.mono HB00.out.size)); clear HB00; have HB00 := n_; clear n_) | have HB00 := Aside0.mk hbw_); clear HB hb hbw_; obtain rfl := OB.p_none hob0; clear hob0; obtain ⟨w, rfl⟩ : ∃ w_ : World, w_ = w47 := ⟨_, rfl⟩; have HB := Aside0.mk (Below.refl w.heap.size w)))
                    go_ret
                    exact ⟨by first | rfl | (simp [errW_none, errW_some] <;> rfl) | (simp only [← hji26]; first | rfl | (simp [errW_none, errW_some] <;> rfl)) | (simp [*, errW_none, errW_some] <;> rfl), by first | (refine HB00.out.trans (Below.mono ?_ HB00.out.size); (repeat (first | (with_reducible first | exact HB.out | apply below_alloc | apply pw_below_drewN | apply below_drew1) | exact HB.out))) | (repeat (first | (with_reducible first | exact HB.out | apply below_alloc | apply pw_below_drewN | apply below_drew1) | exact HB.out))⟩
                · have H1 : (some false) = some r := by rw [if_neg (show ¬ (some qo290).isNone = true by simp)] at H; exact H
                  clear H
                  have H := H1
                  clear H1
                  obtain rfl := Option.some.inj H
                  go_wp2_with (first | ((with_reducible refine gate_dst (N := 73) rfl ?_); (try (refine gate_guard (by rfl) ?_; dsimp only)); refine Kd.R_make (Kd.int .u8) _ 5 rfl (N := 73) rfl 42 _ _ rfl ji26 rfl rfl Try.underlying42 (.int .u8 0) 1 info5 rfl (by decide) (by omega) 0 (ok := fun _ => True) (okp := fun _ => True) rfl (fun _ hk => hk) trivial (of_decide_eq_true (by first | (with_reducible assumption) | assumption)) (Nat.le_trans (Nat.mul_le_mul_right _ (of_decide_eq_true (by first | (with_reducible assumption) | assumption) : ji26.toNat ≤ 281474976710656)) (by omega)) (Below.refl _ _) (Nat.le_refl _) ?_; intro v281 w48 ho49 hb hg_ hnew_; clear hg_ hnew_; (first | rw [← Ny280.out] at ho49 | (simp only [Int.reduceToNat] at ho49; rw [← Ny280.out] at ho49)); have n0_ := Aside0.mk (Kd.R_lower ho49 (below_size (by repeat (first | (with_reducible first | exact HB.out | apply below_alloc | apply pw_below_drewN | apply below_drew1) | exact HB.out)))); have n1_ := Aside0.mk (below_step (by repeat (first | (with_reducible first | exact HB.out | apply below_alloc | apply pw_below_drewN | apply below_drew1) | exact HB.out)) hb); clear HB; have HO282 := n0_; have HB := n1_; clear n0_ n1_; clear hb ho49; have hcv50 := own_string (P := Try.prog) Try.underlying42 Try.underlying5 Try.underlying9 (Kd.own_of_R HO282.out)) | ((with_reducible refine gate_dst (N := 75) rfl ?_); (try (refine gate_guard (by rfl) ?_; dsimp only)); refine Kd.R_lit Kd.string _ 9 ?hg (N := 75) ?hd (xs := ([strOfNums y280] : List ByteArray)) (inner := [.string (strOfNums y280)]) (ok := fun _ => True) (okp := fun _ => True) ?hr ?hp (fun _ hk => hk) trivial (Below.refl _ _) (Nat.le_refl _) (by simp) ?_; (case hd => rfl); (case hg => rfl); (case hr => first | (go_simp; done) | (go_simp; rfl)); (case hp => exact (Reps.one (show Kd.M Kd.string _ _ _ (strOfNums y280) [.string (strOfNums y280)] from rfl) (Reps.none _ _))); intro v284 w51 ho52 hb hg_ hnew_; clear hg_ hnew_; (first | rw [← Ny283.out] at ho52 | (simp only [Int.reduceToNat] at ho52; rw [← Ny283.out] at ho52)); have n0_ := Aside0.mk (Kd.R_below (by (with_reducible repeat (first | apply Kd.R_alloc | apply Kd.R_drewN | apply Kd.R_drew)); exact HO282.out) hb); have n1_ := Aside0.mk (Kd.R_lower ho52 (below_size (by repeat (first | (with_reducible first | exact HB.out | apply below_alloc | apply pw_below_drewN | apply below_drew1) | exact HB.out)))); have n2_ := Aside0.mk (below_step (by repeat (first | (with_reducible first | exact HB.out | apply below_alloc | apply pw_below_drewN | apply below_drew1) | exact HB.out)) hb); clear HO282; clear HB; have HO282 := n0_; have HO285 := n1_; have HB := n2_; clear n0_ n1_ n2_; clear hb ho52; obtain ⟨Ao53, co53, eo53⟩ := Kd.R_slice HO285.out; subst eo53) | ((with_reducible refine gate_callee (f := 8) rfl ?_); refine goesL_ (some 76) rfl rfl Try.func8 (by kernel_rfl) rfl #[.slice Ao53 y283.length co53] rfl (by (try simp only [List.map_toArray, List.map_cons, List.map_nil]); first | done | rfl | (simp only [List.length_drop, List.length_take]; rfl)) ?_; (with_reducible refine (pats_New.calls _ _ y283 (some qo290) t287 _ ?side1 ?side2 A29.out).mono ?_); (case side1 => repeat (first | exact (Kd.R_reads' HO285.out).2.2 | (with_reducible refine Kd.C_alloc ?_ _) | (with_reducible refine Kd.C_drewN ?_ _) | (with_reducible refine Kd.C_drew ?_))); (case side2 => exact (Kd.R_reads' HO285.out).2.1); rintro e w54 ⟨Pn0_, rfl, hob0, hb⟩; refine ⟨_, rfl, ?_⟩; have hbw_ := below_step (by repeat (first | (with_reducible first | exact HB.out | apply below_alloc | apply pw_below_drewN | apply below_drew1) | exact HB.out)) hb; obtain ⟨Ab288, cb288, eb288_, lb288_, gb288_⟩ := Kd.R_reads (Kd.R_below (by (with_reducible repeat (first | apply Kd.R_alloc | apply Kd.R_drewN | apply Kd.R_drew)); exact HO282.out) hb); (first | subst eb288_ | (injection eb288_ with f1_ f2_ f3_; have f4_ := f1_.symm; have f5_ := f3_.symm; clear f1_ f2_ f3_; subst f4_; subst f5_)); have HRb288 := Aside0.mk gb288_; have HCb288 := Aside0.mk lb288_; clear gb288_ lb288_; obtain ⟨Ab289, cb289, eb289_, lb289_, gb289_⟩ := Kd.R_reads (Kd.R_below (by (with_reducible repeat (first | apply Kd.R_alloc | apply Kd.R_drewN | apply Kd.R_drew)); exact HO285.out) hb); (first | subst eb289_ | (injection eb289_ with f1_ f2_ f3_; have f4_ := f1_.symm; have f5_ := f3_.symm; clear f1_ f2_ f3_; subst f4_; subst f5_)); have HRb289 := Aside0.mk gb289_; have HCb289 := Aside0.mk lb289_; clear gb289_ lb289_; (try clear HO282); (try clear HO285); (try (have n_ := Aside0.mk (Kd.C_below HRb288.out hbw_); clear HRb288; have HRb288 := n_; clear n_)); (try (have n_ := Aside0.mk (Kd.C_below HRb289.out hbw_); clear HRb289; have HRb289 := n_; clear n_)); (first | (have n_ := Aside0.mk (HB00.out.trans (hbw_.mono HB00.out.size)); clear HB00; have HB00 := n_; clear n_) | have HB00 := Aside0.mk hbw_); clear HB hb hbw_; obtain ⟨Pqo290, rfl⟩ := OB.p_some hob0; have HO_qo290 := Aside0.mk hob0; clear hob0; obtain ⟨w, rfl⟩ : ∃ w_ : World, w_ = w54 := ⟨_, rfl⟩; have HB := Aside0.mk (Below.refl w.heap.size w)))
                  go_ret
                  exact ⟨by first | rfl | (simp [errW_none, errW_some] <;> rfl) | (simp only [← hji26]; first | rfl | (simp [errW_none, errW_some] <;> rfl)) | (simp [*, errW_none, errW_some] <;> rfl), by first | (refine HB00.out.trans (Below.mono ?_ HB00.out.size); (repeat (first | (with_reducible first | exact HB.out | apply below_alloc | apply pw_below_drewN | apply below_drew1) | exact HB.out))) | (repeat (first | (with_reducible first | exact HB.out | apply below_alloc | apply pw_below_drewN | apply below_drew1) | exact HB.out))⟩
              · rw [if_neg c30] at H
                have c30b0 : decide (65535 < (ji26)) = false := decide_eq_false c30
                clear c30
                by_cases c55 : t287 = 0
                · rw [if_pos c55] at H
                  have c55b0 : (t287 == 0) = true := beq_iff_eq.mpr c55
                  have c55b1 : (t287 != 0) = false := bne_eq_false_iff_eq.mpr c55
                  clear c55
                  replace H := Option.bind_eq_some_iff.mp H
                  obtain ⟨t292, A560, H⟩ := H
                  replace H : (if t292 = (ji26) then ((pats_Set_Total.f t286).bind fun t293 => (if t293 = (ji26) then ((juratlaw10_awake.f).bind fun t294 => (some t294)) else (some false))) else (some false)) = some r := H
                  have A56 := Aside0.mk A560
                  clear A560
                  by_cases c57 : t292 = (ji26)
                  · rw [if_pos c57] at H
                    have c57b0 : (t292 == (ji26)) = true := beq_iff_eq.mpr c57
                    have c57b1 : (t292 != (ji26)) = false := bne_eq_false_iff_eq.mpr c57
                    clear c57
                    replace H := Option.bind_eq_some_iff.mp H
                    obtain ⟨t293, A580, H⟩ := H
                    replace H : (if t293 = (ji26) then ((juratlaw10_awake.f).bind fun t294 => (some t294)) else (some false)) = some r := H
                    have A58 := Aside0.mk A580
                    clear A580
                    by_cases c59 : t293 = (ji26)
                    · rw [if_pos c59] at H
                      have c59b0 : (t293 == (ji26)) = true := beq_iff_eq.mpr c59
                      have c59b1 : (t293 != (ji26)) = false := bne_eq_false_iff_eq.mpr c59
                      clear c59
                      replace H := Option.bind_eq_some_iff.mp H
                      obtain ⟨t294, A600, H⟩ := H
                      replace H : (some t294) = some r := H
                      have A60 := Aside0.mk A600
                      clear A600
                      obtain rfl := Option.some.inj H
                      go_wp2_with (first | ((with_reducible refine gate_dst (N := 73) rfl ?_); (try (refine gate_guard (by rfl) ?_; dsimp only)); refine Kd.R_make (Kd.int .u8) _ 5 rfl (N := 73) rfl 42 _ _ rfl ji26 rfl rfl Try.underlying42 (.int .u8 0) 1 info5 rfl (by decide) (by omega) 0 (ok := fun _ => True) (okp := fun _ => True) rfl (fun _ hk => hk) trivial (of_decide_eq_true (by first | (with_reducible assumption) | assumption)) (Nat.le_trans (Nat.mul_le_mul_right _ (of_decide_eq_true (by first | (with_reducible assumption) | assumption) : ji26.toNat ≤ 281474976710656)) (by omega)) (Below.refl _ _) (Nat.le_refl _) ?_; intro v281 w61 ho62 hb hg_ hnew_; clear hg_ hnew_; (first | rw [← Ny280.out] at ho62 | (simp only [Int.reduceToNat] at ho62; rw [← Ny280.out] at ho62)); have n0_ := Aside0.mk (Kd.R_lower ho62 (below_size (by repeat (first | (with_reducible first | exact HB.out | apply below_alloc | apply pw_below_drewN | apply below_drew1) | exact HB.out)))); have n1_ := Aside0.mk (below_step (by repeat (first | (with_reducible first | exact HB.out | apply below_alloc | apply pw_below_drewN | apply below_drew1) | exact HB.out)) hb); clear HB; have HO282 := n0_; have HB := n1_; clear n0_ n1_; clear hb ho62; have hcv63 := own_string (P := Try.prog) Try.underlying42 Try.underlying5 Try.underlying9 (Kd.own_of_R HO282.out)) | ((with_reducible refine gate_dst (N := 75) rfl ?_); (try (refine gate_guard (by rfl) ?_; dsimp only)); refine Kd.R_lit Kd.string _ 9 ?hg (N := 75) ?hd (xs := ([strOfNums y280] : List ByteArray)) (inner := [.string (strOfNums y280)]) (ok := fun _ => True) (okp := fun _ => True) ?hr ?hp (fun _ hk => hk) trivial (Below.refl _ _) (Nat.le_refl _) (by simp) ?_; (case hd => rfl); (case hg => rfl); (case hr => first | (go_simp; done) | (go_simp; rfl)); (case hp => exact (Reps.one (show Kd.M Kd.string _ _ _ (strOfNums y280) [.string (strOfNums y280)] from rfl) (Reps.none _ _))); intro v284 w64 ho65 hb hg_ hnew_; clear hg_ hnew_; (first | rw [← Ny283.out] at ho65 | (simp only [Int.reduceToNat] at ho65; rw [← Ny283.out] at ho65)); have n0_ := Aside0.mk (Kd.R_below (by (with_reducible repeat (first | apply Kd.R_alloc | apply Kd.R_drewN | apply Kd.R_drew)); exact HO282.out) hb); have n1_ := Aside0.mk (Kd.R_lower ho65 (below_size (by repeat (first | (with_reducible first | exact HB.out | apply below_alloc | apply pw_below_drewN | apply below_drew1) | exact HB.out)))); have n2_ := Aside0.mk (below_step (by repeat (first | (with_reducible first | exact HB.out | apply below_alloc | apply pw_below_drewN | apply below_drew1) | exact HB.out)) hb); clear HO282; clear HB; have HO282 := n0_; have HO285 := n1_; have HB := n2_; clear n0_ n1_ n2_; clear hb ho65; obtain ⟨Ao66, co66, eo66⟩ := Kd.R_slice HO285.out; subst eo66) | ((with_reducible refine gate_callee (f := 8) rfl ?_); refine goesL_ (some 76) rfl rfl Try.func8 (by kernel_rfl) rfl #[.slice Ao66 y283.length co66] rfl (by (try simp only [List.map_toArray, List.map_cons, List.map_nil]); first | done | rfl | (simp only [List.length_drop, List.length_take]; rfl)) ?_; (with_reducible refine (pats_New.calls _ _ y283 t286 t287 _ ?side1 ?side2 A29.out).mono ?_); (case side1 => repeat (first | exact (Kd.R_reads' HO285.out).2.2 | (with_reducible refine Kd.C_alloc ?_ _) | (with_reducible refine Kd.C_drewN ?_ _) | (with_reducible refine Kd.C_drew ?_))); (case side2 => exact (Kd.R_reads' HO285.out).2.1); rintro e w67 ⟨Pt286, rfl, hob0, hb⟩; refine ⟨_, rfl, ?_⟩; have hbw_ := below_step (by repeat (first | (with_reducible first | exact HB.out | apply below_alloc | apply pw_below_drewN | apply below_drew1) | exact HB.out)) hb; obtain ⟨Ab288, cb288, eb288_, lb288_, gb288_⟩ := Kd.R_reads (Kd.R_below (by (with_reducible repeat (first | apply Kd.R_alloc | apply Kd.R_drewN | apply Kd.R_drew)); exact HO282.out) hb); (first | subst eb288_ | (injection eb288_ with f1_ f2_ f3_; have f4_ := f1_.symm; have f5_ := f3_.symm; clear f1_ f2_ f3_; subst f4_; subst f5_)); have HRb288 := Aside0.mk gb288_; have HCb288 := Aside0.mk lb288_; clear gb288_ lb288_; obtain ⟨Ab289, cb289, eb289_, lb289_, gb289_⟩ := Kd.R_reads (Kd.R_below (by (with_reducible repeat (first | apply Kd.R_alloc | apply Kd.R_drewN | apply Kd.R_drew)); exact HO285.out) hb); (first | subst eb289_ | (injection eb289_ with f1_ f2_ f3_; have f4_ := f1_.symm; have f5_ := f3_.symm; clear f1_ f2_ f3_; subst f4_; subst f5_)); have HRb289 := Aside0.mk gb289_; have HCb289 := Aside0.mk lb289_; clear gb289_ lb289_; (try clear HO282); (try clear HO285); (try (have n_ := Aside0.mk (Kd.C_below HRb288.out hbw_); clear HRb288; have HRb288 := n_; clear n_)); (try (have n_ := Aside0.mk (Kd.C_below HRb289.out hbw_); clear HRb289; have HRb289 := n_; clear n_)); (try (have n_ := Aside0.mk (OB.below hbw_ HO_qo290.out); clear HO_qo290; have HO_qo290 := n_; clear n_)); (first | (have n_ := Aside0.mk (HB00.out.trans (hbw_.mono HB00.out.size)); clear HB00; have HB00 := n_; clear n_) | have HB00 := Aside0.mk hbw_); clear HB hb hbw_; have HO_t286 := Aside0.mk hob0; clear hob0; obtain ⟨w, rfl⟩ : ∃ w_ : World, w_ = w67 := ⟨_, rfl⟩; have HB := Aside0.mk (Below.refl w.heap.size w)) | (go_at_call 18; (with_reducible refine (pats_Set_Most.calls _ t286 t292 _ ?side1 A56.out).mono ?_); (case side1 => first | exact HO_t286.out | exact OB.drewN HO_t286.out _ | exact OB.below (by repeat (first | (with_reducible first | exact HB.out | apply below_alloc | apply pw_below_drewN | apply below_drew1) | exact HB.out)) HO_t286.out); rintro e w' ⟨rfl, ⟨nd, rfl⟩⟩) | (go_at_call 20; (with_reducible refine (pats_Set_Total.calls _ t286 t293 _ ?side1 A58.out).mono ?_); (case side1 => first | exact HO_t286.out | exact OB.drewN HO_t286.out _ | exact OB.below (by repeat (first | (with_reducible first | exact HB.out | apply below_alloc | apply pw_below_drewN | apply below_drew1) | exact HB.out)) HO_t286.out); rintro e w' ⟨rfl, ⟨nd, rfl⟩⟩) | (go_at_call 7; (with_reducible refine (juratlaw10_awake.calls  t294 _ A60.out).mono ?_); rintro e w68 ⟨rfl, hb⟩; have n0_ := Aside0.mk (below_step (by repeat (first | (with_reducible first | exact HB.out | apply below_alloc | apply pw_below_drewN | apply below_drew1) | exact HB.out)) hb); clear HB; have HB := n0_; clear n0_; (try clear hb); (try clear hb2); (try clear hk); (try clear hi)))
                      go_ret
                      exact ⟨by first | rfl | (simp [errW_none, errW_some] <;> rfl) | (simp only [← hji26]; first | rfl | (simp [errW_none, errW_some] <;> rfl)) | (simp [*, errW_none, errW_some] <;> rfl), by first | (refine HB00.out.trans (Below.mono ?_ HB00.out.size); (repeat (first | (with_reducible first | exact HB.out | apply below_alloc | apply pw_below_drewN | apply below_drew1) | exact HB.out))) | (repeat (first | (with_reducible first | exact HB.out | apply below_alloc | apply pw_below_drewN | apply below_drew1) | exact HB.out))⟩
                    · rw [if_neg c59] at H
                      have c59b0 : (t293 == (ji26)) = false := beq_eq_false_iff_ne.mpr c59
                      have c59b1 : (t293 != (ji26)) = true := bne_iff_ne.mpr c59
                      obtain rfl := Option.some.inj H
                      go_wp2_with (first | ((with_reducible refine gate_dst (N := 73) rfl ?_); (try (refine gate_guard (by rfl) ?_; dsimp only)); refine Kd.R_make (Kd.int .u8) _ 5 rfl (N := 73) rfl 42 _ _ rfl ji26 rfl rfl Try.underlying42 (.int .u8 0) 1 info5 rfl (by decide) (by omega) 0 (ok := fun _ => True) (okp := fun _ => True) rfl (fun _ hk => hk) trivial (of_decide_eq_true (by first | (with_reducible assumption) | assumption)) (Nat.le_trans (Nat.mul_le_mul_right _ (of_decide_eq_true (by first | (with_reducible assumption) | assumption) : ji26.toNat ≤ 281474976710656)) (by omega)) (Below.refl _ _) (Nat.le_refl _) ?_; intro v281 w69 ho70 hb hg_ hnew_; clear hg_ hnew_; (first | rw [← Ny280.out] at ho70 | (simp only [Int.reduceToNat] at ho70; rw [← Ny280.out] at ho70)); have n0_ := Aside0.mk (Kd.R_lower ho70 (below_size (by repeat (first | (with_reducible first | exact HB.out | apply below_alloc | apply pw_below_drewN | apply below_drew1) | exact HB.out)))); have n1_ := Aside0.mk (below_step (by repeat (first | (with_reducible first | exact HB.out | apply below_alloc | apply pw_below_drewN | apply below_drew1) | exact HB.out)) hb); clear HB; have HO282 := n0_; have HB := n1_; clear n0_ n1_; clear hb ho70; have hcv71 := own_string (P := Try.prog) Try.underlying42 Try.underlying5 Try.underlying9 (Kd.own_of_R HO282.out)) | ((with_reducible refine gate_dst (N := 75) rfl ?_); (try (refine gate_guard (by rfl) ?_; dsimp only)); refine Kd.R_lit Kd.string _ 9 ?hg (N := 75) ?hd (xs := ([strOfNums y280] : List ByteArray)) (inner := [.string (strOfNums y280)]) (ok := fun _ => True) (okp := fun _ => True) ?hr ?hp (fun _ hk => hk) trivial (Below.refl _ _) (Nat.le_refl _) (by simp) ?_; (case hd => rfl); (case hg => rfl); (case hr => first | (go_simp; done) | (go_simp; rfl)); (case hp => exact (Reps.one (show Kd.M Kd.string _ _ _ (strOfNums y280) [.string (strOfNums y280)] from rfl) (Reps.none _ _))); intro v284 w72 ho73 hb hg_ hnew_; clear hg_ hnew_; (first | rw [← Ny283.out] at ho73 | (simp only [Int.reduceToNat] at ho73; rw [← Ny283.out] at ho73)); have n0_ := Aside0.mk (Kd.R_below (by (with_reducible repeat (first | apply Kd.R_alloc | apply Kd.R_drewN | apply Kd.R_drew)); exact HO282.out) hb); have n1_ := Aside0.mk (Kd.R_lower ho73 (below_size (by repeat (first | (with_reducible first | exact HB.out | apply below_alloc | apply pw_below_drewN | apply below_drew1) | exact HB.out)))); have n2_ := Aside0.mk (below_step (by repeat (first | (with_reducible first | exact HB.out | apply below_alloc | apply pw_below_drewN | apply below_drew1) | exact HB.out)) hb); clear HO282; clear HB; have HO282 := n0_; have HO285 := n1_; have HB := n2_; clear n0_ n1_ n2_; clear hb ho73; obtain ⟨Ao74, co74, eo74⟩ := Kd.R_slice HO285.out; subst eo74) | ((with_reducible refine gate_callee (f := 8) rfl ?_); refine goesL_ (some 76) rfl rfl Try.func8 (by kernel_rfl) rfl #[.slice Ao74 y283.length co74] rfl (by (try simp only [List.map_toArray, List.map_cons, List.map_nil]); first | done | rfl | (simp only [List.length_drop, List.length_take]; rfl)) ?_; (with_reducible refine (pats_New.calls _ _ y283 t286 t287 _ ?side1 ?side2 A29.out).mono ?_); (case side1 => repeat (first | exact (Kd.R_reads' HO285.out).2.2 | (with_reducible refine Kd.C_alloc ?_ _) | (with_reducible refine Kd.C_drewN ?_ _) | (with_reducible refine Kd.C_drew ?_))); (case side2 => exact (Kd.R_reads' HO285.out).2.1); rintro e w75 ⟨Pt286, rfl, hob0, hb⟩; refine ⟨_, rfl, ?_⟩; have hbw_ := below_step (by repeat (first | (with_reducible first | exact HB.out | apply below_alloc | apply pw_below_drewN | apply below_drew1) | exact HB.out)) hb; obtain ⟨Ab288, cb288, eb288_, lb288_, gb288_⟩ := Kd.R_reads (Kd.R_below (by (with_reducible repeat (first | apply Kd.R_alloc | apply Kd.R_drewN | apply Kd.R_drew)); exact HO282.out) hb); (first | subst eb288_ | (injection eb288_ with f1_ f2_ f3_; have f4_ := f1_.symm; have f5_ := f3_.symm; clear f1_ f2_ f3_; subst f4_; subst f5_)); have HRb288 := Aside0.mk gb288_; have HCb288 := Aside0.mk lb288_; clear gb288_ lb288_; obtain ⟨Ab289, cb289, eb289_, lb289_, gb289_⟩ := Kd.R_reads (Kd.R_below (by (with_reducible repeat (first | apply Kd.R_alloc | apply Kd.R_drewN | apply Kd.R_drew)); exact HO285.out) hb); (first | subst eb289_ | (injection eb289_ with f1_ f2_ f3_; have f4_ := f1_.symm; have f5_ := f3_.symm; clear f1_ f2_ f3_; subst f4_; subst f5_)); have HRb289 := Aside0.mk gb289_; have HCb289 := Aside0.mk lb289_; clear gb289_ lb289_; (try clear HO282); (try clear HO285); (try (have n_ := Aside0.mk (Kd.C_below HRb288.out hbw_); clear HRb288; have HRb288 := n_; clear n_)); (try (have n_ := Aside0.mk (Kd.C_below HRb289.out hbw_); clear HRb289; have HRb289 := n_; clear n_)); (try (have n_ := Aside0.mk (OB.below hbw_ HO_qo290.out); clear HO_qo290; have HO_qo290 := n_; clear n_)); (try (have n_ := Aside0.mk (OB.below hbw_ HO_t286.out); clear HO_t286; have HO_t286 := n_; clear n_)); (first | (have n_ := Aside0.mk (HB00.out.trans (hbw_.mono HB00.out.size)); clear HB00; have HB00 := n_; clear n_) | have HB00 := Aside0.mk hbw_); clear HB hb hbw_; have HO_t286 := Aside0.mk hob0; clear hob0; obtain ⟨w, rfl⟩ : ∃ w_ : World, w_ = w75 := ⟨_, rfl⟩; have HB := Aside0.mk (Below.refl w.heap.size w)) | (go_at_call 18; (with_reducible refine (pats_Set_Most.calls _ t286 t292 _ ?side1 A56.out).mono ?_); (case side1 => first | exact HO_t286.out | exact OB.drewN HO_t286.out _ | exact OB.below (by repeat (first | (with_reducible first | exact HB.out | apply below_alloc | apply pw_below_drewN | apply below_drew1) | exact HB.out)) HO_t286.out); rintro e w' ⟨rfl, ⟨nd, rfl⟩⟩) | (go_at_call 20; (with_reducible refine (pats_Set_Total.calls _ t286 t293 _ ?side1 A58.out).mono ?_); (case side1 => first | exact HO_t286.out | exact OB.drewN HO_t286.out _ | exact OB.below (by repeat (first | (with_reducible first | exact HB.out | apply below_alloc | apply pw_below_drewN | apply below_drew1) | exact HB.out)) HO_t286.out); rintro e w' ⟨rfl, ⟨nd, rfl⟩⟩))
                      go_ret
                      exact ⟨by first | rfl | (simp [errW_none, errW_some] <;> rfl) | (simp only [← hji26]; first | rfl | (simp [errW_none, errW_some] <;> rfl)) | (simp [*, errW_none, errW_some] <;> rfl), by first | (refine HB00.out.trans (Below.mono ?_ HB00.out.size); (repeat (first | (with_reducible first | exact HB.out | apply below_alloc | apply pw_below_drewN | apply below_drew1) | exact HB.out))) | (repeat (first | (with_reducible first | exact HB.out | apply below_alloc | apply pw_below_drewN | apply below_drew1) | exact HB.out))⟩
                  · rw [if_neg c57] at H
                    have c57b0 : (t292 == (ji26)) = false := beq_eq_false_iff_ne.mpr c57
                    have c57b1 : (t292 != (ji26)) = true := bne_iff_ne.mpr c57
                    obtain rfl := Option.some.inj H
                    go_wp2_with (first | ((with_reducible refine gate_dst (N := 73) rfl ?_); (try (refine gate_guard (by rfl) ?_; dsimp only)); refine Kd.R_make (Kd.int .u8) _ 5 rfl (N := 73) rfl 42 _ _ rfl ji26 rfl rfl Try.underlying42 (.int .u8 0) 1 info5 rfl (by decide) (by omega) 0 (ok := fun _ => True) (okp := fun _ => True) rfl (fun _ hk => hk) trivial (of_decide_eq_true (by first | (with_reducible assumption) | assumption)) (Nat.le_trans (Nat.mul_le_mul_right _ (of_decide_eq_true (by first | (with_reducible assumption) | assumption) : ji26.toNat ≤ 281474976710656)) (by omega)) (Below.refl _ _) (Nat.le_refl _) ?_; intro v281 w76 ho77 hb hg_ hnew_; clear hg_ hnew_; (first | rw [← Ny280.out] at ho77 | (simp only [Int.reduceToNat] at ho77; rw [← Ny280.out] at ho77)); have n0_ := Aside0.mk (Kd.R_lower ho77 (below_size (by repeat (first | (with_reducible first | exact HB.out | apply below_alloc | apply pw_below_drewN | apply below_drew1) | exact HB.out)))); have n1_ := Aside0.mk (below_step (by repeat (first | (with_reducible first | exact HB.out | apply below_alloc | apply pw_below_drewN | apply below_drew1) | exact HB.out)) hb); clear HB; have HO282 := n0_; have HB := n1_; clear n0_ n1_; clear hb ho77; have hcv78 := own_string (P := Try.prog) Try.underlying42 Try.underlying5 Try.underlying9 (Kd.own_of_R HO282.out)) | ((with_reducible refine gate_dst (N := 75) rfl ?_); (try (refine gate_guard (by rfl) ?_; dsimp only)); refine Kd.R_lit Kd.string _ 9 ?hg (N := 75) ?hd (xs := ([strOfNums y280] : List ByteArray)) (inner := [.string (strOfNums y280)]) (ok := fun _ => True) (okp := fun _ => True) ?hr ?hp (fun _ hk => hk) trivial (Below.refl _ _) (Nat.le_refl _) (by simp) ?_; (case hd => rfl); (case hg => rfl); (case hr => first | (go_simp; done) | (go_simp; rfl)); (case hp => exact (Reps.one (show Kd.M Kd.string _ _ _ (strOfNums y280) [.string (strOfNums y280)] from rfl) (Reps.none _ _))); intro v284 w79 ho80 hb hg_ hnew_; clear hg_ hnew_; (first | rw [← Ny283.out] at ho80 | (simp only [Int.reduceToNat] at ho80; rw [← Ny283.out] at ho80)); have n0_ := Aside0.mk (Kd.R_below (by (with_reducible repeat (first | apply Kd.R_alloc | apply Kd.R_drewN | apply Kd.R_drew)); exact HO282.out) hb); have n1_ := Aside0.mk (Kd.R_lower ho80 (below_size (by repeat (first | (with_reducible first | exact HB.out | apply below_alloc | apply pw_below_drewN | apply below_drew1) | exact HB.out)))); have n2_ := Aside0.mk (below_step (by repeat (first | (with_reducible first | exact HB.out | apply below_alloc | apply pw_below_drewN | apply below_drew1) | exact HB.out)) hb); clear HO282; clear HB; have HO282 := n0_; have HO285 := n1_; have HB := n2_; clear n0_ n1_ n2_; clear hb ho80; obtain ⟨Ao81, co81, eo81⟩ := Kd.R_slice HO285.out; subst eo81) | ((with_reducible refine gate_callee (f := 8) rfl ?_); refine goesL_ (some 76) rfl rfl Try.func8 (by kernel_rfl) rfl #[.slice Ao81 y283.length co81] rfl (by (try simp only [List.map_toArray, List.map_cons, List.map_nil]); first | done | rfl | (simp only [List.length_drop, List.length_take]; rfl)) ?_; (with_reducible refine (pats_New.calls _ _ y283 t286 t287 _ ?side1 ?side2 A29.out).mono ?_); (case side1 => repeat (first | exact (Kd.R_reads' HO285.out).2.2 | (with_reducible refine Kd.C_alloc ?_ _) | (with_reducible refine Kd.C_drewN ?_ _) | (with_reducible refine Kd.C_drew ?_))); (case side2 => exact (Kd.R_reads' HO285.out).2.1); rintro e w82 ⟨Pt286, rfl, hob0, hb⟩; refine ⟨_, rfl, ?_⟩; have hbw_ := below_step (by repeat (first | (with_reducible first | exact HB.out | apply below_alloc | apply pw_below_drewN | apply below_drew1) | exact HB.out)) hb; obtain ⟨Ab288, cb288, eb288_, lb288_, gb288_⟩ := Kd.R_reads (Kd.R_below (by (with_reducible repeat (first | apply Kd.R_alloc | apply Kd.R_drewN | apply Kd.R_drew)); exact HO282.out) hb); (first | subst eb288_ | (injection eb288_ with f1_ f2_ f3_; have f4_ := f1_.symm; have f5_ := f3_.symm; clear f1_ f2_ f3_; subst f4_; subst f5_)); have HRb288 := Aside0.mk gb288_; have HCb288 := Aside0.mk lb288_; clear gb288_ lb288_; obtain ⟨Ab289, cb289, eb289_, lb289_, gb289_⟩ := Kd.R_reads (Kd.R_below (by (with_reducible repeat (first | apply Kd.R_alloc | apply Kd.R_drewN | apply Kd.R_drew)); exact HO285.out) hb); (first | subst eb289_ | (injection eb289_ with f1_ f2_ f3_; have f4_ := f1_.symm; have f5_ := f3_.symm; clear f1_ f2_ f3_; subst f4_; subst f5_)); have HRb289 := Aside0.mk gb289_; have HCb289 := Aside0.mk lb289_; clear gb289_ lb289_; (try clear HO282); (try clear HO285); (try (have n_ := Aside0.mk (Kd.C_below HRb288.out hbw_); clear HRb288; have HRb288 := n_; clear n_)); (try (have n_ := Aside0.mk (Kd.C_below HRb289.out hbw_); clear HRb289; have HRb289 := n_; clear n_)); (try (have n_ := Aside0.mk (OB.below hbw_ HO_qo290.out); clear HO_qo290; have HO_qo290 := n_; clear n_)); (try (have n_ := Aside0.mk (OB.below hbw_ HO_t286.out); clear HO_t286; have HO_t286 := n_; clear n_)); (first | (have n_ := Aside0.mk (HB00.out.trans (hbw_.mono HB00.out.size)); clear HB00; have HB00 := n_; clear n_) | have HB00 := Aside0.mk hbw_); clear HB hb hbw_; have HO_t286 := Aside0.mk hob0; clear hob0; obtain ⟨w, rfl⟩ : ∃ w_ : World, w_ = w82 := ⟨_, rfl⟩; have HB := Aside0.mk (Below.refl w.heap.size w)) | (go_at_call 18; (with_reducible refine (pats_Set_Most.calls _ t286 t292 _ ?side1 A56.out).mono ?_); (case side1 => first | exact HO_t286.out | exact OB.drewN HO_t286.out _ | exact OB.below (by repeat (first | (with_reducible first | exact HB.out | apply below_alloc | apply pw_below_drewN | apply below_drew1) | exact HB.out)) HO_t286.out); rintro e w' ⟨rfl, ⟨nd, rfl⟩⟩))
                    go_ret
                    exact ⟨by first | rfl | (simp [errW_none, errW_some] <;> rfl) | (simp only [← hji26]; first | rfl | (simp [errW_none, errW_some] <;> rfl)) | (simp [*, errW_none, errW_some] <;> rfl), by first | (refine HB00.out.trans (Below.mono ?_ HB00.out.size); (repeat (first | (with_reducible first | exact HB.out | apply below_alloc | apply pw_below_drewN | apply below_drew1) | exact HB.out))) | (repeat (first | (with_reducible first | exact HB.out | apply below_alloc | apply pw_below_drewN | apply below_drew1) | exact HB.out))⟩
                · rw [if_neg c55] at H
                  have c55b0 : (t287 == 0) = false := beq_eq_false_iff_ne.mpr c55
                  have c55b1 : (t287 != 0) = true := bne_iff_ne.mpr c55
                  obtain rfl := Option.some.inj H
                  go_wp2_with (first | ((with_reducible refine gate_dst (N := 73) rfl ?_); (try (refine gate_guard (by rfl) ?_; dsimp only)); refine Kd.R_make (Kd.int .u8) _ 5 rfl (N := 73) rfl 42 _ _ rfl ji26 rfl rfl Try.underlying42 (.int .u8 0) 1 info5 rfl (by decide) (by omega) 0 (ok := fun _ => True) (okp := fun _ => True) rfl (fun _ hk => hk) trivial (of_decide_eq_true (by first | (with_reducible assumption) | assumption)) (Nat.le_trans (Nat.mul_le_mul_right _ (of_decide_eq_true (by first | (with_reducible assumption) | assumption) : ji26.toNat ≤ 281474976710656)) (by omega)) (Below.refl _ _) (Nat.le_refl _) ?_; intro v281 w83 ho84 hb hg_ hnew_; clear hg_ hnew_; (first | rw [← Ny280.out] at ho84 | (simp only [Int.reduceToNat] at ho84; rw [← Ny280.out] at ho84)); have n0_ := Aside0.mk (Kd.R_lower ho84 (below_size (by repeat (first | (with_reducible first | exact HB.out | apply below_alloc | apply pw_below_drewN | apply below_drew1) | exact HB.out)))); have n1_ := Aside0.mk (below_step (by repeat (first | (with_reducible first | exact HB.out | apply below_alloc | apply pw_below_drewN | apply below_drew1) | exact HB.out)) hb); clear HB; have HO282 := n0_; have HB := n1_; clear n0_ n1_; clear hb ho84; have hcv85 := own_string (P := Try.prog) Try.underlying42 Try.underlying5 Try.underlying9 (Kd.own_of_R HO282.out)) | ((with_reducible refine gate_dst (N := 75) rfl ?_); (try (refine gate_guard (by rfl) ?_; dsimp only)); refine Kd.R_lit Kd.string _ 9 ?hg (N := 75) ?hd (xs := ([strOfNums y280] : List ByteArray)) (inner := [.string (strOfNums y280)]) (ok := fun _ => True) (okp := fun _ => True) ?hr ?hp (fun _ hk => hk) trivial (Below.refl _ _) (Nat.le_refl _) (by simp) ?_; (case hd => rfl); (case hg => rfl); (case hr => first | (go_simp; done) | (go_simp; rfl)); (case hp => exact (Reps.one (show Kd.M Kd.string _ _ _ (strOfNums y280) [.string (strOfNums y280)] from rfl) (Reps.none _ _))); intro v284 w86 ho87 hb hg_ hnew_; clear hg_ hnew_; (first | rw [← Ny283.out] at ho87 | (simp only [Int.reduceToNat] at ho87; rw [← Ny283.out] at ho87)); have n0_ := Aside0.mk (Kd.R_below (by (with_reducible repeat (first | apply Kd.R_alloc | apply Kd.R_drewN | apply Kd.R_drew)); exact HO282.out) hb); have n1_ := Aside0.mk (Kd.R_lower ho87 (below_size (by repeat (first | (with_reducible first | exact HB.out | apply below_alloc | apply pw_below_drewN | apply below_drew1) | exact HB.out)))); have n2_ := Aside0.mk (below_step (by repeat (first | (with_reducible first | exact HB.out | apply below_alloc | apply pw_below_drewN | apply below_drew1) | exact HB.out)) hb); clear HO282; clear HB; have HO282 := n0_; have HO285 := n1_; have HB := n2_; clear n0_ n1_ n2_; clear hb ho87; obtain ⟨Ao88, co88, eo88⟩ := Kd.R_slice HO285.out; subst eo88) | ((with_reducible refine gate_callee (f := 8) rfl ?_); refine goesL_ (some 76) rfl rfl Try.func8 (by kernel_rfl) rfl #[.slice Ao88 y283.length co88] rfl (by (try simp only [List.map_toArray, List.map_cons, List.map_nil]); first | done | rfl | (simp only [List.length_drop, List.length_take]; rfl)) ?_; (with_reducible refine (pats_New.calls _ _ y283 t286 t287 _ ?side1 ?side2 A29.out).mono ?_); (case side1 => repeat (first | exact (Kd.R_reads' HO285.out).2.2 | (with_reducible refine Kd.C_alloc ?_ _) | (with_reducible refine Kd.C_drewN ?_ _) | (with_reducible refine Kd.C_drew ?_))); (case side2 => exact (Kd.R_reads' HO285.out).2.1); rintro e w89 ⟨Pt286, rfl, hob0, hb⟩; refine ⟨_, rfl, ?_⟩; have hbw_ := below_step (by repeat (first | (with_reducible first | exact HB.out | apply below_alloc | apply pw_below_drewN | apply below_drew1) | exact HB.out)) hb; obtain ⟨Ab288, cb288, eb288_, lb288_, gb288_⟩ := Kd.R_reads (Kd.R_below (by (with_reducible repeat (first | apply Kd.R_alloc | apply Kd.R_drewN | apply Kd.R_drew)); exact HO282.out) hb); (first | subst eb288_ | (injection eb288_ with f1_ f2_ f3_; have f4_ := f1_.symm; have f5_ := f3_.symm; clear f1_ f2_ f3_; subst f4_; subst f5_)); have HRb288 := Aside0.mk gb288_; have HCb288 := Aside0.mk lb288_; clear gb288_ lb288_; obtain ⟨Ab289, cb289, eb289_, lb289_, gb289_⟩ := Kd.R_reads (Kd.R_below (by (with_reducible repeat (first | apply Kd.R_alloc | apply Kd.R_drewN | apply Kd.R_drew)); exact HO285.out) hb); (first | subst eb289_ | (injection eb289_ with f1_ f2_ f3_; have f4_ := f1_.symm; have f5_ := f3_.symm; clear f1_ f2_ f3_; subst f4_; subst f5_)); have HRb289 := Aside0.mk gb289_; have HCb289 := Aside0.mk lb289_; clear gb289_ lb289_; (try clear HO282); (try clear HO285); (try (have n_ := Aside0.mk (Kd.C_below HRb288.out hbw_); clear HRb288; have HRb288 := n_; clear n_)); (try (have n_ := Aside0.mk (Kd.C_below HRb289.out hbw_); clear HRb289; have HRb289 := n_; clear n_)); (try (have n_ := Aside0.mk (OB.below hbw_ HO_qo290.out); clear HO_qo290; have HO_qo290 := n_; clear n_)); (try (have n_ := Aside0.mk (OB.below hbw_ HO_t286.out); clear HO_t286; have HO_t286 := n_; clear n_)); (first | (have n_ := Aside0.mk (HB00.out.trans (hbw_.mono HB00.out.size)); clear HB00; have HB00 := n_; clear n_) | have HB00 := Aside0.mk hbw_); clear HB hb hbw_; have HO_t286 := Aside0.mk hob0; clear hob0; obtain ⟨w, rfl⟩ : ∃ w_ : World, w_ = w89 := ⟨_, rfl⟩; have HB := Aside0.mk (Below.refl w.heap.size w)))
                  go_ret
                  exact ⟨by first | rfl | (simp [errW_none, errW_some] <;> rfl) | (simp only [← hji26]; first | rfl | (simp [errW_none, errW_some] <;> rfl)) | (simp [*, errW_none, errW_some] <;> rfl), by first | (refine HB00.out.trans (Below.mono ?_ HB00.out.size); (repeat (first | (with_reducible first | exact HB.out | apply below_alloc | apply pw_below_drewN | apply below_drew1) | exact HB.out))) | (repeat (first | (with_reducible first | exact HB.out | apply below_alloc | apply pw_below_drewN | apply below_drew1) | exact HB.out))⟩
            · rw [if_neg c28] at H
              exact absurd H (by simp)
          · rw [if_neg c27] at H
            exact absurd H (by simp)

/-- THE ONE PURE STATEMENT of juratlaw10_PatsLong: yours. -/
def juratlaw10_PatsLong.Pure : Prop := ∀ (a0 : Int) (a1 : Int) (a2 : ByteArray), (Lit.int .i64 a0).wf = true → (Lit.int .i64 a1).wf = true → a2.size ≤ 140737488351232 → ∃ k, juratlaw10_PatsLong.f k a0 a1 a2 = some true
theorem juratlaw10_PatsLong.walk (P : juratlaw10_PatsLong.Pure) (a0 : Int) (a1 : Int) (a2 : ByteArray) (w : World) (w0 : (Lit.int .i64 a0).wf = true) (w1 : (Lit.int .i64 a1).wf = true) (w2 : a2.size ≤ 140737488351232) :
    Calls Try.prog 5 #[.int .i64 a0, .int .i64 a1, .string a2] w fun e w' => e = .returned (.bool true) ∧ Below w.heap.size w w' := by
  obtain ⟨k, h⟩ := P a0 a1 a2 w0 w1 w2
  refine (juratlaw10_PatsLong.calls k a0 a1 a2 true w h).mono ?_
  rintro e w' ⟨rfl, hd⟩
  exact ⟨rfl, hd⟩

end Go.Proofs.Ytkdfbepdpcdehaa.P
