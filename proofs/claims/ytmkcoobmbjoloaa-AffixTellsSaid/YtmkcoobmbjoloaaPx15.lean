/- Proved here: what Go functions of this seat compute, or a law of it; no condition beyond the statement's own. Written for this claim by a program of this session (wip/myprint.py) over the kit's print.py. -/
import Derived.Test.YtmkcoobmbjoloaaPx0
import Derived.Test.YtmkcoobmbjoloaaPx68
import Derived.Test.YtmkcoobmbjoloaaPx69
import Derived.Test.YtmkcoobmbjoloaaPx72
import Derived.Test.YtmkcoobmbjoloaaPx73
import Derived.Test.YtmkcoobmbjoloaaPx74
import Derived.Test.YtmkcoobmbjoloaaPx75
import Derived.Test.YtmkcoobmbjoloaaPx76
import Derived.Test.YtmkcoobmbjoloaaPx77
import Derived.Test.YtmkcoobmbjoloaaPx78
namespace Go.Proofs.Ytmkcoobmbjoloaa.P
open Go.RowKit Go.Proofs.YtmkcoobmbjoloaaW.PrintWords Go.Proofs.YtmkcoobmbjoloaaW.PrintLast Go.Proofs.YtmkcoobmbjoloaaW.PrintMore
attribute [local go_sem] max2_int min2_int max_two min_two max_three min_three max_four min_four   -- for this text's walks alone
set_option linter.unusedVariables false
set_option linter.unusedSimpArgs false

/-! ### juratlaw09_AffixTells: function 15 -/
def juratlaw09_AffixTells.j0 : Nat → ByteArray → ByteArray → Bool → Option (Bool)
  | 0, _, _, _ => none
  | k + 1, x0, x1, x14 => if x14 = true then ((juratlaw09_awake.f k).bind fun t603 => (some t603)) else ((juratref09_Prefix.f k x0 x1).bind fun t604 => ((juratref09_Suffix.f k x0 x1).bind fun t605 => ((affix_Prefix.f k x0 x1).bind fun t606 => (if t606 = t604 then ((affix_Suffix.f k x0 x1).bind fun t607 => (if t607 = t605 then ((affix_Begins.f k x0 x1).bind fun t608 => (if (t608 == (t604 == (x1.size : Int))) = true then ((affix_Ends.f k x0 x1).bind fun t609 => (if (t609 == (t605 == (x1.size : Int))) = true then ((affix_Compare.f k x0 x1).bind fun t610 => ((juratref09_Compare.f x0 x1).bind fun t611 => (if t610 = t611 then ((juratlaw09_awake.f k).bind fun t612 => (some t612)) else (some false)))) else (some false))) else (some false))) else (some false))) else (some false)))))
def juratlaw09_AffixTells.f (k : Nat) (a0 : ByteArray) (a1 : ByteArray) : Option (Bool) := if (a0.size : Int) > 200 then (juratlaw09_AffixTells.j0 k a0 a1 true) else (juratlaw09_AffixTells.j0 k a0 a1 (decide ((a1.size : Int) > 200)))
theorem juratlaw09_AffixTells.mono_l : ∀ k, (∀ y0 y1 y2, LeO (juratlaw09_AffixTells.j0 k y0 y1 y2) (juratlaw09_AffixTells.j0 (k + 1) y0 y1 y2))
  | 0 => fun _ _ _ r h => by simp [juratlaw09_AffixTells.j0] at h
  | k + 1 => by
    have ih0 := juratlaw09_AffixTells.mono_l k
    · intro y0 y1 y2
      unfold juratlaw09_AffixTells.j0
      repeat' first
      | (with_reducible exact ih0 _ _ _)
      | (with_reducible exact affix_Begins.mono _ _ _)
      | (with_reducible exact affix_Compare.mono _ _ _)
      | (with_reducible exact affix_Ends.mono _ _ _)
      | (with_reducible exact affix_Prefix.mono _ _ _)
      | (with_reducible exact affix_Suffix.mono _ _ _)
      | (with_reducible exact juratlaw09_awake.mono _)
      | (with_reducible exact juratref09_Prefix.mono _ _ _)
      | (with_reducible exact juratref09_Suffix.mono _ _ _)
      | (with_reducible exact LeO.refl _)
      | (with_reducible exact LeO.none _)
      | (with_reducible refine LeO.ite ?_ ?_)
      | (with_reducible refine LeO.bind ?_ (fun _ => ?_))
      | exact ih0 _ _ _
      | exact affix_Begins.mono _ _ _
      | exact affix_Compare.mono _ _ _
      | exact affix_Ends.mono _ _ _
      | exact affix_Prefix.mono _ _ _
      | exact affix_Suffix.mono _ _ _
      | exact juratlaw09_awake.mono _
      | exact juratref09_Prefix.mono _ _ _
      | exact juratref09_Suffix.mono _ _ _
      | exact LeO.none _
      | refine LeO.ite ?_ ?_
      | refine LeO.bind ?_ (fun _ => ?_)
theorem juratlaw09_AffixTells.mono : ∀ a0 a1 k, LeO (juratlaw09_AffixTells.f k a0 a1) (juratlaw09_AffixTells.f (k + 1) a0 a1) := by
  intro a0 a1 k
  have ih0 := juratlaw09_AffixTells.mono_l k
  unfold juratlaw09_AffixTells.f
  repeat' first
      | (with_reducible exact ih0 _ _ _)
      | (with_reducible exact affix_Begins.mono _ _ _)
      | (with_reducible exact affix_Compare.mono _ _ _)
      | (with_reducible exact affix_Ends.mono _ _ _)
      | (with_reducible exact affix_Prefix.mono _ _ _)
      | (with_reducible exact affix_Suffix.mono _ _ _)
      | (with_reducible exact juratlaw09_awake.mono _)
      | (with_reducible exact juratref09_Prefix.mono _ _ _)
      | (with_reducible exact juratref09_Suffix.mono _ _ _)
      | (with_reducible exact LeO.refl _)
      | (with_reducible exact LeO.none _)
      | (with_reducible refine LeO.ite ?_ ?_)
      | (with_reducible refine LeO.bind ?_ (fun _ => ?_))
      | exact ih0 _ _ _
      | exact affix_Begins.mono _ _ _
      | exact affix_Compare.mono _ _ _
      | exact affix_Ends.mono _ _ _
      | exact affix_Prefix.mono _ _ _
      | exact affix_Suffix.mono _ _ _
      | exact juratlaw09_awake.mono _
      | exact juratref09_Prefix.mono _ _ _
      | exact juratref09_Suffix.mono _ _ _
      | exact LeO.none _
      | refine LeO.ite ?_ ?_
      | refine LeO.bind ?_ (fun _ => ?_)
set_option maxHeartbeats 8000000 in
set_option maxRecDepth 100000 in
theorem juratlaw09_AffixTells.calls (k : Nat) (a0 : ByteArray) (a1 : ByteArray) (r : Bool) (w : World) (h : juratlaw09_AffixTells.f k a0 a1 = some r) :
    Calls Try.prog 15 #[.string a0, .string a1] w fun e w' => e = .returned (.bool r) ∧ Below w.heap.size w w' := by
  have HB := Aside0.mk (Below.refl w.heap.size w)
  have H : (if (a0.size : Int) > 200 then (juratlaw09_AffixTells.j0 k a0 a1 true) else (juratlaw09_AffixTells.j0 k a0 a1 (decide ((a1.size : Int) > 200)))) = some r := h
  clear h
  have HC3 := Aside0.mk H
  clear H
  go_enter Try.func15, Try.ntmps15
  go_upto_region 1 with (fail)
  go_cut [14] (fun v14 wc => ∃ (kq : Nat) (x14_2 : Bool), v14 = .bool x14_2 ∧ Aside0 (juratlaw09_AffixTells.j0 kq a0 a1 x14_2 = some r) ∧ Aside0 (kq ≤ k) ∧ Aside0 (Below w.heap.size w wc))
  case first =>
    have H := HC3.out
    clear HC3
    by_cases c4 : (a0.size : Int) > 200
    · rw [if_pos c4] at H
      have c4b0 : decide (200 < (a0.size : Int)) = true := decide_eq_true c4
      have c4b1 : decide (200 < a0.size) = true := decide_eq_true (by omega)
      clear c4
      (first | rw [c4b0] | rw [c4b1] | (simp only [i64_w, i32_w]; rw [c4b0]) | skip)
      have H' := Aside0.mk H
      clear H
      go_wp2
      go_meet
      case rel => exact ⟨_, (true), (by first | rfl | exact isE_ _ | exact isE2_ _ | (simp; done) | (simp [*]; done)), H', ⟨by first | omega | exact Nat.le_refl _⟩, ⟨by repeat (first | (with_reducible first | exact HB.out | apply below_alloc | apply pw_below_drewN | apply below_drew1) | exact HB.out)⟩⟩
    · rw [if_neg c4] at H
      have c4b0 : decide (200 < (a0.size : Int)) = false := decide_eq_false c4
      have c4b1 : decide (200 < a0.size) = false := decide_eq_false (by omega)
      clear c4
      (first | rw [c4b0] | rw [c4b1] | (simp only [i64_w, i32_w]; rw [c4b0]) | skip)
      have H' := Aside0.mk H
      clear H
      go_wp2
      go_meet
      case rel => exact ⟨_, (decide ((a1.size : Int) > 200)), (by first | rfl | exact isE_ _ | exact isE2_ _ | (simp; done) | (simp [*]; done)), H', ⟨by first | omega | exact Nat.le_refl _⟩, ⟨by repeat (first | (with_reducible first | exact HB.out | apply below_alloc | apply pw_below_drewN | apply below_drew1) | exact HB.out)⟩⟩
  case rest =>
    clear HC3
    try clear c1
    try clear p2
    try clear c4
    try clear c4b0
    try clear c4b1
    obtain ⟨kq, x14_2, rfl, HA, HJ2, HB⟩ := hcut
    cases kq with
    | zero => exact absurd HA.out (by simp [juratlaw09_AffixTells.j0])
    | succ kj2 =>
      have H := HA.out
      clear HA
      simp only [juratlaw09_AffixTells.j0] at H
      by_cases c5 : x14_2 = true
      · subst c5
        have H1 : ((juratlaw09_awake.f kj2).bind fun t603 => (some t603)) = some r := by rw [if_pos rfl] at H; exact H
        clear H
        have H := H1
        clear H1
        replace H := Option.bind_eq_some_iff.mp H
        obtain ⟨t603, A60, H⟩ := H
        replace H : (some t603) = some r := H
        have A6 := Aside0.mk A60
        clear A60
        obtain rfl := Option.some.inj H
        go_wp2_with (first | ((with_reducible refine gate_callee (f := 68) rfl ?_); refine goesL_ (some 15) rfl rfl Try.func68 (by kernel_rfl) rfl #[] rfl (by (try simp only [List.map_toArray, List.map_cons, List.map_nil]); first | done | rfl | (simp only [List.length_drop, List.length_take]; rfl)) ?_; (with_reducible refine (juratlaw09_awake.calls kj2  t603 _ A6.out).mono ?_); rintro e w7 ⟨rfl, hb⟩; refine ⟨_, rfl, ?_⟩; have n0_ := Aside0.mk (below_step (by repeat (first | (with_reducible first | exact HB.out | apply below_alloc | apply pw_below_drewN | apply below_drew1) | exact HB.out)) hb); clear HB; have HB := n0_; clear n0_; (try clear hb); (try clear hb2); (try clear hk); (try clear hi)))
        go_ret
        exact ⟨by first | rfl | (simp [errW_none, errW_some] <;> rfl) | (simp [*, errW_none, errW_some] <;> rfl), by repeat (first | (with_reducible first | exact HB.out | apply below_alloc | apply pw_below_drewN | apply below_drew1) | exact HB.out)⟩
      · replace c5 := Bool.eq_false_iff.mpr c5
        subst c5
        have H1 : ((juratref09_Prefix.f kj2 a0 a1).bind fun t604 => ((juratref09_Suffix.f kj2 a0 a1).bind fun t605 => ((affix_Prefix.f kj2 a0 a1).bind fun t606 => (if t606 = t604 then ((affix_Suffix.f kj2 a0 a1).bind fun t607 => (if t607 = t605 then ((affix_Begins.f kj2 a0 a1).bind fun t608 => (if (t608 == (t604 == (a1.size : Int))) = true then ((affix_Ends.f kj2 a0 a1).bind fun t609 => (if (t609 == (t605 == (a1.size : Int))) = true then ((affix_Compare.f kj2 a0 a1).bind fun t610 => ((juratref09_Compare.f a0 a1).bind fun t611 => (if t610 = t611 then ((juratlaw09_awake.f kj2).bind fun t612 => (some t612)) else (some false)))) else (some false))) else (some false))) else (some false))) else (some false))))) = some r := by rw [if_neg (show ¬ (false = true) by decide)] at H; exact H
        clear H
        have H := H1
        clear H1
        replace H := Option.bind_eq_some_iff.mp H
        obtain ⟨t604, A80, H⟩ := H
        replace H : ((juratref09_Suffix.f kj2 a0 a1).bind fun t605 => ((affix_Prefix.f kj2 a0 a1).bind fun t606 => (if t606 = t604 then ((affix_Suffix.f kj2 a0 a1).bind fun t607 => (if t607 = t605 then ((affix_Begins.f kj2 a0 a1).bind fun t608 => (if (t608 == (t604 == (a1.size : Int))) = true then ((affix_Ends.f kj2 a0 a1).bind fun t609 => (if (t609 == (t605 == (a1.size : Int))) = true then ((affix_Compare.f kj2 a0 a1).bind fun t610 => ((juratref09_Compare.f a0 a1).bind fun t611 => (if t610 = t611 then ((juratlaw09_awake.f kj2).bind fun t612 => (some t612)) else (some false)))) else (some false))) else (some false))) else (some false))) else (some false)))) = some r := H
        have A8 := Aside0.mk A80
        clear A80
        replace H := Option.bind_eq_some_iff.mp H
        obtain ⟨t605, A90, H⟩ := H
        replace H : ((affix_Prefix.f kj2 a0 a1).bind fun t606 => (if t606 = t604 then ((affix_Suffix.f kj2 a0 a1).bind fun t607 => (if t607 = t605 then ((affix_Begins.f kj2 a0 a1).bind fun t608 => (if (t608 == (t604 == (a1.size : Int))) = true then ((affix_Ends.f kj2 a0 a1).bind fun t609 => (if (t609 == (t605 == (a1.size : Int))) = true then ((affix_Compare.f kj2 a0 a1).bind fun t610 => ((juratref09_Compare.f a0 a1).bind fun t611 => (if t610 = t611 then ((juratlaw09_awake.f kj2).bind fun t612 => (some t612)) else (some false)))) else (some false))) else (some false))) else (some false))) else (some false))) = some r := H
        have A9 := Aside0.mk A90
        clear A90
        replace H := Option.bind_eq_some_iff.mp H
        obtain ⟨t606, A100, H⟩ := H
        replace H : (if t606 = t604 then ((affix_Suffix.f kj2 a0 a1).bind fun t607 => (if t607 = t605 then ((affix_Begins.f kj2 a0 a1).bind fun t608 => (if (t608 == (t604 == (a1.size : Int))) = true then ((affix_Ends.f kj2 a0 a1).bind fun t609 => (if (t609 == (t605 == (a1.size : Int))) = true then ((affix_Compare.f kj2 a0 a1).bind fun t610 => ((juratref09_Compare.f a0 a1).bind fun t611 => (if t610 = t611 then ((juratlaw09_awake.f kj2).bind fun t612 => (some t612)) else (some false)))) else (some false))) else (some false))) else (some false))) else (some false)) = some r := H
        have A10 := Aside0.mk A100
        clear A100
        by_cases c11 : t606 = t604
        · rw [if_pos c11] at H
          have c11b0 : (t606 == t604) = true := beq_iff_eq.mpr c11
          have c11b1 : (t606 != t604) = false := bne_eq_false_iff_eq.mpr c11
          clear c11
          replace H := Option.bind_eq_some_iff.mp H
          obtain ⟨t607, A120, H⟩ := H
          replace H : (if t607 = t605 then ((affix_Begins.f kj2 a0 a1).bind fun t608 => (if (t608 == (t604 == (a1.size : Int))) = true then ((affix_Ends.f kj2 a0 a1).bind fun t609 => (if (t609 == (t605 == (a1.size : Int))) = true then ((affix_Compare.f kj2 a0 a1).bind fun t610 => ((juratref09_Compare.f a0 a1).bind fun t611 => (if t610 = t611 then ((juratlaw09_awake.f kj2).bind fun t612 => (some t612)) else (some false)))) else (some false))) else (some false))) else (some false)) = some r := H
          have A12 := Aside0.mk A120
          clear A120
          by_cases c13 : t607 = t605
          · rw [if_pos c13] at H
            have c13b0 : (t607 == t605) = true := beq_iff_eq.mpr c13
            have c13b1 : (t607 != t605) = false := bne_eq_false_iff_eq.mpr c13
            clear c13
            replace H := Option.bind_eq_some_iff.mp H
            obtain ⟨t608, A140, H⟩ := H
            replace H : (if (t608 == (t604 == (a1.size : Int))) = true then ((affix_Ends.f kj2 a0 a1).bind fun t609 => (if (t609 == (t605 == (a1.size : Int))) = true then ((affix_Compare.f kj2 a0 a1).bind fun t610 => ((juratref09_Compare.f a0 a1).bind fun t611 => (if t610 = t611 then ((juratlaw09_awake.f kj2).bind fun t612 => (some t612)) else (some false)))) else (some false))) else (some false)) = some r := H
            have A14 := Aside0.mk A140
            clear A140
            by_cases c15 : (t608 == (t604 == (a1.size : Int))) = true
            · rw [if_pos c15] at H
              have c15b0 : (t608 == (t604 == (a1.size : Int))) = true := c15
              (try (have c15b1 : decide (t608 = (t604 == (a1.size : Int))) = true := by simpa using c15))
              (try (have c15b2 : (t608 == (t604 == (a1.size : Int))) = true := by simpa using c15))
              clear c15
              replace H := Option.bind_eq_some_iff.mp H
              obtain ⟨t609, A160, H⟩ := H
              replace H : (if (t609 == (t605 == (a1.size : Int))) = true then ((affix_Compare.f kj2 a0 a1).bind fun t610 => ((juratref09_Compare.f a0 a1).bind fun t611 => (if t610 = t611 then ((juratlaw09_awake.f kj2).bind fun t612 => (some t612)) else (some false)))) else (some false)) = some r := H
              have A16 := Aside0.mk A160
              clear A160
              by_cases c17 : (t609 == (t605 == (a1.size : Int))) = true
              · rw [if_pos c17] at H
                have c17b0 : (t609 == (t605 == (a1.size : Int))) = true := c17
                (try (have c17b1 : decide (t609 = (t605 == (a1.size : Int))) = true := by simpa using c17))
                (try (have c17b2 : (t609 == (t605 == (a1.size : Int))) = true := by simpa using c17))
                clear c17
                replace H := Option.bind_eq_some_iff.mp H
                obtain ⟨t610, A180, H⟩ := H
                replace H : ((juratref09_Compare.f a0 a1).bind fun t611 => (if t610 = t611 then ((juratlaw09_awake.f kj2).bind fun t612 => (some t612)) else (some false))) = some r := H
                have A18 := Aside0.mk A180
                clear A180
                replace H := Option.bind_eq_some_iff.mp H
                obtain ⟨t611, A190, H⟩ := H
                replace H : (if t610 = t611 then ((juratlaw09_awake.f kj2).bind fun t612 => (some t612)) else (some false)) = some r := H
                have A19 := Aside0.mk A190
                clear A190
                by_cases c20 : t610 = t611
                · rw [if_pos c20] at H
                  have c20b0 : (t610 == t611) = true := beq_iff_eq.mpr c20
                  have c20b1 : (t610 != t611) = false := bne_eq_false_iff_eq.mpr c20
                  clear c20
                  replace H := Option.bind_eq_some_iff.mp H
                  obtain ⟨t612, A210, H⟩ := H
                  replace H : (some t612) = some r := H
                  have A21 := Aside0.mk A210
                  clear A210
                  obtain rfl := Option.some.inj H
                  go_wp2_with (first | ((with_reducible refine gate_callee (f := 73) rfl ?_); refine goesL_ (some 18) rfl rfl Try.func73 (by kernel_rfl) rfl #[.string a0, .string a1] rfl (by (try simp only [List.map_toArray, List.map_cons, List.map_nil]); first | done | rfl | (simp only [List.length_drop, List.length_take]; rfl)) ?_; (with_reducible refine (juratref09_Prefix.calls kj2 a0 a1 t604 _ A8.out).mono ?_); rintro e w' ⟨rfl, ⟨nd, rfl⟩⟩; refine ⟨_, rfl, ?_⟩) | ((with_reducible refine gate_callee (f := 74) rfl ?_); refine goesL_ (some 21) rfl rfl Try.func74 (by kernel_rfl) rfl #[.string a0, .string a1] rfl (by (try simp only [List.map_toArray, List.map_cons, List.map_nil]); first | done | rfl | (simp only [List.length_drop, List.length_take]; rfl)) ?_; (with_reducible refine (juratref09_Suffix.calls kj2 a0 a1 t605 _ A9.out).mono ?_); rintro e w' ⟨rfl, ⟨nd, rfl⟩⟩; refine ⟨_, rfl, ?_⟩) | ((with_reducible refine gate_callee (f := 72) rfl ?_); refine goesL_ (some 24) rfl rfl Try.func72 (by kernel_rfl) rfl #[.string a0, .string a1] rfl (by (try simp only [List.map_toArray, List.map_cons, List.map_nil]); first | done | rfl | (simp only [List.length_drop, List.length_take]; rfl)) ?_; (with_reducible refine (affix_Prefix.calls kj2 a0 a1 t606 _ A10.out).mono ?_); rintro e w' ⟨rfl, ⟨nd, rfl⟩⟩; refine ⟨_, rfl, ?_⟩) | (go_at_call 75; (with_reducible refine (affix_Suffix.calls kj2 a0 a1 t607 _ A12.out).mono ?_); rintro e w' ⟨rfl, ⟨nd, rfl⟩⟩) | (go_at_call 76; (with_reducible refine (affix_Begins.calls kj2 a0 a1 t608 _ A14.out).mono ?_); rintro e w' ⟨rfl, ⟨nd, rfl⟩⟩) | (go_at_call 77; (with_reducible refine (affix_Ends.calls kj2 a0 a1 t609 _ A16.out).mono ?_); rintro e w' ⟨rfl, ⟨nd, rfl⟩⟩) | (go_at_call 69; (with_reducible refine (affix_Compare.calls kj2 a0 a1 t610 _ A18.out).mono ?_); rintro e w' ⟨rfl, ⟨nd, rfl⟩⟩) | (go_at_call 78; (with_reducible refine (juratref09_Compare.calls a0 a1 t611 _ A19.out).mono ?_); rintro e w' ⟨rfl, ⟨nd, rfl⟩⟩) | (go_at_call 68; (with_reducible refine (juratlaw09_awake.calls kj2  t612 _ A21.out).mono ?_); rintro e w22 ⟨rfl, hb⟩; have n0_ := Aside0.mk (below_step (by repeat (first | (with_reducible first | exact HB.out | apply below_alloc | apply pw_below_drewN | apply below_drew1) | exact HB.out)) hb); clear HB; have HB := n0_; clear n0_; (try clear hb); (try clear hb2); (try clear hk); (try clear hi)))
                  go_ret
                  exact ⟨by first | rfl | (simp [errW_none, errW_some] <;> rfl) | (simp [*, errW_none, errW_some] <;> rfl), by repeat (first | (with_reducible first | exact HB.out | apply below_alloc | apply pw_below_drewN | apply below_drew1) | exact HB.out)⟩
                · rw [if_neg c20] at H
                  have c20b0 : (t610 == t611) = false := beq_eq_false_iff_ne.mpr c20
                  have c20b1 : (t610 != t611) = true := bne_iff_ne.mpr c20
                  obtain rfl := Option.some.inj H
                  go_wp2_with (first | ((with_reducible refine gate_callee (f := 73) rfl ?_); refine goesL_ (some 18) rfl rfl Try.func73 (by kernel_rfl) rfl #[.string a0, .string a1] rfl (by (try simp only [List.map_toArray, List.map_cons, List.map_nil]); first | done | rfl | (simp only [List.length_drop, List.length_take]; rfl)) ?_; (with_reducible refine (juratref09_Prefix.calls kj2 a0 a1 t604 _ A8.out).mono ?_); rintro e w' ⟨rfl, ⟨nd, rfl⟩⟩; refine ⟨_, rfl, ?_⟩) | ((with_reducible refine gate_callee (f := 74) rfl ?_); refine goesL_ (some 21) rfl rfl Try.func74 (by kernel_rfl) rfl #[.string a0, .string a1] rfl (by (try simp only [List.map_toArray, List.map_cons, List.map_nil]); first | done | rfl | (simp only [List.length_drop, List.length_take]; rfl)) ?_; (with_reducible refine (juratref09_Suffix.calls kj2 a0 a1 t605 _ A9.out).mono ?_); rintro e w' ⟨rfl, ⟨nd, rfl⟩⟩; refine ⟨_, rfl, ?_⟩) | ((with_reducible refine gate_callee (f := 72) rfl ?_); refine goesL_ (some 24) rfl rfl Try.func72 (by kernel_rfl) rfl #[.string a0, .string a1] rfl (by (try simp only [List.map_toArray, List.map_cons, List.map_nil]); first | done | rfl | (simp only [List.length_drop, List.length_take]; rfl)) ?_; (with_reducible refine (affix_Prefix.calls kj2 a0 a1 t606 _ A10.out).mono ?_); rintro e w' ⟨rfl, ⟨nd, rfl⟩⟩; refine ⟨_, rfl, ?_⟩) | (go_at_call 75; (with_reducible refine (affix_Suffix.calls kj2 a0 a1 t607 _ A12.out).mono ?_); rintro e w' ⟨rfl, ⟨nd, rfl⟩⟩) | (go_at_call 76; (with_reducible refine (affix_Begins.calls kj2 a0 a1 t608 _ A14.out).mono ?_); rintro e w' ⟨rfl, ⟨nd, rfl⟩⟩) | (go_at_call 77; (with_reducible refine (affix_Ends.calls kj2 a0 a1 t609 _ A16.out).mono ?_); rintro e w' ⟨rfl, ⟨nd, rfl⟩⟩) | (go_at_call 69; (with_reducible refine (affix_Compare.calls kj2 a0 a1 t610 _ A18.out).mono ?_); rintro e w' ⟨rfl, ⟨nd, rfl⟩⟩) | (go_at_call 78; (with_reducible refine (juratref09_Compare.calls a0 a1 t611 _ A19.out).mono ?_); rintro e w' ⟨rfl, ⟨nd, rfl⟩⟩))
                  go_ret
                  exact ⟨by first | rfl | (simp [errW_none, errW_some] <;> rfl) | (simp [*, errW_none, errW_some] <;> rfl), by repeat (first | (with_reducible first | exact HB.out | apply below_alloc | apply pw_below_drewN | apply below_drew1) | exact HB.out)⟩
              · rw [if_neg c17] at H
                have c17b0 : (t609 == (t605 == (a1.size : Int))) = false := by simpa using c17
                (try (have c17b1 : decide (t609 = (t605 == (a1.size : Int))) = false := by simpa using c17))
                (try (have c17b2 : (t609 == (t605 == (a1.size : Int))) = false := by simpa using c17))
                (try (have c17b3 : ¬ (t609 = (t605 == (a1.size : Int))) := by simpa using c17))
                clear c17
                obtain rfl := Option.some.inj H
                go_wp2_with (first | ((with_reducible refine gate_callee (f := 73) rfl ?_); refine goesL_ (some 18) rfl rfl Try.func73 (by kernel_rfl) rfl #[.string a0, .string a1] rfl (by (try simp only [List.map_toArray, List.map_cons, List.map_nil]); first | done | rfl | (simp only [List.length_drop, List.length_take]; rfl)) ?_; (with_reducible refine (juratref09_Prefix.calls kj2 a0 a1 t604 _ A8.out).mono ?_); rintro e w' ⟨rfl, ⟨nd, rfl⟩⟩; refine ⟨_, rfl, ?_⟩) | ((with_reducible refine gate_callee (f := 74) rfl ?_); refine goesL_ (some 21) rfl rfl Try.func74 (by kernel_rfl) rfl #[.string a0, .string a1] rfl (by (try simp only [List.map_toArray, List.map_cons, List.map_nil]); first | done | rfl | (simp only [List.length_drop, List.length_take]; rfl)) ?_; (with_reducible refine (juratref09_Suffix.calls kj2 a0 a1 t605 _ A9.out).mono ?_); rintro e w' ⟨rfl, ⟨nd, rfl⟩⟩; refine ⟨_, rfl, ?_⟩) | ((with_reducible refine gate_callee (f := 72) rfl ?_); refine goesL_ (some 24) rfl rfl Try.func72 (by kernel_rfl) rfl #[.string a0, .string a1] rfl (by (try simp only [List.map_toArray, List.map_cons, List.map_nil]); first | done | rfl | (simp only [List.length_drop, List.length_take]; rfl)) ?_; (with_reducible refine (affix_Prefix.calls kj2 a0 a1 t606 _ A10.out).mono ?_); rintro e w' ⟨rfl, ⟨nd, rfl⟩⟩; refine ⟨_, rfl, ?_⟩) | (go_at_call 75; (with_reducible refine (affix_Suffix.calls kj2 a0 a1 t607 _ A12.out).mono ?_); rintro e w' ⟨rfl, ⟨nd, rfl⟩⟩) | (go_at_call 76; (with_reducible refine (affix_Begins.calls kj2 a0 a1 t608 _ A14.out).mono ?_); rintro e w' ⟨rfl, ⟨nd, rfl⟩⟩) | (go_at_call 77; (with_reducible refine (affix_Ends.calls kj2 a0 a1 t609 _ A16.out).mono ?_); rintro e w' ⟨rfl, ⟨nd, rfl⟩⟩))
                go_ret
                exact ⟨by first | rfl | (simp [errW_none, errW_some] <;> rfl) | (simp [*, errW_none, errW_some] <;> rfl), by repeat (first | (with_reducible first | exact HB.out | apply below_alloc | apply pw_below_drewN | apply below_drew1) | exact HB.out)⟩
            · rw [if_neg c15] at H
              have c15b0 : (t608 == (t604 == (a1.size : Int))) = false := by simpa using c15
              (try (have c15b1 : decide (t608 = (t604 == (a1.size : Int))) = false := by simpa using c15))
              (try (have c15b2 : (t608 == (t604 == (a1.size : Int))) = false := by simpa using c15))
              (try (have c15b3 : ¬ (t608 = (t604 == (a1.size : Int))) := by simpa using c15))
              clear c15
              obtain rfl := Option.some.inj H
              go_wp2_with (first | ((with_reducible refine gate_callee (f := 73) rfl ?_); refine goesL_ (some 18) rfl rfl Try.func73 (by kernel_rfl) rfl #[.string a0, .string a1] rfl (by (try simp only [List.map_toArray, List.map_cons, List.map_nil]); first | done | rfl | (simp only [List.length_drop, List.length_take]; rfl)) ?_; (with_reducible refine (juratref09_Prefix.calls kj2 a0 a1 t604 _ A8.out).mono ?_); rintro e w' ⟨rfl, ⟨nd, rfl⟩⟩; refine ⟨_, rfl, ?_⟩) | ((with_reducible refine gate_callee (f := 74) rfl ?_); refine goesL_ (some 21) rfl rfl Try.func74 (by kernel_rfl) rfl #[.string a0, .string a1] rfl (by (try simp only [List.map_toArray, List.map_cons, List.map_nil]); first | done | rfl | (simp only [List.length_drop, List.length_take]; rfl)) ?_; (with_reducible refine (juratref09_Suffix.calls kj2 a0 a1 t605 _ A9.out).mono ?_); rintro e w' ⟨rfl, ⟨nd, rfl⟩⟩; refine ⟨_, rfl, ?_⟩) | ((with_reducible refine gate_callee (f := 72) rfl ?_); refine goesL_ (some 24) rfl rfl Try.func72 (by kernel_rfl) rfl #[.string a0, .string a1] rfl (by (try simp only [List.map_toArray, List.map_cons, List.map_nil]); first | done | rfl | (simp only [List.length_drop, List.length_take]; rfl)) ?_; (with_reducible refine (affix_Prefix.calls kj2 a0 a1 t606 _ A10.out).mono ?_); rintro e w' ⟨rfl, ⟨nd, rfl⟩⟩; refine ⟨_, rfl, ?_⟩) | (go_at_call 75; (with_reducible refine (affix_Suffix.calls kj2 a0 a1 t607 _ A12.out).mono ?_); rintro e w' ⟨rfl, ⟨nd, rfl⟩⟩) | (go_at_call 76; (with_reducible refine (affix_Begins.calls kj2 a0 a1 t608 _ A14.out).mono ?_); rintro e w' ⟨rfl, ⟨nd, rfl⟩⟩))
              go_ret
              exact ⟨by first | rfl | (simp [errW_none, errW_some] <;> rfl) | (simp [*, errW_none, errW_some] <;> rfl), by repeat (first | (with_reducible first | exact HB.out | apply below_alloc | apply pw_below_drewN | apply below_drew1) | exact HB.out)⟩
          · rw [if_neg c13] at H
            have c13b0 : (t607 == t605) = false := beq_eq_false_iff_ne.mpr c13
            have c13b1 : (t607 != t605) = true := bne_iff_ne.mpr c13
            obtain rfl := Option.some.inj H
            go_wp2_with (first | ((with_reducible refine gate_callee (f := 73) rfl ?_); refine goesL_ (some 18) rfl rfl Try.func73 (by kernel_rfl) rfl #[.string a0, .string a1] rfl (by (try simp only [List.map_toArray, List.map_cons, List.map_nil]); first | done | rfl | (simp only [List.length_drop, List.length_take]; rfl)) ?_; (with_reducible refine (juratref09_Prefix.calls kj2 a0 a1 t604 _ A8.out).mono ?_); rintro e w' ⟨rfl, ⟨nd, rfl⟩⟩; refine ⟨_, rfl, ?_⟩) | ((with_reducible refine gate_callee (f := 74) rfl ?_); refine goesL_ (some 21) rfl rfl Try.func74 (by kernel_rfl) rfl #[.string a0, .string a1] rfl (by (try simp only [List.map_toArray, List.map_cons, List.map_nil]); first | done | rfl | (simp only [List.length_drop, List.length_take]; rfl)) ?_; (with_reducible refine (juratref09_Suffix.calls kj2 a0 a1 t605 _ A9.out).mono ?_); rintro e w' ⟨rfl, ⟨nd, rfl⟩⟩; refine ⟨_, rfl, ?_⟩) | ((with_reducible refine gate_callee (f := 72) rfl ?_); refine goesL_ (some 24) rfl rfl Try.func72 (by kernel_rfl) rfl #[.string a0, .string a1] rfl (by (try simp only [List.map_toArray, List.map_cons, List.map_nil]); first | done | rfl | (simp only [List.length_drop, List.length_take]; rfl)) ?_; (with_reducible refine (affix_Prefix.calls kj2 a0 a1 t606 _ A10.out).mono ?_); rintro e w' ⟨rfl, ⟨nd, rfl⟩⟩; refine ⟨_, rfl, ?_⟩) | (go_at_call 75; (with_reducible refine (affix_Suffix.calls kj2 a0 a1 t607 _ A12.out).mono ?_); rintro e w' ⟨rfl, ⟨nd, rfl⟩⟩))
            go_ret
            exact ⟨by first | rfl | (simp [errW_none, errW_some] <;> rfl) | (simp [*, errW_none, errW_some] <;> rfl), by repeat (first | (with_reducible first | exact HB.out | apply below_alloc | apply pw_below_drewN | apply below_drew1) | exact HB.out)⟩
        · rw [if_neg c11] at H
          have c11b0 : (t606 == t604) = false := beq_eq_false_iff_ne.mpr c11
          have c11b1 : (t606 != t604) = true := bne_iff_ne.mpr c11
          obtain rfl := Option.some.inj H
          go_wp2_with (first | ((with_reducible refine gate_callee (f := 73) rfl ?_); refine goesL_ (some 18) rfl rfl Try.func73 (by kernel_rfl) rfl #[.string a0, .string a1] rfl (by (try simp only [List.map_toArray, List.map_cons, List.map_nil]); first | done | rfl | (simp only [List.length_drop, List.length_take]; rfl)) ?_; (with_reducible refine (juratref09_Prefix.calls kj2 a0 a1 t604 _ A8.out).mono ?_); rintro e w' ⟨rfl, ⟨nd, rfl⟩⟩; refine ⟨_, rfl, ?_⟩) | ((with_reducible refine gate_callee (f := 74) rfl ?_); refine goesL_ (some 21) rfl rfl Try.func74 (by kernel_rfl) rfl #[.string a0, .string a1] rfl (by (try simp only [List.map_toArray, List.map_cons, List.map_nil]); first | done | rfl | (simp only [List.length_drop, List.length_take]; rfl)) ?_; (with_reducible refine (juratref09_Suffix.calls kj2 a0 a1 t605 _ A9.out).mono ?_); rintro e w' ⟨rfl, ⟨nd, rfl⟩⟩; refine ⟨_, rfl, ?_⟩) | ((with_reducible refine gate_callee (f := 72) rfl ?_); refine goesL_ (some 24) rfl rfl Try.func72 (by kernel_rfl) rfl #[.string a0, .string a1] rfl (by (try simp only [List.map_toArray, List.map_cons, List.map_nil]); first | done | rfl | (simp only [List.length_drop, List.length_take]; rfl)) ?_; (with_reducible refine (affix_Prefix.calls kj2 a0 a1 t606 _ A10.out).mono ?_); rintro e w' ⟨rfl, ⟨nd, rfl⟩⟩; refine ⟨_, rfl, ?_⟩))
          go_ret
          exact ⟨by first | rfl | (simp [errW_none, errW_some] <;> rfl) | (simp [*, errW_none, errW_some] <;> rfl), by repeat (first | (with_reducible first | exact HB.out | apply below_alloc | apply pw_below_drewN | apply below_drew1) | exact HB.out)⟩

/-- THE ONE PURE STATEMENT of juratlaw09_AffixTells: yours. -/
def juratlaw09_AffixTells.Pure : Prop := ∀ (a0 : ByteArray) (a1 : ByteArray), a0.size ≤ 140737488351232 → a1.size ≤ 140737488351232 → ∃ k, juratlaw09_AffixTells.f k a0 a1 = some true
theorem juratlaw09_AffixTells.walk (P : juratlaw09_AffixTells.Pure) (a0 : ByteArray) (a1 : ByteArray) (w : World) (w0 : a0.size ≤ 140737488351232) (w1 : a1.size ≤ 140737488351232) :
    Calls Try.prog 15 #[.string a0, .string a1] w fun e w' => e = .returned (.bool true) ∧ Below w.heap.size w w' := by
  obtain ⟨k, h⟩ := P a0 a1 w0 w1
  refine (juratlaw09_AffixTells.calls k a0 a1 true w h).mono ?_
  rintro e w' ⟨rfl, hd⟩
  exact ⟨rfl, hd⟩

end Go.Proofs.Ytmkcoobmbjoloaa.P
