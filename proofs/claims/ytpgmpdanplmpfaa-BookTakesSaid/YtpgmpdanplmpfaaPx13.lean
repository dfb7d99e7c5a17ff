/- Proved here: what Go functions of this seat compute, or a law of it; no condition beyond the statement's own. Written for this claim by a program of this session (wip/myprint.py) over the kit's print.py. -/
import Derived.Test.YtpgmpdanplmpfaaPx0
import Derived.Test.YtpgmpdanplmpfaaPx32
import Derived.Test.YtpgmpdanplmpfaaPx33
namespace Go.Proofs.Ytpgmpdanplmpfaa.P
open Go.RowKit Go.Proofs.YtpgmpdanplmpfaaW.PrintWords Go.Proofs.YtpgmpdanplmpfaaW.PrintLast Go.Proofs.YtpgmpdanplmpfaaW.PrintMore
attribute [local go_sem] max2_int min2_int max_two min_two max_three min_three max_four min_four   -- for this text's walks alone
set_option linter.unusedVariables false
set_option linter.unusedSimpArgs false

theorem tot_eq {x t X Y : Int} {m n : Nat} (h1 : t ≤ (m : Int)) (h2 : X ≤ (n : Int)) : wrap64 (x + (max t 0 + ((X.toNat - Y.toNat : Nat) : Int))) = wrap64 (x + (((min t.toNat m : Nat) : Int) + ((min X.toNat n - Y.toNat : Nat) : Int))) := by
  rw [show ((min t.toNat m : Nat) : Int) = max t 0 by omega, show min X.toNat n = X.toNat by omega]
/-! ### juratref11_Take: function 13 -/
mutual
def juratref11_Take.j0 : Nat → ByteArray → Bool → Option (List ByteArray × Int)
  | 0, _, _ => none
  | k + 1, x0, x24 => if x24 = true then (some (([] : List ByteArray), 15)) else (if 6 ≤ (x0.size : Int) then ((juratref02_Take.f k (x0.extract 6 x0.size)).bind fun bt216 => (if bt216.2.2 = 0 then (if bt216.1 = 0 then (some (([] : List ByteArray), 14)) else (if bt216.1 > 65535 then (some (([] : List ByteArray), 6)) else (juratref11_Take.l0 k x0 bt216.1 (wrap64 (bt216.2.1 + 6)) (([] : List ByteArray)) (⟨#[]⟩ : ByteArray) 0))) else (some (([] : List ByteArray), bt216.2.2)))) else (none))
def juratref11_Take.l0 : Nat → ByteArray → Int → Int → List ByteArray → ByteArray → Int → Option (List ByteArray × Int)
  | 0, _, _, _, _, _, _ => none
  | k + 1, x0, x4, x5, x7, x8, x9 => if (x7.length : Int) < x4 then (if 0 ≤ x5 then (if x5 ≤ (x0.size : Int) then ((juratref02_Take.f k (x0.extract (x5 : Int).toNat x0.size)).bind fun bt222 => (if bt222.2.2 = 0 then (if 0 ≤ (wrap64 (x5 + bt222.2.1)) then (if (wrap64 (x5 + bt222.2.1)) ≤ (x0.size : Int) then ((juratref02_Take.f k (x0.extract ((wrap64 (x5 + bt222.2.1)) : Int).toNat x0.size)).bind fun bt225 => (if bt225.2.2 = 0 then ((juratref11_lengths.f k bt222.1 bt225.1 x8 x9 (wrap64 ((x0.size : Int) - (wrap64 ((wrap64 (x5 + bt222.2.1)) + bt225.2.1))))).bind fun t228 => (if t228 = 0 then (if bt222.1 < (x8.size : Int) then (if 0 ≤ (wrap64 ((wrap64 (x5 + bt222.2.1)) + bt225.2.1)) then (if (wrap64 ((wrap64 (x5 + bt222.2.1)) + bt225.2.1)) < (x0.size : Int) then (if 0 ≤ bt222.1 then (juratref11_Take.j2 k x0 x4 (wrap64 ((wrap64 (x5 + bt222.2.1)) + bt225.2.1)) x7 x8 x9 bt222.1 bt225.1 ((bt x0 (wrap64 ((wrap64 (x5 + bt222.2.1)) + bt225.2.1))) == (bt x8 bt222.1))) else (none)) else (none)) else (none)) else (juratref11_Take.j2 k x0 x4 (wrap64 ((wrap64 (x5 + bt222.2.1)) + bt225.2.1)) x7 x8 x9 bt222.1 bt225.1 false)) else (some (([] : List ByteArray), t228)))) else (some (([] : List ByteArray), bt225.2.2)))) else (none)) else (none)) else (some (([] : List ByteArray), bt222.2.2)))) else (none)) else (none)) else (if x5 < (x0.size : Int) then (some (([] : List ByteArray), 20)) else (some (x7, 0)))
def juratref11_Take.j2 : Nat → ByteArray → Int → Int → List ByteArray → ByteArray → Int → Int → Int → Bool → Option (List ByteArray × Int)
  | 0, _, _, _, _, _, _, _, _, _ => none
  | k + 1, x0, x4, x5, x7, x8, x9, x10, x13, x99 => if x99 = true then (some (([] : List ByteArray), 3)) else (if x10 < (x8.size : Int) then (if 0 ≤ x5 then (if x5 < (x0.size : Int) then (if 0 ≤ x10 then (if (bt x0 x5) < (bt x8 x10) then (some (([] : List ByteArray), 9)) else (if x10 ≤ (x8.size : Int) then (if x5 ≤ (wrap64 (x5 + x13)) then (if (wrap64 (x5 + x13)) ≤ (x0.size : Int) then (if (x8.extract 0 (x10 : Int).toNat).size + (x0.extract (x5 : Int).toNat ((wrap64 (x5 + x13)) : Int).toNat).size ≤ 9223372036854775807 then (if x7.length < 8796093022208 then (juratref11_Take.l0 k x0 x4 (wrap64 (x5 + x13)) (x7 ++ [(x8.extract 0 (x10 : Int).toNat) ++ (x0.extract (x5 : Int).toNat ((wrap64 (x5 + x13)) : Int).toNat)]) ((x8.extract 0 (x10 : Int).toNat) ++ (x0.extract (x5 : Int).toNat ((wrap64 (x5 + x13)) : Int).toNat)) (wrap64 (x9 + (((x8.extract 0 (x10 : Int).toNat) ++ (x0.extract (x5 : Int).toNat ((wrap64 (x5 + x13)) : Int).toNat)).size : Int)))) else (none)) else (none)) else (none)) else (none)) else (none))) else (none)) else (none)) else (none)) else (if 0 ≤ x10 then (if x10 ≤ (x8.size : Int) then (if 0 ≤ x5 then (if x5 ≤ (wrap64 (x5 + x13)) then (if (wrap64 (x5 + x13)) ≤ (x0.size : Int) then (if (x8.extract 0 (x10 : Int).toNat).size + (x0.extract (x5 : Int).toNat ((wrap64 (x5 + x13)) : Int).toNat).size ≤ 9223372036854775807 then (if x7.length < 8796093022208 then (juratref11_Take.l0 k x0 x4 (wrap64 (x5 + x13)) (x7 ++ [(x8.extract 0 (x10 : Int).toNat) ++ (x0.extract (x5 : Int).toNat ((wrap64 (x5 + x13)) : Int).toNat)]) ((x8.extract 0 (x10 : Int).toNat) ++ (x0.extract (x5 : Int).toNat ((wrap64 (x5 + x13)) : Int).toNat)) (wrap64 (x9 + (((x8.extract 0 (x10 : Int).toNat) ++ (x0.extract (x5 : Int).toNat ((wrap64 (x5 + x13)) : Int).toNat)).size : Int)))) else (none)) else (none)) else (none)) else (none)) else (none)) else (none)) else (none)))
end
def juratref11_Take.f (k : Nat) (a0 : ByteArray) : Option (List ByteArray × Int) := if (a0.size : Int) < 6 then (juratref11_Take.j0 k a0 true) else (if 0 ≤ 6 then (if 6 ≤ (a0.size : Int) then (juratref11_Take.j0 k a0 ((a0.extract 0 6).toList != ([106, 117, 114, 97, 116, 1] : List UInt8))) else (none)) else (none))
theorem juratref11_Take.mono_l : ∀ k, (∀ y0 y1, LeO (juratref11_Take.j0 k y0 y1) (juratref11_Take.j0 (k + 1) y0 y1)) ∧ (∀ y0 y1 y2 y3 y4 y5, LeO (juratref11_Take.l0 k y0 y1 y2 y3 y4 y5) (juratref11_Take.l0 (k + 1) y0 y1 y2 y3 y4 y5)) ∧ (∀ y0 y1 y2 y3 y4 y5 y6 y7 y8, LeO (juratref11_Take.j2 k y0 y1 y2 y3 y4 y5 y6 y7 y8) (juratref11_Take.j2 (k + 1) y0 y1 y2 y3 y4 y5 y6 y7 y8))
  | 0 => ⟨fun _ _ r h => by simp [juratref11_Take.j0] at h, fun _ _ _ _ _ _ r h => by simp [juratref11_Take.l0] at h, fun _ _ _ _ _ _ _ _ _ r h => by simp [juratref11_Take.j2] at h⟩
  | k + 1 => by
    obtain ⟨ih0, ih1, ih2⟩ := juratref11_Take.mono_l k
    refine ⟨?_, ?_, ?_⟩
    · intro y0 y1
      unfold juratref11_Take.j0
      repeat' first
      | (with_reducible exact ih0 _ _)
      | (with_reducible exact ih1 _ _ _ _ _ _)
      | (with_reducible exact ih2 _ _ _ _ _ _ _ _ _)
      | (with_reducible exact juratref02_Take.mono _ _)
      | (with_reducible exact juratref11_lengths.mono _ _ _ _ _ _)
      | (with_reducible exact LeO.refl _)
      | (with_reducible exact LeO.none _)
      | (with_reducible refine LeO.ite ?_ ?_)
      | (with_reducible refine LeO.bind ?_ (fun _ => ?_))
      | exact ih0 _ _
      | exact ih1 _ _ _ _ _ _
      | exact ih2 _ _ _ _ _ _ _ _ _
      | exact juratref02_Take.mono _ _
      | exact juratref11_lengths.mono _ _ _ _ _ _
      | exact LeO.none _
      | refine LeO.ite ?_ ?_
      | refine LeO.bind ?_ (fun _ => ?_)
    · intro y0 y1 y2 y3 y4 y5
      unfold juratref11_Take.l0
      repeat' first
      | (with_reducible exact ih0 _ _)
      | (with_reducible exact ih1 _ _ _ _ _ _)
      | (with_reducible exact ih2 _ _ _ _ _ _ _ _ _)
      | (with_reducible exact juratref02_Take.mono _ _)
      | (with_reducible exact juratref11_lengths.mono _ _ _ _ _ _)
      | (with_reducible exact LeO.refl _)
      | (with_reducible exact LeO.none _)
      | (with_reducible refine LeO.ite ?_ ?_)
      | (with_reducible refine LeO.bind ?_ (fun _ => ?_))
      | exact ih0 _ _
      | exact ih1 _ _ _ _ _ _
      | exact ih2 _ _ _ _ _ _ _ _ _
      | exact juratref02_Take.mono _ _
      | exact juratref11_lengths.mono _ _ _ _ _ _
      | exact LeO.none _
      | refine LeO.ite ?_ ?_
      | refine LeO.bind ?_ (fun _ => ?_)
    · intro y0 y1 y2 y3 y4 y5 y6 y7 y8
      unfold juratref11_Take.j2
      repeat' first
      | (with_reducible exact ih0 _ _)
      | (with_reducible exact ih1 _ _ _ _ _ _)
      | (with_reducible exact ih2 _ _ _ _ _ _ _ _ _)
      | (with_reducible exact juratref02_Take.mono _ _)
      | (with_reducible exact juratref11_lengths.mono _ _ _ _ _ _)
      | (with_reducible exact LeO.refl _)
      | (with_reducible exact LeO.none _)
      | (with_reducible refine LeO.ite ?_ ?_)
      | (with_reducible refine LeO.bind ?_ (fun _ => ?_))
      | exact ih0 _ _
      | exact ih1 _ _ _ _ _ _
      | exact ih2 _ _ _ _ _ _ _ _ _
      | exact juratref02_Take.mono _ _
      | exact juratref11_lengths.mono _ _ _ _ _ _
      | exact LeO.none _
      | refine LeO.ite ?_ ?_
      | refine LeO.bind ?_ (fun _ => ?_)
theorem juratref11_Take.mono : ∀ a0 k, LeO (juratref11_Take.f k a0) (juratref11_Take.f (k + 1) a0) := by
  intro a0 k
  obtain ⟨ih0, ih1, ih2⟩ := juratref11_Take.mono_l k
  unfold juratref11_Take.f
  repeat' first
      | (with_reducible exact ih0 _ _)
      | (with_reducible exact ih1 _ _ _ _ _ _)
      | (with_reducible exact ih2 _ _ _ _ _ _ _ _ _)
      | (with_reducible exact juratref02_Take.mono _ _)
      | (with_reducible exact juratref11_lengths.mono _ _ _ _ _ _)
      | (with_reducible exact LeO.refl _)
      | (with_reducible exact LeO.none _)
      | (with_reducible refine LeO.ite ?_ ?_)
      | (with_reducible refine LeO.bind ?_ (fun _ => ?_))
      | exact ih0 _ _
      | exact ih1 _ _ _ _ _ _
      | exact ih2 _ _ _ _ _ _ _ _ _
      | exact juratref02_Take.mono _ _
      | exact juratref11_lengths.mono _ _ _ _ _ _
      | exact LeO.none _
      | refine LeO.ite ?_ ?_
      | refine LeO.bind ?_ (fun _ => ?_)
set_option maxHeartbeats 8000000 in
set_option maxRecDepth 100000 in
theorem juratref11_Take.calls (k : Nat) (a0 : ByteArray) (r1 : List ByteArray) (r2 : Int) (w : World) (h : juratref11_Take.f k a0 = some (r1, r2)) :
    Calls Try.prog 13 #[.string a0] w fun e w' => ∃ v0_ : Value, e = .returned (.tuple #[v0_, .int .i64 r2]) ∧ Kd.R Kd.string 9 w' w.heap.size (fun _ => True) v0_ r1 ∧ Below w.heap.size w w' := by
  have HB := Aside0.mk (Below.refl w.heap.size w)
  have H : (if (a0.size : Int) < 6 then (juratref11_Take.j0 k a0 true) else (if 0 ≤ 6 then (if 6 ≤ (a0.size : Int) then (juratref11_Take.j0 k a0 ((a0.extract 0 6).toList != ([106, 117, 114, 97, 116, 1] : List UInt8))) else (none)) else (none))) = some (r1, r2) := h
  clear h
  have HC2 := Aside0.mk H
  clear H
  go_enter Try.func13, Try.ntmps13
  go_upto_region 1 with (fail)
  repeat (go_quiet (fail); go_upto_region 1 with (fail))
  go_cut [24] (fun v24 wc => ∃ (kq : Nat) (x24_1 : Bool), v24 = .bool x24_1 ∧ Aside0 (juratref11_Take.j0 kq a0 x24_1 = some (r1, r2)) ∧ Aside0 (kq ≤ k) ∧ Aside0 (Below w.heap.size w wc))
  case first =>
    have H := HC2.out
    clear HC2
    by_cases c3 : (a0.size : Int) < 6
    · rw [if_pos c3] at H
      have c3b0 : decide ((a0.size : Int) < 6) = true := decide_eq_true c3
      have c3b1 : decide (a0.size < 6) = true := decide_eq_true (by omega)
      clear c3
      (first | rw [c3b0] | rw [c3b1] | (simp only [i64_w, i32_w]; rw [c3b0]) | skip)
      have H' := Aside0.mk H
      clear H
      go_wp2
      repeat (go_quiet (fail); try go_wp2)
      go_meet
      case rel => exact ⟨_, (true), (by first | rfl | exact isE_ _ | exact isE2_ _ | (simp; done) | (simp [*]; done)), H', ⟨by first | omega | exact Nat.le_refl _⟩, ⟨by repeat (first | (with_reducible first | exact HB.out | apply below_alloc | apply pw_below_drewN | apply below_drew1) | exact HB.out)⟩⟩
    · rw [if_neg c3] at H
      have c3b0 : decide ((a0.size : Int) < 6) = false := decide_eq_false c3
      have c3b1 : decide (a0.size < 6) = false := decide_eq_false (by omega)
      clear c3
      (first | rw [c3b0] | rw [c3b1] | (simp only [i64_w, i32_w]; rw [c3b0]) | skip)
      by_cases c4 : 0 ≤ 6
      · rw [if_pos c4] at H
        have c4b0 := eq_true c4
        have c4b1 : decide (0 ≤ 6) = true := decide_eq_true c4
        clear c4
        by_cases c5 : 6 ≤ (a0.size : Int)
        · rw [if_pos c5] at H
          have c5b0 := eq_true c5
          have c5b1 : decide (6 ≤ (a0.size : Int)) = true := decide_eq_true c5
          clear c5
          have H' := Aside0.mk H
          clear H
          go_wp2
          repeat (go_quiet (fail); try go_wp2)
          go_meet
          case rel => exact ⟨_, (((a0.extract 0 6).toList != ([106, 117, 114, 97, 116, 1] : List UInt8))), (by first | rfl | exact isE_ _ | exact isE2_ _ | (simp; done) | (simp [*]; done)), H', ⟨by first | omega | exact Nat.le_refl _⟩, ⟨by repeat (first | (with_reducible first | exact HB.out | apply below_alloc | apply pw_below_drewN | apply below_drew1) | exact HB.out)⟩⟩
        · rw [if_neg c5] at H
          exact absurd H (by simp)
      · rw [if_neg c4] at H
        exact absurd H (by simp)
  case rest =>
    clear HC2
    try clear c1
    try clear p2
    try clear c3
    try clear c3b0
    try clear c3b1
    try clear c4
    try clear c4b0
    try clear c4b1
    try clear c5
    try clear c5b0
    try clear c5b1
    obtain ⟨kq, x24_1, rfl, HA, HJ1, HB⟩ := hcut
    cases kq with
    | zero => exact absurd HA.out (by simp [juratref11_Take.j0])
    | succ kj1 =>
      have H := HA.out
      clear HA
      simp only [juratref11_Take.j0] at H
      by_cases c6 : x24_1 = true
      · subst c6
        have H1 : (some (([] : List ByteArray), 15)) = some (r1, r2) := by rw [if_pos rfl] at H; exact H
        clear H
        have H := H1
        clear H1
        simp only [Option.some.injEq, Prod.mk.injEq] at H
        obtain ⟨rfl, rfl⟩ := H
        go_wp2
        repeat (go_quiet (fail); try go_wp2)
        go_ret2
        exact ⟨_, by first | rfl | (simp [errW_none, errW_some] <;> rfl) | (simp [*, errW_none, errW_some] <;> rfl), by first | exact Kd.R_nil _ _ _ _ _ | exact Kd.N_nil _ _ _ _ _ | exact Kd.V_nil _ _ _ _ _ | exact Kd.Q_nil _ _ _ _ _ | exact Kd.S_nil _ _ _ _ _, by repeat (first | (with_reducible first | exact HB.out | apply below_alloc | apply pw_below_drewN | apply below_drew1) | exact HB.out)⟩
      · replace c6 := Bool.eq_false_iff.mpr c6
        subst c6
        have H1 : (if 6 ≤ (a0.size : Int) then ((juratref02_Take.f kj1 (a0.extract 6 a0.size)).bind fun bt216 => (if bt216.2.2 = 0 then (if bt216.1 = 0 then (some (([] : List ByteArray), 14)) else (if bt216.1 > 65535 then (some (([] : List ByteArray), 6)) else (juratref11_Take.l0 kj1 a0 bt216.1 (wrap64 (bt216.2.1 + 6)) (([] : List ByteArray)) (⟨#[]⟩ : ByteArray) 0))) else (some (([] : List ByteArray), bt216.2.2)))) else (none)) = some (r1, r2) := by rw [if_neg (show ¬ (false = true) by decide)] at H; exact H
        clear H
        have H := H1
        clear H1
        by_cases c7 : 6 ≤ (a0.size : Int)
        · rw [if_pos c7] at H
          have c7b0 := eq_true c7
          have c7b1 : decide (6 ≤ (a0.size : Int)) = true := decide_eq_true c7
          clear c7
          replace H := Option.bind_eq_some_iff.mp H
          obtain ⟨⟨t216, t217, t218⟩, A80, H⟩ := H
          replace H : (if t218 = 0 then (if t216 = 0 then (some (([] : List ByteArray), 14)) else (if t216 > 65535 then (some (([] : List ByteArray), 6)) else (juratref11_Take.l0 kj1 a0 t216 (wrap64 (t217 + 6)) (([] : List ByteArray)) (⟨#[]⟩ : ByteArray) 0))) else (some (([] : List ByteArray), t218))) = some (r1, r2) := H
          have A8 := Aside0.mk A80
          clear A80
          by_cases c9 : t218 = 0
          · rw [if_pos c9] at H
            have c9b0 : (t218 == 0) = true := beq_iff_eq.mpr c9
            have c9b1 : (t218 != 0) = false := bne_eq_false_iff_eq.mpr c9
            clear c9
            by_cases c10 : t216 = 0
            · rw [if_pos c10] at H
              have c10b0 : (t216 == 0) = true := beq_iff_eq.mpr c10
              have c10b1 : (t216 != 0) = false := bne_eq_false_iff_eq.mpr c10
              clear c10
              simp only [Option.some.injEq, Prod.mk.injEq] at H
              obtain ⟨rfl, rfl⟩ := H
              go_wp2_with (first | (go_at_call 32; (with_reducible refine (juratref02_Take.calls kj1 (a0.extract 6 a0.size) t216 t217 t218 _ A8.out).mono ?_); rintro e w' ⟨rfl, ⟨nd, rfl⟩⟩; (try first | exact ⟨rfl, _, World.drewN_drewN _ _ _⟩ | exact ⟨rfl, _, Eq.trans (World.drewN_drewN _ _ _) (congrArg (World.drewN _) (Nat.add_assoc _ _ _))⟩)))
              repeat (go_quiet (first | (go_at_call 32; (with_reducible refine (juratref02_Take.calls kj1 (a0.extract 6 a0.size) t216 t217 t218 _ A8.out).mono ?_); rintro e w' ⟨rfl, ⟨nd, rfl⟩⟩; (try first | exact ⟨rfl, _, World.drewN_drewN _ _ _⟩ | exact ⟨rfl, _, Eq.trans (World.drewN_drewN _ _ _) (congrArg (World.drewN _) (Nat.add_assoc _ _ _))⟩))); try go_wp2_with (first | (go_at_call 32; (with_reducible refine (juratref02_Take.calls kj1 (a0.extract 6 a0.size) t216 t217 t218 _ A8.out).mono ?_); rintro e w' ⟨rfl, ⟨nd, rfl⟩⟩; (try first | exact ⟨rfl, _, World.drewN_drewN _ _ _⟩ | exact ⟨rfl, _, Eq.trans (World.drewN_drewN _ _ _) (congrArg (World.drewN _) (Nat.add_assoc _ _ _))⟩))))
              go_ret2
              exact ⟨_, by first | rfl | (simp [errW_none, errW_some] <;> rfl) | (simp [*, errW_none, errW_some] <;> rfl), by first | exact Kd.R_nil _ _ _ _ _ | exact Kd.N_nil _ _ _ _ _ | exact Kd.V_nil _ _ _ _ _ | exact Kd.Q_nil _ _ _ _ _ | exact Kd.S_nil _ _ _ _ _, by repeat (first | (with_reducible first | exact HB.out | apply below_alloc | apply pw_below_drewN | apply below_drew1) | exact HB.out)⟩
            · rw [if_neg c10] at H
              have c10b0 : (t216 == 0) = false := beq_eq_false_iff_ne.mpr c10
              have c10b1 : (t216 != 0) = true := bne_iff_ne.mpr c10
              by_cases c11 : t216 > 65535
              · rw [if_pos c11] at H
                have c11b0 : decide (65535 < t216) = true := decide_eq_true c11
                clear c11
                simp only [Option.some.injEq, Prod.mk.injEq] at H
                obtain ⟨rfl, rfl⟩ := H
                go_wp2_with (first | (go_at_call 32; (with_reducible refine (juratref02_Take.calls kj1 (a0.extract 6 a0.size) t216 t217 t218 _ A8.out).mono ?_); rintro e w' ⟨rfl, ⟨nd, rfl⟩⟩; (try first | exact ⟨rfl, _, World.drewN_drewN _ _ _⟩ | exact ⟨rfl, _, Eq.trans (World.drewN_drewN _ _ _) (congrArg (World.drewN _) (Nat.add_assoc _ _ _))⟩)))
                repeat (go_quiet (first | (go_at_call 32; (with_reducible refine (juratref02_Take.calls kj1 (a0.extract 6 a0.size) t216 t217 t218 _ A8.out).mono ?_); rintro e w' ⟨rfl, ⟨nd, rfl⟩⟩; (try first | exact ⟨rfl, _, World.drewN_drewN _ _ _⟩ | exact ⟨rfl, _, Eq.trans (World.drewN_drewN _ _ _) (congrArg (World.drewN _) (Nat.add_assoc _ _ _))⟩))); try go_wp2_with (first | (go_at_call 32; (with_reducible refine (juratref02_Take.calls kj1 (a0.extract 6 a0.size) t216 t217 t218 _ A8.out).mono ?_); rintro e w' ⟨rfl, ⟨nd, rfl⟩⟩; (try first | exact ⟨rfl, _, World.drewN_drewN _ _ _⟩ | exact ⟨rfl, _, Eq.trans (World.drewN_drewN _ _ _) (congrArg (World.drewN _) (Nat.add_assoc _ _ _))⟩))))
                go_ret2
                exact ⟨_, by first | rfl | (simp [errW_none, errW_some] <;> rfl) | (simp [*, errW_none, errW_some] <;> rfl), by first | exact Kd.R_nil _ _ _ _ _ | exact Kd.N_nil _ _ _ _ _ | exact Kd.V_nil _ _ _ _ _ | exact Kd.Q_nil _ _ _ _ _ | exact Kd.S_nil _ _ _ _ _, by repeat (first | (with_reducible first | exact HB.out | apply below_alloc | apply pw_below_drewN | apply below_drew1) | exact HB.out)⟩
              · rw [if_neg c11] at H
                have c11b0 : decide (65535 < t216) = false := decide_eq_false c11
                clear c11
                obtain ⟨y219, hy219⟩ : ∃ y_ : List ByteArray, y_ = (([] : List ByteArray)) := ⟨_, rfl⟩
                replace H : (juratref11_Take.l0 kj1 a0 t216 (wrap64 (t217 + 6)) y219 (⟨#[]⟩ : ByteArray) 0) = some (r1, r2) := by first | (rw [hy219]; with_reducible exact H) | (have H2_ := (Option.bind_some _ _).symm.trans H; rw [hy219]; with_reducible exact H2_) | (have H2_ := (Option.bind_some _ _).symm.trans H; with_reducible exact H2_) | with_reducible exact H | (rw [hy219]; exact H) | exact H
                have Ny219 := Aside0.mk hy219
                clear hy219
                have H' := Aside0.mk H
                clear H
                go_wp2_with (first | (go_at_call 32; (with_reducible refine (juratref02_Take.calls kj1 (a0.extract 6 a0.size) t216 t217 t218 _ A8.out).mono ?_); rintro e w' ⟨rfl, ⟨nd, rfl⟩⟩; (try first | exact ⟨rfl, _, World.drewN_drewN _ _ _⟩ | exact ⟨rfl, _, Eq.trans (World.drewN_drewN _ _ _) (congrArg (World.drewN _) (Nat.add_assoc _ _ _))⟩)) | ((with_reducible refine gate_dst (N := 41) rfl ?_); refine Kd.R_lit Kd.string _ 9 ?hg (N := 41) ?hd (xs := ([] : List ByteArray)) (inner := []) (ok := fun _ => True) (okp := fun _ => True) ?hr ?hp (fun _ hk => hk) trivial (Below.refl _ _) (Nat.le_refl _) (by simp) ?_; (case hd => rfl); (case hg => rfl); (case hr => first | (go_simp; done) | (go_simp; rfl)); (case hp => exact (Reps.none _ _)); intro v220 w12 ho13 hb hg_ hnew_; clear hg_ hnew_; (first | rw [← Ny219.out] at ho13 | (simp only [Int.reduceToNat] at ho13; rw [← Ny219.out] at ho13)); have n0_ := Aside0.mk (Kd.R_lower ho13 (below_size (by repeat (first | (with_reducible first | exact HB.out | apply below_alloc | apply pw_below_drewN | apply below_drew1) | exact HB.out)))); have n1_ := Aside0.mk (below_step (by repeat (first | (with_reducible first | exact HB.out | apply below_alloc | apply pw_below_drewN | apply below_drew1) | exact HB.out)) hb); clear HB; have HO221 := n0_; have HB := n1_; clear n0_ n1_; clear hb ho13))
                repeat (go_quiet (first | (go_at_call 32; (with_reducible refine (juratref02_Take.calls kj1 (a0.extract 6 a0.size) t216 t217 t218 _ A8.out).mono ?_); rintro e w' ⟨rfl, ⟨nd, rfl⟩⟩; (try first | exact ⟨rfl, _, World.drewN_drewN _ _ _⟩ | exact ⟨rfl, _, Eq.trans (World.drewN_drewN _ _ _) (congrArg (World.drewN _) (Nat.add_assoc _ _ _))⟩)) | ((with_reducible refine gate_dst (N := 41) rfl ?_); refine Kd.R_lit Kd.string _ 9 ?hg (N := 41) ?hd (xs := ([] : List ByteArray)) (inner := []) (ok := fun _ => True) (okp := fun _ => True) ?hr ?hp (fun _ hk => hk) trivial (Below.refl _ _) (Nat.le_refl _) (by simp) ?_; (case hd => rfl); (case hg => rfl); (case hr => first | (go_simp; done) | (go_simp; rfl)); (case hp => exact (Reps.none _ _)); intro v220 w12 ho13 hb hg_ hnew_; clear hg_ hnew_; (first | rw [← Ny219.out] at ho13 | (simp only [Int.reduceToNat] at ho13; rw [← Ny219.out] at ho13)); have n0_ := Aside0.mk (Kd.R_lower ho13 (below_size (by repeat (first | (with_reducible first | exact HB.out | apply below_alloc | apply pw_below_drewN | apply below_drew1) | exact HB.out)))); have n1_ := Aside0.mk (below_step (by repeat (first | (with_reducible first | exact HB.out | apply below_alloc | apply pw_below_drewN | apply below_drew1) | exact HB.out)) hb); clear HB; have HO221 := n0_; have HB := n1_; clear n0_ n1_; clear hb ho13)); try go_wp2_with (first | (go_at_call 32; (with_reducible refine (juratref02_Take.calls kj1 (a0.extract 6 a0.size) t216 t217 t218 _ A8.out).mono ?_); rintro e w' ⟨rfl, ⟨nd, rfl⟩⟩; (try first | exact ⟨rfl, _, World.drewN_drewN _ _ _⟩ | exact ⟨rfl, _, Eq.trans (World.drewN_drewN _ _ _) (congrArg (World.drewN _) (Nat.add_assoc _ _ _))⟩)) | ((with_reducible refine gate_dst (N := 41) rfl ?_); refine Kd.R_lit Kd.string _ 9 ?hg (N := 41) ?hd (xs := ([] : List ByteArray)) (inner := []) (ok := fun _ => True) (okp := fun _ => True) ?hr ?hp (fun _ hk => hk) trivial (Below.refl _ _) (Nat.le_refl _) (by simp) ?_; (case hd => rfl); (case hg => rfl); (case hr => first | (go_simp; done) | (go_simp; rfl)); (case hp => exact (Reps.none _ _)); intro v220 w12 ho13 hb hg_ hnew_; clear hg_ hnew_; (first | rw [← Ny219.out] at ho13 | (simp only [Int.reduceToNat] at ho13; rw [← Ny219.out] at ho13)); have n0_ := Aside0.mk (Kd.R_lower ho13 (below_size (by repeat (first | (with_reducible first | exact HB.out | apply below_alloc | apply pw_below_drewN | apply below_drew1) | exact HB.out)))); have n1_ := Aside0.mk (below_step (by repeat (first | (with_reducible first | exact HB.out | apply below_alloc | apply pw_below_drewN | apply below_drew1) | exact HB.out)) hb); clear HB; have HO221 := n0_; have HB := n1_; clear n0_ n1_; clear hb ho13)))
                go_loopg [5, 7, 8, 9] kj1 (fun kq v5 v7 v8 v9 w' => ∃ (x5_2 : Int) (x7_2 : List ByteArray) (x8_2 : ByteArray) (x9_2 : Int), v5 = .int .i64 x5_2 ∧ v8 = .string x8_2 ∧ v9 = .int .i64 x9_2 ∧ Aside0 (juratref11_Take.l0 kq a0 t216 x5_2 x7_2 x8_2 x9_2 = some (r1, r2)) ∧ Aside0 (kq ≤ kj1) ∧ Aside0 (Kd.R Kd.string 9 w' w.heap.size (fun _ => True) v7 x7_2) ∧ Aside0 (Below w.heap.size w w'))
                case atStart => exact ⟨(wrap64 (t217 + 6)), (y219), ((⟨#[]⟩ : ByteArray)), (0), (by first | rfl | exact isE_ _ | exact isE2_ _ | (simp; done) | (simp [*]; done)), (by first | rfl | exact isE_ _ | exact isE2_ _ | (simp; done) | (simp [*]; done)), (by first | rfl | exact isE_ _ | exact isE2_ _ | (simp; done) | (simp [*]; done)), H', ⟨Nat.le_refl _⟩, ⟨by (with_reducible repeat (first | apply Kd.R_alloc | apply Kd.R_drewN | apply Kd.R_drew)); exact HO221.out⟩, ⟨by repeat (first | (with_reducible first | exact HB.out | apply below_alloc | apply pw_below_drewN | apply below_drew1) | exact HB.out)⟩⟩
                case round =>
                  clear H'
                  try clear c1
                  try clear p2
                  try clear c3
                  try clear c3b0
                  try clear c3b1
                  try clear c4
                  try clear c4b0
                  try clear c4b1
                  try clear c5
                  try clear c5b0
                  try clear c5b1
                  try clear c6
                  try clear p6
                  try clear c7
                  try clear c7b0
                  try clear c7b1
                  try clear c9
                  try clear c9b0
                  try clear c9b1
                  try clear c10
                  try clear c10b0
                  try clear c10b1
                  try clear c11
                  try clear c11b0
                  try clear c13
                  try clear p2
                  obtain ⟨x5_2, x7_2, x8_2, x9_2, rfl, rfl, rfl, HA, HK2, HO_7, HB⟩ := hrel
                  cases gk with
                  | zero => exact absurd HA.out (by simp [juratref11_Take.l0])
                  | succ k2 =>
                    have H := HA.out
                    clear HA
                    simp only [juratref11_Take.l0] at H
                    by_cases c14 : (x7_2.length : Int) < t216
                    · rw [if_pos c14] at H
                      have c14b0 : decide ((x7_2.length : Int) < t216) = true := decide_eq_true c14
                      clear c14
                      by_cases c15 : 0 ≤ x5_2
                      · rw [if_pos c15] at H
                        have c15b0 := eq_true c15
                        have c15b1 : decide (0 ≤ x5_2) = true := decide_eq_true c15
                        clear c15
                        by_cases c16 : x5_2 ≤ (a0.size : Int)
                        · rw [if_pos c16] at H
                          have c16b0 := eq_true c16
                          have c16b1 : decide (x5_2 ≤ (a0.size : Int)) = true := decide_eq_true c16
                          clear c16
                          replace H := Option.bind_eq_some_iff.mp H
                          obtain ⟨⟨t222, t223, t224⟩, A170, H⟩ := H
                          replace H : (if t224 = 0 then (if 0 ≤ (wrap64 (x5_2 + t223)) then (if (wrap64 (x5_2 + t223)) ≤ (a0.size : Int) then ((juratref02_Take.f k2 (a0.extract ((wrap64 (x5_2 + t223)) : Int).toNat a0.size)).bind fun bt225 => (if bt225.2.2 = 0 then ((juratref11_lengths.f k2 t222 bt225.1 x8_2 x9_2 (wrap64 ((a0.size : Int) - (wrap64 ((wrap64 (x5_2 + t223)) + bt225.2.1))))).bind fun t228 => (if t228 = 0 then (if t222 < (x8_2.size : Int) then (if 0 ≤ (wrap64 ((wrap64 (x5_2 + t223)) + bt225.2.1)) then (if (wrap64 ((wrap64 (x5_2 + t223)) + bt225.2.1)) < (a0.size : Int) then (if 0 ≤ t222 then (juratref11_Take.j2 k2 a0 t216 (wrap64 ((wrap64 (x5_2 + t223)) + bt225.2.1)) x7_2 x8_2 x9_2 t222 bt225.1 ((bt a0 (wrap64 ((wrap64 (x5_2 + t223)) + bt225.2.1))) == (bt x8_2 t222))) else (none)) else (none)) else (none)) else (juratref11_Take.j2 k2 a0 t216 (wrap64 ((wrap64 (x5_2 + t223)) + bt225.2.1)) x7_2 x8_2 x9_2 t222 bt225.1 false)) else (some (([] : List ByteArray), t228)))) else (some (([] : List ByteArray), bt225.2.2)))) else (none)) else (none)) else (some (([] : List ByteArray), t224))) = some (r1, r2) := H
                          have A17 := Aside0.mk A170
                          clear A170
                          by_cases c18 : t224 = 0
                          · rw [if_pos c18] at H
                            have c18b0 : (t224 == 0) = true := beq_iff_eq.mpr c18
                            have c18b1 : (t224 != 0) = false := bne_eq_false_iff_eq.mpr c18
                            clear c18
                            obtain ⟨ji19, hji19⟩ : ∃ j_ : Int, (wrap64 (x5_2 + t223)) = j_ := ⟨_, rfl⟩
                            replace H : (if 0 ≤ (ji19) then (if (ji19) ≤ (a0.size : Int) then ((juratref02_Take.f k2 (a0.extract ((ji19) : Int).toNat a0.size)).bind fun bt225 => (if bt225.2.2 = 0 then ((juratref11_lengths.f k2 t222 bt225.1 x8_2 x9_2 (wrap64 ((a0.size : Int) - (wrap64 ((ji19) + bt225.2.1))))).bind fun t228 => (if t228 = 0 then (if t222 < (x8_2.size : Int) then (if 0 ≤ (wrap64 ((ji19) + bt225.2.1)) then (if (wrap64 ((ji19) + bt225.2.1)) < (a0.size : Int) then (if 0 ≤ t222 then (juratref11_Take.j2 k2 a0 t216 (wrap64 ((ji19) + bt225.2.1)) x7_2 x8_2 x9_2 t222 bt225.1 ((bt a0 (wrap64 ((ji19) + bt225.2.1))) == (bt x8_2 t222))) else (none)) else (none)) else (none)) else (juratref11_Take.j2 k2 a0 t216 (wrap64 ((ji19) + bt225.2.1)) x7_2 x8_2 x9_2 t222 bt225.1 false)) else (some (([] : List ByteArray), t228)))) else (some (([] : List ByteArray), bt225.2.2)))) else (none)) else (none)) = some (r1, r2) := by first | (rw [hji19] at H; exact H) | (simp only [hji19] at H ⊢; exact H)
                            (try rw [hji19] at A17)
                            have hji19w : (IntKind.i64.wrap (x5_2 + t223)) = ji19 := (i64_w _).trans hji19
                            by_cases c20 : 0 ≤ (ji19)
                            · rw [if_pos c20] at H
                              have c20b0 := eq_true c20
                              have c20b1 : decide (0 ≤ (ji19)) = true := decide_eq_true c20
                              clear c20
                              by_cases c21 : (ji19) ≤ (a0.size : Int)
                              · rw [if_pos c21] at H
                                have c21b0 := eq_true c21
                                have c21b1 : decide ((ji19) ≤ (a0.size : Int)) = true := decide_eq_true c21
                                clear c21
                                replace H := Option.bind_eq_some_iff.mp H
                                obtain ⟨⟨t225, t226, t227⟩, A220, H⟩ := H
                                replace H : (if t227 = 0 then ((juratref11_lengths.f k2 t222 t225 x8_2 x9_2 (wrap64 ((a0.size : Int) - (wrap64 ((ji19) + t226))))).bind fun t228 => (if t228 = 0 then (if t222 < (x8_2.size : Int) then (if 0 ≤ (wrap64 ((ji19) + t226)) then (if (wrap64 ((ji19) + t226)) < (a0.size : Int) then (if 0 ≤ t222 then (juratref11_Take.j2 k2 a0 t216 (wrap64 ((ji19) + t226)) x7_2 x8_2 x9_2 t222 t225 ((bt a0 (wrap64 ((ji19) + t226))) == (bt x8_2 t222))) else (none)) else (none)) else (none)) else (juratref11_Take.j2 k2 a0 t216 (wrap64 ((ji19) + t226)) x7_2 x8_2 x9_2 t222 t225 false)) else (some (([] : List ByteArray), t228)))) else (some (([] : List ByteArray), t227))) = some (r1, r2) := H
                                have A22 := Aside0.mk A220
                                clear A220
                                by_cases c23 : t227 = 0
                                · rw [if_pos c23] at H
                                  have c23b0 : (t227 == 0) = true := beq_iff_eq.mpr c23
                                  have c23b1 : (t227 != 0) = false := bne_eq_false_iff_eq.mpr c23
                                  clear c23
                                  replace H := Option.bind_eq_some_iff.mp H
                                  obtain ⟨t228, A240, H⟩ := H
                                  replace H : (if t228 = 0 then (if t222 < (x8_2.size : Int) then (if 0 ≤ (wrap64 ((ji19) + t226)) then (if (wrap64 ((ji19) + t226)) < (a0.size : Int) then (if 0 ≤ t222 then (juratref11_Take.j2 k2 a0 t216 (wrap64 ((ji19) + t226)) x7_2 x8_2 x9_2 t222 t225 ((bt a0 (wrap64 ((ji19) + t226))) == (bt x8_2 t222))) else (none)) else (none)) else (none)) else (juratref11_Take.j2 k2 a0 t216 (wrap64 ((ji19) + t226)) x7_2 x8_2 x9_2 t222 t225 false)) else (some (([] : List ByteArray), t228))) = some (r1, r2) := H
                                  have A24 := Aside0.mk A240
                                  clear A240
                                  by_cases c25 : t228 = 0
                                  · rw [if_pos c25] at H
                                    have c25b0 : (t228 == 0) = true := beq_iff_eq.mpr c25
                                    have c25b1 : (t228 != 0) = false := bne_eq_false_iff_eq.mpr c25
                                    clear c25
                                    have HC26 := Aside0.mk H
                                    clear H
                                    obtain ⟨Ao27, co27, eo27⟩ := Kd.R_slice HO_7.out
                                    subst eo27
                                    go_upto_region 24 with (first | (go_at_call 32; (with_reducible refine (juratref02_Take.calls k2 (a0.extract (x5_2 : Int).toNat a0.size) t222 t223 t224 _ A17.out).mono ?_); rintro e w' ⟨rfl, ⟨nd, rfl⟩⟩; (try first | exact ⟨rfl, _, World.drewN_drewN _ _ _⟩ | exact ⟨rfl, _, Eq.trans (World.drewN_drewN _ _ _) (congrArg (World.drewN _) (Nat.add_assoc _ _ _))⟩)) | (go_at_call 32; (with_reducible refine (juratref02_Take.calls k2 (a0.extract ((ji19) : Int).toNat a0.size) t225 t226 t227 _ A22.out).mono ?_); rintro e w' ⟨rfl, ⟨nd, rfl⟩⟩; (try first | exact ⟨rfl, _, World.drewN_drewN _ _ _⟩ | exact ⟨rfl, _, Eq.trans (World.drewN_drewN _ _ _) (congrArg (World.drewN _) (Nat.add_assoc _ _ _))⟩)) | (go_at_call 33; (with_reducible refine (juratref11_lengths.calls k2 t222 t225 x8_2 x9_2 (wrap64 ((a0.size : Int) - (wrap64 ((ji19) + t226)))) t228 _ A24.out).mono ?_); rintro e w' ⟨rfl, ⟨nd, rfl⟩⟩; (try first | exact ⟨rfl, _, World.drewN_drewN _ _ _⟩ | exact ⟨rfl, _, Eq.trans (World.drewN_drewN _ _ _) (congrArg (World.drewN _) (Nat.add_assoc _ _ _))⟩)))
                                    repeat (go_quiet (first | (go_at_call 32; (with_reducible refine (juratref02_Take.calls k2 (a0.extract (x5_2 : Int).toNat a0.size) t222 t223 t224 _ A17.out).mono ?_); rintro e w' ⟨rfl, ⟨nd, rfl⟩⟩; (try first | exact ⟨rfl, _, World.drewN_drewN _ _ _⟩ | exact ⟨rfl, _, Eq.trans (World.drewN_drewN _ _ _) (congrArg (World.drewN _) (Nat.add_assoc _ _ _))⟩)) | (go_at_call 32; (with_reducible refine (juratref02_Take.calls k2 (a0.extract ((ji19) : Int).toNat a0.size) t225 t226 t227 _ A22.out).mono ?_); rintro e w' ⟨rfl, ⟨nd, rfl⟩⟩; (try first | exact ⟨rfl, _, World.drewN_drewN _ _ _⟩ | exact ⟨rfl, _, Eq.trans (World.drewN_drewN _ _ _) (congrArg (World.drewN _) (Nat.add_assoc _ _ _))⟩)) | (go_at_call 33; (with_reducible refine (juratref11_lengths.calls k2 t222 t225 x8_2 x9_2 (wrap64 ((a0.size : Int) - (wrap64 ((ji19) + t226)))) t228 _ A24.out).mono ?_); rintro e w' ⟨rfl, ⟨nd, rfl⟩⟩; (try first | exact ⟨rfl, _, World.drewN_drewN _ _ _⟩ | exact ⟨rfl, _, Eq.trans (World.drewN_drewN _ _ _) (congrArg (World.drewN _) (Nat.add_assoc _ _ _))⟩))); go_upto_region 24 with (first | (go_at_call 32; (with_reducible refine (juratref02_Take.calls k2 (a0.extract (x5_2 : Int).toNat a0.size) t222 t223 t224 _ A17.out).mono ?_); rintro e w' ⟨rfl, ⟨nd, rfl⟩⟩; (try first | exact ⟨rfl, _, World.drewN_drewN _ _ _⟩ | exact ⟨rfl, _, Eq.trans (World.drewN_drewN _ _ _) (congrArg (World.drewN _) (Nat.add_assoc _ _ _))⟩)) | (go_at_call 32; (with_reducible refine (juratref02_Take.calls k2 (a0.extract ((ji19) : Int).toNat a0.size) t225 t226 t227 _ A22.out).mono ?_); rintro e w' ⟨rfl, ⟨nd, rfl⟩⟩; (try first | exact ⟨rfl, _, World.drewN_drewN _ _ _⟩ | exact ⟨rfl, _, Eq.trans (World.drewN_drewN _ _ _) (congrArg (World.drewN _) (Nat.add_assoc _ _ _))⟩)) | (go_at_call 33; (with_reducible refine (juratref11_lengths.calls k2 t222 t225 x8_2 x9_2 (wrap64 ((a0.size : Int) - (wrap64 ((ji19) + t226)))) t228 _ A24.out).mono ?_); rintro e w' ⟨rfl, ⟨nd, rfl⟩⟩; (try first | exact ⟨rfl, _, World.drewN_drewN _ _ _⟩ | exact ⟨rfl, _, Eq.trans (World.drewN_drewN _ _ _) (congrArg (World.drewN _) (Nat.add_assoc _ _ _))⟩))))
                                    (try simp only [Act.put, List.setIfInBounds_toArray, List.set_cons_zero, List.set_cons_succ])
                                    go_cut [99] (fun v99 wc => ∃ (kq : Nat) (x99_25 : Bool), v99 = .bool x99_25 ∧ Aside0 (juratref11_Take.j2 kq a0 t216 (wrap64 ((ji19) + t226)) x7_2 x8_2 x9_2 t222 t225 x99_25 = some (r1, r2)) ∧ Aside0 (kq ≤ k2) ∧ Aside0 (Kd.R Kd.string 9 wc w.heap.size (fun _ => True) (.slice Ao27 x7_2.length co27) x7_2) ∧ Aside0 (Below w.heap.size w wc))
                                    case first =>
                                      have H := HC26.out
                                      clear HC26
                                      by_cases c28 : t222 < (x8_2.size : Int)
                                      · rw [if_pos c28] at H
                                        have c28b0 : decide (t222 < (x8_2.size : Int)) = true := decide_eq_true c28
                                        clear c28
                                        (first | rw [c28b0] | rw [c28b1] | (simp only [i64_w, i32_w]; rw [c28b0]) | skip)
                                        obtain ⟨ji29, hji29⟩ : ∃ j_ : Int, (wrap64 ((ji19) + t226)) = j_ := ⟨_, rfl⟩
                                        replace H : (if 0 ≤ (ji29) then (if (ji29) < (a0.size : Int) then (if 0 ≤ t222 then (juratref11_Take.j2 k2 a0 t216 ji29 x7_2 x8_2 x9_2 t222 t225 ((bt a0 (ji29)) == (bt x8_2 t222))) else (none)) else (none)) else (none)) = some (r1, r2) := by first | (rw [hji29] at H; exact H) | (simp only [hji29] at H ⊢; exact H)
                                        have hji29w : (IntKind.i64.wrap ((ji19) + t226)) = ji29 := (i64_w _).trans hji29
                                        by_cases c30 : 0 ≤ (ji29)
                                        · rw [if_pos c30] at H
                                          have c30b0 : decide (0 ≤ (ji29)) = true := decide_eq_true c30
                                          clear c30
                                          by_cases c31 : (ji29) < (a0.size : Int)
                                          · rw [if_pos c31] at H
                                            have c31b0 : decide ((ji29) < (a0.size : Int)) = true := decide_eq_true c31
                                            clear c31
                                            by_cases c33 : 0 ≤ t222
                                            · rw [if_pos c33] at H
                                              have c33b0 : decide (0 ≤ t222) = true := decide_eq_true c33
                                              clear c33
                                              have H' := Aside0.mk H
                                              clear H
                                              have p32 : 0 ≤ ((ji29) : Int) := of_decide_eq_true (by first | (with_reducible assumption) | assumption)
                                              have q32 : (ji29) < (a0.size : Int) := of_decide_eq_true (by first | (with_reducible assumption) | assumption)
                                              have hx32 := bt_at a0 (ji29)
                                              replace p32 := eq_true p32
                                              replace q32 := eq_true q32
                                              have p34 : 0 ≤ (t222 : Int) := of_decide_eq_true (by first | (with_reducible assumption) | assumption)
                                              have q34 : t222 < (x8_2.size : Int) := of_decide_eq_true (by first | (with_reducible assumption) | assumption)
                                              have hx34 := bt_at x8_2 t222
                                              replace p34 := eq_true p34
                                              replace q34 := eq_true q34
                                              go_wp2
                                              repeat (go_quiet (fail); try go_wp2)
                                              go_meet
                                              case rel => exact ⟨_, (((bt a0 (ji29)) == (bt x8_2 t222))), (by first | rfl | (simp; done) | (simp only [← hji29] <;> (first | rfl | simp)) | (simp [*]; done)), (by first | exact H' | (rw [hji29]; exact H')), ⟨by have := HJ1.out; have := HK2.out; first | omega | exact Nat.le_refl _⟩, ⟨by (with_reducible repeat (first | apply Kd.R_alloc | apply Kd.R_drewN | apply Kd.R_drew)); exact HO_7.out⟩, ⟨by repeat (first | (with_reducible first | exact HB.out | apply below_alloc | apply pw_below_drewN | apply below_drew1) | exact HB.out)⟩⟩
                                            · rw [if_neg c33] at H
                                              exact absurd H (by simp)
                                          · rw [if_neg c31] at H
                                            exact absurd H (by simp)
                                        · rw [if_neg c30] at H
                                          exact absurd H (by simp)
                                      · rw [if_neg c28] at H
                                        have c28b0 : decide (t222 < (x8_2.size : Int)) = false := decide_eq_false c28
                                        clear c28
                                        (first | rw [c28b0] | rw [c28b1] | (simp only [i64_w, i32_w]; rw [c28b0]) | skip)
                                        have H' := Aside0.mk H
                                        clear H
                                        go_wp2
                                        repeat (go_quiet (fail); try go_wp2)
                                        go_meet
                                        case rel => exact ⟨_, (false), (by first | rfl | exact isE_ _ | exact isE2_ _ | (simp; done) | (simp [*]; done)), H', ⟨by have := HJ1.out; have := HK2.out; first | omega | exact Nat.le_refl _⟩, ⟨by (with_reducible repeat (first | apply Kd.R_alloc | apply Kd.R_drewN | apply Kd.R_drew)); exact HO_7.out⟩, ⟨by repeat (first | (with_reducible first | exact HB.out | apply below_alloc | apply pw_below_drewN | apply below_drew1) | exact HB.out)⟩⟩
                                    case rest =>
                                      clear HC26
                                      try clear c1
                                      try clear c2
                                      try clear p2
                                      try clear c3
                                      try clear c3b0
                                      try clear c3b1
                                      try clear p3
                                      try clear q3
                                      try clear hx3
                                      try clear c4
                                      try clear c4b0
                                      try clear c4b1
                                      try clear c5
                                      try clear c5b0
                                      try clear c5b1
                                      try clear c6
                                      try clear p6
                                      try clear c7
                                      try clear c7b0
                                      try clear c7b1
                                      try clear c9
                                      try clear c9b0
                                      try clear c9b1
                                      try clear c10
                                      try clear c10b0
                                      try clear c10b1
                                      try clear c11
                                      try clear c11b0
                                      try clear c13
                                      try clear c14
                                      try clear c14b0
                                      try clear c15
                                      try clear c15b0
                                      try clear c15b1
                                      try clear c16
                                      try clear c16b0
                                      try clear c16b1
                                      try clear c18
                                      try clear c18b0
                                      try clear c18b1
                                      try clear c20
                                      try clear c20b0
                                      try clear c20b1
                                      try clear c21
                                      try clear c21b0
                                      try clear c21b1
                                      try clear c23
                                      try clear c23b0
                                      try clear c23b1
                                      try clear c25
                                      try clear c25b0
                                      try clear c25b1
                                      try clear c28
                                      try clear c28b0
                                      try clear c30
                                      try clear c30b0
                                      try clear c31
                                      try clear c31b0
                                      try clear p32
                                      try clear q32
                                      try clear hx32
                                      try clear c33
                                      try clear c33b0
                                      try clear p34
                                      try clear q34
                                      try clear hx34
                                      try clear p2
                                      try clear p32
                                      try clear p34
                                      try clear p6
                                      try clear q32
                                      try clear q34
                                      obtain ⟨kq, x99_25, rfl, HA, HJ25, HO_7, HB⟩ := hcut
                                      cases kq with
                                      | zero => exact absurd HA.out (by simp [juratref11_Take.j2])
                                      | succ kj25 =>
                                        have H := HA.out
                                        clear HA
                                        simp only [juratref11_Take.j2] at H
                                        by_cases c35 : x99_25 = true
                                        · subst c35
                                          have H1 : (some (([] : List ByteArray), 3)) = some (r1, r2) := by rw [if_pos rfl] at H; exact H
                                          clear H
                                          have H := H1
                                          clear H1
                                          simp only [Option.some.injEq, Prod.mk.injEq] at H
                                          obtain ⟨rfl, rfl⟩ := H
                                          go_wp2
                                          repeat (go_quiet (fail); try go_wp2)
                                          go_ret2
                                          exact ⟨_, by first | rfl | (simp [errW_none, errW_some] <;> rfl) | (simp only [← hji19]; first | rfl | (simp [errW_none, errW_some] <;> rfl)) | (simp [*, errW_none, errW_some] <;> rfl), by first | exact Kd.R_nil _ _ _ _ _ | exact Kd.N_nil _ _ _ _ _ | exact Kd.V_nil _ _ _ _ _ | exact Kd.Q_nil _ _ _ _ _ | exact Kd.S_nil _ _ _ _ _, by repeat (first | (with_reducible first | exact HB.out | apply below_alloc | apply pw_below_drewN | apply below_drew1) | exact HB.out)⟩
                                        · replace c35 := Bool.eq_false_iff.mpr c35
                                          subst c35
                                          have H1 : (if t222 < (x8_2.size : Int) then (if 0 ≤ (wrap64 ((ji19) + t226)) then (if (wrap64 ((ji19) + t226)) < (a0.size : Int) then (if 0 ≤ t222 then (if (bt a0 (wrap64 ((ji19) + t226))) < (bt x8_2 t222) then (some (([] : List ByteArray), 9)) else (if t222 ≤ (x8_2.size : Int) then (if (wrap64 ((ji19) + t226)) ≤ (wrap64 ((wrap64 ((ji19) + t226)) + t225)) then (if (wrap64 ((wrap64 ((ji19) + t226)) + t225)) ≤ (a0.size : Int) then (if (x8_2.extract 0 (t222 : Int).toNat).size + (a0.extract ((wrap64 ((ji19) + t226)) : Int).toNat ((wrap64 ((wrap64 ((ji19) + t226)) + t225)) : Int).toNat).size ≤ 9223372036854775807 then (if x7_2.length < 8796093022208 then (juratref11_Take.l0 kj25 a0 t216 (wrap64 ((wrap64 ((ji19) + t226)) + t225)) (x7_2 ++ [(x8_2.extract 0 (t222 : Int).toNat) ++ (a0.extract ((wrap64 ((ji19) + t226)) : Int).toNat ((wrap64 ((wrap64 ((ji19) + t226)) + t225)) : Int).toNat)]) ((x8_2.extract 0 (t222 : Int).toNat) ++ (a0.extract ((wrap64 ((ji19) + t226)) : Int).toNat ((wrap64 ((wrap64 ((ji19) + t226)) + t225)) : Int).toNat)) (wrap64 (x9_2 + (((x8_2.extract 0 (t222 : Int).toNat) ++ (a0.extract ((wrap64 ((ji19) + t226)) : Int).toNat ((wrap64 ((wrap64 ((ji19) + t226)) + t225)) : Int).toNat)).size : Int)))) else (none)) else (none)) else (none)) else (none)) else (none))) else (none)) else (none)) else (none)) else (if 0 ≤ t222 then (if t222 ≤ (x8_2.size : Int) then (if 0 ≤ (wrap64 ((ji19) + t226)) then (if (wrap64 ((ji19) + t226)) ≤ (wrap64 ((wrap64 ((ji19) + t226)) + t225)) then (if (wrap64 ((wrap64 ((ji19) + t226)) + t225)) ≤ (a0.size : Int) then (if (x8_2.extract 0 (t222 : Int).toNat).size + (a0.extract ((wrap64 ((ji19) + t226)) : Int).toNat ((wrap64 ((wrap64 ((ji19) + t226)) + t225)) : Int).toNat).size ≤ 9223372036854775807 then (if x7_2.length < 8796093022208 then (juratref11_Take.l0 kj25 a0 t216 (wrap64 ((wrap64 ((ji19) + t226)) + t225)) (x7_2 ++ [(x8_2.extract 0 (t222 : Int).toNat) ++ (a0.extract ((wrap64 ((ji19) + t226)) : Int).toNat ((wrap64 ((wrap64 ((ji19) + t226)) + t225)) : Int).toNat)]) ((x8_2.extract 0 (t222 : Int).toNat) ++ (a0.extract ((wrap64 ((ji19) + t226)) : Int).toNat ((wrap64 ((wrap64 ((ji19) + t226)) + t225)) : Int).toNat)) (wrap64 (x9_2 + (((x8_2.extract 0 (t222 : Int).toNat) ++ (a0.extract ((wrap64 ((ji19) + t226)) : Int).toNat ((wrap64 ((wrap64 ((ji19) + t226)) + t225)) : Int).toNat)).size : Int)))) else (none)) else (none)) else (none)) else (none)) else (none)) else (none)) else (none))) = some (r1, r2) := by rw [if_neg (show ¬ (false = true) by decide)] at H; exact H
                                          clear H
                                          have H := H1
                                          clear H1
                                          by_cases c36 : t222 < (x8_2.size : Int)
                                          · rw [if_pos c36] at H
                                            have c36b0 : decide (t222 < (x8_2.size : Int)) = true := decide_eq_true c36
                                            clear c36
                                            obtain ⟨ji37, hji37⟩ : ∃ j_ : Int, (wrap64 ((ji19) + t226)) = j_ := ⟨_, rfl⟩
                                            replace H : (if 0 ≤ (ji37) then (if (ji37) < (a0.size : Int) then (if 0 ≤ t222 then (if (bt a0 (ji37)) < (bt x8_2 t222) then (some (([] : List ByteArray), 9)) else (if t222 ≤ (x8_2.size : Int) then (if (ji37) ≤ (wrap64 ((ji37) + t225)) then (if (wrap64 ((ji37) + t225)) ≤ (a0.size : Int) then (if (x8_2.extract 0 (t222 : Int).toNat).size + (a0.extract ((ji37) : Int).toNat ((wrap64 ((ji37) + t225)) : Int).toNat).size ≤ 9223372036854775807 then (if x7_2.length < 8796093022208 then (juratref11_Take.l0 kj25 a0 t216 (wrap64 ((ji37) + t225)) (x7_2 ++ [(x8_2.extract 0 (t222 : Int).toNat) ++ (a0.extract ((ji37) : Int).toNat ((wrap64 ((ji37) + t225)) : Int).toNat)]) ((x8_2.extract 0 (t222 : Int).toNat) ++ (a0.extract ((ji37) : Int).toNat ((wrap64 ((ji37) + t225)) : Int).toNat)) (wrap64 (x9_2 + (((x8_2.extract 0 (t222 : Int).toNat) ++ (a0.extract ((ji37) : Int).toNat ((wrap64 ((ji37) + t225)) : Int).toNat)).size : Int)))) else (none)) else (none)) else (none)) else (none)) else (none))) else (none)) else (none)) else (none)) = some (r1, r2) := by first | (rw [hji37] at H; exact H) | (simp only [hji37] at H ⊢; exact H)
                                            have hji37w : (IntKind.i64.wrap ((ji19) + t226)) = ji37 := (i64_w _).trans hji37
                                            by_cases c38 : 0 ≤ (ji37)
                                            · rw [if_pos c38] at H
                                              have c38b0 : decide (0 ≤ (ji37)) = true := decide_eq_true c38
                                              clear c38
                                              by_cases c39 : (ji37) < (a0.size : Int)
                                              · rw [if_pos c39] at H
                                                have c39b0 : decide ((ji37) < (a0.size : Int)) = true := decide_eq_true c39
                                                clear c39
                                                by_cases c41 : 0 ≤ t222
                                                · rw [if_pos c41] at H
                                                  have c41b0 : decide (0 ≤ t222) = true := decide_eq_true c41
                                                  clear c41
                                                  by_cases c43 : (bt a0 (ji37)) < (bt x8_2 t222)
                                                  · rw [if_pos c43] at H
                                                    have c43b0 : decide ((bt a0 (ji37)) < (bt x8_2 t222)) = true := decide_eq_true c43
                                                    clear c43
                                                    simp only [Option.some.injEq, Prod.mk.injEq] at H
                                                    obtain ⟨rfl, rfl⟩ := H
                                                    have p40 : 0 ≤ ((ji37) : Int) := of_decide_eq_true (by first | (with_reducible assumption) | assumption)
                                                    have q40 : (ji37) < (a0.size : Int) := of_decide_eq_true (by first | (with_reducible assumption) | assumption)
                                                    have hx40 := bt_at a0 (ji37)
                                                    replace p40 := eq_true p40
                                                    replace q40 := eq_true q40
                                                    have p42 : 0 ≤ (t222 : Int) := of_decide_eq_true (by first | (with_reducible assumption) | assumption)
                                                    have q42 : t222 < (x8_2.size : Int) := of_decide_eq_true (by first | (with_reducible assumption) | assumption)
                                                    have hx42 := bt_at x8_2 t222
                                                    replace p42 := eq_true p42
                                                    replace q42 := eq_true q42
                                                    go_wp2
                                                    repeat (go_quiet (fail); try go_wp2)
                                                    go_ret2
                                                    exact ⟨_, by first | rfl | (simp [errW_none, errW_some] <;> rfl) | (simp only [← hji19, ← hji37]; first | rfl | (simp [errW_none, errW_some] <;> rfl)) | (simp [*, errW_none, errW_some] <;> rfl), by first | exact Kd.R_nil _ _ _ _ _ | exact Kd.N_nil _ _ _ _ _ | exact Kd.V_nil _ _ _ _ _ | exact Kd.Q_nil _ _ _ _ _ | exact Kd.S_nil _ _ _ _ _, by repeat (first | (with_reducible first | exact HB.out | apply below_alloc | apply pw_below_drewN | apply below_drew1) | exact HB.out)⟩
                                                  · rw [if_neg c43] at H
                                                    have c43b0 : decide ((bt a0 (ji37)) < (bt x8_2 t222)) = false := decide_eq_false c43
                                                    clear c43
                                                    have c44b0 := eq_true (of_decide_eq_true (by first | (with_reducible assumption) | assumption) : 0 ≤ t222)
                                                    by_cases c45 : t222 ≤ (x8_2.size : Int)
                                                    · rw [if_pos c45] at H
                                                      have c45b0 := eq_true c45
                                                      have c45b1 : decide (t222 ≤ (x8_2.size : Int)) = true := decide_eq_true c45
                                                      clear c45
                                                      have c46b0 := eq_true (of_decide_eq_true (by first | (with_reducible assumption) | assumption) : 0 ≤ (ji37))
                                                      by_cases c47 : (ji37) ≤ (wrap64 ((ji37) + t225))
                                                      · rw [if_pos c47] at H
                                                        have c47b0 := eq_true c47
                                                        have c47b1 : decide ((ji37) ≤ (wrap64 ((ji37) + t225))) = true := decide_eq_true c47
                                                        by_cases c48 : (wrap64 ((ji37) + t225)) ≤ (a0.size : Int)
                                                        · rw [if_pos c48] at H
                                                          have c48b0 := eq_true c48
                                                          have c48b1 : decide ((wrap64 ((ji37) + t225)) ≤ (a0.size : Int)) = true := decide_eq_true c48
                                                          by_cases c49 : (x8_2.extract 0 (t222 : Int).toNat).size + (a0.extract ((ji37) : Int).toNat ((wrap64 ((ji37) + t225)) : Int).toNat).size ≤ 9223372036854775807
                                                          · rw [if_pos c49] at H
                                                            have c49b0 := eq_true c49
                                                            have c49b1 : decide ((x8_2.extract 0 (t222 : Int).toNat).size + (a0.extract ((ji37) : Int).toNat ((wrap64 ((ji37) + t225)) : Int).toNat).size ≤ 9223372036854775807) = true := decide_eq_true c49
                                                            try have c49b2 : (9223372036854775807 < (x8_2.extract 0 (t222 : Int).toNat).size + (a0.extract ((ji37) : Int).toNat ((wrap64 ((ji37) + t225)) : Int).toNat).size) = False := eq_false (Nat.not_lt.2 c49)
                                                            try (have c49b3 := c49b2; simp only [ByteArray.size_append] at c49b3)
                                                            try (have c49b4 := c49b2; simp only [ByteArray.size_append, ByteArray.size_extract, Nat.min_self, Nat.sub_zero] at c49b4)
                                                            by_cases c50 : x7_2.length < 8796093022208
                                                            · rw [if_pos c50] at H
                                                              have LMc50 := Aside0.mk c50
                                                              clear c50
                                                              obtain ⟨y229, hy229⟩ : ∃ y_ : List ByteArray, y_ = (x7_2 ++ [(x8_2.extract 0 (t222 : Int).toNat) ++ (a0.extract ((ji37) : Int).toNat ((wrap64 ((ji37) + t225)) : Int).toNat)]) := ⟨_, rfl⟩
                                                              replace H : (juratref11_Take.l0 kj25 a0 t216 (wrap64 ((ji37) + t225)) y229 ((x8_2.extract 0 (t222 : Int).toNat) ++ (a0.extract ((ji37) : Int).toNat ((wrap64 ((ji37) + t225)) : Int).toNat)) (wrap64 (x9_2 + (((x8_2.extract 0 (t222 : Int).toNat) ++ (a0.extract ((ji37) : Int).toNat ((wrap64 ((ji37) + t225)) : Int).toNat)).size : Int)))) = some (r1, r2) := by first | (rw [hy229]; with_reducible exact H) | (have H2_ := (Option.bind_some _ _).symm.trans H; rw [hy229]; with_reducible exact H2_) | (have H2_ := (Option.bind_some _ _).symm.trans H; with_reducible exact H2_) | with_reducible exact H | (rw [hy229]; exact H) | exact H
                                                              have Ny229 := Aside0.mk hy229
                                                              clear hy229
                                                              have H' := Aside0.mk H
                                                              clear H
                                                              have p40 : 0 ≤ ((ji37) : Int) := of_decide_eq_true (by first | (with_reducible assumption) | assumption)
                                                              have q40 : (ji37) < (a0.size : Int) := of_decide_eq_true (by first | (with_reducible assumption) | assumption)
                                                              have hx40 := bt_at a0 (ji37)
                                                              replace p40 := eq_true p40
                                                              replace q40 := eq_true q40
                                                              have p42 : 0 ≤ (t222 : Int) := of_decide_eq_true (by first | (with_reducible assumption) | assumption)
                                                              have q42 : t222 < (x8_2.size : Int) := of_decide_eq_true (by first | (with_reducible assumption) | assumption)
                                                              have hx42 := bt_at x8_2 t222
                                                              replace p42 := eq_true p42
                                                              replace q42 := eq_true q42
                                                              go_wp2_with (first | ((with_reducible refine gate_builtin (b := .append) (xs := #[.tmp 130, .tmp 132]) rfl ?_); at_builtin; refine Kd.R_append Kd.string (w0 := w) w.heap.size rfl (.tmp 130) (.tmp 132) 22 9 (.string ⟨#[]⟩) 16 rfl Try.underlying22 info9 rfl (by decide) (by omega) (.slice Ao27 x7_2.length co27) x7_2 ((x8_2.extract 0 (t222 : Int).toNat) ++ (a0.extract ((ji37) : Int).toNat ((wrap64 ((ji37) + t225)) : Int).toNat)) [.string ((x8_2.extract 0 (t222 : Int).toNat) ++ (a0.extract ((ji37) : Int).toNat ((wrap64 ((ji37) + t225)) : Int).toNat))] (fun _ => True) (fun _ => False) rfl rfl ?aP (fun _ hk => hk.elim) ?aF ?aO ?aB ?aS ?aL ?_; (case aP => exact rfl); (case aB => exact (by repeat (first | (with_reducible first | exact HB.out | apply below_alloc | apply pw_below_drewN | apply below_drew1) | exact HB.out))); (case aF => exact (fun _ _ => trivial)); (case aO => exact (by (with_reducible repeat (first | apply Kd.R_alloc | apply Kd.R_drewN | apply Kd.R_drew)); exact HO_7.out)); (case aS => exact (below_size (by repeat (first | (with_reducible first | exact HB.out | apply below_alloc | apply pw_below_drewN | apply below_drew1) | exact HB.out)))); (case aL => have := LMc50.out; omega); intro v230 w51 ho hb hg hat; rw [← Ny229.out] at ho; have n0_ := Aside0.mk (hb); have n1_ := Aside0.mk (ho); clear HB; clear HO_7; have HB := n0_; have HO231 := n1_; clear n0_ n1_; clear ho hb hg hat))
                                                              repeat (go_quiet (first | ((with_reducible refine gate_builtin (b := .append) (xs := #[.tmp 130, .tmp 132]) rfl ?_); at_builtin; refine Kd.R_append Kd.string (w0 := w) w.heap.size rfl (.tmp 130) (.tmp 132) 22 9 (.string ⟨#[]⟩) 16 rfl Try.underlying22 info9 rfl (by decide) (by omega) (.slice Ao27 x7_2.length co27) x7_2 ((x8_2.extract 0 (t222 : Int).toNat) ++ (a0.extract ((ji37) : Int).toNat ((wrap64 ((ji37) + t225)) : Int).toNat)) [.string ((x8_2.extract 0 (t222 : Int).toNat) ++ (a0.extract ((ji37) : Int).toNat ((wrap64 ((ji37) + t225)) : Int).toNat))] (fun _ => True) (fun _ => False) rfl rfl ?aP (fun _ hk => hk.elim) ?aF ?aO ?aB ?aS ?aL ?_; (case aP => exact rfl); (case aB => exact (by repeat (first | (with_reducible first | exact HB.out | apply below_alloc | apply pw_below_drewN | apply below_drew1) | exact HB.out))); (case aF => exact (fun _ _ => trivial)); (case aO => exact (by (with_reducible repeat (first | apply Kd.R_alloc | apply Kd.R_drewN | apply Kd.R_drew)); exact HO_7.out)); (case aS => exact (below_size (by repeat (first | (with_reducible first | exact HB.out | apply below_alloc | apply pw_below_drewN | apply below_drew1) | exact HB.out)))); (case aL => have := LMc50.out; omega); intro v230 w51 ho hb hg hat; rw [← Ny229.out] at ho; have n0_ := Aside0.mk (hb); have n1_ := Aside0.mk (ho); clear HB; clear HO_7; have HB := n0_; have HO231 := n1_; clear n0_ n1_; clear ho hb hg hat)); try go_wp2_with (first | ((with_reducible refine gate_builtin (b := .append) (xs := #[.tmp 130, .tmp 132]) rfl ?_); at_builtin; refine Kd.R_append Kd.string (w0 := w) w.heap.size rfl (.tmp 130) (.tmp 132) 22 9 (.string ⟨#[]⟩) 16 rfl Try.underlying22 info9 rfl (by decide) (by omega) (.slice Ao27 x7_2.length co27) x7_2 ((x8_2.extract 0 (t222 : Int).toNat) ++ (a0.extract ((ji37) : Int).toNat ((wrap64 ((ji37) + t225)) : Int).toNat)) [.string ((x8_2.extract 0 (t222 : Int).toNat) ++ (a0.extract ((ji37) : Int).toNat ((wrap64 ((ji37) + t225)) : Int).toNat))] (fun _ => True) (fun _ => False) rfl rfl ?aP (fun _ hk => hk.elim) ?aF ?aO ?aB ?aS ?aL ?_; (case aP => exact rfl); (case aB => exact (by repeat (first | (with_reducible first | exact HB.out | apply below_alloc | apply pw_below_drewN | apply below_drew1) | exact HB.out))); (case aF => exact (fun _ _ => trivial)); (case aO => exact (by (with_reducible repeat (first | apply Kd.R_alloc | apply Kd.R_drewN | apply Kd.R_drew)); exact HO_7.out)); (case aS => exact (below_size (by repeat (first | (with_reducible first | exact HB.out | apply below_alloc | apply pw_below_drewN | apply below_drew1) | exact HB.out)))); (case aL => have := LMc50.out; omega); intro v230 w51 ho hb hg hat; rw [← Ny229.out] at ho; have n0_ := Aside0.mk (hb); have n1_ := Aside0.mk (ho); clear HB; clear HO_7; have HB := n0_; have HO231 := n1_; clear n0_ n1_; clear ho hb hg hat)))
                                                              go_roundg kj25
                                                              case measure => have := HJ1.out; have := HK2.out; have := HJ25.out; omega
                                                              case rel => exact ⟨(wrap64 ((ji37) + t225)), (y229), ((x8_2.extract 0 (t222 : Int).toNat) ++ (a0.extract ((ji37) : Int).toNat ((wrap64 ((ji37) + t225)) : Int).toNat)), (wrap64 (x9_2 + (((x8_2.extract 0 (t222 : Int).toNat) ++ (a0.extract ((ji37) : Int).toNat ((wrap64 ((ji37) + t225)) : Int).toNat)).size : Int))), (by first | rfl | (simp; done) | (simp only [← hji37] <;> (first | rfl | simp)) | (simp [*]; done)), (by first | rfl | (simp; done) | (simp only [← hji37] <;> (first | rfl | simp)) | (simp [*]; done)), (by first | rfl | (simp only [← hji37]; simp; rw [hji37]; exact tot_eq (of_eq_true (by assumption)) (of_eq_true (by assumption))) | (simp; done) | (simp only [← hji37] <;> (first | rfl | simp)) | (simp [*]; done)), H', ⟨by have := HJ1.out; have := HK2.out; have := HJ25.out; omega⟩, ⟨by (with_reducible repeat (first | apply Kd.R_alloc | apply Kd.R_drewN | apply Kd.R_drew)); exact HO231.out⟩, ⟨by repeat (first | (with_reducible first | exact HB.out | apply below_alloc | apply pw_below_drewN | apply below_drew1) | exact HB.out)⟩⟩
                                                            · rw [if_neg c50] at H
                                                              exact absurd H (by simp)
                                                          · rw [if_neg c49] at H
                                                            exact absurd H (by simp)
                                                        · rw [if_neg c48] at H
                                                          exact absurd H (by simp)
                                                      · rw [if_neg c47] at H
                                                        exact absurd H (by simp)
                                                    · rw [if_neg c45] at H
                                                      exact absurd H (by simp)
                                                · rw [if_neg c41] at H
                                                  exact absurd H (by simp)
                                              · rw [if_neg c39] at H
                                                exact absurd H (by simp)
                                            · rw [if_neg c38] at H
                                              exact absurd H (by simp)
                                          · rw [if_neg c36] at H
                                            have c36b0 : decide (t222 < (x8_2.size : Int)) = false := decide_eq_false c36
                                            clear c36
                                            by_cases c52 : 0 ≤ t222
                                            · rw [if_pos c52] at H
                                              have c52b0 := eq_true c52
                                              have c52b1 : decide (0 ≤ t222) = true := decide_eq_true c52
                                              clear c52
                                              by_cases c53 : t222 ≤ (x8_2.size : Int)
                                              · rw [if_pos c53] at H
                                                have c53b0 := eq_true c53
                                                have c53b1 : decide (t222 ≤ (x8_2.size : Int)) = true := decide_eq_true c53
                                                clear c53
                                                obtain ⟨ji54, hji54⟩ : ∃ j_ : Int, (wrap64 ((ji19) + t226)) = j_ := ⟨_, rfl⟩
                                                replace H : (if 0 ≤ (ji54) then (if (ji54) ≤ (wrap64 ((ji54) + t225)) then (if (wrap64 ((ji54) + t225)) ≤ (a0.size : Int) then (if (x8_2.extract 0 (t222 : Int).toNat).size + (a0.extract ((ji54) : Int).toNat ((wrap64 ((ji54) + t225)) : Int).toNat).size ≤ 9223372036854775807 then (if x7_2.length < 8796093022208 then (juratref11_Take.l0 kj25 a0 t216 (wrap64 ((ji54) + t225)) (x7_2 ++ [(x8_2.extract 0 (t222 : Int).toNat) ++ (a0.extract ((ji54) : Int).toNat ((wrap64 ((ji54) + t225)) : Int).toNat)]) ((x8_2.extract 0 (t222 : Int).toNat) ++ (a0.extract ((ji54) : Int).toNat ((wrap64 ((ji54) + t225)) : Int).toNat)) (wrap64 (x9_2 + (((x8_2.extract 0 (t222 : Int).toNat) ++ (a0.extract ((ji54) : Int).toNat ((wrap64 ((ji54) + t225)) : Int).toNat)).size : Int)))) else (none)) else (none)) else (none)) else (none)) else (none)) = some (r1, r2) := by first | (rw [hji54] at H; exact H) | (simp only [hji54] at H ⊢; exact H)
                                                have hji54w : (IntKind.i64.wrap ((ji19) + t226)) = ji54 := (i64_w _).trans hji54
                                                by_cases c55 : 0 ≤ (ji54)
                                                · rw [if_pos c55] at H
                                                  have c55b0 := eq_true c55
                                                  have c55b1 : decide (0 ≤ (ji54)) = true := decide_eq_true c55
                                                  clear c55
                                                  by_cases c56 : (ji54) ≤ (wrap64 ((ji54) + t225))
                                                  · rw [if_pos c56] at H
                                                    have c56b0 := eq_true c56
                                                    have c56b1 : decide ((ji54) ≤ (wrap64 ((ji54) + t225))) = true := decide_eq_true c56
                                                    by_cases c57 : (wrap64 ((ji54) + t225)) ≤ (a0.size : Int)
                                                    · rw [if_pos c57] at H
                                                      have c57b0 := eq_true c57
                                                      have c57b1 : decide ((wrap64 ((ji54) + t225)) ≤ (a0.size : Int)) = true := decide_eq_true c57
                                                      by_cases c58 : (x8_2.extract 0 (t222 : Int).toNat).size + (a0.extract ((ji54) : Int).toNat ((wrap64 ((ji54) + t225)) : Int).toNat).size ≤ 9223372036854775807
                                                      · rw [if_pos c58] at H
                                                        have c58b0 := eq_true c58
                                                        have c58b1 : decide ((x8_2.extract 0 (t222 : Int).toNat).size + (a0.extract ((ji54) : Int).toNat ((wrap64 ((ji54) + t225)) : Int).toNat).size ≤ 9223372036854775807) = true := decide_eq_true c58
                                                        try have c58b2 : (9223372036854775807 < (x8_2.extract 0 (t222 : Int).toNat).size + (a0.extract ((ji54) : Int).toNat ((wrap64 ((ji54) + t225)) : Int).toNat).size) = False := eq_false (Nat.not_lt.2 c58)
                                                        try (have c58b3 := c58b2; simp only [ByteArray.size_append] at c58b3)
                                                        try (have c58b4 := c58b2; simp only [ByteArray.size_append, ByteArray.size_extract, Nat.min_self, Nat.sub_zero] at c58b4)
                                                        by_cases c59 : x7_2.length < 8796093022208
                                                        · rw [if_pos c59] at H
                                                          have LMc59 := Aside0.mk c59
                                                          clear c59
                                                          obtain ⟨y232, hy232⟩ : ∃ y_ : List ByteArray, y_ = (x7_2 ++ [(x8_2.extract 0 (t222 : Int).toNat) ++ (a0.extract ((ji54) : Int).toNat ((wrap64 ((ji54) + t225)) : Int).toNat)]) := ⟨_, rfl⟩
                                                          replace H : (juratref11_Take.l0 kj25 a0 t216 (wrap64 ((ji54) + t225)) y232 ((x8_2.extract 0 (t222 : Int).toNat) ++ (a0.extract ((ji54) : Int).toNat ((wrap64 ((ji54) + t225)) : Int).toNat)) (wrap64 (x9_2 + (((x8_2.extract 0 (t222 : Int).toNat) ++ (a0.extract ((ji54) : Int).toNat ((wrap64 ((ji54) + t225)) : Int).toNat)).size : Int)))) = some (r1, r2) := by first | (rw [hy232]; with_reducible exact H) | (have H2_ := (Option.bind_some _ _).symm.trans H; rw [hy232]; with_reducible exact H2_) | (have H2_ := (Option.bind_some _ _).symm.trans H; with_reducible exact H2_) | with_reducible exact H | (rw [hy232]; exact H) | exact H
                                                          have Ny232 := Aside0.mk hy232
                                                          clear hy232
                                                          have H' := Aside0.mk H
                                                          clear H
                                                          go_wp2_with (first | ((with_reducible refine gate_builtin (b := .append) (xs := #[.tmp 130, .tmp 132]) rfl ?_); at_builtin; refine Kd.R_append Kd.string (w0 := w) w.heap.size rfl (.tmp 130) (.tmp 132) 22 9 (.string ⟨#[]⟩) 16 rfl Try.underlying22 info9 rfl (by decide) (by omega) (.slice Ao27 x7_2.length co27) x7_2 ((x8_2.extract 0 (t222 : Int).toNat) ++ (a0.extract ((ji54) : Int).toNat ((wrap64 ((ji54) + t225)) : Int).toNat)) [.string ((x8_2.extract 0 (t222 : Int).toNat) ++ (a0.extract ((ji54) : Int).toNat ((wrap64 ((ji54) + t225)) : Int).toNat))] (fun _ => True) (fun _ => False) rfl rfl ?aP (fun _ hk => hk.elim) ?aF ?aO ?aB ?aS ?aL ?_; (case aP => exact rfl); (case aB => exact (by repeat (first | (with_reducible first | exact HB.out | apply below_alloc | apply pw_below_drewN | apply below_drew1) | exact HB.out))); (case aF => exact (fun _ _ => trivial)); (case aO => exact (by (with_reducible repeat (first | apply Kd.R_alloc | apply Kd.R_drewN | apply Kd.R_drew)); exact HO_7.out)); (case aS => exact (below_size (by repeat (first | (with_reducible first | exact HB.out | apply below_alloc | apply pw_below_drewN | apply below_drew1) | exact HB.out)))); (case aL => have := LMc59.out; omega); intro v233 w60 ho hb hg hat; rw [← Ny232.out] at ho; have n0_ := Aside0.mk (hb); have n1_ := Aside0.mk (ho); clear HB; clear HO_7; have HB := n0_; have HO234 := n1_; clear n0_ n1_; clear ho hb hg hat))
                                                          repeat (go_quiet (first | ((with_reducible refine gate_builtin (b := .append) (xs := #[.tmp 130, .tmp 132]) rfl ?_); at_builtin; refine Kd.R_append Kd.string (w0 := w) w.heap.size rfl (.tmp 130) (.tmp 132) 22 9 (.string ⟨#[]⟩) 16 rfl Try.underlying22 info9 rfl (by decide) (by omega) (.slice Ao27 x7_2.length co27) x7_2 ((x8_2.extract 0 (t222 : Int).toNat) ++ (a0.extract ((ji54) : Int).toNat ((wrap64 ((ji54) + t225)) : Int).toNat)) [.string ((x8_2.extract 0 (t222 : Int).toNat) ++ (a0.extract ((ji54) : Int).toNat ((wrap64 ((ji54) + t225)) : Int).toNat))] (fun _ => True) (fun _ => False) rfl rfl ?aP (fun _ hk => hk.elim) ?aF ?aO ?aB ?aS ?aL ?_; (case aP => exact rfl); (case aB => exact (by repeat (first | (with_reducible first | exact HB.out | apply below_alloc | apply pw_below_drewN | apply below_drew1) | exact HB.out))); (case aF => exact (fun _ _ => trivial)); (case aO => exact (by (with_reducible repeat (first | apply Kd.R_alloc | apply Kd.R_drewN | apply Kd.R_drew)); exact HO_7.out)); (case aS => exact (below_size (by repeat (first | (with_reducible first | exact HB.out | apply below_alloc | apply pw_below_drewN | apply below_drew1) | exact HB.out)))); (case aL => have := LMc59.out; omega); intro v233 w60 ho hb hg hat; rw [← Ny232.out] at ho; have n0_ := Aside0.mk (hb); have n1_ := Aside0.mk (ho); clear HB; clear HO_7; have HB := n0_; have HO234 := n1_; clear n0_ n1_; clear ho hb hg hat)); try go_wp2_with (first | ((with_reducible refine gate_builtin (b := .append) (xs := #[.tmp 130, .tmp 132]) rfl ?_); at_builtin; refine Kd.R_append Kd.string (w0 := w) w.heap.size rfl (.tmp 130) (.tmp 132) 22 9 (.string ⟨#[]⟩) 16 rfl Try.underlying22 info9 rfl (by decide) (by omega) (.slice Ao27 x7_2.length co27) x7_2 ((x8_2.extract 0 (t222 : Int).toNat) ++ (a0.extract ((ji54) : Int).toNat ((wrap64 ((ji54) + t225)) : Int).toNat)) [.string ((x8_2.extract 0 (t222 : Int).toNat) ++ (a0.extract ((ji54) : Int).toNat ((wrap64 ((ji54) + t225)) : Int).toNat))] (fun _ => True) (fun _ => False) rfl rfl ?aP (fun _ hk => hk.elim) ?aF ?aO ?aB ?aS ?aL ?_; (case aP => exact rfl); (case aB => exact (by repeat (first | (with_reducible first | exact HB.out | apply below_alloc | apply pw_below_drewN | apply below_drew1) | exact HB.out))); (case aF => exact (fun _ _ => trivial)); (case aO => exact (by (with_reducible repeat (first | apply Kd.R_alloc | apply Kd.R_drewN | apply Kd.R_drew)); exact HO_7.out)); (case aS => exact (below_size (by repeat (first | (with_reducible first | exact HB.out | apply below_alloc | apply pw_below_drewN | apply below_drew1) | exact HB.out)))); (case aL => have := LMc59.out; omega); intro v233 w60 ho hb hg hat; rw [← Ny232.out] at ho; have n0_ := Aside0.mk (hb); have n1_ := Aside0.mk (ho); clear HB; clear HO_7; have HB := n0_; have HO234 := n1_; clear n0_ n1_; clear ho hb hg hat)))
                                                          go_roundg kj25
                                                          case measure => have := HJ1.out; have := HK2.out; have := HJ25.out; omega
                                                          case rel => exact ⟨(wrap64 ((ji54) + t225)), (y232), ((x8_2.extract 0 (t222 : Int).toNat) ++ (a0.extract ((ji54) : Int).toNat ((wrap64 ((ji54) + t225)) : Int).toNat)), (wrap64 (x9_2 + (((x8_2.extract 0 (t222 : Int).toNat) ++ (a0.extract ((ji54) : Int).toNat ((wrap64 ((ji54) + t225)) : Int).toNat)).size : Int))), (by first | rfl | (simp; done) | (simp only [← hji54] <;> (first | rfl | simp)) | (simp [*]; done)), (by first | rfl | (simp; done) | (simp only [← hji54] <;> (first | rfl | simp)) | (simp [*]; done)), (by first | rfl | (simp only [← hji54]; simp; rw [hji54]; exact tot_eq (of_eq_true (by assumption)) (of_eq_true (by assumption))) | (simp; done) | (simp only [← hji54] <;> (first | rfl | simp)) | (simp [*]; done)), H', ⟨by have := HJ1.out; have := HK2.out; have := HJ25.out; omega⟩, ⟨by (with_reducible repeat (first | apply Kd.R_alloc | apply Kd.R_drewN | apply Kd.R_drew)); exact HO234.out⟩, ⟨by repeat (first | (with_reducible first | exact HB.out | apply below_alloc | apply pw_below_drewN | apply below_drew1) | exact HB.out)⟩⟩
                                                        · rw [if_neg c59] at H
                                                          exact absurd H (by simp)
                                                      · rw [if_neg c58] at H
                                                        exact absurd H (by simp)
                                                    · rw [if_neg c57] at H
                                                      exact absurd H (by simp)
                                                  · rw [if_neg c56] at H
                                                    exact absurd H (by simp)
                                                · rw [if_neg c55] at H
                                                  exact absurd H (by simp)
                                              · rw [if_neg c53] at H
                                                exact absurd H (by simp)
                                            · rw [if_neg c52] at H
                                              exact absurd H (by simp)
                                  · rw [if_neg c25] at H
                                    have c25b0 : (t228 == 0) = false := beq_eq_false_iff_ne.mpr c25
                                    have c25b1 : (t228 != 0) = true := bne_iff_ne.mpr c25
                                    simp only [Option.some.injEq, Prod.mk.injEq] at H
                                    obtain ⟨rfl, rfl⟩ := H
                                    obtain ⟨Ao61, co61, eo61⟩ := Kd.R_slice HO_7.out
                                    subst eo61
                                    go_wp2_with (first | (go_at_call 32; (with_reducible refine (juratref02_Take.calls k2 (a0.extract (x5_2 : Int).toNat a0.size) t222 t223 t224 _ A17.out).mono ?_); rintro e w' ⟨rfl, ⟨nd, rfl⟩⟩; (try first | exact ⟨rfl, _, World.drewN_drewN _ _ _⟩ | exact ⟨rfl, _, Eq.trans (World.drewN_drewN _ _ _) (congrArg (World.drewN _) (Nat.add_assoc _ _ _))⟩)) | (go_at_call 32; (with_reducible refine (juratref02_Take.calls k2 (a0.extract ((ji19) : Int).toNat a0.size) t225 t226 t227 _ A22.out).mono ?_); rintro e w' ⟨rfl, ⟨nd, rfl⟩⟩; (try first | exact ⟨rfl, _, World.drewN_drewN _ _ _⟩ | exact ⟨rfl, _, Eq.trans (World.drewN_drewN _ _ _) (congrArg (World.drewN _) (Nat.add_assoc _ _ _))⟩)) | (go_at_call 33; (with_reducible refine (juratref11_lengths.calls k2 t222 t225 x8_2 x9_2 (wrap64 ((a0.size : Int) - (wrap64 ((ji19) + t226)))) t228 _ A24.out).mono ?_); rintro e w' ⟨rfl, ⟨nd, rfl⟩⟩; (try first | exact ⟨rfl, _, World.drewN_drewN _ _ _⟩ | exact ⟨rfl, _, Eq.trans (World.drewN_drewN _ _ _) (congrArg (World.drewN _) (Nat.add_assoc _ _ _))⟩)))
                                    repeat (go_quiet (first | (go_at_call 32; (with_reducible refine (juratref02_Take.calls k2 (a0.extract (x5_2 : Int).toNat a0.size) t222 t223 t224 _ A17.out).mono ?_); rintro e w' ⟨rfl, ⟨nd, rfl⟩⟩; (try first | exact ⟨rfl, _, World.drewN_drewN _ _ _⟩ | exact ⟨rfl, _, Eq.trans (World.drewN_drewN _ _ _) (congrArg (World.drewN _) (Nat.add_assoc _ _ _))⟩)) | (go_at_call 32; (with_reducible refine (juratref02_Take.calls k2 (a0.extract ((ji19) : Int).toNat a0.size) t225 t226 t227 _ A22.out).mono ?_); rintro e w' ⟨rfl, ⟨nd, rfl⟩⟩; (try first | exact ⟨rfl, _, World.drewN_drewN _ _ _⟩ | exact ⟨rfl, _, Eq.trans (World.drewN_drewN _ _ _) (congrArg (World.drewN _) (Nat.add_assoc _ _ _))⟩)) | (go_at_call 33; (with_reducible refine (juratref11_lengths.calls k2 t222 t225 x8_2 x9_2 (wrap64 ((a0.size : Int) - (wrap64 ((ji19) + t226)))) t228 _ A24.out).mono ?_); rintro e w' ⟨rfl, ⟨nd, rfl⟩⟩; (try first | exact ⟨rfl, _, World.drewN_drewN _ _ _⟩ | exact ⟨rfl, _, Eq.trans (World.drewN_drewN _ _ _) (congrArg (World.drewN _) (Nat.add_assoc _ _ _))⟩))); try go_wp2_with (first | (go_at_call 32; (with_reducible refine (juratref02_Take.calls k2 (a0.extract (x5_2 : Int).toNat a0.size) t222 t223 t224 _ A17.out).mono ?_); rintro e w' ⟨rfl, ⟨nd, rfl⟩⟩; (try first | exact ⟨rfl, _, World.drewN_drewN _ _ _⟩ | exact ⟨rfl, _, Eq.trans (World.drewN_drewN _ _ _) (congrArg (World.drewN _) (Nat.add_assoc _ _ _))⟩)) | (go_at_call 32; (with_reducible refine (juratref02_Take.calls k2 (a0.extract ((ji19) : Int).toNat a0.size) t225 t226 t227 _ A22.out).mono ?_); rintro e w' ⟨rfl, ⟨nd, rfl⟩⟩; (try first | exact ⟨rfl, _, World.drewN_drewN _ _ _⟩ | exact ⟨rfl, _, Eq.trans (World.drewN_drewN _ _ _) (congrArg (World.drewN _) (Nat.add_assoc _ _ _))⟩)) | (go_at_call 33; (with_reducible refine (juratref11_lengths.calls k2 t222 t225 x8_2 x9_2 (wrap64 ((a0.size : Int) - (wrap64 ((ji19) + t226)))) t228 _ A24.out).mono ?_); rintro e w' ⟨rfl, ⟨nd, rfl⟩⟩; (try first | exact ⟨rfl, _, World.drewN_drewN _ _ _⟩ | exact ⟨rfl, _, Eq.trans (World.drewN_drewN _ _ _) (congrArg (World.drewN _) (Nat.add_assoc _ _ _))⟩))))
                                    go_ret2
                                    exact ⟨_, by first | rfl | (simp [errW_none, errW_some] <;> rfl) | (simp only [← hji19]; first | rfl | (simp [errW_none, errW_some] <;> rfl)) | (simp [*, errW_none, errW_some] <;> rfl), by first | exact Kd.R_nil _ _ _ _ _ | exact Kd.N_nil _ _ _ _ _ | exact Kd.V_nil _ _ _ _ _ | exact Kd.Q_nil _ _ _ _ _ | exact Kd.S_nil _ _ _ _ _, by repeat (first | (with_reducible first | exact HB.out | apply below_alloc | apply pw_below_drewN | apply below_drew1) | exact HB.out)⟩
                                · rw [if_neg c23] at H
                                  have c23b0 : (t227 == 0) = false := beq_eq_false_iff_ne.mpr c23
                                  have c23b1 : (t227 != 0) = true := bne_iff_ne.mpr c23
                                  simp only [Option.some.injEq, Prod.mk.injEq] at H
                                  obtain ⟨rfl, rfl⟩ := H
                                  obtain ⟨Ao62, co62, eo62⟩ := Kd.R_slice HO_7.out
                                  subst eo62
                                  go_wp2_with (first | (go_at_call 32; (with_reducible refine (juratref02_Take.calls k2 (a0.extract (x5_2 : Int).toNat a0.size) t222 t223 t224 _ A17.out).mono ?_); rintro e w' ⟨rfl, ⟨nd, rfl⟩⟩; (try first | exact ⟨rfl, _, World.drewN_drewN _ _ _⟩ | exact ⟨rfl, _, Eq.trans (World.drewN_drewN _ _ _) (congrArg (World.drewN _) (Nat.add_assoc _ _ _))⟩)) | (go_at_call 32; (with_reducible refine (juratref02_Take.calls k2 (a0.extract ((ji19) : Int).toNat a0.size) t225 t226 t227 _ A22.out).mono ?_); rintro e w' ⟨rfl, ⟨nd, rfl⟩⟩; (try first | exact ⟨rfl, _, World.drewN_drewN _ _ _⟩ | exact ⟨rfl, _, Eq.trans (World.drewN_drewN _ _ _) (congrArg (World.drewN _) (Nat.add_assoc _ _ _))⟩)))
                                  repeat (go_quiet (first | (go_at_call 32; (with_reducible refine (juratref02_Take.calls k2 (a0.extract (x5_2 : Int).toNat a0.size) t222 t223 t224 _ A17.out).mono ?_); rintro e w' ⟨rfl, ⟨nd, rfl⟩⟩; (try first | exact ⟨rfl, _, World.drewN_drewN _ _ _⟩ | exact ⟨rfl, _, Eq.trans (World.drewN_drewN _ _ _) (congrArg (World.drewN _) (Nat.add_assoc _ _ _))⟩)) | (go_at_call 32; (with_reducible refine (juratref02_Take.calls k2 (a0.extract ((ji19) : Int).toNat a0.size) t225 t226 t227 _ A22.out).mono ?_); rintro e w' ⟨rfl, ⟨nd, rfl⟩⟩; (try first | exact ⟨rfl, _, World.drewN_drewN _ _ _⟩ | exact ⟨rfl, _, Eq.trans (World.drewN_drewN _ _ _) (congrArg (World.drewN _) (Nat.add_assoc _ _ _))⟩))); try go_wp2_with (first | (go_at_call 32; (with_reducible refine (juratref02_Take.calls k2 (a0.extract (x5_2 : Int).toNat a0.size) t222 t223 t224 _ A17.out).mono ?_); rintro e w' ⟨rfl, ⟨nd, rfl⟩⟩; (try first | exact ⟨rfl, _, World.drewN_drewN _ _ _⟩ | exact ⟨rfl, _, Eq.trans (World.drewN_drewN _ _ _) (congrArg (World.drewN _) (Nat.add_assoc _ _ _))⟩)) | (go_at_call 32; (with_reducible refine (juratref02_Take.calls k2 (a0.extract ((ji19) : Int).toNat a0.size) t225 t226 t227 _ A22.out).mono ?_); rintro e w' ⟨rfl, ⟨nd, rfl⟩⟩; (try first | exact ⟨rfl, _, World.drewN_drewN _ _ _⟩ | exact ⟨rfl, _, Eq.trans (World.drewN_drewN _ _ _) (congrArg (World.drewN _) (Nat.add_assoc _ _ _))⟩))))
                                  go_ret2
                                  exact ⟨_, by first | rfl | (simp [errW_none, errW_some] <;> rfl) | (simp only [← hji19]; first | rfl | (simp [errW_none, errW_some] <;> rfl)) | (simp [*, errW_none, errW_some] <;> rfl), by first | exact Kd.R_nil _ _ _ _ _ | exact Kd.N_nil _ _ _ _ _ | exact Kd.V_nil _ _ _ _ _ | exact Kd.Q_nil _ _ _ _ _ | exact Kd.S_nil _ _ _ _ _, by repeat (first | (with_reducible first | exact HB.out | apply below_alloc | apply pw_below_drewN | apply below_drew1) | exact HB.out)⟩
                              · rw [if_neg c21] at H
                                exact absurd H (by simp)
                            · rw [if_neg c20] at H
                              exact absurd H (by simp)
                          · rw [if_neg c18] at H
                            have c18b0 : (t224 == 0) = false := beq_eq_false_iff_ne.mpr c18
                            have c18b1 : (t224 != 0) = true := bne_iff_ne.mpr c18
                            simp only [Option.some.injEq, Prod.mk.injEq] at H
                            obtain ⟨rfl, rfl⟩ := H
                            obtain ⟨Ao63, co63, eo63⟩ := Kd.R_slice HO_7.out
                            subst eo63
                            go_wp2_with (first | (go_at_call 32; (with_reducible refine (juratref02_Take.calls k2 (a0.extract (x5_2 : Int).toNat a0.size) t222 t223 t224 _ A17.out).mono ?_); rintro e w' ⟨rfl, ⟨nd, rfl⟩⟩; (try first | exact ⟨rfl, _, World.drewN_drewN _ _ _⟩ | exact ⟨rfl, _, Eq.trans (World.drewN_drewN _ _ _) (congrArg (World.drewN _) (Nat.add_assoc _ _ _))⟩)))
                            repeat (go_quiet (first | (go_at_call 32; (with_reducible refine (juratref02_Take.calls k2 (a0.extract (x5_2 : Int).toNat a0.size) t222 t223 t224 _ A17.out).mono ?_); rintro e w' ⟨rfl, ⟨nd, rfl⟩⟩; (try first | exact ⟨rfl, _, World.drewN_drewN _ _ _⟩ | exact ⟨rfl, _, Eq.trans (World.drewN_drewN _ _ _) (congrArg (World.drewN _) (Nat.add_assoc _ _ _))⟩))); try go_wp2_with (first | (go_at_call 32; (with_reducible refine (juratref02_Take.calls k2 (a0.extract (x5_2 : Int).toNat a0.size) t222 t223 t224 _ A17.out).mono ?_); rintro e w' ⟨rfl, ⟨nd, rfl⟩⟩; (try first | exact ⟨rfl, _, World.drewN_drewN _ _ _⟩ | exact ⟨rfl, _, Eq.trans (World.drewN_drewN _ _ _) (congrArg (World.drewN _) (Nat.add_assoc _ _ _))⟩))))
                            go_ret2
                            exact ⟨_, by first | rfl | (simp [errW_none, errW_some] <;> rfl) | (simp [*, errW_none, errW_some] <;> rfl), by first | exact Kd.R_nil _ _ _ _ _ | exact Kd.N_nil _ _ _ _ _ | exact Kd.V_nil _ _ _ _ _ | exact Kd.Q_nil _ _ _ _ _ | exact Kd.S_nil _ _ _ _ _, by repeat (first | (with_reducible first | exact HB.out | apply below_alloc | apply pw_below_drewN | apply below_drew1) | exact HB.out)⟩
                        · rw [if_neg c16] at H
                          exact absurd H (by simp)
                      · rw [if_neg c15] at H
                        exact absurd H (by simp)
                    · rw [if_neg c14] at H
                      have c14b0 : decide ((x7_2.length : Int) < t216) = false := decide_eq_false c14
                      clear c14
                      by_cases c64 : x5_2 < (a0.size : Int)
                      · rw [if_pos c64] at H
                        have c64b0 : decide (x5_2 < (a0.size : Int)) = true := decide_eq_true c64
                        clear c64
                        simp only [Option.some.injEq, Prod.mk.injEq] at H
                        obtain ⟨rfl, rfl⟩ := H
                        obtain ⟨Ao65, co65, eo65⟩ := Kd.R_slice HO_7.out
                        subst eo65
                        go_wp2
                        repeat (go_quiet (fail); try go_wp2)
                        go_ret2
                        exact ⟨_, by first | rfl | (simp [errW_none, errW_some] <;> rfl) | (simp [*, errW_none, errW_some] <;> rfl), by first | exact Kd.R_nil _ _ _ _ _ | exact Kd.N_nil _ _ _ _ _ | exact Kd.V_nil _ _ _ _ _ | exact Kd.Q_nil _ _ _ _ _ | exact Kd.S_nil _ _ _ _ _, by repeat (first | (with_reducible first | exact HB.out | apply below_alloc | apply pw_below_drewN | apply below_drew1) | exact HB.out)⟩
                      · rw [if_neg c64] at H
                        have c64b0 : decide (x5_2 < (a0.size : Int)) = false := decide_eq_false c64
                        clear c64
                        simp only [Option.some.injEq, Prod.mk.injEq] at H
                        obtain ⟨rfl, rfl⟩ := H
                        obtain ⟨Ao66, co66, eo66⟩ := Kd.R_slice HO_7.out
                        subst eo66
                        go_wp2
                        repeat (go_quiet (fail); try go_wp2)
                        go_ret2
                        exact ⟨_, by first | rfl | (simp [errW_none, errW_some] <;> rfl) | (simp [*, errW_none, errW_some] <;> rfl), by (with_reducible repeat (first | apply Kd.R_alloc | apply Kd.R_drewN | apply Kd.R_drew)); exact HO_7.out, by repeat (first | (with_reducible first | exact HB.out | apply below_alloc | apply pw_below_drewN | apply below_drew1) | exact HB.out)⟩
          · rw [if_neg c9] at H
            have c9b0 : (t218 == 0) = false := beq_eq_false_iff_ne.mpr c9
            have c9b1 : (t218 != 0) = true := bne_iff_ne.mpr c9
            simp only [Option.some.injEq, Prod.mk.injEq] at H
            obtain ⟨rfl, rfl⟩ := H
            go_wp2_with (first | (go_at_call 32; (with_reducible refine (juratref02_Take.calls kj1 (a0.extract 6 a0.size) t216 t217 t218 _ A8.out).mono ?_); rintro e w' ⟨rfl, ⟨nd, rfl⟩⟩; (try first | exact ⟨rfl, _, World.drewN_drewN _ _ _⟩ | exact ⟨rfl, _, Eq.trans (World.drewN_drewN _ _ _) (congrArg (World.drewN _) (Nat.add_assoc _ _ _))⟩)))
            repeat (go_quiet (first | (go_at_call 32; (with_reducible refine (juratref02_Take.calls kj1 (a0.extract 6 a0.size) t216 t217 t218 _ A8.out).mono ?_); rintro e w' ⟨rfl, ⟨nd, rfl⟩⟩; (try first | exact ⟨rfl, _, World.drewN_drewN _ _ _⟩ | exact ⟨rfl, _, Eq.trans (World.drewN_drewN _ _ _) (congrArg (World.drewN _) (Nat.add_assoc _ _ _))⟩))); try go_wp2_with (first | (go_at_call 32; (with_reducible refine (juratref02_Take.calls kj1 (a0.extract 6 a0.size) t216 t217 t218 _ A8.out).mono ?_); rintro e w' ⟨rfl, ⟨nd, rfl⟩⟩; (try first | exact ⟨rfl, _, World.drewN_drewN _ _ _⟩ | exact ⟨rfl, _, Eq.trans (World.drewN_drewN _ _ _) (congrArg (World.drewN _) (Nat.add_assoc _ _ _))⟩))))
            go_ret2
            exact ⟨_, by first | rfl | (simp [errW_none, errW_some] <;> rfl) | (simp [*, errW_none, errW_some] <;> rfl), by first | exact Kd.R_nil _ _ _ _ _ | exact Kd.N_nil _ _ _ _ _ | exact Kd.V_nil _ _ _ _ _ | exact Kd.Q_nil _ _ _ _ _ | exact Kd.S_nil _ _ _ _ _, by repeat (first | (with_reducible first | exact HB.out | apply below_alloc | apply pw_below_drewN | apply below_drew1) | exact HB.out)⟩
        · rw [if_neg c7] at H
          exact absurd H (by simp)

end Go.Proofs.Ytpgmpdanplmpfaa.P
