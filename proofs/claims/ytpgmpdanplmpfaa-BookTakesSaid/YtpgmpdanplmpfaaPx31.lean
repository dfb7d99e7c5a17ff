/- Proved here: what Go functions of this seat compute, or a law of it; no condition beyond the statement's own. Written for this claim by a program of this session (wip/myprint.py) over the kit's print.py. -/
import Derived.Test.YtpgmpdanplmpfaaPx0
import Derived.Test.YtpgmpdanplmpfaaPx30
import Derived.Test.YtpgmpdanplmpfaaPx40
namespace Go.Proofs.Ytpgmpdanplmpfaa.P
open Go.RowKit Go.Proofs.YtpgmpdanplmpfaaW.PrintWords Go.Proofs.YtpgmpdanplmpfaaW.PrintLast Go.Proofs.YtpgmpdanplmpfaaW.PrintMore
attribute [local go_sem] max2_int min2_int max_two min_two max_three min_three max_four min_four   -- for this text's walks alone
set_option linter.unusedVariables false
set_option linter.unusedSimpArgs false

/-! ### book_reader_pattern: function 31 -/
def book_reader_pattern.j0 : Nat → Int → Int → Bool → ByteArray → ByteArray → Int → Option (ByteArray × Int × ByteArray × ByteArray × Int)
  | 0, _, _, _, _, _, _ => none
  | k + 1, x4, x5, x37, x1000, x1001, x1002 => if x37 = true then (if 0 < (x1000.size : Int) then (if 0 ≤ x4 then (if x4 < (x1001.size : Int) then (if (bt x1000 0) = (bt x1001 x4) then (some ((⟨#[]⟩ : ByteArray), 3, x1000, x1001, x1002)) else (some ((⟨#[]⟩ : ByteArray), 9, x1000, x1001, x1002))) else (none)) else (none)) else (none)) else (if 0 ≤ x4 then (if x4 ≤ (x1001.size : Int) then (if 0 ≤ x5 then (if x5 ≤ (x1000.size : Int) then (if (x1001.extract 0 (x4 : Int).toNat).size + (x1000.extract 0 (x5 : Int).toNat).size ≤ 9223372036854775807 then (some ((x1001.extract 0 (x4 : Int).toNat) ++ (x1000.extract 0 (x5 : Int).toNat), 0, x1000.extract (x5 : Int).toNat x1000.size, (x1001.extract 0 (x4 : Int).toNat) ++ (x1000.extract 0 (x5 : Int).toNat), wrap64 (x1002 + (((x1001.extract 0 (x4 : Int).toNat) ++ (x1000.extract 0 (x5 : Int).toNat)).size : Int)))) else (none)) else (none)) else (none)) else (none)) else (none))
def book_reader_pattern.f (k : Nat) (s0_0 : ByteArray) (s0_1 : ByteArray) (s0_2 : Int) : Option (ByteArray × Int × ByteArray × ByteArray × Int) := (book_reader_lengths.f k s0_0 s0_1 s0_2).bind fun bt210 => (if bt210.2.2.1 = 0 then (if bt210.1 < (bt210.2.2.2.2.1.size : Int) then (if 0 < (bt210.2.2.2.1.size : Int) then (if 0 ≤ bt210.1 then (book_reader_pattern.j0 k bt210.1 bt210.2.1 (decide ((bt bt210.2.2.2.1 0) ≤ (bt bt210.2.2.2.2.1 bt210.1))) bt210.2.2.2.1 bt210.2.2.2.2.1 bt210.2.2.2.2.2) else (none)) else (none)) else (book_reader_pattern.j0 k bt210.1 bt210.2.1 false bt210.2.2.2.1 bt210.2.2.2.2.1 bt210.2.2.2.2.2)) else (some ((⟨#[]⟩ : ByteArray), bt210.2.2.1, bt210.2.2.2.1, bt210.2.2.2.2.1, bt210.2.2.2.2.2)))
theorem book_reader_pattern.mono_l : ∀ k, (∀ y0 y1 y2 y3 y4 y5, LeO (book_reader_pattern.j0 k y0 y1 y2 y3 y4 y5) (book_reader_pattern.j0 (k + 1) y0 y1 y2 y3 y4 y5))
  | 0 => fun _ _ _ _ _ _ r h => by simp [book_reader_pattern.j0] at h
  | k + 1 => by
    have ih0 := book_reader_pattern.mono_l k
    · intro y0 y1 y2 y3 y4 y5
      unfold book_reader_pattern.j0
      repeat' first
      | (with_reducible exact ih0 _ _ _ _ _ _)
      | (with_reducible exact book_reader_lengths.mono _ _ _ _)
      | (with_reducible exact LeO.refl _)
      | (with_reducible exact LeO.none _)
      | (with_reducible refine LeO.ite ?_ ?_)
      | (with_reducible refine LeO.bind ?_ (fun _ => ?_))
      | exact ih0 _ _ _ _ _ _
      | exact book_reader_lengths.mono _ _ _ _
      | exact LeO.none _
      | refine LeO.ite ?_ ?_
      | refine LeO.bind ?_ (fun _ => ?_)
theorem book_reader_pattern.mono : ∀ a0 a1 a2 k, LeO (book_reader_pattern.f k a0 a1 a2) (book_reader_pattern.f (k + 1) a0 a1 a2) := by
  intro a0 a1 a2 k
  have ih0 := book_reader_pattern.mono_l k
  unfold book_reader_pattern.f
  repeat' first
      | (with_reducible exact ih0 _ _ _ _ _ _)
      | (with_reducible exact book_reader_lengths.mono _ _ _ _)
      | (with_reducible exact LeO.refl _)
      | (with_reducible exact LeO.none _)
      | (with_reducible refine LeO.ite ?_ ?_)
      | (with_reducible refine LeO.bind ?_ (fun _ => ?_))
      | exact ih0 _ _ _ _ _ _
      | exact book_reader_lengths.mono _ _ _ _
      | exact LeO.none _
      | refine LeO.ite ?_ ?_
      | refine LeO.bind ?_ (fun _ => ?_)
set_option maxHeartbeats 8000000 in
set_option maxRecDepth 100000 in
theorem book_reader_pattern.calls (k : Nat) (g : Nat) (s0_0 : ByteArray) (s0_1 : ByteArray) (s0_2 : Int) (r1 : ByteArray) (r2 : Int) (r3 : ByteArray) (r4 : ByteArray) (r5 : Int) (w0 w : World) (hI : IsS61 w0 w g s0_0 s0_1 s0_2) (hB : Below w0.heap.size w0 w) (h : book_reader_pattern.f k s0_0 s0_1 s0_2 = some (r1, r2, r3, r4, r5)) :
    Calls Try.prog 31 #[.pointer (some ⟨g, 0, none⟩)] w fun e w' => e = .returned (.tuple #[.string r1, .int .i64 r2]) ∧ IsS61 w0 w' g r3 r4 r5 ∧ Below w0.heap.size w0 w' ∧ KeepBut w w' g none := by
  have HI0 := Aside0.mk hI
  have HK := Aside0.mk (KeepBut.refl w g none)
  have HL := Aside0.mk hB.size
  clear hI
  have HW0 := Aside0.mk hB.size
  have HB := Aside0.mk hB
  clear hB
  have H : ((book_reader_lengths.f k s0_0 s0_1 s0_2).bind fun bt210 => (if bt210.2.2.1 = 0 then (if bt210.1 < (bt210.2.2.2.2.1.size : Int) then (if 0 < (bt210.2.2.2.1.size : Int) then (if 0 ≤ bt210.1 then (book_reader_pattern.j0 k bt210.1 bt210.2.1 (decide ((bt bt210.2.2.2.1 0) ≤ (bt bt210.2.2.2.2.1 bt210.1))) bt210.2.2.2.1 bt210.2.2.2.2.1 bt210.2.2.2.2.2) else (none)) else (none)) else (book_reader_pattern.j0 k bt210.1 bt210.2.1 false bt210.2.2.2.1 bt210.2.2.2.2.1 bt210.2.2.2.2.2)) else (some ((⟨#[]⟩ : ByteArray), bt210.2.2.1, bt210.2.2.2.1, bt210.2.2.2.2.1, bt210.2.2.2.2.2)))) = some (r1, r2, r3, r4, r5) := h
  clear h
  replace H := Option.bind_eq_some_iff.mp H
  obtain ⟨⟨t210, t211, t212, t213, t214, t215⟩, A20, H⟩ := H
  replace H : (if t212 = 0 then (if t210 < (t214.size : Int) then (if 0 < (t213.size : Int) then (if 0 ≤ t210 then (book_reader_pattern.j0 k t210 t211 (decide ((bt t213 0) ≤ (bt t214 t210))) t213 t214 t215) else (none)) else (none)) else (book_reader_pattern.j0 k t210 t211 false t213 t214 t215)) else (some ((⟨#[]⟩ : ByteArray), t212, t213, t214, t215))) = some (r1, r2, r3, r4, r5) := H
  have A2 := Aside0.mk A20
  clear A20
  by_cases c3 : t212 = 0
  · rw [if_pos c3] at H
    have c3b0 : (t212 == 0) = true := beq_iff_eq.mpr c3
    have c3b1 : (t212 != 0) = false := bne_eq_false_iff_eq.mpr c3
    clear c3
    have HC4 := Aside0.mk H
    clear H
    go_enter Try.func31, Try.ntmps31
    go_upto_region 4 with (first | (go_at_call 40; (with_reducible refine (book_reader_lengths.calls k g s0_0 s0_1 s0_2 t210 t211 t212 t213 t214 t215 w0 _ ?side1 ?side2 A2.out).mono ?_); (case side1 => repeat (first | (with_reducible first | exact HI0.out | apply IsS61.alloc | apply IsS61.drewN | apply IsS61.drew | apply IsS61.set_0 | apply IsS61.set_1 | apply IsS61.set_2) | exact HI0.out)); (case side2 => repeat (first | (with_reducible first | exact HB.out | apply below_alloc | apply pw_below_drewN | apply below_drew1 | refine below_set ?_ (IsS61.ge HI0.out)) | exact HB.out)); rintro e w5 ⟨rfl, hi, hb, hk⟩; have n0_ := Aside0.mk (KeepBut.trans (by repeat (first | (with_reducible first | exact HK.out | apply KeepBut.set_ | apply keep_drewN | apply keep_drew | apply keep_alloc) | exact HK.out)) hk (.inl rfl)); have n1_ := Aside0.mk (hb); have n2_ := Aside0.mk (hi); clear HK; clear HB; clear HI0; have HK := n0_; have HB := n1_; have HI0 := n2_; clear n0_ n1_ n2_; (try clear hb); (try clear hb2); (try clear hk); (try clear hi)))
    repeat (go_quiet (first | (go_at_call 40; (with_reducible refine (book_reader_lengths.calls k g s0_0 s0_1 s0_2 t210 t211 t212 t213 t214 t215 w0 _ ?side1 ?side2 A2.out).mono ?_); (case side1 => repeat (first | (with_reducible first | exact HI0.out | apply IsS61.alloc | apply IsS61.drewN | apply IsS61.drew | apply IsS61.set_0 | apply IsS61.set_1 | apply IsS61.set_2) | exact HI0.out)); (case side2 => repeat (first | (with_reducible first | exact HB.out | apply below_alloc | apply pw_below_drewN | apply below_drew1 | refine below_set ?_ (IsS61.ge HI0.out)) | exact HB.out)); rintro e w5 ⟨rfl, hi, hb, hk⟩; have n0_ := Aside0.mk (KeepBut.trans (by repeat (first | (with_reducible first | exact HK.out | apply KeepBut.set_ | apply keep_drewN | apply keep_drew | apply keep_alloc) | exact HK.out)) hk (.inl rfl)); have n1_ := Aside0.mk (hb); have n2_ := Aside0.mk (hi); clear HK; clear HB; clear HI0; have HK := n0_; have HB := n1_; have HI0 := n2_; clear n0_ n1_ n2_; (try clear hb); (try clear hb2); (try clear hk); (try clear hi))); go_upto_region 4 with (first | (go_at_call 40; (with_reducible refine (book_reader_lengths.calls k g s0_0 s0_1 s0_2 t210 t211 t212 t213 t214 t215 w0 _ ?side1 ?side2 A2.out).mono ?_); (case side1 => repeat (first | (with_reducible first | exact HI0.out | apply IsS61.alloc | apply IsS61.drewN | apply IsS61.drew | apply IsS61.set_0 | apply IsS61.set_1 | apply IsS61.set_2) | exact HI0.out)); (case side2 => repeat (first | (with_reducible first | exact HB.out | apply below_alloc | apply pw_below_drewN | apply below_drew1 | refine below_set ?_ (IsS61.ge HI0.out)) | exact HB.out)); rintro e w5 ⟨rfl, hi, hb, hk⟩; have n0_ := Aside0.mk (KeepBut.trans (by repeat (first | (with_reducible first | exact HK.out | apply KeepBut.set_ | apply keep_drewN | apply keep_drew | apply keep_alloc) | exact HK.out)) hk (.inl rfl)); have n1_ := Aside0.mk (hb); have n2_ := Aside0.mk (hi); clear HK; clear HB; clear HI0; have HK := n0_; have HB := n1_; have HI0 := n2_; clear n0_ n1_ n2_; (try clear hb); (try clear hb2); (try clear hk); (try clear hi))))
    (try simp only [Act.put, List.setIfInBounds_toArray, List.set_cons_zero, List.set_cons_succ])
    go_cut [37] (fun v37 wc => ∃ (kq : Nat) (x37_3 : Bool), v37 = .bool x37_3 ∧ Aside0 (book_reader_pattern.j0 kq t210 t211 x37_3 t213 t214 t215 = some (r1, r2, r3, r4, r5)) ∧ Aside0 (kq ≤ k) ∧ Aside0 (IsS61 w0 wc g t213 t214 t215) ∧ Aside0 (KeepBut w wc g none) ∧ Aside0 (Below w0.heap.size w0 wc))
    case first =>
      have H := HC4.out
      clear HC4
      by_cases c6 : t210 < (t214.size : Int)
      · rw [if_pos c6] at H
        have c6b0 : decide (t210 < (t214.size : Int)) = true := decide_eq_true c6
        clear c6
        (first | rw [c6b0] | rw [c6b1] | (simp only [i64_w, i32_w]; rw [c6b0]) | skip)
        by_cases c7 : 0 < (t213.size : Int)
        · rw [if_pos c7] at H
          have c7b0 : decide (0 < (t213.size : Int)) = true := decide_eq_true c7
          have c7b1 : decide (0 < t213.size) = true := decide_eq_true (by omega)
          clear c7
          by_cases c9 : 0 ≤ t210
          · rw [if_pos c9] at H
            have c9b0 : decide (0 ≤ t210) = true := decide_eq_true c9
            clear c9
            have H' := Aside0.mk H
            clear H
            obtain ⟨HGz11, hgz11⟩ := HI0.out
            have hcz11_0 := cellS61_0 HGz11
            have hcz11_1 := cellS61_1 HGz11
            have hcz11_2 := cellS61_2 HGz11
            have hfz11_0 := blk_frozen HGz11 0
            have hfz11_1 := blk_frozen HGz11 1
            have hfz11_2 := blk_frozen HGz11 2
            clear HGz11 hgz11
            have p8 : 0 ≤ (0 : Int) := (by omega)
            have q8 : 0 < t213.size := (by have : (0 : Int) < (t213.size : Int) := of_decide_eq_true (by first | (with_reducible assumption) | assumption); omega)
            have hx8 : ∀ h : 0 < t213.size, ((t213[0]'h).toNat : Int) = bt t213 0 := bt_at t213 0
            clear p8
            have qi8 : (0 < (t213.size : Int)) = True := eq_true (of_decide_eq_true (by first | (with_reducible assumption) | assumption))
            replace q8 := eq_true q8
            have p10 : 0 ≤ (t210 : Int) := of_decide_eq_true (by first | (with_reducible assumption) | assumption)
            have q10 : t210 < (t214.size : Int) := of_decide_eq_true (by first | (with_reducible assumption) | assumption)
            have hx10 := bt_at t214 t210
            replace p10 := eq_true p10
            replace q10 := eq_true q10
            go_wp2
            repeat (go_quiet (fail); try go_wp2)
            go_meet
            case rel => exact ⟨_, (decide ((bt t213 0) ≤ (bt t214 t210))), (by first | rfl | exact isE_ _ | exact isE2_ _ | (simp; done) | (simp [*]; done)), H', ⟨by first | omega | exact Nat.le_refl _⟩, ⟨by repeat (first | (with_reducible first | exact HI0.out | apply IsS61.alloc | apply IsS61.drewN | apply IsS61.drew | apply IsS61.set_0 | apply IsS61.set_1 | apply IsS61.set_2) | exact HI0.out)⟩, ⟨by repeat (first | (with_reducible first | exact HK.out | apply KeepBut.set_ | apply keep_drewN | apply keep_drew | apply keep_alloc) | exact HK.out)⟩, ⟨by repeat (first | (with_reducible first | exact HB.out | apply below_alloc | apply pw_below_drewN | apply below_drew1 | refine below_set ?_ (IsS61.ge HI0.out)) | exact HB.out)⟩⟩
          · rw [if_neg c9] at H
            exact absurd H (by simp)
        · rw [if_neg c7] at H
          exact absurd H (by simp)
      · rw [if_neg c6] at H
        have c6b0 : decide (t210 < (t214.size : Int)) = false := decide_eq_false c6
        clear c6
        (first | rw [c6b0] | rw [c6b1] | (simp only [i64_w, i32_w]; rw [c6b0]) | skip)
        have H' := Aside0.mk H
        clear H
        obtain ⟨HGz12, hgz12⟩ := HI0.out
        have hcz12_0 := cellS61_0 HGz12
        have hcz12_1 := cellS61_1 HGz12
        have hcz12_2 := cellS61_2 HGz12
        have hfz12_0 := blk_frozen HGz12 0
        have hfz12_1 := blk_frozen HGz12 1
        have hfz12_2 := blk_frozen HGz12 2
        clear HGz12 hgz12
        go_wp2
        repeat (go_quiet (fail); try go_wp2)
        go_meet
        case rel => exact ⟨_, (false), (by first | rfl | exact isE_ _ | exact isE2_ _ | (simp; done) | (simp [*]; done)), H', ⟨by first | omega | exact Nat.le_refl _⟩, ⟨by repeat (first | (with_reducible first | exact HI0.out | apply IsS61.alloc | apply IsS61.drewN | apply IsS61.drew | apply IsS61.set_0 | apply IsS61.set_1 | apply IsS61.set_2) | exact HI0.out)⟩, ⟨by repeat (first | (with_reducible first | exact HK.out | apply KeepBut.set_ | apply keep_drewN | apply keep_drew | apply keep_alloc) | exact HK.out)⟩, ⟨by repeat (first | (with_reducible first | exact HB.out | apply below_alloc | apply pw_below_drewN | apply below_drew1 | refine below_set ?_ (IsS61.ge HI0.out)) | exact HB.out)⟩⟩
    case rest =>
      clear HC4
      try clear p1
      try clear q1
      try clear hx1
      try clear p2
      try clear c3
      try clear c3b0
      try clear c3b1
      try clear c6
      try clear c6b0
      try clear c7
      try clear c7b0
      try clear c7b1
      try clear p8
      try clear q8
      try clear hx8
      try clear qi8
      try clear c9
      try clear c9b0
      try clear p10
      try clear q10
      try clear hx10
      try clear hcz11_0
      try clear hcz11_1
      try clear hcz11_2
      try clear hcz12_0
      try clear hcz12_1
      try clear hcz12_2
      try clear hfz11_0
      try clear hfz11_1
      try clear hfz11_2
      try clear hfz12_0
      try clear hfz12_1
      try clear hfz12_2
      try clear p10
      try clear p8
      try clear q10
      try clear q8
      obtain ⟨kq, x37_3, rfl, HA, HJ3, HI0, HK, HB⟩ := hcut
      cases kq with
      | zero => exact absurd HA.out (by simp [book_reader_pattern.j0])
      | succ kj3 =>
        have H := HA.out
        clear HA
        simp only [book_reader_pattern.j0] at H
        by_cases c13 : x37_3 = true
        · subst c13
          have H1 : (if 0 < (t213.size : Int) then (if 0 ≤ t210 then (if t210 < (t214.size : Int) then (if (bt t213 0) = (bt t214 t210) then (some ((⟨#[]⟩ : ByteArray), 3, t213, t214, t215)) else (some ((⟨#[]⟩ : ByteArray), 9, t213, t214, t215))) else (none)) else (none)) else (none)) = some (r1, r2, r3, r4, r5) := by rw [if_pos rfl] at H; exact H
          clear H
          have H := H1
          clear H1
          by_cases c14 : 0 < (t213.size : Int)
          · rw [if_pos c14] at H
            have c14b0 : decide (0 < (t213.size : Int)) = true := decide_eq_true c14
            have c14b1 : decide (0 < t213.size) = true := decide_eq_true (by omega)
            clear c14
            by_cases c16 : 0 ≤ t210
            · rw [if_pos c16] at H
              have c16b0 : decide (0 ≤ t210) = true := decide_eq_true c16
              clear c16
              by_cases c17 : t210 < (t214.size : Int)
              · rw [if_pos c17] at H
                have c17b0 : decide (t210 < (t214.size : Int)) = true := decide_eq_true c17
                clear c17
                by_cases c19 : (bt t213 0) = (bt t214 t210)
                · rw [if_pos c19] at H
                  have c19b0 : ((bt t213 0) == (bt t214 t210)) = true := beq_iff_eq.mpr c19
                  have c19b1 : ((bt t213 0) != (bt t214 t210)) = false := bne_eq_false_iff_eq.mpr c19
                  clear c19
                  simp only [Option.some.injEq, Prod.mk.injEq] at H
                  obtain ⟨rfl, rfl, rfl, rfl, rfl⟩ := H
                  obtain ⟨HGz20, hgz20⟩ := HI0.out
                  have hcz20_0 := cellS61_0 HGz20
                  have hcz20_1 := cellS61_1 HGz20
                  have hcz20_2 := cellS61_2 HGz20
                  have hfz20_0 := blk_frozen HGz20 0
                  have hfz20_1 := blk_frozen HGz20 1
                  have hfz20_2 := blk_frozen HGz20 2
                  clear HGz20 hgz20
                  have p15 : 0 ≤ (0 : Int) := (by omega)
                  have q15 : 0 < t213.size := (by have : (0 : Int) < (t213.size : Int) := of_decide_eq_true (by first | (with_reducible assumption) | assumption); omega)
                  have hx15 : ∀ h : 0 < t213.size, ((t213[0]'h).toNat : Int) = bt t213 0 := bt_at t213 0
                  clear p15
                  have qi15 : (0 < (t213.size : Int)) = True := eq_true (of_decide_eq_true (by first | (with_reducible assumption) | assumption))
                  replace q15 := eq_true q15
                  have p18 : 0 ≤ (t210 : Int) := of_decide_eq_true (by first | (with_reducible assumption) | assumption)
                  have q18 : t210 < (t214.size : Int) := of_decide_eq_true (by first | (with_reducible assumption) | assumption)
                  have hx18 := bt_at t214 t210
                  replace p18 := eq_true p18
                  replace q18 := eq_true q18
                  go_wp2
                  repeat (go_quiet (fail); try go_wp2)
                  go_ret2
                  exact ⟨by first | rfl | (simp [errW_none, errW_some] <;> rfl) | (simp [*, errW_none, errW_some] <;> rfl), by repeat (first | (with_reducible first | exact HI0.out | apply IsS61.alloc | apply IsS61.drewN | apply IsS61.drew | apply IsS61.set_0 | apply IsS61.set_1 | apply IsS61.set_2) | exact HI0.out), by repeat (first | (with_reducible first | exact HB.out | apply below_alloc | apply pw_below_drewN | apply below_drew1 | refine below_set ?_ (IsS61.ge HI0.out)) | exact HB.out), by repeat (first | (with_reducible first | exact HK.out | apply KeepBut.set_ | apply keep_drewN | apply keep_drew | apply keep_alloc) | exact HK.out)⟩
                · rw [if_neg c19] at H
                  have c19b0 : ((bt t213 0) == (bt t214 t210)) = false := beq_eq_false_iff_ne.mpr c19
                  have c19b1 : ((bt t213 0) != (bt t214 t210)) = true := bne_iff_ne.mpr c19
                  simp only [Option.some.injEq, Prod.mk.injEq] at H
                  obtain ⟨rfl, rfl, rfl, rfl, rfl⟩ := H
                  obtain ⟨HGz21, hgz21⟩ := HI0.out
                  have hcz21_0 := cellS61_0 HGz21
                  have hcz21_1 := cellS61_1 HGz21
                  have hcz21_2 := cellS61_2 HGz21
                  have hfz21_0 := blk_frozen HGz21 0
                  have hfz21_1 := blk_frozen HGz21 1
                  have hfz21_2 := blk_frozen HGz21 2
                  clear HGz21 hgz21
                  have p15 : 0 ≤ (0 : Int) := (by omega)
                  have q15 : 0 < t213.size := (by have : (0 : Int) < (t213.size : Int) := of_decide_eq_true (by first | (with_reducible assumption) | assumption); omega)
                  have hx15 : ∀ h : 0 < t213.size, ((t213[0]'h).toNat : Int) = bt t213 0 := bt_at t213 0
                  clear p15
                  have qi15 : (0 < (t213.size : Int)) = True := eq_true (of_decide_eq_true (by first | (with_reducible assumption) | assumption))
                  replace q15 := eq_true q15
                  have p18 : 0 ≤ (t210 : Int) := of_decide_eq_true (by first | (with_reducible assumption) | assumption)
                  have q18 : t210 < (t214.size : Int) := of_decide_eq_true (by first | (with_reducible assumption) | assumption)
                  have hx18 := bt_at t214 t210
                  replace p18 := eq_true p18
                  replace q18 := eq_true q18
                  go_wp2
                  repeat (go_quiet (fail); try go_wp2)
                  go_ret2
                  exact ⟨by first | rfl | (simp [errW_none, errW_some] <;> rfl) | (simp [*, errW_none, errW_some] <;> rfl), by repeat (first | (with_reducible first | exact HI0.out | apply IsS61.alloc | apply IsS61.drewN | apply IsS61.drew | apply IsS61.set_0 | apply IsS61.set_1 | apply IsS61.set_2) | exact HI0.out), by repeat (first | (with_reducible first | exact HB.out | apply below_alloc | apply pw_below_drewN | apply below_drew1 | refine below_set ?_ (IsS61.ge HI0.out)) | exact HB.out), by repeat (first | (with_reducible first | exact HK.out | apply KeepBut.set_ | apply keep_drewN | apply keep_drew | apply keep_alloc) | exact HK.out)⟩
              · rw [if_neg c17] at H
                exact absurd H (by simp)
            · rw [if_neg c16] at H
              exact absurd H (by simp)
          · rw [if_neg c14] at H
            exact absurd H (by simp)
        · replace c13 := Bool.eq_false_iff.mpr c13
          subst c13
          have H1 : (if 0 ≤ t210 then (if t210 ≤ (t214.size : Int) then (if 0 ≤ t211 then (if t211 ≤ (t213.size : Int) then (if (t214.extract 0 (t210 : Int).toNat).size + (t213.extract 0 (t211 : Int).toNat).size ≤ 9223372036854775807 then (some ((t214.extract 0 (t210 : Int).toNat) ++ (t213.extract 0 (t211 : Int).toNat), 0, t213.extract (t211 : Int).toNat t213.size, (t214.extract 0 (t210 : Int).toNat) ++ (t213.extract 0 (t211 : Int).toNat), wrap64 (t215 + (((t214.extract 0 (t210 : Int).toNat) ++ (t213.extract 0 (t211 : Int).toNat)).size : Int)))) else (none)) else (none)) else (none)) else (none)) else (none)) = some (r1, r2, r3, r4, r5) := by rw [if_neg (show ¬ (false = true) by decide)] at H; exact H
          clear H
          have H := H1
          clear H1
          by_cases c22 : 0 ≤ t210
          · rw [if_pos c22] at H
            have c22b0 := eq_true c22
            have c22b1 : decide (0 ≤ t210) = true := decide_eq_true c22
            clear c22
            by_cases c23 : t210 ≤ (t214.size : Int)
            · rw [if_pos c23] at H
              have c23b0 := eq_true c23
              have c23b1 : decide (t210 ≤ (t214.size : Int)) = true := decide_eq_true c23
              clear c23
              by_cases c24 : 0 ≤ t211
              · rw [if_pos c24] at H
                have c24b0 := eq_true c24
                have c24b1 : decide (0 ≤ t211) = true := decide_eq_true c24
                clear c24
                by_cases c25 : t211 ≤ (t213.size : Int)
                · rw [if_pos c25] at H
                  have c25b0 := eq_true c25
                  have c25b1 : decide (t211 ≤ (t213.size : Int)) = true := decide_eq_true c25
                  clear c25
                  by_cases c26 : (t214.extract 0 (t210 : Int).toNat).size + (t213.extract 0 (t211 : Int).toNat).size ≤ 9223372036854775807
                  · rw [if_pos c26] at H
                    have c26b0 := eq_true c26
                    have c26b1 : decide ((t214.extract 0 (t210 : Int).toNat).size + (t213.extract 0 (t211 : Int).toNat).size ≤ 9223372036854775807) = true := decide_eq_true c26
                    try have c26b2 : (9223372036854775807 < (t214.extract 0 (t210 : Int).toNat).size + (t213.extract 0 (t211 : Int).toNat).size) = False := eq_false (Nat.not_lt.2 c26)
                    have c27b0 := eq_true (of_decide_eq_true (by first | (with_reducible assumption) | assumption) : 0 ≤ t211)
                    have c28b0 := eq_true (of_decide_eq_true (by first | (with_reducible assumption) | assumption) : t211 ≤ (t213.size : Int))
                    simp only [Option.some.injEq, Prod.mk.injEq] at H
                    obtain ⟨rfl, rfl, rfl, rfl, rfl⟩ := H
                    obtain ⟨HGz29, hgz29⟩ := HI0.out
                    have hcz29_0 := cellS61_0 HGz29
                    have hcz29_1 := cellS61_1 HGz29
                    have hcz29_2 := cellS61_2 HGz29
                    have hfz29_0 := blk_frozen HGz29 0
                    have hfz29_1 := blk_frozen HGz29 1
                    have hfz29_2 := blk_frozen HGz29 2
                    clear HGz29 hgz29
                    go_wp2
                    repeat (go_quiet (fail); try go_wp2)
                    go_ret2
                    rw [show (((t214.extract 0 (t210 : Int).toNat) ++ (t213.extract 0 (t211 : Int).toNat)).size : Int) = max t210 0 + max t211 0 from by rw [ByteArray.size_append, ByteArray.size_extract, ByteArray.size_extract]; have := of_eq_true c22b0; have := of_eq_true c23b0; have := of_eq_true c24b0; have := of_eq_true c25b0; omega]
                    exact ⟨by first | rfl | (simp [errW_none, errW_some] <;> rfl) | (simp [*, errW_none, errW_some] <;> rfl), by repeat (first | (with_reducible first | exact HI0.out | apply IsS61.alloc | apply IsS61.drewN | apply IsS61.drew | apply IsS61.set_0 | apply IsS61.set_1 | apply IsS61.set_2) | exact HI0.out), by repeat (first | (with_reducible first | exact HB.out | apply below_alloc | apply pw_below_drewN | apply below_drew1 | refine below_set ?_ (IsS61.ge HI0.out)) | exact HB.out), by repeat (first | (with_reducible first | exact HK.out | apply KeepBut.set_ | apply keep_drewN | apply keep_drew | apply keep_alloc) | exact HK.out)⟩
                  · rw [if_neg c26] at H
                    exact absurd H (by simp)
                · rw [if_neg c25] at H
                  exact absurd H (by simp)
              · rw [if_neg c24] at H
                exact absurd H (by simp)
            · rw [if_neg c23] at H
              exact absurd H (by simp)
          · rw [if_neg c22] at H
            exact absurd H (by simp)
  · rw [if_neg c3] at H
    have c3b0 : (t212 == 0) = false := beq_eq_false_iff_ne.mpr c3
    have c3b1 : (t212 != 0) = true := bne_iff_ne.mpr c3
    simp only [Option.some.injEq, Prod.mk.injEq] at H
    obtain ⟨rfl, rfl, rfl, rfl, rfl⟩ := H
    go_enter Try.func31, Try.ntmps31
    go_wp2_with (first | (go_at_call 40; (with_reducible refine (book_reader_lengths.calls k g s0_0 s0_1 s0_2 t210 t211 t212 t213 t214 t215 w0 _ ?side1 ?side2 A2.out).mono ?_); (case side1 => repeat (first | (with_reducible first | exact HI0.out | apply IsS61.alloc | apply IsS61.drewN | apply IsS61.drew | apply IsS61.set_0 | apply IsS61.set_1 | apply IsS61.set_2) | exact HI0.out)); (case side2 => repeat (first | (with_reducible first | exact HB.out | apply below_alloc | apply pw_below_drewN | apply below_drew1 | refine below_set ?_ (IsS61.ge HI0.out)) | exact HB.out)); rintro e w30 ⟨rfl, hi, hb, hk⟩; have n0_ := Aside0.mk (KeepBut.trans (by repeat (first | (with_reducible first | exact HK.out | apply KeepBut.set_ | apply keep_drewN | apply keep_drew | apply keep_alloc) | exact HK.out)) hk (.inl rfl)); have n1_ := Aside0.mk (hb); have n2_ := Aside0.mk (hi); clear HK; clear HB; clear HI0; have HK := n0_; have HB := n1_; have HI0 := n2_; clear n0_ n1_ n2_; (try clear hb); (try clear hb2); (try clear hk); (try clear hi)))
    repeat (go_quiet (first | (go_at_call 40; (with_reducible refine (book_reader_lengths.calls k g s0_0 s0_1 s0_2 t210 t211 t212 t213 t214 t215 w0 _ ?side1 ?side2 A2.out).mono ?_); (case side1 => repeat (first | (with_reducible first | exact HI0.out | apply IsS61.alloc | apply IsS61.drewN | apply IsS61.drew | apply IsS61.set_0 | apply IsS61.set_1 | apply IsS61.set_2) | exact HI0.out)); (case side2 => repeat (first | (with_reducible first | exact HB.out | apply below_alloc | apply pw_below_drewN | apply below_drew1 | refine below_set ?_ (IsS61.ge HI0.out)) | exact HB.out)); rintro e w30 ⟨rfl, hi, hb, hk⟩; have n0_ := Aside0.mk (KeepBut.trans (by repeat (first | (with_reducible first | exact HK.out | apply KeepBut.set_ | apply keep_drewN | apply keep_drew | apply keep_alloc) | exact HK.out)) hk (.inl rfl)); have n1_ := Aside0.mk (hb); have n2_ := Aside0.mk (hi); clear HK; clear HB; clear HI0; have HK := n0_; have HB := n1_; have HI0 := n2_; clear n0_ n1_ n2_; (try clear hb); (try clear hb2); (try clear hk); (try clear hi))); try go_wp2_with (first | (go_at_call 40; (with_reducible refine (book_reader_lengths.calls k g s0_0 s0_1 s0_2 t210 t211 t212 t213 t214 t215 w0 _ ?side1 ?side2 A2.out).mono ?_); (case side1 => repeat (first | (with_reducible first | exact HI0.out | apply IsS61.alloc | apply IsS61.drewN | apply IsS61.drew | apply IsS61.set_0 | apply IsS61.set_1 | apply IsS61.set_2) | exact HI0.out)); (case side2 => repeat (first | (with_reducible first | exact HB.out | apply below_alloc | apply pw_below_drewN | apply below_drew1 | refine below_set ?_ (IsS61.ge HI0.out)) | exact HB.out)); rintro e w30 ⟨rfl, hi, hb, hk⟩; have n0_ := Aside0.mk (KeepBut.trans (by repeat (first | (with_reducible first | exact HK.out | apply KeepBut.set_ | apply keep_drewN | apply keep_drew | apply keep_alloc) | exact HK.out)) hk (.inl rfl)); have n1_ := Aside0.mk (hb); have n2_ := Aside0.mk (hi); clear HK; clear HB; clear HI0; have HK := n0_; have HB := n1_; have HI0 := n2_; clear n0_ n1_ n2_; (try clear hb); (try clear hb2); (try clear hk); (try clear hi))))
    go_ret2
    exact ⟨by first | rfl | (simp [errW_none, errW_some] <;> rfl) | (simp [*, errW_none, errW_some] <;> rfl), by repeat (first | (with_reducible first | exact HI0.out | apply IsS61.alloc | apply IsS61.drewN | apply IsS61.drew | apply IsS61.set_0 | apply IsS61.set_1 | apply IsS61.set_2) | exact HI0.out), by repeat (first | (with_reducible first | exact HB.out | apply below_alloc | apply pw_below_drewN | apply below_drew1 | refine below_set ?_ (IsS61.ge HI0.out)) | exact HB.out), by repeat (first | (with_reducible first | exact HK.out | apply KeepBut.set_ | apply keep_drewN | apply keep_drew | apply keep_alloc) | exact HK.out)⟩

end Go.Proofs.Ytpgmpdanplmpfaa.P
