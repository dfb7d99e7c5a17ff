/- Proved here: the row of the law TrieAbove, with texts that lead to it, merged by a program of this session (wip/merge.py), part 3 of 3; no condition beyond the statement's own. -/
import Derived.Test.YtnpkbnfiadkgnaaPx0
import Derived.SizedLaws
import Derived.SliceStrings
import Derived.Test.YtnpkbnfiadkgnaaWWords
import Derived.Test.YtnpkbnfiadkgnaaWSized
import Derived.Test.YtnpkbnfiadkgnaaRows
import Derived.WalkKit
import Derived.ProofKit
import Derived.OpenShut
import Derived.ShutString
import Derived.ChangeOld
import Derived.Below
import Derived.Carry
import Derived.Test.YtnpkbnfiadkgnaaZTrieAbovea
import Derived.Test.YtnpkbnfiadkgnaaZTrieAboveb
/- Proved here: what Go functions of this seat compute, or a law of it; no condition beyond the statement's own. Written for this claim by a program of this session (wip/myprint.py) over the kit's print.py. -/
namespace Go.Proofs.Ytnpkbnfiadkgnaa.P
open Go.RowKit Go.Proofs.YtnpkbnfiadkgnaaW.PrintWords Go.Proofs.YtnpkbnfiadkgnaaW.PrintLast Go.Proofs.YtnpkbnfiadkgnaaW.PrintMore
attribute [local go_sem] max2_int min2_int max_two min_two max_three min_three max_four min_four   -- for this text's walks alone
set_option linter.unusedVariables false
set_option linter.unusedSimpArgs false

/-! ### juratref16_Bytes: function 49 -/
def juratref16_Bytes.l0 : Nat → List ByteArray → Int → List Int → Int → Option (ByteArray)
  | 0, _, _, _, _ => none
  | k + 1, x0, x1, x5, x6 => if x6 < (x0.length : Int) then (if 0 ≤ x1 then (if x1 < (x0.length : Int) then (if 0 ≤ x6 then (if ((rdOf ByteArray.empty x0 x6).size : Int) = (wrap64 (((rdOf ByteArray.empty x0 x1).size : Int) + 1)) then (if 0 ≤ ((rdOf ByteArray.empty x0 x1).size : Int) then (if ((rdOf ByteArray.empty x0 x1).size : Int) ≤ ((rdOf ByteArray.empty x0 x6).size : Int) then (if ((rdOf ByteArray.empty x0 x6).extract 0 (((rdOf ByteArray.empty x0 x1).size : Int) : Int).toNat).toList = (rdOf ByteArray.empty x0 x1).toList then (if ((rdOf ByteArray.empty x0 x1).size : Int) < ((rdOf ByteArray.empty x0 x6).size : Int) then (if x5.length < 140737488355328 then (juratref16_Bytes.l0 k x0 x1 (x5 ++ [bt (rdOf ByteArray.empty x0 x6) ((rdOf ByteArray.empty x0 x1).size : Int)]) (wrap64 (x6 + 1))) else (none)) else (none)) else (juratref16_Bytes.l0 k x0 x1 x5 (wrap64 (x6 + 1)))) else (none)) else (none)) else (juratref16_Bytes.l0 k x0 x1 x5 (wrap64 (x6 + 1)))) else (none)) else (none)) else (none)) else (some (strOfNums x5))
def juratref16_Bytes.f (k : Nat) (l0 : List ByteArray) (a1 : Int) : Option (ByteArray) := juratref16_Bytes.l0 k l0 a1 (([] : List Int)) 0
theorem juratref16_Bytes.mono_l : ∀ k, (∀ y0 y1 y2 y3, LeO (juratref16_Bytes.l0 k y0 y1 y2 y3) (juratref16_Bytes.l0 (k + 1) y0 y1 y2 y3))
  | 0 => fun _ _ _ _ r h => by simp [juratref16_Bytes.l0] at h
  | k + 1 => by
    have ih0 := juratref16_Bytes.mono_l k
    · intro y0 y1 y2 y3
      unfold juratref16_Bytes.l0
      repeat' first
      | (with_reducible exact ih0 _ _ _ _)
      | (with_reducible exact LeO.refl _)
      | (with_reducible exact LeO.none _)
      | (with_reducible refine LeO.ite ?_ ?_)
      | (with_reducible refine LeO.bind ?_ (fun _ => ?_))
      | exact ih0 _ _ _ _
      | exact LeO.none _
      | refine LeO.ite ?_ ?_
      | refine LeO.bind ?_ (fun _ => ?_)
theorem juratref16_Bytes.mono : ∀ a0 a1 k, LeO (juratref16_Bytes.f k a0 a1) (juratref16_Bytes.f (k + 1) a0 a1) := by
  intro a0 a1 k
  have ih0 := juratref16_Bytes.mono_l k
  unfold juratref16_Bytes.f
  repeat' first
      | (with_reducible exact ih0 _ _ _ _)
      | (with_reducible exact LeO.refl _)
      | (with_reducible exact LeO.none _)
      | (with_reducible refine LeO.ite ?_ ?_)
      | (with_reducible refine LeO.bind ?_ (fun _ => ?_))
      | exact ih0 _ _ _ _
      | exact LeO.none _
      | refine LeO.ite ?_ ?_
      | refine LeO.bind ?_ (fun _ => ?_)
set_option maxHeartbeats 8000000 in
set_option maxRecDepth 100000 in
theorem juratref16_Bytes.calls (k : Nat) (A0 : Option Addr) (c0 : Nat) (l0 : List ByteArray) (a1 : Int) (r : ByteArray) (w : World) (hr0 : Kd.C Kd.string w A0 l0.length l0) (hc0 : l0.length ≤ c0) (h : juratref16_Bytes.f k l0 a1 = some r) :
    Calls Try.prog 49 #[.slice A0 l0.length c0, .int .i64 a1] w fun e w' => e = .returned (.string r) ∧ Below w.heap.size w w' := by
  have HR0 := Aside0.mk hr0
  have HC0 := Aside0.mk hc0
  clear hr0 hc0
  have HB := Aside0.mk (Below.refl w.heap.size w)
  have H : (juratref16_Bytes.l0 k l0 a1 (([] : List Int)) 0) = some r := h
  clear h
  obtain ⟨y365, hy365⟩ : ∃ y_ : List Int, y_ = (([] : List Int)) := ⟨_, rfl⟩
  replace H : (juratref16_Bytes.l0 k l0 a1 y365 0) = some r := by first | (rw [hy365]; with_reducible exact H) | (have H2_ := (Option.bind_some _ _).symm.trans H; rw [hy365]; with_reducible exact H2_) | (have H2_ := (Option.bind_some _ _).symm.trans H; with_reducible exact H2_) | with_reducible exact H | (rw [hy365]; exact H) | exact H
  have Ny365 := Aside0.mk hy365
  clear hy365
  have H' := Aside0.mk H
  clear H
  go_enter Try.func49, Try.ntmps49
  go_wp2_with (first | ((with_reducible refine gate_dst (N := 8) rfl ?_); refine Kd.R_lit (Kd.int .u8) _ 5 ?hg (N := 8) ?hd (xs := ([] : List Int)) (inner := []) (ok := fun _ => True) (okp := fun _ => True) ?hr ?hp (fun _ hk => hk) trivial (Below.refl _ _) (Nat.le_refl _) (by simp) ?_; (case hd => rfl); (case hg => rfl); (case hr => first | (go_simp; done) | (go_simp; rfl)); (case hp => exact (Reps.none _ _)); intro v366 w3 ho4 hb hg_ hnew_; clear hg_ hnew_; (first | rw [← Ny365.out] at ho4 | (simp only [Int.reduceToNat] at ho4; rw [← Ny365.out] at ho4)); have n0_ := Aside0.mk (Kd.R_lower ho4 (below_size (by repeat (first | (with_reducible first | exact HB.out | apply below_alloc | apply pw_below_drewN | apply below_drew1) | exact HB.out)))); have n1_ := Aside0.mk (below_step (by repeat (first | (with_reducible first | exact HB.out | apply below_alloc | apply pw_below_drewN | apply below_drew1) | exact HB.out)) hb); clear HB; have HO367 := n0_; have HB := n1_; clear n0_ n1_; clear hb ho4))
  repeat (go_quiet (first | ((with_reducible refine gate_dst (N := 8) rfl ?_); refine Kd.R_lit (Kd.int .u8) _ 5 ?hg (N := 8) ?hd (xs := ([] : List Int)) (inner := []) (ok := fun _ => True) (okp := fun _ => True) ?hr ?hp (fun _ hk => hk) trivial (Below.refl _ _) (Nat.le_refl _) (by simp) ?_; (case hd => rfl); (case hg => rfl); (case hr => first | (go_simp; done) | (go_simp; rfl)); (case hp => exact (Reps.none _ _)); intro v366 w3 ho4 hb hg_ hnew_; clear hg_ hnew_; (first | rw [← Ny365.out] at ho4 | (simp only [Int.reduceToNat] at ho4; rw [← Ny365.out] at ho4)); have n0_ := Aside0.mk (Kd.R_lower ho4 (below_size (by repeat (first | (with_reducible first | exact HB.out | apply below_alloc | apply pw_below_drewN | apply below_drew1) | exact HB.out)))); have n1_ := Aside0.mk (below_step (by repeat (first | (with_reducible first | exact HB.out | apply below_alloc | apply pw_below_drewN | apply below_drew1) | exact HB.out)) hb); clear HB; have HO367 := n0_; have HB := n1_; clear n0_ n1_; clear hb ho4)); try go_wp2_with (first | ((with_reducible refine gate_dst (N := 8) rfl ?_); refine Kd.R_lit (Kd.int .u8) _ 5 ?hg (N := 8) ?hd (xs := ([] : List Int)) (inner := []) (ok := fun _ => True) (okp := fun _ => True) ?hr ?hp (fun _ hk => hk) trivial (Below.refl _ _) (Nat.le_refl _) (by simp) ?_; (case hd => rfl); (case hg => rfl); (case hr => first | (go_simp; done) | (go_simp; rfl)); (case hp => exact (Reps.none _ _)); intro v366 w3 ho4 hb hg_ hnew_; clear hg_ hnew_; (first | rw [← Ny365.out] at ho4 | (simp only [Int.reduceToNat] at ho4; rw [← Ny365.out] at ho4)); have n0_ := Aside0.mk (Kd.R_lower ho4 (below_size (by repeat (first | (with_reducible first | exact HB.out | apply below_alloc | apply pw_below_drewN | apply below_drew1) | exact HB.out)))); have n1_ := Aside0.mk (below_step (by repeat (first | (with_reducible first | exact HB.out | apply below_alloc | apply pw_below_drewN | apply below_drew1) | exact HB.out)) hb); clear HB; have HO367 := n0_; have HB := n1_; clear n0_ n1_; clear hb ho4)))
  go_loopg [5, 6] k (fun kq v5 v6 w' => ∃ (x5_1 : List Int) (x6_1 : Int), v6 = .int .i64 x6_1 ∧ Aside0 (juratref16_Bytes.l0 kq l0 a1 x5_1 x6_1 = some r) ∧ Aside0 (kq ≤ k) ∧ Aside0 (Kd.R (Kd.int .u8) 5 w' w.heap.size (fun _ => True) v5 x5_1) ∧ Aside0 (Below w.heap.size w w'))
  case atStart => exact ⟨(y365), (0), (by first | rfl | exact isE_ _ | exact isE2_ _ | (simp; done) | (simp [*]; done)), H', ⟨Nat.le_refl _⟩, ⟨by (with_reducible repeat (first | apply Kd.R_alloc | apply Kd.R_drewN | apply Kd.R_drew)); exact HO367.out⟩, ⟨by repeat (first | (with_reducible first | exact HB.out | apply below_alloc | apply pw_below_drewN | apply below_drew1) | exact HB.out)⟩⟩
  case round =>
    clear H'
    try clear p2
    try clear c4
    obtain ⟨x5_1, x6_1, rfl, HA, HK1, HO_5, HB⟩ := hrel
    cases gk with
    | zero => exact absurd HA.out (by simp [juratref16_Bytes.l0])
    | succ k1 =>
      have H := HA.out
      clear HA
      simp only [juratref16_Bytes.l0] at H
      by_cases c5 : x6_1 < (l0.length : Int)
      · rw [if_pos c5] at H
        have c5b0 : decide (x6_1 < (l0.length : Int)) = true := decide_eq_true c5
        clear c5
        by_cases c6 : 0 ≤ a1
        · rw [if_pos c6] at H
          have c6b0 : decide (0 ≤ a1) = true := decide_eq_true c6
          clear c6
          by_cases c7 : a1 < (l0.length : Int)
          · rw [if_pos c7] at H
            have c7b0 : decide (a1 < (l0.length : Int)) = true := decide_eq_true c7
            clear c7
            by_cases c8 : 0 ≤ x6_1
            · rw [if_pos c8] at H
              have c8b0 : decide (0 ≤ x6_1) = true := decide_eq_true c8
              clear c8
              by_cases c9 : ((rdOf ByteArray.empty l0 x6_1).size : Int) = (wrap64 (((rdOf ByteArray.empty l0 a1).size : Int) + 1))
              · rw [if_pos c9] at H
                have c9b0 : (((rdOf ByteArray.empty l0 x6_1).size : Int) == (wrap64 (((rdOf ByteArray.empty l0 a1).size : Int) + 1))) = true := beq_iff_eq.mpr c9
                have c9b1 : (((rdOf ByteArray.empty l0 x6_1).size : Int) != (wrap64 (((rdOf ByteArray.empty l0 a1).size : Int) + 1))) = false := bne_eq_false_iff_eq.mpr c9
                clear c9
                by_cases c10 : 0 ≤ ((rdOf ByteArray.empty l0 a1).size : Int)
                · rw [if_pos c10] at H
                  have c10b0 := eq_true c10
                  have c10b1 : decide (0 ≤ ((rdOf ByteArray.empty l0 a1).size : Int)) = true := decide_eq_true c10
                  clear c10
                  by_cases c11 : ((rdOf ByteArray.empty l0 a1).size : Int) ≤ ((rdOf ByteArray.empty l0 x6_1).size : Int)
                  · rw [if_pos c11] at H
                    have c11b0 := eq_true c11
                    have c11b1 : decide (((rdOf ByteArray.empty l0 a1).size : Int) ≤ ((rdOf ByteArray.empty l0 x6_1).size : Int)) = true := decide_eq_true c11
                    clear c11
                    by_cases c12 : ((rdOf ByteArray.empty l0 x6_1).extract 0 (((rdOf ByteArray.empty l0 a1).size : Int) : Int).toNat).toList = (rdOf ByteArray.empty l0 a1).toList
                    · rw [if_pos c12] at H
                      have c12b0 : (((rdOf ByteArray.empty l0 x6_1).extract 0 (((rdOf ByteArray.empty l0 a1).size : Int) : Int).toNat).toList == (rdOf ByteArray.empty l0 a1).toList) = true := beq_iff_eq.mpr c12
                      (try (have c12b0n_ := c12b0; simp only [Int.toNat_natCast] at c12b0n_))
                      have c12b1 : (((rdOf ByteArray.empty l0 x6_1).extract 0 (((rdOf ByteArray.empty l0 a1).size : Int) : Int).toNat).toList != (rdOf ByteArray.empty l0 a1).toList) = false := bne_eq_false_iff_eq.mpr c12
                      (try (have c12b1n_ := c12b1; simp only [Int.toNat_natCast] at c12b1n_))
                      clear c12
                      by_cases c13 : ((rdOf ByteArray.empty l0 a1).size : Int) < ((rdOf ByteArray.empty l0 x6_1).size : Int)
                      · rw [if_pos c13] at H
                        have c13b0 : decide (((rdOf ByteArray.empty l0 a1).size : Int) < ((rdOf ByteArray.empty l0 x6_1).size : Int)) = true := decide_eq_true c13
                        have c13b1 : decide ((rdOf ByteArray.empty l0 a1).size < (rdOf ByteArray.empty l0 x6_1).size) = true := decide_eq_true (Int.ofNat_lt.mp c13)
                        clear c13
                        by_cases c15 : x5_1.length < 140737488355328
                        · rw [if_pos c15] at H
                          have LMc15 := Aside0.mk c15
                          clear c15
                          obtain ⟨y373, hy373⟩ : ∃ y_ : List Int, y_ = (x5_1 ++ [bt (rdOf ByteArray.empty l0 x6_1) ((rdOf ByteArray.empty l0 a1).size : Int)]) := ⟨_, rfl⟩
                          replace H : (juratref16_Bytes.l0 k1 l0 a1 y373 (wrap64 (x6_1 + 1))) = some r := by first | (rw [hy373]; with_reducible exact H) | (have H2_ := (Option.bind_some _ _).symm.trans H; rw [hy373]; with_reducible exact H2_) | (have H2_ := (Option.bind_some _ _).symm.trans H; with_reducible exact H2_) | with_reducible exact H | (rw [hy373]; exact H) | exact H
                          have Ny373 := Aside0.mk hy373
                          clear hy373
                          have H' := Aside0.mk H
                          clear H
                          have p368 : 0 ≤ (a1 : Int) := of_decide_eq_true (by first | (with_reducible assumption) | assumption)
                          have q368 : a1 < (l0.length : Int) := of_decide_eq_true (by first | (with_reducible assumption) | assumption)
                          obtain ⟨ad368, e368, hx368_0⟩ := Kd.at_string HR0.out a1 p368 q368
                          cases e368
                          replace hx368_0 := (HB.out.cell (World.block_lt_of_cell? w _ hx368_0)).trans hx368_0
                          replace p368 := eq_true p368
                          replace q368 := eq_true q368
                          have p369 : 0 ≤ (x6_1 : Int) := of_decide_eq_true (by first | (with_reducible assumption) | assumption)
                          have q369 : x6_1 < (l0.length : Int) := of_decide_eq_true (by first | (with_reducible assumption) | assumption)
                          obtain ⟨ad369, e369, hx369_0⟩ := Kd.at_string HR0.out x6_1 p369 q369
                          obtain rfl : ad368 = ad369 := (by injection e369)
                          replace hx369_0 := (HB.out.cell (World.block_lt_of_cell? w _ hx369_0)).trans hx369_0
                          replace p369 := eq_true p369
                          replace q369 := eq_true q369
                          have p370 : 0 ≤ (x6_1 : Int) := of_decide_eq_true (by first | (with_reducible assumption) | assumption)
                          have q370 : x6_1 < (l0.length : Int) := of_decide_eq_true (by first | (with_reducible assumption) | assumption)
                          obtain ⟨ad370, e370, hx370_0⟩ := Kd.at_string HR0.out x6_1 p370 q370
                          obtain rfl : ad368 = ad370 := (by injection e370)
                          replace hx370_0 := (HB.out.cell (World.block_lt_of_cell? w _ hx370_0)).trans hx370_0
                          replace p370 := eq_true p370
                          replace q370 := eq_true q370
                          have p371 : 0 ≤ (a1 : Int) := of_decide_eq_true (by first | (with_reducible assumption) | assumption)
                          have q371 : a1 < (l0.length : Int) := of_decide_eq_true (by first | (with_reducible assumption) | assumption)
                          obtain ⟨ad371, e371, hx371_0⟩ := Kd.at_string HR0.out a1 p371 q371
                          obtain rfl : ad368 = ad371 := (by injection e371)
                          replace hx371_0 := (HB.out.cell (World.block_lt_of_cell? w _ hx371_0)).trans hx371_0
                          replace p371 := eq_true p371
                          replace q371 := eq_true q371
                          have p372 : 0 ≤ (x6_1 : Int) := of_decide_eq_true (by first | (with_reducible assumption) | assumption)
                          have q372 : x6_1 < (l0.length : Int) := of_decide_eq_true (by first | (with_reducible assumption) | assumption)
                          obtain ⟨ad372, e372, hx372_0⟩ := Kd.at_string HR0.out x6_1 p372 q372
                          obtain rfl : ad368 = ad372 := (by injection e372)
                          replace hx372_0 := (HB.out.cell (World.block_lt_of_cell? w _ hx372_0)).trans hx372_0
                          replace p372 := eq_true p372
                          replace q372 := eq_true q372
                          have p14 : 0 ≤ (((rdOf ByteArray.empty l0 a1).size : Int) : Int) := of_decide_eq_true (by first | (with_reducible assumption) | assumption)
                          have q14 : ((rdOf ByteArray.empty l0 a1).size : Int) < ((rdOf ByteArray.empty l0 x6_1).size : Int) := of_decide_eq_true (by first | (with_reducible assumption) | assumption)
                          have hx14 := bt_at (rdOf ByteArray.empty l0 x6_1) ((rdOf ByteArray.empty l0 a1).size : Int)
                          (try (have hx14n_ : ∀ h : ((rdOf ByteArray.empty l0 a1)).size < ((rdOf ByteArray.empty l0 x6_1)).size, ((((rdOf ByteArray.empty l0 x6_1))[((rdOf ByteArray.empty l0 a1)).size]'h).toNat : Int) = bt ((rdOf ByteArray.empty l0 x6_1)) ((rdOf ByteArray.empty l0 a1).size : Int) := fun h => hx14 h))
                          replace p14 := eq_true p14
                          replace q14 := eq_true q14
                          go_wp2_with (first | ((with_reducible refine gate_builtin (b := .append) (xs := #[.tmp 41, .tmp 48]) rfl ?_); at_builtin; refine Kd.R_append (Kd.int .u8) (w0 := w) w.heap.size rfl (.tmp 41) (.tmp 48) 66 5 (.int .u8 0) 1 rfl Try.underlying66 info5 rfl (by decide) (by omega) u5 x5_1 (bt (rdOf ByteArray.empty l0 x6_1) ((rdOf ByteArray.empty l0 a1).size : Int)) [.int .u8 (bt (rdOf ByteArray.empty l0 x6_1) ((rdOf ByteArray.empty l0 a1).size : Int))] (fun _ => True) (fun _ => False) rfl rfl ?aP (fun _ hk => hk.elim) ?aF ?aO ?aB ?aS ?aL ?_; (case aP => exact rfl); (case aB => exact (by repeat (first | (with_reducible first | exact HB.out | apply below_alloc | apply pw_below_drewN | apply below_drew1) | exact HB.out))); (case aF => exact (fun _ _ => trivial)); (case aO => exact (by (with_reducible repeat (first | apply Kd.R_alloc | apply Kd.R_drewN | apply Kd.R_drew)); exact HO_5.out)); (case aS => exact (below_size (by repeat (first | (with_reducible first | exact HB.out | apply below_alloc | apply pw_below_drewN | apply below_drew1) | exact HB.out)))); (case aL => have := LMc15.out; omega); intro v374 w16 ho hb hg hat; rw [← Ny373.out] at ho; have n0_ := Aside0.mk (hb); have n1_ := Aside0.mk (ho); clear HB; clear HO_5; have HB := n0_; have HO375 := n1_; clear n0_ n1_; clear ho hb hg hat))
                          repeat (go_quiet (first | ((with_reducible refine gate_builtin (b := .append) (xs := #[.tmp 41, .tmp 48]) rfl ?_); at_builtin; refine Kd.R_append (Kd.int .u8) (w0 := w) w.heap.size rfl (.tmp 41) (.tmp 48) 66 5 (.int .u8 0) 1 rfl Try.underlying66 info5 rfl (by decide) (by omega) u5 x5_1 (bt (rdOf ByteArray.empty l0 x6_1) ((rdOf ByteArray.empty l0 a1).size : Int)) [.int .u8 (bt (rdOf ByteArray.empty l0 x6_1) ((rdOf ByteArray.empty l0 a1).size : Int))] (fun _ => True) (fun _ => False) rfl rfl ?aP (fun _ hk => hk.elim) ?aF ?aO ?aB ?aS ?aL ?_; (case aP => exact rfl); (case aB => exact (by repeat (first | (with_reducible first | exact HB.out | apply below_alloc | apply pw_below_drewN | apply below_drew1) | exact HB.out))); (case aF => exact (fun _ _ => trivial)); (case aO => exact (by (with_reducible repeat (first | apply Kd.R_alloc | apply Kd.R_drewN | apply Kd.R_drew)); exact HO_5.out)); (case aS => exact (below_size (by repeat (first | (with_reducible first | exact HB.out | apply below_alloc | apply pw_below_drewN | apply below_drew1) | exact HB.out)))); (case aL => have := LMc15.out; omega); intro v374 w16 ho hb hg hat; rw [← Ny373.out] at ho; have n0_ := Aside0.mk (hb); have n1_ := Aside0.mk (ho); clear HB; clear HO_5; have HB := n0_; have HO375 := n1_; clear n0_ n1_; clear ho hb hg hat)); try go_wp2_with (first | ((with_reducible refine gate_builtin (b := .append) (xs := #[.tmp 41, .tmp 48]) rfl ?_); at_builtin; refine Kd.R_append (Kd.int .u8) (w0 := w) w.heap.size rfl (.tmp 41) (.tmp 48) 66 5 (.int .u8 0) 1 rfl Try.underlying66 info5 rfl (by decide) (by omega) u5 x5_1 (bt (rdOf ByteArray.empty l0 x6_1) ((rdOf ByteArray.empty l0 a1).size : Int)) [.int .u8 (bt (rdOf ByteArray.empty l0 x6_1) ((rdOf ByteArray.empty l0 a1).size : Int))] (fun _ => True) (fun _ => False) rfl rfl ?aP (fun _ hk => hk.elim) ?aF ?aO ?aB ?aS ?aL ?_; (case aP => exact rfl); (case aB => exact (by repeat (first | (with_reducible first | exact HB.out | apply below_alloc | apply pw_below_drewN | apply below_drew1) | exact HB.out))); (case aF => exact (fun _ _ => trivial)); (case aO => exact (by (with_reducible repeat (first | apply Kd.R_alloc | apply Kd.R_drewN | apply Kd.R_drew)); exact HO_5.out)); (case aS => exact (below_size (by repeat (first | (with_reducible first | exact HB.out | apply below_alloc | apply pw_below_drewN | apply below_drew1) | exact HB.out)))); (case aL => have := LMc15.out; omega); intro v374 w16 ho hb hg hat; rw [← Ny373.out] at ho; have n0_ := Aside0.mk (hb); have n1_ := Aside0.mk (ho); clear HB; clear HO_5; have HB := n0_; have HO375 := n1_; clear n0_ n1_; clear ho hb hg hat)))
                          go_roundg k1
                          case measure => have := HK1.out; omega
                          case rel => exact ⟨(y373), (wrap64 (x6_1 + 1)), (by first | rfl | exact isE_ _ | exact isE2_ _ | (simp; done) | (simp [*]; done)), H', ⟨by have := HK1.out; omega⟩, ⟨by (with_reducible repeat (first | apply Kd.R_alloc | apply Kd.R_drewN | apply Kd.R_drew)); exact HO375.out⟩, ⟨by repeat (first | (with_reducible first | exact HB.out | apply below_alloc | apply pw_below_drewN | apply below_drew1) | exact HB.out)⟩⟩
                        · rw [if_neg c15] at H
                          exact absurd H (by simp)
                      · rw [if_neg c13] at H
                        exact absurd H (by simp)
                    · rw [if_neg c12] at H
                      have c12b0 : (((rdOf ByteArray.empty l0 x6_1).extract 0 (((rdOf ByteArray.empty l0 a1).size : Int) : Int).toNat).toList == (rdOf ByteArray.empty l0 a1).toList) = false := beq_eq_false_iff_ne.mpr c12
                      (try (have c12b0n_ := c12b0; simp only [Int.toNat_natCast] at c12b0n_))
                      have c12b1 : (((rdOf ByteArray.empty l0 x6_1).extract 0 (((rdOf ByteArray.empty l0 a1).size : Int) : Int).toNat).toList != (rdOf ByteArray.empty l0 a1).toList) = true := bne_iff_ne.mpr c12
                      (try (have c12b1n_ := c12b1; simp only [Int.toNat_natCast] at c12b1n_))
                      have H' := Aside0.mk H
                      clear H
                      have p368 : 0 ≤ (a1 : Int) := of_decide_eq_true (by first | (with_reducible assumption) | assumption)
                      have q368 : a1 < (l0.length : Int) := of_decide_eq_true (by first | (with_reducible assumption) | assumption)
                      obtain ⟨ad368, e368, hx368_0⟩ := Kd.at_string HR0.out a1 p368 q368
                      cases e368
                      replace hx368_0 := (HB.out.cell (World.block_lt_of_cell? w _ hx368_0)).trans hx368_0
                      replace p368 := eq_true p368
                      replace q368 := eq_true q368
                      have p369 : 0 ≤ (x6_1 : Int) := of_decide_eq_true (by first | (with_reducible assumption) | assumption)
                      have q369 : x6_1 < (l0.length : Int) := of_decide_eq_true (by first | (with_reducible assumption) | assumption)
                      obtain ⟨ad369, e369, hx369_0⟩ := Kd.at_string HR0.out x6_1 p369 q369
                      obtain rfl : ad368 = ad369 := (by injection e369)
                      replace hx369_0 := (HB.out.cell (World.block_lt_of_cell? w _ hx369_0)).trans hx369_0
                      replace p369 := eq_true p369
                      replace q369 := eq_true q369
                      have p370 : 0 ≤ (x6_1 : Int) := of_decide_eq_true (by first | (with_reducible assumption) | assumption)
                      have q370 : x6_1 < (l0.length : Int) := of_decide_eq_true (by first | (with_reducible assumption) | assumption)
                      obtain ⟨ad370, e370, hx370_0⟩ := Kd.at_string HR0.out x6_1 p370 q370
                      obtain rfl : ad368 = ad370 := (by injection e370)
                      replace hx370_0 := (HB.out.cell (World.block_lt_of_cell? w _ hx370_0)).trans hx370_0
                      replace p370 := eq_true p370
                      replace q370 := eq_true q370
                      have p371 : 0 ≤ (a1 : Int) := of_decide_eq_true (by first | (with_reducible assumption) | assumption)
                      have q371 : a1 < (l0.length : Int) := of_decide_eq_true (by first | (with_reducible assumption) | assumption)
                      obtain ⟨ad371, e371, hx371_0⟩ := Kd.at_string HR0.out a1 p371 q371
                      obtain rfl : ad368 = ad371 := (by injection e371)
                      replace hx371_0 := (HB.out.cell (World.block_lt_of_cell? w _ hx371_0)).trans hx371_0
                      replace p371 := eq_true p371
                      replace q371 := eq_true q371
                      go_wp2
                      repeat (go_quiet (fail); try go_wp2)
                      go_roundg k1
                      case measure => have := HK1.out; omega
                      case rel => exact ⟨(x5_1), (wrap64 (x6_1 + 1)), (by first | rfl | exact isE_ _ | exact isE2_ _ | (simp; done) | (simp [*]; done)), H', ⟨by have := HK1.out; omega⟩, ⟨by (with_reducible repeat (first | apply Kd.R_alloc | apply Kd.R_drewN | apply Kd.R_drew)); exact HO_5.out⟩, ⟨by repeat (first | (with_reducible first | exact HB.out | apply below_alloc | apply pw_below_drewN | apply below_drew1) | exact HB.out)⟩⟩
                  · rw [if_neg c11] at H
                    exact absurd H (by simp)
                · rw [if_neg c10] at H
                  exact absurd H (by simp)
              · rw [if_neg c9] at H
                have c9b0 : (((rdOf ByteArray.empty l0 x6_1).size : Int) == (wrap64 (((rdOf ByteArray.empty l0 a1).size : Int) + 1))) = false := beq_eq_false_iff_ne.mpr c9
                have c9b1 : (((rdOf ByteArray.empty l0 x6_1).size : Int) != (wrap64 (((rdOf ByteArray.empty l0 a1).size : Int) + 1))) = true := bne_iff_ne.mpr c9
                have H' := Aside0.mk H
                clear H
                have p368 : 0 ≤ (a1 : Int) := of_decide_eq_true (by first | (with_reducible assumption) | assumption)
                have q368 : a1 < (l0.length : Int) := of_decide_eq_true (by first | (with_reducible assumption) | assumption)
                obtain ⟨ad368, e368, hx368_0⟩ := Kd.at_string HR0.out a1 p368 q368
                cases e368
                replace hx368_0 := (HB.out.cell (World.block_lt_of_cell? w _ hx368_0)).trans hx368_0
                replace p368 := eq_true p368
                replace q368 := eq_true q368
                have p369 : 0 ≤ (x6_1 : Int) := of_decide_eq_true (by first | (with_reducible assumption) | assumption)
                have q369 : x6_1 < (l0.length : Int) := of_decide_eq_true (by first | (with_reducible assumption) | assumption)
                obtain ⟨ad369, e369, hx369_0⟩ := Kd.at_string HR0.out x6_1 p369 q369
                obtain rfl : ad368 = ad369 := (by injection e369)
                replace hx369_0 := (HB.out.cell (World.block_lt_of_cell? w _ hx369_0)).trans hx369_0
                replace p369 := eq_true p369
                replace q369 := eq_true q369
                go_wp2
                repeat (go_quiet (fail); try go_wp2)
                go_roundg k1
                case measure => have := HK1.out; omega
                case rel => exact ⟨(x5_1), (wrap64 (x6_1 + 1)), (by first | rfl | exact isE_ _ | exact isE2_ _ | (simp; done) | (simp [*]; done)), H', ⟨by have := HK1.out; omega⟩, ⟨by (with_reducible repeat (first | apply Kd.R_alloc | apply Kd.R_drewN | apply Kd.R_drew)); exact HO_5.out⟩, ⟨by repeat (first | (with_reducible first | exact HB.out | apply below_alloc | apply pw_below_drewN | apply below_drew1) | exact HB.out)⟩⟩
            · rw [if_neg c8] at H
              exact absurd H (by simp)
          · rw [if_neg c7] at H
            exact absurd H (by simp)
        · rw [if_neg c6] at H
          exact absurd H (by simp)
      · rw [if_neg c5] at H
        have c5b0 : decide (x6_1 < (l0.length : Int)) = false := decide_eq_false c5
        clear c5
        obtain rfl := Option.some.inj H
        have hcv17 := own_string (P := Try.prog) Try.underlying66 Try.underlying5 Try.underlying9 (Kd.own_of_R HO_5.out)
        go_wp2
        repeat (go_quiet (fail); try go_wp2)
        go_ret
        exact ⟨by first | rfl | (simp [errW_none, errW_some] <;> rfl) | (simp [*, errW_none, errW_some] <;> rfl), by repeat (first | (with_reducible first | exact HB.out | apply below_alloc | apply pw_below_drewN | apply below_drew1) | exact HB.out)⟩

end Go.Proofs.Ytnpkbnfiadkgnaa.P

/- A state's path and bytes, and what the reference tells of them; no condition beyond the sizes that stand in each statement. -/
namespace Go.Proofs.Ytnpkbnfiadkgnaa.Base
open Go Go.RowKit Go.Proofs.YtnpkbnfiadkgnaaW.PrintWords Go.Proofs.YtnpkbnfiadkgnaaW.PrintMore Go.Proofs.Ytnpkbnfiadkgnaa.P
set_option linter.unusedVariables false

theorem strNums_path (p : List UInt8) : strOfNums (p.map fun b => (b.toNat : Int)) = strP p := by
  unfold strOfNums strP
  rw [List.map_map]
  have : (fun n : Int => UInt8.ofNat n.toNat) ∘ (fun b : UInt8 => (b.toNat : Int)) = id := by
    funext b
    simp [Function.comp]
  rw [this, List.map_id]
section
variable {w : List ByteArray} {i : Nat} {n : NodeD}
theorem above_val (hs : srt w) (h : (trN w)[i]? = some n) (h0 : 0 < i) : trie_Trie_Above.f (some (trS w)) (i : Int) = some (n.above, (n.by_ : Int), true) := by
  unfold trie_Trie_Above.f
  have e : trAt (some (trS w)) (i : Int) = done w (firstOf w i) n := by show (trS w).getD ((i : Int)).toNat default = _; rw [Int.toNat_natCast, trS_getD hs h]
  rw [tr_is h, if_pos ⟨rfl, by omega⟩, e]
  rfl
theorem root_is (h : (trN w)[0]? = some n) : n.path = [] := by
  rw [path_root] at h
  injection h with h
  rw [← h]
theorem upP_is (hs : srt w) : ∀ (k i : Nat) (n : NodeD), (trN w)[i]? = some n → n.path.length = k → upP (some (trS w)) k (i : Int) = n.path.map fun b => (b.toNat : Int)
  | 0, i, n, h, hk => by rw [List.length_eq_zero_iff.1 hk]; rfl
  | k + 1, i, n, h, hk => by
    have h0 : 0 < i := by
      rcases Nat.eq_zero_or_pos i with h1 | h1
      · subst h1
        rw [root_is h] at hk
        simp at hk
      · exact h1
    have ha := above_val hs h h0
    obtain ⟨j, m, o, h1, h2, h3, h4, h5⟩ := above_is hs h h0
    have hg := kid_path hs h1 (g := (m.gr w).getD o (0, 0, 0)) (getD_mem _ _ _ h3)
    simp only [upP, ha]
    generalize (m.gr w).getD o (0, 0, 0) = g at h5 hg
    have hp : n.path = m.path ++ [UInt8.ofNat g.1] := by rw [h5]; rfl
    have hab : n.above = (j : Int) := by rw [h5]; rfl
    have hby : n.by_ = g.1 := by rw [h5]; rfl
    rw [hp, List.length_append, List.length_singleton] at hk
    rw [hab, upP_is hs k j m h1 (by omega), hp, List.map_append, hby]
    congr 1
    simp only [List.map_cons, List.map_nil]
    rw [UInt8.toNat_ofNat']
    congr 1
    omega
theorem path_val (hs : srt w) (hz : sizes w ≤ 16777216) (h : (trN w)[i]? = some n) : trie_Trie_Path.f (some (trS w)) (i : Int) = some (strP n.path) := by
  have hl : n.path.length ≤ 1073741824 := by
    rcases path_is hs h with h1 | ⟨t, ht, hp⟩
    · rw [h1]; simp
    · have h2 := hp.length_le
      rw [LL_length] at h2
      have key : ∀ (l : List ByteArray) (t : Nat), t < l.length → (l.getD t ByteArray.empty).size ≤ sizes l := by
        intro l
        induction l with
        | nil => intro t ht; simp at ht
        | cons x l ih =>
          intro t ht
          simp only [sizes]
          cases t with
          | zero => rw [List.getD_cons_zero]; omega
          | succ t =>
            rw [List.getD_cons_succ]
            have := ih t (by simpa using ht)
            omega
      have := key w t ht
      omega
  unfold trie_Trie_Path.f
  rw [depth_is hs h, if_pos ⟨by omega, by omega⟩, Int.toNat_natCast, upP_is hs _ i n h rfl, strNums_path]
/-- The bytes below a node. -/
def byL (w : List ByteArray) (n : NodeD) : List Int := (n.gr w).map fun g => (g.1 : Int)
theorem trBy_is (hs : srt w) (h : (trN w)[i]? = some n) : trBy (trS w) (done w (firstOf w i) n) = byL w n := by
  unfold trBy byL
  rw [done_first, done_many, Int.toNat_natCast, Int.toNat_natCast]
  apply List.ext_getElem
  · simp
  · intro o h1 h2
    have ho : o < (n.gr w).length := by simpa using h1
    rw [List.getElem_map, List.getElem_map, List.getElem_range, kid_by hs h ho, List.getD_eq_getElem?_getD, List.getElem?_eq_getElem ho, Option.getD_some]
theorem bytes_val (hs : srt w) (hz : sizes w ≤ 16777216) (h : (trN w)[i]? = some n) : trie_Trie_Bytes.f (some (trS w)) (i : Int) = some (strOfNums (byL w n)) := by
  have hf := (first_gt hs h).2
  have hl := trN_le hs
  unfold trK at hl
  have hall : (byL w n).all (fun c => decide (0 ≤ c ∧ c < 256)) = true := by
    rw [List.all_eq_true]
    intro c hc
    obtain ⟨g, hg, rfl⟩ := List.mem_map.1 hc
    have := (kid_path hs h hg).1
    exact decide_eq_true (by omega)
  simp only [trie_Trie_Bytes.f]
  rw [tr_is h, if_pos rfl, Int.toNat_natCast, trS_getD hs h, trBy_is hs h, if_pos ⟨st_ok hs hz h, by show ((n.gr w).length : Int) ≤ _; omega, hall⟩]
/-- With which bytes texts go on behind one. -/
def goesOn (p s : ByteArray) : Prop := s.size = p.size + 1 ∧ s.extract 0 p.size = p
instance (p s : ByteArray) : Decidable (goesOn p s) := inferInstanceAs (Decidable (_ ∧ _))
def rbF (p : ByteArray) : List ByteArray → List Int
  | [] => []
  | s :: l => if goesOn p s then bt s (p.size : Int) :: rbF p l else rbF p l
theorem rbF_append (p : ByteArray) : ∀ a b : List ByteArray, rbF p (a ++ b) = rbF p a ++ rbF p b
  | [], b => rfl
  | s :: a, b => by
    simp only [List.cons_append, rbF]
    rw [rbF_append p a b]
    split <;> rfl
theorem rbF_none (p : ByteArray) : ∀ a : List ByteArray, (∀ s ∈ a, ¬ goesOn p s) → rbF p a = []
  | [], _ => rfl
  | s :: a, h => by
    simp only [rbF]
    rw [if_neg (h s List.mem_cons_self), rbF_none p a (fun x hx => h x (List.mem_cons_of_mem _ hx))]
theorem rbF_length (p : ByteArray) : ∀ a : List ByteArray, (rbF p a).length ≤ a.length
  | [] => Nat.le_refl _
  | s :: a => by
    have := rbF_length p a
    simp only [rbF]
    split <;> simp <;> omega
theorem goesOn_path {p q : List UInt8} : goesOn (strP p) (strP q) ↔ ∃ c, q = p ++ [c] := by
  unfold goesOn
  rw [strP_size, strP_size]
  constructor
  · rintro ⟨h1, h2⟩
    have h3 : LL ((strP q).extract 0 p.length) = p := by rw [h2, LL_strP]
    rw [LL_extract, List.drop_zero, LL_strP] at h3
    have h4 : (q.drop p.length).length = 1 := by rw [List.length_drop]; omega
    obtain ⟨c, hc⟩ := List.length_eq_one_iff.1 h4
    refine ⟨c, ?_⟩
    rw [← hc]
    have := List.take_append_drop p.length q
    rw [h3] at this
    exact this.symm
  · rintro ⟨c, rfl⟩
    refine ⟨by simp, LL_inj ?_⟩
    rw [LL_extract, List.drop_zero, LL_strP, LL_strP]
    simp
theorem rbF_kids (p : List UInt8) (k : Nat) (n : NodeD) (hp : n.path = p) : ∀ gs : List (Nat × Nat × Nat), (∀ g ∈ gs, g.1 < 256) → rbF (strP p) ((gs.map (mkN k n)).map fun m => strP m.path) = gs.map fun g => (g.1 : Int)
  | [], _ => rfl
  | g :: gs, h => by
    have hg := h g List.mem_cons_self
    simp only [List.map_cons, rbF]
    have e : (mkN k n g).path = p ++ [UInt8.ofNat g.1] := by rw [← hp]; rfl
    rw [e, if_pos (goesOn_path.2 ⟨_, rfl⟩), rbF_kids p k n hp gs (fun x hx => h x (List.mem_cons_of_mem _ hx))]
    congr 1
    rw [bt_eq, LL_strP, strP_size, Int.toNat_natCast, List.getD_eq_getElem?_getD, List.getElem?_append_right (Nat.le_refl _), Nat.sub_self]
    show ((UInt8.ofNat g.1).toNat : Int) = _
    rw [UInt8.toNat_ofNat']
    omega
theorem rbF_is (hs : srt w) (h : (trN w)[i]? = some n) : rbF (strP n.path) (paths w) = byL w n := by
  obtain ⟨h1, r, hr⟩ := node_at hs h
  have hlk : (kids w i n).length = (n.gr w).length := by unfold kids; rw [List.length_map]
  have key : ∀ j m, (trN w)[j]? = some m → goesOn (strP n.path) (strP m.path) → firstOf w i ≤ j ∧ j < firstOf w i + (n.gr w).length := fun j m hj hg => by
    obtain ⟨c, hc⟩ := goesOn_path.1 hg
    rcases path_is hs hj with h2 | ⟨t, ht, hp⟩
    · rw [h2] at hc
      simp at hc
    · rw [hc] at hp
      obtain ⟨o, g, ho, hd, hg2, hk⟩ := kid_find hs h ht hp
      have : j = firstOf w i + o := path_inj hs hj hk (by
        rw [hc]
        show _ = n.path ++ [UInt8.ofNat g.1]
        rw [hg2, UInt8.ofNat_toNat])
      omega
  have e : paths w = (nodesAt w i).map (fun m => strP m.path) ++ ((kids w i n).map (fun m => strP m.path) ++ r.map fun m => strP m.path) := by
    unfold paths
    rw [hr, List.map_append, List.map_append]
  rw [e, rbF_append, rbF_append, rbF_none _ ((nodesAt w i).map _) ?_, rbF_none _ (r.map _) ?_, List.nil_append, List.append_nil]
  · exact rbF_kids n.path i n rfl (n.gr w) (fun g hg => (kid_path hs h hg).1)
  · intro s hsm hg
    obtain ⟨m, hm, rfl⟩ := List.mem_map.1 hsm
    obtain ⟨j, hj, he⟩ := List.mem_iff_getElem.1 hm
    have := key ((nodesAt w i).length + (kids w i n).length + j) m (by
      rw [hr, List.getElem?_append_right (by omega), List.getElem?_append_right (by omega), show (nodesAt w i).length + (kids w i n).length + j - (nodesAt w i).length - (kids w i n).length = j by omega, List.getElem?_eq_getElem hj, he]) hg
    unfold firstOf at this
    omega
  · intro s hsm hg
    obtain ⟨m, hm, rfl⟩ := List.mem_map.1 hsm
    obtain ⟨j, hj, he⟩ := List.mem_iff_getElem.1 hm
    have := key j m (by rw [hr, List.getElem?_append_left hj, List.getElem?_eq_getElem hj, he]) hg
    unfold firstOf at this
    omega
theorem rbytes16_ev (l : List ByteArray) (hl : l.length ≤ 8796093022208) (hz : ∀ s ∈ l, s.size ≤ 65535) (i : Nat) (hi : i < l.length) : Ev (fun k => juratref16_Bytes.f k l (i : Int)) (strOfNums (rbF (l.getD i ByteArray.empty) l)) := by
  obtain ⟨p, hp⟩ : ∃ p, l.getD i ByteArray.empty = p := ⟨_, rfl⟩
  have hpz := hz _ (getD_mem l i ByteArray.empty hi)
  rw [hp] at hpz ⊢
  have ep : rdOf ByteArray.empty l (i : Int) = p := hp
  have key : ∀ (d j : Nat) (acc : List Int), j + d = l.length → acc.length ≤ j → Ev (fun k => juratref16_Bytes.l0 k l (i : Int) acc (j : Int)) (strOfNums (acc ++ rbF p (l.drop j))) := by
    intro d
    induction d with
    | zero =>
      intro j acc hj ha
      refine Ev.ret fun k => ?_
      simp only [juratref16_Bytes.l0]
      rw [if_neg (by omega), List.drop_of_length_le (by omega)]
      simp [rbF]
    | succ d ih =>
      intro j acc hj ha
      have e : rdOf ByteArray.empty l (j : Int) = l.getD j ByteArray.empty := rfl
      have hsz := hz _ (getD_mem l j ByteArray.empty (by omega))
      rw [getD_drop l j ByteArray.empty (by omega)]
      generalize l.getD j ByteArray.empty = s at e hsz
      simp only [rbF]
      by_cases hg : goesOn p s
      · rw [if_pos hg]
        obtain ⟨g1, g2⟩ := hg
        have hx := ih (j + 1) (acc ++ [bt s (p.size : Int)]) (by omega) (by simp; omega)
        rw [List.append_assoc] at hx
        refine Ev.step (fun k => ?_) hx
        simp only [juratref16_Bytes.l0]
        rw [if_pos (by omega), if_pos (by omega), if_pos (by omega), if_pos (by omega), e, ep, wrap_id (x := (p.size : Int) + 1) (by omega) (by omega), if_pos (by omega), if_pos (by omega), if_pos (by omega), Int.toNat_natCast, if_pos (by rw [g2]), if_pos (by omega), if_pos (by omega), wrap_id (by omega) (by omega)]
        rfl
      · rw [if_neg hg]
        have hx := ih (j + 1) acc (by omega) (by omega)
        refine Ev.step (fun k => ?_) hx
        simp only [juratref16_Bytes.l0]
        rw [if_pos (by omega), if_pos (by omega), if_pos (by omega), if_pos (by omega), e, ep, wrap_id (x := (p.size : Int) + 1) (by omega) (by omega)]
        by_cases g1 : s.size = p.size + 1
        · rw [if_pos (by omega), if_pos (by omega), if_pos (by omega), Int.toNat_natCast, if_neg (fun q => hg ⟨g1, toList_iff.1 q⟩), wrap_id (by omega) (by omega)]
          rfl
        · rw [if_neg (by omega), wrap_id (by omega) (by omega)]
          rfl
  have := key l.length 0 [] (by omega) (Nat.zero_le _)
  rw [List.drop_zero, List.nil_append] at this
  exact this
/-- What pattern a path is. -/
theorem own_find (hs : srt w) (h : (trN w)[i]? = some n) : findB (strP n.path) w 0 = if n.own w = true then (n.lo : Int) else -1 := by
  obtain ⟨o1, o2⟩ := own_is hs h
  by_cases ho : n.own w = true
  · rw [if_pos ho]
    obtain ⟨h1, h2⟩ := o1 ho
    have hm : strP n.path ∈ w := by
      have : strP n.path = w.getD n.lo ByteArray.empty := LL_inj (by rw [LL_strP, h2])
      rw [this]
      exact getD_mem w n.lo ByteArray.empty h1
    obtain ⟨t, e1, e2, e3⟩ := findB_mem _ w 0 hm
    rw [Nat.zero_add] at e1
    have := (o2 t e2 (by rw [e3, LL_strP])).2
    rw [e1, this]
  · rw [if_neg ho]
    refine findB_none _ w 0 fun hm => ho ?_
    obtain ⟨t, e1, e2, e3⟩ := findB_mem _ w 0 hm
    exact (o2 t e2 (by rw [e3, LL_strP])).1
theorem paths_at (h : (trN w)[i]? = some n) : (paths w).getD i ByteArray.empty = strP n.path := by
  unfold paths
  rw [List.getD_eq_getElem?_getD, List.getElem?_map, h]
  rfl
theorem strP_snoc (p : List UInt8) (c : UInt8) : strP (p ++ [c]) = strP p ++ ⟨#[c]⟩ := LL_inj (by rw [LL_strP, LL_append, LL_strP])
end

end Go.Proofs.Ytnpkbnfiadkgnaa.Base

/- Proved: for all texts the law TrieAbove of layer 16 answers true. No condition beyond the statement's own. -/
namespace Go.Proofs.Ytnpkbnfiadkgnaa.Pure
open Go Go.RowKit Go.Proofs.Ytnpkbnfiadkgnaa.P Go.Proofs.YtnpkbnfiadkgnaaW.PrintWords Go.Proofs.YtnpkbnfiadkgnaaW.PrintLast Go.Proofs.Ytnpkbnfiadkgnaa.Base
set_option linter.unusedVariables false

theorem total_sizes : ∀ (l : List ByteArray) (a : Nat), totalB a l = a + sizes l
  | [], a => rfl
  | s :: l, a => by
    have : totalB a (s :: l) = totalB (a + s.size) l := rfl
    rw [this, total_sizes l]
    simp only [sizes]
    omega
theorem above_l0 {w : List ByteArray} (ok : okT w) : ∀ (d i : Nat), i + d = (trN w).length → Ev (fun k => juratlaw16_TrieAbove.l0 k (some (trS w)) (i : Int)) true := by
  have hs := srt_of ok.1
  have hz := ok.2.2.2
  have hl := trN_le hs
  unfold trK at hl
  have hlen : trie_Trie_Len.f (some (trS w)) = some ((trN w).length : Int) := by rw [← trS_length]; rfl
  intro d
  induction d with
  | zero =>
    intro i hi
    refine Ev.ret fun k => ?_
    simp only [juratlaw16_TrieAbove.l0]
    rw [hlen]
    simp only [Option.bind_some]
    rw [if_neg (by omega), awake16]
    rfl
  | succ d ih =>
    intro i hi
    have hx := ih (i + 1) (by omega)
    obtain ⟨n, hn⟩ : ∃ n, (trN w)[i]? = some n := ⟨_, List.getElem?_eq_getElem (by omega)⟩
    rcases Nat.eq_zero_or_pos i with h0 | h0
    · subst h0
      have ha : trie_Trie_Above.f (some (trS w)) ((0 : Nat) : Int) = some (0, 0, false) := by
        unfold trie_Trie_Above.f
        rw [if_neg (by rintro ⟨_, h⟩; exact h rfl)]
      refine Ev.step (fun k => ?_) hx
      simp only [juratlaw16_TrieAbove.l0]
      rw [hlen]
      simp only [Option.bind_some]
      rw [if_pos (by omega), ha]
      simp only [Option.bind_some]
      rw [if_neg (by decide), if_pos (show ((0 : Nat) : Int) = 0 from rfl), wrap_id (by omega) (by omega)]
      rfl
    · have ha := above_val hs hn h0
      obtain ⟨j, m, o, h1, h2, h3, h4, h5⟩ := above_is hs hn h0
      obtain ⟨hg, _⟩ := kid_path hs h1 (g := (m.gr w).getD o (0, 0, 0)) (getD_mem _ _ _ h3)
      generalize (m.gr w).getD o (0, 0, 0) = g at h5 hg
      have hp : n.path = m.path ++ [UInt8.ofNat g.1] := by rw [h5]; rfl
      have hab : n.above = (j : Int) := by rw [h5]; rfl
      have hby : n.by_ = g.1 := by rw [h5]; rfl
      rw [hab, hby] at ha
      have hnx := next_is hs hz h1 (UInt8.ofNat g.1)
      have hid := idx_at hs hn
      rw [hp] at hid
      rw [hid, if_pos (by omega), UInt8.toNat_ofNat', show g.1 % 2 ^ 8 = g.1 by omega] at hnx
      have hd1 : trie_Trie_Depth.f (some (trS w)) (i : Int) = some (n.path.length : Int) := by unfold trie_Trie_Depth.f; exact congrArg some (depth_is hs hn)
      have hd2 : trie_Trie_Depth.f (some (trS w)) (j : Int) = some (m.path.length : Int) := by unfold trie_Trie_Depth.f; exact congrArg some (depth_is hs h1)
      have hq1 := path_val hs hz hn
      have hq2 := path_val hs hz h1
      have hlp : n.path.length = m.path.length + 1 := by rw [hp]; simp
      have hsm : n.path.length ≤ 1073741824 := by
        have := hq1
        unfold trie_Trie_Path.f at this
        rw [depth_is hs hn] at this
        by_cases hc : 0 ≤ (n.path.length : Int) ∧ (n.path.length : Int) ≤ 1073741824
        · omega
        · rw [if_neg hc] at this; cases this
      have hcat : strP n.path = strP m.path ++ strOfNums [(g.1 : Int)] := by
        have hsn : strOfNums [(g.1 : Int)] = ⟨#[UInt8.ofNat g.1]⟩ := rfl
        rw [hp, strP_snoc, hsn]
      have hsz1 : (strP m.path).size = m.path.length := strP_size _
      have hsz2 : (strOfNums [(g.1 : Int)]).size = 1 := by
        have hsn : strOfNums [(g.1 : Int)] = ⟨#[UInt8.ofNat g.1]⟩ := rfl
        rw [hsn]
        rfl
      have hsz3 : m.path.length + 1 ≤ 9223372036854775807 := by omega
      have c1 : (i : Int) < ((trN w).length : Int) := by omega
      have c2 : (i : Int) > 0 := by omega
      have c3 : ¬ (i : Int) = 0 := by omega
      have c4 : ¬ (j : Int) < 0 := by omega
      have c5 : ¬ (j : Int) ≥ (i : Int) := by omega
      have hwi : wrap64 ((i : Int) + 1) = ((i + 1 : Nat) : Int) := wrap_id (by omega) (by omega)
      have hwr : wrap64 ((m.path.length : Int) + 1) = (n.path.length : Int) := by
        clear hwi
        rw [wrap_id (by omega) (by omega), hlp]
        rfl
      refine Ev.step (fun k => ?_) hx
      simp only [juratlaw16_TrieAbove.l0]
      rw [hlen]
      simp only [Option.bind_some]
      rw [if_pos c1, ha]
      simp only [Option.bind_some]
      rw [if_neg (by rw [decide_eq_true c2]; decide), if_neg c3, hnx]
      simp only [Option.bind_some]
      rw [if_neg c4, if_neg c5, if_pos trivial, if_pos trivial, hd1, Option.bind_some, hd2, Option.bind_some, hwr, if_pos rfl, hq1, Option.bind_some, hq2, Option.bind_some, hsz1, hsz2, if_pos hsz3, if_pos (by rw [hcat]), hwi]
theorem TrieAbove (l : List ByteArray) (hl : l.length * 16 ≤ 140737488351232) (_ : ∀ x ∈ l, x.size ≤ maxLen) : ∃ k, juratlaw16_TrieAbove.f k l = some true := by
  refine Ev.rounds ?_
  unfold juratlaw16_TrieAbove.f
  refine Ev.bind (few_ev l 12 20 (by omega)) ?_
  by_cases h1 : (decide ((l.length : Int) ≤ 12) && fewB l 20) = true
  rotate_left
  · refine Ev.congr (fun k => if_neg h1) (Ev.const fun k => ?_)
    rw [awake16]
    rfl
  refine Ev.congr (fun k => if_pos h1) ?_
  rw [Bool.and_eq_true, decide_eq_true_iff] at h1
  obtain ⟨x, w, e, h⟩ := set_ok l
  have hw20 : ∀ t ∈ w, t.size ≤ 20 := fun t ht => by have := fewB_iff.1 h1.2 t (h.mem t ht); omega
  have hsz : sizes w ≤ 240 := by
    have h2 := sizes_le 20 w hw20
    have h3 := h.len
    have : w.length * 20 ≤ 12 * 20 := Nat.mul_le_mul (by omega) (Nat.le_refl _)
    omega
  obtain ⟨hT, ok⟩ := trie_ok h (by omega)
  have hs := srt_of ok.1
  have hln := trN_le hs
  unfold trK at hln
  have hlen : trie_Trie_Len.f (some (trS w)) = some ((trN w).length : Int) := by rw [← trS_length]; rfl
  have h1l : 0 < (trN w).length := (List.getElem?_eq_some_iff.1 (path_root (w := w))).1
  have htot : pats_Set_Total.f x = some (sizes w : Int) := by
    rcases h.kind with ⟨_, _, hx, hw, _⟩ | ⟨_, hx, hw⟩
    · rw [hx, hw]
      show some ((totalB 0 l : Nat) : Int) = _
      rw [← total_perm (sortB_perm l), total_sizes, Nat.zero_add]
    · rw [hx, hw]
      rfl
  refine Ev.bind (Ev.const fun _ => h.hn) (Ev.bind (Ev.const fun _ => hT) (Ev.bind (Ev.const fun _ => hlen) (Ev.congr (fun k => if_neg (by omega)) ?_)))
  refine Ev.bind (Ev.const fun _ => hlen) (Ev.bind (Ev.const fun _ => htot) ?_)
  rw [decide_eq_false (show ¬ ((trN w).length : Int) > wrap64 ((sizes w : Int) + 1) by rw [wrap_id (by omega) (by omega)]; omega)]
  have h0 := above_l0 ok (trN w).length 0 (by omega)
  refine Ev.step (fun k => ?_) h0
  simp only [juratlaw16_TrieAbove.j0]
  rw [if_neg (by simp)]
  rfl

end Go.Proofs.Ytnpkbnfiadkgnaa.Pure

/- How a law's arguments are opened: slices of texts and of numbers, as lists, with their sizes out of the row's weights. -/
namespace Go.Proofs.Ytnpkbnfiadkgnaa.RowS
open Go Go.ChangeShapes Go.WideShapes Go.RowKit Go.Proofs.YtnpkbnfiadkgnaaW.PrintWords

theorem slice_strings {H : Type} {enc : TypeId × Value → H} {P : Program} {W : World} {t e : TypeId} {a : Option Addr} {len cap : Nat} {d : DataW H} {ps : List MemPlace} {ts : List TypeId} {ds : List (DataW H)} {j : Nat}
    (hsz : (DataW.weightsEach P ts ds).all (· ≤ reachBytes) = true) (ht : ts[j]? = some t) (hd : ds[j]? = some d) (hu : P.underlying t = some (.slice e)) (he : P.underlying e = some .string) (hc : P.cellsOf e = 1) (hB : P.bytesOf e = 16)
    (h : DataW.Trod enc P W 0 (fun _ => true) true t (.slice a len cap) d ps) :
    ∃ l : List ByteArray, l.length = len ∧ len ≤ cap ∧ Kd.C Kd.string W a l.length l ∧ l.length * 16 ≤ 140737488351232 ∧ ∀ s ∈ l, s.size ≤ maxLen := by
  obtain ⟨fuel, hf⟩ := h
  rcases open_strings hu he hc hf with ⟨hcs, _⟩ | ⟨x, l, c, ss, hcs, _, hl, hm, hz, hx, hcell, hw⟩
  · simp [Value.cells] at hcs
    obtain ⟨rfl, rfl, rfl⟩ := hcs
    exact ⟨[], rfl, Nat.le_refl _, Kd.C_nil _ _, by simp, by simp⟩
  · simp [Value.cells] at hcs
    obtain ⟨rfl, rfl, rfl⟩ := hcs
    obtain ⟨hx, _⟩ := Prod.mk.inj hx
    subst hx
    have z := sized_slice hsz ht hd hu
    rw [hB] at z
    rw [if_pos rfl] at hz
    have hl2 : len ≤ ss.length := by omega
    have h1 : (strs (H := H) (ss.take len)).length + (strs (H := H) (ss.drop len)).length = ss.length := by
      simp [strs]
      omega
    rw [h1] at z
    have hlen : (ss.take len).length = len := by rw [List.length_take]; omega
    refine ⟨ss.take len, hlen, hl, Kd.C_of_reads (d := ByteArray.empty) (h1 := fun _ => rfl) ⟨rfl, by rw [hlen]; unfold maxLen at hm; omega, fun _ => ⟨x, rfl, fun i hi => ?_⟩⟩, ?_, fun s hs => hw s (List.mem_of_mem_take hs)⟩
    · rw [hlen] at hi
      rw [hcell i (by omega), List.getD_eq_getElem?_getD, List.getD_eq_getElem?_getD, List.getElem?_take_of_lt hi]
    · rw [hlen]
      exact Nat.le_trans (Nat.mul_le_mul_right _ hl2) z
theorem slice_ints {H : Type} {enc : TypeId × Value → H} {P : Program} {W : World} {t e : TypeId} {k : IntKind} {a : Option Addr} {len cap : Nat} {d : DataW H} {ps : List MemPlace} {ts : List TypeId} {ds : List (DataW H)} {j : Nat}
    (hsz : (DataW.weightsEach P ts ds).all (· ≤ reachBytes) = true) (ht : ts[j]? = some t) (hd : ds[j]? = some d) (hu : P.underlying t = some (.slice e)) (he : P.underlying e = some (.int k)) (hc : P.cellsOf e = 1) {B : Nat} (hB : P.bytesOf e = B)
    (h : DataW.Trod enc P W 0 (fun _ => true) true t (.slice a len cap) d ps) :
    ∃ l : List Int, l.length = len ∧ len ≤ cap ∧ Kd.C (Kd.int k) W a l.length l ∧ l.length ≤ maxLen ∧ l.length * B ≤ 140737488351232 ∧ ∀ n ∈ l, (Lit.int k n).wf = true := by
  have y := sized_ints hsz ht hd hu he hc hB h
  obtain ⟨fuel, hf⟩ := h
  rcases open_ints hu he hc hf with ⟨hcs, _⟩ | ⟨x, l, c, zs, hcs, _, hl, hm, hz, _, hcell, hw⟩
  · simp [Value.cells] at hcs
    obtain ⟨rfl, rfl, rfl⟩ := hcs
    exact ⟨[], rfl, Nat.le_refl _, Kd.C_nil _ _, by simp, by simp, by simp⟩
  · simp [Value.cells] at hcs
    obtain ⟨rfl, rfl, rfl⟩ := hcs
    rw [if_pos rfl] at hz
    have hlen : (zs.take len).length = len := by rw [List.length_take]; omega
    refine ⟨zs.take len, hlen, hl, Kd.C_of_reads (d := (0 : Int)) (h1 := fun _ => rfl) ⟨rfl, by rw [hlen]; unfold maxLen at hm; omega, fun _ => ⟨x, rfl, fun i hi => ?_⟩⟩, by rw [hlen]; omega, by rw [hlen]; exact y, fun s hs => hw s (List.mem_of_mem_take hs)⟩
    rw [hlen] at hi
    rw [hcell i (by omega), List.getD_eq_getElem?_getD, List.getD_eq_getElem?_getD, List.getElem?_take_of_lt hi]

end Go.Proofs.Ytnpkbnfiadkgnaa.RowS

/- The row of the law TrieAbove, out of its plain statement and the walk; written for this claim by a program of this session (wip/mkrow.py). -/
namespace Go.Proofs.Ytnpkbnfiadkgnaa.trieAbove
open Go.ChangeShapes Go.WideShapes Go.ChangeAt Go.RowKit
open Go.ChangeMaps (open_string shut_string)
set_option linter.unusedVariables false
theorem own : ownKnob Try.prog.godebug = none := by kernel_rfl
theorem laidOut : laidOutB Try.prog = true := by kernel_rfl
set_option maxRecDepth 100000 in
theorem lifted (os : Os) (started : os.Started) (H : Type) (enc : TypeId × Value → H) :
    ReturnsInHanded {} Try.checked os 7 .any (Rows.trieAboveSpec.pre6 enc Try.prog Try.f7 Rows.trieAboveRow.domain false) (Rows.trieAboveSpec.post enc Try.prog Try.f7 false true false false) := by
  refine returnsInHanded_of_change_sized (C := Try.checked) own started (by kernel_rfl) Try.func7
    (ChangeSpec.witness6 (enc := enc) (C := Try.checked) false ⟨#[], #[.slice none 0 0], []⟩ 8 (by kernel_rfl) (by kernel_rfl) (by kernel_rfl) (by kernel_rfl)) ?_
  intro W base args ds gs before hval0 hW hcnd hsz0 _
  have hsz : (DataW.weightsEach Try.prog (Try.f7.params.toList ++ Rows.trieAboveSpec.plain.varTypes Try.prog) (ds ++ gs)).all (· ≤ reachBytes) = true := hsz0
  have hval : ∀ (j : Nat) t v, Try.f7.params[j]? = some t → args[j]? = some v → Value.okWide Try.prog W .any base t v := hval0
  have hW' := hW
  obtain ⟨p, q, hA0, hV, rfl, hfz, hnd⟩ := hW
  have hA : DataW.TrodAll enc Try.prog W 0 (fun _ => true) true Try.f7.params.toList args.toList ds p := hA0
  rw [Try.params7] at hA hval hsz
  obtain ⟨v0, vs0, d0, ds0, p0, q0, hargs, rfl, rfl, h0, r0⟩ := trodAll_cons hA
  obtain ⟨rfl, rfl, rfl⟩ := trodAll_nil r0
  obtain rfl : args = #[v0] := by cases args; simp_all
  obtain ⟨rfl, rfl⟩ := trodVars_none hV
  obtain ⟨a0, len0, cap0, rfl⟩ := okWide_slice Try.underlying22 (hval 0 22 v0 rfl rfl)
  have k0 := h0
  have lt0 : ∀ x ∈ p0, x.block < W.heap.size := by obtain ⟨m, hm⟩ := k0; exact DataW.trod_lt m _ _ _ hm
  obtain ⟨l0, hn0, hc0, hr0, y0, w0⟩ := RowS.slice_strings hsz (j := 0) (t := 22) rfl rfl Try.underlying22 Try.underlying9 (by kernel_rfl) (by kernel_rfl) h0
  subst hn0
  clear hA0 hval0 hsz0 hsz
  obtain ⟨k, hk⟩ := Pure.TrieAbove l0 y0 w0
  refine (P.juratlaw16_TrieAbove.calls k a0 cap0 l0 true W hr0 hc0 hk).mono fun e W' ⟨he, bel⟩ => ?_
  subst he
  exact ⟨_, rfl, _, _, _, [], _, [], hW', trodAll_mk1 (shut_bool Try.underlying4 _), (trodAll_cons_mk (Below.trod laidOut (by kernel_rfl) (of_decide_eq_true (by kernel_rfl)) k0 bel lt0) trodAll_mk0), rfl, bel.frame _, fun h => by cases h⟩
theorem over : Rows.trieAboveRow.holds Try.pinned (OpenSpec.ofChange Rows.trieAboveSpec) :=
  OpenClaim.holds_of_wide 7 Try.f7 rfl rfl rfl rfl rfl rfl rfl ⟨rfl, rfl, rfl, rfl, rfl⟩ rfl rfl rfl rfl rfl (by kernel_rfl) Try.func7 (by kernel_rfl)
    (of_decide_eq_true (by kernel_rfl)) (by unfold Func.isWrapper; first | (rw [if_pos (by decide +kernel)]; kernel_rfl) | (rw [if_neg (by decide +kernel)]; exact ⟨rfl, rfl⟩))
    (fun os started H enc _ => lifted os started H enc)
theorem proved : Rows.TrieAboveSaid := over
#print axioms proved
end Go.Proofs.Ytnpkbnfiadkgnaa.trieAbove
namespace Go.Proofs.Ytnpkbnfiadkgnaa
/-- The row, under a short name, for the claim. -/
theorem trieAbove_holds : Rows.TrieAboveSaid := trieAbove.proved
end Go.Proofs.Ytnpkbnfiadkgnaa
