/- Evidence that clears several ends: the walk of Jump. -/
import Derived.Test.YtcehdcijflbgjaaOb24
import Derived.Test.YtcehdcijflbgjaaH13a
import Derived.Test.YtcehdcijflbgjaaH14a
namespace Go.Proofs.Ytcehdcijflbgjaa.P
open Go Go.RowKit Go.Proofs.YtcehdcijflbgjaaW.PrintWords Go.Proofs.YtcehdcijflbgjaaW.PrintLast Go.Proofs.YtcehdcijflbgjaaW.PrintMore Go.Proofs.Ytcehdcijflbgjaa.Base
set_option linter.unusedVariables false
set_option linter.unusedSimpArgs false

/-- What is said of both clearings. -/
def jumpR (one two : Int) : Int × Int × Int × List Int := if two > one then (2, two, 1, []) else if one > 0 then (1, one, 1, []) else (0, 0, 0, [])
def probe_Probe_Jump.f (a0 : Option ProbeD) (a1 : ByteArray) (a2 : Int) : Option (Int × Int × Int × List Int) :=
  match a0 with
  | none => some (0, 0, 0, [])
  | some d => if a1.size = 0 then some (0, 0, 0, []) else if 4611686018427387904 < a1.size then none else
    (shift_Table_First.f d.sh (bt a1 ((a1.size - 1 : Nat) : Int))).bind fun one => if a2 > 1 then (pair_Table_Clear.f d.pr a1 (a1.size : Int)).bind fun two => some (jumpR one two) else some (jumpR one 0)
set_option maxHeartbeats 2000000 in
set_option maxRecDepth 100000 in
theorem probe_Probe_Jump.calls (Pa0 : Option Addr) (a0 : Option ProbeD) (a1 : ByteArray) (a2 : Int) (r1 r2 r3 : Int) (r4 : List Int) (w : World) (ho : OB K65 w Pa0 a0) (h : probe_Probe_Jump.f a0 a1 a2 = some (r1, r2, r3, r4)) :
    Calls Try.prog 18 #[.pointer Pa0, .string a1, .int .i64 a2] w fun e w' => ∃ v3_ : Value, e = .returned (.agg #[.int .i64 r1, .int .i64 r2, .int .i64 r3, v3_]) ∧ Kd.R (Kd.int .i64) 3 w' w.heap.size (fun _ => True) v3_ r4 ∧ Below w.heap.size w w' := by
  have hu43 := Try.underlying43
  cases a0 with
  | none =>
    simp only [probe_Probe_Jump.f, Option.some.injEq, Prod.mk.injEq] at h
    obtain ⟨rfl, rfl, rfl, rfl⟩ := h
    obtain rfl := OB.p_none ho
    clear ho
    go_enter Try.func18, Try.ntmps18
    go_wp2_with ((with_reducible refine gate_dst (N := 6) rfl ?_); refine box_event ?hg (N := 6) ?hd (cs := #[.int .i64 0, .int .i64 0, .int .i64 0, .slice none 0 0]) (t := 43) ?hr ?_; (case hd => rfl); (case hg => rfl); (case hr => first | (go_simp; done) | (go_simp; rfl)); intro gb hg w1 hbox hb; have BK := Aside0.mk hbox; have HB1 := Aside0.mk (hb); have GE := Aside0.mk (show w.heap.size ≤ gb by rw [hg]; exact Nat.le_refl _); clear hb hbox hg; have z0 : w1.cell? ⟨gb, 0, none⟩ = some (.int .i64 0) := (blk_cell BK.out 0).trans rfl; have zm0 : ∀ m, (World.drewN w1 m).cell? ⟨gb, 0, none⟩ = some (.int .i64 0) := fun _ => (blk_cell BK.out 0).trans rfl; have zf0 := blk_frozen BK.out 0; have zg0 : ∀ m, (World.drewN w1 m).frozen? ⟨gb, 0, none⟩ = false := fun _ => blk_frozen BK.out 0; have z1 : w1.cell? ⟨gb, 1, none⟩ = some (.int .i64 0) := (blk_cell BK.out 1).trans rfl; have zm1 : ∀ m, (World.drewN w1 m).cell? ⟨gb, 1, none⟩ = some (.int .i64 0) := fun _ => (blk_cell BK.out 1).trans rfl; have zf1 := blk_frozen BK.out 1; have zg1 : ∀ m, (World.drewN w1 m).frozen? ⟨gb, 1, none⟩ = false := fun _ => blk_frozen BK.out 1; have z2 : w1.cell? ⟨gb, 2, none⟩ = some (.int .i64 0) := (blk_cell BK.out 2).trans rfl; have zm2 : ∀ m, (World.drewN w1 m).cell? ⟨gb, 2, none⟩ = some (.int .i64 0) := fun _ => (blk_cell BK.out 2).trans rfl; have zf2 := blk_frozen BK.out 2; have zg2 : ∀ m, (World.drewN w1 m).frozen? ⟨gb, 2, none⟩ = false := fun _ => blk_frozen BK.out 2; have z3 : w1.cell? ⟨gb, 3, none⟩ = some (.slice none 0 0) := (blk_cell BK.out 3).trans rfl; have zm3 : ∀ m, (World.drewN w1 m).cell? ⟨gb, 3, none⟩ = some (.slice none 0 0) := fun _ => (blk_cell BK.out 3).trans rfl; have zf3 := blk_frozen BK.out 3; have zg3 : ∀ m, (World.drewN w1 m).frozen? ⟨gb, 3, none⟩ = false := fun _ => blk_frozen BK.out 3)
    refine bodyPost_ret (results_cell_row rfl _ _ gb 43 #[.int .i64 0, .int .i64 0, .int .i64 0, .slice none 0 0] (0, 0) _ rfl (rec_blk BK.out _ _ _ _) Try.underlying43 rfl (by kernel_rfl)) rfl ?_
    exact ⟨_, rfl, Kd.R_nil _ _ _ _ _, rec_below HB1.out GE.out _ _ _ _⟩
  | some d =>
    obtain ⟨a, rfl⟩ := OB.p_some ho
    obtain ⟨b, Px, A, c, Pb, Ps, Pp, rfl, hbk, hlc, hC, hox, hob, hos, hop⟩ := OB.at ho
    simp only [probe_Probe_Jump.f] at h
    have hbl := blk_lt hbk
    by_cases hz : a1.size = 0
    · rw [if_pos hz] at h
      simp only [Option.some.injEq, Prod.mk.injEq] at h
      obtain ⟨rfl, rfl, rfl, rfl⟩ := h
      have hse : a1.toList.isEmpty = true := by rw [List.isEmpty_iff]; exact toList_nil.2 hz
      clear ho hbk hlc hC hox hob hos hop hbl
      go_enter Try.func18, Try.ntmps18
      go_wp2_with ((with_reducible refine gate_dst (N := 6) rfl ?_); refine box_event ?hg (N := 6) ?hd (cs := #[.int .i64 0, .int .i64 0, .int .i64 0, .slice none 0 0]) (t := 43) ?hr ?_; (case hd => rfl); (case hg => rfl); (case hr => first | (go_simp; done) | (go_simp; rfl)); intro gb hg w1 hbox hb; have BK := Aside0.mk hbox; have HB1 := Aside0.mk (hb); have GE := Aside0.mk (show w.heap.size ≤ gb by rw [hg]; exact Nat.le_refl _); clear hb hbox hg; have z0 : w1.cell? ⟨gb, 0, none⟩ = some (.int .i64 0) := (blk_cell BK.out 0).trans rfl; have zm0 : ∀ m, (World.drewN w1 m).cell? ⟨gb, 0, none⟩ = some (.int .i64 0) := fun _ => (blk_cell BK.out 0).trans rfl; have zf0 := blk_frozen BK.out 0; have zg0 : ∀ m, (World.drewN w1 m).frozen? ⟨gb, 0, none⟩ = false := fun _ => blk_frozen BK.out 0; have z1 : w1.cell? ⟨gb, 1, none⟩ = some (.int .i64 0) := (blk_cell BK.out 1).trans rfl; have zm1 : ∀ m, (World.drewN w1 m).cell? ⟨gb, 1, none⟩ = some (.int .i64 0) := fun _ => (blk_cell BK.out 1).trans rfl; have zf1 := blk_frozen BK.out 1; have zg1 : ∀ m, (World.drewN w1 m).frozen? ⟨gb, 1, none⟩ = false := fun _ => blk_frozen BK.out 1; have z2 : w1.cell? ⟨gb, 2, none⟩ = some (.int .i64 0) := (blk_cell BK.out 2).trans rfl; have zm2 : ∀ m, (World.drewN w1 m).cell? ⟨gb, 2, none⟩ = some (.int .i64 0) := fun _ => (blk_cell BK.out 2).trans rfl; have zf2 := blk_frozen BK.out 2; have zg2 : ∀ m, (World.drewN w1 m).frozen? ⟨gb, 2, none⟩ = false := fun _ => blk_frozen BK.out 2; have z3 : w1.cell? ⟨gb, 3, none⟩ = some (.slice none 0 0) := (blk_cell BK.out 3).trans rfl; have zm3 : ∀ m, (World.drewN w1 m).cell? ⟨gb, 3, none⟩ = some (.slice none 0 0) := fun _ => (blk_cell BK.out 3).trans rfl; have zf3 := blk_frozen BK.out 3; have zg3 : ∀ m, (World.drewN w1 m).frozen? ⟨gb, 3, none⟩ = false := fun _ => blk_frozen BK.out 3)
      refine bodyPost_ret (results_cell_row rfl _ _ gb 43 #[.int .i64 0, .int .i64 0, .int .i64 0, .slice none 0 0] (0, 0) _ rfl (rec_blk BK.out _ _ _ _) Try.underlying43 rfl (by kernel_rfl)) rfl ?_
      exact ⟨_, rfl, Kd.R_nil _ _ _ _ _, rec_below HB1.out GE.out _ _ _ _⟩
    rw [if_neg hz] at h
    by_cases hbig : 4611686018427387904 < a1.size
    · rw [if_pos hbig] at h; cases h
    rw [if_neg hbig] at h
    have hse : a1.toList.isEmpty = false := by
      rw [List.isEmpty_eq_false_iff]
      exact fun g => hz (toList_nil.1 g)
    obtain ⟨one, h1, h⟩ := Option.bind_eq_some_iff.mp h
    obtain ⟨ji, hji⟩ : ∃ ji : Int, ((a1.size - 1 : Nat) : Int) = ji := ⟨_, rfl⟩
    rw [hji] at h1
    have hw1 : IntKind.i64.wrap ((a1.size : Int) - 1) = ji := by rw [i64_w, wrap_id (by omega) (by omega)]; omega
    have hx := bt_at a1 ji
    have p1 := eq_true (show (0 : Int) ≤ ji by omega)
    have p2 := eq_true (show ji < (a1.size : Int) by omega)
    have HBK := Aside0.mk hbk
    have HOS := Aside0.mk hos
    have HOP := Aside0.mk hop
    have A1 := Aside0.mk h1
    have hrec : ∀ W : World, Below w.heap.size w W → W.heap[b]? = some (.cells #[.pointer Px, .slice A d.l.length c, .pointer Pb, .pointer Ps, .pointer Pp] 65 (0, 0)) := fun W hb => (hb.block _ hbl).trans hbk
    have HREC := Aside0.mk hrec
    clear ho hbk hlc hC hox hob hos hop h1 hbl hrec hji
    have key : ∀ two : Int, (if a2 > 1 then pair_Table_Clear.f d.pr a1 (a1.size : Int) = some two else two = 0) → jumpR one two = (r1, r2, r3, r4) → Calls Try.prog 18 #[.pointer (some ⟨b, 0, none⟩), .string a1, .int .i64 a2] w fun e w' => ∃ v3_ : Value, e = .returned (.agg #[.int .i64 r1, .int .i64 r2, .int .i64 r3, v3_]) ∧ Kd.R (Kd.int .i64) 3 w' w.heap.size (fun _ => True) v3_ r4 ∧ Below w.heap.size w w' := by
      intro two h2 hj
      have H2 := Aside0.mk h2
      have HJ := Aside0.mk hj
      clear h2 hj h
      go_enter Try.func18, Try.ntmps18
      go_upto_region 4 with (first | ((with_reducible refine gate_dst (N := 6) rfl ?_); refine box_event ?hg (N := 6) ?hd (cs := #[.int .i64 0, .int .i64 0, .int .i64 0, .slice none 0 0]) (t := 43) ?hr ?_; (case hd => rfl); (case hg => rfl); (case hr => first | (go_simp; done) | (go_simp; rfl)); intro gb hg w1 hbox hb; have BK := Aside0.mk hbox; have HB1 := Aside0.mk (hb); have GE := Aside0.mk (show w.heap.size ≤ gb by rw [hg]; exact Nat.le_refl _); clear hb hbox hg; have z0 : w1.cell? ⟨gb, 0, none⟩ = some (.int .i64 0) := (blk_cell BK.out 0).trans rfl; have zm0 : ∀ m, (World.drewN w1 m).cell? ⟨gb, 0, none⟩ = some (.int .i64 0) := fun _ => (blk_cell BK.out 0).trans rfl; have zf0 := blk_frozen BK.out 0; have zg0 : ∀ m, (World.drewN w1 m).frozen? ⟨gb, 0, none⟩ = false := fun _ => blk_frozen BK.out 0; have z1 : w1.cell? ⟨gb, 1, none⟩ = some (.int .i64 0) := (blk_cell BK.out 1).trans rfl; have zm1 : ∀ m, (World.drewN w1 m).cell? ⟨gb, 1, none⟩ = some (.int .i64 0) := fun _ => (blk_cell BK.out 1).trans rfl; have zf1 := blk_frozen BK.out 1; have zg1 : ∀ m, (World.drewN w1 m).frozen? ⟨gb, 1, none⟩ = false := fun _ => blk_frozen BK.out 1; have z2 : w1.cell? ⟨gb, 2, none⟩ = some (.int .i64 0) := (blk_cell BK.out 2).trans rfl; have zm2 : ∀ m, (World.drewN w1 m).cell? ⟨gb, 2, none⟩ = some (.int .i64 0) := fun _ => (blk_cell BK.out 2).trans rfl; have zf2 := blk_frozen BK.out 2; have zg2 : ∀ m, (World.drewN w1 m).frozen? ⟨gb, 2, none⟩ = false := fun _ => blk_frozen BK.out 2; have z3 : w1.cell? ⟨gb, 3, none⟩ = some (.slice none 0 0) := (blk_cell BK.out 3).trans rfl; have zm3 : ∀ m, (World.drewN w1 m).cell? ⟨gb, 3, none⟩ = some (.slice none 0 0) := fun _ => (blk_cell BK.out 3).trans rfl; have zf3 := blk_frozen BK.out 3; have zg3 : ∀ m, (World.drewN w1 m).frozen? ⟨gb, 3, none⟩ = false := fun _ => blk_frozen BK.out 3; have y3 : w1.cell? ⟨b, 3, none⟩ = some (.pointer Ps) := (blk_cell (HREC.out _ HB1.out) 3).trans rfl; have ym3 : ∀ m, (World.drewN w1 m).cell? ⟨b, 3, none⟩ = some (.pointer Ps) := fun m => (blk_cell (HREC.out _ HB1.out) 3).trans rfl; have y4 : w1.cell? ⟨b, 4, none⟩ = some (.pointer Pp) := (blk_cell (HREC.out _ HB1.out) 4).trans rfl; have ym4 : ∀ m, (World.drewN w1 m).cell? ⟨b, 4, none⟩ = some (.pointer Pp) := fun m => (blk_cell (HREC.out _ HB1.out) 4).trans rfl))
      go_quiet (first | (go_at_call 39; refine (shift_Table_First.calls Ps d.sh (bt a1 ji) one _ (OB.below (by repeat (first | exact HB1.out | (with_reducible apply pw_below_drewN) | (with_reducible apply below_drew))) HOS.out) A1.out).mono ?_; rintro e wq ⟨rfl, ⟨q, rfl⟩⟩; (try first | exact ⟨rfl, _, World.drewN_drewN _ _ _⟩ | exact ⟨rfl, _, Eq.trans (World.drewN_drewN _ _ _) (congrArg (World.drewN _) (Nat.add_assoc _ _ _))⟩)))
      generalize hW2 : World.drewN w1 _ = W2
      have BK2 : Aside0 (W2.heap[gb]? = some (.cells #[.int .i64 0, .int .i64 0, .int .i64 0, .slice none 0 0] 43 (0, 0))) := ⟨by rw [← hW2]; exact BK.out⟩
      have HB2 : Aside0 (Below w.heap.size w W2) := ⟨by rw [← hW2]; exact pw_below_drewN HB1.out _⟩
      have hPp := (blk_cell (HREC.out _ HB2.out) 4 : W2.cell? ⟨b, 4, none⟩ = _).trans rfl
      have hPp2 : W2.cell? ⟨b, 4, none⟩ = some (.pointer Pp) := hPp
      have k0 : W2.cell? ⟨gb, 0, none⟩ = some (.int .i64 0) := (blk_cell BK2.out 0).trans rfl
      have km0 : ∀ m, (World.drewN W2 m).cell? ⟨gb, 0, none⟩ = some (.int .i64 0) := fun _ => (blk_cell BK2.out 0).trans rfl
      have kf0 := blk_frozen BK2.out 0
      have kg0 : ∀ m, (World.drewN W2 m).frozen? ⟨gb, 0, none⟩ = false := fun _ => blk_frozen BK2.out 0
      have k1 : W2.cell? ⟨gb, 1, none⟩ = some (.int .i64 0) := (blk_cell BK2.out 1).trans rfl
      have km1 : ∀ m, (World.drewN W2 m).cell? ⟨gb, 1, none⟩ = some (.int .i64 0) := fun _ => (blk_cell BK2.out 1).trans rfl
      have kf1 := blk_frozen BK2.out 1
      have kg1 : ∀ m, (World.drewN W2 m).frozen? ⟨gb, 1, none⟩ = false := fun _ => blk_frozen BK2.out 1
      have k2 : W2.cell? ⟨gb, 2, none⟩ = some (.int .i64 0) := (blk_cell BK2.out 2).trans rfl
      have km2 : ∀ m, (World.drewN W2 m).cell? ⟨gb, 2, none⟩ = some (.int .i64 0) := fun _ => (blk_cell BK2.out 2).trans rfl
      have kf2 := blk_frozen BK2.out 2
      have kg2 : ∀ m, (World.drewN W2 m).frozen? ⟨gb, 2, none⟩ = false := fun _ => blk_frozen BK2.out 2
      have k3 : W2.cell? ⟨gb, 3, none⟩ = some (.slice none 0 0) := (blk_cell BK2.out 3).trans rfl
      have km3 : ∀ m, (World.drewN W2 m).cell? ⟨gb, 3, none⟩ = some (.slice none 0 0) := fun _ => (blk_cell BK2.out 3).trans rfl
      have kf3 := blk_frozen BK2.out 3
      have kg3 : ∀ m, (World.drewN W2 m).frozen? ⟨gb, 3, none⟩ = false := fun _ => blk_frozen BK2.out 3
      clear hPp hW2 HB1 BK z0 z1 z2 z3 zm0 zm1 zm2 zm3 zf0 zf1 zf2 zf3 zg0 zg1 zg2 zg3 y3 y4 ym3 ym4
      have hj := HJ.out
      unfold jumpR at hj
      have h2 := H2.out
      by_cases g1 : a2 > 1
      · rw [if_pos g1] at h2
        have H3 := Aside0.mk h2
        have c1 : decide (1 < a2) = true := decide_eq_true g1
        clear h2 g1 H2
        by_cases g2 : two > one
        · rw [if_pos g2] at hj
          simp only [Prod.mk.injEq] at hj
          obtain ⟨rfl, rfl, rfl, rfl⟩ := hj
          have c2 : decide (one < two) = true := decide_eq_true g2
          clear g2 HJ
          go_wp2_with (go_at_call 40; refine (pair_Table_Clear.calls Pp d.pr a1 (a1.size : Int) two _ (OB.below HB2.out HOP.out) H3.out).mono ?_; rintro e wq ⟨rfl, ⟨q2, rfl⟩⟩; have HB3 := Aside0.mk (pw_below_drewN HB2.out q2))
          refine bodyPost_ret (results_cell_row rfl _ _ gb 43 #[.int .i64 2, .int .i64 two, .int .i64 1, .slice none 0 0] (0, 0) _ rfl (rec_blk BK2.out _ _ _ _) Try.underlying43 rfl (by kernel_rfl)) rfl ?_
          exact ⟨_, rfl, Kd.R_nil _ _ _ _ _, rec_below HB3.out GE.out _ _ _ _⟩
        · rw [if_neg g2] at hj
          have c2 : decide (one < two) = false := decide_eq_false g2
          by_cases g3 : one > 0
          · rw [if_pos g3] at hj
            simp only [Prod.mk.injEq] at hj
            obtain ⟨rfl, rfl, rfl, rfl⟩ := hj
            have c3 : decide (0 < one) = true := decide_eq_true g3
            clear g2 HJ g3
            go_wp2_with (go_at_call 40; refine (pair_Table_Clear.calls Pp d.pr a1 (a1.size : Int) two _ (OB.below HB2.out HOP.out) H3.out).mono ?_; rintro e wq ⟨rfl, ⟨q2, rfl⟩⟩; have HB3 := Aside0.mk (pw_below_drewN HB2.out q2))
            refine bodyPost_ret (results_cell_row rfl _ _ gb 43 #[.int .i64 1, .int .i64 one, .int .i64 1, .slice none 0 0] (0, 0) _ rfl (rec_blk BK2.out _ _ _ _) Try.underlying43 rfl (by kernel_rfl)) rfl ?_
            exact ⟨_, rfl, Kd.R_nil _ _ _ _ _, rec_below HB3.out GE.out _ _ _ _⟩
          · rw [if_neg g3] at hj
            simp only [Prod.mk.injEq] at hj
            obtain ⟨rfl, rfl, rfl, rfl⟩ := hj
            have c3 : decide (0 < one) = false := decide_eq_false g3
            clear g2 HJ g3
            go_wp2_with (go_at_call 40; refine (pair_Table_Clear.calls Pp d.pr a1 (a1.size : Int) two _ (OB.below HB2.out HOP.out) H3.out).mono ?_; rintro e wq ⟨rfl, ⟨q2, rfl⟩⟩; have HB3 := Aside0.mk (pw_below_drewN HB2.out q2))
            refine bodyPost_ret (results_cell_row rfl _ _ gb 43 #[.int .i64 0, .int .i64 0, .int .i64 0, .slice none 0 0] (0, 0) _ rfl (rec_blk BK2.out _ _ _ _) Try.underlying43 rfl (by kernel_rfl)) rfl ?_
            exact ⟨_, rfl, Kd.R_nil _ _ _ _ _, rec_below HB3.out GE.out _ _ _ _⟩
      · rw [if_neg g1] at h2
        subst h2
        have c1 : decide (1 < a2) = false := decide_eq_false g1
        have HB3 := HB2
        clear g1 H2
        by_cases g2 : (0 : Int) > one
        · rw [if_pos g2] at hj
          simp only [Prod.mk.injEq] at hj
          obtain ⟨rfl, rfl, rfl, rfl⟩ := hj
          have c2 : decide (one < 0) = true := decide_eq_true g2
          clear g2 HJ
          go_wp2
          refine bodyPost_ret (results_cell_row rfl _ _ gb 43 #[.int .i64 2, .int .i64 0, .int .i64 1, .slice none 0 0] (0, 0) _ rfl (rec_blk BK2.out _ _ _ _) Try.underlying43 rfl (by kernel_rfl)) rfl ?_
          exact ⟨_, rfl, Kd.R_nil _ _ _ _ _, rec_below HB3.out GE.out _ _ _ _⟩
        · rw [if_neg g2] at hj
          have c2 : decide (one < 0) = false := decide_eq_false g2
          by_cases g3 : one > 0
          · rw [if_pos g3] at hj
            simp only [Prod.mk.injEq] at hj
            obtain ⟨rfl, rfl, rfl, rfl⟩ := hj
            have c3 : decide (0 < one) = true := decide_eq_true g3
            clear g2 HJ g3
            go_wp2
            refine bodyPost_ret (results_cell_row rfl _ _ gb 43 #[.int .i64 1, .int .i64 one, .int .i64 1, .slice none 0 0] (0, 0) _ rfl (rec_blk BK2.out _ _ _ _) Try.underlying43 rfl (by kernel_rfl)) rfl ?_
            exact ⟨_, rfl, Kd.R_nil _ _ _ _ _, rec_below HB3.out GE.out _ _ _ _⟩
          · rw [if_neg g3] at hj
            simp only [Prod.mk.injEq] at hj
            obtain ⟨rfl, rfl, rfl, rfl⟩ := hj
            have c3 : decide (0 < one) = false := decide_eq_false g3
            clear g2 HJ g3
            go_wp2
            refine bodyPost_ret (results_cell_row rfl _ _ gb 43 #[.int .i64 0, .int .i64 0, .int .i64 0, .slice none 0 0] (0, 0) _ rfl (rec_blk BK2.out _ _ _ _) Try.underlying43 rfl (by kernel_rfl)) rfl ?_
            exact ⟨_, rfl, Kd.R_nil _ _ _ _ _, rec_below HB3.out GE.out _ _ _ _⟩
    by_cases g : a2 > 1
    · rw [if_pos g] at h
      obtain ⟨two, h2, h⟩ := Option.bind_eq_some_iff.mp h
      exact key two (by rw [if_pos g]; exact h2) (Option.some.inj h)
    · rw [if_neg g] at h
      exact key 0 (by rw [if_neg g]) (Option.some.inj h)
end Go.Proofs.Ytcehdcijflbgjaa.P
