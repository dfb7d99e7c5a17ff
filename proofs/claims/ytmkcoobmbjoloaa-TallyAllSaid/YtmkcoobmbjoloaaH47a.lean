/- Counts in a row that the call made, told cell by cell, and one hit more: the walk. -/
import Derived.Below
import Derived.Deep.Draws
import Derived.OwnWalk
import Derived.Tactics
import Derived.WalkKit
import Derived.KernelRfl
import Derived.RowKit3
import Derived.Deep.LoopGhost
import Derived.Deep.QuietTactic
import Derived.BigQuiet
import Derived.WideLaws
import Derived.Outline
import Derived.StillTailTactics
import Derived.Test.YtmkcoobmbjoloaaBase
import Derived.Test.YtmkcoobmbjoloaaPx0
namespace Go.Proofs.Ytmkcoobmbjoloaa.P
open Go Go.RowKit Go.Proofs.YtmkcoobmbjoloaaW.PrintWords Go.Proofs.YtmkcoobmbjoloaaW.PrintLast Go.Proofs.Ytmkcoobmbjoloaa.Base
set_option linter.unusedVariables false
set_option linter.unusedSimpArgs false

abbrev CntD := S72
abbrev cnt0 : CntD := z72
def enc4 (x : CntD) : List Value := [.int .i64 x.f0, .int .i64 x.f1, .int .i64 x.f2, .int .i64 x.f3]
/-- A row of counts that is told cell by cell. -/
def RawRow (W : World) (g cap : Nat) (l : List CntD) : Prop := ∃ cur : Array Value, W.heap[g]? = some (.cells cur 72 (0, 0)) ∧ cur.toList.take (l.length * 4) = l.flatMap enc4 ∧ l.length ≤ cap ∧ cur.size = cap * 4
theorem flat4_length (l : List CntD) : (l.flatMap enc4).length = l.length * 4 := by
  induction l with
  | nil => rfl
  | cons x l ih => rw [List.flatMap_cons, List.length_append, ih, List.length_cons, Nat.succ_mul]; simp [enc4]; omega
theorem flat4_at : ∀ (l : List CntD) (i j : Nat), i < l.length → j < 4 → (l.flatMap enc4)[i * 4 + j]? = (enc4 (l.getD i cnt0))[j]?
  | [], i, j, h, _ => by simp at h
  | x :: l, 0, j, h, hj => by
    rw [List.flatMap_cons, List.getElem?_append_left (by simp [enc4]; omega), Nat.zero_mul, Nat.zero_add, List.getD_cons_zero]
  | x :: l, i + 1, j, h, hj => by
    rw [List.flatMap_cons, List.getElem?_append_right (by simp [enc4]; omega), List.getD_cons_succ, ← flat4_at l i j (by simpa using h) hj]
    congr 1
    simp only [enc4, List.length_cons, List.length_nil]
    omega
theorem flat4_set : ∀ (l : List CntD) (i j : Nat) (u : Value) (x' : CntD), i < l.length → j < 4 → enc4 x' = (enc4 (l.getD i cnt0)).set j u → (l.flatMap enc4).set (i * 4 + j) u = (l.set i x').flatMap enc4
  | [], i, j, u, x', h, _, _ => by simp at h
  | x :: l, 0, j, u, x', h, hj, e => by
    rw [List.flatMap_cons, List.set_append_left _ _ (by simp [enc4]; omega), List.set_cons_zero, List.flatMap_cons, e, List.getD_cons_zero, Nat.zero_mul, Nat.zero_add]
  | x :: l, i + 1, j, u, x', h, hj, e => by
    rw [List.flatMap_cons, List.set_append_right _ _ (by simp [enc4]; omega), List.set_cons_succ, List.flatMap_cons]
    congr 1
    rw [show (i + 1) * 4 + j - (enc4 x).length = i * 4 + j by simp only [enc4, List.length_cons, List.length_nil]; omega]
    exact flat4_set l i j u x' (by simpa using h) hj (by rw [List.getD_cons_succ] at e; exact e)
section
variable {W : World} {g cap : Nat} {l : List CntD}
theorem raw_cell (h : RawRow W g cap l) {i j : Nat} {u : Value} (hi : i < l.length) (hj : j < 4) (hu : (enc4 (l.getD i cnt0))[j]? = some u) : W.cell? ⟨g, i * 4 + j, none⟩ = some u := by
  obtain ⟨cur, h1, h2, h3, h4⟩ := h
  have e := List.getElem?_take_of_lt (l := cur.toList) (i := i * 4 + j) (j := l.length * 4) (by omega)
  rw [blk_cell h1, ← Array.getElem?_toList, ← e, h2, flat4_at l i j hi hj, hu]
theorem raw_frozen (h : RawRow W g cap l) (i : Nat) : W.frozen? ⟨g, i, none⟩ = false := by
  obtain ⟨cur, h1, _⟩ := h
  exact blk_frozen h1 i
theorem raw_set (h : RawRow W g cap l) {i j : Nat} {u : Value} {x' : CntD} (hi : i < l.length) (hj : j < 4) (e : enc4 x' = (enc4 (l.getD i cnt0)).set j u) : RawRow (W.setCell ⟨g, i * 4 + j, none⟩ u) g cap (l.set i x') := by
  obtain ⟨cur, h1, h2, h3, h4⟩ := h
  refine ⟨cur.setIfInBounds (i * 4 + j) u, blk_set h1 _ _, ?_, by rw [List.length_set]; exact h3, by rw [Array.size_setIfInBounds]; exact h4⟩
  rw [List.length_set, Array.toList_setIfInBounds, List.take_set, h2, flat4_set l i j u x' hi hj e]
theorem raw_set' {i j : Nat} {u : Value} {x x' : CntD} (h : RawRow W g cap (l.set i x)) (hi : i < l.length) (hj : j < 4) (e : enc4 x' = (enc4 x).set j u) : RawRow (W.setCell ⟨g, i * 4 + j, none⟩ u) g cap (l.set i x') := by
  have := raw_set (u := u) (x' := x') h (i := i) (j := j) (by rw [List.length_set]; exact hi) hj (by
    rw [List.getD_eq_getElem?_getD, List.getElem?_set_self (by exact hi)]
    exact e)
  rwa [List.set_set] at this
theorem raw_drew (h : RawRow W g cap l) : RawRow W.drew g cap l := h
theorem raw_drewN (h : RawRow W g cap l) (n : Nat) : RawRow (W.drewN n) g cap l := h
theorem grown_set {w : World} (h : w.grownBy W (some g)) (j : Nat) (u : Value) : w.grownBy (W.setCell ⟨g, j, none⟩ u) (some g) := by
  refine ⟨h.os, h.tape, h.output, ?_, fun i hi hne => ?_⟩
  · exact Nat.le_trans h.size (Nat.le_of_eq (World.size_setCell _ _ _).symm)
  · rw [Below.heap_setCell W ⟨g, j, none⟩ u i (fun e => hne (by rw [e]))]
    exact h.block i hi hne
theorem grown_drew {w : World} {row : Option Nat} (h : w.grownBy W row) : w.grownBy W.drew row := ⟨h.os, h.tape, h.output, h.size, h.block⟩
theorem grown_drewN {w : World} {row : Option Nat} (h : w.grownBy W row) (n : Nat) : w.grownBy (W.drewN n) row := ⟨h.os, h.tape, h.output, h.size, h.block⟩
end
theorem reps_flat : ∀ (l : List CntD) (cs : List Value), Reps (fun x c => c = enc4 x) 4 l cs → cs = l.flatMap enc4
  | [], cs, h => by have := h.1; simp at this; rw [this]; rfl
  | x :: l, cs, h => by
    have h0 := h.2 0 x rfl
    rw [Nat.zero_mul, List.drop_zero] at h0
    have h1 : Reps (fun x c => c = enc4 x) 4 l (cs.drop 4) := by
      refine ⟨by rw [List.length_drop, h.1, List.length_cons]; omega, fun j p hj => ?_⟩
      have := h.2 (j + 1) p (by rw [List.getElem?_cons_succ]; exact hj)
      rw [List.drop_drop, show 4 + j * 4 = (j + 1) * 4 by omega]
      exact this
    rw [List.flatMap_cons, ← reps_flat l _ h1, ← h0, List.take_append_drop]
theorem flat_reps : ∀ (l : List CntD), Reps (fun x c => c = enc4 x) 4 l (l.flatMap enc4)
  | [] => Reps.none _ _
  | x :: l => Reps.front rfl rfl (flat_reps l) rfl
theorem raw_of_R {w : World} {base : Nat} {ok : Nat → Prop} {v : Value} {l : List CntD} {b : Nat} (h : Kd.R k72 72 w base ok v l) (hb : v.ownBlock = some b) : ∃ cap, v = .slice (some ⟨b, 0, none⟩) l.length cap ∧ cap ≤ maxLen ∧ base ≤ b ∧ RawRow w b cap l := by
  obtain ⟨_, inner, ho, hr⟩ := h
  have hin := reps_flat l inner (hr.imp_ (fun p c hp => k72_openM hp))
  rcases ho.2 with ⟨rfl, _⟩ | ⟨g, cap, cur, rfl, hg, hh, hn, hc, hsz, ht⟩
  · simp [Value.ownBlock] at hb
  · have : g = b := by simpa [Value.ownBlock] using hb
    subst this
    exact ⟨cap, rfl, hc, hg, cur, hh, by rw [← hin]; exact ht, hn, hsz⟩
theorem R_of_raw {w : World} {base b cap : Nat} {l : List CntD} (h : RawRow w b cap l) (hb : base ≤ b) (hc : cap ≤ maxLen) : Kd.R k72 72 w base (fun _ => True) (.slice (some ⟨b, 0, none⟩) l.length cap) l := by
  obtain ⟨cur, h1, h2, h3, h4⟩ := h
  refine ⟨fun _ _ => trivial, l.flatMap enc4, ⟨?_, .inr ⟨b, cap, cur, rfl, hb, h1, h3, hc, h4, h2⟩⟩, (flat_reps l).imp_ (fun p c hp => by subst hp; exact k72_mkM _ _ _ p)⟩
  rw [flat4_length]
  rfl
/-- One hit more. -/
def cntAdd (c : CntD) (e : Int) : CntD := ⟨c.f0 + 1, if c.f0 = 0 then e else c.f1, e, if c.f0 = 0 then c.f3 else if c.f3 = 0 then e - c.f2 else if e - c.f2 < c.f3 then e - c.f2 else c.f3⟩
set_option maxHeartbeats 4000000 in
set_option maxRecDepth 100000 in
theorem tally_add (g cap i : Nat) (l : List CntD) (e : Int) (w : World) (hR : RawRow w g cap l) (hi : i < l.length) (hc : ∀ c, l.getD i cnt0 = c → 0 ≤ c.f0 ∧ c.f0 ≤ 9223372036854775806 ∧ 0 ≤ c.f2 ∧ c.f2 ≤ 9223372036854775807) (he : 1 ≤ e ∧ e ≤ 9223372036854775807) :
    Calls Try.prog 87 #[.pointer (some ⟨g, i * 4, none⟩), .int .i64 e] w fun en w' => en = .returned (.tuple #[]) ∧ RawRow w' g cap (l.set i (cntAdd (l.getD i cnt0) e)) ∧ w.grownBy w' (some g) := by
  obtain ⟨c, hcc⟩ : ∃ c, l.getD i cnt0 = c := ⟨_, rfl⟩
  obtain ⟨h0, h1, h2, h2u⟩ := hc c hcc
  have k0 : w.cell? ⟨g, i * 4, none⟩ = some (.int .i64 c.f0) := raw_cell (j := 0) hR hi (by omega) (by rw [hcc]; rfl)
  have k1 : w.cell? ⟨g, i * 4 + 1, none⟩ = some (.int .i64 c.f1) := raw_cell (j := 1) hR hi (by omega) (by rw [hcc]; rfl)
  have k2 : w.cell? ⟨g, i * 4 + 2, none⟩ = some (.int .i64 c.f2) := raw_cell (j := 2) hR hi (by omega) (by rw [hcc]; rfl)
  have k3 : w.cell? ⟨g, i * 4 + 3, none⟩ = some (.int .i64 c.f3) := raw_cell (j := 3) hR hi (by omega) (by rw [hcc]; rfl)
  have f0 := fun j => raw_frozen hR (i * 4 + j)
  have f1 := raw_frozen hR (i * 4)
  rw [hcc]
  obtain ⟨c0, c1, c2, c3⟩ := c
  simp only at h0 h1 h2 h2u k0 k1 k2 k3
  have HR := Aside0.mk hR
  have HC := Aside0.mk hcc
  have HI := Aside0.mk hi
  obtain ⟨e1, e2⟩ := he
  clear hc hcc hR hi
  by_cases hz : c0 = 0
  · subst hz
    go_enter Try.func87, Try.ntmps87
    go_wp2
    go_end0
    have r1 := raw_set (u := .int .i64 e) (x' := ⟨0, e, c2, c3⟩) HR.out HI.out (j := 1) (by omega) (by rw [HC.out]; rfl)
    have r2 := raw_set' (u := .int .i64 e) (x' := ⟨0, e, e, c3⟩) r1 HI.out (j := 2) (by omega) rfl
    have r3 := raw_set' (u := .int .i64 1) (x' := ⟨1, e, e, c3⟩) r2 HI.out (j := 0) (by omega) rfl
    exact ⟨rfl, r3, grown_set (grown_set (grown_set ⟨rfl, rfl, rfl, Nat.le_refl _, fun _ _ _ => rfl⟩ _ _) _ _) _ _⟩
  · have hzb : (c0 == 0) = false := beq_eq_false_iff_ne.2 hz
    have hw : cntAdd ⟨c0, c1, c2, c3⟩ e = ⟨c0 + 1, c1, e, if c3 = 0 then e - c2 else if e - c2 < c3 then e - c2 else c3⟩ := by unfold cntAdd; simp only; rw [if_neg hz, if_neg hz]
    have HW := Aside0.mk hw
    have HG := Aside0.mk (show w.grownBy w (some g) from ⟨rfl, rfl, rfl, Nat.le_refl _, fun _ _ _ => rfl⟩)
    clear hz hw
    have w1 : IntKind.i64.wrap (e - c2) = e - c2 := by rw [i64_w, wrap_id (by omega) (by omega)]
    by_cases h3 : c3 = 0
    · subst h3
      go_enter Try.func87, Try.ntmps87
      go_wp2
      go_quiet (fail)
      clear w1
      go_wp2
      go_end0
      have r1 := raw_set (u := .int .i64 (e - c2)) (x' := ⟨c0, c1, c2, e - c2⟩) (raw_drewN HR.out nq) HI.out (j := 3) (by omega) (by rw [HC.out]; rfl)
      have r2 := raw_set' (u := .int .i64 e) (x' := ⟨c0, c1, e, e - c2⟩) r1 HI.out (j := 2) (by omega) rfl
      have r3 := raw_set' (u := .int .i64 (c0 + 1)) (x' := ⟨c0 + 1, c1, e, e - c2⟩) r2 HI.out (j := 0) (by omega) rfl
      rw [HW.out]
      simp only [if_true]
      exact ⟨trivial, r3, grown_set (grown_set (grown_set (grown_drewN HG.out nq) _ _) _ _) _ _⟩
    · have h3b : (c3 == 0) = false := beq_eq_false_iff_ne.2 h3
      by_cases h4 : e - c2 < c3
      · have h4b : decide (e - c2 < c3) = true := decide_eq_true h4
        have HW2 := Aside0.mk (show (if c3 = 0 then e - c2 else if e - c2 < c3 then e - c2 else c3) = e - c2 by rw [if_neg h3, if_pos h4])
        clear h3 h4
        go_enter Try.func87, Try.ntmps87
        go_wp2
        go_quiet (fail)
        clear w1
        go_wp2
        go_end0
        have r1 := raw_set (u := .int .i64 (e - c2)) (x' := ⟨c0, c1, c2, e - c2⟩) (raw_drewN HR.out nq) HI.out (j := 3) (by omega) (by rw [HC.out]; rfl)
        have r2 := raw_set' (u := .int .i64 e) (x' := ⟨c0, c1, e, e - c2⟩) r1 HI.out (j := 2) (by omega) rfl
        have r3 := raw_set' (u := .int .i64 (c0 + 1)) (x' := ⟨c0 + 1, c1, e, e - c2⟩) r2 HI.out (j := 0) (by omega) rfl
        rw [HW.out, HW2.out]
        exact ⟨rfl, r3, grown_set (grown_set (grown_set (grown_drewN HG.out nq) _ _) _ _) _ _⟩
      · have h4b : decide (e - c2 < c3) = false := decide_eq_false h4
        have HW2 := Aside0.mk (show (if c3 = 0 then e - c2 else if e - c2 < c3 then e - c2 else c3) = c3 by rw [if_neg h3, if_neg h4])
        clear h3 h4
        go_enter Try.func87, Try.ntmps87
        go_wp2
        go_quiet (fail)
        clear w1
        go_wp2
        go_end0
        have r2 := raw_set (u := .int .i64 e) (x' := ⟨c0, c1, e, c3⟩) (raw_drewN HR.out nq) HI.out (j := 2) (by omega) (by rw [HC.out]; rfl)
        have r3 := raw_set' (u := .int .i64 (c0 + 1)) (x' := ⟨c0 + 1, c1, e, c3⟩) r2 HI.out (j := 0) (by omega) rfl
        rw [HW.out, HW2.out]
        exact ⟨rfl, r3, grown_set (grown_set (grown_drewN HG.out nq) _ _) _ _⟩

end Go.Proofs.Ytmkcoobmbjoloaa.P
