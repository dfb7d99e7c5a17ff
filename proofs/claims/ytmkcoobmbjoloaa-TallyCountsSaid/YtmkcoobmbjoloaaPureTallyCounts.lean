/- Proved: for every number and all hits the law TallyCounts of layer 47 answers true. No condition beyond the statement's own. -/
import Derived.Test.YtmkcoobmbjoloaaA47
import Derived.Test.YtmkcoobmbjoloaaPx9
namespace Go.Proofs.Ytmkcoobmbjoloaa.Pure
open Go Go.RowKit Go.Proofs.Ytmkcoobmbjoloaa.P Go.Proofs.YtmkcoobmbjoloaaW.PrintWords Go.Proofs.YtmkcoobmbjoloaaW.PrintLast Go.Proofs.Ytmkcoobmbjoloaa.Base
set_option linter.unusedVariables false

theorem TallyCounts (n : Int) (l : List HitD) (hn : (Lit.int .i64 n).wf = true) (hl : l.length ≤ maxLen) (hl2 : l.length * 16 ≤ 140737488351232) (hz : ∀ h ∈ l, (Lit.int .i64 h.f0).wf = true ∧ (Lit.int .i64 h.f1).wf = true) : ∃ k, juratlaw47_TallyCounts.f k n l = some true := by
  refine Ev.rounds ?_
  have big : Ev (fun k => juratlaw47_TallyCounts.j0 k n l true) true := by
    refine Ev.step (f := fun k => (juratlaw47_awake.f k).bind fun t => some t) (fun k => ?_) (Ev.bind awake47 (Ev.now true))
    simp only [juratlaw47_TallyCounts.j0]
    rw [if_pos trivial]
  unfold juratlaw47_TallyCounts.f
  by_cases h1 : (l.length : Int) > 60
  · exact Ev.congr (fun k => if_pos h1) big
  refine Ev.congr (fun k => if_neg h1) ?_
  have main : n ≤ 1000 ∨ n > 65535 → Ev (fun k => juratlaw47_TallyCounts.j0 k n l false) true := fun hn1 => by
    have hz1 : ∀ h ∈ l, h.f0 ≤ 9223372036854775807 := fun h hh => wf64' (hz h hh).1
    have e2 := rof_ev n l (by omega) hn1 hz1
    have tail : Ev (fun k => (juratlaw47_awake.f k).bind fun t383 => (some t383)) true := Ev.bind awake47 (Ev.now true)
    have same0 := same47 [] [] (by simp) rfl (fun i hi => by simp at hi)
    refine Ev.step (f := fun k => (tally_Of.f n l).bind fun bt374 => ((juratref47_Of.f k n l).bind fun bt378 => ((juratlaw47_same.f k bt374.1 bt378.1).bind fun t382 => (if t382 = true then (if bt374.2 = bt378.2 then ((juratlaw47_awake.f k).bind fun t383 => (some t383)) else (some false)) else (some false))))) (fun k => ?_) ?_
    · simp only [juratlaw47_TallyCounts.j0]
      rw [if_neg (by simp)]
    have fin : ∀ (c : List CntD) (r : List RefD) (e : Int), tally_Of.f n l = some (c, e) → Ev (fun k => juratref47_Of.f k n l) (r, e) → Ev (fun k => juratlaw47_same.f k c r) true → Ev (fun k => (tally_Of.f n l).bind fun bt374 => ((juratref47_Of.f k n l).bind fun bt378 => ((juratlaw47_same.f k bt374.1 bt378.1).bind fun t382 => (if t382 = true then (if bt374.2 = bt378.2 then ((juratlaw47_awake.f k).bind fun t383 => (some t383)) else (some false)) else (some false))))) true := fun c r e h1 h2 h3 =>
      Ev.bind (Ev.const fun _ => h1) (Ev.bind h2 (Ev.bind h3 (Ev.congr (fun k => if_pos rfl) (Ev.congr (fun k => if_pos rfl) tail))))
    by_cases g0 : n < 0
    · rw [if_pos g0] at e2
      exact fin [] [] 2 (by unfold tally_Of.f; rw [if_pos g0]) e2 same0
    rw [if_neg g0] at e2
    by_cases g1 : n > 65535
    · rw [if_pos g1] at e2
      exact fin [] [] 2 (by unfold tally_Of.f; rw [if_neg g0, if_pos g1]) e2 same0
    rw [if_neg g1] at e2
    have hs : ¬ ¬ (l.length ≤ 8796093022208 ∧ ∀ h ∈ l, h.f0 ≤ 9223372036854775807) := fun h => h ⟨by omega, hz1⟩
    by_cases g2 : risB l = false
    · rw [if_pos g2] at e2
      exact fin [] [] 9 (by unfold tally_Of.f; rw [if_neg g0, if_neg g1, if_neg hs, if_pos g2]) e2 same0
    rw [if_neg g2] at e2
    by_cases g3 : l.all (goodH n.toNat) = true
    · rw [if_pos g3] at e2
      have hc := cnts_same n.toNat l (by cases h : risB l with | true => rfl | false => exact absurd h g2) g3
      exact fin _ _ 0 (by unfold tally_Of.f; rw [if_neg g0, if_neg g1, if_neg hs, if_neg g2, if_pos g3]) e2 (same47 _ _ (by rw [hc.1, refsB_length]; omega) hc.1 hc.2)
    · rw [if_neg g3] at e2
      exact fin [] [] 11 (by unfold tally_Of.f; rw [if_neg g0, if_neg g1, if_neg hs, if_neg g2, if_neg g3]) e2 same0
  by_cases h2 : n > 40
  · refine Ev.congr (fun k => if_pos h2) ?_
    by_cases h3 : n < 65536
    · exact Ev.congr (fun k => by rw [decide_eq_true h3]) big
    · exact Ev.congr (fun k => by rw [decide_eq_false h3]) (main (.inr (by omega)))
  · exact Ev.congr (fun k => if_neg h2) (main (.inl (by omega)))

end Go.Proofs.Ytmkcoobmbjoloaa.Pure
