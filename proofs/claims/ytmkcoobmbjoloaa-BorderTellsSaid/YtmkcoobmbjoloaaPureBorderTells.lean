/- Proved: for every text the law BorderTells of layer 8 answers true (of at most 100 bytes; beyond them it asks for its examples alone). No condition beyond the statement's own. -/
import Derived.Test.YtmkcoobmbjoloaaM08
import Derived.Test.YtmkcoobmbjoloaaPx8
namespace Go.Proofs.Ytmkcoobmbjoloaa.Pure
open Go Go.RowKit Go.Proofs.Ytmkcoobmbjoloaa.P Go.Proofs.YtmkcoobmbjoloaaW.PrintWords Go.Proofs.YtmkcoobmbjoloaaW.PrintLast Go.Proofs.Ytmkcoobmbjoloaa.Base

theorem BorderTells : juratlaw08_BorderTells.Pure := by
  intro s _
  refine Ev.rounds ?_
  by_cases h1 : (s.size : Int) > 100
  · refine Ev.congr (f := fun k => (juratlaw08_awake.f k).bind fun c => some c) (fun k => ?_) (Ev.bind awake08 (Ev.now true))
    unfold juratlaw08_BorderTells.f
    rw [if_pos h1]
  · refine Ev.congr (f := fun k => (border_Table.f k s).bind fun a => ((juratref08_Table.f k s).bind fun b => ((juratref01_Same.f k a b).bind fun c => (if c = true then ((border_All.f k s).bind fun d => ((juratref08_All.f k s).bind fun e => ((juratref01_Same.f k d e).bind fun f => (if f = true then ((border_Period.f k s).bind fun g => ((juratref08_Period.f k s).bind fun h => (if g = h then ((border_Whole.f k s).bind fun i => ((juratref08_Whole.f k s).bind fun j => (if (i == j) = true then ((juratlaw08_awake.f k).bind fun z => (some z)) else (some false)))) else (some false)))) else (some false))))) else (some false))))) (fun k => ?_) ?_
    · unfold juratlaw08_BorderTells.f
      rw [if_neg h1]
    · have hs : s.size ≤ 8796093022200 := by omega
      have s1 := same1 (tabS s) (tabS s) (by rw [tabS_length]; omega)
      have s2 := same1 (allS s) (allS s) (by have := down_length (Sf (LL s) (LL s)) (s.size - 1); unfold allS; omega)
      rw [decide_eq_true rfl] at s1 s2
      refine Ev.bind (table s hs) (Ev.bind (rtable s hs) (Ev.bind s1 ?_))
      refine Ev.congr (fun k => if_pos rfl) ?_
      refine Ev.bind (all s hs) (Ev.bind (rall s hs) (Ev.bind s2 ?_))
      refine Ev.congr (fun k => if_pos rfl) ?_
      refine Ev.bind (period s hs) (Ev.bind (rperiod s hs) ?_)
      refine Ev.congr (fun k => if_pos rfl) ?_
      refine Ev.bind (whole s hs) (Ev.bind (rwhole s hs) ?_)
      refine Ev.congr (fun k => if_pos (by simp)) ?_
      exact Ev.bind awake08 (Ev.now true)

end Go.Proofs.Ytmkcoobmbjoloaa.Pure
