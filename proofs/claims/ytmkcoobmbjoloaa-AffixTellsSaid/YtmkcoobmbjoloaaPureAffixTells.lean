/- Proved: for every two texts the law AffixTells of layer 9 answers true. No condition beyond the statement's own. -/
import Derived.Test.YtmkcoobmbjoloaaA09
import Derived.Test.YtmkcoobmbjoloaaPx15
namespace Go.Proofs.Ytmkcoobmbjoloaa.Pure
open Go Go.RowKit Go.Proofs.Ytmkcoobmbjoloaa.P Go.Proofs.YtmkcoobmbjoloaaW.PrintWords Go.Proofs.YtmkcoobmbjoloaaW.PrintLast Go.Proofs.Ytmkcoobmbjoloaa.Base

theorem tells_big (a b : ByteArray) : Ev (fun k => juratlaw09_AffixTells.j0 k a b true) true := by
  refine Ev.step (f := fun k => (juratlaw09_awake.f k).bind fun t => some t) (fun k => ?_) (Ev.bind awake09 (Ev.now true))
  simp only [juratlaw09_AffixTells.j0]
  rw [if_pos trivial]
theorem AffixTells : juratlaw09_AffixTells.Pure := by
  intro a b _ _
  refine Ev.rounds ?_
  unfold juratlaw09_AffixTells.f
  by_cases h1 : (a.size : Int) > 200
  · exact Ev.congr (fun k => if_pos h1) (tells_big a b)
  · refine Ev.congr (fun k => if_neg h1) ?_
    by_cases h2 : (b.size : Int) > 200
    · rw [decide_eq_true h2]; exact tells_big a b
    · rw [decide_eq_false h2]
      have ha : a.size < 4611686018427387904 := by omega
      have hb : b.size < 4611686018427387904 := by omega
      refine Ev.step (f := fun k => (juratref09_Prefix.f k a b).bind fun t604 => ((juratref09_Suffix.f k a b).bind fun t605 => ((affix_Prefix.f k a b).bind fun t606 => (if t606 = t604 then ((affix_Suffix.f k a b).bind fun t607 => (if t607 = t605 then ((affix_Begins.f k a b).bind fun t608 => (if (t608 == (t604 == (b.size : Int))) = true then ((affix_Ends.f k a b).bind fun t609 => (if (t609 == (t605 == (b.size : Int))) = true then ((affix_Compare.f k a b).bind fun t610 => ((juratref09_Compare.f a b).bind fun t611 => (if t610 = t611 then ((juratlaw09_awake.f k).bind fun t612 => (some t612)) else (some false)))) else (some false))) else (some false))) else (some false))) else (some false))))) (fun k => ?_) ?_
      · simp only [juratlaw09_AffixTells.j0]
        rw [if_neg (by simp)]
      refine Ev.bind (rprefix_ev a b ha) (Ev.bind (rsuffix_ev a b ha hb) (Ev.bind (prefix_ev a b ha) ?_))
      refine Ev.congr (fun k => if_pos rfl) ?_
      refine Ev.bind (suffix_ev a b ha hb) ?_
      refine Ev.congr (fun k => if_pos rfl) ?_
      refine Ev.bind (begins_ev a b ha) ?_
      refine Ev.congr (fun k => if_pos (by simp)) ?_
      refine Ev.bind (ends_ev a b ha hb) ?_
      refine Ev.congr (fun k => if_pos (by simp)) ?_
      refine Ev.bind (compare_ev a b ha) (Ev.bind (Ev.const fun _ => rcompare a b) ?_)
      refine Ev.congr (fun k => if_pos rfl) ?_
      exact Ev.bind awake09 (Ev.now true)

end Go.Proofs.Ytmkcoobmbjoloaa.Pure
