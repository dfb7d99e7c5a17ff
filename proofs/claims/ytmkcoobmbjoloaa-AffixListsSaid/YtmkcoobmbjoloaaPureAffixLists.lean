/- Proved: for all texts and every text the law AffixLists of layer 9 answers true. No condition beyond the statement's own. -/
import Derived.Test.YtmkcoobmbjoloaaA09
import Derived.Test.YtmkcoobmbjoloaaPx16
namespace Go.Proofs.Ytmkcoobmbjoloaa.Pure
open Go Go.RowKit Go.Proofs.Ytmkcoobmbjoloaa.P Go.Proofs.YtmkcoobmbjoloaaW.PrintWords Go.Proofs.YtmkcoobmbjoloaaW.PrintLast Go.Proofs.Ytmkcoobmbjoloaa.Base

theorem lists_big (l : List ByteArray) (s : ByteArray) : Ev (fun k => juratlaw09_AffixLists.j0 k l s true) true := by
  refine Ev.step (f := fun k => (juratlaw09_awake.f k).bind fun t => some t) (fun k => ?_) (Ev.bind awake09 (Ev.now true))
  simp only [juratlaw09_AffixLists.j0]
  rw [if_pos trivial]
theorem AffixLists (l : List ByteArray) (s : ByteArray) (hl : l.length * 16 ≤ 140737488351232) (_ : ∀ x ∈ l, x.size ≤ maxLen) (_ : s.size ≤ 140737488351232) : ∃ k, juratlaw09_AffixLists.f k l s = some true := by
  refine Ev.rounds ?_
  unfold juratlaw09_AffixLists.f
  refine Ev.bind (few_ev l 20 50 (by omega)) ?_
  by_cases h1 : (decide ((l.length : Int) ≤ 20) && fewB l 50) = true
  · refine Ev.congr (fun k => if_pos h1) ?_
    by_cases h2 : (s.size : Int) > 50
    · rw [decide_eq_true h2]; exact lists_big l s
    · rw [decide_eq_false h2]
      obtain ⟨h3, h4⟩ := Bool.and_eq_true_iff.1 h1
      have h3 := of_decide_eq_true h3
      have h4 := fewB_iff.1 h4
      have hs : sizedB l := ⟨by omega, fun x hx => by have := h4 x hx; omega⟩
      have hs2 := sortB_sized hs
      have f1 : affix_Sorted.f l = some (sortB l) := by unfold affix_Sorted.f; rw [if_pos hs]
      have f2 : affix_Place.f (sortB l) s = some ((aheadB s (sortB l) : Int), inB s (sortB l)) := by unfold affix_Place.f; rw [if_pos ⟨hs2, sortB_up l⟩]
      have f3 : affix_Twice.f l = some (twB [] l 0) := by unfold affix_Twice.f; rw [if_pos hs]
      have e1 := same5 (sortB l) (sortB l) (by rw [sortB_length]; omega)
      have e2 := same1 (sharedL l) (sharedL l) (by rw [sharedL_length]; omega)
      rw [decide_eq_true rfl] at e1 e2
      refine Ev.step (f := fun k => (affix_Sorted.f l).bind fun t630 => ((juratref09_Sorted.f k l).bind fun t633 => ((affix_Place.f t633 s).bind fun bt636 => ((juratref09_Place.f k t633 s).bind fun bt638 => ((juratref05_Same.f k t630 t633).bind fun t640 => (if t640 = true then (if bt636.1 = bt638.1 then (if (bt636.2 == bt638.2) = true then ((affix_Twice.f l).bind fun t641 => ((juratref09_Twice.f k l).bind fun t642 => (if t641 = t642 then ((affix_Shared.f k l).bind fun t643 => ((juratref09_Shared.f k l).bind fun t646 => ((juratref01_Same.f k t643 t646).bind fun t649 => (if t649 = true then ((juratlaw09_awake.f k).bind fun t650 => (some t650)) else (some false))))) else (some false)))) else (some false)) else (some false)) else (some false))))))) (fun k => ?_) ?_
      · simp only [juratlaw09_AffixLists.j0]
        rw [if_neg (by simp)]
      refine Ev.bind (Ev.const fun _ => f1) (Ev.bind (rsorted_ev l (by omega)) (Ev.bind (Ev.const fun _ => f2) (Ev.bind (rplace_ev (sortB l) s (by rw [sortB_length]; omega)) (Ev.bind e1 ?_))))
      refine Ev.congr (fun k => if_pos rfl) ?_
      refine Ev.congr (fun k => if_pos rfl) ?_
      refine Ev.congr (fun k => if_pos (by simp)) ?_
      refine Ev.bind (Ev.const fun _ => f3) (Ev.bind (rtwice_ev l (by omega)) ?_)
      refine Ev.congr (fun k => if_pos rfl) ?_
      refine Ev.bind (shared_ev l hs) (Ev.bind (rshared_ev l hs) (Ev.bind e2 ?_))
      refine Ev.congr (fun k => if_pos rfl) ?_
      exact Ev.bind awake09 (Ev.now true)
  · refine Ev.congr (fun k => if_neg h1) ?_
    exact lists_big l s

end Go.Proofs.Ytmkcoobmbjoloaa.Pure
