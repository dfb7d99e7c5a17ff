/- Proved: for all hits and every width and number of parts the law TallyPlaces of layer 47 answers true. No condition beyond the statement's own. -/
import Derived.Test.YtmkcoobmbjoloaaA47
import Derived.Test.YtmkcoobmbjoloaaC47
import Derived.Test.YtmkcoobmbjoloaaB47
import Derived.Test.YtmkcoobmbjoloaaPx10
namespace Go.Proofs.Ytmkcoobmbjoloaa.Pure
open Go Go.RowKit Go.Proofs.Ytmkcoobmbjoloaa.P Go.Proofs.YtmkcoobmbjoloaaW.PrintWords Go.Proofs.YtmkcoobmbjoloaaW.PrintLast Go.Proofs.Ytmkcoobmbjoloaa.Base
set_option linter.unusedVariables false

theorem TallyPlaces (l : List HitD) (width parts : Int) (hl : l.length ≤ maxLen) (hl2 : l.length * 16 ≤ 140737488351232) (hz : ∀ h ∈ l, (Lit.int .i64 h.f0).wf = true ∧ (Lit.int .i64 h.f1).wf = true) (hw : (Lit.int .i64 width).wf = true) (hp : (Lit.int .i64 parts).wf = true) : ∃ k, juratlaw47_TallyPlaces.f k l width parts = some true := by
  refine Ev.rounds ?_
  have aw : Ev (fun k => (juratlaw47_awake.f k).bind fun t => some t) true := Ev.bind awake47 (Ev.now true)
  have big : Ev (fun k => juratlaw47_TallyPlaces.j0 k l width true) true := by
    refine Ev.step (fun k => ?_) aw
    simp only [juratlaw47_TallyPlaces.j0]
    rw [if_pos trivial]
  unfold juratlaw47_TallyPlaces.f
  by_cases h1 : (l.length : Int) > 60
  · exact Ev.congr (fun k => if_pos h1) aw
  refine Ev.congr (fun k => if_neg h1) ?_
  have hz1 : ∀ h ∈ l, h.f0 ≤ 9223372036854775807 := fun h hh => wf64' (hz h hh).1
  refine Ev.bind (chart_ev l width parts (by omega) hz1) (Ev.bind (rchart_ev l width parts (by omega)) ?_)
  have hcl : (chartAll l width parts).length ≤ 400 := by
    unfold chartAll
    split
    · simp
    · rw [chartB_length]; omega
  have s1 := same1 (chartAll l width parts) (chartAll l width parts) (by omega)
  rw [decide_eq_true rfl] at s1
  refine Ev.bind s1 (Ev.congr (fun k => if_pos rfl) (Ev.bind (rrising_ev l (by omega)) ?_))
  cases hr : risB l with
  | false => exact Ev.congr (fun k => if_neg (by simp)) big
  | true =>
    refine Ev.congr (fun k => if_pos rfl) ?_
    have hpw := ris_pairwise hr
    have hnf : NoFall l := hpw.imp (fun {a b} h => by have := of_decide_eq_true h; omega)
    have main : (∀ h ∈ l, 1 ≤ h.f0) → Ev (fun k => juratlaw47_TallyPlaces.j0 k l width false) true := fun h0 => by
      have hz2 : ∀ h ∈ l, 1 ≤ h.f0 ∧ h.f0 ≤ 9223372036854775807 := fun h hh => ⟨h0 h hh, hz1 h hh⟩
      obtain ⟨r, hr, hr0, hr1⟩ := rbusy_ev (l := l) (by omega) hz2 width
      have hb : Ev (fun k => tally_Busy.f k l width) r := by
        by_cases hw1 : width < 1
        · rw [hr0 hw1]; exact busy_none l hw1
        · obtain ⟨q, hq, he⟩ := busy_ev hnf (by omega : 1 ≤ width) (by omega) hz2
          rw [spec_one (hr1 (by omega)) hq]
          exact he
      refine Ev.step (f := fun k => (tally_Busy.f k l width).bind fun bt415 => ((juratref47_Busy.f k l width).bind fun bt417 => (if bt415.1 = bt417.1 then (if bt415.2 = bt417.2 then ((juratlaw47_awake.f k).bind fun t419 => (some t419)) else (some false)) else (some false)))) (fun k => ?_) ?_
      · simp only [juratlaw47_TallyPlaces.j0]
        rw [if_neg (by simp)]
      · exact Ev.bind hb (Ev.bind hr (Ev.congr (fun k => if_pos rfl) (Ev.congr (fun k => if_pos rfl) aw)))
    by_cases h2 : (l.length : Int) > 0
    · refine Ev.congr (fun k => if_pos h2) (Ev.congr (fun k => if_pos h2) ?_)
      have e0 : rd_T64 l 0 = l.getD 0 hit0 := rfl
      by_cases h3 : (l.getD 0 hit0).f0 < 1
      · exact Ev.congr (fun k => by rw [e0, decide_eq_true h3]) big
      · refine Ev.congr (fun k => by rw [e0, decide_eq_false h3]) (main (fun h hh => ?_))
        obtain ⟨i, hi, rfl⟩ := List.mem_iff_getElem.1 hh
        have := endH_mono hnf (Nat.zero_le i) hi
        have e1 : endH l i = l[i].f0 := by unfold endH; rw [List.getD_eq_getElem?_getD, List.getElem?_eq_getElem hi]; rfl
        have e2 : endH l 0 = (l.getD 0 hit0).f0 := rfl
        omega
    · refine Ev.congr (fun k => if_neg h2) (main (fun h hh => ?_))
      have := List.length_pos_of_mem hh
      omega

end Go.Proofs.Ytmkcoobmbjoloaa.Pure
