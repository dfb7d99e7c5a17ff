/- Proved: for every two texts the law BorderMeets of layer 8 answers true (of at most 200 bytes each; beyond them it asks for its examples alone). No condition beyond the statement's own. -/
import Derived.Test.YtmkcoobmbjoloaaM08
import Derived.Test.YtmkcoobmbjoloaaPx4
namespace Go.Proofs.Ytmkcoobmbjoloaa.Pure
open Go Go.RowKit Go.Proofs.Ytmkcoobmbjoloaa.P Go.Proofs.YtmkcoobmbjoloaaW.PrintWords Go.Proofs.YtmkcoobmbjoloaaW.PrintLast Go.Proofs.Ytmkcoobmbjoloaa.Base

theorem BorderMeets : juratlaw08_BorderMeets.Pure := by
  intro s t _ _
  refine Ev.rounds ?_
  have big : Ev (fun k => juratlaw08_BorderMeets.j0 k s t true) true :=
    Ev.step (f := fun k => (juratlaw08_awake.f k).bind fun c => some c) (fun k => rfl) (Ev.bind awake08 (Ev.now true))
  by_cases h1 : (s.size : Int) > 200
  · refine Ev.congr (fun k => ?_) big
    unfold juratlaw08_BorderMeets.f
    rw [if_pos h1]
  by_cases h2 : (t.size : Int) > 200
  · refine Ev.congr (fun k => ?_) big
    unfold juratlaw08_BorderMeets.f
    rw [if_neg h1, decide_eq_true h2]
  refine Ev.congr (f := fun k => juratlaw08_BorderMeets.j0 k s t false) (fun k => by unfold juratlaw08_BorderMeets.f; rw [if_neg h1, decide_eq_false h2]) ?_
  refine Ev.step (f := fun k => (border_Reach.f k s t).bind fun a => ((juratref08_Reach.f k s t).bind fun b => (if a = b then ((border_Find.f k s t).bind fun x => ((juratref08_Find.f k s t).bind fun y => ((juratref01_Same.f k x y).bind fun c => (if c = true then ((juratlaw08_awake.f k).bind fun d => (some d)) else (some false))))) else (some false)))) (fun k => ?_) ?_
  · simp only [juratlaw08_BorderMeets.j0]
    rw [if_neg (by simp)]
  · refine Ev.bind (reach s t (by omega) (by omega)) (Ev.bind (rreach s t (by omega) (by omega)) ?_)
    refine Ev.congr (fun k => if_pos rfl) ?_
    have s1 := same1 (findS s t) (findS s t) (by have := findS_length s t; omega)
    rw [decide_eq_true rfl] at s1
    refine Ev.bind (find s t (by omega) (by omega)) (Ev.bind (rfind s t (by omega) (by omega)) (Ev.bind s1 ?_))
    refine Ev.congr (fun k => if_pos rfl) ?_
    exact Ev.bind awake08 (Ev.now true)

end Go.Proofs.Ytmkcoobmbjoloaa.Pure
