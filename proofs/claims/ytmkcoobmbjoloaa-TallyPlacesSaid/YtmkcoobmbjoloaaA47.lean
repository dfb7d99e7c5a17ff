/- Layer 47's examples; no condition. -/
import Derived.Test.YtmkcoobmbjoloaaN47
namespace Go.Proofs.Ytmkcoobmbjoloaa.Base
open Go Go.RowKit Go.Proofs.YtmkcoobmbjoloaaW.PrintWords Go.Proofs.YtmkcoobmbjoloaaW.PrintMore Go.Proofs.Ytmkcoobmbjoloaa.P
set_option linter.unusedVariables false

theorem awake47 : Ev (fun k => juratlaw47_awake.f k) true := by
  have e1 : tally_Of.f 2 [(⟨1, 0⟩ : HitD), (⟨3, 0⟩ : HitD), (⟨3, 1⟩ : HitD), (⟨4, 0⟩ : HitD)] = some ([(⟨3, 1, 4, 1⟩ : CntD), (⟨1, 3, 3, 0⟩ : CntD)], 0) := by
    unfold tally_Of.f
    rw [if_neg (by decide), if_neg (by decide), if_neg (fun h => h ⟨by decide, by decide⟩), if_neg (by decide), if_pos (by decide)]
    rfl
  have e2 : Ev (fun k => tally_Busy.f k [(⟨1, 0⟩ : HitD), (⟨3, 0⟩ : HitD), (⟨3, 1⟩ : HitD), (⟨4, 0⟩ : HitD)] 2) (3, 3) := Ev.of (tally_Busy.mono _ _) (k := 30) (by decide +kernel)
  have e3 := same47 [(⟨3, 1, 4, 1⟩ : CntD), (⟨1, 3, 3, 0⟩ : CntD)] [(⟨3, 1, 4, 1⟩ : RefD), (⟨1, 3, 3, 0⟩ : RefD)] (by simp) rfl (fun i hi => by
    match i, hi with
    | 0, _ => exact ⟨rfl, rfl, rfl, rfl⟩
    | 1, _ => exact ⟨rfl, rfl, rfl, rfl⟩)
  unfold juratlaw47_awake.f
  refine Ev.bind (Ev.now _) (Ev.bind (Ev.const fun _ => e1) (Ev.bind e2 ?_))
  refine Ev.congr (fun k => if_pos rfl) (Ev.bind e3 ?_)
  refine Ev.congr (fun k => if_pos rfl) (Ev.congr (fun k => if_pos rfl) ?_)
  exact Ev.now true
theorem wf64' {x : Int} (h : (Lit.int .i64 x).wf = true) : x ≤ 9223372036854775807 := (wf64 h).2

end Go.Proofs.Ytmkcoobmbjoloaa.Base
