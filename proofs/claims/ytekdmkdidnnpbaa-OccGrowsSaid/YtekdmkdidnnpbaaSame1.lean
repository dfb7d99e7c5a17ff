/- Whether two lists of numbers are the same; no condition beyond the sizes that stand in each statement. -/
import Derived.Test.YtekdmkdidnnpbaaBase
import Derived.Test.YtekdmkdidnnpbaaPx26
namespace Go.Proofs.Ytekdmkdidnnpbaa.Base
open Go Go.RowKit Go.Proofs.YtekdmkdidnnpbaaW.PrintWords Go.Proofs.YtekdmkdidnnpbaaW.PrintMore Go.Proofs.Ytekdmkdidnnpbaa.P

/-! the same numbers -/
theorem same1_l0 (a b : List Int) (he : a.length = b.length) (hm : a.length ≤ 9223372036854775807) : ∀ (d i : Nat), i + d = a.length →
    Ev (fun k => juratref01_Same.l0 k a b (i : Int)) (decide (a.drop i = b.drop i)) := by
  intro d
  induction d with
  | zero =>
    intro i hi
    refine Ev.ret fun k => ?_
    simp only [juratref01_Same.l0]
    rw [if_neg (by omega), List.drop_of_length_le (by omega), List.drop_of_length_le (by omega)]
    rfl
  | succ d ih =>
    intro i hi
    by_cases h : rd a (i : Int) = rd b (i : Int)
    · refine Ev.step (f := fun k => juratref01_Same.l0 k a b ((i + 1 : Nat) : Int)) (fun k => ?_) ?_
      · simp only [juratref01_Same.l0]
        rw [if_pos (by omega), if_pos (by omega), if_pos (by omega), if_pos h, wrap_id (by omega) (by omega)]
        rfl
      · have e : decide (a.drop i = b.drop i) = decide (a.drop (i + 1) = b.drop (i + 1)) := by
          rw [getD_drop a i 0 (by omega), getD_drop b i 0 (by omega)]
          have h' : a.getD i 0 = b.getD i 0 := h
          rw [h']
          simp
        rw [e]
        exact ih (i + 1) (by omega)
    · refine Ev.ret fun k => ?_
      simp only [juratref01_Same.l0]
      rw [if_pos (by omega), if_pos (by omega), if_pos (by omega), if_neg h]
      rw [getD_drop a i 0 (by omega), getD_drop b i 0 (by omega)]
      have h' : ¬ a.getD i 0 = b.getD i 0 := h
      rw [decide_eq_false (fun e => h' (List.cons.inj e).1)]
theorem same1 (a b : List Int) (hm : a.length ≤ 9223372036854775807) : Ev (fun k => juratref01_Same.f k a b) (decide (a = b)) := by
  by_cases he : a.length = b.length
  · have h := same1_l0 a b he hm a.length 0 (by omega)
    rw [List.drop_zero, List.drop_zero] at h
    refine Ev.congr (fun k => ?_) h
    unfold juratref01_Same.f
    rw [if_pos (by omega)]
    rfl
  · rw [decide_eq_false (fun e => he (by rw [e]))]
    refine Ev.const fun k => ?_
    unfold juratref01_Same.f
    rw [if_neg (by omega)]

end Go.Proofs.Ytekdmkdidnnpbaa.Base
