/- Whether two lists of texts are the same; no condition beyond the sizes that stand in each statement. -/
import Derived.Test.YtibckaogfdffpaaBase
import Derived.Test.YtibckaogfdffpaaPx23
namespace Go.Proofs.Ytibckaogfdffpaa.Base
open Go Go.RowKit Go.Proofs.YtibckaogfdffpaaW.PrintWords Go.Proofs.YtibckaogfdffpaaW.PrintMore Go.Proofs.Ytibckaogfdffpaa.P

/-! the same texts -/
theorem same5_l0 (a b : List ByteArray) (he : a.length = b.length) (hm : a.length ≤ 9223372036854775807) : ∀ (d i : Nat), i + d = a.length →
    Ev (fun k => juratref05_Same.l0 k a b (i : Int)) (decide (a.drop i = b.drop i)) := by
  intro d
  induction d with
  | zero =>
    intro i hi
    refine Ev.ret fun k => ?_
    simp only [juratref05_Same.l0]
    rw [if_neg (by omega), List.drop_of_length_le (by omega), List.drop_of_length_le (by omega)]
    rfl
  | succ d ih =>
    intro i hi
    by_cases h : (rdOf ByteArray.empty a i).toList = (rdOf ByteArray.empty b i).toList
    · refine Ev.step (f := fun k => juratref05_Same.l0 k a b ((i + 1 : Nat) : Int)) (fun k => ?_) ?_
      · simp only [juratref05_Same.l0]
        rw [if_pos (by omega), if_pos (by omega), if_pos (by omega), if_pos h, wrap_id (by omega) (by omega)]
        rfl
      · have e : decide (a.drop i = b.drop i) = decide (a.drop (i + 1) = b.drop (i + 1)) := by
          rw [getD_drop a i ByteArray.empty (by omega), getD_drop b i ByteArray.empty (by omega)]
          have h' := toList_iff.1 h
          unfold rdOf at h'
          rw [Int.toNat_natCast] at h'
          rw [h']
          simp
        rw [e]
        exact ih (i + 1) (by omega)
    · refine Ev.ret fun k => ?_
      simp only [juratref05_Same.l0]
      rw [if_pos (by omega), if_pos (by omega), if_pos (by omega), if_neg h]
      rw [getD_drop a i ByteArray.empty (by omega), getD_drop b i ByteArray.empty (by omega)]
      have h' : ¬ a.getD i ByteArray.empty = b.getD i ByteArray.empty := fun e => h (by unfold rdOf; rw [Int.toNat_natCast, e])
      rw [decide_eq_false (fun e => h' (List.cons.inj e).1)]
theorem same5 (a b : List ByteArray) (hm : a.length ≤ 9223372036854775807) : Ev (fun k => juratref05_Same.f k a b) (decide (a = b)) := by
  by_cases he : a.length = b.length
  · have h := same5_l0 a b he hm a.length 0 (by omega)
    rw [List.drop_zero, List.drop_zero] at h
    refine Ev.congr (fun k => ?_) h
    unfold juratref05_Same.f
    rw [if_pos (by omega)]
    rfl
  · have : decide (a = b) = false := decide_eq_false fun e => he (by rw [e])
    rw [this]
    refine Ev.const fun k => ?_
    unfold juratref05_Same.f
    rw [if_neg (by omega)]

end Go.Proofs.Ytibckaogfdffpaa.Base
