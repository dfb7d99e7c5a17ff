/- Layer 9's examples answer true. -/
import Derived.Test.YtmkcoobmbjoloaaN09
import Derived.Test.YtmkcoobmbjoloaaSame5
import Derived.Test.YtmkcoobmbjoloaaSame1
import Derived.Test.YtmkcoobmbjoloaaPx68
namespace Go.Proofs.Ytmkcoobmbjoloaa.Base
open Go Go.RowKit Go.Proofs.YtmkcoobmbjoloaaW.PrintWords Go.Proofs.YtmkcoobmbjoloaaW.PrintMore Go.Proofs.Ytmkcoobmbjoloaa.P

theorem awake09 : Ev (fun k => juratlaw09_awake.f k) true := by
  unfold juratlaw09_awake.f
  have c1 : cmp3 (LL ⟨#[97, 98]⟩) (LL ⟨#[97, 98, 99]⟩) = -1 := by decide
  have h1 := compare_ev (⟨#[97, 98]⟩ : ByteArray) (⟨#[97, 98, 99]⟩ : ByteArray) (by decide)
  rw [c1] at h1
  refine Ev.bind h1 ?_
  refine Ev.congr (fun k => if_pos rfl) ?_
  have s1 : affix_Sorted.f [(⟨#[98]⟩ : ByteArray), (⟨#[97, 98]⟩ : ByteArray), (⟨#[97]⟩ : ByteArray), (⟨#[97, 98]⟩ : ByteArray)] = some [(⟨#[97]⟩ : ByteArray), (⟨#[97, 98]⟩ : ByteArray), (⟨#[97, 98]⟩ : ByteArray), (⟨#[98]⟩ : ByteArray)] := by
    unfold affix_Sorted.f
    rw [if_pos ⟨by decide, by intro s hs; simp only [List.mem_cons, List.not_mem_nil, or_false] at hs; rcases hs with rfl | rfl | rfl | rfl <;> decide⟩]
    refine congrArg some (sortB_of ?_ ?_).symm
    · exact (show ([0, 1, 1, 2] : List Nat).Perm [2, 1, 0, 1] by decide).map (fun i => ([⟨#[97]⟩, ⟨#[97, 98]⟩, ⟨#[98]⟩] : List ByteArray).getD i ByteArray.empty)
    · decide
  refine Ev.bind (Ev.const fun _ => s1) ?_
  have e1 := same5 [(⟨#[97]⟩ : ByteArray), (⟨#[97, 98]⟩ : ByteArray), (⟨#[97, 98]⟩ : ByteArray), (⟨#[98]⟩ : ByteArray)] [(⟨#[97]⟩ : ByteArray), (⟨#[97, 98]⟩ : ByteArray), (⟨#[97, 98]⟩ : ByteArray), (⟨#[98]⟩ : ByteArray)] (by decide)
  rw [decide_eq_true rfl] at e1
  refine Ev.bind e1 ?_
  refine Ev.congr (fun k => if_pos rfl) ?_
  have t1 : affix_Twice.f [(⟨#[97]⟩ : ByteArray), (⟨#[98]⟩ : ByteArray), (⟨#[97]⟩ : ByteArray)] = some 2 := by
    unfold affix_Twice.f
    rw [if_pos ⟨by decide, by intro s hs; simp only [List.mem_cons, List.not_mem_nil, or_false] at hs; rcases hs with rfl | rfl | rfl <;> decide⟩]
    rfl
  refine Ev.bind (Ev.const fun _ => t1) ?_
  refine Ev.congr (fun k => if_pos rfl) ?_
  have h2 := shared_ev [(⟨#[97, 98]⟩ : ByteArray), (⟨#[97, 98, 99]⟩ : ByteArray), (⟨#[98]⟩ : ByteArray)] ⟨by decide, by intro s hs; simp only [List.mem_cons, List.not_mem_nil, or_false] at hs; rcases hs with rfl | rfl | rfl <;> decide⟩
  have c2 : sharedL [(⟨#[97, 98]⟩ : ByteArray), (⟨#[97, 98, 99]⟩ : ByteArray), (⟨#[98]⟩ : ByteArray)] = [0, 2, 0] := by rfl
  rw [c2] at h2
  refine Ev.bind h2 ?_
  have e2 := same1 [0, 2, 0] [0, 2, 0] (by decide)
  rw [decide_eq_true rfl] at e2
  exact Ev.bind e2 (Ev.now true)

end Go.Proofs.Ytmkcoobmbjoloaa.Base
