/- All parts as one text (strings.Join), of parts of at most 2^47 bytes in all. -/
import Derived.Below
import Derived.Deep.Draws
import Derived.OwnWalk
import Derived.Tactics
import Derived.WalkKit
import Derived.KernelRfl
import Derived.RowKit3
import Derived.Deep.QuietTactic
import Derived.BigQuiet
import Derived.WideLaws
import Derived.Outline
import Derived.Test.YtibckaogfdffpaaShJoin
import Derived.Test.YtibckaogfdffpaaBase
import Derived.Test.YtibckaogfdffpaaPx0
namespace Go.Proofs.Ytibckaogfdffpaa.P
open Go Go.RowKit Go.Lib Go.Proofs.YtibckaogfdffpaaW.PrintWords Go.Proofs.Ytibckaogfdffpaa.Base
set_option linter.unusedVariables false

/-- Parts as one text. -/
def joinB (l : List ByteArray) : ByteArray := ⟨((l.map LL).flatten).toArray⟩
theorem join_empty : ∀ l : List (List UInt8), Lib.join l [] = l.flatten
  | [] => rfl
  | x :: l => by
    rw [Lib.join_cons]
    have : ∀ r : List (List UInt8), Lib.joinTail [] r = r.flatten := fun r => by unfold Lib.joinTail; simp
    rw [this]; rfl
def chunk_Join.f (l0 : List ByteArray) : Option ByteArray := if l0.length ≤ 140737488355328 ∧ (joinB l0).size ≤ 140737488355328 then some (joinB l0) else none
set_option maxHeartbeats 800000 in
theorem chunk_Join.calls (A0 : Option Addr) (c0 : Nat) (l0 : List ByteArray) (r : ByteArray) (w : World) (hr0 : Kd.C Kd.string w A0 l0.length l0) (hc0 : l0.length ≤ c0) (h : chunk_Join.f l0 = some r) :
    Calls Try.prog 18 #[.slice A0 l0.length c0] w fun e w' => e = .returned (.string r) ∧ Below w.heap.size w w' := by
  unfold chunk_Join.f at h
  by_cases hs : l0.length ≤ 140737488355328 ∧ (joinB l0).size ≤ 140737488355328
  rotate_left
  · rw [if_neg hs] at h; cases h
  rw [if_pos hs] at h
  obtain rfl := Option.some.inj h
  have key : ∀ W : World, W = w → Calls Try.prog 25 #[.slice A0 l0.length c0, .string ByteArray.empty] W fun e w' => e = .returned (.string (joinB l0)) ∧ Below W.heap.size W w' := by
    rintro W rfl
    rcases Nat.eq_zero_or_pos l0.length with h0 | h0
    · have : l0 = [] := List.length_eq_zero_iff.1 h0
      subst this
      refine (Try.strings_Join_none A0 c0 ByteArray.empty W).mono ?_
      rintro e w' ⟨rfl, rfl⟩
      exact ⟨rfl, Below.refl _ _⟩
    · obtain ⟨a, rfl, hc⟩ := (Kd.reads_of_C (enc := Value.string) (d := ByteArray.empty) (h1 := fun _ => rfl) hr0).2.2 h0
      have hsp : a.spot = none := by
        have h0 := hc 0 h0
        cases hs : a.spot with
        | none => rfl
        | some s =>
          simp only [World.cell?, Addr.add] at h0
          split at h0 <;> simp [hs] at h0
      obtain ⟨b, off, sp⟩ := a
      simp only at hsp
      subst hsp
      have hcc : ∀ j, j < l0.length → W.cell? ⟨b, off + j, none⟩ = some (.string (l0.getD j ByteArray.empty)) := fun j hj => by
        have := hc j hj
        rcases j with _ | j <;> simpa [Addr.add] using this
      have hj : (Lib.join (l0.map (·.data.toList)) (ByteArray.empty).data.toList) = LL (joinB l0) := by
        show Lib.join (l0.map LL) [] = _
        rw [join_empty]
        simp [joinB, LL]
      refine (Try.strings_Join b off c0 l0 ByteArray.empty W (fun j x hx => ?_) (World.block_lt_of_cell? W _ (hcc 0 h0)) hs.1 hc0 (by rw [hj, LL_length]; exact hs.2)).mono ?_
      · obtain ⟨hj, hx⟩ := List.getElem?_eq_some_iff.1 hx
        have := hcc j hj
        rw [List.getD_eq_getElem?_getD, List.getElem?_eq_getElem hj, Option.getD_some, hx] at this
        exact this
      · rintro e w' ⟨rfl, hb⟩
        refine ⟨?_, hb⟩
        rw [hj]
  have K := Aside0.mk key
  clear h hr0 hc0 hs key
  go_enter Try.func18, Try.ntmps18
  go_wp2_with (go_at_call 25; refine (K.out _ rfl).mono ?_; rintro e w1 ⟨rfl, hb⟩; have HB := Aside0.mk hb; clear hb)
  go_ret
  exact ⟨rfl, HB.out⟩

end Go.Proofs.Ytibckaogfdffpaa.P
