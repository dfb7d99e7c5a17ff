/- Where a text stands in another one, as layer 8's reference finds it; no condition beyond the sizes that stand in each statement. -/
import Derived.Test.YtmkcoobmbjoloaaBase
import Derived.Test.YtmkcoobmbjoloaaPx28
namespace Go.Proofs.Ytmkcoobmbjoloaa.Base
open Go Go.RowKit Go.Proofs.YtmkcoobmbjoloaaW.PrintWords Go.Proofs.YtmkcoobmbjoloaaW.PrintMore Go.Proofs.Ytmkcoobmbjoloaa.P
set_option linter.unusedVariables false

/-- Does a text stand at a place? -/
def stands (s t : ByteArray) (p : Nat) : Prop := p + t.size ≤ s.size ∧ ((LL s).drop p).take t.size = LL t
instance (s t : ByteArray) (p : Nat) : Decidable (stands s t p) := inferInstanceAs (Decidable (_ ∧ _))
/-- The places from one on. -/
def occF (s t : ByteArray) : Nat → Nat → List Int
  | 0, _ => []
  | d + 1, i => if i + t.size ≤ s.size ∧ t.size ≠ 0 then (if stands s t i then (i : Int) :: occF s t d (i + 1) else occF s t d (i + 1)) else []
def occB (s t : ByteArray) : List Int := occF s t (s.size + 2) 0
theorem stands_extract {s t : ByteArray} {i : Nat} (h : i + t.size ≤ s.size) : (s.extract i (i + t.size)).toList = t.toList ↔ stands s t i := by
  rw [toList_iff, LL_iff, LL_extract, List.drop_take, Nat.add_sub_cancel_left]
  exact ⟨fun e => ⟨h, e⟩, fun e => e.2⟩
theorem occF_length (s t : ByteArray) : ∀ d i, (occF s t d i).length ≤ d
  | 0, _ => Nat.le_refl _
  | d + 1, i => by
    have := occF_length s t d (i + 1)
    simp only [occF]
    split
    · split
      · rw [List.length_cons]; omega
      · omega
    · simp
theorem occF_mem (s t : ByteArray) (q : Int) : ∀ d i, s.size < i + d → (q ∈ occF s t d i ↔ ∃ p : Nat, q = p ∧ i ≤ p ∧ t.size ≠ 0 ∧ stands s t p)
  | 0, i, h => by
    simp only [occF, List.not_mem_nil, false_iff]
    rintro ⟨p, _, h1, _, h2, _⟩
    omega
  | d + 1, i, h => by
    have ih := occF_mem s t q d (i + 1) (by omega)
    simp only [occF]
    by_cases h1 : i + t.size ≤ s.size ∧ t.size ≠ 0
    · rw [if_pos h1]
      by_cases h2 : stands s t i
      · rw [if_pos h2, List.mem_cons, ih]
        constructor
        · rintro (rfl | ⟨p, rfl, h3, h4, h5⟩)
          · exact ⟨i, rfl, Nat.le_refl _, h1.2, h2⟩
          · exact ⟨p, rfl, by omega, h4, h5⟩
        · rintro ⟨p, rfl, h3, h4, h5⟩
          by_cases h6 : p = i
          · exact .inl (by rw [h6])
          · exact .inr ⟨p, rfl, by omega, h4, h5⟩
      · rw [if_neg h2, ih]
        constructor
        · rintro ⟨p, rfl, h3, h4, h5⟩
          exact ⟨p, rfl, by omega, h4, h5⟩
        · rintro ⟨p, rfl, h3, h4, h5⟩
          refine ⟨p, rfl, ?_, h4, h5⟩
          by_cases h6 : p = i
          · subst h6; exact absurd h5 h2
          · omega
    · rw [if_neg h1]
      simp only [List.not_mem_nil, false_iff]
      rintro ⟨p, _, h3, h4, h5, _⟩
      exact h1 ⟨by omega, h4⟩
theorem occB_mem (s t : ByteArray) (q : Int) : q ∈ occB s t ↔ ∃ p : Nat, q = p ∧ t.size ≠ 0 ∧ stands s t p := by
  unfold occB
  rw [occF_mem s t q _ 0 (by omega)]
  exact ⟨fun ⟨p, h1, _, h2⟩ => ⟨p, h1, h2⟩, fun ⟨p, h1, h2⟩ => ⟨p, h1, Nat.zero_le _, h2⟩⟩
theorem occB_length (s t : ByteArray) : (occB s t).length ≤ s.size + 2 := occF_length s t _ _
theorem rocc_l0 (s t : ByteArray) (hs : s.size ≤ 1099511627776) (ht : t.size ≤ 1099511627776) : ∀ (d i : Nat) (out : List Int), i ≤ s.size + 1 → s.size + 1 < i + d → out.length ≤ i →
    Ev (fun k => juratref08_Find.l0 k s t out (i : Int)) (out ++ occF s t d i) := by
  intro d
  induction d with
  | zero => intro i out h0 h1 h2; omega
  | succ d ih =>
    intro i out h0 h1 h2
    have w1 : wrap64 ((i : Int) + (t.size : Int)) = ((i + t.size : Nat) : Int) := by rw [wrap_id (by omega) (by omega)]; rfl
    simp only [occF]
    by_cases h3 : i + t.size ≤ s.size ∧ t.size ≠ 0
    · rw [if_pos h3]
      have e : (t.toList != ([] : List UInt8)) = true := by rw [bne_iff_ne]; exact fun e => h3.2 (toList_nil.1 e)
      by_cases h4 : stands s t i
      · rw [if_pos h4]
        have := ih (i + 1) (out ++ [(i : Int)]) (by omega) (by omega) (by simp; omega)
        rw [List.append_assoc] at this
        refine Ev.step (f := fun k => juratref08_Find.j1 k s t out (i : Int) true) (fun k => ?_) (Ev.step (fun k => ?_) this)
        · simp only [juratref08_Find.l0, w1]
          rw [if_pos (by omega), e]
        · simp only [juratref08_Find.j1, w1]
          rw [if_pos trivial, if_pos (by omega), if_pos (by omega), if_pos (by omega), Int.toNat_natCast, Int.toNat_natCast, if_pos ((stands_extract h3.1).2 h4), if_pos (by omega), wrap_id (by omega) (by omega)]
          rfl
      · rw [if_neg h4]
        refine Ev.step (f := fun k => juratref08_Find.j1 k s t out (i : Int) true) (fun k => ?_) (Ev.step (fun k => ?_) (ih (i + 1) out (by omega) (by omega) (by omega)))
        · simp only [juratref08_Find.l0, w1]
          rw [if_pos (by omega), e]
        · simp only [juratref08_Find.j1, w1]
          rw [if_pos trivial, if_pos (by omega), if_pos (by omega), if_pos (by omega), Int.toNat_natCast, Int.toNat_natCast, if_neg (fun x => h4 ((stands_extract h3.1).1 x)), wrap_id (by omega) (by omega)]
          rfl
    · rw [if_neg h3, List.append_nil]
      refine Ev.step (f := fun k => juratref08_Find.j1 k s t out (i : Int) false) (fun k => ?_) (Ev.ret fun k => ?_)
      · simp only [juratref08_Find.l0, w1]
        by_cases h5 : i + t.size ≤ s.size
        · have e : (t.toList != ([] : List UInt8)) = false := by
            rw [bne_eq_false_iff_eq]
            exact toList_nil.2 (Classical.not_not.1 fun h => h3 ⟨h5, h⟩)
          rw [if_pos (by omega), e]
        · rw [if_neg (by omega)]
      · simp only [juratref08_Find.j1]
        rw [if_neg (by simp)]
theorem rocc_ev (s t : ByteArray) (hs : s.size ≤ 1099511627776) (ht : t.size ≤ 1099511627776) : Ev (fun k => juratref08_Find.f k s t) (occB s t) := by
  have h := rocc_l0 s t hs ht (s.size + 2) 0 [] (by omega) (by omega) (by simp)
  rw [List.nil_append] at h
  exact h

end Go.Proofs.Ytmkcoobmbjoloaa.Base
