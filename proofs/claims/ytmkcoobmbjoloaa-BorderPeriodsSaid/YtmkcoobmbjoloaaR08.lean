/- The reference's places of a text in another one are those of the border layer; no condition beyond the sizes that stand in each statement. -/
import Derived.Test.YtmkcoobmbjoloaaL08
import Derived.Test.YtmkcoobmbjoloaaPx28
namespace Go.Proofs.Ytmkcoobmbjoloaa.Base
open Go Go.RowKit Go.Proofs.YtmkcoobmbjoloaaW.PrintWords Go.Proofs.YtmkcoobmbjoloaaW.PrintMore Go.Proofs.Ytmkcoobmbjoloaa.P

theorem take_all (s : ByteArray) : (LL s).take s.size = LL s := List.take_of_length_le (by rw [LL_length]; exact Nat.le_refl _)
theorem stS_le_i (a b : ByteArray) (i : Nat) : stS a b i ≤ i := by
  have := (st_Sf (LL b) ((LL a).take i) b.size).2.1
  rw [List.length_take] at this
  unfold stS
  omega
/-- t stands in s up to the end e. -/
theorem stS_iff (s t : ByteArray) (e : Nat) (he : e ≤ s.size) : stS s t e = t.size ↔ t.size ≤ e ∧ s.extract (e - t.size) e = t := by
  have hl : ((LL s).take e).length = e := by rw [List.length_take, LL_length]; omega
  have key : Sf (LL t) ((LL s).take e) t.size ↔ t.size ≤ e ∧ s.extract (e - t.size) e = t := by
    unfold Sf
    rw [hl, take_all, LL_iff, LL_extract]
    constructor
    · rintro ⟨_, h2, h3⟩; exact ⟨h2, h3.symm⟩
    · rintro ⟨h2, h3⟩; exact ⟨by rw [LL_length]; exact Nat.le_refl _, h2, h3.symm⟩
  rw [← key]
  constructor
  · intro h
    have := st_Sf (LL t) ((LL s).take e) t.size
    unfold stS at h
    rwa [h] at this
  · intro h
    by_cases h0 : 0 < t.size
    · exact Nat.le_antisymm (stS_le _ _ _) (top_max _ _ _ h0 (Nat.le_refl _) h)
    · have := stS_le s t e
      omega
theorem findTo_none (s t : ByteArray) (i : Nat) (h : i ≤ t.size) (_h0 : 0 < t.size) : findTo s t i = [] := by
  unfold findTo
  rw [List.map_eq_nil_iff, List.filter_eq_nil_iff]
  intro a ha
  have h1 := List.mem_range.1 ha
  have h2 := stS_le_i s t a
  simp only [decide_eq_true_eq]
  omega
theorem rfind_step (s t : ByteArray) (hs : s.size ≤ 8796093022200) (ht : t.size ≤ 8796093022200) (h0 : 0 < t.size) (i : Nat) (hi : i + t.size ≤ s.size) (out : List Int) (ho : out.length < 17592186044416) (r : List Int)
    (hr : Ev (fun k => juratref08_Find.l0 k s t (out ++ (if stS s t (i + t.size) = t.size then [((i + t.size : Nat) : Int) - t.size] else [])) ((i + 1 : Nat) : Int)) r) :
    Ev (fun k => juratref08_Find.l0 k s t out (i : Int)) r := by
  have hne : (t.toList != ([] : List UInt8)) = true := by
    rw [bne_iff_ne]; intro e; have := toList_nil.1 e; omega
  have hw : wrap64 ((i : Int) + (t.size : Int)) = ((i + t.size : Nat) : Int) := by rw [wrap_id (by omega) (by omega)]; omega
  have hw2 : wrap64 ((i : Int) + 1) = ((i + 1 : Nat) : Int) := by rw [wrap_id (by omega) (by omega)]; rfl
  refine Ev.step (f := fun k => juratref08_Find.j1 k s t out (i : Int) true) (fun k => ?_) (Ev.step (fun k => ?_) hr)
  · simp only [juratref08_Find.l0, hw, hne]
    clear hw hw2
    rw [if_pos (by omega)]
  · simp only [juratref08_Find.j1, hw, hw2]
    clear hw hw2
    rw [if_pos trivial, if_pos (by omega), if_pos (by omega), if_pos (by omega), Int.toNat_natCast, Int.toNat_natCast]
    have hiff := stS_iff s t (i + t.size) hi
    rw [show i + t.size - t.size = i from by omega] at hiff
    by_cases e : s.extract i (i + t.size) = t
    · rw [if_pos (toList_iff.2 e), if_pos (by omega), if_pos (hiff.2 ⟨by omega, e⟩), show ((i + t.size : Nat) : Int) - t.size = i from by omega]
    · rw [if_neg (fun h => e (toList_iff.1 h)), if_neg (fun h => e (hiff.1 h).2), List.append_nil]
theorem rfind_l0 (s t : ByteArray) (hs : s.size ≤ 8796093022200) (ht : t.size ≤ 8796093022200) (h0 : 0 < t.size) : ∀ (d i : Nat), i + t.size + d = s.size + 1 →
    Ev (fun k => juratref08_Find.l0 k s t (findTo s t (i + t.size)) (i : Int)) (findTo s t (s.size + 1)) := by
  intro d
  induction d with
  | zero =>
    intro i hi
    rw [show i + t.size = s.size + 1 from by omega]
    refine Ev.step (f := fun k => juratref08_Find.j1 k s t (findTo s t (s.size + 1)) (i : Int) false) (fun k => ?_) (Ev.ret fun k => ?_)
    · simp only [juratref08_Find.l0]
      rw [show wrap64 ((i : Int) + (t.size : Int)) = (i : Int) + t.size from wrap_id (by omega) (by omega), if_neg (by omega)]
    · simp only [juratref08_Find.j1]
      rw [if_neg (by simp)]
  | succ d ih =>
    intro i hi
    refine rfind_step s t hs ht h0 i (by omega) _ (by have := findTo_length s t (i + t.size); omega) _ ?_
    have := ih (i + 1) (by omega)
    rwa [show i + 1 + t.size = (i + t.size) + 1 from by omega, findTo_next] at this
theorem rfind (s t : ByteArray) (hs : s.size ≤ 8796093022200) (ht : t.size ≤ 8796093022200) : Ev (fun k => juratref08_Find.f k s t) (findS s t) := by
  have hf : ∀ k, juratref08_Find.f k s t = juratref08_Find.l0 k s t [] 0 := fun k => rfl
  by_cases h0 : 0 < t.size
  · have e : findS s t = findTo s t (s.size + 1) := by unfold findS findTo; rw [if_neg (by omega)]
    rw [e]
    by_cases hle : t.size ≤ s.size
    · have := rfind_l0 s t hs ht h0 (s.size + 1 - t.size) 0 (by omega)
      rw [Nat.zero_add, findTo_none s t _ (Nat.le_refl _) h0] at this
      exact Ev.congr hf this
    · rw [findTo_none s t (s.size + 1) (by omega) h0]
      refine Ev.congr hf (Ev.step (f := fun k => juratref08_Find.j1 k s t [] 0 false) (fun k => ?_) (Ev.ret fun k => ?_))
      · simp only [juratref08_Find.l0]
        rw [show wrap64 ((0 : Int) + (t.size : Int)) = (t.size : Int) from by rw [wrap_id (by omega) (by omega)]; omega, if_neg (by omega)]
      · simp only [juratref08_Find.j1]
        rw [if_neg (by simp)]
  · have hz : t.size = 0 := by omega
    have e : findS s t = [] := by unfold findS; rw [if_pos hz]
    rw [e]
    have hne : (t.toList != ([] : List UInt8)) = false := by rw [bne_eq_false_iff_eq]; exact toList_nil.2 hz
    refine Ev.congr hf (Ev.step (f := fun k => juratref08_Find.j1 k s t [] 0 false) (fun k => ?_) (Ev.ret fun k => ?_))
    · simp only [juratref08_Find.l0, hne]
      split <;> rfl
    · simp only [juratref08_Find.j1]
      rw [if_neg (by simp)]
theorem findS_length (s t : ByteArray) : (findS s t).length ≤ s.size + 1 := by
  unfold findS
  split
  · simp
  · rw [List.length_map]
    exact Nat.le_trans (List.length_filter_le _ _) (by simp)
end Go.Proofs.Ytmkcoobmbjoloaa.Base
