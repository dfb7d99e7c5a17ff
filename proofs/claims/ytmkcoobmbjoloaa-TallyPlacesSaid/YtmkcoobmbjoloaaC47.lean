/- How many hits end in each part: the chart, of the layer and of its reference; no condition beyond the sizes that stand in each statement. -/
import Derived.Test.YtmkcoobmbjoloaaN47
import Derived.Test.YtmkcoobmbjoloaaSame1
import Derived.Test.YtmkcoobmbjoloaaPx51
import Derived.Test.YtmkcoobmbjoloaaPx52
namespace Go.Proofs.Ytmkcoobmbjoloaa.Base
open Go Go.RowKit Go.Proofs.YtmkcoobmbjoloaaW.PrintWords Go.Proofs.YtmkcoobmbjoloaaW.PrintMore Go.Proofs.Ytmkcoobmbjoloaa.P
set_option linter.unusedVariables false

/-- In which part a hit ends. -/
def partH (width : Int) (h : HitD) : Int := wrap64 (Int.tdiv (wrap64 (h.f0 - 1)) width)
def inPart (width : Int) (k : Nat) (h : HitD) : Bool := decide (h.f0 > 0 ∧ partH width h = (k : Int))
def chartB (width : Int) (parts : Nat) (l : List HitD) : List Int := (List.range parts).map fun k => ((l.countP (inPart width k) : Nat) : Int)
theorem chartB_length (width : Int) (parts : Nat) (l : List HitD) : (chartB width parts l).length = parts := by unfold chartB; simp
theorem chartB_at (width : Int) {parts : Nat} (l : List HitD) {k : Nat} (h : k < parts) : (chartB width parts l).getD k 0 = ((l.countP (inPart width k) : Nat) : Int) := by
  unfold chartB
  rw [List.getD_eq_getElem?_getD, List.getElem?_map, List.getElem?_range h]
  rfl
theorem part_nonneg {width : Int} {h : HitD} (hw : 1 ≤ width) (h0 : h.f0 > 0) (h1 : h.f0 ≤ 9223372036854775807) : partH width h = Int.tdiv (h.f0 - 1) width ∧ 0 ≤ partH width h := by
  have e : partH width h = Int.tdiv (h.f0 - 1) width := by
    unfold partH
    rw [wrap_id (x := h.f0 - 1) (by omega) (by omega)]
    have a := Int.tdiv_nonneg (show 0 ≤ h.f0 - 1 by omega) (show 0 ≤ width by omega)
    have b : Int.tdiv (h.f0 - 1) width ≤ h.f0 - 1 := by
      rw [Int.tdiv_eq_ediv_of_nonneg (by omega)]
      exact Int.ediv_le_self _ (by omega)
    rw [wrap_id (by omega) (by omega)]
  exact ⟨e, by rw [e]; exact Int.tdiv_nonneg (by omega) (by omega)⟩
theorem chart_l0 (l : List HitD) (width : Int) (hw : 1 ≤ width) (parts : Nat) (hp : parts ≤ 400) (hl : l.length ≤ 8796093022208) (hz : ∀ h ∈ l, h.f0 ≤ 9223372036854775807) : ∀ (d i : Nat), i + d = l.length →
    Ev (fun k => tally_Chart.l0 k width (parts : Int) (chartB width parts (l.take i)) l (l.length : Int) (i : Int)) (chartB width parts l) := by
  intro d
  induction d with
  | zero =>
    intro i hi
    refine Ev.ret fun k => ?_
    simp only [tally_Chart.l0]
    rw [if_neg (by omega), List.take_of_length_le (by omega)]
  | succ d ih =>
    intro i hi
    have e2 : rd_T64 l (i : Int) = l.getD i hit0 := rfl
    have hz1 := hz _ (getD_mem l i hit0 (by omega))
    have ht : l.take (i + 1) = l.take i ++ [l.getD i hit0] := by
      rw [List.take_succ_eq_append_getElem (by omega), List.getD_eq_getElem?_getD, List.getElem?_eq_getElem (by omega)]; rfl
    have ih' := ih (i + 1) (by omega)
    rw [ht] at ih'
    generalize l.getD i hit0 = x at e2 hz1 ih'
    have hdef : wrap64 (Int.tdiv (wrap64 (x.f0 - 1)) width) = partH width x := rfl
    have w1 : wrap64 ((i : Int) + 1) = ((i + 1 : Nat) : Int) := by rw [wrap_id (by omega) (by omega)]; rfl
    have hno : (∀ k, k < parts → inPart width k x = false) → chartB width parts (l.take i ++ [x]) = chartB width parts (l.take i) := fun h => by
      unfold chartB
      apply List.map_congr_left
      intro k hk
      rw [List.countP_append, List.countP_singleton, h k (List.mem_range.1 hk)]
      simp
    by_cases h0 : x.f0 > 0
    · obtain ⟨e, hpos⟩ := part_nonneg hw h0 hz1
      by_cases h1 : partH width x < (parts : Int)
      · obtain ⟨q, hq⟩ : ∃ q : Nat, partH width x = q := ⟨(partH width x).toNat, by omega⟩
        have hset : chartB width parts (l.take i ++ [x]) = (chartB width parts (l.take i)).set q ((chartB width parts (l.take i)).getD q 0 + 1) := by
          apply List.ext_getElem?
          intro k
          rw [List.getElem?_set]
          by_cases hk : k < parts
          · have hc : ∀ L, (chartB width parts L)[k]? = some ((L.countP (inPart width k) : Nat) : Int) := fun L => by
              unfold chartB; rw [List.getElem?_map, List.getElem?_range hk]; rfl
            rw [hc, hc, List.countP_append, List.countP_singleton]
            by_cases hqk : q = k
            · subst hqk
              have hin : inPart width q x = true := decide_eq_true ⟨h0, hq⟩
              have hlt : q < (chartB width parts (l.take i)).length := by rw [chartB_length]; exact hk
              rw [if_pos hin, if_pos rfl, if_pos hlt, chartB_at width _ hk]
              simp
            · rw [if_neg hqk, show inPart width k x = false from decide_eq_false (by rintro ⟨_, h⟩; omega)]
              simp
          · rw [List.getElem?_eq_none (by rw [chartB_length]; omega), List.getElem?_eq_none (by rw [chartB_length]; omega)]
            have : ¬ q = k := by omega
            rw [if_neg this]
        rw [hset] at ih'
        refine Ev.step (fun k => ?_) ih'
        have hcnt : (chartB width parts (l.take i)).getD q 0 ≤ (i : Int) := by
          rw [chartB_at width _ (by omega)]
          have := List.countP_le_length (p := inPart width q) (l := l.take i)
          rw [List.length_take] at this
          omega
        have hcnt0 : 0 ≤ (chartB width parts (l.take i)).getD q 0 := by rw [chartB_at width _ (by omega)]; omega
        have hrd : rd (chartB width parts (l.take i)) (q : Int) = (chartB width parts (l.take i)).getD q 0 := rfl
        simp only [tally_Chart.l0]
        rw [if_pos (by omega), if_pos (by omega), if_pos (by omega), if_neg (by omega), e2, if_pos h0, hdef, hq, if_pos (by omega), if_pos (by omega), if_pos (by rw [chartB_length]; omega), hrd, Int.toNat_natCast, wrap_id (x := _ + 1) (by omega) (by omega), w1]
      · rw [hno (fun k hk => decide_eq_false (by rintro ⟨_, h⟩; omega))] at ih'
        refine Ev.step (fun k => ?_) ih'
        simp only [tally_Chart.l0]
        rw [if_pos (by omega), if_pos (by omega), if_pos (by omega), if_neg (by omega), e2, if_pos h0, hdef, if_neg h1, w1]
    · rw [hno (fun k hk => decide_eq_false (by rintro ⟨h, _⟩; exact h0 h))] at ih'
      refine Ev.step (fun k => ?_) ih'
      simp only [tally_Chart.l0]
      rw [if_pos (by omega), if_pos (by omega), if_pos (by omega), if_neg (by omega), e2, if_neg h0, w1]
/-- The chart, none of what is no width or no number of parts. -/
def chartAll (l : List HitD) (width parts : Int) : List Int := if width < 1 ∨ parts < 0 ∨ parts > 400 then [] else chartB width parts.toNat l
theorem chart_ev (l : List HitD) (width parts : Int) (hl : l.length ≤ 8796093022208) (hz : ∀ h ∈ l, h.f0 ≤ 9223372036854775807) : Ev (fun k => tally_Chart.f k l width parts) (chartAll l width parts) := by
  have bad : Ev (fun k => tally_Chart.j0 k l width parts true) [] := Ev.ret fun k => by simp only [tally_Chart.j0]; rw [if_pos trivial]
  unfold tally_Chart.f chartAll
  by_cases h0 : width < 1
  · rw [if_pos (.inl h0)]
    exact Ev.congr (fun k => if_pos h0) bad
  refine Ev.congr (fun k => if_neg h0) ?_
  by_cases h1 : parts < 0
  · rw [if_pos (.inr (.inl h1))]
    exact Ev.congr (fun k => if_pos h1) bad
  refine Ev.congr (fun k => if_neg h1) ?_
  by_cases h2 : parts > 400
  · rw [if_pos (.inr (.inr h2)), decide_eq_true h2]
    exact bad
  rw [if_neg (by omega), decide_eq_false h2]
  obtain ⟨m, rfl⟩ : ∃ m : Nat, parts = m := ⟨parts.toNat, by omega⟩
  rw [Int.toNat_natCast]
  have e0 : chartB width m (l.take 0) = List.replicate m 0 := by
    unfold chartB
    rw [List.take_zero]
    refine List.eq_replicate_iff.2 ⟨by simp, fun b hb => ?_⟩
    obtain ⟨k, _, rfl⟩ := List.mem_map.1 hb
    rfl
  have := chart_l0 l width (by omega) m (by omega) hl hz l.length 0 (by omega)
  rw [e0] at this
  refine Ev.step (fun k => ?_) this
  simp only [tally_Chart.j0]
  rw [if_neg (by simp), if_pos (by omega), if_pos (by rw [Int.toNat_natCast]; omega), Int.toNat_natCast]
  rfl
theorem rchart_l1 (l : List HitD) (width : Int) (hw : 1 ≤ width) (parts : Int) (q : Nat) (out : List Int) (ho : out.length ≤ 400) (hl : l.length ≤ 8796093022208) (r : List Int) : ∀ (d i n : Nat), i + d = l.length → n ≤ i →
    Ev (fun k => juratref47_Chart.l0 k l width parts (out ++ [((n + (l.drop i).countP (inPart width q) : Nat) : Int)]) (wrap64 ((q : Int) + 1))) r → Ev (fun k => juratref47_Chart.l1 k l width parts out (q : Int) (n : Int) (i : Int)) r := by
  intro d
  induction d with
  | zero =>
    intro i n hi hn h
    rw [List.drop_of_length_le (by omega)] at h
    refine Ev.step (fun k => ?_) h
    simp only [juratref47_Chart.l1]
    rw [if_neg (by omega), if_pos (by omega)]
    rfl
  | succ d ih =>
    intro i n hi hn h
    have e2 : rd_T64 l (i : Int) = l.getD i hit0 := rfl
    rw [getD_drop l i hit0 (by omega), List.countP_cons] at h
    generalize l.getD i hit0 = x at e2 h
    have hdef : wrap64 (Int.tdiv (wrap64 (x.f0 - 1)) width) = partH width x := rfl
    have w1 : wrap64 ((i : Int) + 1) = ((i + 1 : Nat) : Int) := by rw [wrap_id (by omega) (by omega)]; rfl
    by_cases hp : inPart width q x = true
    · have hp' := of_decide_eq_true hp
      rw [if_pos hp, show n + ((l.drop (i + 1)).countP (inPart width q) + 1) = n + 1 + (l.drop (i + 1)).countP (inPart width q) by omega] at h
      refine Ev.step (fun k => ?_) (ih (i + 1) (n + 1) (by omega) (by omega) h)
      simp only [juratref47_Chart.l1]
      rw [if_pos (by omega), if_pos (by omega), e2, if_pos hp'.1, if_neg (by omega), hdef, if_pos hp'.2, wrap_id (x := (n : Int) + 1) (by omega) (by omega), w1]
      rfl
    · rw [if_neg hp, Nat.add_zero] at h
      refine Ev.step (fun k => ?_) (ih (i + 1) n (by omega) (by omega) h)
      simp only [juratref47_Chart.l1]
      rw [if_pos (by omega), if_pos (by omega), e2]
      by_cases h0 : x.f0 > 0
      · rw [if_pos h0, if_neg (by omega), hdef, if_neg (fun h2 => hp (decide_eq_true ⟨h0, h2⟩)), w1]
      · rw [if_neg h0, w1]
theorem rchart_l0 (l : List HitD) (width : Int) (hw : 1 ≤ width) (parts : Nat) (hp : parts ≤ 400) (hl : l.length ≤ 8796093022208) : ∀ (d q : Nat), q + d = parts →
    Ev (fun k => juratref47_Chart.l0 k l width (parts : Int) (chartB width q l) (q : Int)) (chartB width parts l) := by
  intro d
  induction d with
  | zero =>
    intro q hq
    obtain rfl : q = parts := by omega
    refine Ev.ret fun k => ?_
    simp only [juratref47_Chart.l0]
    rw [if_neg (by omega)]
  | succ d ih =>
    intro q hq
    have := ih (q + 1) (by omega)
    have e : chartB width (q + 1) l = chartB width q l ++ [((l.countP (inPart width q) : Nat) : Int)] := by unfold chartB; rw [List.range_succ, List.map_append]; rfl
    rw [e] at this
    refine Ev.step (f := fun k => juratref47_Chart.l1 k l width (parts : Int) (chartB width q l) (q : Int) ((0 : Nat) : Int) ((0 : Nat) : Int)) (fun k => ?_) (rchart_l1 l width hw (parts : Int) q _ (by rw [chartB_length]; omega) hl _ l.length 0 0 (by omega) (Nat.le_refl _) ?_)
    · simp only [juratref47_Chart.l0]
      rw [if_pos (by omega)]
      rfl
    · rw [List.drop_zero, Nat.zero_add, wrap_id (by omega) (by omega)]
      exact this
theorem rchart_ev (l : List HitD) (width parts : Int) (hl : l.length ≤ 8796093022208) : Ev (fun k => juratref47_Chart.f k l width parts) (chartAll l width parts) := by
  have bad : Ev (fun k => juratref47_Chart.j0 k l width parts [] true) [] := Ev.ret fun k => by simp only [juratref47_Chart.j0]; rw [if_pos trivial]
  unfold juratref47_Chart.f chartAll
  refine Ev.bind (Ev.now _) ?_
  by_cases h0 : width < 1
  · rw [if_pos (.inl h0)]
    exact Ev.congr (fun k => if_pos h0) bad
  refine Ev.congr (fun k => if_neg h0) ?_
  by_cases h1 : parts < 0
  · rw [if_pos (.inr (.inl h1))]
    exact Ev.congr (fun k => if_pos h1) bad
  refine Ev.congr (fun k => if_neg h1) ?_
  by_cases h2 : parts > 400
  · rw [if_pos (.inr (.inr h2)), decide_eq_true h2]
    exact bad
  rw [if_neg (by omega), decide_eq_false h2]
  obtain ⟨m, rfl⟩ : ∃ m : Nat, parts = m := ⟨parts.toNat, by omega⟩
  rw [Int.toNat_natCast]
  refine Ev.step (f := fun k => juratref47_Chart.l0 k l width (m : Int) (chartB width 0 l) ((0 : Nat) : Int)) (fun k => ?_) (rchart_l0 l width (by omega) m (by omega) hl m 0 (by omega))
  simp only [juratref47_Chart.j0]
  rw [if_neg (by simp)]
  rfl

end Go.Proofs.Ytmkcoobmbjoloaa.Base
