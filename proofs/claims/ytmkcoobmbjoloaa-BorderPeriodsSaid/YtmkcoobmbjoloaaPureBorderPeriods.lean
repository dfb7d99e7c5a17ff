/- Proved: for every two texts the law BorderPeriods of layer 8 answers true (of at most 100 bytes each; beyond them it asks for its examples alone). No condition beyond the statement's own. -/
import Derived.Test.YtmkcoobmbjoloaaM08
import Derived.Test.YtmkcoobmbjoloaaPx5
namespace Go.Proofs.Ytmkcoobmbjoloaa.Pure
open Go Go.RowKit Go.Proofs.Ytmkcoobmbjoloaa.P Go.Proofs.YtmkcoobmbjoloaaW.PrintWords Go.Proofs.YtmkcoobmbjoloaaW.PrintLast Go.Proofs.Ytmkcoobmbjoloaa.Base

theorem findS_sorted (s t : ByteArray) : (findS s t).Pairwise (· < ·) := by
  unfold findS
  split
  · exact List.Pairwise.nil
  · rw [List.pairwise_map]
    exact (List.pairwise_lt_range.filter _).imp fun h => by omega
theorem findS_mem (s t : ByteArray) (x : Int) (h : x ∈ findS s t) : ∃ a : Nat, x = a ∧ a + t.size ≤ s.size ∧ s.extract a (a + t.size) = t := by
  unfold findS at h
  split at h
  · cases h
  · obtain ⟨e, he, rfl⟩ := List.mem_map.1 h
    have h1 := List.mem_filter.1 he
    have h2 := List.mem_range.1 h1.1
    have h3 := (stS_iff s t e (by omega)).1 (of_decide_eq_true h1.2)
    exact ⟨e - t.size, by omega, by omega, by rw [show e - t.size + t.size = e from by omega]; exact h3.2⟩
theorem two_places (s t : ByteArray) (a p : Nat) (h1 : s.extract a (a + t.size) = t) (h2 : s.extract (a + p) (a + p + t.size) = t) (hl : a + p + t.size ≤ s.size) : Per (LL t) p := by
  have g : ∀ b, s.extract b (b + t.size) = t → b + t.size ≤ s.size → ∀ i, i < t.size → (LL t)[i]? = (LL s)[b + i]? := by
    intro b hb hbl i hi
    conv => lhs; rw [← hb]
    rw [LL_extract, List.getElem?_drop, List.getElem?_take_of_lt (by omega)]
  intro i hi
  rw [LL_length] at hi
  rw [g (a + p) h2 hl i (by omega), g a h1 (by omega) (i + p) hi]
  congr 1
  omega
theorem places (s t : ByteArray) (hs : s.size ≤ 100) (ht : t.size ≤ 100) (l : List Int) (hsort : l.Pairwise (· < ·)) (hmem : ∀ x ∈ l, ∃ a : Nat, x = a ∧ a + t.size ≤ s.size ∧ s.extract a (a + t.size) = t) (hlen : l.length ≤ 1000) :
    ∀ (d i : Nat), i + d = l.length + 1 → 1 ≤ i → Ev (fun k => juratlaw08_BorderPeriods.l1 k t l (i : Int)) true := by
  intro d
  induction d with
  | zero =>
    intro i hi h1
    refine Ev.step (f := fun k => (juratlaw08_awake.f k).bind fun c => some c) (fun k => ?_) (Ev.bind awake08 (Ev.now true))
    simp only [juratlaw08_BorderPeriods.l1]
    rw [if_neg (by omega)]
  | succ d ih =>
    intro i hi h1
    by_cases hlt : i < l.length
    · obtain ⟨b, hb, hb1, hb2⟩ := hmem (l.getD i 0) (getD_mem l i 0 hlt)
      obtain ⟨a, ha, ha1, ha2⟩ := hmem (l.getD (i - 1) 0) (getD_mem l (i - 1) 0 (by omega))
      have hab : a < b := by
        have := List.pairwise_iff_getElem.1 hsort (i - 1) i (by omega) hlt (by omega)
        rw [List.getD_eq_getElem?_getD, List.getElem?_eq_getElem hlt, Option.getD_some] at hb
        rw [List.getD_eq_getElem?_getD, List.getElem?_eq_getElem (by omega), Option.getD_some] at ha
        omega
      have hri : rd l (i : Int) = (b : Int) := hb
      have hri' : rd l ((i - 1 : Nat) : Int) = (a : Int) := ha
      have hp : wrap64 ((b : Int) - (a : Int)) = ((b - a : Nat) : Int) := by rw [wrap_id (by omega) (by omega)]; omega
      refine Ev.step (fun k => ?_) (ih (i + 1) (by omega) (by omega))
      simp only [juratlaw08_BorderPeriods.l1]
      rw [show wrap64 ((i : Int) - 1) = ((i - 1 : Nat) : Int) from by rw [wrap_id (by omega) (by omega)]; omega, hri, hri', hp]
      clear hp hri hri'
      rw [if_pos (by omega), if_pos (by omega), if_pos (by omega), if_pos (by omega), if_neg (by omega)]
      rw [show wrap64 ((i : Int) + 1) = ((i + 1 : Nat) : Int) from by rw [wrap_id (by omega) (by omega)]; rfl]
      by_cases hpt : b - a ≤ t.size
      · rw [show wrap64 ((t.size : Int) - ((b - a : Nat) : Int)) = ((t.size - (b - a) : Nat) : Int) from by rw [wrap_id (by omega) (by omega)]; omega]
        rw [if_pos (by omega), if_pos (by omega), if_pos (by omega), if_pos (by omega), Int.toNat_natCast, Int.toNat_natCast, if_pos]
        rw [toList_iff, LL_iff, LL_extract, LL_extract, take_all, List.drop_zero]
        have hper := two_places s t a (b - a) ha2 (by rw [show a + (b - a) = b from by omega]; exact hb2) (by omega)
        have := (per_iff (LL t) (b - a) (by rw [LL_length]; exact hpt)).2 hper
        rwa [LL_length] at this
      · rw [if_neg (by omega)]
    · refine Ev.step (f := fun k => (juratlaw08_awake.f k).bind fun c => some c) (fun k => ?_) (Ev.bind awake08 (Ev.now true))
      simp only [juratlaw08_BorderPeriods.l1]
      rw [if_neg (by omega)]

/-- What is asked of the borders, one by one. -/
theorem borders (s t : ByteArray) (hs : s.size ≤ 100) (ht : t.size ≤ 100) : ∀ (d i : Nat), i + d = (allS t).length → Ev (fun k => juratlaw08_BorderPeriods.l0 k s t (allS t) (i : Int)) true := by
  have hlen : (allS t).length ≤ 100 := by have := down_length (Sf (LL t) (LL t)) (t.size - 1); unfold allS; omega
  have hm : ∀ i, i < (allS t).length → ∃ m : Nat, (allS t).getD i 0 = m ∧ 0 < m ∧ m < t.size ∧ Sf (LL t) (LL t) m := fun i hi => by
    obtain ⟨m, h1, h2, h3, h4⟩ := down_mem _ _ _ (getD_mem (allS t) i 0 hi)
    exact ⟨m, h1, h2, by omega, h4⟩
  intro d
  induction d with
  | zero =>
    intro i hi
    refine Ev.step (f := fun k => (border_Find.f k s t).bind fun x => juratlaw08_BorderPeriods.l1 k t x 1) (fun k => ?_) (Ev.bind (find s t (by omega) (by omega)) ?_)
    · simp only [juratlaw08_BorderPeriods.l0]
      rw [if_neg (by omega)]
    · exact places s t hs ht _ (findS_sorted s t) (findS_mem s t) (by have := findS_length s t; omega) (findS s t).length 1 (by omega) (by omega)
  | succ d ih =>
    intro i hi
    obtain ⟨m, hm1, hm2, hm3, hm4⟩ := hm i (by omega)
    have hr : rd (allS t) (i : Int) = (m : Int) := hm1
    have hb : bordS t m = true := decide_eq_true ⟨hm2, hm3, hm4⟩
    refine Ev.step (fun k => ?_) (ih (i + 1) (by omega))
    simp only [juratlaw08_BorderPeriods.l0]
    rw [if_pos (by omega), if_pos (by omega), hr, rborder t (by omega) m, hb, Option.bind_some, if_pos rfl]
    rw [show wrap64 ((i : Int) + 1) = ((i + 1 : Nat) : Int) from by rw [wrap_id (by omega) (by omega)]; rfl]
    clear hr
    by_cases h0 : 0 < i
    · obtain ⟨q, hq1, hq2, hq3, hq4⟩ := hm 0 (by omega)
      have hmq : m < q := by
        have e := down_top (Sf (LL t) (LL t)) (t.size - 1)
        have hne : top (Sf (LL t) (LL t)) (t.size - 1) ≠ 0 := fun h => by
          rw [if_pos h] at e
          have : (allS t).length = 0 := by unfold allS; rw [e]; rfl
          omega
        rw [if_neg hne] at e
        unfold allS at hq1 hm1 hi
        rw [e] at hq1 hm1 hi
        rw [List.length_cons] at hi
        have hq' : (top (Sf (LL t) (LL t)) (t.size - 1) : Int) = q := hq1
        obtain ⟨j, rfl⟩ : ∃ j, i = j + 1 := ⟨i - 1, by omega⟩
        have hm' : (down (Sf (LL t) (LL t)) (top (Sf (LL t) (LL t)) (t.size - 1) - 1)).getD j 0 = m := hm1
        obtain ⟨y, g1, g2, g3, _⟩ := down_mem _ _ _ (getD_mem _ j 0 (by omega : j < (down (Sf (LL t) (LL t)) (top (Sf (LL t) (LL t)) (t.size - 1) - 1)).length))
        omega
      have hr0 : rd (allS t) 0 = (q : Int) := hq1
      have hz : (t.extract 0 q).size = q := by rw [ByteArray.size_extract]; omega
      have hb2 : bordS (t.extract 0 q) m = true := by
        refine decide_eq_true ⟨hm2, by omega, ?_⟩
        rw [LL_extract, List.drop_zero]
        have h3 := Sf_down hq4 hm4 (by omega)
        unfold Sf at h3 ⊢
        rw [List.take_take, Nat.min_eq_left (by omega)]
        exact ⟨h3.2.1, h3.2.1, h3.2.2⟩
      rw [if_pos (by omega), if_pos (by omega), hr0]
      clear hr0
      rw [if_pos (by omega), if_pos (by omega), Int.toNat_natCast, rborder _ (by omega) m, hb2, Option.bind_some, if_pos rfl]
    · rw [if_neg (by omega)]

theorem BorderPeriods : juratlaw08_BorderPeriods.Pure := by
  intro s t _ _
  refine Ev.rounds ?_
  have big : Ev (fun k => juratlaw08_BorderPeriods.j0 k s t true) true :=
    Ev.step (f := fun k => (juratlaw08_awake.f k).bind fun c => some c) (fun k => rfl) (Ev.bind awake08 (Ev.now true))
  by_cases h1 : (s.size : Int) > 100
  · refine Ev.congr (fun k => ?_) big
    unfold juratlaw08_BorderPeriods.f
    rw [if_pos h1]
  by_cases h2 : (t.size : Int) > 100
  · refine Ev.congr (fun k => ?_) big
    unfold juratlaw08_BorderPeriods.f
    rw [if_neg h1, decide_eq_true h2]
  refine Ev.congr (f := fun k => juratlaw08_BorderPeriods.j0 k s t false) (fun k => by unfold juratlaw08_BorderPeriods.f; rw [if_neg h1, decide_eq_false h2]) ?_
  refine Ev.step (f := fun k => (border_All.f k t).bind fun l => (if (l.length : Int) > 0 then (if 0 < (l.length : Int) then (juratlaw08_BorderPeriods.j1 k s t l (rd l 0)) else (none)) else (juratlaw08_BorderPeriods.j1 k s t l 0))) (fun k => ?_) (Ev.bind (all t (by omega)) ?_)
  · simp only [juratlaw08_BorderPeriods.j0]
    rw [if_neg (by simp)]
  have hle := fail_le (LL t) t.size
  have e := down_top (Sf (LL t) (LL t)) (t.size - 1)
  have ef : top (Sf (LL t) (LL t)) (t.size - 1) = fail (LL t) t.size := by unfold fail; rw [take_all]
  rw [ef] at e
  have go : Ev (fun k => juratlaw08_BorderPeriods.j1 k s t (allS t) (fail (LL t) t.size : Int)) true := by
    refine Ev.step (f := fun k => (border_Period.f k t).bind fun p => (if p = (wrap64 ((t.size : Int) - (fail (LL t) t.size : Int))) then (juratlaw08_BorderPeriods.l0 k s t (allS t) 0) else (some false))) (fun k => rfl) (Ev.bind (period t (by omega)) ?_)
    refine Ev.congr (fun k => if_pos ?_) (borders s t (by omega) (by omega) (allS t).length 0 (by omega))
    rw [wrap_id (by omega) (by omega)]
    unfold perS
    omega
  by_cases h0 : fail (LL t) t.size = 0
  · rw [if_pos h0] at e
    have ea : allS t = [] := e
    rw [h0] at go
    refine Ev.congr (fun k => ?_) go
    rw [ea]
    rfl
  · rw [if_neg h0] at e
    have ea : rd (allS t) 0 = (fail (LL t) t.size : Int) := by unfold allS; rw [e]; rfl
    have el : 0 < (allS t).length := by unfold allS; rw [e, List.length_cons]; omega
    refine Ev.congr (fun k => ?_) go
    rw [if_pos (by omega), if_pos (by omega), ea]

end Go.Proofs.Ytmkcoobmbjoloaa.Pure
