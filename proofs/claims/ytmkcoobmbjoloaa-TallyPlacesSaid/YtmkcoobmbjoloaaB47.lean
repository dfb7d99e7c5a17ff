/- Where hits are busiest, by the layer and by its reference, of hits whose ends do not fall; no condition beyond those in each statement. -/
import Derived.Test.YtmkcoobmbjoloaaN47
import Derived.Test.YtmkcoobmbjoloaaPx54
import Derived.Test.YtmkcoobmbjoloaaPx55
namespace Go.Proofs.Ytmkcoobmbjoloaa.Base
open Go Go.RowKit Go.Proofs.YtmkcoobmbjoloaaW.PrintWords Go.Proofs.YtmkcoobmbjoloaaW.PrintMore Go.Proofs.Ytmkcoobmbjoloaa.P
set_option linter.unusedVariables false
set_option linter.unusedSectionVars false

/-- The end of a hit. -/
abbrev endH (l : List HitD) (i : Nat) : Int := (l.getD i hit0).f0
/-- How many hits end ahead of an end. -/
def cBelow (l : List HitD) (x : Int) : Nat := l.countP fun h => decide (h.f0 < x)
abbrev NoFall (l : List HitD) : Prop := l.Pairwise fun a b => a.f0 ≤ b.f0
theorem cBelow_le (l : List HitD) (x : Int) : cBelow l x ≤ l.length := List.countP_le_length
theorem cBelow_mono (l : List HitD) {x y : Int} (h : x ≤ y) : cBelow l x ≤ cBelow l y := by
  unfold cBelow
  apply List.countP_mono_left
  intro a _ ha
  have := of_decide_eq_true ha
  exact decide_eq_true (by omega)
theorem below_iff : ∀ {l : List HitD}, NoFall l → ∀ (x : Int) (j : Nat), j < l.length → (endH l j < x ↔ j < cBelow l x)
  | [], _, x, j, h => by simp at h
  | a :: l, hn, x, j, h => by
    obtain ⟨h1, h2⟩ := List.pairwise_cons.1 hn
    by_cases ha : a.f0 < x
    · have e : cBelow (a :: l) x = cBelow l x + 1 := by unfold cBelow; rw [List.countP_cons_of_pos (by simpa using ha)]
      rw [e]
      cases j with
      | zero => simp only [endH, List.getD_cons_zero]; exact ⟨fun _ => by omega, fun _ => ha⟩
      | succ j =>
        have := below_iff h2 x j (by simpa using h)
        simp only [endH, List.getD_cons_succ] at this ⊢
        rw [this]
        omega
    · have e : cBelow (a :: l) x = 0 := by
        unfold cBelow
        rw [List.countP_eq_zero]
        intro b hb
        rcases List.mem_cons.1 hb with rfl | hb
        · simpa using ha
        · have := h1 b hb
          simp only [decide_eq_true_eq]
          omega
      rw [e]
      have hge : a.f0 ≤ endH (a :: l) j := by
        cases j with
        | zero => exact Int.le_refl _
        | succ j =>
          simp only [endH, List.getD_cons_succ]
          exact h1 _ (getD_mem l j hit0 (by simpa using h))
      constructor
      · intro h'; omega
      · intro h'; omega
theorem endH_mono {l : List HitD} (h : NoFall l) {i j : Nat} (hij : i ≤ j) (hj : j < l.length) : endH l i ≤ endH l j := by
  by_cases hc : endH l i ≤ endH l j
  · exact hc
  · have := (below_iff h (endH l i) j hj).1 (by omega)
    have h2 : ¬ i < cBelow l (endH l i) := fun h' => by have := (below_iff h (endH l i) i (by omega)).2 h'; omega
    omega
/-- How many hits end from one on, within a width. -/
def winB (l : List HitD) (width : Int) (i : Nat) : Nat := cBelow l (endH l i + width) - cBelow l (endH l i)
theorem within_count (l : List HitD) {a width : Int} (hw : 1 ≤ width) : l.countP (fun h => decide (h.f0 ≥ a ∧ h.f0 - a < width)) = cBelow l (a + width) - cBelow l a := by
  have : cBelow l (a + width) = cBelow l a + l.countP (fun h => decide (h.f0 ≥ a ∧ h.f0 - a < width)) := by
    unfold cBelow
    induction l with
    | nil => rfl
    | cons x l ih =>
      rw [List.countP_cons, List.countP_cons, List.countP_cons, ih]
      by_cases h1 : x.f0 < a
      · rw [if_pos (by simpa using (show x.f0 < a + width by omega)), if_pos (by simpa using h1), if_neg (by simp; omega)]
        omega
      · by_cases h2 : x.f0 < a + width
        · rw [if_pos (by simpa using h2), if_neg (by simpa using h1), if_pos (by simp; omega)]
          omega
        · rw [if_neg (by simpa using h2), if_neg (by simpa using h1), if_neg (by simp; omega)]
          omega
  omega
/-- What is asked of a busiest place. -/
def BusySpec (l : List HitD) (width : Int) (r : Int × Int) : Prop :=
  (l.length = 0 ∧ r = (0, 0)) ∨ ∃ a, a < l.length ∧ r = (endH l a, (winB l width a : Int)) ∧ (∀ j, j < l.length → winB l width j ≤ winB l width a) ∧ ∀ j, j < a → winB l width j < winB l width a
theorem spec_one {l : List HitD} {width : Int} {r q : Int × Int} (h : BusySpec l width r) (k : BusySpec l width q) : r = q := by
  rcases h with ⟨h0, rfl⟩ | ⟨a, ha, rfl, h1, h2⟩
  · rcases k with ⟨_, rfl⟩ | ⟨b, hb, _⟩
    · rfl
    · omega
  · rcases k with ⟨k0, _⟩ | ⟨b, hb, rfl, k1, k2⟩
    · omega
    · have : a = b := by
        rcases Nat.lt_trichotomy a b with h | h | h
        · have := k2 a h; have := h1 b hb; omega
        · exact h
        · have := h2 b h; have := k1 a ha; omega
      rw [this]
/-- The first place of a window that ends with a hit. -/
def loB (l : List HitD) (width : Int) (h : Nat) : Nat := cBelow l (endH l h - width + 1)
section
variable {l : List HitD} (hn : NoFall l) {width : Int} (hw : 1 ≤ width)
include hn hw
theorem lo_le {h : Nat} (hh : h < l.length) : loB l width h ≤ h := by
  unfold loB
  by_cases hc : cBelow l (endH l h - width + 1) ≤ h
  · exact hc
  · have := (below_iff hn (endH l h - width + 1) h hh).2 (by omega)
    omega
theorem lo_iff {h j : Nat} (hh : h < l.length) (hj : j < l.length) : endH l h - endH l j ≥ width ↔ j < loB l width h := by
  unfold loB
  rw [← below_iff hn _ j hj]
  omega
theorem lo_mono {p q : Nat} (hpq : p ≤ q) (hq : q < l.length) : loB l width p ≤ loB l width q := by
  have := endH_mono hn hpq hq
  exact cBelow_mono l (by omega)
/-- The window from a hit on is one that ends with a hit. -/
theorem win_end {i : Nat} (hi : i < l.length) : ∃ h, i ≤ h ∧ h < l.length ∧ loB l width h ≤ i ∧ winB l width i ≤ h - loB l width h + 1 := by
  have g1 : i < cBelow l (endH l i + width) := (below_iff hn _ i hi).1 (by omega)
  have g2 := cBelow_le l (endH l i + width)
  have g3 : cBelow l (endH l i) ≤ i := by
    by_cases hc : cBelow l (endH l i) ≤ i
    · exact hc
    · have := (below_iff hn (endH l i) i hi).2 (by omega); omega
  refine ⟨cBelow l (endH l i + width) - 1, by omega, by omega, ?_⟩
  have g4 := (below_iff hn (endH l i + width) (cBelow l (endH l i + width) - 1) (by omega)).2 (by omega)
  have g5 : loB l width (cBelow l (endH l i + width) - 1) ≤ cBelow l (endH l i) := cBelow_mono l (by omega)
  unfold winB
  exact ⟨by omega, by omega⟩
theorem win_lo {p : Nat} (hp : p < l.length) : p - loB l width p + 1 ≤ winB l width (loB l width p) := by
  have g1 := lo_le hn hw hp
  have g2 : ¬ (endH l p - endH l (loB l width p) ≥ width) := fun h => by have := (lo_iff hn hw hp (by omega)).1 h; omega
  have g3 := (below_iff hn (endH l (loB l width p) + width) p hp).1 (by omega)
  have g4 : cBelow l (endH l (loB l width p)) ≤ loB l width p := by
    by_cases hc : cBelow l (endH l (loB l width p)) ≤ loB l width p
    · exact hc
    · have := (below_iff hn (endH l (loB l width p)) (loB l width p) (by omega)).2 (by omega); omega
  unfold winB
  omega
/-- What is known while one goes through hits. -/
def BusyInv (l : List HitD) (width : Int) (h : Nat) (f n : Int) : Prop :=
  (h = 0 ∧ f = 0 ∧ n = 0) ∨ ∃ p, p < h ∧ n = ((p - loB l width p + 1 : Nat) : Int) ∧ f = endH l (loB l width p) ∧ (∀ q, q < h → q - loB l width q + 1 ≤ p - loB l width p + 1) ∧ ∀ q, q < p → q - loB l width q + 1 < p - loB l width p + 1
theorem inv_spec {f n : Int} (h : BusyInv l width l.length f n) : BusySpec l width (f, n) := by
  rcases h with ⟨h0, rfl, rfl⟩ | ⟨p, hp, rfl, rfl, h1, h2⟩
  · exact .inl ⟨h0, rfl⟩
  · have ha := lo_le hn hw hp
    have hge := win_lo hn hw hp
    have hall : ∀ j, j < l.length → winB l width j ≤ p - loB l width p + 1 := fun j hj => by
      obtain ⟨h, _, g2, _, g4⟩ := win_end hn hw hj
      have := h1 h g2
      omega
    have heq : winB l width (loB l width p) = p - loB l width p + 1 := by have := hall (loB l width p) (by omega); omega
    refine .inr ⟨loB l width p, by omega, by rw [heq], fun j hj => by rw [heq]; exact hall j hj, fun j hj => ?_⟩
    rw [heq]
    obtain ⟨h, g1, g2, g3, g4⟩ := win_end hn hw (show j < l.length by omega)
    by_cases hph : p ≤ h
    · have := lo_mono hn hw hph g2
      omega
    · have := h2 h (by omega)
      omega
theorem inv_next {h : Nat} {f n : Int} (hh : h < l.length) (k : BusyInv l width h f n) :
    BusyInv l width (h + 1) (if ((h - loB l width h + 1 : Nat) : Int) > n then endH l (loB l width h) else f) (if ((h - loB l width h + 1 : Nat) : Int) > n then ((h - loB l width h + 1 : Nat) : Int) else n) := by
  by_cases hc : ((h - loB l width h + 1 : Nat) : Int) > n
  · rw [if_pos hc, if_pos hc]
    refine .inr ⟨h, by omega, rfl, rfl, fun q hq => ?_, fun q hq => ?_⟩
    · by_cases hqh : q = h
      · rw [hqh]; exact Nat.le_refl _
      · rcases k with ⟨h0, _⟩ | ⟨p, _, rfl, _, k1, _⟩
        · omega
        · have := k1 q (by omega); omega
    · rcases k with ⟨h0, _⟩ | ⟨p, _, rfl, _, k1, _⟩
      · omega
      · have := k1 q hq; omega
  · rw [if_neg hc, if_neg hc]
    rcases k with ⟨rfl, rfl, rfl⟩ | ⟨p, hp, rfl, rfl, k1, k2⟩
    · omega
    · refine .inr ⟨p, by omega, rfl, rfl, fun q hq => ?_, k2⟩
      by_cases hqh : q = h
      · rw [hqh]; omega
      · exact k1 q (by omega)
theorem busy_l1 (hl : l.length ≤ 8796093022208) (hz : ∀ h ∈ l, 1 ≤ h.f0 ∧ h.f0 ≤ 9223372036854775807) (f n : Int) (hn0 : n ≤ 8796093022209) (h : Nat) (hh : h < l.length) (r : Int × Int)
    (next : Ev (fun k => tally_Busy.l0 k l width (if ((h - loB l width h + 1 : Nat) : Int) > n then endH l (loB l width h) else f) (if ((h - loB l width h + 1 : Nat) : Int) > n then ((h - loB l width h + 1 : Nat) : Int) else n) (loB l width h : Int) (l.length : Int) ((h + 1 : Nat) : Int)) r) : ∀ (d low : Nat), low + d = loB l width h →
    Ev (fun k => tally_Busy.l1 k l width f n (low : Int) (h : Int) (l.length : Int) (h : Int)) r := by
  have hlo := lo_le hn hw hh
  intro d
  induction d with
  | zero =>
    intro low hd
    obtain rfl : low = loB l width h := by omega
    have e1 : rd_T64 l (h : Int) = l.getD h hit0 := rfl
    have e2 : rd_T64 l ((loB l width h : Nat) : Int) = l.getD (loB l width h) hit0 := rfl
    have z1 := hz _ (getD_mem l h hit0 hh)
    have z2 := hz _ (getD_mem l (loB l width h) hit0 (by omega))
    have hno : ¬ ((l.getD h hit0).f0 - (l.getD (loB l width h) hit0).f0 ≥ width) := fun g => by have := (lo_iff hn hw hh (by omega)).1 g; omega
    have w1 : wrap64 (wrap64 ((h : Int) - (loB l width h : Int)) + 1) = ((h - loB l width h + 1 : Nat) : Int) := by rw [wrap_id (x := (h : Int) - _) (by omega) (by omega), wrap_id (by omega) (by omega)]; omega
    have w2 : wrap64 ((h : Int) + 1) = ((h + 1 : Nat) : Int) := by rw [wrap_id (by omega) (by omega)]; rfl
    refine Ev.step (fun k => ?_) next
    simp only [tally_Busy.l1]
    rw [if_pos (by omega), if_pos (by omega), if_pos (by omega), if_pos (by omega), e1, e2, wrap_id (x := (l.getD h hit0).f0 - _) (by omega) (by omega), if_neg hno, w1, w2]
    by_cases hc : ((h - loB l width h + 1 : Nat) : Int) > n
    · rw [if_pos hc, if_pos hc, if_pos hc]
    · rw [if_neg hc, if_neg hc, if_neg hc]
  | succ d ih =>
    intro low hd
    have e1 : rd_T64 l (h : Int) = l.getD h hit0 := rfl
    have e2 : rd_T64 l (low : Int) = l.getD low hit0 := rfl
    have z1 := hz _ (getD_mem l h hit0 hh)
    have z2 := hz _ (getD_mem l low hit0 (by omega))
    have hyes : (l.getD h hit0).f0 - (l.getD low hit0).f0 ≥ width := (lo_iff hn hw hh (by omega)).2 (by omega)
    refine Ev.step (fun k => ?_) (ih (low + 1) (by omega))
    simp only [tally_Busy.l1]
    rw [if_pos (by omega), if_pos (by omega), if_pos (by omega), if_pos (by omega), e1, e2, wrap_id (x := (l.getD h hit0).f0 - _) (by omega) (by omega), if_pos hyes, wrap_id (x := (low : Int) + 1) (by omega) (by omega)]
    rfl
theorem busy_l0 (hl : l.length ≤ 8796093022208) (hz : ∀ h ∈ l, 1 ≤ h.f0 ∧ h.f0 ≤ 9223372036854775807) : ∀ (d h low : Nat) (f n : Int), h + d = l.length → (h < l.length → low ≤ loB l width h) → BusyInv l width h f n → n ≤ 8796093022209 →
    ∃ r, BusySpec l width r ∧ Ev (fun k => tally_Busy.l0 k l width f n (low : Int) (l.length : Int) (h : Int)) r := by
  intro d
  induction d with
  | zero =>
    intro h low f n hd _ hi _
    obtain rfl : h = l.length := by omega
    refine ⟨(f, n), inv_spec hn hw hi, Ev.ret fun k => ?_⟩
    simp only [tally_Busy.l0]
    rw [if_neg (by omega)]
  | succ d ih =>
    intro h low f n hd hlow hi hn0
    have hh : h < l.length := by omega
    have hlo := hlow hh
    have hle := lo_le hn hw hh
    obtain ⟨r, hr, he⟩ := ih (h + 1) (loB l width h) _ _ (by omega) (fun h' => lo_mono hn hw (Nat.le_succ h) h') (inv_next hn hw hh hi) (by split <;> omega)
    refine ⟨r, hr, Ev.step (f := fun k => tally_Busy.l1 k l width f n (low : Int) (h : Int) (l.length : Int) (h : Int)) (fun k => ?_) (busy_l1 hn hw hl hz f n hn0 h hh r he (loB l width h - low) low (by omega))⟩
    simp only [tally_Busy.l0]
    rw [if_pos (by omega)]
theorem busy_ev (hl : l.length ≤ 8796093022208) (hz : ∀ h ∈ l, 1 ≤ h.f0 ∧ h.f0 ≤ 9223372036854775807) : ∃ r, BusySpec l width r ∧ Ev (fun k => tally_Busy.f k l width) r := by
  obtain ⟨r, hr, he⟩ := busy_l0 hn hw hl hz l.length 0 0 0 0 (by omega) (fun _ => Nat.zero_le _) (.inl ⟨rfl, rfl, rfl⟩) (by decide)
  refine ⟨r, hr, Ev.congr (fun k => ?_) he⟩
  unfold tally_Busy.f
  rw [if_neg (by omega)]
  rfl
end
theorem busy_none (l : List HitD) {width : Int} (hw : width < 1) : Ev (fun k => tally_Busy.f k l width) (0, 0) := Ev.const fun k => by unfold tally_Busy.f; rw [if_pos hw]

theorem within_l0 (l : List HitD) (hl : l.length ≤ 8796093022208) (hz : ∀ h ∈ l, 1 ≤ h.f0 ∧ h.f0 ≤ 9223372036854775807) (a width : Int) (ha : 1 ≤ a ∧ a ≤ 9223372036854775807) : ∀ (d i n : Nat), i + d = l.length → n ≤ i →
    Ev (fun k => juratref47_Within.l0 k l a width (n : Int) (i : Int)) ((n + (l.drop i).countP (fun h => decide (h.f0 ≥ a ∧ h.f0 - a < width)) : Nat) : Int) := by
  intro d
  induction d with
  | zero =>
    intro i n hi hn
    rw [List.drop_of_length_le (by omega)]
    refine Ev.ret fun k => ?_
    simp only [juratref47_Within.l0]
    rw [if_neg (by omega)]
    rfl
  | succ d ih =>
    intro i n hi hn
    have e2 : rd_T64 l (i : Int) = l.getD i hit0 := rfl
    have hz1 := hz _ (getD_mem l i hit0 (by omega))
    have w1 : wrap64 ((i : Int) + 1) = ((i + 1 : Nat) : Int) := by rw [wrap_id (by omega) (by omega)]; rfl
    rw [getD_drop l i hit0 (by omega), List.countP_cons]
    generalize l.getD i hit0 = x at e2 hz1
    by_cases h1 : x.f0 ≥ a ∧ x.f0 - a < width
    · rw [if_pos (decide_eq_true h1), show n + ((l.drop (i + 1)).countP (fun h => decide (h.f0 ≥ a ∧ h.f0 - a < width)) + 1) = n + 1 + (l.drop (i + 1)).countP (fun h => decide (h.f0 ≥ a ∧ h.f0 - a < width)) by omega]
      refine Ev.step (fun k => ?_) (ih (i + 1) (n + 1) (by omega) (by omega))
      simp only [juratref47_Within.l0]
      rw [if_pos (by omega), if_pos (by omega), e2, if_pos h1.1, wrap_id (x := x.f0 - a) (by omega) (by omega), if_pos h1.2, wrap_id (x := (n : Int) + 1) (by omega) (by omega), w1]
      rfl
    · rw [if_neg (by simpa using h1), Nat.add_zero]
      refine Ev.step (fun k => ?_) (ih (i + 1) n (by omega) (by omega))
      simp only [juratref47_Within.l0]
      rw [if_pos (by omega), if_pos (by omega), e2]
      by_cases h2 : x.f0 ≥ a
      · rw [if_pos h2, wrap_id (x := x.f0 - a) (by omega) (by omega), if_neg (fun h3 => h1 ⟨h2, h3⟩), w1]
      · rw [if_neg h2, w1]
/-- How many hits end from an end on, within a width. -/
def winR (l : List HitD) (width : Int) (i : Nat) : Nat := l.countP (fun h => decide (h.f0 ≥ endH l i ∧ h.f0 - endH l i < width))
theorem rbusy_l0 (l : List HitD) (hl : l.length ≤ 8796093022208) (hz : ∀ h ∈ l, 1 ≤ h.f0 ∧ h.f0 ≤ 9223372036854775807) (width : Int) : ∀ (d i : Nat) (f n : Int), i + d = l.length → n ≤ 8796093022209 →
    ((n = 0 ∧ f = 0 ∧ ∀ j, j < i → winR l width j = 0) ∨ ∃ a, a < i ∧ 0 < winR l width a ∧ f = endH l a ∧ n = (winR l width a : Int) ∧ (∀ j, j < i → winR l width j ≤ winR l width a) ∧ ∀ j, j < a → winR l width j < winR l width a) →
    ∃ r, Ev (fun k => juratref47_Busy.l0 k l width f n (i : Int)) r ∧ ((r = (0, 0) ∧ ∀ j, j < l.length → winR l width j = 0) ∨ ∃ a, a < l.length ∧ 0 < winR l width a ∧ r = (endH l a, (winR l width a : Int)) ∧ (∀ j, j < l.length → winR l width j ≤ winR l width a) ∧ ∀ j, j < a → winR l width j < winR l width a) := by
  intro d
  induction d with
  | zero =>
    intro i f n hi _ h
    obtain rfl : i = l.length := by omega
    refine ⟨(f, n), Ev.ret fun k => by simp only [juratref47_Busy.l0]; rw [if_neg (by omega)], ?_⟩
    rcases h with ⟨rfl, rfl, h⟩ | ⟨a, h1, h0, rfl, rfl, h2, h3⟩
    · exact .inl ⟨rfl, h⟩
    · exact .inr ⟨a, h1, h0, rfl, h2, h3⟩
  | succ d ih =>
    intro i f n hi hn h
    have e2 : rd_T64 l (i : Int) = l.getD i hit0 := rfl
    have hw0 := within_l0 l hl hz (endH l i) width (hz _ (getD_mem l i hit0 (by omega))) l.length 0 0 (by omega) (Nat.le_refl _)
    rw [List.drop_zero, Nat.zero_add] at hw0
    have hwe : Ev (fun k => juratref47_Within.f k l (endH l i) width) (winR l width i : Int) := hw0
    have hwl : winR l width i ≤ l.length := List.countP_le_length
    have w1 : wrap64 ((i : Int) + 1) = ((i + 1 : Nat) : Int) := by rw [wrap_id (by omega) (by omega)]; rfl
    by_cases hc : (winR l width i : Int) > n
    · obtain ⟨r, hr, hs⟩ := ih (i + 1) (endH l i) (winR l width i : Int) (by omega) (by omega) (.inr ⟨i, by omega, by
        rcases h with ⟨rfl, _, _⟩ | ⟨a, _, _, _, rfl, _⟩ <;> omega, rfl, rfl, fun j hj => by
        by_cases hji : j = i
        · rw [hji]; exact Nat.le_refl _
        · rcases h with ⟨rfl, _, h⟩ | ⟨a, _, _, _, rfl, h2, _⟩
          · have := h j (by omega); omega
          · have := h2 j (by omega); omega, fun j hj => by
        rcases h with ⟨rfl, _, h⟩ | ⟨a, _, _, _, rfl, h2, _⟩
        · have := h j hj; omega
        · have := h2 j hj; omega⟩)
      refine ⟨r, Ev.step (f := fun k => (juratref47_Within.f k l (endH l i) width).bind fun t402 => (if t402 > n then (juratref47_Busy.l0 k l width (endH l i) t402 ((i + 1 : Nat) : Int)) else (juratref47_Busy.l0 k l width f n ((i + 1 : Nat) : Int)))) (fun k => ?_) (Ev.bind hwe (Ev.congr (fun k => if_pos hc) hr)), hs⟩
      simp only [juratref47_Busy.l0]
      rw [if_pos (by omega), if_pos (by omega), e2, w1]
    · obtain ⟨r, hr, hs⟩ := ih (i + 1) f n (by omega) hn (by
        rcases h with ⟨rfl, rfl, h⟩ | ⟨a, h1, h0, rfl, rfl, h2, h3⟩
        · refine .inl ⟨rfl, rfl, fun j hj => ?_⟩
          by_cases hji : j = i
          · rw [hji]; omega
          · exact h j (by omega)
        · refine .inr ⟨a, by omega, h0, rfl, rfl, fun j hj => ?_, h3⟩
          by_cases hji : j = i
          · rw [hji]; omega
          · exact h2 j (by omega))
      refine ⟨r, Ev.step (f := fun k => (juratref47_Within.f k l (endH l i) width).bind fun t402 => (if t402 > n then (juratref47_Busy.l0 k l width (endH l i) t402 ((i + 1 : Nat) : Int)) else (juratref47_Busy.l0 k l width f n ((i + 1 : Nat) : Int)))) (fun k => ?_) (Ev.bind hwe (Ev.congr (fun k => if_neg hc) hr)), hs⟩
      simp only [juratref47_Busy.l0]
      rw [if_pos (by omega), if_pos (by omega), e2, w1]
/-- The reference's busiest place is what is asked, or nothing where there is no width. -/
theorem rbusy_ev {l : List HitD} (hl : l.length ≤ 8796093022208) (hz : ∀ h ∈ l, 1 ≤ h.f0 ∧ h.f0 ≤ 9223372036854775807) (width : Int) : ∃ r, Ev (fun k => juratref47_Busy.f k l width) r ∧ (width < 1 → r = (0, 0)) ∧ (1 ≤ width → BusySpec l width r) := by
  obtain ⟨r, hr, hs⟩ := rbusy_l0 l hl hz width l.length 0 0 0 (by omega) (by decide) (.inl ⟨rfl, rfl, fun j hj => by omega⟩)
  refine ⟨r, hr, fun hw => ?_, fun hw => ?_⟩
  · have hno : ∀ a, winR l width a = 0 := fun a => by
      unfold winR
      rw [List.countP_eq_zero]
      intro b _ hb
      have := of_decide_eq_true hb
      omega
    rcases hs with ⟨rfl, _⟩ | ⟨a, ha, h0, rfl, _, _⟩
    · rfl
    · have := hno a; omega
  · have hwin : ∀ a, winR l width a = winB l width a := fun a => within_count l hw
    rcases hs with ⟨rfl, h0⟩ | ⟨a, ha, _, rfl, h1, h2⟩
    · rcases Nat.eq_zero_or_pos l.length with h | h
      · exact .inl ⟨h, rfl⟩
      · exfalso
        have := h0 0 h
        unfold winR at this
        rw [List.countP_eq_zero] at this
        exact this _ (getD_mem l 0 hit0 h) (decide_eq_true ⟨Int.le_refl _, by show endH l 0 - endH l 0 < width; omega⟩)
    · refine .inr ⟨a, ha, by rw [hwin], fun j hj => ?_, fun j hj => ?_⟩
      · rw [← hwin, ← hwin]; exact h1 j hj
      · rw [← hwin, ← hwin]; exact h2 j hj

end Go.Proofs.Ytmkcoobmbjoloaa.Base
