/- The counts of hits as layer 47's reference tells them, and that the layer's counts are these; layer 47's examples; no condition beyond the sizes that stand in each statement. -/
import Derived.Test.YtmkcoobmbjoloaaH47
import Derived.Test.YtmkcoobmbjoloaaPx53
import Derived.Test.YtmkcoobmbjoloaaPx49
import Derived.Test.YtmkcoobmbjoloaaPx50
import Derived.Test.YtmkcoobmbjoloaaPx47
namespace Go.Proofs.Ytmkcoobmbjoloaa.Base
open Go Go.RowKit Go.Proofs.YtmkcoobmbjoloaaW.PrintWords Go.Proofs.YtmkcoobmbjoloaaW.PrintMore Go.Proofs.Ytmkcoobmbjoloaa.P
set_option linter.unusedVariables false

abbrev RefD := S93
theorem ahead_is (a b : HitD) : juratref15_Ahead.f a.f0 a.f1 b.f0 b.f1 = some (aheadH a b) := by
  unfold juratref15_Ahead.f aheadH
  by_cases h1 : a.f0 < b.f0
  · rw [if_pos h1, decide_eq_true (.inl h1)]
  · rw [if_neg h1]
    by_cases h2 : a.f0 = b.f0
    · rw [if_pos h2]
      congr 1
      rw [decide_eq_decide]
      exact ⟨fun h => .inr ⟨h2, h⟩, fun h => by rcases h with h | h; exact absurd h h1; exact h.2⟩
    · rw [if_neg h2, decide_eq_false (by rintro (h | h); exact h1 h; exact h2 h.1)]
theorem rrising_l0 (l : List HitD) (hl : l.length ≤ 8796093022208) : ∀ (d i : Nat), i + d = l.length → 1 ≤ i → Ev (fun k => juratref15_Rising.l0 k l (i : Int)) (risB (l.drop (i - 1))) := by
  intro d
  induction d with
  | zero =>
    intro i hi h1
    rw [risB_short _ (by rw [List.length_drop]; omega)]
    refine Ev.ret fun k => ?_
    simp only [juratref15_Rising.l0]
    rw [if_neg (by omega)]
  | succ d ih =>
    intro i hi h1
    have hr := risB_drop l (i - 1) (by omega)
    rw [show i - 1 + 1 = i by omega] at hr
    rw [hr]
    have e1 : rd_T64 l ((i : Int) - 1) = l.getD (i - 1) hit0 := by unfold rd_T64; congr 1; omega
    have e2 : rd_T64 l (i : Int) = l.getD i hit0 := rfl
    generalize l.getD (i - 1) hit0 = a at e1
    generalize l.getD i hit0 = b at e2
    have ha := ahead_is a b
    by_cases h : aheadH a b = true
    · rw [h, Bool.true_and]
      refine Ev.step (fun k => ?_) (ih (i + 1) (by omega) (by omega))
      simp only [juratref15_Rising.l0]
      rw [if_pos (by omega), wrap_id (x := (i : Int) - 1) (by omega) (by omega), if_pos (by omega), if_pos (by omega), if_pos (by omega), e1, e2, ha]
      simp only [Option.bind_some]
      rw [if_pos h, wrap_id (by omega) (by omega)]
      rfl
    · rw [Bool.eq_false_iff.2 h, Bool.false_and]
      refine Ev.ret fun k => ?_
      simp only [juratref15_Rising.l0]
      rw [if_pos (by omega), wrap_id (x := (i : Int) - 1) (by omega) (by omega), if_pos (by omega), if_pos (by omega), if_pos (by omega), e1, e2, ha]
      simp only [Option.bind_some]
      rw [if_neg h]
theorem rrising_ev (l : List HitD) (hl : l.length ≤ 8796093022208) : Ev (fun k => juratref15_Rising.f k l) (risB l) := by
  rcases Nat.eq_zero_or_pos l.length with h | h
  · have : l = [] := List.length_eq_zero_iff.1 h
    subst this
    refine Ev.ret fun k => ?_
    simp [juratref15_Rising.f, juratref15_Rising.l0, risB]
  · exact rrising_l0 l hl (l.length - 1) 1 (by omega) (Nat.le_refl _)
theorem ahead_trans {a b c : HitD} (h1 : aheadH a b = true) (h2 : aheadH b c = true) : aheadH a c = true := by
  have h1 := of_decide_eq_true h1
  have h2 := of_decide_eq_true h2
  refine decide_eq_true ?_
  omega
/-- Hits that rise: each ahead of all behind it. -/
theorem ris_pairwise : ∀ {l : List HitD}, risB l = true → l.Pairwise (fun a b => aheadH a b = true)
  | [], _ => List.Pairwise.nil
  | [a], _ => List.pairwise_singleton _ _
  | a :: b :: l, h => by
    obtain ⟨h1, h2⟩ := Bool.and_eq_true_iff.1 h
    have ih := ris_pairwise h2
    refine List.pairwise_cons.2 ⟨fun x hx => ?_, ih⟩
    rcases List.mem_cons.1 hx with rfl | hx
    · exact h1
    · exact ahead_trans h1 ((List.pairwise_cons.1 ih).1 x hx)
theorem pairwise_ris : ∀ {l : List HitD}, l.Pairwise (fun a b => aheadH a b = true) → risB l = true
  | [], _ => rfl
  | [a], _ => rfl
  | a :: b :: l, h => by
    obtain ⟨h1, h2⟩ := List.pairwise_cons.1 h
    show (aheadH a b && risB (b :: l)) = true
    rw [h1 b List.mem_cons_self, pairwise_ris h2]
    rfl

/-! one pattern's counts -/
/-- One hit more, as the reference counts it. -/
def refAdd (c : CntD) (e : Int) : CntD := ⟨c.f0 + 1, if c.f0 = 0 then e else c.f1, e, if c.f0 > 0 ∧ (c.f0 = 1 ∨ e - c.f2 < c.f3) then e - c.f2 else c.f3⟩
def oneB (id : Int) (l : List HitD) (c : CntD) : CntD := l.foldl (fun c h => if h.f1 = id then refAdd c h.f0 else c) c
theorem one_l0 (id : Int) (l : List HitD) (hl : l.length ≤ 1000) (hz : ∀ h ∈ l, 1 ≤ h.f0 ∧ h.f0 ≤ 9223372036854775807) : ∀ (d i : Nat) (c : CntD), i + d = l.length → 0 ≤ c.f0 → c.f0 ≤ (i : Int) → 0 ≤ c.f2 → c.f2 ≤ 9223372036854775807 →
    Ev (fun k => juratref47_one.l0 k id l (i : Int) c.f0 c.f1 c.f2 c.f3) ((oneB id (l.drop i) c).f0, (oneB id (l.drop i) c).f1, (oneB id (l.drop i) c).f2, (oneB id (l.drop i) c).f3) := by
  intro d
  induction d with
  | zero =>
    intro i c hi h0 h1 h2 h3
    rw [List.drop_of_length_le (by omega)]
    refine Ev.ret fun k => ?_
    simp only [juratref47_one.l0]
    rw [if_neg (by omega)]
    rfl
  | succ d ih =>
    intro i c hi h0 h1 h2 h3
    have hd := getD_drop l i hit0 (by omega)
    have e2 : rd_T64 l (i : Int) = l.getD i hit0 := rfl
    have hb := hz _ (getD_mem l i hit0 (by omega))
    rw [hd]
    generalize l.getD i hit0 = x at e2 hb
    have ho : oneB id (x :: l.drop (i + 1)) c = oneB id (l.drop (i + 1)) (if x.f1 = id then refAdd c x.f0 else c) := rfl
    rw [ho]
    by_cases h4 : x.f1 = id
    · rw [if_pos h4]
      have step := ih (i + 1) (refAdd c x.f0) (by omega) (by show 0 ≤ c.f0 + 1; omega) (by show c.f0 + 1 ≤ ((i + 1 : Nat) : Int); omega) (by show 0 ≤ x.f0; omega) (by show x.f0 ≤ _; omega)
      refine Ev.step (fun k => ?_) step
      simp only [juratref47_one.l0, refAdd]
      rw [if_pos (by omega), if_pos (by omega), e2, if_pos h4, wrap_id (x := (i : Int) + 1) (by omega) (by omega), wrap_id (x := c.f0 + 1) (by omega) (by omega), wrap_id (x := x.f0 - c.f2) (by omega) (by omega)]
      by_cases h5 : c.f0 = 0
      · rw [if_pos h5, if_neg (by omega), if_pos h5, if_neg (by omega)]
        rfl
      · rw [if_neg h5, if_pos (by omega), if_neg h5]
        by_cases h6 : c.f0 = 1
        · rw [if_pos h6, if_pos ⟨by omega, .inl h6⟩]
          rfl
        · rw [if_neg h6]
          by_cases h7 : x.f0 - c.f2 < c.f3
          · rw [if_pos h7, if_pos ⟨by omega, .inr h7⟩]
            rfl
          · rw [if_neg h7, if_neg (by rintro ⟨_, h | h⟩; exact h6 h; exact h7 h)]
            rfl
    · rw [if_neg h4]
      refine Ev.step (fun k => ?_) (ih (i + 1) c (by omega) h0 (by omega) h2 h3)
      simp only [juratref47_one.l0]
      rw [if_pos (by omega), if_pos (by omega), e2, if_neg h4, wrap_id (x := (i : Int) + 1) (by omega) (by omega)]
      rfl
theorem one_ev (id : Int) (l : List HitD) (hl : l.length ≤ 1000) (hz : ∀ h ∈ l, 1 ≤ h.f0 ∧ h.f0 ≤ 9223372036854775807) : Ev (fun k => juratref47_one.f k id l) ((oneB id l cnt0).f0, (oneB id l cnt0).f1, (oneB id l cnt0).f2, (oneB id l cnt0).f3) :=
  one_l0 id l hl hz l.length 0 cnt0 (by omega) (Int.le_refl 0) (Int.le_refl 0) (Int.le_refl 0) (by decide)
/-- What is known of counts of rising hits. -/
def CntOk (c : CntD) : Prop := (c.f0 = 0 ∧ c.f3 = 0) ∨ (c.f0 = 1 ∧ c.f3 = 0) ∨ (2 ≤ c.f0 ∧ 0 < c.f3)
theorem add_same {c : CntD} {e : Int} (h : CntOk c) (he : 1 ≤ c.f0 → c.f2 < e) : cntAdd c e = refAdd c e ∧ CntOk (refAdd c e) := by
  unfold cntAdd refAdd CntOk
  rcases h with ⟨h1, h2⟩ | ⟨h1, h2⟩ | ⟨h1, h2⟩
  · rw [if_pos h1, if_pos h1, if_neg (by omega)]
    exact ⟨rfl, .inr (.inl ⟨by show c.f0 + 1 = 1; omega, h2⟩)⟩
  · have := he (by omega)
    rw [if_neg (by omega), if_neg (by omega), if_pos h2, if_pos ⟨by omega, .inl h1⟩]
    exact ⟨rfl, .inr (.inr ⟨by show 2 ≤ c.f0 + 1; omega, by show 0 < e - c.f2; omega⟩)⟩
  · have := he (by omega)
    rw [if_neg (by omega), if_neg (by omega), if_neg (by omega)]
    by_cases h3 : e - c.f2 < c.f3
    · rw [if_pos h3, if_pos ⟨by omega, .inr h3⟩]
      exact ⟨rfl, .inr (.inr ⟨by show 2 ≤ c.f0 + 1; omega, by show 0 < e - c.f2; omega⟩)⟩
    · rw [if_neg h3, if_neg (by rintro ⟨_, h | h⟩; omega; exact h3 h)]
      exact ⟨rfl, .inr (.inr ⟨by show 2 ≤ c.f0 + 1; omega, h2⟩)⟩
/-- The layer's counts of one pattern are the reference's. -/
theorem cnt_one (n : Nat) : ∀ (l : List HitD) (C : List CntD) (i : Nat), C.length = n → i < n → l.Pairwise (fun a b => aheadH a b = true) → (∀ h ∈ l, goodH n h = true) → CntOk (C.getD i cnt0) → (∀ h ∈ l, h.f1 = (i : Int) → 1 ≤ (C.getD i cnt0).f0 → (C.getD i cnt0).f2 < h.f0) →
    (l.foldl cntPut C).getD i cnt0 = oneB (i : Int) l (C.getD i cnt0)
  | [], C, i, _, _, _, _, _, _ => rfl
  | x :: l, C, i, hn, hi, hp, hg, hc, hlt => by
    obtain ⟨hp1, hp2⟩ := List.pairwise_cons.1 hp
    have hx := of_decide_eq_true (hg x List.mem_cons_self)
    have hlen : (cntPut C x).length = n := (cntPut_length C x).trans hn
    have ho : oneB (i : Int) (x :: l) (C.getD i cnt0) = oneB (i : Int) l (if x.f1 = (i : Int) then refAdd (C.getD i cnt0) x.f0 else C.getD i cnt0) := rfl
    rw [List.foldl_cons, ho]
    by_cases h : x.f1 = (i : Int)
    · rw [if_pos h]
      have ht : x.f1.toNat = i := by omega
      have he : (cntPut C x).getD i cnt0 = cntAdd (C.getD i cnt0) x.f0 := by
        unfold cntPut
        rw [ht, List.getD_eq_getElem?_getD, List.getElem?_set_self (by omega)]
        rfl
      obtain ⟨e1, e2⟩ := add_same hc (hlt x List.mem_cons_self h)
      rw [e1] at he
      rw [← he]
      refine cnt_one n l (cntPut C x) i hlen hi hp2 (fun y hy => hg y (List.mem_cons_of_mem _ hy)) (by rw [he]; exact e2) (fun y hy hyi _ => ?_)
      rw [he]
      have := of_decide_eq_true (hp1 y hy)
      show x.f0 < y.f0
      omega
    · rw [if_neg h]
      have he : (cntPut C x).getD i cnt0 = C.getD i cnt0 := by
        unfold cntPut
        rw [List.getD_eq_getElem?_getD, List.getElem?_set_ne (by omega), ← List.getD_eq_getElem?_getD]
      rw [← he]
      exact cnt_one n l (cntPut C x) i hlen hi hp2 (fun y hy => hg y (List.mem_cons_of_mem _ hy)) (by rw [he]; exact hc) (fun y hy => by rw [he]; exact hlt y (List.mem_cons_of_mem _ hy))

/-! the same counts -/
def sameC (c : CntD) (r : RefD) : Prop := c.f0 = r.f0 ∧ c.f1 = r.f1 ∧ c.f2 = r.f2 ∧ c.f3 = r.f3
abbrev ref0 : RefD := z93
theorem same47_l0 (a : List CntD) (b : List RefD) (hm : a.length ≤ 8796093022208) (he : a.length = b.length) (h : ∀ i, i < a.length → sameC (a.getD i cnt0) (b.getD i ref0)) : ∀ (d i : Nat), i + d = a.length → Ev (fun k => juratlaw47_same.l0 k a b (i : Int)) true := by
  intro d
  induction d with
  | zero =>
    intro i hi
    refine Ev.ret fun k => ?_
    simp only [juratlaw47_same.l0]
    rw [if_neg (by omega)]
  | succ d ih =>
    intro i hi
    obtain ⟨g0, g1, g2, g3⟩ := h i (by omega)
    have e1 : rd_T72 a (i : Int) = a.getD i cnt0 := rfl
    have e2 : rd_T93 b (i : Int) = b.getD i ref0 := rfl
    refine Ev.step (fun k => ?_) (ih (i + 1) (by omega))
    simp only [juratlaw47_same.l0]
    rw [if_pos (by omega), if_pos (by omega), if_pos (by omega), e1, e2, if_pos g0, if_pos g1, if_pos g2, if_pos g3, wrap_id (by omega) (by omega)]
    rfl
theorem same47 (a : List CntD) (b : List RefD) (hm : a.length ≤ 8796093022208) (he : a.length = b.length) (h : ∀ i, i < a.length → sameC (a.getD i cnt0) (b.getD i ref0)) : Ev (fun k => juratlaw47_same.f k a b) true := by
  refine Ev.congr (fun k => ?_) (same47_l0 a b hm he h a.length 0 (by omega))
  unfold juratlaw47_same.f
  rw [if_pos (by omega)]
  rfl
/-- Counts of the reference's own kind. -/
def toRef (c : CntD) : RefD := ⟨c.f0, c.f1, c.f2, c.f3⟩
def refsB (n : Nat) (l : List HitD) : List RefD := (List.range n).map fun i => toRef (oneB ((i : Nat) : Int) l cnt0)
theorem refsB_length (n : Nat) (l : List HitD) : (refsB n l).length = n := by unfold refsB; simp
theorem rof_l1 (n : Nat) (hn : n ≤ 1000) (l : List HitD) (hl : l.length ≤ 1000) (hz : ∀ h ∈ l, 1 ≤ h.f0 ∧ h.f0 ≤ 9223372036854775807) : ∀ (d i : Nat), i + d = n →
    Ev (fun k => juratref47_Of.l1 k (n : Int) l (refsB i l) (i : Int)) (refsB n l, 0) := by
  intro d
  induction d with
  | zero =>
    intro i hi
    obtain rfl : i = n := by omega
    refine Ev.ret fun k => ?_
    simp only [juratref47_Of.l1]
    rw [if_neg (by omega)]
  | succ d ih =>
    intro i hi
    have e : refsB (i + 1) l = refsB i l ++ [toRef (oneB (i : Int) l cnt0)] := by unfold refsB; rw [List.range_succ, List.map_append]; rfl
    have := ih (i + 1) (by omega)
    rw [e] at this
    refine Ev.step (f := fun k => (juratref47_one.f k (i : Int) l).bind fun bt366 => juratref47_Of.l1 k (n : Int) l (refsB i l ++ [(⟨bt366.1, bt366.2.1, bt366.2.2.1, bt366.2.2.2⟩ : RefD)]) ((i + 1 : Nat) : Int)) (fun k => ?_) (Ev.bind (one_ev (i : Int) l hl hz) this)
    simp only [juratref47_Of.l1]
    rw [if_pos (by omega)]
    congr 1
    funext b
    rw [if_pos (by rw [refsB_length]; omega), wrap_id (by omega) (by omega)]
    rfl
theorem rof_l0 (n : Nat) (hn : n ≤ 1000) (l : List HitD) (hl : l.length ≤ 1000) (hz : ∀ h ∈ l, h.f0 ≤ 9223372036854775807) : ∀ (d i : Nat), i + d = l.length → (∀ h ∈ l.take i, goodH n h = true) →
    Ev (fun k => juratref47_Of.l0 k (n : Int) l (i : Int)) (if l.all (goodH n) = true then (refsB n l, 0) else ([], 11)) := by
  intro d
  induction d with
  | zero =>
    intro i hi hg
    rw [List.take_of_length_le (by omega)] at hg
    rw [if_pos (List.all_eq_true.2 hg)]
    refine Ev.step (f := fun k => juratref47_Of.l1 k (n : Int) l (refsB 0 l) ((0 : Nat) : Int)) (fun k => ?_) (rof_l1 n hn l hl (fun h hh => ⟨(of_decide_eq_true (hg h hh)).2.2, hz h hh⟩) n 0 (by omega))
    simp only [juratref47_Of.l0]
    rw [if_neg (by omega)]
    rfl
  | succ d ih =>
    intro i hi hg
    have e2 : rd_T64 l (i : Int) = l.getD i hit0 := rfl
    have hmem := getD_mem l i hit0 (by omega)
    have ht : l.take (i + 1) = l.take i ++ [l.getD i hit0] := by
      rw [List.take_succ_eq_append_getElem (by omega), List.getD_eq_getElem?_getD, List.getElem?_eq_getElem (by omega)]; rfl
    by_cases hgd : goodH n (l.getD i hit0) = true
    · have := of_decide_eq_true hgd
      refine Ev.step (fun k => ?_) (ih (i + 1) (by omega) (fun h hh => by
        rw [ht, List.mem_append, List.mem_singleton] at hh
        rcases hh with hh | rfl
        · exact hg h hh
        · exact hgd))
      simp only [juratref47_Of.l0]
      rw [if_pos (by omega), if_pos (by omega), e2, if_neg (by omega), if_neg (by omega), if_neg (by omega), wrap_id (by omega) (by omega)]
      rfl
    · have hall : ¬ l.all (goodH n) = true := fun ha => hgd (List.all_eq_true.1 ha _ hmem)
      rw [if_neg hall]
      have hb : ¬ (0 ≤ (l.getD i hit0).f1 ∧ (l.getD i hit0).f1 < (n : Int) ∧ 1 ≤ (l.getD i hit0).f0) := fun h => hgd (decide_eq_true h)
      refine Ev.ret fun k => ?_
      simp only [juratref47_Of.l0]
      rw [if_pos (by omega), if_pos (by omega), e2]
      by_cases b1 : (l.getD i hit0).f1 < 0
      · rw [if_pos b1]
      · rw [if_neg b1]
        by_cases b2 : (l.getD i hit0).f1 ≥ (n : Int)
        · rw [if_pos b2]
        · rw [if_neg b2, if_pos (by omega)]
theorem rof_ev (n : Int) (l : List HitD) (hl : l.length ≤ 1000) (hn : n ≤ 1000 ∨ n > 65535) (hz : ∀ h ∈ l, h.f0 ≤ 9223372036854775807) :
    Ev (fun k => juratref47_Of.f k n l) (if n < 0 then ([], 2) else if n > 65535 then ([], 2) else if risB l = false then ([], 9) else if l.all (goodH n.toNat) = true then (refsB n.toNat l, 0) else ([], 11)) := by
  have bad : Ev (fun k => juratref47_Of.j0 k n l true) ([], 2) := Ev.ret fun k => by simp only [juratref47_Of.j0]; rw [if_pos trivial]
  unfold juratref47_Of.f
  by_cases h0 : n < 0
  · rw [if_pos h0]
    exact Ev.congr (fun k => if_pos h0) bad
  rw [if_neg h0]
  refine Ev.congr (fun k => if_neg h0) ?_
  by_cases h1 : n > 65535
  · rw [if_pos h1, decide_eq_true h1]
    exact bad
  rw [if_neg h1, decide_eq_false h1]
  obtain ⟨m, rfl⟩ : ∃ m : Nat, n = m := ⟨n.toNat, by omega⟩
  refine Ev.step (f := fun k => (juratref15_Rising.f k l).bind fun t359 => (if t359 = true then (juratref47_Of.l0 k (m : Int) l ((0 : Nat) : Int)) else (some (([] : List RefD), 9)))) (fun k => ?_) (Ev.bind (rrising_ev l (by omega)) ?_)
  · simp only [juratref47_Of.j0]
    rw [if_neg (by simp)]
    rfl
  cases h2 : risB l with
  | false =>
    rw [if_pos rfl]
    exact Ev.congr (fun k => if_neg (by simp)) (Ev.now _)
  | true =>
    rw [if_neg (by simp), Int.toNat_natCast]
    exact Ev.congr (fun k => if_pos rfl) (rof_l0 m (by omega) l hl hz l.length 0 (by omega) (by simp))
theorem cnts_same (n : Nat) (l : List HitD) (hr : risB l = true) (hg : l.all (goodH n) = true) : (cntsB n l).length = (refsB n l).length ∧ ∀ i, i < (cntsB n l).length → sameC ((cntsB n l).getD i cnt0) ((refsB n l).getD i ref0) := by
  have hl : (cntsB n l).length = n := by unfold cntsB; rw [cntFold_length, List.length_replicate]
  refine ⟨by rw [hl, refsB_length], fun i hi => ?_⟩
  rw [hl] at hi
  have e0 : (List.replicate n cnt0).getD i cnt0 = cnt0 := by rw [List.getD_eq_getElem?_getD, List.getElem?_replicate, if_pos hi]; rfl
  have e := cnt_one n l (List.replicate n cnt0) i List.length_replicate hi (ris_pairwise hr) (List.all_eq_true.1 hg) (by rw [e0]; exact .inl ⟨rfl, rfl⟩) (fun h _ _ h1 => by rw [e0] at h1; exact absurd h1 (by decide))
  rw [e0] at e
  have e2 : (refsB n l).getD i ref0 = toRef (oneB ((i : Nat) : Int) l cnt0) := by
    unfold refsB
    rw [List.getD_eq_getElem?_getD, List.getElem?_map, List.getElem?_range hi]
    rfl
  show sameC ((l.foldl cntPut (List.replicate n cnt0)).getD i cnt0) _
  rw [e, e2]
  exact ⟨rfl, rfl, rfl, rfl⟩

end Go.Proofs.Ytmkcoobmbjoloaa.Base
