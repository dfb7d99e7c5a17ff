/- Proved here: the row of the law TallyAll, with the plain texts that lead to it, merged by a program of this session (wip/merge.py); no condition beyond the statement's own. -/
import Derived.Test.YtmkcoobmbjoloaaH47
import Derived.Test.YtmkcoobmbjoloaaPx50
import Derived.Test.YtmkcoobmbjoloaaPx47
import Derived.Test.YtmkcoobmbjoloaaPx0
import Derived.Test.YtmkcoobmbjoloaaBase
import Derived.Test.YtmkcoobmbjoloaaPx51
import Derived.Test.YtmkcoobmbjoloaaPx52
import Derived.Test.YtmkcoobmbjoloaaPx54
import Derived.Test.YtmkcoobmbjoloaaH09t
import Derived.Test.YtmkcoobmbjoloaaN09
import Derived.Test.YtmkcoobmbjoloaaPx57
import Derived.Test.YtmkcoobmbjoloaaF08
import Derived.Test.YtmkcoobmbjoloaaPx91
import Derived.Test.YtmkcoobmbjoloaaPx58
import Derived.Test.YtmkcoobmbjoloaaWLast
import Derived.Laws.BitsLemmas
import Derived.Test.YtmkcoobmbjoloaaPx59
import Derived.Test.YtmkcoobmbjoloaaPx11
import Derived.SizedLaws
import Derived.SliceStrings
import Derived.Test.YtmkcoobmbjoloaaWWords
import Derived.Test.YtmkcoobmbjoloaaWSized
import Derived.Test.YtmkcoobmbjoloaaRows
import Derived.WalkKit
import Derived.ProofKit
import Derived.OpenShut
import Derived.ShutString
import Derived.ChangeOld
import Derived.Below
import Derived.Carry
/- The counts of hits as layer 47's reference tells them, and that the layer's counts are these; layer 47's examples; no condition beyond the sizes that stand in each statement. -/
namespace Go.Proofs.Ytmkcoobmbjoloaa.Base
open Go Go.RowKit Go.Proofs.YtmkcoobmbjoloaaW.PrintWords Go.Proofs.YtmkcoobmbjoloaaW.PrintMore Go.Proofs.Ytmkcoobmbjoloaa.P
set_option linter.unusedVariables false

abbrev RefD := S93
theorem ahead_trans {a b c : HitD} (h1 : aheadH a b = true) (h2 : aheadH b c = true) : aheadH a c = true := by
  have h1 := of_decide_eq_true h1
  have h2 := of_decide_eq_true h2
  refine decide_eq_true ?_
  omega
/-- Hits that rise: each ahead of all behind it. -/
theorem ris_pairwise : ∀ {l : List HitD}, risB l = true → l.Pairwise (fun a b => aheadH a b = true)
  | [], _ => List.Pairwise.nil
  | [a], _ => List.pairwise_singleton _ _
  | a :: b :: l, h => by
    obtain ⟨h1, h2⟩ := Bool.and_eq_true_iff.1 h
    have ih := ris_pairwise h2
    refine List.pairwise_cons.2 ⟨fun x hx => ?_, ih⟩
    rcases List.mem_cons.1 hx with rfl | hx
    · exact h1
    · exact ahead_trans h1 ((List.pairwise_cons.1 ih).1 x hx)
theorem pairwise_ris : ∀ {l : List HitD}, l.Pairwise (fun a b => aheadH a b = true) → risB l = true
  | [], _ => rfl
  | [a], _ => rfl
  | a :: b :: l, h => by
    obtain ⟨h1, h2⟩ := List.pairwise_cons.1 h
    show (aheadH a b && risB (b :: l)) = true
    rw [h1 b List.mem_cons_self, pairwise_ris h2]
    rfl

/-! one pattern's counts -/
/-- One hit more, as the reference counts it. -/
def refAdd (c : CntD) (e : Int) : CntD := ⟨c.f0 + 1, if c.f0 = 0 then e else c.f1, e, if c.f0 > 0 ∧ (c.f0 = 1 ∨ e - c.f2 < c.f3) then e - c.f2 else c.f3⟩
def oneB (id : Int) (l : List HitD) (c : CntD) : CntD := l.foldl (fun c h => if h.f1 = id then refAdd c h.f0 else c) c
/-- What is known of counts of rising hits. -/
def CntOk (c : CntD) : Prop := (c.f0 = 0 ∧ c.f3 = 0) ∨ (c.f0 = 1 ∧ c.f3 = 0) ∨ (2 ≤ c.f0 ∧ 0 < c.f3)
theorem add_same {c : CntD} {e : Int} (h : CntOk c) (he : 1 ≤ c.f0 → c.f2 < e) : cntAdd c e = refAdd c e ∧ CntOk (refAdd c e) := by
  unfold cntAdd refAdd CntOk
  rcases h with ⟨h1, h2⟩ | ⟨h1, h2⟩ | ⟨h1, h2⟩
  · rw [if_pos h1, if_pos h1, if_neg (by omega)]
    exact ⟨rfl, .inr (.inl ⟨by show c.f0 + 1 = 1; omega, h2⟩)⟩
  · have := he (by omega)
    rw [if_neg (by omega), if_neg (by omega), if_pos h2, if_pos ⟨by omega, .inl h1⟩]
    exact ⟨rfl, .inr (.inr ⟨by show 2 ≤ c.f0 + 1; omega, by show 0 < e - c.f2; omega⟩)⟩
  · have := he (by omega)
    rw [if_neg (by omega), if_neg (by omega), if_neg (by omega)]
    by_cases h3 : e - c.f2 < c.f3
    · rw [if_pos h3, if_pos ⟨by omega, .inr h3⟩]
      exact ⟨rfl, .inr (.inr ⟨by show 2 ≤ c.f0 + 1; omega, by show 0 < e - c.f2; omega⟩)⟩
    · rw [if_neg h3, if_neg (by rintro ⟨_, h | h⟩; omega; exact h3 h)]
      exact ⟨rfl, .inr (.inr ⟨by show 2 ≤ c.f0 + 1; omega, h2⟩)⟩
/-- The layer's counts of one pattern are the reference's. -/
theorem cnt_one (n : Nat) : ∀ (l : List HitD) (C : List CntD) (i : Nat), C.length = n → i < n → l.Pairwise (fun a b => aheadH a b = true) → (∀ h ∈ l, goodH n h = true) → CntOk (C.getD i cnt0) → (∀ h ∈ l, h.f1 = (i : Int) → 1 ≤ (C.getD i cnt0).f0 → (C.getD i cnt0).f2 < h.f0) →
    (l.foldl cntPut C).getD i cnt0 = oneB (i : Int) l (C.getD i cnt0)
  | [], C, i, _, _, _, _, _, _ => rfl
  | x :: l, C, i, hn, hi, hp, hg, hc, hlt => by
    obtain ⟨hp1, hp2⟩ := List.pairwise_cons.1 hp
    have hx := of_decide_eq_true (hg x List.mem_cons_self)
    have hlen : (cntPut C x).length = n := (cntPut_length C x).trans hn
    have ho : oneB (i : Int) (x :: l) (C.getD i cnt0) = oneB (i : Int) l (if x.f1 = (i : Int) then refAdd (C.getD i cnt0) x.f0 else C.getD i cnt0) := rfl
    rw [List.foldl_cons, ho]
    by_cases h : x.f1 = (i : Int)
    · rw [if_pos h]
      have ht : x.f1.toNat = i := by omega
      have he : (cntPut C x).getD i cnt0 = cntAdd (C.getD i cnt0) x.f0 := by
        unfold cntPut
        rw [ht, List.getD_eq_getElem?_getD, List.getElem?_set_self (by omega)]
        rfl
      obtain ⟨e1, e2⟩ := add_same hc (hlt x List.mem_cons_self h)
      rw [e1] at he
      rw [← he]
      refine cnt_one n l (cntPut C x) i hlen hi hp2 (fun y hy => hg y (List.mem_cons_of_mem _ hy)) (by rw [he]; exact e2) (fun y hy hyi _ => ?_)
      rw [he]
      have := of_decide_eq_true (hp1 y hy)
      show x.f0 < y.f0
      omega
    · rw [if_neg h]
      have he : (cntPut C x).getD i cnt0 = C.getD i cnt0 := by
        unfold cntPut
        rw [List.getD_eq_getElem?_getD, List.getElem?_set_ne (by omega), ← List.getD_eq_getElem?_getD]
      rw [← he]
      exact cnt_one n l (cntPut C x) i hlen hi hp2 (fun y hy => hg y (List.mem_cons_of_mem _ hy)) (by rw [he]; exact hc) (fun y hy => by rw [he]; exact hlt y (List.mem_cons_of_mem _ hy))

/-! the same counts -/
def sameC (c : CntD) (r : RefD) : Prop := c.f0 = r.f0 ∧ c.f1 = r.f1 ∧ c.f2 = r.f2 ∧ c.f3 = r.f3
abbrev ref0 : RefD := z93
theorem same47_l0 (a : List CntD) (b : List RefD) (hm : a.length ≤ 8796093022208) (he : a.length = b.length) (h : ∀ i, i < a.length → sameC (a.getD i cnt0) (b.getD i ref0)) : ∀ (d i : Nat), i + d = a.length → Ev (fun k => juratlaw47_same.l0 k a b (i : Int)) true := by
  intro d
  induction d with
  | zero =>
    intro i hi
    refine Ev.ret fun k => ?_
    simp only [juratlaw47_same.l0]
    rw [if_neg (by omega)]
  | succ d ih =>
    intro i hi
    obtain ⟨g0, g1, g2, g3⟩ := h i (by omega)
    have e1 : rd_T72 a (i : Int) = a.getD i cnt0 := rfl
    have e2 : rd_T93 b (i : Int) = b.getD i ref0 := rfl
    refine Ev.step (fun k => ?_) (ih (i + 1) (by omega))
    simp only [juratlaw47_same.l0]
    rw [if_pos (by omega), if_pos (by omega), if_pos (by omega), e1, e2, if_pos g0, if_pos g1, if_pos g2, if_pos g3, wrap_id (by omega) (by omega)]
    rfl
theorem same47 (a : List CntD) (b : List RefD) (hm : a.length ≤ 8796093022208) (he : a.length = b.length) (h : ∀ i, i < a.length → sameC (a.getD i cnt0) (b.getD i ref0)) : Ev (fun k => juratlaw47_same.f k a b) true := by
  refine Ev.congr (fun k => ?_) (same47_l0 a b hm he h a.length 0 (by omega))
  unfold juratlaw47_same.f
  rw [if_pos (by omega)]
  rfl
/-- Counts of the reference's own kind. -/
def toRef (c : CntD) : RefD := ⟨c.f0, c.f1, c.f2, c.f3⟩
def refsB (n : Nat) (l : List HitD) : List RefD := (List.range n).map fun i => toRef (oneB ((i : Nat) : Int) l cnt0)
theorem refsB_length (n : Nat) (l : List HitD) : (refsB n l).length = n := by unfold refsB; simp
theorem cnts_same (n : Nat) (l : List HitD) (hr : risB l = true) (hg : l.all (goodH n) = true) : (cntsB n l).length = (refsB n l).length ∧ ∀ i, i < (cntsB n l).length → sameC ((cntsB n l).getD i cnt0) ((refsB n l).getD i ref0) := by
  have hl : (cntsB n l).length = n := by unfold cntsB; rw [cntFold_length, List.length_replicate]
  refine ⟨by rw [hl, refsB_length], fun i hi => ?_⟩
  rw [hl] at hi
  have e0 : (List.replicate n cnt0).getD i cnt0 = cnt0 := by rw [List.getD_eq_getElem?_getD, List.getElem?_replicate, if_pos hi]; rfl
  have e := cnt_one n l (List.replicate n cnt0) i List.length_replicate hi (ris_pairwise hr) (List.all_eq_true.1 hg) (by rw [e0]; exact .inl ⟨rfl, rfl⟩) (fun h _ _ h1 => by rw [e0] at h1; exact absurd h1 (by decide))
  rw [e0] at e
  have e2 : (refsB n l).getD i ref0 = toRef (oneB ((i : Nat) : Int) l cnt0) := by
    unfold refsB
    rw [List.getD_eq_getElem?_getD, List.getElem?_map, List.getElem?_range hi]
    rfl
  show sameC ((l.foldl cntPut (List.replicate n cnt0)).getD i cnt0) _
  rw [e, e2]
  exact ⟨rfl, rfl, rfl, rfl⟩

end Go.Proofs.Ytmkcoobmbjoloaa.Base

/- Layer 47's examples; no condition. -/
namespace Go.Proofs.Ytmkcoobmbjoloaa.Base
open Go Go.RowKit Go.Proofs.YtmkcoobmbjoloaaW.PrintWords Go.Proofs.YtmkcoobmbjoloaaW.PrintMore Go.Proofs.Ytmkcoobmbjoloaa.P
set_option linter.unusedVariables false

theorem awake47 : Ev (fun k => juratlaw47_awake.f k) true := by
  have e1 : tally_Of.f 2 [(⟨1, 0⟩ : HitD), (⟨3, 0⟩ : HitD), (⟨3, 1⟩ : HitD), (⟨4, 0⟩ : HitD)] = some ([(⟨3, 1, 4, 1⟩ : CntD), (⟨1, 3, 3, 0⟩ : CntD)], 0) := by
    unfold tally_Of.f
    rw [if_neg (by decide), if_neg (by decide), if_neg (fun h => h ⟨by decide, by decide⟩), if_neg (by decide), if_pos (by decide)]
    rfl
  have e2 : Ev (fun k => tally_Busy.f k [(⟨1, 0⟩ : HitD), (⟨3, 0⟩ : HitD), (⟨3, 1⟩ : HitD), (⟨4, 0⟩ : HitD)] 2) (3, 3) := Ev.of (tally_Busy.mono _ _) (k := 30) (by decide +kernel)
  have e3 := same47 [(⟨3, 1, 4, 1⟩ : CntD), (⟨1, 3, 3, 0⟩ : CntD)] [(⟨3, 1, 4, 1⟩ : RefD), (⟨1, 3, 3, 0⟩ : RefD)] (by simp) rfl (fun i hi => by
    match i, hi with
    | 0, _ => exact ⟨rfl, rfl, rfl, rfl⟩
    | 1, _ => exact ⟨rfl, rfl, rfl, rfl⟩)
  unfold juratlaw47_awake.f
  refine Ev.bind (Ev.now _) (Ev.bind (Ev.const fun _ => e1) (Ev.bind e2 ?_))
  refine Ev.congr (fun k => if_pos rfl) (Ev.bind e3 ?_)
  refine Ev.congr (fun k => if_pos rfl) (Ev.congr (fun k => if_pos rfl) ?_)
  exact Ev.now true
theorem wf64' {x : Int} (h : (Lit.int .i64 x).wf = true) : x ≤ 9223372036854775807 := (wf64 h).2

end Go.Proofs.Ytmkcoobmbjoloaa.Base

/- Proved here: what Go functions of this seat compute, or a law of it; no condition beyond the statement's own. Written for this claim by a program of this session (wip/myprint.py) over the kit's print.py. -/
namespace Go.Proofs.Ytmkcoobmbjoloaa.P
open Go.RowKit Go.Proofs.YtmkcoobmbjoloaaW.PrintWords Go.Proofs.YtmkcoobmbjoloaaW.PrintLast Go.Proofs.YtmkcoobmbjoloaaW.PrintMore
attribute [local go_sem] max2_int min2_int max_two min_two max_three min_three max_four min_four   -- for this text's walks alone
set_option linter.unusedVariables false
set_option linter.unusedSimpArgs false

/-! ### juratref01_Same: function 26 -/
def juratref01_Same.l0 : Nat → List Int → List Int → Int → Option (Bool)
  | 0, _, _, _ => none
  | k + 1, x0, x1, x5 => if x5 < (x0.length : Int) then (if 0 ≤ x5 then (if x5 < (x1.length : Int) then (if (rd x0 x5) = (rd x1 x5) then (juratref01_Same.l0 k x0 x1 (wrap64 (x5 + 1))) else (some false)) else (none)) else (none)) else (some true)
def juratref01_Same.f (k : Nat) (l0 : List Int) (l1 : List Int) : Option (Bool) := if (l0.length : Int) = (l1.length : Int) then (juratref01_Same.l0 k l0 l1 0) else (some false)
theorem juratref01_Same.mono_l : ∀ k, (∀ y0 y1 y2, LeO (juratref01_Same.l0 k y0 y1 y2) (juratref01_Same.l0 (k + 1) y0 y1 y2))
  | 0 => fun _ _ _ r h => by simp [juratref01_Same.l0] at h
  | k + 1 => by
    have ih0 := juratref01_Same.mono_l k
    · intro y0 y1 y2
      unfold juratref01_Same.l0
      repeat' first
      | (with_reducible exact ih0 _ _ _)
      | (with_reducible exact LeO.refl _)
      | (with_reducible exact LeO.none _)
      | (with_reducible refine LeO.ite ?_ ?_)
      | (with_reducible refine LeO.bind ?_ (fun _ => ?_))
      | exact ih0 _ _ _
      | exact LeO.none _
      | refine LeO.ite ?_ ?_
      | refine LeO.bind ?_ (fun _ => ?_)
theorem juratref01_Same.mono : ∀ a0 a1 k, LeO (juratref01_Same.f k a0 a1) (juratref01_Same.f (k + 1) a0 a1) := by
  intro a0 a1 k
  have ih0 := juratref01_Same.mono_l k
  unfold juratref01_Same.f
  repeat' first
      | (with_reducible exact ih0 _ _ _)
      | (with_reducible exact LeO.refl _)
      | (with_reducible exact LeO.none _)
      | (with_reducible refine LeO.ite ?_ ?_)
      | (with_reducible refine LeO.bind ?_ (fun _ => ?_))
      | exact ih0 _ _ _
      | exact LeO.none _
      | refine LeO.ite ?_ ?_
      | refine LeO.bind ?_ (fun _ => ?_)
set_option maxHeartbeats 8000000 in
set_option maxRecDepth 100000 in
theorem juratref01_Same.calls (k : Nat) (A0 : Option Addr) (c0 : Nat) (l0 : List Int) (A1 : Option Addr) (c1 : Nat) (l1 : List Int) (r : Bool) (w : World) (hr0 : Kd.C (Kd.int .i64) w A0 l0.length l0) (hc0 : l0.length ≤ c0) (hr1 : Kd.C (Kd.int .i64) w A1 l1.length l1) (hc1 : l1.length ≤ c1) (h : juratref01_Same.f k l0 l1 = some r) :
    Calls Try.prog 26 #[.slice A0 l0.length c0, .slice A1 l1.length c1] w fun e w' => e = .returned (.bool r) ∧ Drawn0 w w' := by
  have HR0 := Aside0.mk hr0
  have HC0 := Aside0.mk hc0
  clear hr0 hc0
  have HR1 := Aside0.mk hr1
  have HC1 := Aside0.mk hc1
  clear hr1 hc1
  have H : (if (l0.length : Int) = (l1.length : Int) then (juratref01_Same.l0 k l0 l1 0) else (some false)) = some r := h
  clear h
  by_cases c3 : (l0.length : Int) = (l1.length : Int)
  · rw [if_pos c3] at H
    have c3b0 : ((l0.length : Int) == (l1.length : Int)) = true := beq_iff_eq.mpr c3
    have c3b1 : ((l0.length : Int) != (l1.length : Int)) = false := bne_eq_false_iff_eq.mpr c3
    have c3b2 : (l0.length == l1.length) = true := by first | simpa using c3 | (simp at c3 ⊢; omega)
    clear c3
    have H' := Aside0.mk H
    clear H
    go_enter Try.func26, Try.ntmps26
    go_wp2
    repeat (go_quiet (fail); try go_wp2)
    go_loopg [5] k (fun kq v5 w' => ∃ (x5_1 : Int), v5 = .int .i64 x5_1 ∧ Aside0 (juratref01_Same.l0 kq l0 l1 x5_1 = some r) ∧ Aside0 (kq ≤ k) ∧ Drawn0 w w')
    case atStart => exact ⟨(0), (by first | rfl | exact isE_ _ | exact isE2_ _ | (simp; done) | (simp [*]; done)), H', ⟨Nat.le_refl _⟩, by repeat (first | exact Drawn0.refl _ | apply Drawn0.step)⟩
    case round =>
      clear H'
      try clear c1
      try clear c2
      try clear p2
      try clear c3
      try clear c3b0
      try clear c3b1
      try clear c3b2
      obtain ⟨x5_1, rfl, HA, HK1, ⟨m1, rfl⟩⟩ := hrel
      cases gk with
      | zero => exact absurd HA.out (by simp [juratref01_Same.l0])
      | succ k1 =>
        have H := HA.out
        clear HA
        simp only [juratref01_Same.l0] at H
        by_cases c4 : x5_1 < (l0.length : Int)
        · rw [if_pos c4] at H
          have c4b0 : decide (x5_1 < (l0.length : Int)) = true := decide_eq_true c4
          clear c4
          by_cases c5 : 0 ≤ x5_1
          · rw [if_pos c5] at H
            have c5b0 : decide (0 ≤ x5_1) = true := decide_eq_true c5
            clear c5
            by_cases c6 : x5_1 < (l1.length : Int)
            · rw [if_pos c6] at H
              have c6b0 : decide (x5_1 < (l1.length : Int)) = true := decide_eq_true c6
              clear c6
              by_cases c7 : (rd l0 x5_1) = (rd l1 x5_1)
              · rw [if_pos c7] at H
                have c7b0 : ((rd l0 x5_1) == (rd l1 x5_1)) = true := beq_iff_eq.mpr c7
                have c7b1 : ((rd l0 x5_1) != (rd l1 x5_1)) = false := bne_eq_false_iff_eq.mpr c7
                clear c7
                have H' := Aside0.mk H
                clear H
                have p194 : 0 ≤ (x5_1 : Int) := of_decide_eq_true (by first | (with_reducible assumption) | assumption)
                have q194 : x5_1 < (l0.length : Int) := of_decide_eq_true (by first | (with_reducible assumption) | assumption)
                obtain ⟨ad194, e194, hx194_0⟩ := Kd.at_int HR0.out x5_1 p194 q194
                cases e194
                replace p194 := eq_true p194
                replace q194 := eq_true q194
                have p195 : 0 ≤ (x5_1 : Int) := of_decide_eq_true (by first | (with_reducible assumption) | assumption)
                have q195 : x5_1 < (l1.length : Int) := of_decide_eq_true (by first | (with_reducible assumption) | assumption)
                obtain ⟨ad195, e195, hx195_0⟩ := Kd.at_int HR1.out x5_1 p195 q195
                cases e195
                replace p195 := eq_true p195
                replace q195 := eq_true q195
                go_wp2
                repeat (go_quiet (fail); try go_wp2)
                go_roundg k1
                case measure => have := HK1.out; omega
                case rel => exact ⟨(wrap64 (x5_1 + 1)), (by first | rfl | exact isE_ _ | exact isE2_ _ | (simp; done) | (simp [*]; done)), H', ⟨by have := HK1.out; omega⟩, by repeat (first | exact Drawn0.refl _ | apply Drawn0.step)⟩
              · rw [if_neg c7] at H
                have c7b0 : ((rd l0 x5_1) == (rd l1 x5_1)) = false := beq_eq_false_iff_ne.mpr c7
                have c7b1 : ((rd l0 x5_1) != (rd l1 x5_1)) = true := bne_iff_ne.mpr c7
                obtain rfl := Option.some.inj H
                have p194 : 0 ≤ (x5_1 : Int) := of_decide_eq_true (by first | (with_reducible assumption) | assumption)
                have q194 : x5_1 < (l0.length : Int) := of_decide_eq_true (by first | (with_reducible assumption) | assumption)
                obtain ⟨ad194, e194, hx194_0⟩ := Kd.at_int HR0.out x5_1 p194 q194
                cases e194
                replace p194 := eq_true p194
                replace q194 := eq_true q194
                have p195 : 0 ≤ (x5_1 : Int) := of_decide_eq_true (by first | (with_reducible assumption) | assumption)
                have q195 : x5_1 < (l1.length : Int) := of_decide_eq_true (by first | (with_reducible assumption) | assumption)
                obtain ⟨ad195, e195, hx195_0⟩ := Kd.at_int HR1.out x5_1 p195 q195
                cases e195
                replace p195 := eq_true p195
                replace q195 := eq_true q195
                go_wp2
                repeat (go_quiet (fail); try go_wp2)
                go_ret
                exact ⟨by first | rfl | (simp; done) | (simp [*]; done), by repeat (first | exact Drawn0.refl _ | apply Drawn0.step)⟩
            · rw [if_neg c6] at H
              exact absurd H (by simp)
          · rw [if_neg c5] at H
            exact absurd H (by simp)
        · rw [if_neg c4] at H
          have c4b0 : decide (x5_1 < (l0.length : Int)) = false := decide_eq_false c4
          clear c4
          obtain rfl := Option.some.inj H
          go_wp2
          repeat (go_quiet (fail); try go_wp2)
          go_ret
          exact ⟨by first | rfl | (simp; done) | (simp [*]; done), by repeat (first | exact Drawn0.refl _ | apply Drawn0.step)⟩
  · rw [if_neg c3] at H
    have c3b0 : ((l0.length : Int) == (l1.length : Int)) = false := beq_eq_false_iff_ne.mpr c3
    have c3b1 : ((l0.length : Int) != (l1.length : Int)) = true := bne_iff_ne.mpr c3
    have c3b2 : (l0.length == l1.length) = false := by first | simpa using c3 | (simp at c3 ⊢; omega)
    obtain rfl := Option.some.inj H
    go_enter Try.func26, Try.ntmps26
    go_wp2
    repeat (go_quiet (fail); try go_wp2)
    go_ret
    exact ⟨by first | rfl | (simp; done) | (simp [*]; done), by repeat (first | exact Drawn0.refl _ | apply Drawn0.step)⟩

end Go.Proofs.Ytmkcoobmbjoloaa.P

/- Whether two lists of numbers are the same; no condition beyond the sizes that stand in each statement. -/
namespace Go.Proofs.Ytmkcoobmbjoloaa.Base
open Go Go.RowKit Go.Proofs.YtmkcoobmbjoloaaW.PrintWords Go.Proofs.YtmkcoobmbjoloaaW.PrintMore Go.Proofs.Ytmkcoobmbjoloaa.P

/-! the same numbers -/
theorem same1_l0 (a b : List Int) (he : a.length = b.length) (hm : a.length ≤ 9223372036854775807) : ∀ (d i : Nat), i + d = a.length →
    Ev (fun k => juratref01_Same.l0 k a b (i : Int)) (decide (a.drop i = b.drop i)) := by
  intro d
  induction d with
  | zero =>
    intro i hi
    refine Ev.ret fun k => ?_
    simp only [juratref01_Same.l0]
    rw [if_neg (by omega), List.drop_of_length_le (by omega), List.drop_of_length_le (by omega)]
    rfl
  | succ d ih =>
    intro i hi
    by_cases h : rd a (i : Int) = rd b (i : Int)
    · refine Ev.step (f := fun k => juratref01_Same.l0 k a b ((i + 1 : Nat) : Int)) (fun k => ?_) ?_
      · simp only [juratref01_Same.l0]
        rw [if_pos (by omega), if_pos (by omega), if_pos (by omega), if_pos h, wrap_id (by omega) (by omega)]
        rfl
      · have e : decide (a.drop i = b.drop i) = decide (a.drop (i + 1) = b.drop (i + 1)) := by
          rw [getD_drop a i 0 (by omega), getD_drop b i 0 (by omega)]
          have h' : a.getD i 0 = b.getD i 0 := h
          rw [h']
          simp
        rw [e]
        exact ih (i + 1) (by omega)
    · refine Ev.ret fun k => ?_
      simp only [juratref01_Same.l0]
      rw [if_pos (by omega), if_pos (by omega), if_pos (by omega), if_neg h]
      rw [getD_drop a i 0 (by omega), getD_drop b i 0 (by omega)]
      have h' : ¬ a.getD i 0 = b.getD i 0 := h
      rw [decide_eq_false (fun e => h' (List.cons.inj e).1)]
theorem same1 (a b : List Int) (hm : a.length ≤ 9223372036854775807) : Ev (fun k => juratref01_Same.f k a b) (decide (a = b)) := by
  by_cases he : a.length = b.length
  · have h := same1_l0 a b he hm a.length 0 (by omega)
    rw [List.drop_zero, List.drop_zero] at h
    refine Ev.congr (fun k => ?_) h
    unfold juratref01_Same.f
    rw [if_pos (by omega)]
    rfl
  · rw [decide_eq_false (fun e => he (by rw [e]))]
    refine Ev.const fun k => ?_
    unfold juratref01_Same.f
    rw [if_neg (by omega)]

end Go.Proofs.Ytmkcoobmbjoloaa.Base

/- How many hits end in each part: the chart, of the layer and of its reference; no condition beyond the sizes that stand in each statement. -/
namespace Go.Proofs.Ytmkcoobmbjoloaa.Base
open Go Go.RowKit Go.Proofs.YtmkcoobmbjoloaaW.PrintWords Go.Proofs.YtmkcoobmbjoloaaW.PrintMore Go.Proofs.Ytmkcoobmbjoloaa.P
set_option linter.unusedVariables false

/-- In which part a hit ends. -/
def partH (width : Int) (h : HitD) : Int := wrap64 (Int.tdiv (wrap64 (h.f0 - 1)) width)
def inPart (width : Int) (k : Nat) (h : HitD) : Bool := decide (h.f0 > 0 ∧ partH width h = (k : Int))
def chartB (width : Int) (parts : Nat) (l : List HitD) : List Int := (List.range parts).map fun k => ((l.countP (inPart width k) : Nat) : Int)
theorem chartB_length (width : Int) (parts : Nat) (l : List HitD) : (chartB width parts l).length = parts := by unfold chartB; simp
theorem chartB_at (width : Int) {parts : Nat} (l : List HitD) {k : Nat} (h : k < parts) : (chartB width parts l).getD k 0 = ((l.countP (inPart width k) : Nat) : Int) := by
  unfold chartB
  rw [List.getD_eq_getElem?_getD, List.getElem?_map, List.getElem?_range h]
  rfl
theorem part_nonneg {width : Int} {h : HitD} (hw : 1 ≤ width) (h0 : h.f0 > 0) (h1 : h.f0 ≤ 9223372036854775807) : partH width h = Int.tdiv (h.f0 - 1) width ∧ 0 ≤ partH width h := by
  have e : partH width h = Int.tdiv (h.f0 - 1) width := by
    unfold partH
    rw [wrap_id (x := h.f0 - 1) (by omega) (by omega)]
    have a := Int.tdiv_nonneg (show 0 ≤ h.f0 - 1 by omega) (show 0 ≤ width by omega)
    have b : Int.tdiv (h.f0 - 1) width ≤ h.f0 - 1 := by
      rw [Int.tdiv_eq_ediv_of_nonneg (by omega)]
      exact Int.ediv_le_self _ (by omega)
    rw [wrap_id (by omega) (by omega)]
  exact ⟨e, by rw [e]; exact Int.tdiv_nonneg (by omega) (by omega)⟩
theorem chart_l0 (l : List HitD) (width : Int) (hw : 1 ≤ width) (parts : Nat) (hp : parts ≤ 400) (hl : l.length ≤ 8796093022208) (hz : ∀ h ∈ l, h.f0 ≤ 9223372036854775807) : ∀ (d i : Nat), i + d = l.length →
    Ev (fun k => tally_Chart.l0 k width (parts : Int) (chartB width parts (l.take i)) l (l.length : Int) (i : Int)) (chartB width parts l) := by
  intro d
  induction d with
  | zero =>
    intro i hi
    refine Ev.ret fun k => ?_
    simp only [tally_Chart.l0]
    rw [if_neg (by omega), List.take_of_length_le (by omega)]
  | succ d ih =>
    intro i hi
    have e2 : rd_T64 l (i : Int) = l.getD i hit0 := rfl
    have hz1 := hz _ (getD_mem l i hit0 (by omega))
    have ht : l.take (i + 1) = l.take i ++ [l.getD i hit0] := by
      rw [List.take_succ_eq_append_getElem (by omega), List.getD_eq_getElem?_getD, List.getElem?_eq_getElem (by omega)]; rfl
    have ih' := ih (i + 1) (by omega)
    rw [ht] at ih'
    generalize l.getD i hit0 = x at e2 hz1 ih'
    have hdef : wrap64 (Int.tdiv (wrap64 (x.f0 - 1)) width) = partH width x := rfl
    have w1 : wrap64 ((i : Int) + 1) = ((i + 1 : Nat) : Int) := by rw [wrap_id (by omega) (by omega)]; rfl
    have hno : (∀ k, k < parts → inPart width k x = false) → chartB width parts (l.take i ++ [x]) = chartB width parts (l.take i) := fun h => by
      unfold chartB
      apply List.map_congr_left
      intro k hk
      rw [List.countP_append, List.countP_singleton, h k (List.mem_range.1 hk)]
      simp
    by_cases h0 : x.f0 > 0
    · obtain ⟨e, hpos⟩ := part_nonneg hw h0 hz1
      by_cases h1 : partH width x < (parts : Int)
      · obtain ⟨q, hq⟩ : ∃ q : Nat, partH width x = q := ⟨(partH width x).toNat, by omega⟩
        have hset : chartB width parts (l.take i ++ [x]) = (chartB width parts (l.take i)).set q ((chartB width parts (l.take i)).getD q 0 + 1) := by
          apply List.ext_getElem?
          intro k
          rw [List.getElem?_set]
          by_cases hk : k < parts
          · have hc : ∀ L, (chartB width parts L)[k]? = some ((L.countP (inPart width k) : Nat) : Int) := fun L => by
              unfold chartB; rw [List.getElem?_map, List.getElem?_range hk]; rfl
            rw [hc, hc, List.countP_append, List.countP_singleton]
            by_cases hqk : q = k
            · subst hqk
              have hin : inPart width q x = true := decide_eq_true ⟨h0, hq⟩
              have hlt : q < (chartB width parts (l.take i)).length := by rw [chartB_length]; exact hk
              rw [if_pos hin, if_pos rfl, if_pos hlt, chartB_at width _ hk]
              simp
            · rw [if_neg hqk, show inPart width k x = false from decide_eq_false (by rintro ⟨_, h⟩; omega)]
              simp
          · rw [List.getElem?_eq_none (by rw [chartB_length]; omega), List.getElem?_eq_none (by rw [chartB_length]; omega)]
            have : ¬ q = k := by omega
            rw [if_neg this]
        rw [hset] at ih'
        refine Ev.step (fun k => ?_) ih'
        have hcnt : (chartB width parts (l.take i)).getD q 0 ≤ (i : Int) := by
          rw [chartB_at width _ (by omega)]
          have := List.countP_le_length (p := inPart width q) (l := l.take i)
          rw [List.length_take] at this
          omega
        have hcnt0 : 0 ≤ (chartB width parts (l.take i)).getD q 0 := by rw [chartB_at width _ (by omega)]; omega
        have hrd : rd (chartB width parts (l.take i)) (q : Int) = (chartB width parts (l.take i)).getD q 0 := rfl
        simp only [tally_Chart.l0]
        rw [if_pos (by omega), if_pos (by omega), if_pos (by omega), if_neg (by omega), e2, if_pos h0, hdef, hq, if_pos (by omega), if_pos (by omega), if_pos (by rw [chartB_length]; omega), hrd, Int.toNat_natCast, wrap_id (x := _ + 1) (by omega) (by omega), w1]
      · rw [hno (fun k hk => decide_eq_false (by rintro ⟨_, h⟩; omega))] at ih'
        refine Ev.step (fun k => ?_) ih'
        simp only [tally_Chart.l0]
        rw [if_pos (by omega), if_pos (by omega), if_pos (by omega), if_neg (by omega), e2, if_pos h0, hdef, if_neg h1, w1]
    · rw [hno (fun k hk => decide_eq_false (by rintro ⟨h, _⟩; exact h0 h))] at ih'
      refine Ev.step (fun k => ?_) ih'
      simp only [tally_Chart.l0]
      rw [if_pos (by omega), if_pos (by omega), if_pos (by omega), if_neg (by omega), e2, if_neg h0, w1]
/-- The chart, none of what is no width or no number of parts. -/
def chartAll (l : List HitD) (width parts : Int) : List Int := if width < 1 ∨ parts < 0 ∨ parts > 400 then [] else chartB width parts.toNat l
theorem chart_ev (l : List HitD) (width parts : Int) (hl : l.length ≤ 8796093022208) (hz : ∀ h ∈ l, h.f0 ≤ 9223372036854775807) : Ev (fun k => tally_Chart.f k l width parts) (chartAll l width parts) := by
  have bad : Ev (fun k => tally_Chart.j0 k l width parts true) [] := Ev.ret fun k => by simp only [tally_Chart.j0]; rw [if_pos trivial]
  unfold tally_Chart.f chartAll
  by_cases h0 : width < 1
  · rw [if_pos (.inl h0)]
    exact Ev.congr (fun k => if_pos h0) bad
  refine Ev.congr (fun k => if_neg h0) ?_
  by_cases h1 : parts < 0
  · rw [if_pos (.inr (.inl h1))]
    exact Ev.congr (fun k => if_pos h1) bad
  refine Ev.congr (fun k => if_neg h1) ?_
  by_cases h2 : parts > 400
  · rw [if_pos (.inr (.inr h2)), decide_eq_true h2]
    exact bad
  rw [if_neg (by omega), decide_eq_false h2]
  obtain ⟨m, rfl⟩ : ∃ m : Nat, parts = m := ⟨parts.toNat, by omega⟩
  rw [Int.toNat_natCast]
  have e0 : chartB width m (l.take 0) = List.replicate m 0 := by
    unfold chartB
    rw [List.take_zero]
    refine List.eq_replicate_iff.2 ⟨by simp, fun b hb => ?_⟩
    obtain ⟨k, _, rfl⟩ := List.mem_map.1 hb
    rfl
  have := chart_l0 l width (by omega) m (by omega) hl hz l.length 0 (by omega)
  rw [e0] at this
  refine Ev.step (fun k => ?_) this
  simp only [tally_Chart.j0]
  rw [if_neg (by simp), if_pos (by omega), if_pos (by rw [Int.toNat_natCast]; omega), Int.toNat_natCast]
  rfl
theorem rchart_l1 (l : List HitD) (width : Int) (hw : 1 ≤ width) (parts : Int) (q : Nat) (out : List Int) (ho : out.length ≤ 400) (hl : l.length ≤ 8796093022208) (r : List Int) : ∀ (d i n : Nat), i + d = l.length → n ≤ i →
    Ev (fun k => juratref47_Chart.l0 k l width parts (out ++ [((n + (l.drop i).countP (inPart width q) : Nat) : Int)]) (wrap64 ((q : Int) + 1))) r → Ev (fun k => juratref47_Chart.l1 k l width parts out (q : Int) (n : Int) (i : Int)) r := by
  intro d
  induction d with
  | zero =>
    intro i n hi hn h
    rw [List.drop_of_length_le (by omega)] at h
    refine Ev.step (fun k => ?_) h
    simp only [juratref47_Chart.l1]
    rw [if_neg (by omega), if_pos (by omega)]
    rfl
  | succ d ih =>
    intro i n hi hn h
    have e2 : rd_T64 l (i : Int) = l.getD i hit0 := rfl
    rw [getD_drop l i hit0 (by omega), List.countP_cons] at h
    generalize l.getD i hit0 = x at e2 h
    have hdef : wrap64 (Int.tdiv (wrap64 (x.f0 - 1)) width) = partH width x := rfl
    have w1 : wrap64 ((i : Int) + 1) = ((i + 1 : Nat) : Int) := by rw [wrap_id (by omega) (by omega)]; rfl
    by_cases hp : inPart width q x = true
    · have hp' := of_decide_eq_true hp
      rw [if_pos hp, show n + ((l.drop (i + 1)).countP (inPart width q) + 1) = n + 1 + (l.drop (i + 1)).countP (inPart width q) by omega] at h
      refine Ev.step (fun k => ?_) (ih (i + 1) (n + 1) (by omega) (by omega) h)
      simp only [juratref47_Chart.l1]
      rw [if_pos (by omega), if_pos (by omega), e2, if_pos hp'.1, if_neg (by omega), hdef, if_pos hp'.2, wrap_id (x := (n : Int) + 1) (by omega) (by omega), w1]
      rfl
    · rw [if_neg hp, Nat.add_zero] at h
      refine Ev.step (fun k => ?_) (ih (i + 1) n (by omega) (by omega) h)
      simp only [juratref47_Chart.l1]
      rw [if_pos (by omega), if_pos (by omega), e2]
      by_cases h0 : x.f0 > 0
      · rw [if_pos h0, if_neg (by omega), hdef, if_neg (fun h2 => hp (decide_eq_true ⟨h0, h2⟩)), w1]
      · rw [if_neg h0, w1]
theorem rchart_l0 (l : List HitD) (width : Int) (hw : 1 ≤ width) (parts : Nat) (hp : parts ≤ 400) (hl : l.length ≤ 8796093022208) : ∀ (d q : Nat), q + d = parts →
    Ev (fun k => juratref47_Chart.l0 k l width (parts : Int) (chartB width q l) (q : Int)) (chartB width parts l) := by
  intro d
  induction d with
  | zero =>
    intro q hq
    obtain rfl : q = parts := by omega
    refine Ev.ret fun k => ?_
    simp only [juratref47_Chart.l0]
    rw [if_neg (by omega)]
  | succ d ih =>
    intro q hq
    have := ih (q + 1) (by omega)
    have e : chartB width (q + 1) l = chartB width q l ++ [((l.countP (inPart width q) : Nat) : Int)] := by unfold chartB; rw [List.range_succ, List.map_append]; rfl
    rw [e] at this
    refine Ev.step (f := fun k => juratref47_Chart.l1 k l width (parts : Int) (chartB width q l) (q : Int) ((0 : Nat) : Int) ((0 : Nat) : Int)) (fun k => ?_) (rchart_l1 l width hw (parts : Int) q _ (by rw [chartB_length]; omega) hl _ l.length 0 0 (by omega) (Nat.le_refl _) ?_)
    · simp only [juratref47_Chart.l0]
      rw [if_pos (by omega)]
      rfl
    · rw [List.drop_zero, Nat.zero_add, wrap_id (by omega) (by omega)]
      exact this
theorem rchart_ev (l : List HitD) (width parts : Int) (hl : l.length ≤ 8796093022208) : Ev (fun k => juratref47_Chart.f k l width parts) (chartAll l width parts) := by
  have bad : Ev (fun k => juratref47_Chart.j0 k l width parts [] true) [] := Ev.ret fun k => by simp only [juratref47_Chart.j0]; rw [if_pos trivial]
  unfold juratref47_Chart.f chartAll
  refine Ev.bind (Ev.now _) ?_
  by_cases h0 : width < 1
  · rw [if_pos (.inl h0)]
    exact Ev.congr (fun k => if_pos h0) bad
  refine Ev.congr (fun k => if_neg h0) ?_
  by_cases h1 : parts < 0
  · rw [if_pos (.inr (.inl h1))]
    exact Ev.congr (fun k => if_pos h1) bad
  refine Ev.congr (fun k => if_neg h1) ?_
  by_cases h2 : parts > 400
  · rw [if_pos (.inr (.inr h2)), decide_eq_true h2]
    exact bad
  rw [if_neg (by omega), decide_eq_false h2]
  obtain ⟨m, rfl⟩ : ∃ m : Nat, parts = m := ⟨parts.toNat, by omega⟩
  rw [Int.toNat_natCast]
  refine Ev.step (f := fun k => juratref47_Chart.l0 k l width (m : Int) (chartB width 0 l) ((0 : Nat) : Int)) (fun k => ?_) (rchart_l0 l width (by omega) m (by omega) hl m 0 (by omega))
  simp only [juratref47_Chart.j0]
  rw [if_neg (by simp)]
  rfl

end Go.Proofs.Ytmkcoobmbjoloaa.Base

/- Proved here: what Go functions of this seat compute, or a law of it; no condition beyond the statement's own. Written for this claim by a program of this session (wip/myprint.py) over the kit's print.py. -/
namespace Go.Proofs.Ytmkcoobmbjoloaa.P
open Go.RowKit Go.Proofs.YtmkcoobmbjoloaaW.PrintWords Go.Proofs.YtmkcoobmbjoloaaW.PrintLast Go.Proofs.YtmkcoobmbjoloaaW.PrintMore
attribute [local go_sem] max2_int min2_int max_two min_two max_three min_three max_four min_four   -- for this text's walks alone
set_option linter.unusedVariables false
set_option linter.unusedSimpArgs false

/-! ### juratref47_Within: function 90 -/
def juratref47_Within.l0 : Nat → List (S64) → Int → Int → Int → Int → Option (Int)
  | 0, _, _, _, _, _ => none
  | k + 1, x0, x1, x2, x7, x8 => if x8 < (x0.length : Int) then (if 0 ≤ x8 then (if ((rd_T64 x0 x8).f0) ≥ x1 then (if (wrap64 (((rd_T64 x0 x8).f0) - x1)) < x2 then (juratref47_Within.l0 k x0 x1 x2 (wrap64 (x7 + 1)) (wrap64 (x8 + 1))) else (juratref47_Within.l0 k x0 x1 x2 x7 (wrap64 (x8 + 1)))) else (juratref47_Within.l0 k x0 x1 x2 x7 (wrap64 (x8 + 1)))) else (none)) else (some x7)
def juratref47_Within.f (k : Nat) (l0 : List (S64)) (a1 : Int) (a2 : Int) : Option (Int) := juratref47_Within.l0 k l0 a1 a2 0 0
theorem juratref47_Within.mono_l : ∀ k, (∀ y0 y1 y2 y3 y4, LeO (juratref47_Within.l0 k y0 y1 y2 y3 y4) (juratref47_Within.l0 (k + 1) y0 y1 y2 y3 y4))
  | 0 => fun _ _ _ _ _ r h => by simp [juratref47_Within.l0] at h
  | k + 1 => by
    have ih0 := juratref47_Within.mono_l k
    · intro y0 y1 y2 y3 y4
      unfold juratref47_Within.l0
      repeat' first
      | (with_reducible exact ih0 _ _ _ _ _)
      | (with_reducible exact LeO.refl _)
      | (with_reducible exact LeO.none _)
      | (with_reducible refine LeO.ite ?_ ?_)
      | (with_reducible refine LeO.bind ?_ (fun _ => ?_))
      | exact ih0 _ _ _ _ _
      | exact LeO.none _
      | refine LeO.ite ?_ ?_
      | refine LeO.bind ?_ (fun _ => ?_)
theorem juratref47_Within.mono : ∀ a0 a1 a2 k, LeO (juratref47_Within.f k a0 a1 a2) (juratref47_Within.f (k + 1) a0 a1 a2) := by
  intro a0 a1 a2 k
  have ih0 := juratref47_Within.mono_l k
  unfold juratref47_Within.f
  repeat' first
      | (with_reducible exact ih0 _ _ _ _ _)
      | (with_reducible exact LeO.refl _)
      | (with_reducible exact LeO.none _)
      | (with_reducible refine LeO.ite ?_ ?_)
      | (with_reducible refine LeO.bind ?_ (fun _ => ?_))
      | exact ih0 _ _ _ _ _
      | exact LeO.none _
      | refine LeO.ite ?_ ?_
      | refine LeO.bind ?_ (fun _ => ?_)
set_option maxHeartbeats 8000000 in
set_option maxRecDepth 100000 in
theorem juratref47_Within.calls (k : Nat) (A0 : Option Addr) (c0 : Nat) (l0 : List (S64)) (a1 : Int) (a2 : Int) (r : Int) (w : World) (hr0 : Kd.C k64 w A0 l0.length l0) (hc0 : l0.length ≤ c0) (h : juratref47_Within.f k l0 a1 a2 = some r) :
    Calls Try.prog 90 #[.slice A0 l0.length c0, .int .i64 a1, .int .i64 a2] w fun e w' => e = .returned (.int .i64 r) ∧ Drawn0 w w' := by
  have HR0 := Aside0.mk hr0
  have HC0 := Aside0.mk hc0
  clear hr0 hc0
  have H : (juratref47_Within.l0 k l0 a1 a2 0 0) = some r := h
  clear h
  have H' := Aside0.mk H
  clear H
  go_enter Try.func90, Try.ntmps90
  go_wp2
  go_loopg [7, 8] k (fun kq v7 v8 w' => ∃ (x7_1 : Int) (x8_1 : Int), v7 = .int .i64 x7_1 ∧ v8 = .int .i64 x8_1 ∧ Aside0 (juratref47_Within.l0 kq l0 a1 a2 x7_1 x8_1 = some r) ∧ Aside0 (kq ≤ k) ∧ Drawn0 w w')
  case atStart => exact ⟨(0), (0), (by first | rfl | exact isE_ _ | exact isE2_ _ | (simp; done) | (simp [*]; done)), (by first | rfl | exact isE_ _ | exact isE2_ _ | (simp; done) | (simp [*]; done)), H', ⟨Nat.le_refl _⟩, by repeat (first | exact Drawn0.refl _ | apply Drawn0.step)⟩
  case round =>
    clear H'
    try clear p2
    obtain ⟨x7_1, x8_1, rfl, rfl, HA, HK1, ⟨m1, rfl⟩⟩ := hrel
    cases gk with
    | zero => exact absurd HA.out (by simp [juratref47_Within.l0])
    | succ k1 =>
      have H := HA.out
      clear HA
      simp only [juratref47_Within.l0] at H
      by_cases c4 : x8_1 < (l0.length : Int)
      · rw [if_pos c4] at H
        have c4b0 : decide (x8_1 < (l0.length : Int)) = true := decide_eq_true c4
        clear c4
        by_cases c5 : 0 ≤ x8_1
        · rw [if_pos c5] at H
          have c5b0 : decide (0 ≤ x8_1) = true := decide_eq_true c5
          clear c5
          by_cases c6 : ((rd_T64 l0 x8_1).f0) ≥ a1
          · rw [if_pos c6] at H
            have c6b0 : decide (a1 ≤ ((rd_T64 l0 x8_1).f0)) = true := decide_eq_true c6
            clear c6
            by_cases c7 : (wrap64 (((rd_T64 l0 x8_1).f0) - a1)) < a2
            · rw [if_pos c7] at H
              have c7b0 : decide ((wrap64 (((rd_T64 l0 x8_1).f0) - a1)) < a2) = true := decide_eq_true c7
              clear c7
              have H' := Aside0.mk H
              clear H
              have p402 : 0 ≤ (x8_1 : Int) := of_decide_eq_true (by first | (with_reducible assumption) | assumption)
              have q402 : x8_1 < (l0.length : Int) := of_decide_eq_true (by first | (with_reducible assumption) | assumption)
              obtain ⟨ad402, e402, hx402_0, hx402_1⟩ := at_T64 HR0.out x8_1 p402 q402
              cases e402
              replace p402 := eq_true p402
              replace q402 := eq_true q402
              have p403 : 0 ≤ (x8_1 : Int) := of_decide_eq_true (by first | (with_reducible assumption) | assumption)
              have q403 : x8_1 < (l0.length : Int) := of_decide_eq_true (by first | (with_reducible assumption) | assumption)
              obtain ⟨ad403, e403, hx403_0, hx403_1⟩ := at_T64 HR0.out x8_1 p403 q403
              obtain rfl : ad402 = ad403 := (by injection e403)
              replace p403 := eq_true p403
              replace q403 := eq_true q403
              go_wp2
              go_roundg k1
              case measure => have := HK1.out; omega
              case rel => exact ⟨(wrap64 (x7_1 + 1)), (wrap64 (x8_1 + 1)), (by first | rfl | exact isE_ _ | exact isE2_ _ | (simp; done) | (simp [*]; done)), (by first | rfl | exact isE_ _ | exact isE2_ _ | (simp; done) | (simp [*]; done)), H', ⟨by have := HK1.out; omega⟩, by repeat (first | exact Drawn0.refl _ | apply Drawn0.step)⟩
            · rw [if_neg c7] at H
              have c7b0 : decide ((wrap64 (((rd_T64 l0 x8_1).f0) - a1)) < a2) = false := decide_eq_false c7
              clear c7
              have H' := Aside0.mk H
              clear H
              have p402 : 0 ≤ (x8_1 : Int) := of_decide_eq_true (by first | (with_reducible assumption) | assumption)
              have q402 : x8_1 < (l0.length : Int) := of_decide_eq_true (by first | (with_reducible assumption) | assumption)
              obtain ⟨ad402, e402, hx402_0, hx402_1⟩ := at_T64 HR0.out x8_1 p402 q402
              cases e402
              replace p402 := eq_true p402
              replace q402 := eq_true q402
              have p403 : 0 ≤ (x8_1 : Int) := of_decide_eq_true (by first | (with_reducible assumption) | assumption)
              have q403 : x8_1 < (l0.length : Int) := of_decide_eq_true (by first | (with_reducible assumption) | assumption)
              obtain ⟨ad403, e403, hx403_0, hx403_1⟩ := at_T64 HR0.out x8_1 p403 q403
              obtain rfl : ad402 = ad403 := (by injection e403)
              replace p403 := eq_true p403
              replace q403 := eq_true q403
              go_wp2
              go_roundg k1
              case measure => have := HK1.out; omega
              case rel => exact ⟨(x7_1), (wrap64 (x8_1 + 1)), (by first | rfl | exact isE_ _ | exact isE2_ _ | (simp; done) | (simp [*]; done)), (by first | rfl | exact isE_ _ | exact isE2_ _ | (simp; done) | (simp [*]; done)), H', ⟨by have := HK1.out; omega⟩, by repeat (first | exact Drawn0.refl _ | apply Drawn0.step)⟩
          · rw [if_neg c6] at H
            have c6b0 : decide (a1 ≤ ((rd_T64 l0 x8_1).f0)) = false := decide_eq_false c6
            clear c6
            have H' := Aside0.mk H
            clear H
            have p402 : 0 ≤ (x8_1 : Int) := of_decide_eq_true (by first | (with_reducible assumption) | assumption)
            have q402 : x8_1 < (l0.length : Int) := of_decide_eq_true (by first | (with_reducible assumption) | assumption)
            obtain ⟨ad402, e402, hx402_0, hx402_1⟩ := at_T64 HR0.out x8_1 p402 q402
            cases e402
            replace p402 := eq_true p402
            replace q402 := eq_true q402
            go_wp2
            go_roundg k1
            case measure => have := HK1.out; omega
            case rel => exact ⟨(x7_1), (wrap64 (x8_1 + 1)), (by first | rfl | exact isE_ _ | exact isE2_ _ | (simp; done) | (simp [*]; done)), (by first | rfl | exact isE_ _ | exact isE2_ _ | (simp; done) | (simp [*]; done)), H', ⟨by have := HK1.out; omega⟩, by repeat (first | exact Drawn0.refl _ | apply Drawn0.step)⟩
        · rw [if_neg c5] at H
          exact absurd H (by simp)
      · rw [if_neg c4] at H
        have c4b0 : decide (x8_1 < (l0.length : Int)) = false := decide_eq_false c4
        clear c4
        obtain rfl := Option.some.inj H
        go_wp2
        go_ret
        exact ⟨by first | rfl | (simp; done) | (simp [*]; done), by repeat (first | exact Drawn0.refl _ | apply Drawn0.step)⟩

end Go.Proofs.Ytmkcoobmbjoloaa.P

/- Proved here: what Go functions of this seat compute, or a law of it; no condition beyond the statement's own. Written for this claim by a program of this session (wip/myprint.py) over the kit's print.py. -/
namespace Go.Proofs.Ytmkcoobmbjoloaa.P
open Go.RowKit Go.Proofs.YtmkcoobmbjoloaaW.PrintWords Go.Proofs.YtmkcoobmbjoloaaW.PrintLast Go.Proofs.YtmkcoobmbjoloaaW.PrintMore
attribute [local go_sem] max2_int min2_int max_two min_two max_three min_three max_four min_four   -- for this text's walks alone
set_option linter.unusedVariables false
set_option linter.unusedSimpArgs false

/-! ### juratref47_Busy: function 55 -/
def juratref47_Busy.l0 : Nat → List (S64) → Int → Int → Int → Int → Option (Int × Int)
  | 0, _, _, _, _, _ => none
  | k + 1, x0, x1, x6, x7, x8 => if x8 < (x0.length : Int) then (if 0 ≤ x8 then ((juratref47_Within.f k x0 ((rd_T64 x0 x8).f0) x1).bind fun t405 => (if t405 > x7 then (juratref47_Busy.l0 k x0 x1 ((rd_T64 x0 x8).f0) t405 (wrap64 (x8 + 1))) else (juratref47_Busy.l0 k x0 x1 x6 x7 (wrap64 (x8 + 1))))) else (none)) else (some (x6, x7))
def juratref47_Busy.f (k : Nat) (l0 : List (S64)) (a1 : Int) : Option (Int × Int) := juratref47_Busy.l0 k l0 a1 0 0 0
theorem juratref47_Busy.mono_l : ∀ k, (∀ y0 y1 y2 y3 y4, LeO (juratref47_Busy.l0 k y0 y1 y2 y3 y4) (juratref47_Busy.l0 (k + 1) y0 y1 y2 y3 y4))
  | 0 => fun _ _ _ _ _ r h => by simp [juratref47_Busy.l0] at h
  | k + 1 => by
    have ih0 := juratref47_Busy.mono_l k
    · intro y0 y1 y2 y3 y4
      unfold juratref47_Busy.l0
      repeat' first
      | (with_reducible exact ih0 _ _ _ _ _)
      | (with_reducible exact juratref47_Within.mono _ _ _ _)
      | (with_reducible exact LeO.refl _)
      | (with_reducible exact LeO.none _)
      | (with_reducible refine LeO.ite ?_ ?_)
      | (with_reducible refine LeO.bind ?_ (fun _ => ?_))
      | exact ih0 _ _ _ _ _
      | exact juratref47_Within.mono _ _ _ _
      | exact LeO.none _
      | refine LeO.ite ?_ ?_
      | refine LeO.bind ?_ (fun _ => ?_)
theorem juratref47_Busy.mono : ∀ a0 a1 k, LeO (juratref47_Busy.f k a0 a1) (juratref47_Busy.f (k + 1) a0 a1) := by
  intro a0 a1 k
  have ih0 := juratref47_Busy.mono_l k
  unfold juratref47_Busy.f
  repeat' first
      | (with_reducible exact ih0 _ _ _ _ _)
      | (with_reducible exact juratref47_Within.mono _ _ _ _)
      | (with_reducible exact LeO.refl _)
      | (with_reducible exact LeO.none _)
      | (with_reducible refine LeO.ite ?_ ?_)
      | (with_reducible refine LeO.bind ?_ (fun _ => ?_))
      | exact ih0 _ _ _ _ _
      | exact juratref47_Within.mono _ _ _ _
      | exact LeO.none _
      | refine LeO.ite ?_ ?_
      | refine LeO.bind ?_ (fun _ => ?_)
set_option maxHeartbeats 8000000 in
set_option maxRecDepth 100000 in
theorem juratref47_Busy.calls (k : Nat) (A0 : Option Addr) (c0 : Nat) (l0 : List (S64)) (a1 : Int) (r1 : Int) (r2 : Int) (w : World) (hr0 : Kd.C k64 w A0 l0.length l0) (hc0 : l0.length ≤ c0) (h : juratref47_Busy.f k l0 a1 = some (r1, r2)) :
    Calls Try.prog 55 #[.slice A0 l0.length c0, .int .i64 a1] w fun e w' => e = .returned (.tuple #[.int .i64 r1, .int .i64 r2]) ∧ Drawn0 w w' := by
  have HR0 := Aside0.mk hr0
  have HC0 := Aside0.mk hc0
  clear hr0 hc0
  have H : (juratref47_Busy.l0 k l0 a1 0 0 0) = some (r1, r2) := h
  clear h
  have H' := Aside0.mk H
  clear H
  go_enter Try.func55, Try.ntmps55
  go_wp2
  go_loopg [6, 7, 8] k (fun kq v6 v7 v8 w' => ∃ (x6_1 : Int) (x7_1 : Int) (x8_1 : Int), v6 = .int .i64 x6_1 ∧ v7 = .int .i64 x7_1 ∧ v8 = .int .i64 x8_1 ∧ Aside0 (juratref47_Busy.l0 kq l0 a1 x6_1 x7_1 x8_1 = some (r1, r2)) ∧ Aside0 (kq ≤ k) ∧ Drawn0 w w')
  case atStart => exact ⟨(0), (0), (0), (by first | rfl | exact isE_ _ | exact isE2_ _ | (simp; done) | (simp [*]; done)), (by first | rfl | exact isE_ _ | exact isE2_ _ | (simp; done) | (simp [*]; done)), (by first | rfl | exact isE_ _ | exact isE2_ _ | (simp; done) | (simp [*]; done)), H', ⟨Nat.le_refl _⟩, by repeat (first | exact Drawn0.refl _ | apply Drawn0.step)⟩
  case round =>
    clear H'
    try clear p2
    obtain ⟨x6_1, x7_1, x8_1, rfl, rfl, rfl, HA, HK1, ⟨m1, rfl⟩⟩ := hrel
    cases gk with
    | zero => exact absurd HA.out (by simp [juratref47_Busy.l0])
    | succ k1 =>
      have H := HA.out
      clear HA
      simp only [juratref47_Busy.l0] at H
      by_cases c3 : x8_1 < (l0.length : Int)
      · rw [if_pos c3] at H
        have c3b0 : decide (x8_1 < (l0.length : Int)) = true := decide_eq_true c3
        clear c3
        by_cases c4 : 0 ≤ x8_1
        · rw [if_pos c4] at H
          have c4b0 : decide (0 ≤ x8_1) = true := decide_eq_true c4
          clear c4
          replace H := Option.bind_eq_some_iff.mp H
          obtain ⟨t405, A50, H⟩ := H
          replace H : (if t405 > x7_1 then (juratref47_Busy.l0 k1 l0 a1 ((rd_T64 l0 x8_1).f0) t405 (wrap64 (x8_1 + 1))) else (juratref47_Busy.l0 k1 l0 a1 x6_1 x7_1 (wrap64 (x8_1 + 1)))) = some (r1, r2) := H
          have A5 := Aside0.mk A50
          clear A50
          by_cases c6 : t405 > x7_1
          · rw [if_pos c6] at H
            have c6b0 : decide (x7_1 < t405) = true := decide_eq_true c6
            clear c6
            have H' := Aside0.mk H
            clear H
            have p404 : 0 ≤ (x8_1 : Int) := of_decide_eq_true (by first | (with_reducible assumption) | assumption)
            have q404 : x8_1 < (l0.length : Int) := of_decide_eq_true (by first | (with_reducible assumption) | assumption)
            obtain ⟨ad404, e404, hx404_0, hx404_1⟩ := at_T64 HR0.out x8_1 p404 q404
            cases e404
            replace p404 := eq_true p404
            replace q404 := eq_true q404
            go_wp2_with (first | ((with_reducible refine gate_callee (f := 90) rfl ?_); refine goesL_ (some 23) rfl rfl Try.func90 (by kernel_rfl) rfl #[.slice (some ad404) l0.length c0, .int .i64 ((rd_T64 l0 x8_1).f0), .int .i64 a1] rfl (by (try simp only [List.map_toArray, List.map_cons, List.map_nil]); first | done | rfl | (simp only [List.length_drop, List.length_take]; rfl)) ?_; (with_reducible refine (juratref47_Within.calls k1 _ _ l0 ((rd_T64 l0 x8_1).f0) a1 t405 _ ?side1 ?side2 A5.out).mono ?_); (case side1 => repeat (first | exact HR0.out | (with_reducible refine Kd.C_alloc ?_ _) | (with_reducible refine Kd.C_drewN ?_ _) | (with_reducible refine Kd.C_drew ?_))); (case side2 => exact HC0.out); rintro e w' ⟨rfl, ⟨nd, rfl⟩⟩; refine ⟨_, rfl, ?_⟩; have p406 : 0 ≤ (x8_1 : Int) := of_decide_eq_true (by first | (with_reducible assumption) | assumption); have q406 : x8_1 < (l0.length : Int) := of_decide_eq_true (by first | (with_reducible assumption) | assumption); obtain ⟨ad406, e406, hx406_0, hx406_1⟩ := at_T64 HR0.out x8_1 p406 q406; obtain rfl : ad404 = ad406 := (by injection e406); replace p406 := eq_true p406; replace q406 := eq_true q406))
            go_roundg k1
            case measure => have := HK1.out; omega
            case rel => exact ⟨((rd_T64 l0 x8_1).f0), (t405), (wrap64 (x8_1 + 1)), (by first | rfl | exact isE_ _ | exact isE2_ _ | (simp; done) | (simp [*]; done)), (by first | rfl | exact isE_ _ | exact isE2_ _ | (simp; done) | (simp [*]; done)), (by first | rfl | exact isE_ _ | exact isE2_ _ | (simp; done) | (simp [*]; done)), H', ⟨by have := HK1.out; omega⟩, by repeat (first | exact Drawn0.refl _ | apply Drawn0.step)⟩
          · rw [if_neg c6] at H
            have c6b0 : decide (x7_1 < t405) = false := decide_eq_false c6
            clear c6
            have H' := Aside0.mk H
            clear H
            have p404 : 0 ≤ (x8_1 : Int) := of_decide_eq_true (by first | (with_reducible assumption) | assumption)
            have q404 : x8_1 < (l0.length : Int) := of_decide_eq_true (by first | (with_reducible assumption) | assumption)
            obtain ⟨ad404, e404, hx404_0, hx404_1⟩ := at_T64 HR0.out x8_1 p404 q404
            cases e404
            replace p404 := eq_true p404
            replace q404 := eq_true q404
            go_wp2_with (first | ((with_reducible refine gate_callee (f := 90) rfl ?_); refine goesL_ (some 23) rfl rfl Try.func90 (by kernel_rfl) rfl #[.slice (some ad404) l0.length c0, .int .i64 ((rd_T64 l0 x8_1).f0), .int .i64 a1] rfl (by (try simp only [List.map_toArray, List.map_cons, List.map_nil]); first | done | rfl | (simp only [List.length_drop, List.length_take]; rfl)) ?_; (with_reducible refine (juratref47_Within.calls k1 _ _ l0 ((rd_T64 l0 x8_1).f0) a1 t405 _ ?side1 ?side2 A5.out).mono ?_); (case side1 => repeat (first | exact HR0.out | (with_reducible refine Kd.C_alloc ?_ _) | (with_reducible refine Kd.C_drewN ?_ _) | (with_reducible refine Kd.C_drew ?_))); (case side2 => exact HC0.out); rintro e w' ⟨rfl, ⟨nd, rfl⟩⟩; refine ⟨_, rfl, ?_⟩))
            go_roundg k1
            case measure => have := HK1.out; omega
            case rel => exact ⟨(x6_1), (x7_1), (wrap64 (x8_1 + 1)), (by first | rfl | exact isE_ _ | exact isE2_ _ | (simp; done) | (simp [*]; done)), (by first | rfl | exact isE_ _ | exact isE2_ _ | (simp; done) | (simp [*]; done)), (by first | rfl | exact isE_ _ | exact isE2_ _ | (simp; done) | (simp [*]; done)), H', ⟨by have := HK1.out; omega⟩, by repeat (first | exact Drawn0.refl _ | apply Drawn0.step)⟩
        · rw [if_neg c4] at H
          exact absurd H (by simp)
      · rw [if_neg c3] at H
        have c3b0 : decide (x8_1 < (l0.length : Int)) = false := decide_eq_false c3
        clear c3
        simp only [Option.some.injEq, Prod.mk.injEq] at H
        obtain ⟨rfl, rfl⟩ := H
        go_wp2
        go_ret2
        exact ⟨by first | rfl | (simp; done) | (simp [*]; done), by repeat (first | exact Drawn0.refl _ | apply Drawn0.step)⟩

end Go.Proofs.Ytmkcoobmbjoloaa.P

/- Where hits are busiest, by the layer and by its reference, of hits whose ends do not fall; no condition beyond those in each statement. -/
namespace Go.Proofs.Ytmkcoobmbjoloaa.Base
open Go Go.RowKit Go.Proofs.YtmkcoobmbjoloaaW.PrintWords Go.Proofs.YtmkcoobmbjoloaaW.PrintMore Go.Proofs.Ytmkcoobmbjoloaa.P
set_option linter.unusedVariables false
set_option linter.unusedSectionVars false

/-- The end of a hit. -/
abbrev endH (l : List HitD) (i : Nat) : Int := (l.getD i hit0).f0
/-- How many hits end ahead of an end. -/
def cBelow (l : List HitD) (x : Int) : Nat := l.countP fun h => decide (h.f0 < x)
abbrev NoFall (l : List HitD) : Prop := l.Pairwise fun a b => a.f0 ≤ b.f0
theorem cBelow_le (l : List HitD) (x : Int) : cBelow l x ≤ l.length := List.countP_le_length
theorem cBelow_mono (l : List HitD) {x y : Int} (h : x ≤ y) : cBelow l x ≤ cBelow l y := by
  unfold cBelow
  apply List.countP_mono_left
  intro a _ ha
  have := of_decide_eq_true ha
  exact decide_eq_true (by omega)
theorem below_iff : ∀ {l : List HitD}, NoFall l → ∀ (x : Int) (j : Nat), j < l.length → (endH l j < x ↔ j < cBelow l x)
  | [], _, x, j, h => by simp at h
  | a :: l, hn, x, j, h => by
    obtain ⟨h1, h2⟩ := List.pairwise_cons.1 hn
    by_cases ha : a.f0 < x
    · have e : cBelow (a :: l) x = cBelow l x + 1 := by unfold cBelow; rw [List.countP_cons_of_pos (by simpa using ha)]
      rw [e]
      cases j with
      | zero => simp only [endH, List.getD_cons_zero]; exact ⟨fun _ => by omega, fun _ => ha⟩
      | succ j =>
        have := below_iff h2 x j (by simpa using h)
        simp only [endH, List.getD_cons_succ] at this ⊢
        rw [this]
        omega
    · have e : cBelow (a :: l) x = 0 := by
        unfold cBelow
        rw [List.countP_eq_zero]
        intro b hb
        rcases List.mem_cons.1 hb with rfl | hb
        · simpa using ha
        · have := h1 b hb
          simp only [decide_eq_true_eq]
          omega
      rw [e]
      have hge : a.f0 ≤ endH (a :: l) j := by
        cases j with
        | zero => exact Int.le_refl _
        | succ j =>
          simp only [endH, List.getD_cons_succ]
          exact h1 _ (getD_mem l j hit0 (by simpa using h))
      constructor
      · intro h'; omega
      · intro h'; omega
theorem endH_mono {l : List HitD} (h : NoFall l) {i j : Nat} (hij : i ≤ j) (hj : j < l.length) : endH l i ≤ endH l j := by
  by_cases hc : endH l i ≤ endH l j
  · exact hc
  · have := (below_iff h (endH l i) j hj).1 (by omega)
    have h2 : ¬ i < cBelow l (endH l i) := fun h' => by have := (below_iff h (endH l i) i (by omega)).2 h'; omega
    omega
/-- How many hits end from one on, within a width. -/
def winB (l : List HitD) (width : Int) (i : Nat) : Nat := cBelow l (endH l i + width) - cBelow l (endH l i)
theorem within_count (l : List HitD) {a width : Int} (hw : 1 ≤ width) : l.countP (fun h => decide (h.f0 ≥ a ∧ h.f0 - a < width)) = cBelow l (a + width) - cBelow l a := by
  have : cBelow l (a + width) = cBelow l a + l.countP (fun h => decide (h.f0 ≥ a ∧ h.f0 - a < width)) := by
    unfold cBelow
    induction l with
    | nil => rfl
    | cons x l ih =>
      rw [List.countP_cons, List.countP_cons, List.countP_cons, ih]
      by_cases h1 : x.f0 < a
      · rw [if_pos (by simpa using (show x.f0 < a + width by omega)), if_pos (by simpa using h1), if_neg (by simp; omega)]
        omega
      · by_cases h2 : x.f0 < a + width
        · rw [if_pos (by simpa using h2), if_neg (by simpa using h1), if_pos (by simp; omega)]
          omega
        · rw [if_neg (by simpa using h2), if_neg (by simpa using h1), if_neg (by simp; omega)]
          omega
  omega
/-- What is asked of a busiest place. -/
def BusySpec (l : List HitD) (width : Int) (r : Int × Int) : Prop :=
  (l.length = 0 ∧ r = (0, 0)) ∨ ∃ a, a < l.length ∧ r = (endH l a, (winB l width a : Int)) ∧ (∀ j, j < l.length → winB l width j ≤ winB l width a) ∧ ∀ j, j < a → winB l width j < winB l width a
theorem spec_one {l : List HitD} {width : Int} {r q : Int × Int} (h : BusySpec l width r) (k : BusySpec l width q) : r = q := by
  rcases h with ⟨h0, rfl⟩ | ⟨a, ha, rfl, h1, h2⟩
  · rcases k with ⟨_, rfl⟩ | ⟨b, hb, _⟩
    · rfl
    · omega
  · rcases k with ⟨k0, _⟩ | ⟨b, hb, rfl, k1, k2⟩
    · omega
    · have : a = b := by
        rcases Nat.lt_trichotomy a b with h | h | h
        · have := k2 a h; have := h1 b hb; omega
        · exact h
        · have := h2 b h; have := k1 a ha; omega
      rw [this]
/-- The first place of a window that ends with a hit. -/
def loB (l : List HitD) (width : Int) (h : Nat) : Nat := cBelow l (endH l h - width + 1)
section
variable {l : List HitD} (hn : NoFall l) {width : Int} (hw : 1 ≤ width)
include hn hw
theorem lo_le {h : Nat} (hh : h < l.length) : loB l width h ≤ h := by
  unfold loB
  by_cases hc : cBelow l (endH l h - width + 1) ≤ h
  · exact hc
  · have := (below_iff hn (endH l h - width + 1) h hh).2 (by omega)
    omega
theorem lo_iff {h j : Nat} (hh : h < l.length) (hj : j < l.length) : endH l h - endH l j ≥ width ↔ j < loB l width h := by
  unfold loB
  rw [← below_iff hn _ j hj]
  omega
theorem lo_mono {p q : Nat} (hpq : p ≤ q) (hq : q < l.length) : loB l width p ≤ loB l width q := by
  have := endH_mono hn hpq hq
  exact cBelow_mono l (by omega)
/-- The window from a hit on is one that ends with a hit. -/
theorem win_end {i : Nat} (hi : i < l.length) : ∃ h, i ≤ h ∧ h < l.length ∧ loB l width h ≤ i ∧ winB l width i ≤ h - loB l width h + 1 := by
  have g1 : i < cBelow l (endH l i + width) := (below_iff hn _ i hi).1 (by omega)
  have g2 := cBelow_le l (endH l i + width)
  have g3 : cBelow l (endH l i) ≤ i := by
    by_cases hc : cBelow l (endH l i) ≤ i
    · exact hc
    · have := (below_iff hn (endH l i) i hi).2 (by omega); omega
  refine ⟨cBelow l (endH l i + width) - 1, by omega, by omega, ?_⟩
  have g4 := (below_iff hn (endH l i + width) (cBelow l (endH l i + width) - 1) (by omega)).2 (by omega)
  have g5 : loB l width (cBelow l (endH l i + width) - 1) ≤ cBelow l (endH l i) := cBelow_mono l (by omega)
  unfold winB
  exact ⟨by omega, by omega⟩
theorem win_lo {p : Nat} (hp : p < l.length) : p - loB l width p + 1 ≤ winB l width (loB l width p) := by
  have g1 := lo_le hn hw hp
  have g2 : ¬ (endH l p - endH l (loB l width p) ≥ width) := fun h => by have := (lo_iff hn hw hp (by omega)).1 h; omega
  have g3 := (below_iff hn (endH l (loB l width p) + width) p hp).1 (by omega)
  have g4 : cBelow l (endH l (loB l width p)) ≤ loB l width p := by
    by_cases hc : cBelow l (endH l (loB l width p)) ≤ loB l width p
    · exact hc
    · have := (below_iff hn (endH l (loB l width p)) (loB l width p) (by omega)).2 (by omega); omega
  unfold winB
  omega
/-- What is known while one goes through hits. -/
def BusyInv (l : List HitD) (width : Int) (h : Nat) (f n : Int) : Prop :=
  (h = 0 ∧ f = 0 ∧ n = 0) ∨ ∃ p, p < h ∧ n = ((p - loB l width p + 1 : Nat) : Int) ∧ f = endH l (loB l width p) ∧ (∀ q, q < h → q - loB l width q + 1 ≤ p - loB l width p + 1) ∧ ∀ q, q < p → q - loB l width q + 1 < p - loB l width p + 1
theorem inv_spec {f n : Int} (h : BusyInv l width l.length f n) : BusySpec l width (f, n) := by
  rcases h with ⟨h0, rfl, rfl⟩ | ⟨p, hp, rfl, rfl, h1, h2⟩
  · exact .inl ⟨h0, rfl⟩
  · have ha := lo_le hn hw hp
    have hge := win_lo hn hw hp
    have hall : ∀ j, j < l.length → winB l width j ≤ p - loB l width p + 1 := fun j hj => by
      obtain ⟨h, _, g2, _, g4⟩ := win_end hn hw hj
      have := h1 h g2
      omega
    have heq : winB l width (loB l width p) = p - loB l width p + 1 := by have := hall (loB l width p) (by omega); omega
    refine .inr ⟨loB l width p, by omega, by rw [heq], fun j hj => by rw [heq]; exact hall j hj, fun j hj => ?_⟩
    rw [heq]
    obtain ⟨h, g1, g2, g3, g4⟩ := win_end hn hw (show j < l.length by omega)
    by_cases hph : p ≤ h
    · have := lo_mono hn hw hph g2
      omega
    · have := h2 h (by omega)
      omega
theorem inv_next {h : Nat} {f n : Int} (hh : h < l.length) (k : BusyInv l width h f n) :
    BusyInv l width (h + 1) (if ((h - loB l width h + 1 : Nat) : Int) > n then endH l (loB l width h) else f) (if ((h - loB l width h + 1 : Nat) : Int) > n then ((h - loB l width h + 1 : Nat) : Int) else n) := by
  by_cases hc : ((h - loB l width h + 1 : Nat) : Int) > n
  · rw [if_pos hc, if_pos hc]
    refine .inr ⟨h, by omega, rfl, rfl, fun q hq => ?_, fun q hq => ?_⟩
    · by_cases hqh : q = h
      · rw [hqh]; exact Nat.le_refl _
      · rcases k with ⟨h0, _⟩ | ⟨p, _, rfl, _, k1, _⟩
        · omega
        · have := k1 q (by omega); omega
    · rcases k with ⟨h0, _⟩ | ⟨p, _, rfl, _, k1, _⟩
      · omega
      · have := k1 q hq; omega
  · rw [if_neg hc, if_neg hc]
    rcases k with ⟨rfl, rfl, rfl⟩ | ⟨p, hp, rfl, rfl, k1, k2⟩
    · omega
    · refine .inr ⟨p, by omega, rfl, rfl, fun q hq => ?_, k2⟩
      by_cases hqh : q = h
      · rw [hqh]; omega
      · exact k1 q (by omega)
theorem busy_l1 (hl : l.length ≤ 8796093022208) (hz : ∀ h ∈ l, 1 ≤ h.f0 ∧ h.f0 ≤ 9223372036854775807) (f n : Int) (hn0 : n ≤ 8796093022209) (h : Nat) (hh : h < l.length) (r : Int × Int)
    (next : Ev (fun k => tally_Busy.l0 k l width (if ((h - loB l width h + 1 : Nat) : Int) > n then endH l (loB l width h) else f) (if ((h - loB l width h + 1 : Nat) : Int) > n then ((h - loB l width h + 1 : Nat) : Int) else n) (loB l width h : Int) (l.length : Int) ((h + 1 : Nat) : Int)) r) : ∀ (d low : Nat), low + d = loB l width h →
    Ev (fun k => tally_Busy.l1 k l width f n (low : Int) (h : Int) (l.length : Int) (h : Int)) r := by
  have hlo := lo_le hn hw hh
  intro d
  induction d with
  | zero =>
    intro low hd
    obtain rfl : low = loB l width h := by omega
    have e1 : rd_T64 l (h : Int) = l.getD h hit0 := rfl
    have e2 : rd_T64 l ((loB l width h : Nat) : Int) = l.getD (loB l width h) hit0 := rfl
    have z1 := hz _ (getD_mem l h hit0 hh)
    have z2 := hz _ (getD_mem l (loB l width h) hit0 (by omega))
    have hno : ¬ ((l.getD h hit0).f0 - (l.getD (loB l width h) hit0).f0 ≥ width) := fun g => by have := (lo_iff hn hw hh (by omega)).1 g; omega
    have w1 : wrap64 (wrap64 ((h : Int) - (loB l width h : Int)) + 1) = ((h - loB l width h + 1 : Nat) : Int) := by rw [wrap_id (x := (h : Int) - _) (by omega) (by omega), wrap_id (by omega) (by omega)]; omega
    have w2 : wrap64 ((h : Int) + 1) = ((h + 1 : Nat) : Int) := by rw [wrap_id (by omega) (by omega)]; rfl
    refine Ev.step (fun k => ?_) next
    simp only [tally_Busy.l1]
    rw [if_pos (by omega), if_pos (by omega), if_pos (by omega), if_pos (by omega), e1, e2, wrap_id (x := (l.getD h hit0).f0 - _) (by omega) (by omega), if_neg hno, w1, w2]
    by_cases hc : ((h - loB l width h + 1 : Nat) : Int) > n
    · rw [if_pos hc, if_pos hc, if_pos hc]
    · rw [if_neg hc, if_neg hc, if_neg hc]
  | succ d ih =>
    intro low hd
    have e1 : rd_T64 l (h : Int) = l.getD h hit0 := rfl
    have e2 : rd_T64 l (low : Int) = l.getD low hit0 := rfl
    have z1 := hz _ (getD_mem l h hit0 hh)
    have z2 := hz _ (getD_mem l low hit0 (by omega))
    have hyes : (l.getD h hit0).f0 - (l.getD low hit0).f0 ≥ width := (lo_iff hn hw hh (by omega)).2 (by omega)
    refine Ev.step (fun k => ?_) (ih (low + 1) (by omega))
    simp only [tally_Busy.l1]
    rw [if_pos (by omega), if_pos (by omega), if_pos (by omega), if_pos (by omega), e1, e2, wrap_id (x := (l.getD h hit0).f0 - _) (by omega) (by omega), if_pos hyes, wrap_id (x := (low : Int) + 1) (by omega) (by omega)]
    rfl
theorem busy_l0 (hl : l.length ≤ 8796093022208) (hz : ∀ h ∈ l, 1 ≤ h.f0 ∧ h.f0 ≤ 9223372036854775807) : ∀ (d h low : Nat) (f n : Int), h + d = l.length → (h < l.length → low ≤ loB l width h) → BusyInv l width h f n → n ≤ 8796093022209 →
    ∃ r, BusySpec l width r ∧ Ev (fun k => tally_Busy.l0 k l width f n (low : Int) (l.length : Int) (h : Int)) r := by
  intro d
  induction d with
  | zero =>
    intro h low f n hd _ hi _
    obtain rfl : h = l.length := by omega
    refine ⟨(f, n), inv_spec hn hw hi, Ev.ret fun k => ?_⟩
    simp only [tally_Busy.l0]
    rw [if_neg (by omega)]
  | succ d ih =>
    intro h low f n hd hlow hi hn0
    have hh : h < l.length := by omega
    have hlo := hlow hh
    have hle := lo_le hn hw hh
    obtain ⟨r, hr, he⟩ := ih (h + 1) (loB l width h) _ _ (by omega) (fun h' => lo_mono hn hw (Nat.le_succ h) h') (inv_next hn hw hh hi) (by split <;> omega)
    refine ⟨r, hr, Ev.step (f := fun k => tally_Busy.l1 k l width f n (low : Int) (h : Int) (l.length : Int) (h : Int)) (fun k => ?_) (busy_l1 hn hw hl hz f n hn0 h hh r he (loB l width h - low) low (by omega))⟩
    simp only [tally_Busy.l0]
    rw [if_pos (by omega)]
theorem busy_ev (hl : l.length ≤ 8796093022208) (hz : ∀ h ∈ l, 1 ≤ h.f0 ∧ h.f0 ≤ 9223372036854775807) : ∃ r, BusySpec l width r ∧ Ev (fun k => tally_Busy.f k l width) r := by
  obtain ⟨r, hr, he⟩ := busy_l0 hn hw hl hz l.length 0 0 0 0 (by omega) (fun _ => Nat.zero_le _) (.inl ⟨rfl, rfl, rfl⟩) (by decide)
  refine ⟨r, hr, Ev.congr (fun k => ?_) he⟩
  unfold tally_Busy.f
  rw [if_neg (by omega)]
  rfl
end
theorem busy_none (l : List HitD) {width : Int} (hw : width < 1) : Ev (fun k => tally_Busy.f k l width) (0, 0) := Ev.const fun k => by unfold tally_Busy.f; rw [if_pos hw]

theorem within_l0 (l : List HitD) (hl : l.length ≤ 8796093022208) (hz : ∀ h ∈ l, 1 ≤ h.f0 ∧ h.f0 ≤ 9223372036854775807) (a width : Int) (ha : 1 ≤ a ∧ a ≤ 9223372036854775807) : ∀ (d i n : Nat), i + d = l.length → n ≤ i →
    Ev (fun k => juratref47_Within.l0 k l a width (n : Int) (i : Int)) ((n + (l.drop i).countP (fun h => decide (h.f0 ≥ a ∧ h.f0 - a < width)) : Nat) : Int) := by
  intro d
  induction d with
  | zero =>
    intro i n hi hn
    rw [List.drop_of_length_le (by omega)]
    refine Ev.ret fun k => ?_
    simp only [juratref47_Within.l0]
    rw [if_neg (by omega)]
    rfl
  | succ d ih =>
    intro i n hi hn
    have e2 : rd_T64 l (i : Int) = l.getD i hit0 := rfl
    have hz1 := hz _ (getD_mem l i hit0 (by omega))
    have w1 : wrap64 ((i : Int) + 1) = ((i + 1 : Nat) : Int) := by rw [wrap_id (by omega) (by omega)]; rfl
    rw [getD_drop l i hit0 (by omega), List.countP_cons]
    generalize l.getD i hit0 = x at e2 hz1
    by_cases h1 : x.f0 ≥ a ∧ x.f0 - a < width
    · rw [if_pos (decide_eq_true h1), show n + ((l.drop (i + 1)).countP (fun h => decide (h.f0 ≥ a ∧ h.f0 - a < width)) + 1) = n + 1 + (l.drop (i + 1)).countP (fun h => decide (h.f0 ≥ a ∧ h.f0 - a < width)) by omega]
      refine Ev.step (fun k => ?_) (ih (i + 1) (n + 1) (by omega) (by omega))
      simp only [juratref47_Within.l0]
      rw [if_pos (by omega), if_pos (by omega), e2, if_pos h1.1, wrap_id (x := x.f0 - a) (by omega) (by omega), if_pos h1.2, wrap_id (x := (n : Int) + 1) (by omega) (by omega), w1]
      rfl
    · rw [if_neg (by simpa using h1), Nat.add_zero]
      refine Ev.step (fun k => ?_) (ih (i + 1) n (by omega) (by omega))
      simp only [juratref47_Within.l0]
      rw [if_pos (by omega), if_pos (by omega), e2]
      by_cases h2 : x.f0 ≥ a
      · rw [if_pos h2, wrap_id (x := x.f0 - a) (by omega) (by omega), if_neg (fun h3 => h1 ⟨h2, h3⟩), w1]
      · rw [if_neg h2, w1]
/-- How many hits end from an end on, within a width. -/
def winR (l : List HitD) (width : Int) (i : Nat) : Nat := l.countP (fun h => decide (h.f0 ≥ endH l i ∧ h.f0 - endH l i < width))
theorem rbusy_l0 (l : List HitD) (hl : l.length ≤ 8796093022208) (hz : ∀ h ∈ l, 1 ≤ h.f0 ∧ h.f0 ≤ 9223372036854775807) (width : Int) : ∀ (d i : Nat) (f n : Int), i + d = l.length → n ≤ 8796093022209 →
    ((n = 0 ∧ f = 0 ∧ ∀ j, j < i → winR l width j = 0) ∨ ∃ a, a < i ∧ 0 < winR l width a ∧ f = endH l a ∧ n = (winR l width a : Int) ∧ (∀ j, j < i → winR l width j ≤ winR l width a) ∧ ∀ j, j < a → winR l width j < winR l width a) →
    ∃ r, Ev (fun k => juratref47_Busy.l0 k l width f n (i : Int)) r ∧ ((r = (0, 0) ∧ ∀ j, j < l.length → winR l width j = 0) ∨ ∃ a, a < l.length ∧ 0 < winR l width a ∧ r = (endH l a, (winR l width a : Int)) ∧ (∀ j, j < l.length → winR l width j ≤ winR l width a) ∧ ∀ j, j < a → winR l width j < winR l width a) := by
  intro d
  induction d with
  | zero =>
    intro i f n hi _ h
    obtain rfl : i = l.length := by omega
    refine ⟨(f, n), Ev.ret fun k => by simp only [juratref47_Busy.l0]; rw [if_neg (by omega)], ?_⟩
    rcases h with ⟨rfl, rfl, h⟩ | ⟨a, h1, h0, rfl, rfl, h2, h3⟩
    · exact .inl ⟨rfl, h⟩
    · exact .inr ⟨a, h1, h0, rfl, h2, h3⟩
  | succ d ih =>
    intro i f n hi hn h
    have e2 : rd_T64 l (i : Int) = l.getD i hit0 := rfl
    have hw0 := within_l0 l hl hz (endH l i) width (hz _ (getD_mem l i hit0 (by omega))) l.length 0 0 (by omega) (Nat.le_refl _)
    rw [List.drop_zero, Nat.zero_add] at hw0
    have hwe : Ev (fun k => juratref47_Within.f k l (endH l i) width) (winR l width i : Int) := hw0
    have hwl : winR l width i ≤ l.length := List.countP_le_length
    have w1 : wrap64 ((i : Int) + 1) = ((i + 1 : Nat) : Int) := by rw [wrap_id (by omega) (by omega)]; rfl
    by_cases hc : (winR l width i : Int) > n
    · obtain ⟨r, hr, hs⟩ := ih (i + 1) (endH l i) (winR l width i : Int) (by omega) (by omega) (.inr ⟨i, by omega, by
        rcases h with ⟨rfl, _, _⟩ | ⟨a, _, _, _, rfl, _⟩ <;> omega, rfl, rfl, fun j hj => by
        by_cases hji : j = i
        · rw [hji]; exact Nat.le_refl _
        · rcases h with ⟨rfl, _, h⟩ | ⟨a, _, _, _, rfl, h2, _⟩
          · have := h j (by omega); omega
          · have := h2 j (by omega); omega, fun j hj => by
        rcases h with ⟨rfl, _, h⟩ | ⟨a, _, _, _, rfl, h2, _⟩
        · have := h j hj; omega
        · have := h2 j hj; omega⟩)
      refine ⟨r, Ev.step (f := fun k => (juratref47_Within.f k l (endH l i) width).bind fun t402 => (if t402 > n then (juratref47_Busy.l0 k l width (endH l i) t402 ((i + 1 : Nat) : Int)) else (juratref47_Busy.l0 k l width f n ((i + 1 : Nat) : Int)))) (fun k => ?_) (Ev.bind hwe (Ev.congr (fun k => if_pos hc) hr)), hs⟩
      simp only [juratref47_Busy.l0]
      rw [if_pos (by omega), if_pos (by omega), e2, w1]
    · obtain ⟨r, hr, hs⟩ := ih (i + 1) f n (by omega) hn (by
        rcases h with ⟨rfl, rfl, h⟩ | ⟨a, h1, h0, rfl, rfl, h2, h3⟩
        · refine .inl ⟨rfl, rfl, fun j hj => ?_⟩
          by_cases hji : j = i
          · rw [hji]; omega
          · exact h j (by omega)
        · refine .inr ⟨a, by omega, h0, rfl, rfl, fun j hj => ?_, h3⟩
          by_cases hji : j = i
          · rw [hji]; omega
          · exact h2 j (by omega))
      refine ⟨r, Ev.step (f := fun k => (juratref47_Within.f k l (endH l i) width).bind fun t402 => (if t402 > n then (juratref47_Busy.l0 k l width (endH l i) t402 ((i + 1 : Nat) : Int)) else (juratref47_Busy.l0 k l width f n ((i + 1 : Nat) : Int)))) (fun k => ?_) (Ev.bind hwe (Ev.congr (fun k => if_neg hc) hr)), hs⟩
      simp only [juratref47_Busy.l0]
      rw [if_pos (by omega), if_pos (by omega), e2, w1]
/-- The reference's busiest place is what is asked, or nothing where there is no width. -/
theorem rbusy_ev {l : List HitD} (hl : l.length ≤ 8796093022208) (hz : ∀ h ∈ l, 1 ≤ h.f0 ∧ h.f0 ≤ 9223372036854775807) (width : Int) : ∃ r, Ev (fun k => juratref47_Busy.f k l width) r ∧ (width < 1 → r = (0, 0)) ∧ (1 ≤ width → BusySpec l width r) := by
  obtain ⟨r, hr, hs⟩ := rbusy_l0 l hl hz width l.length 0 0 0 (by omega) (by decide) (.inl ⟨rfl, rfl, fun j hj => by omega⟩)
  refine ⟨r, hr, fun hw => ?_, fun hw => ?_⟩
  · have hno : ∀ a, winR l width a = 0 := fun a => by
      unfold winR
      rw [List.countP_eq_zero]
      intro b _ hb
      have := of_decide_eq_true hb
      omega
    rcases hs with ⟨rfl, _⟩ | ⟨a, ha, h0, rfl, _, _⟩
    · rfl
    · have := hno a; omega
  · have hwin : ∀ a, winR l width a = winB l width a := fun a => within_count l hw
    rcases hs with ⟨rfl, h0⟩ | ⟨a, ha, _, rfl, h1, h2⟩
    · rcases Nat.eq_zero_or_pos l.length with h | h
      · exact .inl ⟨h, rfl⟩
      · exfalso
        have := h0 0 h
        unfold winR at this
        rw [List.countP_eq_zero] at this
        exact this _ (getD_mem l 0 hit0 h) (decide_eq_true ⟨Int.le_refl _, by show endH l 0 - endH l 0 < width; omega⟩)
    · refine .inr ⟨a, ha, by rw [hwin], fun j hj => ?_, fun j hj => ?_⟩
      · rw [← hwin, ← hwin]; exact h1 j hj
      · rw [← hwin, ← hwin]; exact h2 j hj

end Go.Proofs.Ytmkcoobmbjoloaa.Base

/- What makes texts a set, and their sizes, as plain functions; no condition beyond those in each statement. -/
namespace Go.Proofs.Ytmkcoobmbjoloaa.P
open Go Go.RowKit Go.Proofs.YtmkcoobmbjoloaaW.PrintWords Go.Proofs.YtmkcoobmbjoloaaW.PrintMore Go.Proofs.Ytmkcoobmbjoloaa.Base
set_option linter.unusedVariables false

/-- What is wrong with one. -/
def chkB (s : ByteArray) : Int := if s.size = 0 then 7 else if s.size > 65535 then 5 else 0
/-- What is wrong with the first one that is not right. -/
def badB : List ByteArray → Int
  | [] => 0
  | s :: l => if chkB s = 0 then badB l else chkB s
theorem badB_size : ∀ (l : List ByteArray), badB l = 0 → ∀ s ∈ l, s.size ≠ 0 ∧ s.size ≤ 65535
  | [], _ => by simp
  | s :: l, h => by
    simp only [badB] at h
    by_cases hc : chkB s = 0
    · rw [if_pos hc] at h
      intro x hx
      rcases List.mem_cons.1 hx with rfl | hx
      · unfold chkB at hc
        by_cases h1 : x.size = 0
        · rw [if_pos h1] at hc; omega
        · rw [if_neg h1] at hc
          by_cases h2 : x.size > 65535
          · rw [if_pos h2] at hc; omega
          · exact ⟨h1, by omega⟩
      · exact badB_size l h x hx
    · rw [if_neg hc] at h; exact absurd h hc
def leastB (a : Nat) (l : List ByteArray) : Nat := l.foldl (fun n s => min n s.size) a
def mostB (a : Nat) (l : List ByteArray) : Nat := l.foldl (fun n s => max n s.size) a
def totalB (a : Nat) (l : List ByteArray) : Nat := l.foldl (fun n s => n + s.size) a
theorem least_le (l : List ByteArray) : ∀ a, leastB a l ≤ a := by
  induction l with
  | nil => intro a; exact Nat.le_refl _
  | cons s l ih => intro a; exact Nat.le_trans (ih _) (Nat.min_le_left _ _)

theorem total_bound : ∀ (l : List ByteArray) (a : Nat), (∀ s ∈ l, s.size ≤ 65535) → totalB a l ≤ a + l.length * 65535
  | [], a, _ => by simp [totalB]
  | s :: l, a, h => by
    have h1 := total_bound l (a + s.size) (fun x hx => h x (List.mem_cons_of_mem _ hx))
    have h2 := h s List.mem_cons_self
    have : totalB a (s :: l) = totalB (a + s.size) l := rfl
    rw [this, List.length_cons, Nat.succ_mul]
    omega
theorem badB_take : ∀ (l : List ByteArray) (k : Nat), badB l = 0 → badB (l.drop k) = 0
  | l, 0, h => h
  | [], k + 1, h => rfl
  | s :: l, k + 1, h => by
    simp only [badB] at h
    by_cases hc : chkB s = 0
    · rw [if_pos hc] at h; exact badB_take l k h
    · rw [if_neg hc] at h; exact absurd h hc


end Go.Proofs.Ytmkcoobmbjoloaa.P

/- What layer 10's reference makes of texts, as plain functions; no condition beyond the sizes that stand in each statement. -/
namespace Go.Proofs.Ytmkcoobmbjoloaa.Base
open Go Go.RowKit Go.Proofs.YtmkcoobmbjoloaaW.PrintWords Go.Proofs.YtmkcoobmbjoloaaW.PrintMore Go.Proofs.Ytmkcoobmbjoloaa.P
set_option linter.unusedVariables false

/-- The patterns in order, or the error. -/
def newB (l : List ByteArray) : List ByteArray × Int :=
  if l.length = 0 then ([], 14) else if l.length > 65535 then ([], 6) else if badB l ≠ 0 then ([], badB l) else if totalB 0 l > 16777216 then ([], 13) else if twB [] l 0 ≥ 0 then ([], 8) else (sortB l, 0)
theorem rnew_l0 (l : List ByteArray) (hl : l.length ≤ 65535) : ∀ (d i n : Nat), i + d = l.length → n ≤ i * 65535 →
    Ev (fun k => juratref10_New.l0 k l (n : Int) (i : Int)) (if badB (l.drop i) ≠ 0 then ([], badB (l.drop i)) else if totalB n (l.drop i) > 16777216 then ([], 13) else if twB [] l 0 ≥ 0 then ([], 8) else (sortB l, 0)) := by
  intro d
  induction d with
  | zero =>
    intro i n hi hn
    rw [List.drop_of_length_le (by omega), if_neg (by simp [badB])]
    have hn' : totalB n [] = n := rfl
    rw [hn']
    by_cases h1 : n > 16777216
    · rw [if_pos h1]
      refine Ev.ret fun k => ?_
      simp only [juratref10_New.l0]
      rw [if_neg (by omega), if_pos (by omega)]
    · rw [if_neg h1]
      refine Ev.step (f := fun k => (juratref09_Twice.f k l).bind fun t => if t ≥ 0 then some ([], 8) else (juratref09_Sorted.f k l).bind fun s => some (s, 0)) (fun k => ?_) ?_
      · simp only [juratref10_New.l0]
        rw [if_neg (by omega), if_neg (by omega)]
      refine Ev.bind (rtwice_ev l (by omega)) ?_
      by_cases h2 : twB [] l 0 ≥ 0
      · rw [if_pos h2]
        exact Ev.congr (fun k => if_pos h2) (Ev.now _)
      · rw [if_neg h2]
        exact Ev.congr (fun k => if_neg h2) (Ev.bind (rsorted_ev l (by omega)) (Ev.now _))
  | succ d ih =>
    intro i n hi hn
    have hd := getD_drop l i ByteArray.empty (by omega)
    have e : rdOf ByteArray.empty l (i : Int) = l.getD i ByteArray.empty := rfl
    rw [hd]
    generalize l.getD i ByteArray.empty = s at e
    by_cases h0 : s.size = 0
    · have hc : chkB s = 7 := by unfold chkB; rw [if_pos h0]
      have hb : badB (s :: l.drop (i + 1)) = chkB s := by show (if chkB s = 0 then _ else chkB s) = chkB s; rw [if_neg (by omega)]
      rw [hb, hc, if_pos (by omega)]
      refine Ev.ret fun k => ?_
      simp only [juratref10_New.l0]
      rw [if_pos (by omega), if_pos (by omega), e, if_pos (toList_nil.2 h0)]
    by_cases h1 : s.size > 65535
    · have hc : chkB s = 5 := by unfold chkB; rw [if_neg h0, if_pos h1]
      have hb : badB (s :: l.drop (i + 1)) = chkB s := by show (if chkB s = 0 then _ else chkB s) = chkB s; rw [if_neg (by omega)]
      rw [hb, hc, if_pos (by omega)]
      refine Ev.ret fun k => ?_
      simp only [juratref10_New.l0]
      rw [if_pos (by omega), if_pos (by omega), e, if_neg (fun x => h0 (toList_nil.1 x)), if_pos (by omega)]
    have hc : chkB s = 0 := by unfold chkB; rw [if_neg h0, if_neg h1]
    have hb : badB (s :: l.drop (i + 1)) = badB (l.drop (i + 1)) := if_pos hc
    rw [hb]
    have ht : totalB n (s :: l.drop (i + 1)) = totalB (n + s.size) (l.drop (i + 1)) := rfl
    rw [ht]
    refine Ev.step (f := fun k => juratref10_New.l0 k l ((n + s.size : Nat) : Int) ((i + 1 : Nat) : Int)) (fun k => ?_) (ih (i + 1) (n + s.size) (by omega) (by omega))
    simp only [juratref10_New.l0]
    rw [if_pos (by omega), if_pos (by omega), e, if_neg (fun x => h0 (toList_nil.1 x)), if_neg (by omega), wrap_id (by omega) (by omega), wrap_id (by omega) (by omega)]
    rfl
theorem rnew_ev (l : List ByteArray) : Ev (fun k => juratref10_New.f k l) (newB l) := by
  unfold newB
  by_cases h0 : l.length = 0
  · rw [if_pos h0]
    refine Ev.const fun k => ?_
    unfold juratref10_New.f
    rw [if_pos (by omega)]
  rw [if_neg h0]
  by_cases h1 : l.length > 65535
  · rw [if_pos h1]
    refine Ev.const fun k => ?_
    unfold juratref10_New.f
    rw [if_neg (by omega), if_pos (by omega)]
  rw [if_neg h1]
  have h := rnew_l0 l (by omega) l.length 0 0 (by omega) (by omega)
  rw [List.drop_zero] at h
  refine Ev.congr (fun k => ?_) h
  unfold juratref10_New.f
  rw [if_neg (by omega), if_neg (by omega)]
  rfl

/-- What the document tells of a list. -/
def minB (l : List ByteArray) : Nat := leastB (l.getD 0 ByteArray.empty).size l

end Go.Proofs.Ytmkcoobmbjoloaa.Base

/- The hits of patterns in a text, as layer 15's reference tells them; no condition beyond the sizes that stand in each statement. -/
namespace Go.Proofs.Ytmkcoobmbjoloaa.Base
open Go Go.RowKit Go.Proofs.YtmkcoobmbjoloaaW.PrintWords Go.Proofs.YtmkcoobmbjoloaaW.PrintMore Go.Proofs.Ytmkcoobmbjoloaa.P
set_option linter.unusedVariables false

/-- Does a pattern end at an end of a text? -/
def standsE (p s : ByteArray) (e : Nat) : Bool := decide (p.size ≤ e ∧ stands s p (e - p.size))
theorem standsE_iff {p s : ByteArray} {e : Nat} : standsE p s e = true ↔ p.size ≤ e ∧ stands s p (e - p.size) := by unfold standsE; exact decide_eq_true_iff
theorem standsE_le {p s : ByteArray} {e : Nat} (h : standsE p s e = true) : e ≤ s.size := by
  obtain ⟨h1, h2, _⟩ := standsE_iff.1 h
  omega
theorem rstands (p s : ByteArray) (e : Nat) (hp : p.size ≤ 1099511627776) (he : e ≤ 1099511627776) : juratref15_Stands.f p s (e : Int) = some (standsE p s e) := by
  unfold juratref15_Stands.f
  by_cases h1 : p.size ≤ e
  · rw [if_pos (by omega)]
    by_cases h2 : e ≤ s.size
    · rw [if_pos (by omega), wrap_id (by omega) (by omega), if_pos (by omega), if_pos (by omega), Int.toNat_natCast, show ((e : Int) - (p.size : Int)).toNat = e - p.size by omega]
      congr 1
      rw [Bool.eq_iff_iff, beq_iff_eq, standsE_iff]
      have := stands_extract (s := s) (t := p) (i := e - p.size) (by omega)
      rw [show e - p.size + p.size = e by omega] at this
      rw [this]
      exact ⟨fun h => ⟨h1, h⟩, fun h => h.2⟩
    · rw [if_neg (by omega)]
      congr 1
      symm
      rw [Bool.eq_false_iff]
      exact fun h => h2 (standsE_le h)
  · rw [if_neg (by omega)]
    congr 1
    symm
    rw [Bool.eq_false_iff]
    exact fun h => h1 (standsE_iff.1 h).1
/-- The numbers of the patterns that end at an end. -/
def idsF (s : ByteArray) (e : Nat) : List ByteArray → Nat → List Int
  | [], _ => []
  | p :: l, i => if standsE p s e = true then (i : Int) :: idsF s e l (i + 1) else idsF s e l (i + 1)
abbrev idsB (w : List ByteArray) (s : ByteArray) (e : Nat) : List Int := idsF s e w 0
theorem idsF_length (s : ByteArray) (e : Nat) : ∀ (l : List ByteArray) (i : Nat), (idsF s e l i).length ≤ l.length
  | [], _ => Nat.le_refl _
  | p :: l, i => by
    have := idsF_length s e l (i + 1)
    simp only [idsF, List.length_cons]
    split
    · rw [List.length_cons]; omega
    · omega
theorem idsF_mem (s : ByteArray) (e : Nat) (q : Int) : ∀ (l : List ByteArray) (i : Nat), q ∈ idsF s e l i ↔ ∃ j, j < l.length ∧ q = ((i + j : Nat) : Int) ∧ standsE (l.getD j ByteArray.empty) s e = true
  | [], i => by simp [idsF]
  | p :: l, i => by
    have ih := idsF_mem s e q l (i + 1)
    have tail : (q ∈ idsF s e l (i + 1)) ↔ ∃ j, j + 1 < (p :: l).length ∧ q = ((i + (j + 1) : Nat) : Int) ∧ standsE ((p :: l).getD (j + 1) ByteArray.empty) s e = true := by
      rw [ih]
      constructor
      · rintro ⟨j, h1, h2, h3⟩
        exact ⟨j, by rw [List.length_cons]; omega, by rw [h2]; congr 1; omega, by rw [List.getD_cons_succ]; exact h3⟩
      · rintro ⟨j, h1, h2, h3⟩
        exact ⟨j, by rw [List.length_cons] at h1; omega, by rw [h2]; congr 1; omega, by rw [List.getD_cons_succ] at h3; exact h3⟩
    simp only [idsF]
    by_cases h : standsE p s e = true
    · rw [if_pos h, List.mem_cons, tail]
      constructor
      · rintro (rfl | ⟨j, h1, h2, h3⟩)
        · exact ⟨0, by simp, rfl, by rw [List.getD_cons_zero]; exact h⟩
        · exact ⟨j + 1, h1, h2, h3⟩
      · rintro ⟨j, h1, h2, h3⟩
        cases j with
        | zero => exact .inl h2
        | succ j => exact .inr ⟨j, h1, h2, h3⟩
    · rw [if_neg h, tail]
      constructor
      · rintro ⟨j, h1, h2, h3⟩
        exact ⟨j + 1, h1, h2, h3⟩
      · rintro ⟨j, h1, h2, h3⟩
        cases j with
        | zero => rw [List.getD_cons_zero] at h3; exact absurd h3 h
        | succ j => exact ⟨j, h1, h2, h3⟩
theorem idsB_mem {w : List ByteArray} {s : ByteArray} {e : Nat} {q : Int} : q ∈ idsB w s e ↔ ∃ j, j < w.length ∧ q = (j : Int) ∧ standsE (w.getD j ByteArray.empty) s e = true := by
  rw [idsF_mem]; simp
/-- The hits that end at an end. -/
def hitsAt (w : List ByteArray) (s : ByteArray) (e : Nat) : List S64 := (idsB w s e).map fun i => (⟨(e : Int), i⟩ : S64)
/-- All hits, from one end on. -/
def hitsF (w : List ByteArray) (s : ByteArray) : Nat → Nat → List S64
  | 0, _ => []
  | d + 1, e => hitsAt w s e ++ hitsF w s d (e + 1)
abbrev hitsB (w : List ByteArray) (s : ByteArray) : List S64 := hitsF w s (s.size + 1) 0
theorem hitsF_length (w : List ByteArray) (s : ByteArray) : ∀ d e, (hitsF w s d e).length ≤ d * w.length
  | 0, _ => by simp [hitsF]
  | d + 1, e => by
    have h1 := hitsF_length w s d (e + 1)
    have h2 : (hitsAt w s e).length ≤ w.length := by unfold hitsAt; rw [List.length_map]; exact idsF_length s e w 0
    simp only [hitsF, List.length_append, Nat.succ_mul]
    omega
theorem hitsF_mem {w : List ByteArray} {s : ByteArray} {h : S64} : ∀ d e, h ∈ hitsF w s d e ↔ ∃ a j, e ≤ a ∧ a < e + d ∧ j < w.length ∧ h = (⟨((a : Nat) : Int), (j : Int)⟩ : S64) ∧ standsE (w.getD j ByteArray.empty) s a = true
  | 0, e => by
    simp only [hitsF, List.not_mem_nil, false_iff]
    rintro ⟨a, j, h1, h2, _⟩
    omega
  | d + 1, e => by
    simp only [hitsF, List.mem_append]
    rw [hitsF_mem d (e + 1)]
    have h0 : h ∈ hitsAt w s e ↔ ∃ j, j < w.length ∧ h = (⟨(e : Int), (j : Int)⟩ : S64) ∧ standsE (w.getD j ByteArray.empty) s e = true := by
      unfold hitsAt
      rw [List.mem_map]
      constructor
      · rintro ⟨q, hq, rfl⟩
        obtain ⟨j, h1, rfl, h2⟩ := idsB_mem.1 hq
        exact ⟨j, h1, rfl, h2⟩
      · rintro ⟨j, h1, rfl, h2⟩
        exact ⟨_, idsB_mem.2 ⟨j, h1, rfl, h2⟩, rfl⟩
    rw [h0]
    constructor
    · rintro (⟨j, h1, h2, h3⟩ | ⟨a, j, h1, h2, h3, h4, h5⟩)
      · exact ⟨e, j, Nat.le_refl _, by omega, h1, h2, h3⟩
      · exact ⟨a, j, by omega, by omega, h3, h4, h5⟩
    · rintro ⟨a, j, h1, h2, h3, h4, h5⟩
      by_cases he : a = e
      · subst he; exact .inl ⟨j, h3, h4, h5⟩
      · exact .inr ⟨a, j, by omega, by omega, h3, h4, h5⟩
theorem hitsB_mem {w : List ByteArray} {s : ByteArray} {h : S64} : h ∈ hitsB w s ↔ ∃ a j, a ≤ s.size ∧ j < w.length ∧ h = (⟨((a : Nat) : Int), (j : Int)⟩ : S64) ∧ standsE (w.getD j ByteArray.empty) s a = true := by
  rw [hitsF_mem]
  constructor
  · rintro ⟨a, j, _, h2, h3, h4, h5⟩
    exact ⟨a, j, by omega, h3, h4, h5⟩
  · rintro ⟨a, j, h2, h3, h4, h5⟩
    exact ⟨a, j, by omega, by omega, h3, h4, h5⟩
theorem rall_l1 (w : List ByteArray) (s : ByteArray) (hw : w.length ≤ 65535) (hz : ∀ t ∈ w, t.size ≤ 65535) (e : Nat) (he : e ≤ 1048576) (r : List S64) : ∀ (d i : Nat) (out : List S64), i + d = w.length → out.length + d ≤ 8796093022207 →
    Ev (fun k => juratref15_All.l0 k w s (out ++ (idsF s e (w.drop i) i).map fun i => (⟨(e : Int), i⟩ : S64)) ((e + 1 : Nat) : Int)) r → Ev (fun k => juratref15_All.l1 k w s out (e : Int) (i : Int)) r := by
  intro d
  induction d with
  | zero =>
    intro i out hi ho h
    rw [List.drop_of_length_le (by omega)] at h
    simp only [idsF, List.map_nil, List.append_nil] at h
    refine Ev.step (fun k => ?_) h
    simp only [juratref15_All.l1]
    rw [if_neg (by omega), wrap_id (by omega) (by omega)]
    rfl
  | succ d ih =>
    intro i out hi ho h
    have hd := getD_drop w i ByteArray.empty (by omega)
    have hz1 := hz _ (getD_mem w i ByteArray.empty (by omega))
    have e1 : rdOf ByteArray.empty w (i : Int) = w.getD i ByteArray.empty := rfl
    rw [hd] at h
    have hst := rstands (w.getD i ByteArray.empty) s e (by omega) (by omega)
    simp only [idsF] at h
    by_cases hs : standsE (w.getD i ByteArray.empty) s e = true
    · rw [if_pos hs, List.map_cons, ← List.singleton_append, ← List.append_assoc] at h
      refine Ev.step (fun k => ?_) (ih (i + 1) (out ++ [(⟨(e : Int), (i : Int)⟩ : S64)]) (by omega) (by simp; omega) h)
      simp only [juratref15_All.l1]
      rw [if_pos (by omega), if_pos (by omega), e1, hst]
      simp only [Option.bind_some]
      rw [if_pos hs, if_pos (by omega), wrap_id (by omega) (by omega)]
      rfl
    · rw [if_neg hs] at h
      refine Ev.step (fun k => ?_) (ih (i + 1) out (by omega) (by omega) h)
      simp only [juratref15_All.l1]
      rw [if_pos (by omega), if_pos (by omega), e1, hst]
      simp only [Option.bind_some]
      rw [if_neg hs, wrap_id (by omega) (by omega)]
      rfl
theorem rall_l0 (w : List ByteArray) (s : ByteArray) (hw : w.length ≤ 65535) (hz : ∀ t ∈ w, t.size ≤ 65535) (hs : s.size ≤ 1048575) : ∀ (d e : Nat) (out : List S64), e + d = s.size + 1 → out.length ≤ e * w.length →
    Ev (fun k => juratref15_All.l0 k w s out (e : Int)) (out ++ hitsF w s d e) := by
  intro d
  induction d with
  | zero =>
    intro e out he ho
    refine Ev.ret fun k => ?_
    simp only [juratref15_All.l0, hitsF, List.append_nil]
    rw [if_neg (by omega)]
  | succ d ih =>
    intro e out he ho
    have hm : e * w.length ≤ 1048576 * 65535 := Nat.mul_le_mul (by omega) hw
    have hid : (idsB w s e).length ≤ w.length := idsF_length s e w 0
    have := ih (e + 1) (out ++ hitsAt w s e) (by omega) (by unfold hitsAt; rw [List.length_append, List.length_map, Nat.succ_mul]; omega)
    rw [List.append_assoc] at this
    refine Ev.step (f := fun k => juratref15_All.l1 k w s out (e : Int) ((0 : Nat) : Int)) (fun k => ?_) (rall_l1 w s hw hz e (by omega) _ w.length 0 out (by omega) (by omega) (by rw [List.drop_zero]; exact this))
    simp only [juratref15_All.l0]
    rw [if_pos (by omega)]
    rfl
theorem rall_ev (w : List ByteArray) (s : ByteArray) (hw : w.length ≤ 65535) (hz : ∀ t ∈ w, t.size ≤ 65535) (hs : s.size ≤ 1048575) : Ev (fun k => juratref15_All.f k w s) (hitsB w s) := by
  have := rall_l0 w s hw hz hs (s.size + 1) 0 [] (by omega) (by simp)
  rw [List.nil_append] at this
  exact this

end Go.Proofs.Ytmkcoobmbjoloaa.Base

/- A number under a mask; no condition beyond those in the statement. -/
namespace Go.Proofs.Ytmkcoobmbjoloaa.Base
open Go Go.RowKit Go.Proofs.YtmkcoobmbjoloaaW.PrintWords Go.Proofs.YtmkcoobmbjoloaaW.PrintLast Go.Proofs.YtmkcoobmbjoloaaW.PrintMore

theorem bits_and_mask (x : Int) (m : Nat) (hm : m < 9223372036854775808) : 0 ≤ Go.bits .and .i64 x (m : Int) ∧ Go.bits .and .i64 x (m : Int) ≤ m := by
  have h : Go.bits .and .i64 x (m : Int) = IntKind.i64.wrap (((BitVec.ofInt 64 x &&& BitVec.ofInt 64 (m : Int)).toNat : Int)) := rfl
  have h2 : (BitVec.ofInt 64 x &&& BitVec.ofInt 64 (m : Int)).toNat ≤ m := by
    rw [BitVec.toNat_and]
    refine Nat.le_trans Nat.and_le_right ?_
    rw [BitVec.toNat_ofInt]
    omega
  rw [h, i64_w, wrap_id (by omega) (by omega)]
  omega

end Go.Proofs.Ytmkcoobmbjoloaa.Base

/- Proved: for all texts, every text and every width the law TallyAll of layer 47 answers true. No condition beyond the statement's own. -/
namespace Go.Proofs.Ytmkcoobmbjoloaa.Pure
open Go Go.RowKit Go.Proofs.Ytmkcoobmbjoloaa.P Go.Proofs.YtmkcoobmbjoloaaW.PrintWords Go.Proofs.YtmkcoobmbjoloaaW.PrintLast Go.Proofs.Ytmkcoobmbjoloaa.Base
set_option linter.unusedVariables false

/-! hits rise -/
theorem idsF_up (s : ByteArray) (e : Nat) : ∀ (l : List ByteArray) (i : Nat), (idsF s e l i).Pairwise (· < ·) ∧ ∀ q ∈ idsF s e l i, (i : Int) ≤ q
  | [], i => ⟨List.Pairwise.nil, by simp [idsF]⟩
  | p :: l, i => by
    obtain ⟨h1, h2⟩ := idsF_up s e l (i + 1)
    simp only [idsF]
    by_cases h : standsE p s e = true
    · rw [if_pos h]
      refine ⟨List.pairwise_cons.2 ⟨fun q hq => by have := h2 q hq; omega, h1⟩, fun q hq => ?_⟩
      rcases List.mem_cons.1 hq with rfl | hq
      · exact Int.le_refl _
      · have := h2 q hq; omega
    · rw [if_neg h]
      exact ⟨h1, fun q hq => by have := h2 q hq; omega⟩
theorem hitsF_up (w : List ByteArray) (s : ByteArray) : ∀ d e, (hitsF w s d e).Pairwise (fun a b => aheadH a b = true)
  | 0, _ => List.Pairwise.nil
  | d + 1, e => by
    refine List.pairwise_append.2 ⟨?_, hitsF_up w s d (e + 1), fun x hx y hy => ?_⟩
    · unfold hitsAt
      rw [List.pairwise_map]
      exact (idsF_up s e w 0).1.imp (fun h => decide_eq_true (.inr ⟨rfl, h⟩))
    · obtain ⟨q, _, rfl⟩ := List.mem_map.1 hx
      obtain ⟨a, j, h1, _, _, rfl, _⟩ := (hitsF_mem d (e + 1)).1 hy
      exact decide_eq_true (.inl (show (e : Int) < (a : Int) by omega))
/-! how many hits each pattern has -/
theorem one_f0 (id : Int) : ∀ (l : List HitD) (c : CntD), (oneB id l c).f0 = c.f0 + (l.countP (fun h => decide (h.f1 = id)) : Nat)
  | [], c => by simp [oneB]
  | x :: l, c => by
    have ho : oneB id (x :: l) c = oneB id l (if x.f1 = id then refAdd c x.f0 else c) := rfl
    rw [ho, one_f0 id l, List.countP_cons]
    by_cases h : x.f1 = id
    · rw [if_pos h, if_pos (decide_eq_true h)]
      show c.f0 + 1 + _ = _
      omega
    · rw [if_neg h, if_neg (by simpa using h)]
      omega
theorem ids_count (s : ByteArray) (e : Nat) : ∀ (l : List ByteArray) (i j : Nat), j < l.length → (idsF s e l i).countP (fun q => decide (q = ((i + j : Nat) : Int))) = if standsE (l.getD j ByteArray.empty) s e = true then 1 else 0
  | [], i, j, h => by simp at h
  | p :: l, i, 0, h => by
    have h0 : (idsF s e l (i + 1)).countP (fun q => decide (q = ((i + 0 : Nat) : Int))) = 0 := by
      rw [List.countP_eq_zero]
      intro q hq
      have := (idsF_up s e l (i + 1)).2 q hq
      simp only [decide_eq_true_eq]
      omega
    simp only [idsF, List.getD_cons_zero]
    by_cases hs : standsE p s e = true
    · rw [if_pos hs, if_pos hs, List.countP_cons, h0, if_pos (decide_eq_true (show (i : Int) = ((i + 0 : Nat) : Int) by omega))]
    · rw [if_neg hs, if_neg hs, h0]
  | p :: l, i, j + 1, h => by
    have ih := ids_count s e l (i + 1) j (by simpa using h)
    rw [show i + 1 + j = i + (j + 1) by omega] at ih
    simp only [idsF, List.getD_cons_succ]
    by_cases hs : standsE p s e = true
    · rw [if_pos hs, List.countP_cons, ih, if_neg (show ¬ decide ((i : Int) = ((i + (j + 1) : Nat) : Int)) = true by rw [decide_eq_true_iff]; omega), Nat.add_zero]
    · rw [if_neg hs, ih]
/-- How often a pattern stands, from one end on. -/
def cntF (p s : ByteArray) : Nat → Nat → Nat
  | 0, _ => 0
  | d + 1, e => (if standsE p s e = true then 1 else 0) + cntF p s d (e + 1)
theorem hits_count (w : List ByteArray) (s : ByteArray) (j : Nat) (hj : j < w.length) : ∀ d e, (hitsF w s d e).countP (fun h => decide (h.f1 = (j : Int))) = cntF (w.getD j ByteArray.empty) s d e
  | 0, _ => rfl
  | d + 1, e => by
    simp only [hitsF, cntF]
    rw [List.countP_append, hits_count w s j hj d (e + 1)]
    congr 1
    unfold hitsAt
    rw [List.countP_map]
    have := ids_count s e w 0 j hj
    rw [Nat.zero_add] at this
    exact this
theorem rcount_l0 (p s : ByteArray) (hp : p.size ≤ 1099511627776) (hs : s.size ≤ 1048575) : ∀ (d e n : Nat), e + d = s.size + 1 → n ≤ e →
    Ev (fun k => juratref15_Count.l0 k p s (n : Int) (e : Int)) ((n + cntF p s d e : Nat) : Int) := by
  intro d
  induction d with
  | zero =>
    intro e n he hn
    refine Ev.ret fun k => ?_
    simp only [juratref15_Count.l0]
    rw [if_neg (by omega)]
    rfl
  | succ d ih =>
    intro e n he hn
    have hst := rstands p s e hp (by omega)
    have w1 : wrap64 ((e : Int) + 1) = ((e + 1 : Nat) : Int) := by rw [wrap_id (by omega) (by omega)]; rfl
    simp only [cntF]
    by_cases h : standsE p s e = true
    · rw [if_pos h, show n + (1 + cntF p s d (e + 1)) = n + 1 + cntF p s d (e + 1) by omega]
      refine Ev.step (fun k => ?_) (ih (e + 1) (n + 1) (by omega) (by omega))
      simp only [juratref15_Count.l0]
      rw [if_pos (by omega), hst]
      simp only [Option.bind_some]
      rw [if_pos h, w1, wrap_id (by omega) (by omega)]
      rfl
    · rw [if_neg h, Nat.zero_add]
      refine Ev.step (fun k => ?_) (ih (e + 1) n (by omega) (by omega))
      simp only [juratref15_Count.l0]
      rw [if_pos (by omega), hst]
      simp only [Option.bind_some]
      rw [if_neg h, w1]
theorem rcount_ev (p s : ByteArray) (hp : p.size ≤ 1099511627776) (hs : s.size ≤ 1048575) : Ev (fun k => juratref15_Count.f k p s) (cntF p s (s.size + 1) 0 : Int) := by
  have := rcount_l0 p s hp hs (s.size + 1) 0 0 (by omega) (Nat.le_refl _)
  rw [Nat.zero_add] at this
  exact this
/-! all together -/
theorem count_or {α : Type} (p q : α → Bool) (l : List α) (h : ∀ x ∈ l, ¬ (p x = true ∧ q x = true)) : l.countP (fun x => p x || q x) = l.countP p + l.countP q := by
  induction l with
  | nil => rfl
  | cons x l ih =>
    have hx := h x List.mem_cons_self
    rw [List.countP_cons, List.countP_cons, List.countP_cons, ih (fun y hy => h y (List.mem_cons_of_mem _ hy))]
    cases hp : p x <;> cases hq : q x
    · simp
    · simp; omega
    · simp; omega
    · exact absurd ⟨hp, hq⟩ hx
/-- What is counted by kinds, kind by kind, is all. -/
def sumTo (f : Nat → Nat) : Nat → Nat
  | 0 => 0
  | n + 1 => sumTo f n + f n
theorem sum_kinds {α : Type} (g : α → Int) (l : List α) : ∀ n : Nat, sumTo (fun k => l.countP (fun x => decide (g x = (k : Int)))) n = l.countP (fun x => decide (0 ≤ g x ∧ g x < (n : Int)))
  | 0 => by
    show 0 = _
    symm
    rw [List.countP_eq_zero]
    intro x _
    simp only [decide_eq_true_eq]
    omega
  | n + 1 => by
    show sumTo _ n + _ = _
    rw [sum_kinds g l n, ← count_or]
    · congr 1
      funext x
      rw [Bool.eq_iff_iff, Bool.or_eq_true, decide_eq_true_iff, decide_eq_true_iff, decide_eq_true_iff]
      omega
    · intro x _ h
      simp only [decide_eq_true_eq] at h
      omega
theorem all_l1 (H : List HitD) (e : Int) (C : List Int) (n : Int) (hH : H.length ≤ 1000) (hC : C.length ≤ 1000) (f : Nat → Nat) (hf : ∀ k, k < C.length → C.getD k 0 = (f k : Int)) (hsum : ∀ k, k ≤ C.length → sumTo f k ≤ 1000) (r : Bool)
    (next : Ev (fun k => (tally_Busy.f k H 4611686018427387904).bind fun bt508 => (if (H.length : Int) > 0 then (if 0 < (H.length : Int) then (if e = 0 then (if n = (H.length : Int) then (if ((sumTo f C.length : Nat) : Int) = (H.length : Int) then (if bt508.2 = (H.length : Int) then (if bt508.1 = ((rd_T64 H 0).f0) then ((juratlaw47_awake.f k).bind fun t511 => (some t511)) else (some false)) else (some false)) else (some false)) else (some false)) else (some false)) else (none)) else (if e = 0 then (if n = (H.length : Int) then (if ((sumTo f C.length : Nat) : Int) = (H.length : Int) then (if bt508.2 = (H.length : Int) then (if bt508.1 = 0 then ((juratlaw47_awake.f k).bind fun t512 => (some t512)) else (some false)) else (some false)) else (some false)) else (some false)) else (some false)))) r) :
    ∀ (d i : Nat), i + d = C.length → Ev (fun k => juratlaw47_TallyAll.l1 k H e C n ((sumTo f i : Nat) : Int) (i : Int)) r := by
  intro d
  induction d with
  | zero =>
    intro i hi
    obtain rfl : i = C.length := by omega
    refine Ev.step (fun k => ?_) next
    simp only [juratlaw47_TallyAll.l1]
    rw [if_neg (by omega)]
  | succ d ih =>
    intro i hi
    have hrd : rd C (i : Int) = (f i : Int) := hf i (by omega)
    have hs := hsum (i + 1) (by omega)
    have hs1 : sumTo f (i + 1) = sumTo f i + f i := rfl
    refine Ev.step (fun k => ?_) (ih (i + 1) (by omega))
    simp only [juratlaw47_TallyAll.l1]
    rw [if_pos (by omega), if_pos (by omega), hrd, wrap_id (x := _ + (f i : Int)) (by omega) (by omega), wrap_id (x := (i : Int) + 1) (by omega) (by omega), hs1]
    rfl
theorem all_l0 (s : ByteArray) (w : List ByteArray) (H : List HitD) (A : List CntD) (e : Int) (C : List Int) (hA : A.length = w.length) (hw : w.length ≤ 1000) (hz : ∀ t ∈ w, t.size ≤ 65535) (hs : s.size ≤ 1000) (hAf : ∀ i, i < w.length → (A.getD i cnt0).f0 = (cntF (w.getD i ByteArray.empty) s (s.size + 1) 0 : Int))
    (hsum : ∀ k, k ≤ w.length → sumTo (fun i => cntF (w.getD i ByteArray.empty) s (s.size + 1) 0) k ≤ 1000) (r : Bool) (next : Ev (fun k => juratlaw47_TallyAll.l1 k H e C ((sumTo (fun i => cntF (w.getD i ByteArray.empty) s (s.size + 1) 0) w.length : Nat) : Int) 0 0) r) :
    ∀ (d i : Nat), i + d = w.length → Ev (fun k => juratlaw47_TallyAll.l0 k s w H A e C ((sumTo (fun i => cntF (w.getD i ByteArray.empty) s (s.size + 1) 0) i : Nat) : Int) 0 (i : Int)) r := by
  intro d
  induction d with
  | zero =>
    intro i hi
    obtain rfl : i = w.length := by omega
    refine Ev.step (fun k => ?_) next
    simp only [juratlaw47_TallyAll.l0]
    rw [if_neg (by omega)]
  | succ d ih =>
    intro i hi
    have e1 : rdOf ByteArray.empty w (i : Int) = w.getD i ByteArray.empty := rfl
    have e2 : rd_T72 A (i : Int) = A.getD i cnt0 := rfl
    have hz1 := hz _ (getD_mem w i ByteArray.empty (by omega))
    have hf := hAf i (by omega)
    have hs2 := hsum (i + 1) (by omega)
    have hs1 : sumTo (fun i => cntF (w.getD i ByteArray.empty) s (s.size + 1) 0) (i + 1) = sumTo (fun i => cntF (w.getD i ByteArray.empty) s (s.size + 1) 0) i + cntF (w.getD i ByteArray.empty) s (s.size + 1) 0 := rfl
    have ih' := ih (i + 1) (by omega)
    rw [hs1] at ih'
    refine Ev.step (f := fun k => (juratref15_Count.f k (w.getD i ByteArray.empty) s).bind fun t506 => (if (cntF (w.getD i ByteArray.empty) s (s.size + 1) 0 : Int) = t506 then (juratlaw47_TallyAll.l0 k s w H A e C ((sumTo (fun i => cntF (w.getD i ByteArray.empty) s (s.size + 1) 0) i + cntF (w.getD i ByteArray.empty) s (s.size + 1) 0 : Nat) : Int) 0 ((i + 1 : Nat) : Int)) else (some false))) (fun k => ?_) (Ev.bind (rcount_ev (w.getD i ByteArray.empty) s (by omega) (by omega)) (Ev.congr (fun k => if_pos rfl) ih'))
    simp only [juratlaw47_TallyAll.l0]
    rw [if_pos (by omega), if_pos (by omega), if_pos (by omega), e1, e2, hf, wrap_id (x := _ + ((cntF (w.getD i ByteArray.empty) s (s.size + 1) 0 : Nat) : Int)) (by omega) (by omega), wrap_id (x := (i : Int) + 1) (by omega) (by omega)]
    rfl

theorem TallyAll (l : List ByteArray) (s : ByteArray) (width : Int) (hl : l.length * 16 ≤ 140737488351232) (_ : ∀ x ∈ l, x.size ≤ maxLen) (_ : s.size ≤ 140737488351232) (_ : (Lit.int .i64 width).wf = true) : ∃ k, juratlaw47_TallyAll.f k l s width = some true := by
  refine Ev.rounds ?_
  have aw : Ev (fun k => (juratlaw47_awake.f k).bind fun t => some t) true := Ev.bind awake47 (Ev.now true)
  have big : Ev (fun k => juratlaw47_TallyAll.j0 k l s width true) true := by
    refine Ev.step (fun k => ?_) aw
    simp only [juratlaw47_TallyAll.j0]
    rw [if_pos trivial]
  unfold juratlaw47_TallyAll.f
  refine Ev.bind (few_ev l 8 12 (by omega)) ?_
  by_cases h1 : (decide ((l.length : Int) ≤ 8) && fewB l 12) = true
  rotate_left
  · exact Ev.congr (fun k => if_neg h1) big
  refine Ev.congr (fun k => if_pos h1) ?_
  by_cases h2 : (s.size : Int) > 80
  · exact Ev.congr (fun k => by rw [decide_eq_true h2]) big
  rw [decide_eq_false h2]
  obtain ⟨h3, h4⟩ := Bool.and_eq_true_iff.1 h1
  have h3 := of_decide_eq_true h3
  have h4 := fewB_iff.1 h4
  have hsz : s.size ≤ 80 := by omega
  refine Ev.step (f := fun k => (juratref10_New.f k l).bind fun bt488 => (if bt488.2 = 0 then ((juratref15_All.f k bt488.1 s).bind fun t493 => ((tally_Of.f (bt488.1.length : Int) t493).bind fun bt496 => ((tally_Chart.f k t493 (wrap64 (1 + (Go.bits .and .i64 width 31))) 81).bind fun t500 => (juratlaw47_TallyAll.l0 k s bt488.1 t493 bt496.1 bt496.2 t500 0 0 0)))) else ((juratlaw47_awake.f k).bind fun t492 => (some t492)))) (fun k => ?_) ?_
  · simp only [juratlaw47_TallyAll.j0]
    rw [if_neg (by simp)]
  have rn := rnew_ev l
  by_cases he : (newB l).2 = 0
  rotate_left
  · exact Ev.bind rn (Ev.congr (fun k => if_neg he) aw)
  have hnew : newB l = (sortB l, 0) ∧ badB l = 0 := by
    unfold newB at he ⊢
    by_cases g0 : l.length = 0
    · rw [if_pos g0] at he; exact absurd he (by decide)
    rw [if_neg g0] at he ⊢
    by_cases g1 : l.length > 65535
    · omega
    rw [if_neg g1] at he ⊢
    by_cases g2 : badB l ≠ 0
    · rw [if_pos g2] at he; exact absurd he g2
    rw [if_neg g2] at he ⊢
    by_cases g3 : totalB 0 l > 16777216
    · rw [if_pos g3] at he; exact absurd he (by decide)
    rw [if_neg g3] at he ⊢
    by_cases g4 : twB [] l 0 ≥ 0
    · rw [if_pos g4] at he; exact absurd he (by decide)
    rw [if_neg g4]
    exact ⟨rfl, Classical.not_not.1 g2⟩
  obtain ⟨hn, hbad⟩ := hnew
  rw [hn] at rn
  refine Ev.bind rn (Ev.congr (fun k => if_pos rfl) ?_)
  have hmem := fun t => (sortB_perm l).mem_iff (a := t)
  have hwl : (sortB l).length ≤ 8 := by rw [sortB_length]; omega
  have hwz : ∀ t ∈ sortB l, t.size ≤ 12 := fun t ht => by have := h4 t ((hmem t).1 ht); omega
  have hwp : ∀ t ∈ sortB l, 0 < t.size := fun t ht => by have := (badB_size l hbad t ((hmem t).1 ht)).1; omega
  generalize sortB l = w at hwl hwz hwp
  clear hmem rn hn he hbad
  refine Ev.bind (rall_ev w s (by omega) (fun t ht => by have := hwz t ht; omega) (by omega)) ?_
  have hHm : ∀ h ∈ hitsB w s, 1 ≤ h.f0 ∧ h.f0 ≤ 80 ∧ 0 ≤ h.f1 ∧ h.f1 < (w.length : Int) := fun h hh => by
    obtain ⟨a, j, ha, hj, rfl, hst⟩ := hitsB_mem.1 hh
    have hp := hwp _ (getD_mem w j ByteArray.empty hj)
    have hs1 := (standsE_iff.1 hst).1
    exact ⟨by show 1 ≤ (a : Int); omega, by show (a : Int) ≤ 80; omega, by show 0 ≤ (j : Int); omega, by show (j : Int) < _; omega⟩
  have hHl : (hitsB w s).length ≤ 81 * 8 := Nat.le_trans (hitsF_length w s _ 0) (Nat.mul_le_mul (by omega) hwl)
  have hpw := hitsF_up w s (s.size + 1) 0
  have hr : risB (hitsB w s) = true := pairwise_ris hpw
  have hg : (hitsB w s).all (goodH w.length) = true := List.all_eq_true.2 fun h hh => by have := hHm h hh; exact decide_eq_true ⟨this.2.2.1, this.2.2.2, this.1⟩
  have hf0 : ∀ i, i < w.length → ((cntsB w.length (hitsB w s)).getD i cnt0).f0 = (cntF (w.getD i ByteArray.empty) s (s.size + 1) 0 : Int) := fun i hi => by
    have e0 : (List.replicate w.length cnt0).getD i cnt0 = cnt0 := by rw [List.getD_eq_getElem?_getD, List.getElem?_replicate, if_pos hi]; rfl
    have e := cnt_one w.length (hitsB w s) (List.replicate w.length cnt0) i List.length_replicate hi hpw (List.all_eq_true.1 hg) (by rw [e0]; exact .inl ⟨rfl, rfl⟩) (fun h _ _ h1 => by rw [e0] at h1; exact absurd h1 (by decide))
    rw [e0] at e
    show (((hitsB w s).foldl cntPut (List.replicate w.length cnt0)).getD i cnt0).f0 = _
    rw [e, one_f0, hits_count w s i hi]
    show (0 : Int) + _ = _
    omega
  have hcl : (cntsB w.length (hitsB w s)).length = w.length := by unfold cntsB; rw [cntFold_length, List.length_replicate]
  have hsumc : ∀ k, sumTo (fun i => cntF (w.getD i ByteArray.empty) s (s.size + 1) 0) k = (hitsB w s).countP (fun x => decide (0 ≤ x.f1 ∧ x.f1 < (k : Int))) ∨ w.length < k := fun k => by
    by_cases hk : w.length < k
    · exact .inr hk
    · left
      rw [← sum_kinds]
      have : ∀ m, m ≤ w.length → sumTo (fun i => cntF (w.getD i ByteArray.empty) s (s.size + 1) 0) m = sumTo (fun k => (hitsB w s).countP (fun x => decide (x.f1 = (k : Int)))) m := by
        intro m
        induction m with
        | zero => intro _; rfl
        | succ m ih => intro hm; have hc := hits_count w s m (by omega) (s.size + 1) 0; show _ + cntF (w.getD m ByteArray.empty) s (s.size + 1) 0 = _ + (hitsB w s).countP (fun x => decide (x.f1 = (m : Int))); rw [ih (by omega), hc]
      exact this k (by omega)
  have hof : tally_Of.f (w.length : Int) (hitsB w s) = some (cntsB w.length (hitsB w s), 0) := by
    unfold tally_Of.f
    rw [if_neg (by omega), if_neg (by omega), if_neg (fun h => h ⟨by omega, fun h hh => by have := hHm h hh; omega⟩), if_neg (by rw [hr]; simp), Int.toNat_natCast, if_pos hg]
  refine Ev.bind (Ev.const fun _ => hof) ?_
  obtain ⟨b0', b1'⟩ := bits_and_mask width 31 (by decide)
  have b0 : 0 ≤ Go.bits .and .i64 width 31 := b0'
  have b1 : Go.bits .and .i64 width 31 ≤ 31 := b1'
  have hwd : wrap64 (1 + Go.bits .and .i64 width 31) = 1 + Go.bits .and .i64 width 31 := wrap_id (by omega) (by omega)
  have hch := chart_ev (hitsB w s) (1 + Go.bits .and .i64 width 31) 81 (by omega) (fun h hh => by have := hHm h hh; omega)
  have hca : chartAll (hitsB w s) (1 + Go.bits .and .i64 width 31) 81 = chartB (1 + Go.bits .and .i64 width 31) 81 (hitsB w s) := by unfold chartAll; rw [if_neg (by omega)]; rfl
  rw [hca] at hch
  rw [hwd]
  refine Ev.bind hch ?_
  have hfin : sumTo (fun i => cntF (w.getD i ByteArray.empty) s (s.size + 1) 0) w.length = (hitsB w s).length := by
    rcases hsumc w.length with h | h
    · rw [h, List.countP_eq_length]
      intro x hx
      have := hHm x hx
      exact decide_eq_true ⟨this.2.2.1, this.2.2.2⟩
    · omega
  have hle : ∀ k, k ≤ w.length → sumTo (fun i => cntF (w.getD i ByteArray.empty) s (s.size + 1) 0) k ≤ 1000 := fun k hk => by
    rcases hsumc k with h | h
    · rw [h]
      exact Nat.le_trans List.countP_le_length (by omega)
    · omega
  refine all_l0 s w (hitsB w s) _ 0 _ hcl (by omega) (fun t ht => by have := hwz t ht; omega) (by omega) hf0 hle true ?_ w.length 0 (by omega)
  rw [hfin]
  have hpart : ∀ h ∈ hitsB w s, 0 ≤ partH (1 + Go.bits .and .i64 width 31) h ∧ partH (1 + Go.bits .and .i64 width 31) h < 81 := fun h hh => by
    have hb := hHm h hh
    obtain ⟨e, hp⟩ := part_nonneg (width := 1 + Go.bits .and .i64 width 31) (h := h) (by omega) (by omega) (by omega)
    refine ⟨hp, ?_⟩
    rw [e, Int.tdiv_eq_ediv_of_nonneg (by omega)]
    have := Int.ediv_le_self (a := h.f0 - 1) (1 + Go.bits .and .i64 width 31) (by omega)
    omega
  have hks : ∀ k, sumTo (fun k => (hitsB w s).countP (inPart (1 + Go.bits .and .i64 width 31) k)) k = (hitsB w s).countP (fun x => decide (0 ≤ partH (1 + Go.bits .and .i64 width 31) x ∧ partH (1 + Go.bits .and .i64 width 31) x < (k : Int))) := fun k => by
    rw [← sum_kinds]
    congr 1
    funext q
    apply List.countP_congr
    intro x hx
    have := hHm x hx
    unfold inPart
    simp only [decide_eq_true_eq]
    exact ⟨fun h => h.2, fun h => ⟨by omega, h⟩⟩
  have hc81 : (chartB (1 + Go.bits .and .i64 width 31) 81 (hitsB w s)).length = 81 := chartB_length _ _ _
  have hall : sumTo (fun k => (hitsB w s).countP (inPart (1 + Go.bits .and .i64 width 31) k)) 81 = (hitsB w s).length := by
    rw [hks, List.countP_eq_length]
    intro x hx
    exact decide_eq_true (hpart x hx)
  refine all_l1 (hitsB w s) 0 _ _ (by omega) (by omega) (fun k => (hitsB w s).countP (inPart (1 + Go.bits .and .i64 width 31) k)) (fun k hk => chartB_at _ _ (by omega)) (fun k hk => by rw [hks]; exact Nat.le_trans List.countP_le_length (by omega)) true ?_ 81 0 (by omega)
  rw [hc81, hall]
  have hnf : NoFall (hitsB w s) := hpw.imp (fun {a b} h => by have := of_decide_eq_true h; omega)
  obtain ⟨r, hr1, hr2⟩ := busy_ev hnf (width := 4611686018427387904) (by decide) (by omega) (fun h hh => by have := hHm h hh; omega)
  refine Ev.bind hr2 ?_
  by_cases hlen : (hitsB w s).length = 0
  · rcases hr1 with ⟨_, rfl⟩ | ⟨a, ha, _⟩
    · refine Ev.congr (fun k => if_neg (by omega)) ?_
      refine Ev.congr (fun k => if_pos rfl) (Ev.congr (fun k => if_pos rfl) (Ev.congr (fun k => if_pos rfl) (Ev.congr (fun k => if_pos ?_) (Ev.congr (fun k => if_pos rfl) aw))))
      show (0 : Int) = _
      omega
    · omega
  · have hw0 : winB (hitsB w s) 4611686018427387904 0 = (hitsB w s).length := by
      have hb := hHm _ (getD_mem (hitsB w s) 0 hit0 (by omega))
      have e1 : cBelow (hitsB w s) (endH (hitsB w s) 0) = 0 := by
        unfold cBelow
        rw [List.countP_eq_zero]
        intro x hx
        obtain ⟨i, hi, rfl⟩ := List.mem_iff_getElem.1 hx
        have := endH_mono hnf (Nat.zero_le i) hi
        have e : endH (hitsB w s) i = (hitsB w s)[i].f0 := by unfold endH; rw [List.getD_eq_getElem?_getD, List.getElem?_eq_getElem hi]; rfl
        simp only [decide_eq_true_eq]
        omega
      have e2 : cBelow (hitsB w s) (endH (hitsB w s) 0 + 4611686018427387904) = (hitsB w s).length := by
        unfold cBelow
        rw [List.countP_eq_length]
        intro x hx
        have := hHm x hx
        refine decide_eq_true ?_
        show x.f0 < ((hitsB w s).getD 0 hit0).f0 + 4611686018427387904
        omega
      unfold winB
      rw [e1, e2]
      omega
    have hspec : BusySpec (hitsB w s) 4611686018427387904 (endH (hitsB w s) 0, ((hitsB w s).length : Int)) := .inr ⟨0, by omega, by rw [hw0], fun j hj => by
      rw [hw0]
      unfold winB
      have := cBelow_le (hitsB w s) (endH (hitsB w s) j + 4611686018427387904)
      omega, fun j hj => by omega⟩
    obtain rfl := spec_one hr1 hspec
    refine Ev.congr (fun k => if_pos (by omega)) (Ev.congr (fun k => if_pos (by omega)) ?_)
    exact Ev.congr (fun k => if_pos rfl) (Ev.congr (fun k => if_pos rfl) (Ev.congr (fun k => if_pos rfl) (Ev.congr (fun k => if_pos rfl) (Ev.congr (fun k => if_pos rfl) aw))))

end Go.Proofs.Ytmkcoobmbjoloaa.Pure

/- How a law's arguments are opened: slices of texts and of numbers, as lists, with their sizes out of the row's weights. -/
namespace Go.Proofs.Ytmkcoobmbjoloaa.RowS
open Go Go.ChangeShapes Go.WideShapes Go.RowKit Go.Proofs.YtmkcoobmbjoloaaW.PrintWords

theorem slice_strings {H : Type} {enc : TypeId × Value → H} {P : Program} {W : World} {t e : TypeId} {a : Option Addr} {len cap : Nat} {d : DataW H} {ps : List MemPlace} {ts : List TypeId} {ds : List (DataW H)} {j : Nat}
    (hsz : (DataW.weightsEach P ts ds).all (· ≤ reachBytes) = true) (ht : ts[j]? = some t) (hd : ds[j]? = some d) (hu : P.underlying t = some (.slice e)) (he : P.underlying e = some .string) (hc : P.cellsOf e = 1) (hB : P.bytesOf e = 16)
    (h : DataW.Trod enc P W 0 (fun _ => true) true t (.slice a len cap) d ps) :
    ∃ l : List ByteArray, l.length = len ∧ len ≤ cap ∧ Kd.C Kd.string W a l.length l ∧ l.length * 16 ≤ 140737488351232 ∧ ∀ s ∈ l, s.size ≤ maxLen := by
  obtain ⟨fuel, hf⟩ := h
  rcases open_strings hu he hc hf with ⟨hcs, _⟩ | ⟨x, l, c, ss, hcs, _, hl, hm, hz, hx, hcell, hw⟩
  · simp [Value.cells] at hcs
    obtain ⟨rfl, rfl, rfl⟩ := hcs
    exact ⟨[], rfl, Nat.le_refl _, Kd.C_nil _ _, by simp, by simp⟩
  · simp [Value.cells] at hcs
    obtain ⟨rfl, rfl, rfl⟩ := hcs
    obtain ⟨hx, _⟩ := Prod.mk.inj hx
    subst hx
    have z := sized_slice hsz ht hd hu
    rw [hB] at z
    rw [if_pos rfl] at hz
    have hl2 : len ≤ ss.length := by omega
    have h1 : (strs (H := H) (ss.take len)).length + (strs (H := H) (ss.drop len)).length = ss.length := by
      simp [strs]
      omega
    rw [h1] at z
    have hlen : (ss.take len).length = len := by rw [List.length_take]; omega
    refine ⟨ss.take len, hlen, hl, Kd.C_of_reads (d := ByteArray.empty) (h1 := fun _ => rfl) ⟨rfl, by rw [hlen]; unfold maxLen at hm; omega, fun _ => ⟨x, rfl, fun i hi => ?_⟩⟩, ?_, fun s hs => hw s (List.mem_of_mem_take hs)⟩
    · rw [hlen] at hi
      rw [hcell i (by omega), List.getD_eq_getElem?_getD, List.getD_eq_getElem?_getD, List.getElem?_take_of_lt hi]
    · rw [hlen]
      exact Nat.le_trans (Nat.mul_le_mul_right _ hl2) z
theorem slice_ints {H : Type} {enc : TypeId × Value → H} {P : Program} {W : World} {t e : TypeId} {k : IntKind} {a : Option Addr} {len cap : Nat} {d : DataW H} {ps : List MemPlace} {ts : List TypeId} {ds : List (DataW H)} {j : Nat}
    (hsz : (DataW.weightsEach P ts ds).all (· ≤ reachBytes) = true) (ht : ts[j]? = some t) (hd : ds[j]? = some d) (hu : P.underlying t = some (.slice e)) (he : P.underlying e = some (.int k)) (hc : P.cellsOf e = 1) {B : Nat} (hB : P.bytesOf e = B)
    (h : DataW.Trod enc P W 0 (fun _ => true) true t (.slice a len cap) d ps) :
    ∃ l : List Int, l.length = len ∧ len ≤ cap ∧ Kd.C (Kd.int k) W a l.length l ∧ l.length ≤ maxLen ∧ l.length * B ≤ 140737488351232 ∧ ∀ n ∈ l, (Lit.int k n).wf = true := by
  have y := sized_ints hsz ht hd hu he hc hB h
  obtain ⟨fuel, hf⟩ := h
  rcases open_ints hu he hc hf with ⟨hcs, _⟩ | ⟨x, l, c, zs, hcs, _, hl, hm, hz, _, hcell, hw⟩
  · simp [Value.cells] at hcs
    obtain ⟨rfl, rfl, rfl⟩ := hcs
    exact ⟨[], rfl, Nat.le_refl _, Kd.C_nil _ _, by simp, by simp, by simp⟩
  · simp [Value.cells] at hcs
    obtain ⟨rfl, rfl, rfl⟩ := hcs
    rw [if_pos rfl] at hz
    have hlen : (zs.take len).length = len := by rw [List.length_take]; omega
    refine ⟨zs.take len, hlen, hl, Kd.C_of_reads (d := (0 : Int)) (h1 := fun _ => rfl) ⟨rfl, by rw [hlen]; unfold maxLen at hm; omega, fun _ => ⟨x, rfl, fun i hi => ?_⟩⟩, by rw [hlen]; omega, by rw [hlen]; exact y, fun s hs => hw s (List.mem_of_mem_take hs)⟩
    rw [hlen] at hi
    rw [hcell i (by omega), List.getD_eq_getElem?_getD, List.getD_eq_getElem?_getD, List.getElem?_take_of_lt hi]

end Go.Proofs.Ytmkcoobmbjoloaa.RowS

/- The row of the law TallyAll, out of its plain statement and the walk; written for this claim by a program of this session (wip/mkrow.py). -/
namespace Go.Proofs.Ytmkcoobmbjoloaa.tallyAll
open Go.ChangeShapes Go.WideShapes Go.ChangeAt Go.RowKit
open Go.ChangeMaps (open_string shut_string)
set_option linter.unusedVariables false
theorem own : ownKnob Try.prog.godebug = none := by kernel_rfl
theorem laidOut : laidOutB Try.prog = true := by kernel_rfl
set_option maxRecDepth 100000 in
theorem lifted (os : Os) (started : os.Started) (H : Type) (enc : TypeId × Value → H) :
    ReturnsInHanded {} Try.checked os 11 .any (Rows.tallyAllSpec.pre6 enc Try.prog Try.f11 Rows.tallyAllRow.domain false) (Rows.tallyAllSpec.post enc Try.prog Try.f11 false true false false) := by
  refine returnsInHanded_of_change_sized (C := Try.checked) own started (by kernel_rfl) Try.func11
    (ChangeSpec.witness6 (enc := enc) (C := Try.checked) false ⟨#[], #[.slice none 0 0, .string ByteArray.empty, .int .i64 0], []⟩ 8 (by kernel_rfl) (by kernel_rfl) (by kernel_rfl) (by kernel_rfl)) ?_
  intro W base args ds gs before hval0 hW hcnd hsz0 _
  have hsz : (DataW.weightsEach Try.prog (Try.f11.params.toList ++ Rows.tallyAllSpec.plain.varTypes Try.prog) (ds ++ gs)).all (· ≤ reachBytes) = true := hsz0
  have hval : ∀ (j : Nat) t v, Try.f11.params[j]? = some t → args[j]? = some v → Value.okWide Try.prog W .any base t v := hval0
  have hW' := hW
  obtain ⟨p, q, hA0, hV, rfl, hfz, hnd⟩ := hW
  have hA : DataW.TrodAll enc Try.prog W 0 (fun _ => true) true Try.f11.params.toList args.toList ds p := hA0
  rw [Try.params11] at hA hval hsz
  obtain ⟨v0, vs0, d0, ds0, p0, q0, hargs, rfl, rfl, h0, r0⟩ := trodAll_cons hA
  obtain ⟨v1, vs1, d1, ds1, p1, q1, rfl, rfl, rfl, h1, r1⟩ := trodAll_cons r0
  obtain ⟨v2, vs2, d2, ds2, p2, q2, rfl, rfl, rfl, h2, r2⟩ := trodAll_cons r1
  obtain ⟨rfl, rfl, rfl⟩ := trodAll_nil r2
  obtain rfl : args = #[v0, v1, v2] := by cases args; simp_all
  obtain ⟨rfl, rfl⟩ := trodVars_none hV
  obtain ⟨a0, len0, cap0, rfl⟩ := okWide_slice Try.underlying24 (hval 0 24 v0 rfl rfl)
  have k0 := h0
  have lt0 : ∀ x ∈ p0, x.block < W.heap.size := by obtain ⟨m, hm⟩ := k0; exact DataW.trod_lt m _ _ _ hm
  obtain ⟨l0, hn0, hc0, hr0, y0, w0⟩ := RowS.slice_strings hsz (j := 0) (t := 24) rfl rfl Try.underlying24 Try.underlying9 (by kernel_rfl) (by kernel_rfl) h0
  subst hn0
  obtain ⟨a1, rfl, rfl, rfl, y1⟩ := open_string Try.underlying9 (hval 1 9 v1 rfl rfl) h1
  have w1 : a1.size ≤ 140737488351232 := by
    have z := sized_string hsz (j := 1) (t := 9) rfl rfl
    rw [Array.length_toList] at z
    exact z
  obtain ⟨a2, rfl, rfl, rfl, w2⟩ := open_int Try.underlying3 (hval 2 3 v2 rfl rfl) h2
  clear hA0 hval0 hsz0 hsz
  obtain ⟨k, hk⟩ := Pure.TallyAll l0 a1 a2 y0 w0 w1 w2
  refine (P.juratlaw47_TallyAll.calls k a0 cap0 l0 a1 a2 true W hr0 hc0 hk).mono fun e W' ⟨he, bel⟩ => ?_
  subst he
  exact ⟨_, rfl, _, _, _, [], _, [], hW', trodAll_mk1 (shut_bool Try.underlying4 _), (trodAll_cons_mk (Below.trod laidOut (by kernel_rfl) (of_decide_eq_true (by kernel_rfl)) k0 bel lt0) (trodAll_cons_mk (shut_string Try.underlying9 y1) (trodAll_cons_mk (shut_int Try.underlying3 w2) trodAll_mk0))), rfl, bel.frame _, fun h => by cases h⟩
theorem over : Rows.tallyAllRow.holds Try.pinned (OpenSpec.ofChange Rows.tallyAllSpec) :=
  OpenClaim.holds_of_wide 11 Try.f11 rfl rfl rfl rfl rfl rfl rfl ⟨rfl, rfl, rfl, rfl, rfl⟩ rfl rfl rfl rfl rfl (by kernel_rfl) Try.func11 (by kernel_rfl)
    (of_decide_eq_true (by kernel_rfl)) (by unfold Func.isWrapper; first | (rw [if_pos (by decide +kernel)]; kernel_rfl) | (rw [if_neg (by decide +kernel)]; exact ⟨rfl, rfl⟩))
    (fun os started H enc _ => lifted os started H enc)
theorem proved : Rows.TallyAllSaid := over
#print axioms proved
end Go.Proofs.Ytmkcoobmbjoloaa.tallyAll
namespace Go.Proofs.Ytmkcoobmbjoloaa
/-- The row, under a short name, for the claim. -/
theorem tallyAll_holds : Rows.TallyAllSaid := tallyAll.proved
end Go.Proofs.Ytmkcoobmbjoloaa
