/- Proved here: the row of the law TrieNone, with texts that lead to it, merged by a program of this session (wip/merge.py), part 2 of 2; no condition beyond the statement's own. -/
import Derived.Test.YtnpkbnfiadkgnaaH16b
import Derived.SizedLaws
import Derived.SliceStrings
import Derived.Test.YtnpkbnfiadkgnaaWWords
import Derived.Test.YtnpkbnfiadkgnaaWSized
import Derived.Test.YtnpkbnfiadkgnaaRows
import Derived.WalkKit
import Derived.ProofKit
import Derived.OpenShut
import Derived.ShutString
import Derived.ChangeOld
import Derived.Below
import Derived.Carry
import Derived.Test.YtnpkbnfiadkgnaaZTrieNonea
/- Sets of the same patterns are one, in whatever order these come; a pattern is found by its number; no condition beyond the sizes that stand in each statement. -/
namespace Go.Proofs.Ytnpkbnfiadkgnaa.Base
open Go Go.RowKit Go.Proofs.YtnpkbnfiadkgnaaW.PrintWords Go.Proofs.YtnpkbnfiadkgnaaW.PrintLast Go.Proofs.YtnpkbnfiadkgnaaW.PrintMore Go.Proofs.Ytnpkbnfiadkgnaa.P
set_option linter.unusedVariables false

theorem twB_iff : ∀ (l seen : List ByteArray) (i : Nat), twB seen l i < 0 ↔ (l.Nodup ∧ ∀ x ∈ l, ¬ inB x seen = true)
  | [], seen, i => by simp [twB]
  | x :: l, seen, i => by
    simp only [twB]
    by_cases h : inB x seen = true
    · rw [if_pos h]
      constructor
      · intro h'; omega
      · rintro ⟨_, h'⟩; exact absurd h (h' x List.mem_cons_self)
    · rw [if_neg h, twB_iff l (seen ++ [x]) (i + 1), List.nodup_cons]
      constructor
      · rintro ⟨h1, h2⟩
        refine ⟨⟨fun hx => ?_, h1⟩, fun y hy => ?_⟩
        · have := h2 x hx
          rw [inB_snoc] at this
          simp at this
        · rcases List.mem_cons.1 hy with rfl | hy
          · exact h
          · have := h2 y hy
            rw [inB_snoc] at this
            intro h3
            rw [h3] at this
            simp at this
      · rintro ⟨⟨h1, h2⟩, h3⟩
        refine ⟨h2, fun y hy => ?_⟩
        rw [inB_snoc]
        intro h4
        rcases Bool.or_eq_true_iff.1 h4 with h4 | h4
        · exact h3 y (List.mem_cons_of_mem _ hy) h4
        · exact h1 (by rw [of_decide_eq_true h4]; exact hy)
theorem nodup_of_tw {l : List ByteArray} (h : twB [] l 0 < 0) : l.Nodup := ((twB_iff l [] 0).1 h).1
theorem tw_of_nodup {l : List ByteArray} (h : l.Nodup) : twB [] l 0 < 0 := (twB_iff l [] 0).2 ⟨h, fun x _ => by simp [inB]⟩
theorem badB_iff : ∀ (l : List ByteArray), badB l = 0 ↔ ∀ s ∈ l, chkB s = 0
  | [] => by simp [badB]
  | s :: l => by
    simp only [badB]
    by_cases h : chkB s = 0
    · rw [if_pos h, badB_iff l]
      simp [h]
    · rw [if_neg h]
      simp [h]
theorem setB_perm {l m : List ByteArray} (h : l.Perm m) (h0 : 0 < l.length) : setB l = setB m := by
  have e : sortB l = sortB m := sortB_of ((sortB_perm l).trans h) (sortB_up l)
  unfold setB
  rw [e, min_perm h h0, most_perm h, total_perm h]
/-- Texts that make a set make it in any order. -/
theorem new_perm {l m : List ByteArray} (h : l.Perm m) (hp : 0 < l.length) (h1 : l.length ≤ 65535) (h2 : badB l = 0) (h3 : totalB 0 l ≤ 16777216) (h4 : twB [] l 0 < 0) :
    pats_New.f m = some (some (setB l), 0) := by
  have e := h.length_eq
  rcases new_cases m with ⟨c, hc, hn, hw⟩ | ⟨hn, _⟩
  · exfalso
    unfold pats_New.f at hn
    have b2 : badB m = 0 := (badB_iff m).2 fun s hs => (badB_iff l).1 h2 s (h.mem_iff.2 hs)
    have b4 := tw_of_nodup ((h.nodup_iff).1 (nodup_of_tw h4))
    rw [if_neg (by omega), if_neg (by omega), if_neg (by rw [b2]; simp), if_neg (by rw [← total_perm h]; omega), if_neg (by omega)] at hn
    have := (Prod.mk.inj (Option.some.inj hn)).1
    cases this
  · rw [hn, setB_perm h hp]
theorem findB_mem (s : ByteArray) : ∀ (l : List ByteArray) (i : Nat), s ∈ l → ∃ n, findB s l i = ((i + n : Nat) : Int) ∧ n < l.length ∧ l.getD n ByteArray.empty = s
  | [], i, h => by cases h
  | x :: l, i, h => by
    have ef : findB s (x :: l) i = if x = s then (i : Int) else findB s l (i + 1) := rfl
    rw [ef]
    by_cases hx : x = s
    · rw [if_pos hx]
      exact ⟨0, rfl, by simp, by simpa using hx⟩
    · rw [if_neg hx]
      rcases List.mem_cons.1 h with rfl | h
      · exact absurd rfl hx
      · obtain ⟨n, h1, h2, h3⟩ := findB_mem s l (i + 1) h
        exact ⟨n + 1, by rw [h1]; congr 1; omega, by rw [List.length_cons]; omega, by rw [List.getD_cons_succ]; exact h3⟩
theorem list_is (l : List ByteArray) (h : l.length ≤ 65535) : pats_Set_List.f (some (setB l)) = some (sortB l) := by
  show (if (sortB l).length ≤ 8796093022208 then some (sortB l) else none) = _
  rw [if_pos (by rw [sortB_length]; omega)]
end Go.Proofs.Ytnpkbnfiadkgnaa.Base

/- A set of texts and its list, made or not, told together; no condition beyond the sizes that stand in each statement. -/
namespace Go.Proofs.Ytnpkbnfiadkgnaa.Base
open Go Go.RowKit Go.Proofs.YtnpkbnfiadkgnaaW.PrintWords Go.Proofs.YtnpkbnfiadkgnaaW.PrintMore Go.Proofs.Ytnpkbnfiadkgnaa.P
set_option linter.unusedVariables false

/-- What is made of texts: a set or none, its list, why there is none. -/
structure SetOk (l : List ByteArray) (x : Option SetD) (w : List ByteArray) (e : Int) : Prop where
  hn : pats_New.f l = some (x, e)
  hw : newB l = (w, e)
  hL : setL x = w
  hM : setM x = minB w
  mem : ∀ s ∈ w, s ∈ l
  len : w.length ≤ l.length
  few : w.length ≤ 65535
  size : ∀ s ∈ w, s.size ≤ 65535
  up : upB w
  pos : ∀ s ∈ w, 0 < s.size
  nodup : w.Nodup
  kind : (e = 0 ∧ 0 < w.length ∧ x = some (setB l) ∧ w = sortB l ∧ w.length = l.length) ∨ (e ≠ 0 ∧ x = none ∧ w = [])
theorem chkB_pos {s : ByteArray} (h : chkB s = 0) : 0 < s.size ∧ s.size ≤ 65535 := by
  unfold chkB at h
  by_cases h1 : s.size = 0
  · rw [if_pos h1] at h; omega
  · rw [if_neg h1] at h
    by_cases h2 : s.size > 65535
    · rw [if_pos h2] at h; omega
    · omega
theorem set_ok (l : List ByteArray) : ∃ x w e, SetOk l x w e := by
  rcases new_cases l with ⟨e, he, hn, hw⟩ | ⟨hn, hw, hp, hl, hb, ht, hd⟩
  · exact ⟨none, [], e, hn, hw, rfl, rfl, by simp, by simp, by simp, by simp, List.Pairwise.nil, by simp, List.nodup_nil, .inr ⟨he, rfl, rfl⟩⟩
  · have hm := fun s => (sortB_perm l).mem_iff (a := s)
    have hlen := sortB_length l
    refine ⟨some (setB l), sortB l, 0, hn, hw, rfl, ?_, fun s hs => (hm s).1 hs, by omega, by omega, fun s hs => (chkB_pos ((badB_iff l).1 hb s ((hm s).1 hs))).2, sortB_up l, fun s hs => (chkB_pos ((badB_iff l).1 hb s ((hm s).1 hs))).1, ((sortB_perm l).nodup_iff).2 (nodup_of_tw hd), .inl ⟨rfl, by omega, rfl, rfl, by omega⟩⟩
    show ((minB l : Nat) : Int) = _
    rw [min_perm (sortB_perm l).symm hp]
theorem min_le {w : List ByteArray} : ∀ s ∈ w, minB w ≤ s.size := fun s hs => (min_spec w (List.length_pos_of_mem hs)).1 s hs
theorem list_ok {l w : List ByteArray} {x : Option SetD} {e : Int} (h : SetOk l x w e) : pats_Set_List.f x = some w := by
  rcases h.kind with ⟨_, _, rfl, rfl, _⟩ | ⟨_, rfl, rfl⟩
  · exact list_is l (by have := h.few; rw [sortB_length] at this; exact this)
  · rfl
theorem rnew_ok {l w : List ByteArray} {x : Option SetD} {e : Int} (h : SetOk l x w e) : Ev (fun k => juratref10_New.f k l) (w, e) := by
  have := rnew_ev l
  rw [h.hw] at this
  exact this

end Go.Proofs.Ytnpkbnfiadkgnaa.Base

/- What layer 16's reference tells of texts: the beginnings, in order; and that the nodes' paths are these; no condition beyond the sizes that stand in each statement. -/
namespace Go.Proofs.Ytnpkbnfiadkgnaa.Base
open Go Go.RowKit Go.Proofs.YtnpkbnfiadkgnaaW.PrintWords Go.Proofs.YtnpkbnfiadkgnaaW.PrintMore Go.Proofs.Ytnpkbnfiadkgnaa.P
set_option linter.unusedVariables false

/-- One text is shorter, or as long and less. -/
def ltP (p q : ByteArray) : Prop := p.size < q.size ∨ (p.size = q.size ∧ Op.bytesLess (LL p) (LL q) = true)
theorem ltP_asym {p q : ByteArray} (h : ltP p q) : ¬ ltP q p := by
  rintro (h2 | ⟨h2, h3⟩)
  · rcases h with h | ⟨h, _⟩ <;> omega
  · rcases h with h | ⟨_, h⟩
    · omega
    · rw [bl_asym h] at h3; cases h3
theorem ltP_irrefl (p : ByteArray) : ¬ ltP p p := by
  rintro (h | ⟨_, h⟩)
  · omega
  · rw [bl_irrefl] at h; cases h
theorem pw_ext {α : Type} {R : α → α → Prop} (ha : ∀ {x y}, R x y → ¬ R y x) : ∀ {l m : List α}, l.Pairwise R → m.Pairwise R → (∀ x, x ∈ l ↔ x ∈ m) → l = m
  | [], [], _, _, _ => rfl
  | [], y :: m, _, _, h => absurd ((h y).2 List.mem_cons_self) (by simp)
  | x :: l, [], _, _, h => absurd ((h x).1 List.mem_cons_self) (by simp)
  | x :: l, y :: m, hl, hm, h => by
    obtain ⟨l1, l2⟩ := List.pairwise_cons.1 hl
    obtain ⟨m1, m2⟩ := List.pairwise_cons.1 hm
    have e : x = y := by
      rcases List.mem_cons.1 ((h x).1 List.mem_cons_self) with h1 | h1
      · exact h1
      · rcases List.mem_cons.1 ((h y).2 List.mem_cons_self) with h2 | h2
        · exact h2.symm
        · exact absurd (m1 x h1) (ha (l1 y h2))
    subst e
    congr 1
    refine pw_ext ha l2 m2 fun z => ?_
    constructor
    · intro hz
      rcases List.mem_cons.1 ((h z).1 (List.mem_cons_of_mem _ hz)) with h1 | h1
      · subst h1; exact absurd (l1 z hz) (fun q => ha q q)
      · exact h1
    · intro hz
      rcases List.mem_cons.1 ((h z).2 (List.mem_cons_of_mem _ hz)) with h1 | h1
      · subst h1; exact absurd (m1 z hz) (fun q => ha q q)
      · exact h1
/-- Beginnings as long, of texts in order. -/
theorem bl_pre {x y s t : List UInt8} (hs : x <+: s) (ht : y <+: t) (hl : x.length = y.length) (h : Op.bytesLess s t = true) : x = y ∨ Op.bytesLess x y = true := by
  induction x generalizing y s t with
  | nil =>
    left
    exact (List.length_eq_zero_iff.1 hl.symm).symm
  | cons a x ih =>
    cases y with
    | nil => simp at hl
    | cons b y =>
      obtain ⟨r1, rfl⟩ := hs
      obtain ⟨r2, rfl⟩ := ht
      rw [List.cons_append, List.cons_append] at h
      by_cases hab : a = b
      · subst hab
        rw [bl_cons_same] at h
        rcases ih (y := y) (s := x ++ r1) (t := y ++ r2) (List.prefix_append _ _) (List.prefix_append _ _) (by simpa using hl) h with h1 | h1
        · left; rw [h1]
        · right; rw [bl_cons_same]; exact h1
      · right
        simp only [Op.bytesLess] at h ⊢
        by_cases h1 : a < b
        · simp [h1]
        · exfalso
          simp [h1, hab] at h

/-- Is a text a beginning? -/
def isB (w : List ByteArray) (p : ByteArray) : Prop := p = ByteArray.empty ∨ ∃ t, t < w.length ∧ LL p <+: LL (w.getD t ByteArray.empty)
def lastS (out : List ByteArray) : ByteArray := out.getD (out.length - 1) ByteArray.empty
/-- One text's beginning, if it is not told yet. -/
def addS (n : Nat) (out : List ByteArray) (s : ByteArray) : List ByteArray := if n ≤ s.size then (if s.extract 0 n = lastS out then out else out ++ [s.extract 0 n]) else out
def rowS (w : List ByteArray) (n : Nat) (out : List ByteArray) : List ByteArray := w.foldl (addS n) out
def allS (w : List ByteArray) : Nat → Nat → List ByteArray → List ByteArray
  | 0, _, out => out
  | f + 1, n, out => allS w f (n + 1) (rowS w n out)
theorem addS_length (n : Nat) (out : List ByteArray) (s : ByteArray) : (addS n out s).length ≤ out.length + 1 ∧ out.length ≤ (addS n out s).length := by
  unfold addS
  split
  · split
    · omega
    · simp
  · omega
theorem rowS_length (n : Nat) : ∀ (w out : List ByteArray), (rowS w n out).length ≤ out.length + w.length ∧ out.length ≤ (rowS w n out).length
  | [], out => ⟨Nat.le_refl _, Nat.le_refl _⟩
  | s :: w, out => by
    have h1 := addS_length n out s
    have h2 := rowS_length n w (addS n out s)
    have e : rowS (s :: w) n out = rowS w n (addS n out s) := rfl
    rw [e, List.length_cons]
    omega
structure InvS (w : List ByteArray) (n i : Nat) (out : List ByteArray) : Prop where
  pw : out.Pairwise ltP
  ne : 0 < out.length
  mem : ∀ p, p ∈ out ↔ (p.size < n ∧ isB w p) ∨ (p.size = n ∧ ∃ t, t < i ∧ t < w.length ∧ LL p <+: LL (w.getD t ByteArray.empty))
theorem lastS_mem {out : List ByteArray} (h : 0 < out.length) : lastS out ∈ out := getD_mem out _ _ (by omega)
theorem pw_last {out : List ByteArray} (hp : out.Pairwise ltP) (h : 0 < out.length) : ∀ x ∈ out, x = lastS out ∨ ltP x (lastS out) := fun x hx => by
  obtain ⟨i, hi, rfl⟩ := List.mem_iff_getElem.1 hx
  unfold lastS
  rw [List.getD_eq_getElem?_getD, List.getElem?_eq_getElem (by omega)]
  by_cases h1 : i = out.length - 1
  · left; subst h1; rfl
  · right
    exact List.pairwise_iff_getElem.1 hp i (out.length - 1) hi (by omega) (by omega)
theorem take_pre (s : ByteArray) (n : Nat) : LL (s.extract 0 n) <+: LL s := by
  rw [LL_extract, List.drop_zero]; exact List.take_prefix _ _
theorem take_size {s : ByteArray} {n : Nat} (h : n ≤ s.size) : (s.extract 0 n).size = n := by
  rw [ByteArray.size_extract, Nat.min_eq_left h, Nat.sub_zero]
theorem pre_take {p s : ByteArray} (h : LL p <+: LL s) : p = s.extract 0 p.size := by
  apply LL_inj
  rw [LL_extract, List.drop_zero, ← LL_length]
  exact (List.prefix_iff_eq_take.1 h)
theorem invS_add {w : List ByteArray} (hs : srt w) {n i : Nat} {out : List ByteArray} (hi : i < w.length) (h : InvS w n i out) : InvS w n (i + 1) (addS n out (w.getD i ByteArray.empty)) := by
  obtain ⟨s, hss⟩ : ∃ s, w.getD i ByteArray.empty = s := ⟨_, rfl⟩
  have hmem : ∀ p : ByteArray, (∃ t, t < i + 1 ∧ t < w.length ∧ LL p <+: LL (w.getD t ByteArray.empty)) ↔ (∃ t, t < i ∧ t < w.length ∧ LL p <+: LL (w.getD t ByteArray.empty)) ∨ LL p <+: LL s := fun p => by
    constructor
    · rintro ⟨t, h1, h2, h3⟩
      by_cases ht : t = i
      · subst ht; rw [hss] at h3; exact .inr h3
      · exact .inl ⟨t, by omega, h2, h3⟩
    · rintro (⟨t, h1, h2, h3⟩ | h3)
      · exact ⟨t, by omega, h2, h3⟩
      · exact ⟨i, by omega, hi, by rw [hss]; exact h3⟩
  rw [hss]
  unfold addS
  by_cases hn : n ≤ s.size
  · rw [if_pos hn]
    have hsz := take_size hn
    by_cases hl : s.extract 0 n = lastS out
    · rw [if_pos hl]
      refine ⟨h.pw, h.ne, fun p => ?_⟩
      rw [h.mem, hmem]
      constructor
      · rintro (h1 | ⟨h1, h2⟩)
        · exact .inl h1
        · exact .inr ⟨h1, .inl h2⟩
      · rintro (h1 | ⟨h1, h2 | h2⟩)
        · exact .inl h1
        · exact .inr ⟨h1, h2⟩
        · have e : p = lastS out := by rw [← hl, pre_take h2, h1]
          exact (h.mem p).1 (by rw [e]; exact lastS_mem h.ne)
    · rw [if_neg hl]
      have hbelow : ∀ x ∈ out, ltP x (s.extract 0 n) := fun x hx => by
        have key : ∀ y ∈ out, y.size = n → y = s.extract 0 n ∨ ltP y (s.extract 0 n) := fun y hy hyn => by
          rcases (h.mem y).1 hy with h1 | ⟨h1, t, t1, t2, t3⟩
          · omega
          · have := hs t i t1 hi
            rw [hss] at this
            rcases bl_pre t3 (take_pre s n) (by rw [LL_length, LL_length, hsz, h1]) this with h2 | h2
            · exact .inl (LL_inj h2)
            · exact .inr (.inr ⟨by rw [hsz, h1], h2⟩)
        rcases (h.mem x).1 hx with ⟨h1, _⟩ | ⟨h1, _⟩
        · exact .inl (by rw [hsz]; exact h1)
        · rcases key x hx h1 with h2 | h2
          · exfalso
            rcases pw_last h.pw h.ne x hx with h3 | h3
            · exact hl (h2 ▸ h3)
            · rw [h2] at h3
              have hln : (lastS out).size = n := by
                rcases (h.mem _).1 (lastS_mem h.ne) with ⟨h4, _⟩ | ⟨h4, _⟩
                · rcases h3 with h5 | ⟨h5, _⟩ <;> rw [hsz] at h5 <;> omega
                · exact h4
              rcases key _ (lastS_mem h.ne) hln with h4 | h4
              · exact hl h4.symm
              · exact ltP_asym h3 h4
          · exact h2
      refine ⟨List.pairwise_append.2 ⟨h.pw, by simp, fun x hx y hy => by rw [List.mem_singleton.1 hy]; exact hbelow x hx⟩, by simp, fun p => ?_⟩
      rw [List.mem_append, List.mem_singleton, h.mem, hmem]
      constructor
      · rintro ((h1 | ⟨h1, h2⟩) | h1)
        · exact .inl h1
        · exact .inr ⟨h1, .inl h2⟩
        · exact .inr ⟨by rw [h1, hsz], .inr (by rw [h1]; exact take_pre s n)⟩
      · rintro (h1 | ⟨h1, h2 | h2⟩)
        · exact .inl (.inl h1)
        · exact .inl (.inr ⟨h1, h2⟩)
        · exact .inr (by rw [← h1]; exact pre_take h2)
  · rw [if_neg hn]
    refine ⟨h.pw, h.ne, fun p => ?_⟩
    rw [h.mem, hmem]
    constructor
    · rintro (h1 | ⟨h1, h2⟩)
      · exact .inl h1
      · exact .inr ⟨h1, .inl h2⟩
    · rintro (h1 | ⟨h1, h2 | h2⟩)
      · exact .inl h1
      · exact .inr ⟨h1, h2⟩
      · have := h2.length_le
        rw [LL_length, LL_length] at this
        omega
theorem invS_row {w : List ByteArray} (hs : srt w) {n : Nat} : ∀ (f i : Nat) (out : List ByteArray), i + f = w.length → InvS w n i out → InvS w n w.length (rowS (w.drop i) n out)
  | 0, i, out, hi, h => by
    rw [List.drop_of_length_le (by omega), ← hi]
    exact h
  | f + 1, i, out, hi, h => by
    rw [getD_drop w i ByteArray.empty (by omega)]
    exact invS_row hs f (i + 1) _ (by omega) (invS_add hs (by omega) h)
theorem invS_next {w : List ByteArray} {n : Nat} (hn : 1 ≤ n) {out : List ByteArray} (h : InvS w n w.length out) : InvS w (n + 1) 0 out := by
  refine ⟨h.pw, h.ne, fun p => ?_⟩
  rw [h.mem]
  constructor
  · rintro (⟨h1, h2⟩ | ⟨h1, t, _, h2, h3⟩)
    · exact .inl ⟨by omega, h2⟩
    · exact .inl ⟨by omega, .inr ⟨t, h2, h3⟩⟩
  · rintro (⟨h1, h2⟩ | ⟨_, t, h2, _⟩)
    · by_cases h3 : p.size < n
      · exact .inl ⟨h3, h2⟩
      · rcases h2 with h2 | ⟨t, h4, h5⟩
        · subst h2
          exact absurd (show (0 : Nat) < n by omega) h3
        · exact .inr ⟨by omega, t, h4, h4, h5⟩
    · omega
theorem invS_all {w : List ByteArray} (hs : srt w) : ∀ (f n : Nat) (out : List ByteArray), 1 ≤ n → InvS w n 0 out → InvS w (n + f) 0 (allS w f n out)
  | 0, n, out, _, h => h
  | f + 1, n, out, hn, h => by
    have h1 := invS_row hs (n := n) w.length 0 out (by omega) h
    rw [List.drop_zero] at h1
    have := invS_all hs f (n + 1) _ (by omega) (invS_next hn h1)
    rw [show n + (f + 1) = n + 1 + f by omega]
    exact this
theorem invS_start (w : List ByteArray) : InvS w 1 0 [ByteArray.empty] := by
  refine ⟨by simp, by simp, fun p => ?_⟩
  rw [List.mem_singleton]
  constructor
  · rintro rfl
    exact .inl ⟨Nat.zero_lt_one, .inl rfl⟩
  · rintro (⟨h1, h2⟩ | ⟨_, t, h2, _⟩)
    · apply LL_inj
      rw [LL_empty]
      exact List.length_eq_zero_iff.1 (by rw [LL_length]; omega)
    · omega
theorem most_le (l : List ByteArray) : ∀ a, a ≤ mostB a l ∧ ∀ s ∈ l, s.size ≤ mostB a l := by
  induction l with
  | nil => intro a; exact ⟨Nat.le_refl _, by simp⟩
  | cons x l ih =>
    intro a
    obtain ⟨h1, h2⟩ := ih (max a x.size)
    have e : mostB a (x :: l) = mostB (max a x.size) l := rfl
    rw [e]
    refine ⟨by omega, fun s hs => ?_⟩
    rcases List.mem_cons.1 hs with rfl | hs
    · omega
    · exact h2 s hs
/-- All beginnings. -/
theorem allS_mem {w : List ByteArray} (hs : srt w) : (allS w (mostB 0 w) 1 [ByteArray.empty]).Pairwise ltP ∧ ∀ p, p ∈ allS w (mostB 0 w) 1 [ByteArray.empty] ↔ isB w p := by
  have h := invS_all hs (mostB 0 w) 1 _ (Nat.le_refl _) (invS_start w)
  refine ⟨h.pw, fun p => ?_⟩
  rw [h.mem]
  constructor
  · rintro (⟨_, h1⟩ | ⟨_, t, h2, _⟩)
    · exact h1
    · omega
  · intro h1
    refine .inl ⟨?_, h1⟩
    rcases h1 with h1 | ⟨t, h2, h3⟩
    · subst h1
      exact Nat.lt_of_lt_of_le Nat.zero_lt_one (Nat.le_add_right _ _)
    · have h4 := h3.length_le
      rw [LL_length, LL_length] at h4
      have := (most_le w 0).2 _ (getD_mem w t ByteArray.empty h2)
      omega
/-- The paths of the nodes. -/
def strP (p : List UInt8) : ByteArray := ⟨p.toArray⟩
theorem LL_strP (p : List UInt8) : LL (strP p) = p := by unfold LL strP; simp
theorem strP_LL (s : ByteArray) : strP (LL s) = s := LL_inj (LL_strP _)
theorem strP_size (p : List UInt8) : (strP p).size = p.length := by rw [← LL_length, LL_strP]
def paths (w : List ByteArray) : List ByteArray := (trN w).map fun n => strP n.path
theorem paths_mem {w : List ByteArray} (hs : srt w) (p : ByteArray) : p ∈ paths w ↔ isB w p := by
  unfold paths
  rw [List.mem_map]
  constructor
  · rintro ⟨n, hn, rfl⟩
    obtain ⟨i, hi, he⟩ := List.mem_iff_getElem.1 hn
    have h : (trN w)[i]? = some n := by rw [List.getElem?_eq_getElem hi, he]
    rcases path_is hs h with h1 | ⟨t, h1, h2⟩
    · exact .inl (LL_inj (by rw [LL_strP, h1, LL_empty]))
    · exact .inr ⟨t, h1, by rw [LL_strP]; exact h2⟩
  · intro h
    obtain ⟨i, n, h1, h2⟩ := path_has hs _ (LL p) rfl (by
      rcases h with h | h
      · left; rw [h, LL_empty]
      · exact .inr h)
    exact ⟨n, List.mem_of_getElem? h1, by rw [h2, strP_LL]⟩
theorem paths_pw {w : List ByteArray} (hs : srt w) : (paths w).Pairwise ltP := by
  unfold paths
  rw [List.pairwise_map]
  rcases Nat.eq_zero_or_pos w.length with h0 | h0
  · unfold trN
    rw [List.length_eq_zero_iff.1 h0, nodes_nil]
    simp
  · refine List.Pairwise.imp_of_mem (fun {n m} hn hm h => ?_) (nodes_up hs (trK w))
    have okn := nodes_ok hs _ n hn
    have okm := nodes_ok hs _ m hm
    have ln := nodes_lt hs h0 _ n hn
    have lm := nodes_lt hs h0 _ m hm
    unfold ltP
    rw [strP_size, strP_size, LL_strP, LL_strP]
    rcases h with h | ⟨h1, h2⟩
    · exact .inl h
    · refine .inr ⟨h1, ?_⟩
      have hp := hs n.lo m.lo (by omega) (by have := okm.top; omega)
      rcases bl_pre (okn.pre n.lo (Nat.le_refl _) ln) (okm.pre m.lo (Nat.le_refl _) lm) h1 hp with h3 | h3
      · exfalso
        have := okn.all m.lo (by have := okm.top; omega) (by rw [h3]; exact okm.pre m.lo (Nat.le_refl _) lm)
        omega
      · exact h3
theorem paths_all {w : List ByteArray} (hs : srt w) : allS w (mostB 0 w) 1 [ByteArray.empty] = paths w :=
  pw_ext ltP_asym (allS_mem hs).1 (paths_pw hs) (fun p => by rw [(allS_mem hs).2, paths_mem hs])

/-! the reference's rounds -/
theorem rst_l2 (w : List ByteArray) (hl : w.length ≤ 65535) (hz : ∀ s ∈ w, s.size ≤ 65535) (x4 : Int) (n : Nat) (hn : n ≤ 65536) (R : List ByteArray) : ∀ (f i : Nat) (out : List ByteArray), i + f = w.length → 0 < out.length → out.length + f ≤ 8796093022208 →
    Ev (fun k => juratref16_States.l1 k w (rowS (w.drop i) n out) x4 ((n : Int) + 1)) R → Ev (fun k => juratref16_States.l2 k w out x4 (n : Int) (i : Int)) R := by
  intro f
  induction f with
  | zero =>
    intro i out hi h0 ho h
    rw [List.drop_of_length_le (by omega)] at h
    refine Ev.step (fun k => ?_) h
    simp only [juratref16_States.l2]
    rw [if_neg (by omega), wrap_id (by omega) (by omega)]
    rfl
  | succ f ih =>
    intro i out hi h0 ho h
    rw [getD_drop w i ByteArray.empty (by omega)] at h
    have hs := hz _ (getD_mem w i ByteArray.empty (by omega))
    have e : rdOf ByteArray.empty w (i : Int) = w.getD i ByteArray.empty := rfl
    generalize w.getD i ByteArray.empty = s at e hs h
    have h2 : Ev (fun k => juratref16_States.l1 k w (rowS (w.drop (i + 1)) n (addS n out s)) x4 ((n : Int) + 1)) R := h
    have hlast : rdOf ByteArray.empty out ((out.length : Int) - 1) = lastS out := by unfold rdOf lastS; congr 1; omega
    have hal := addS_length n out s
    have hx := ih (i + 1) (addS n out s) (by omega) (by omega) (by omega) h2
    refine Ev.step (fun k => ?_) hx
    simp only [juratref16_States.l2]
    rw [if_pos (by omega), if_pos (by omega), e]
    unfold addS
    by_cases hn2 : n ≤ s.size
    · rw [if_pos (by omega), if_pos (by omega), if_pos (by omega), wrap_id (by omega) (by omega), if_pos (by omega), if_pos (by omega), hlast, Int.toNat_natCast, if_pos hn2]
      by_cases hq : s.extract 0 n = lastS out
      · rw [if_pos (by rw [hq]), if_pos hq, wrap_id (by omega) (by omega)]
        rfl
      · rw [if_neg (fun q => hq (toList_iff.1 q)), if_pos (by omega), if_neg hq, wrap_id (by omega) (by omega)]
        rfl
    · rw [if_neg (by omega), if_neg hn2, wrap_id (by omega) (by omega)]
      rfl
theorem rst_l1 (w : List ByteArray) (hl : w.length ≤ 65535) (hz : ∀ s ∈ w, s.size ≤ 65535) (m : Nat) (hm : m ≤ 65535) : ∀ (f n : Nat) (out : List ByteArray), n + f = m + 1 → 1 ≤ n → 0 < out.length → out.length + f * w.length ≤ 8796093022208 →
    Ev (fun k => juratref16_States.l1 k w out (m : Int) (n : Int)) (allS w f n out) := by
  intro f
  induction f with
  | zero =>
    intro n out hn h1 h0 ho
    refine Ev.ret fun k => ?_
    simp only [juratref16_States.l1]
    rw [if_neg (by omega)]
    rfl
  | succ f ih =>
    intro n out hn h1 h0 ho
    rw [Nat.succ_mul] at ho
    have hr := rowS_length n w out
    have h := ih (n + 1) (rowS w n out) (by omega) (by omega) (by omega) (by omega)
    refine Ev.step (f := fun k => juratref16_States.l2 k w out (m : Int) (n : Int) 0) (fun k => ?_) (rst_l2 w hl hz (m : Int) n (by omega) _ w.length 0 out (by omega) h0 (by omega) (by rw [List.drop_zero]; exact h))
    simp only [juratref16_States.l1]
    rw [if_pos (by omega)]
theorem rst_l0 (w : List ByteArray) (hl : w.length ≤ 65535) (hz : ∀ s ∈ w, s.size ≤ 65535) (R : List ByteArray) : ∀ (f i a : Nat), i + f = w.length → a ≤ 65535 →
    (Ev (fun k => juratref16_States.l1 k w [ByteArray.empty] ((mostB a (w.drop i) : Nat) : Int) 1) R) → Ev (fun k => juratref16_States.l0 k w [ByteArray.empty] (a : Int) (i : Int)) R := by
  intro f
  induction f with
  | zero =>
    intro i a hi ha h
    rw [List.drop_of_length_le (by omega)] at h
    refine Ev.step (fun k => ?_) h
    simp only [juratref16_States.l0]
    rw [if_neg (by omega)]
    rfl
  | succ f ih =>
    intro i a hi ha h
    rw [getD_drop w i ByteArray.empty (by omega)] at h
    have hs := hz _ (getD_mem w i ByteArray.empty (by omega))
    have e : rdOf ByteArray.empty w (i : Int) = w.getD i ByteArray.empty := rfl
    generalize w.getD i ByteArray.empty = s at e hs h
    have hx := ih (i + 1) (max a s.size) (by omega) (by omega) h
    refine Ev.step (fun k => ?_) hx
    simp only [juratref16_States.l0]
    rw [if_pos (by omega), if_pos (by omega), e, wrap_id (by omega) (by omega)]
    by_cases hq : a < s.size
    · rw [if_pos (by omega), Nat.max_eq_right (by omega)]; rfl
    · rw [if_neg (by omega), Nat.max_eq_left (by omega)]; rfl
theorem rstates_ev (w : List ByteArray) (h : okT w) : Ev (fun k => juratref16_States.f k w) (paths w) := by
  obtain ⟨h1, h2, h3, h4⟩ := h
  have hz : ∀ s ∈ w, s.size ≤ 65535 := fun s hs => (h3 s hs).2
  have hm : mostB 0 w ≤ 65535 := by
    have key : ∀ (l : List ByteArray) (a : Nat), a ≤ 65535 → (∀ s ∈ l, s.size ≤ 65535) → mostB a l ≤ 65535 := by
      intro l
      induction l with
      | nil => intro a ha _; exact ha
      | cons x l ih =>
        intro a ha hx
        exact ih (max a x.size) (by have := hx x List.mem_cons_self; omega) (fun s hs => hx s (List.mem_cons_of_mem _ hs))
    exact key w 0 (by omega) hz
  rw [← paths_all (srt_of h1)]
  refine rst_l0 w h2 hz _ w.length 0 0 (by omega) (by omega) ?_
  rw [List.drop_zero]
  exact rst_l1 w h2 hz (mostB 0 w) hm (mostB 0 w) 1 [ByteArray.empty] (by omega) (Nat.le_refl _) (by simp) (by
    have : mostB 0 w * w.length ≤ 65535 * 65535 := Nat.mul_le_mul hm h2
    simp
    omega)

end Go.Proofs.Ytnpkbnfiadkgnaa.Base

/- What a trie tells of its states, by their paths: the next one, its number, its bytes, where bytes lead; no condition beyond the sizes that stand in each statement. -/
namespace Go.Proofs.Ytnpkbnfiadkgnaa.Base
open Go Go.RowKit Go.Proofs.YtnpkbnfiadkgnaaW.PrintWords Go.Proofs.YtnpkbnfiadkgnaaW.PrintMore Go.Proofs.Ytnpkbnfiadkgnaa.P
set_option linter.unusedVariables false

theorem findB_none (s : ByteArray) : ∀ (l : List ByteArray) (i : Nat), s ∉ l → findB s l i = -1
  | [], i, _ => rfl
  | x :: l, i, h => by
    have ef : findB s (x :: l) i = if x = s then (i : Int) else findB s l (i + 1) := rfl
    rw [ef, if_neg (fun e => h (by rw [e]; exact List.mem_cons_self)), findB_none s l (i + 1) (fun h2 => h (List.mem_cons_of_mem _ h2))]
theorem rfind16_ev (l : List ByteArray) (s : ByteArray) (hl : l.length ≤ 8796093022208) : Ev (fun k => juratref16_Find.f k l s) (findB s l 0) := by
  have key : ∀ (d i : Nat), i + d = l.length → Ev (fun k => juratref16_Find.l0 k l s (i : Int)) (findB s (l.drop i) i) := by
    intro d
    induction d with
    | zero =>
      intro i hi
      refine Ev.ret fun k => ?_
      simp only [juratref16_Find.l0]
      rw [if_neg (by omega), List.drop_of_length_le (by omega)]
      rfl
    | succ d ih =>
      intro i hi
      have e : rdOf ByteArray.empty l (i : Int) = l.getD i ByteArray.empty := rfl
      rw [getD_drop l i ByteArray.empty (by omega)]
      generalize l.getD i ByteArray.empty = x at e
      have ef : findB s (x :: l.drop (i + 1)) i = if x = s then (i : Int) else findB s (l.drop (i + 1)) (i + 1) := rfl
      rw [ef]
      by_cases h : x = s
      · rw [if_pos h]
        refine Ev.ret fun k => ?_
        simp only [juratref16_Find.l0]
        rw [if_pos (by omega), if_pos (by omega), e, if_pos (by rw [h])]
      · rw [if_neg h]
        refine Ev.step (fun k => ?_) (ih (i + 1) (by omega))
        simp only [juratref16_Find.l0]
        rw [if_pos (by omega), if_pos (by omega), e, if_neg (fun q => h (toList_iff.1 q)), wrap_id (by omega) (by omega)]
        rfl
  have := key l.length 0 (by omega)
  rw [List.drop_zero] at this
  exact this
/-- The number of a path. -/
def idxP (w : List ByteArray) (p : List UInt8) : Int := findB (strP p) (paths w) 0
theorem paths_length (w : List ByteArray) : (paths w).length = (trN w).length := by unfold paths; rw [List.length_map]
theorem idx_at {w : List ByteArray} (hs : srt w) {i : Nat} {n : NodeD} (h : (trN w)[i]? = some n) : idxP w n.path = (i : Int) := by
  have hm : strP n.path ∈ paths w := List.mem_map.2 ⟨n, List.mem_of_getElem? h, rfl⟩
  obtain ⟨j, e1, e2, e3⟩ := findB_mem _ _ 0 hm
  rw [Nat.zero_add] at e1
  rw [paths_length] at e2
  have h2 : (trN w)[j]? = some (trN w)[j] := List.getElem?_eq_getElem e2
  have hp : strP ((trN w)[j]).path = strP n.path := by
    rw [← e3]
    unfold paths
    rw [List.getD_eq_getElem?_getD, List.getElem?_map, h2]
    rfl
  have hp2 : ((trN w)[j]).path = n.path := by rw [← LL_strP ((trN w)[j]).path, hp, LL_strP]
  have := path_inj hs h2 h hp2
  unfold idxP
  rw [e1, this]
theorem idx_none {w : List ByteArray} (hs : srt w) {p : List UInt8} (h : ¬ isB w (strP p)) : idxP w p = -1 := findB_none _ _ _ (fun hm => h ((paths_mem hs _).1 hm))
theorem isB_pre {w : List ByteArray} {p q : List UInt8} (h : isB w (strP (p ++ q))) : isB w (strP p) := by
  rcases h with h | ⟨t, h1, h2⟩
  · left
    have : p ++ q = [] := by rw [← LL_strP (p ++ q), h, LL_empty]
    rw [(List.append_eq_nil_iff.1 this).1]
    rfl
  · refine .inr ⟨t, h1, ?_⟩
    rw [LL_strP] at h2 ⊢
    exact (List.prefix_append p q).trans h2
/-- The bytes below a node rise. -/
theorem nxt_spec (d : TrieD) (c : Int) : ∀ (f lo hi : Nat), hi - lo < f → (∀ a b, lo ≤ a → a < b → b < hi → (d.getD a default).by_ < (d.getD b default).by_) →
    match nxt d c f lo hi with
    | some k => lo ≤ k ∧ k < hi ∧ (d.getD k default).by_ = c
    | none => ∀ k, lo ≤ k → k < hi → (d.getD k default).by_ ≠ c
  | 0, lo, hi, h, _ => by omega
  | f + 1, lo, hi, h, hr => by
    unfold nxt
    by_cases hlt : lo < hi
    · rw [if_pos hlt]
      by_cases h1 : (d.getD ((lo + hi) / 2) default).by_ = c
      · rw [if_pos h1]
        exact ⟨by omega, by omega, h1⟩
      · rw [if_neg h1]
        by_cases h2 : (d.getD ((lo + hi) / 2) default).by_ < c
        · rw [if_pos h2]
          have ih := nxt_spec d c f ((lo + hi) / 2 + 1) hi (by omega) (fun a b h3 h4 h5 => hr a b (by omega) h4 h5)
          cases hn : nxt d c f ((lo + hi) / 2 + 1) hi with
          | some k =>
            rw [hn] at ih
            exact ⟨by omega, ih.2.1, ih.2.2⟩
          | none =>
            rw [hn] at ih
            intro k h3 h4 h5
            by_cases h6 : (lo + hi) / 2 + 1 ≤ k
            · exact ih k h6 h4 h5
            · rcases Nat.eq_or_lt_of_le (show k ≤ (lo + hi) / 2 by omega) with h7 | h7
              · exact h1 (by rw [← h7]; exact h5)
              · have := hr k ((lo + hi) / 2) h3 h7 (by omega)
                omega
        · rw [if_neg h2]
          have ih := nxt_spec d c f lo ((lo + hi) / 2) (by omega) (fun a b h3 h4 h5 => hr a b h3 h4 (by omega))
          cases hn : nxt d c f lo ((lo + hi) / 2) with
          | some k =>
            rw [hn] at ih
            exact ⟨ih.1, by omega, ih.2.2⟩
          | none =>
            rw [hn] at ih
            intro k h3 h4 h5
            by_cases h6 : k < (lo + hi) / 2
            · exact ih k h3 h6 h5
            · rcases Nat.eq_or_lt_of_le (show (lo + hi) / 2 ≤ k by omega) with h7 | h7
              · exact h1 (by rw [h7]; exact h5)
              · have := hr ((lo + hi) / 2) k (by omega) h7 h4
                omega
    · rw [if_neg hlt]
      intro k h3 h4
      omega
section
variable {w : List ByteArray} {i : Nat} {n : NodeD}
theorem trS_getD (hs : srt w) (h : (trN w)[i]? = some n) : (trS w).getD i default = done w (firstOf w i) n := by
  rw [List.getD_eq_getElem?_getD, state_at hs h]; rfl
theorem tr_is (h : (trN w)[i]? = some n) : trIs (some (trS w)) (i : Int) = true := trIs_some _ _ (by rw [trS_length]; exact (List.getElem?_eq_some_iff.1 h).1)
theorem kid_by (hs : srt w) (h : (trN w)[i]? = some n) {o : Nat} (ho : o < (n.gr w).length) : ((trS w).getD (firstOf w i + o) default).by_ = (((n.gr w).getD o (0, 0, 0)).1 : Int) := by
  rw [trS_getD hs (kid_at hs h ho)]
  rfl
theorem st_ok (hs : srt w) (hz : sizes w ≤ 16777216) (h : (trN w)[i]? = some n) : stOk (trS w) (done w (firstOf w i) n) := by
  obtain ⟨h1, h2⟩ := first_gt hs h
  have hl := trN_le hs
  have e := trS_length w
  unfold trK at hl
  refine ⟨by show (0 : Int) ≤ (firstOf w i : Int); omega, by show (0 : Int) ≤ ((n.gr w).length : Int); omega, by show (firstOf w i : Int) + ((n.gr w).length : Int) ≤ _; omega, by omega⟩
theorem done_first : (done w (firstOf w i) n).first = (firstOf w i : Int) := rfl
theorem done_many : (done w (firstOf w i) n).many = ((n.gr w).length : Int) := rfl
/-- Where a byte leads. -/
theorem next_is (hs : srt w) (hz : sizes w ≤ 16777216) (h : (trN w)[i]? = some n) (c : UInt8) : trie_Trie_Next.f (some (trS w)) (i : Int) (c.toNat : Int) = some (if idxP w (n.path ++ [c]) ≥ 0 then (idxP w (n.path ++ [c]), true) else (0, false)) := by
  simp only [trie_Trie_Next.f]
  rw [tr_is h, if_pos rfl, Int.toNat_natCast, trS_getD hs h, if_pos (st_ok hs hz h)]
  unfold nxtOf
  rw [done_first, done_many, Int.toNat_natCast, Int.toNat_natCast, show ((firstOf w i : Int) + ((n.gr w).length : Int)).toNat = firstOf w i + (n.gr w).length by omega]
  have hr : ∀ a b, firstOf w i ≤ a → a < b → b < firstOf w i + (n.gr w).length → ((trS w).getD a default).by_ < ((trS w).getD b default).by_ := fun a b h1 h2 h3 => by
    obtain ⟨p, rfl⟩ : ∃ p, a = firstOf w i + p := ⟨a - firstOf w i, by omega⟩
    obtain ⟨q, rfl⟩ : ∃ q, b = firstOf w i + q := ⟨b - firstOf w i, by omega⟩
    rw [kid_by hs h (by omega), kid_by hs h (by omega)]
    have := (List.pairwise_iff_getElem.1 (gr_up hs (node_ok hs h)) p q (by omega) (by omega) (by omega)).1
    rw [List.getD_eq_getElem?_getD, List.getD_eq_getElem?_getD, List.getElem?_eq_getElem (by omega), List.getElem?_eq_getElem (by omega)]
    show ((n.gr w)[p].1 : Int) < ((n.gr w)[q].1 : Int)
    omega
  have sp := nxt_spec (trS w) (c.toNat : Int) ((n.gr w).length + 1) (firstOf w i) (firstOf w i + (n.gr w).length) (by omega) hr
  cases hn : nxt (trS w) (c.toNat : Int) ((n.gr w).length + 1) (firstOf w i) (firstOf w i + (n.gr w).length) with
  | some k =>
    rw [hn] at sp
    obtain ⟨s1, s2, s3⟩ := sp
    obtain ⟨o, rfl⟩ : ∃ o, k = firstOf w i + o := ⟨k - firstOf w i, by omega⟩
    rw [kid_by hs h (by omega)] at s3
    have hk := kid_at hs h (o := o) (by omega)
    have hid := idx_at hs hk
    have hp : (mkN i n ((n.gr w).getD o (0, 0, 0))).path = n.path ++ [c] := by
      show n.path ++ [UInt8.ofNat _] = _
      rw [show ((n.gr w).getD o (0, 0, 0)).1 = c.toNat by omega, UInt8.ofNat_toNat]
    rw [hp] at hid
    rw [hid, if_pos (by omega)]
  | none =>
    rw [hn] at sp
    have hno : ¬ isB w (strP (n.path ++ [c])) := by
      rintro (hb | ⟨t, ht, hp⟩)
      · have : n.path ++ [c] = [] := by rw [← LL_strP (n.path ++ [c]), hb, LL_empty]
        simp at this
      · rw [LL_strP] at hp
        obtain ⟨o, g, ho, hd, hg, _⟩ := kid_find hs h ht hp
        have := sp (firstOf w i + o) (by omega) (by omega)
        rw [kid_by hs h ho, hd, hg] at this
        exact this rfl
    rw [idx_none hs hno, if_neg (by omega)]
theorem ends_is (hs : srt w) (h : (trN w)[i]? = some n) : trie_Trie_Ends.f (some (trS w)) (i : Int) = some (if n.own w = true then ((n.lo : Int), true) else (0, false)) := by
  unfold trie_Trie_Ends.f
  have e : trAt (some (trS w)) (i : Int) = done w (firstOf w i) n := by show (trS w).getD ((i : Int)).toNat default = _; rw [Int.toNat_natCast, trS_getD hs h]
  have ei : (done w (firstOf w i) n).id = if n.own w = true then (n.lo : Int) else -1 := rfl
  rw [tr_is h, e, ei]
  by_cases ho : n.own w = true
  · rw [if_pos ho, if_pos ⟨rfl, by omega⟩, if_pos ho]
  · rw [if_neg ho, if_neg (by rintro ⟨_, h⟩; omega), if_neg ho]
theorem depth_is (hs : srt w) (h : (trN w)[i]? = some n) : trDep (some (trS w)) (i : Int) = (n.path.length : Int) := by
  unfold trDep
  have e : trAt (some (trS w)) (i : Int) = done w (firstOf w i) n := by show (trS w).getD ((i : Int)).toNat default = _; rw [Int.toNat_natCast, trS_getD hs h]
  rw [tr_is h, if_pos rfl, e]
  rfl
/-- The bytes of all texts lead along the paths. -/
theorem fnd_is (hs : srt w) (hz : sizes w ≤ 16777216) : ∀ (l : List UInt8) (i : Nat) (n : NodeD), (trN w)[i]? = some n → fndL (some (trS w)) l (i : Int) = some (if idxP w (n.path ++ l) ≥ 0 then some (idxP w (n.path ++ l)) else none)
  | [], i, n, h => by
    simp only [fndL]
    rw [List.append_nil, idx_at hs h, if_pos (by omega)]
  | c :: l, i, n, h => by
    simp only [fndL]
    rw [next_is hs hz h c]
    by_cases hb : isB w (strP (n.path ++ [c]))
    · obtain ⟨j, m, h1, h2⟩ := path_has hs _ (n.path ++ [c]) rfl (by
        rcases hb with hb | ⟨t, ht, hp⟩
        · left; rw [← LL_strP (n.path ++ [c]), hb, LL_empty]
        · rw [LL_strP] at hp; exact .inr ⟨t, ht, hp⟩)
      have hid := idx_at hs h1
      rw [h2] at hid
      rw [hid, if_pos (by omega)]
      simp only [if_true]
      rw [fnd_is hs hz l j m h1, h2, List.append_assoc]
      rfl
    · rw [idx_none hs hb, if_neg (by omega)]
      have : ¬ isB w (strP (n.path ++ c :: l)) := fun h2 => hb (isB_pre (q := l) (by rw [List.append_assoc]; exact h2))
      rw [idx_none hs this, if_neg (by omega)]
      rfl
theorem find_is (hs : srt w) (hz : sizes w ≤ 16777216) (p : ByteArray) (hp : p.size ≤ 4611686018427387904) : trie_Trie_Find.f (some (trS w)) p = some (if findB p (paths w) 0 ≥ 0 then (findB p (paths w) 0, true) else (0, false)) := by
  have e : idxP w (LL p) = findB p (paths w) 0 := by unfold idxP; rw [strP_LL]
  have h := fnd_is hs hz (LL p) 0 _ path_root
  rw [List.nil_append, e] at h
  unfold trie_Trie_Find.f
  rw [if_pos hp]
  show fndR _ (fndL (some (trS w)) (LL p) ((0 : Nat) : Int)) = _
  rw [h]
  by_cases hq : findB p (paths w) 0 ≥ 0
  · rw [if_pos hq, if_pos hq]
    simp only [fndR]
    have hm : p ∈ paths w := by
      refine Classical.byContradiction fun hn => ?_
      rw [findB_none p (paths w) 0 hn] at hq
      omega
    obtain ⟨j, e1, e2, e3⟩ := findB_mem p (paths w) 0 hm
    rw [Nat.zero_add] at e1
    rw [e1, trIs_some _ _ (by rw [trS_length, ← paths_length]; exact e2)]
  · rw [if_neg hq, if_neg hq]
    rfl
end
/-- Of what is no state nothing is told. -/
theorem no_state {d : TrieD} {s : Int} (h : trIs (some d) s = false) (c : Int) : trie_Trie_Next.f (some d) s c = some (0, false) ∧ trie_Trie_Above.f (some d) s = some (0, 0, false) ∧ trie_Trie_Ends.f (some d) s = some (0, false) ∧
    trie_Trie_Depth.f (some d) s = some 0 ∧ trie_Trie_Path.f (some d) s = some ByteArray.empty ∧ trie_Trie_Bytes.f (some d) s = some ByteArray.empty := by
  have hd : trDep (some d) s = 0 := by unfold trDep; rw [h]; rfl
  refine ⟨?_, ?_, ?_, ?_, ?_, ?_⟩
  · simp only [trie_Trie_Next.f]; rw [h]; rfl
  · unfold trie_Trie_Above.f; rw [h]; rfl
  · unfold trie_Trie_Ends.f; rw [h]; rfl
  · unfold trie_Trie_Depth.f; rw [h]; rfl
  · unfold trie_Trie_Path.f; rw [hd]; rfl
  · simp only [trie_Trie_Bytes.f]; rw [h]; rfl

end Go.Proofs.Ytnpkbnfiadkgnaa.Base

/- Layer 16's example; no condition. -/
namespace Go.Proofs.Ytnpkbnfiadkgnaa.Base
open Go Go.RowKit Go.Proofs.YtnpkbnfiadkgnaaW.PrintWords Go.Proofs.YtnpkbnfiadkgnaaW.PrintMore Go.Proofs.Ytnpkbnfiadkgnaa.P
set_option linter.unusedVariables false

abbrev l16 : List ByteArray := [(⟨#[97, 98]⟩ : ByteArray), (⟨#[97, 99]⟩ : ByteArray), (⟨#[98]⟩ : ByteArray)]
theorem new16 : pats_New.f l16 = some (some ⟨l16, 1, 2, 5⟩, 0) := by
  have hs : sortB l16 = l16 := (sortB_of (List.Perm.refl _) (by decide)).symm
  unfold pats_New.f
  rw [hs]
  rfl
theorem okT_16 : okT l16 := ⟨⟨by decide, by decide⟩, by decide, fun s hs => by
    simp only [List.mem_cons, List.not_mem_nil, or_false] at hs
    rcases hs with rfl | rfl | rfl <;> decide, by decide⟩
theorem trie16 : trie_New.f (some ⟨l16, 1, 2, 5⟩) = some (some (trS l16)) := if_pos okT_16
theorem awake16 : juratlaw16_awake.f = some true := by
  have h1 : trie_Trie_Next.f (some (trS l16)) 1 99 = some (4, true) := by decide +kernel
  have h2 : trie_Trie_Len.f (some (trS l16)) = some 5 := by decide +kernel
  have h3 : trie_Trie_Path.f (some (trS l16)) 3 = some (⟨#[97, 98]⟩ : ByteArray) := by decide +kernel
  have t1 : (⟨#[97, 98]⟩ : ByteArray).toList = [97, 98] := by rw [ByteArray.toList_eq]
  unfold juratlaw16_awake.f
  rw [new16]
  simp only [Option.bind_some]
  rw [trie16]
  simp only [Option.bind_some]
  rw [h1]
  simp only [Option.bind_some]
  rw [if_pos trivial, h2]
  simp only [Option.bind_some]
  rw [if_pos trivial, h3]
  simp only [Option.bind_some]
  rw [if_pos t1, if_pos trivial]
theorem wf8 {x : Int} (h : (Lit.int .u8 x).wf = true) : 0 ≤ x ∧ x ≤ 255 := by
  simp [Lit.wf, IntKind.min, IntKind.max, IntKind.signed, IntKind.bits] at h
  omega
/-- A set of few texts has a trie. -/
theorem trie_ok {l w : List ByteArray} {x : Option SetD} {e : Int} (h : SetOk l x w e) (hz : sizes w ≤ 16777216) : trie_New.f x = some (some (trS w)) ∧ okT w := by
  have ok : okT w := ⟨⟨h.up, h.nodup⟩, h.few, fun s hs => ⟨h.pos s hs, h.size s hs⟩, hz⟩
  refine ⟨?_, ok⟩
  unfold trie_New.f
  rw [h.hL, if_pos ok]
theorem sizes_le (m : Nat) : ∀ l : List ByteArray, (∀ s ∈ l, s.size ≤ m) → sizes l ≤ l.length * m
  | [], _ => by simp [sizes]
  | s :: l, h => by
    have h1 := h s List.mem_cons_self
    have h2 := sizes_le m l (fun x hx => h x (List.mem_cons_of_mem _ hx))
    simp only [sizes, List.length_cons, Nat.succ_mul]
    omega
end Go.Proofs.Ytnpkbnfiadkgnaa.Base

/- Proved: for all texts, every number, every byte and every text the law TrieNone of layer 16 answers true. No condition beyond the statement's own. -/
namespace Go.Proofs.Ytnpkbnfiadkgnaa.Pure
open Go Go.RowKit Go.Proofs.Ytnpkbnfiadkgnaa.P Go.Proofs.YtnpkbnfiadkgnaaW.PrintWords Go.Proofs.YtnpkbnfiadkgnaaW.PrintLast Go.Proofs.Ytnpkbnfiadkgnaa.Base
set_option linter.unusedVariables false

theorem nothing_nil (s c : Int) : juratlaw16_nothing.f none s c = some true := by
  have h1 : trie_Trie_Next.f none s c = some (0, false) := rfl
  have e : trIs none s = false := by
    unfold trIs
    refine decide_eq_false ?_
    rintro ⟨h1, h2⟩
    simp only [trLen] at h2
    omega
  have hd : trDep none s = 0 := by unfold trDep; rw [e]; rfl
  have h2 : trie_Trie_Above.f none s = some (0, 0, false) := by unfold trie_Trie_Above.f; rw [e]; rfl
  have h3 : trie_Trie_Ends.f none s = some (0, false) := by unfold trie_Trie_Ends.f; rw [e]; rfl
  have h4 : trie_Trie_Depth.f none s = some 0 := by unfold trie_Trie_Depth.f; rw [e]; rfl
  have h5 : trie_Trie_Path.f none s = some ByteArray.empty := by unfold trie_Trie_Path.f; rw [hd]; rfl
  have h6 : trie_Trie_Bytes.f none s = some ByteArray.empty := rfl
  have t1 : (ByteArray.empty).toList = ([] : List UInt8) := by rw [ByteArray.toList_eq]; rfl
  unfold juratlaw16_nothing.f
  rw [h1, h2, h3, h4, h5, h6]
  simp [t1]
theorem nothing_no {d : TrieD} {s : Int} (h : trIs (some d) s = false) (c : Int) : juratlaw16_nothing.f (some d) s c = some true := by
  obtain ⟨h1, h2, h3, h4, h5, h6⟩ := no_state h c
  have t1 : (ByteArray.empty).toList = ([] : List UInt8) := by rw [ByteArray.toList_eq]; rfl
  unfold juratlaw16_nothing.f
  rw [h1, h2, h3, h4, h5, h6]
  simp [t1]
theorem TrieNone (l : List ByteArray) (s c : Int) (p : ByteArray) (hl : l.length * 16 ≤ 140737488351232) (_ : ∀ x ∈ l, x.size ≤ maxLen) (hs : (Lit.int .i64 s).wf = true) (hc : (Lit.int .u8 c).wf = true) (hp : p.size ≤ 140737488351232) : ∃ k, juratlaw16_TrieNone.f k l s c p = some true := by
  refine Ev.rounds ?_
  unfold juratlaw16_TrieNone.f
  refine Ev.bind (few_ev l 12 20 (by omega)) ?_
  have hdone : ∀ (s c : Int) (p : ByteArray), Ev (fun k => juratlaw16_TrieNone.j0 k l s c p true) true := fun s c p => by
    refine Ev.ret fun k => ?_
    simp only [juratlaw16_TrieNone.j0]
    rw [if_pos trivial, awake16]
    rfl
  by_cases h1 : (decide ((l.length : Int) ≤ 12) && fewB l 20) = true
  rotate_left
  · exact Ev.congr (fun k => if_neg h1) (hdone s c p)
  refine Ev.congr (fun k => if_pos h1) ?_
  by_cases hp5 : (p.size : Int) > 50
  · rw [decide_eq_true hp5]
    exact hdone s c p
  rw [decide_eq_false hp5]
  rw [Bool.and_eq_true, decide_eq_true_iff] at h1
  obtain ⟨x, w, e, h⟩ := set_ok l
  have hw20 : ∀ t ∈ w, t.size ≤ 20 := fun t ht => by have := fewB_iff.1 h1.2 t (h.mem t ht); omega
  have hz : sizes w ≤ 16777216 := by
    have h2 := sizes_le 20 w hw20
    have h3 := h.len
    have : w.length * 20 ≤ 12 * 20 := Nat.mul_le_mul (by omega) (Nat.le_refl _)
    omega
  obtain ⟨hT, ok⟩ := trie_ok h hz
  have hsrt := srt_of ok.1
  have hpl : (paths w).length ≤ 16777217 := by
    rw [paths_length]
    have := trN_le hsrt
    unfold trK at this
    omega
  refine Ev.step (f := fun k => (pats_New.f l).bind fun bt432 => (juratref10_New.f k l).bind fun bt434 => (trie_New.f bt432.1).bind fun t438 => (juratref16_States.f k bt434.1).bind fun t440 => (trie_Trie_Find.f t438 p).bind fun bt443 => (juratref16_Find.f k t440 p).bind fun t445 => if (bt443.2 != (decide (t445 ≥ 0))) = true then juratlaw16_TrieNone.j1 k s c p t438 t440 true else if bt443.2 = true then (if bt443.1 = t445 then juratlaw16_TrieNone.j1 k s c p t438 t440 false else juratlaw16_TrieNone.j1 k s c p t438 t440 true) else juratlaw16_TrieNone.j1 k s c p t438 t440 (bt443.1 != 0)) (fun k => by simp only [juratlaw16_TrieNone.j0]; rw [if_neg (by simp)]) ?_
  refine Ev.bind (Ev.const fun _ => h.hn) (Ev.bind (rnew_ok h) (Ev.bind (Ev.const fun _ => hT) (Ev.bind (rstates_ev w ok) ?_)))
  have hfind := find_is hsrt hz p (by omega)
  refine Ev.bind (Ev.const fun _ => hfind) (Ev.bind (rfind16_ev (paths w) p (by omega)) ?_)
  have hrest : Ev (fun k => juratlaw16_TrieNone.j1 k s c p (some (trS w)) (paths w) false) true := by
    have hf0 : trie_Trie_Find.f none p = some (0, false) := by
      unfold trie_Trie_Find.f
      rw [if_pos (by omega)]
      have : fndL none (LL p) 0 = some (some 0) ∨ fndL none (LL p) 0 = some none := by
        cases LL p with
        | nil => exact .inl rfl
        | cons a q => exact .inr rfl
      rcases this with h2 | h2
      · rw [h2]; rfl
      · rw [h2]; rfl
    have hlen0 : trie_Trie_Len.f none = some 0 := rfl
    refine Ev.step (f := fun k => juratlaw16_TrieNone.j2 k s c (some (trS w)) (paths w) false) (fun k => ?_) ?_
    · simp only [juratlaw16_TrieNone.j1]
      rw [if_neg (by simp), hf0]
      simp only [Option.bind_some]
      rw [if_neg (by simp), hlen0]
      simp only [Option.bind_some]
      rw [if_pos trivial, nothing_nil]
      rfl
    · refine Ev.ret fun k => ?_
      simp only [juratlaw16_TrieNone.j2]
      rw [if_neg (by simp)]
      by_cases h0 : s ≥ 0
      · rw [if_pos h0]
        by_cases h2 : s < ((paths w).length : Int)
        · rw [if_pos h2, awake16]; rfl
        · have hn : trIs (some (trS w)) s = false := decide_eq_false (by
            rintro ⟨_, h4⟩
            have h5 : (trLen (some (trS w)) : Int) = ((paths w).length : Int) := by rw [paths_length, ← trS_length]; rfl
            omega)
          rw [if_neg h2, nothing_no hn, awake16]
          simp only [Option.bind_some]
          rw [if_pos trivial]
      · have hn : trIs (some (trS w)) s = false := decide_eq_false (by rintro ⟨h4, _⟩; omega)
        rw [if_neg h0, nothing_no hn, awake16]
        simp only [Option.bind_some]
        rw [if_pos trivial]
  by_cases hq : findB p (paths w) 0 ≥ 0
  · rw [if_pos hq]
    refine Ev.congr (fun k => ?_) hrest
    simp only
    rw [if_neg (by rw [decide_eq_true hq]; decide), if_pos trivial, if_pos trivial]
  · rw [if_neg hq]
    refine Ev.congr (fun k => ?_) hrest
    simp only
    rw [if_neg (by rw [decide_eq_false hq]; decide), if_neg (by simp)]
    rfl

end Go.Proofs.Ytnpkbnfiadkgnaa.Pure

/- How a law's arguments are opened: slices of texts and of numbers, as lists, with their sizes out of the row's weights. -/
namespace Go.Proofs.Ytnpkbnfiadkgnaa.RowS
open Go Go.ChangeShapes Go.WideShapes Go.RowKit Go.Proofs.YtnpkbnfiadkgnaaW.PrintWords

theorem slice_strings {H : Type} {enc : TypeId × Value → H} {P : Program} {W : World} {t e : TypeId} {a : Option Addr} {len cap : Nat} {d : DataW H} {ps : List MemPlace} {ts : List TypeId} {ds : List (DataW H)} {j : Nat}
    (hsz : (DataW.weightsEach P ts ds).all (· ≤ reachBytes) = true) (ht : ts[j]? = some t) (hd : ds[j]? = some d) (hu : P.underlying t = some (.slice e)) (he : P.underlying e = some .string) (hc : P.cellsOf e = 1) (hB : P.bytesOf e = 16)
    (h : DataW.Trod enc P W 0 (fun _ => true) true t (.slice a len cap) d ps) :
    ∃ l : List ByteArray, l.length = len ∧ len ≤ cap ∧ Kd.C Kd.string W a l.length l ∧ l.length * 16 ≤ 140737488351232 ∧ ∀ s ∈ l, s.size ≤ maxLen := by
  obtain ⟨fuel, hf⟩ := h
  rcases open_strings hu he hc hf with ⟨hcs, _⟩ | ⟨x, l, c, ss, hcs, _, hl, hm, hz, hx, hcell, hw⟩
  · simp [Value.cells] at hcs
    obtain ⟨rfl, rfl, rfl⟩ := hcs
    exact ⟨[], rfl, Nat.le_refl _, Kd.C_nil _ _, by simp, by simp⟩
  · simp [Value.cells] at hcs
    obtain ⟨rfl, rfl, rfl⟩ := hcs
    obtain ⟨hx, _⟩ := Prod.mk.inj hx
    subst hx
    have z := sized_slice hsz ht hd hu
    rw [hB] at z
    rw [if_pos rfl] at hz
    have hl2 : len ≤ ss.length := by omega
    have h1 : (strs (H := H) (ss.take len)).length + (strs (H := H) (ss.drop len)).length = ss.length := by
      simp [strs]
      omega
    rw [h1] at z
    have hlen : (ss.take len).length = len := by rw [List.length_take]; omega
    refine ⟨ss.take len, hlen, hl, Kd.C_of_reads (d := ByteArray.empty) (h1 := fun _ => rfl) ⟨rfl, by rw [hlen]; unfold maxLen at hm; omega, fun _ => ⟨x, rfl, fun i hi => ?_⟩⟩, ?_, fun s hs => hw s (List.mem_of_mem_take hs)⟩
    · rw [hlen] at hi
      rw [hcell i (by omega), List.getD_eq_getElem?_getD, List.getD_eq_getElem?_getD, List.getElem?_take_of_lt hi]
    · rw [hlen]
      exact Nat.le_trans (Nat.mul_le_mul_right _ hl2) z
theorem slice_ints {H : Type} {enc : TypeId × Value → H} {P : Program} {W : World} {t e : TypeId} {k : IntKind} {a : Option Addr} {len cap : Nat} {d : DataW H} {ps : List MemPlace} {ts : List TypeId} {ds : List (DataW H)} {j : Nat}
    (hsz : (DataW.weightsEach P ts ds).all (· ≤ reachBytes) = true) (ht : ts[j]? = some t) (hd : ds[j]? = some d) (hu : P.underlying t = some (.slice e)) (he : P.underlying e = some (.int k)) (hc : P.cellsOf e = 1) {B : Nat} (hB : P.bytesOf e = B)
    (h : DataW.Trod enc P W 0 (fun _ => true) true t (.slice a len cap) d ps) :
    ∃ l : List Int, l.length = len ∧ len ≤ cap ∧ Kd.C (Kd.int k) W a l.length l ∧ l.length ≤ maxLen ∧ l.length * B ≤ 140737488351232 ∧ ∀ n ∈ l, (Lit.int k n).wf = true := by
  have y := sized_ints hsz ht hd hu he hc hB h
  obtain ⟨fuel, hf⟩ := h
  rcases open_ints hu he hc hf with ⟨hcs, _⟩ | ⟨x, l, c, zs, hcs, _, hl, hm, hz, _, hcell, hw⟩
  · simp [Value.cells] at hcs
    obtain ⟨rfl, rfl, rfl⟩ := hcs
    exact ⟨[], rfl, Nat.le_refl _, Kd.C_nil _ _, by simp, by simp, by simp⟩
  · simp [Value.cells] at hcs
    obtain ⟨rfl, rfl, rfl⟩ := hcs
    rw [if_pos rfl] at hz
    have hlen : (zs.take len).length = len := by rw [List.length_take]; omega
    refine ⟨zs.take len, hlen, hl, Kd.C_of_reads (d := (0 : Int)) (h1 := fun _ => rfl) ⟨rfl, by rw [hlen]; unfold maxLen at hm; omega, fun _ => ⟨x, rfl, fun i hi => ?_⟩⟩, by rw [hlen]; omega, by rw [hlen]; exact y, fun s hs => hw s (List.mem_of_mem_take hs)⟩
    rw [hlen] at hi
    rw [hcell i (by omega), List.getD_eq_getElem?_getD, List.getD_eq_getElem?_getD, List.getElem?_take_of_lt hi]

end Go.Proofs.Ytnpkbnfiadkgnaa.RowS

/- The row of the law TrieNone, out of its plain statement and the walk; written for this claim by a program of this session (wip/mkrow.py). -/
namespace Go.Proofs.Ytnpkbnfiadkgnaa.trieNone
open Go.ChangeShapes Go.WideShapes Go.ChangeAt Go.RowKit
open Go.ChangeMaps (open_string shut_string)
set_option linter.unusedVariables false
theorem own : ownKnob Try.prog.godebug = none := by kernel_rfl
theorem laidOut : laidOutB Try.prog = true := by kernel_rfl
set_option maxRecDepth 100000 in
theorem lifted (os : Os) (started : os.Started) (H : Type) (enc : TypeId × Value → H) :
    ReturnsInHanded {} Try.checked os 9 .any (Rows.trieNoneSpec.pre6 enc Try.prog Try.f9 Rows.trieNoneRow.domain false) (Rows.trieNoneSpec.post enc Try.prog Try.f9 false true false false) := by
  refine returnsInHanded_of_change_sized (C := Try.checked) own started (by kernel_rfl) Try.func9
    (ChangeSpec.witness6 (enc := enc) (C := Try.checked) false ⟨#[], #[.slice none 0 0, .int .i64 0, .int .u8 0, .string ByteArray.empty], []⟩ 8 (by kernel_rfl) (by kernel_rfl) (by kernel_rfl) (by kernel_rfl)) ?_
  intro W base args ds gs before hval0 hW hcnd hsz0 _
  have hsz : (DataW.weightsEach Try.prog (Try.f9.params.toList ++ Rows.trieNoneSpec.plain.varTypes Try.prog) (ds ++ gs)).all (· ≤ reachBytes) = true := hsz0
  have hval : ∀ (j : Nat) t v, Try.f9.params[j]? = some t → args[j]? = some v → Value.okWide Try.prog W .any base t v := hval0
  have hW' := hW
  obtain ⟨p, q, hA0, hV, rfl, hfz, hnd⟩ := hW
  have hA : DataW.TrodAll enc Try.prog W 0 (fun _ => true) true Try.f9.params.toList args.toList ds p := hA0
  rw [Try.params9] at hA hval hsz
  obtain ⟨v0, vs0, d0, ds0, p0, q0, hargs, rfl, rfl, h0, r0⟩ := trodAll_cons hA
  obtain ⟨v1, vs1, d1, ds1, p1, q1, rfl, rfl, rfl, h1, r1⟩ := trodAll_cons r0
  obtain ⟨v2, vs2, d2, ds2, p2, q2, rfl, rfl, rfl, h2, r2⟩ := trodAll_cons r1
  obtain ⟨v3, vs3, d3, ds3, p3, q3, rfl, rfl, rfl, h3, r3⟩ := trodAll_cons r2
  obtain ⟨rfl, rfl, rfl⟩ := trodAll_nil r3
  obtain rfl : args = #[v0, v1, v2, v3] := by cases args; simp_all
  obtain ⟨rfl, rfl⟩ := trodVars_none hV
  obtain ⟨a0, len0, cap0, rfl⟩ := okWide_slice Try.underlying22 (hval 0 22 v0 rfl rfl)
  have k0 := h0
  have lt0 : ∀ x ∈ p0, x.block < W.heap.size := by obtain ⟨m, hm⟩ := k0; exact DataW.trod_lt m _ _ _ hm
  obtain ⟨l0, hn0, hc0, hr0, y0, w0⟩ := RowS.slice_strings hsz (j := 0) (t := 22) rfl rfl Try.underlying22 Try.underlying9 (by kernel_rfl) (by kernel_rfl) h0
  subst hn0
  obtain ⟨a1, rfl, rfl, rfl, w1⟩ := open_int Try.underlying3 (hval 1 3 v1 rfl rfl) h1
  obtain ⟨a2, rfl, rfl, rfl, w2⟩ := open_int Try.underlying5 (hval 2 5 v2 rfl rfl) h2
  obtain ⟨a3, rfl, rfl, rfl, y3⟩ := open_string Try.underlying9 (hval 3 9 v3 rfl rfl) h3
  have w3 : a3.size ≤ 140737488351232 := by
    have z := sized_string hsz (j := 3) (t := 9) rfl rfl
    rw [Array.length_toList] at z
    exact z
  clear hA0 hval0 hsz0 hsz
  obtain ⟨k, hk⟩ := Pure.TrieNone l0 a1 a2 a3 y0 w0 w1 w2 w3
  refine (P.juratlaw16_TrieNone.calls k a0 cap0 l0 a1 a2 a3 true W hr0 hc0 hk).mono fun e W' ⟨he, bel⟩ => ?_
  subst he
  exact ⟨_, rfl, _, _, _, [], _, [], hW', trodAll_mk1 (shut_bool Try.underlying4 _), (trodAll_cons_mk (Below.trod laidOut (by kernel_rfl) (of_decide_eq_true (by kernel_rfl)) k0 bel lt0) (trodAll_cons_mk (shut_int Try.underlying3 w1) (trodAll_cons_mk (shut_int Try.underlying5 w2) (trodAll_cons_mk (shut_string Try.underlying9 y3) trodAll_mk0)))), rfl, bel.frame _, fun h => by cases h⟩
theorem over : Rows.trieNoneRow.holds Try.pinned (OpenSpec.ofChange Rows.trieNoneSpec) :=
  OpenClaim.holds_of_wide 9 Try.f9 rfl rfl rfl rfl rfl rfl rfl ⟨rfl, rfl, rfl, rfl, rfl⟩ rfl rfl rfl rfl rfl (by kernel_rfl) Try.func9 (by kernel_rfl)
    (of_decide_eq_true (by kernel_rfl)) (by unfold Func.isWrapper; first | (rw [if_pos (by decide +kernel)]; kernel_rfl) | (rw [if_neg (by decide +kernel)]; exact ⟨rfl, rfl⟩))
    (fun os started H enc _ => lifted os started H enc)
theorem proved : Rows.TrieNoneSaid := over
#print axioms proved
end Go.Proofs.Ytnpkbnfiadkgnaa.trieNone
namespace Go.Proofs.Ytnpkbnfiadkgnaa
/-- The row, under a short name, for the claim. -/
theorem trieNone_holds : Rows.TrieNoneSaid := trieNone.proved
end Go.Proofs.Ytnpkbnfiadkgnaa
