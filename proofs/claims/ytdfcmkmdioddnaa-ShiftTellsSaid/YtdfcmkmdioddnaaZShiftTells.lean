/- Proved here: the row of the law ShiftTells, with the plain texts that lead to it, merged by a program of this session (wip/merge.py); no condition beyond the statement's own. -/
import Derived.Test.YtdfcmkmdioddnaaM10
import Derived.Test.YtdfcmkmdioddnaaH13
import Derived.Test.YtdfcmkmdioddnaaPx22
import Derived.Test.YtdfcmkmdioddnaaPx56
import Derived.Test.YtdfcmkmdioddnaaBase
import Derived.Test.YtdfcmkmdioddnaaPx17
import Derived.Test.YtdfcmkmdioddnaaH13b
import Derived.Test.YtdfcmkmdioddnaaPx12
import Derived.Test.YtdfcmkmdioddnaaPx5
import Derived.SizedLaws
import Derived.SliceStrings
import Derived.Test.YtdfcmkmdioddnaaWWords
import Derived.Test.YtdfcmkmdioddnaaWSized
import Derived.Test.YtdfcmkmdioddnaaRows
import Derived.WalkKit
import Derived.ProofKit
import Derived.OpenShut
import Derived.ShutString
import Derived.ChangeOld
import Derived.Below
import Derived.Carry
/- What is told of a set of patterns, of the list in order and of the list as it came; layer 10's examples; no condition beyond the sizes that stand in each statement. -/
namespace Go.Proofs.Ytdfcmkmdioddnaa.Base
open Go Go.RowKit Go.Proofs.YtdfcmkmdioddnaaW.PrintWords Go.Proofs.YtdfcmkmdioddnaaW.PrintMore Go.Proofs.Ytdfcmkmdioddnaa.P
set_option linter.unusedVariables false

theorem findB_up (s : ByteArray) : ∀ (l : List ByteArray) (i : Nat), upB l → findB s l i = if inB s l = true then ((i + aheadB s l : Nat) : Int) else -1
  | [], i, _ => rfl
  | x :: l, i, h => by
    obtain ⟨h1, h2⟩ := List.pairwise_cons.1 h
    have ih := findB_up s l (i + 1) h2
    have ef : findB s (x :: l) i = if x = s then (i : Int) else findB s l (i + 1) := rfl
    rw [ef]
    by_cases hx : x = s
    · subst hx
      rw [if_pos rfl, if_pos (inB_iff.2 List.mem_cons_self), aheadB_none x (x :: l) (fun y hy => by
        rcases List.mem_cons.1 hy with rfl | hy
        · exact bl_irrefl _
        · exact h1 y hy)]
      rfl
    · rw [if_neg hx, inB_cons, decide_eq_false hx, Bool.false_or, ih]
      cases hb : Op.bytesLess (LL x) (LL s) with
      | true =>
        have e : aheadB s (x :: l) = aheadB s l + 1 := by unfold aheadB; rw [List.countP_cons_of_pos (by simpa using hb)]
        rw [e, show i + 1 + aheadB s l = i + (aheadB s l + 1) by omega]
      | false =>
        have hn : ¬ inB s l = true := fun hi => by
          rcases bl_tri (LL x) (LL s) with h' | h' | h'
          · exact hx (LL_inj h')
          · rw [hb] at h'; cases h'
          · rw [h1 s (inB_iff.1 hi)] at h'; cases h'
        rw [if_neg hn, if_neg hn]
theorem fold_perm {β : Type} (f : β → ByteArray → β) (hc : ∀ a x y, f (f a x) y = f (f a y) x) {l m : List ByteArray} (h : l.Perm m) : ∀ a, l.foldl f a = m.foldl f a := by
  induction h with
  | nil => intro a; rfl
  | cons x _ ih => intro a; exact ih _
  | swap x y l => intro a; simp only [List.foldl_cons]; rw [hc]
  | trans _ _ ih1 ih2 => intro a; rw [ih1, ih2]
theorem total_perm {l m : List ByteArray} (h : l.Perm m) : totalB 0 l = totalB 0 m := fold_perm _ (fun a x y => by omega) h 0
theorem most_perm {l m : List ByteArray} (h : l.Perm m) : mostB 0 l = mostB 0 m := fold_perm _ (fun a x y => by omega) h 0
theorem least_spec : ∀ (l : List ByteArray) (a : Nat), leastB a l ≤ a ∧ (∀ s ∈ l, leastB a l ≤ s.size) ∧ (leastB a l = a ∨ ∃ s ∈ l, leastB a l = s.size)
  | [], a => ⟨Nat.le_refl _, by simp, .inl rfl⟩
  | x :: l, a => by
    obtain ⟨h1, h2, h3⟩ := least_spec l (min a x.size)
    have e : leastB a (x :: l) = leastB (min a x.size) l := rfl
    rw [e]
    refine ⟨by omega, fun s hs => ?_, ?_⟩
    · rcases List.mem_cons.1 hs with rfl | hs
      · omega
      · exact h2 s hs
    · rcases h3 with h3 | ⟨s, hs, h3⟩
      · by_cases ha : a ≤ x.size
        · left; omega
        · right; exact ⟨x, List.mem_cons_self, by omega⟩
      · right; exact ⟨s, List.mem_cons_of_mem _ hs, h3⟩
theorem min_spec (l : List ByteArray) (h : 0 < l.length) : (∀ s ∈ l, minB l ≤ s.size) ∧ ∃ s ∈ l, minB l = s.size := by
  obtain ⟨h1, h2, h3⟩ := least_spec l (l.getD 0 ByteArray.empty).size
  refine ⟨h2, ?_⟩
  rcases h3 with h3 | h3
  · exact ⟨_, getD_mem l 0 ByteArray.empty h, h3⟩
  · exact h3
theorem min_perm {l m : List ByteArray} (h : l.Perm m) (h0 : 0 < l.length) : minB l = minB m := by
  obtain ⟨a1, s, hs, a2⟩ := min_spec l h0
  obtain ⟨b1, t, ht, b2⟩ := min_spec m (by rw [← h.length_eq]; exact h0)
  have := a1 t (h.mem_iff.2 ht)
  have := b1 s (h.mem_iff.1 hs)
  omega

/-- A set that is made of texts. -/
def setB (l : List ByteArray) : SetD := ⟨sortB l, (minB l : Nat), (mostB 0 l : Nat), (totalB 0 l : Nat)⟩
theorem new_cases (l : List ByteArray) :
    (∃ e, e ≠ 0 ∧ pats_New.f l = some (none, e) ∧ newB l = ([], e)) ∨
    (pats_New.f l = some (some (setB l), 0) ∧ newB l = (sortB l, 0) ∧ 0 < l.length ∧ l.length ≤ 65535 ∧ badB l = 0 ∧ totalB 0 l ≤ 16777216 ∧ twB [] l 0 < 0) := by
  unfold pats_New.f newB
  by_cases h0 : l.length = 0
  · exact .inl ⟨14, by decide, by rw [if_pos h0], by rw [if_pos h0]⟩
  by_cases h1 : l.length > 65535
  · exact .inl ⟨6, by decide, by rw [if_neg h0, if_pos h1], by rw [if_neg h0, if_pos h1]⟩
  by_cases h2 : badB l ≠ 0
  · exact .inl ⟨_, h2, by rw [if_neg h0, if_neg h1, if_pos h2], by rw [if_neg h0, if_neg h1, if_pos h2]⟩
  by_cases h3 : totalB 0 l > 16777216
  · exact .inl ⟨13, by decide, by rw [if_neg h0, if_neg h1, if_neg h2, if_pos h3], by rw [if_neg h0, if_neg h1, if_neg h2, if_pos h3]⟩
  by_cases h4 : twB [] l 0 ≥ 0
  · exact .inl ⟨8, by decide, by rw [if_neg h0, if_neg h1, if_neg h2, if_neg h3, if_pos h4], by rw [if_neg h0, if_neg h1, if_neg h2, if_neg h3, if_pos h4]⟩
  refine .inr ⟨by rw [if_neg h0, if_neg h1, if_neg h2, if_neg h3, if_neg h4]; rfl, by rw [if_neg h0, if_neg h1, if_neg h2, if_neg h3, if_neg h4], by omega, by omega, Classical.not_not.1 h2, by omega, by omega⟩


end Go.Proofs.Ytdfcmkmdioddnaa.Base

/- Sets of the same patterns are one, in whatever order these come; a pattern is found by its number; no condition beyond the sizes that stand in each statement. -/
namespace Go.Proofs.Ytdfcmkmdioddnaa.Base
open Go Go.RowKit Go.Proofs.YtdfcmkmdioddnaaW.PrintWords Go.Proofs.YtdfcmkmdioddnaaW.PrintLast Go.Proofs.YtdfcmkmdioddnaaW.PrintMore Go.Proofs.Ytdfcmkmdioddnaa.P
set_option linter.unusedVariables false

theorem twB_iff : ∀ (l seen : List ByteArray) (i : Nat), twB seen l i < 0 ↔ (l.Nodup ∧ ∀ x ∈ l, ¬ inB x seen = true)
  | [], seen, i => by simp [twB]
  | x :: l, seen, i => by
    simp only [twB]
    by_cases h : inB x seen = true
    · rw [if_pos h]
      constructor
      · intro h'; omega
      · rintro ⟨_, h'⟩; exact absurd h (h' x List.mem_cons_self)
    · rw [if_neg h, twB_iff l (seen ++ [x]) (i + 1), List.nodup_cons]
      constructor
      · rintro ⟨h1, h2⟩
        refine ⟨⟨fun hx => ?_, h1⟩, fun y hy => ?_⟩
        · have := h2 x hx
          rw [inB_snoc] at this
          simp at this
        · rcases List.mem_cons.1 hy with rfl | hy
          · exact h
          · have := h2 y hy
            rw [inB_snoc] at this
            intro h3
            rw [h3] at this
            simp at this
      · rintro ⟨⟨h1, h2⟩, h3⟩
        refine ⟨h2, fun y hy => ?_⟩
        rw [inB_snoc]
        intro h4
        rcases Bool.or_eq_true_iff.1 h4 with h4 | h4
        · exact h3 y (List.mem_cons_of_mem _ hy) h4
        · exact h1 (by rw [of_decide_eq_true h4]; exact hy)
theorem nodup_of_tw {l : List ByteArray} (h : twB [] l 0 < 0) : l.Nodup := ((twB_iff l [] 0).1 h).1
theorem tw_of_nodup {l : List ByteArray} (h : l.Nodup) : twB [] l 0 < 0 := (twB_iff l [] 0).2 ⟨h, fun x _ => by simp [inB]⟩
theorem badB_iff : ∀ (l : List ByteArray), badB l = 0 ↔ ∀ s ∈ l, chkB s = 0
  | [] => by simp [badB]
  | s :: l => by
    simp only [badB]
    by_cases h : chkB s = 0
    · rw [if_pos h, badB_iff l]
      simp [h]
    · rw [if_neg h]
      simp [h]
theorem setB_perm {l m : List ByteArray} (h : l.Perm m) (h0 : 0 < l.length) : setB l = setB m := by
  have e : sortB l = sortB m := sortB_of ((sortB_perm l).trans h) (sortB_up l)
  unfold setB
  rw [e, min_perm h h0, most_perm h, total_perm h]
/-- Texts that make a set make it in any order. -/
theorem new_perm {l m : List ByteArray} (h : l.Perm m) (hp : 0 < l.length) (h1 : l.length ≤ 65535) (h2 : badB l = 0) (h3 : totalB 0 l ≤ 16777216) (h4 : twB [] l 0 < 0) :
    pats_New.f m = some (some (setB l), 0) := by
  have e := h.length_eq
  rcases new_cases m with ⟨c, hc, hn, hw⟩ | ⟨hn, _⟩
  · exfalso
    unfold pats_New.f at hn
    have b2 : badB m = 0 := (badB_iff m).2 fun s hs => (badB_iff l).1 h2 s (h.mem_iff.2 hs)
    have b4 := tw_of_nodup ((h.nodup_iff).1 (nodup_of_tw h4))
    rw [if_neg (by omega), if_neg (by omega), if_neg (by rw [b2]; simp), if_neg (by rw [← total_perm h]; omega), if_neg (by omega)] at hn
    have := (Prod.mk.inj (Option.some.inj hn)).1
    cases this
  · rw [hn, setB_perm h hp]
theorem findB_mem (s : ByteArray) : ∀ (l : List ByteArray) (i : Nat), s ∈ l → ∃ n, findB s l i = ((i + n : Nat) : Int) ∧ n < l.length ∧ l.getD n ByteArray.empty = s
  | [], i, h => by cases h
  | x :: l, i, h => by
    have ef : findB s (x :: l) i = if x = s then (i : Int) else findB s l (i + 1) := rfl
    rw [ef]
    by_cases hx : x = s
    · rw [if_pos hx]
      exact ⟨0, rfl, by simp, by simpa using hx⟩
    · rw [if_neg hx]
      rcases List.mem_cons.1 h with rfl | h
      · exact absurd rfl hx
      · obtain ⟨n, h1, h2, h3⟩ := findB_mem s l (i + 1) h
        exact ⟨n + 1, by rw [h1]; congr 1; omega, by rw [List.length_cons]; omega, by rw [List.getD_cons_succ]; exact h3⟩
theorem list_is (l : List ByteArray) (h : l.length ≤ 65535) : pats_Set_List.f (some (setB l)) = some (sortB l) := by
  show (if (sortB l).length ≤ 8796093022208 then some (sortB l) else none) = _
  rw [if_pos (by rw [sortB_length]; omega)]
theorem bits_and_mask (x : Int) (m : Nat) (hm : m < 9223372036854775808) : 0 ≤ Go.bits .and .i64 x (m : Int) ∧ Go.bits .and .i64 x (m : Int) ≤ m := by
  have h : Go.bits .and .i64 x (m : Int) = IntKind.i64.wrap (((BitVec.ofInt 64 x &&& BitVec.ofInt 64 (m : Int)).toNat : Int)) := rfl
  have h2 : (BitVec.ofInt 64 x &&& BitVec.ofInt 64 (m : Int)).toNat ≤ m := by
    rw [BitVec.toNat_and]
    refine Nat.le_trans Nat.and_le_right ?_
    rw [BitVec.toNat_ofInt]
    omega
  rw [h, i64_w, wrap_id (by omega) (by omega)]
  omega

end Go.Proofs.Ytdfcmkmdioddnaa.Base

/- A set of texts and its list, made or not, told together; no condition beyond the sizes that stand in each statement. -/
namespace Go.Proofs.Ytdfcmkmdioddnaa.Base
open Go Go.RowKit Go.Proofs.YtdfcmkmdioddnaaW.PrintWords Go.Proofs.YtdfcmkmdioddnaaW.PrintMore Go.Proofs.Ytdfcmkmdioddnaa.P
set_option linter.unusedVariables false

/-- What is made of texts: a set or none, its list, why there is none. -/
structure SetOk (l : List ByteArray) (x : Option SetD) (w : List ByteArray) (e : Int) : Prop where
  hn : pats_New.f l = some (x, e)
  hw : newB l = (w, e)
  hL : setL x = w
  hM : setM x = minB w
  mem : ∀ s ∈ w, s ∈ l
  len : w.length ≤ l.length
  few : w.length ≤ 65535
  size : ∀ s ∈ w, s.size ≤ 65535
  up : upB w
  pos : ∀ s ∈ w, 0 < s.size
  nodup : w.Nodup
  kind : (e = 0 ∧ 0 < w.length ∧ x = some (setB l) ∧ w = sortB l ∧ w.length = l.length) ∨ (e ≠ 0 ∧ x = none ∧ w = [])
theorem chkB_pos {s : ByteArray} (h : chkB s = 0) : 0 < s.size ∧ s.size ≤ 65535 := by
  unfold chkB at h
  by_cases h1 : s.size = 0
  · rw [if_pos h1] at h; omega
  · rw [if_neg h1] at h
    by_cases h2 : s.size > 65535
    · rw [if_pos h2] at h; omega
    · omega
theorem set_ok (l : List ByteArray) : ∃ x w e, SetOk l x w e := by
  rcases new_cases l with ⟨e, he, hn, hw⟩ | ⟨hn, hw, hp, hl, hb, ht, hd⟩
  · exact ⟨none, [], e, hn, hw, rfl, rfl, by simp, by simp, by simp, by simp, List.Pairwise.nil, by simp, List.nodup_nil, .inr ⟨he, rfl, rfl⟩⟩
  · have hm := fun s => (sortB_perm l).mem_iff (a := s)
    have hlen := sortB_length l
    refine ⟨some (setB l), sortB l, 0, hn, hw, rfl, ?_, fun s hs => (hm s).1 hs, by omega, by omega, fun s hs => (chkB_pos ((badB_iff l).1 hb s ((hm s).1 hs))).2, sortB_up l, fun s hs => (chkB_pos ((badB_iff l).1 hb s ((hm s).1 hs))).1, ((sortB_perm l).nodup_iff).2 (nodup_of_tw hd), .inl ⟨rfl, by omega, rfl, rfl, by omega⟩⟩
    show ((minB l : Nat) : Int) = _
    rw [min_perm (sortB_perm l).symm hp]
theorem min_le {w : List ByteArray} : ∀ s ∈ w, minB w ≤ s.size := fun s hs => (min_spec w (List.length_pos_of_mem hs)).1 s hs
theorem list_ok {l w : List ByteArray} {x : Option SetD} {e : Int} (h : SetOk l x w e) : pats_Set_List.f x = some w := by
  rcases h.kind with ⟨_, _, rfl, rfl, _⟩ | ⟨_, rfl, rfl⟩
  · exact list_is l (by have := h.few; rw [sortB_length] at this; exact this)
  · rfl
theorem rnew_ok {l w : List ByteArray} {x : Option SetD} {e : Int} (h : SetOk l x w e) : Ev (fun k => juratref10_New.f k l) (w, e) := by
  have := rnew_ev l
  rw [h.hw] at this
  exact this

end Go.Proofs.Ytdfcmkmdioddnaa.Base

/- A byte's shift by its definition, and that the table of shifts and layer 13's reference tell it; no condition beyond the sizes that stand in each statement. -/
namespace Go.Proofs.Ytdfcmkmdioddnaa.Base
open Go Go.RowKit Go.Proofs.YtdfcmkmdioddnaaW.PrintWords Go.Proofs.YtdfcmkmdioddnaaW.PrintMore Go.Proofs.Ytdfcmkmdioddnaa.P
set_option linter.unusedVariables false

/-- The byte of a text at a distance from its end. -/
def byteAt (s : ByteArray) (d : Nat) : Nat := ((LL s).getD (s.size - 1 - d) 0).toNat
theorem byteAt_lt (s : ByteArray) (d : Nat) : byteAt s d < 256 := UInt8.toNat_lt _
theorem getD_set {T : List Int} {b c : Nat} {v : Int} (hb : b < T.length) : (T.set b v).getD c 0 = if b = c then v else T.getD c 0 := by
  rw [List.getD_eq_getElem?_getD, List.getD_eq_getElem?_getD, List.getElem?_set]
  by_cases h : b = c
  · subst h; rw [if_pos rfl, if_pos hb, if_pos rfl]; rfl
  · rw [if_neg h, if_neg h]
/-- What is known of one byte's shift, of the pairs that were seen. -/
def ShInv (m c : Nat) (seen : ByteArray → Nat → Prop) (T : List Int) : Prop :=
  T.length = 256 ∧ 0 ≤ T.getD c 0 ∧ T.getD c 0 ≤ m ∧ (∀ s d, seen s d → byteAt s d = c → T.getD c 0 ≤ (d : Int)) ∧ (T.getD c 0 = m ∨ ∃ s d, seen s d ∧ byteAt s d = c ∧ T.getD c 0 = (d : Int))
theorem shInv_put {m c : Nat} {seen : ByteArray → Nat → Prop} {T : List Int} (h : ShInv m c seen T) (s : ByteArray) (d : Nat) : ShInv m c (fun s' d' => seen s' d' ∨ s' = s ∧ d' = d) (shPut s T d) := by
  obtain ⟨h1, h2, h3, h4, h5⟩ := h
  have e : (shPut s T d).getD c 0 = if byteAt s d = c then min (T.getD c 0) (d : Int) else T.getD c 0 := by
    unfold shPut
    rw [getD_set (by rw [h1]; exact UInt8.toNat_lt _)]
    by_cases hc : byteAt s d = c
    · have hc' : ((LL s).getD (s.size - 1 - d) 0).toNat = c := hc
      rw [if_pos hc, if_pos hc', hc']
    · have hc' : ¬ ((LL s).getD (s.size - 1 - d) 0).toNat = c := hc
      rw [if_neg hc, if_neg hc']
  refine ⟨by rw [shPut_length]; exact h1, ?_, ?_, ?_, ?_⟩ <;> rw [e]
  · split <;> omega
  · split <;> omega
  · rintro s' d' (hs | ⟨rfl, rfl⟩) hb
    · have := h4 s' d' hs hb
      split <;> omega
    · rw [if_pos hb]; omega
  · by_cases hc : byteAt s d = c
    · rw [if_pos hc]
      by_cases hd : T.getD c 0 ≤ (d : Int)
      · rw [show min (T.getD c 0) (d : Int) = T.getD c 0 by omega]
        rcases h5 with h5 | ⟨s', d', a, b, h5⟩
        · exact .inl h5
        · exact .inr ⟨s', d', .inl a, b, h5⟩
      · exact .inr ⟨s, d, .inr ⟨rfl, rfl⟩, hc, by omega⟩
    · rw [if_neg hc]
      rcases h5 with h5 | ⟨s', d', a, b, h5⟩
      · exact .inl h5
      · exact .inr ⟨s', d', .inl a, b, h5⟩
theorem shInv_imp {m c : Nat} {seen seen' : ByteArray → Nat → Prop} {T : List Int} (h : ShInv m c seen T) (hi : ∀ s d, seen s d ↔ seen' s d) : ShInv m c seen' T := by
  have : seen = seen' := by funext s d; exact propext (hi s d)
  rw [← this]; exact h
theorem shInv_row {m c : Nat} {seen : ByteArray → Nat → Prop} {T : List Int} (h : ShInv m c seen T) (s : ByteArray) : ∀ n, ShInv m c (fun s' d' => seen s' d' ∨ s' = s ∧ d' < n) ((List.range n).foldl (shPut s) T)
  | 0 => shInv_imp h (fun s' d' => by simp)
  | n + 1 => by
    rw [List.range_succ, List.foldl_append]
    refine shInv_imp (shInv_put (shInv_row h s n) s n) (fun s' d' => ?_)
    constructor
    · rintro ((h | ⟨h1, h2⟩) | ⟨h1, h2⟩)
      · exact .inl h
      · exact .inr ⟨h1, by omega⟩
      · exact .inr ⟨h1, by omega⟩
    · rintro (h | ⟨h1, h2⟩)
      · exact .inl (.inl h)
      · by_cases h3 : d' = n
        · exact .inr ⟨h1, h3⟩
        · exact .inl (.inr ⟨h1, by omega⟩)
theorem shInv_fold {m c : Nat} : ∀ (l : List ByteArray) (seen : ByteArray → Nat → Prop) (T : List Int), ShInv m c seen T → ShInv m c (fun s' d' => seen s' d' ∨ s' ∈ l ∧ d' < m) (l.foldl (shRow m) T)
  | [], seen, T, h => shInv_imp h (fun s' d' => by simp)
  | s :: l, seen, T, h => by
    refine shInv_imp (shInv_fold l _ _ (shInv_row h s m)) (fun s' d' => ?_)
    rw [List.mem_cons]
    constructor
    · rintro ((h | ⟨rfl, h2⟩) | ⟨h1, h2⟩)
      · exact .inl h
      · exact .inr ⟨.inl rfl, h2⟩
      · exact .inr ⟨.inr h1, h2⟩
    · rintro (h | ⟨rfl | h1, h2⟩)
      · exact .inl (.inl h)
      · exact .inl (.inr ⟨rfl, h2⟩)
      · exact .inr ⟨h1, h2⟩
/-- A byte's shift. -/
def shB (w : List ByteArray) (c : Nat) : Int := (shTab (minB w) w).getD c 0
theorem shB_spec (w : List ByteArray) {c : Nat} (hc : c < 256) : 0 ≤ shB w c ∧ shB w c ≤ minB w ∧ (∀ s ∈ w, ∀ d, d < minB w → byteAt s d = c → shB w c ≤ (d : Int)) ∧ (shB w c = minB w ∨ ∃ s ∈ w, ∃ d, d < minB w ∧ byteAt s d = c ∧ shB w c = (d : Int)) := by
  have e : (List.replicate 256 (minB w : Int)).getD c 0 = minB w := by rw [List.getD_eq_getElem?_getD, List.getElem?_replicate, if_pos hc]; rfl
  have h : ShInv (minB w) c (fun _ _ => False) (List.replicate 256 (minB w : Int)) := ⟨List.length_replicate, by rw [e]; omega, by rw [e]; exact Int.le_refl _, fun _ _ h => h.elim, .inl e⟩
  obtain ⟨h1, h2, h3, h4, h5⟩ := shInv_fold w _ _ h
  refine ⟨h2, h3, fun s hs d hd hb => h4 s d (.inr ⟨hs, hd⟩) hb, ?_⟩
  rcases h5 with h5 | ⟨s, d, a | ⟨a, a'⟩, b, h5⟩
  · exact .inl h5
  · exact a.elim
  · exact .inr ⟨s, a, d, a', b, h5⟩

/-- Has a pattern a byte at a distance? -/
def hasB (l : List ByteArray) (c d : Nat) : Bool := l.any fun s => decide (d < s.size ∧ byteAt s d = c)
theorem bt_byteAt {s : ByteArray} {d : Nat} (h : d < s.size) : bt s ((s.size : Int) - 1 - d) = (byteAt s d : Int) := by
  rw [bt_eq]; unfold byteAt; congr 3; omega
theorem rhas_l0 (l : List ByteArray) (hl : l.length ≤ 9223372036854775806) (hs : ∀ s ∈ l, s.size ≤ 9223372036854775806) (c d : Nat) : ∀ (f i : Nat), i + f = l.length →
    Ev (fun k => juratref13_Has.l0 k l (c : Int) (d : Int) (i : Int)) (hasB (l.drop i) c d) := by
  intro f
  induction f with
  | zero =>
    intro i hi
    refine Ev.ret fun k => ?_
    simp only [juratref13_Has.l0]
    rw [if_neg (by omega), List.drop_of_length_le (by omega)]
    rfl
  | succ f ih =>
    intro i hi
    have hd := getD_drop l i ByteArray.empty (by omega)
    have hz := hs _ (getD_mem l i ByteArray.empty (by omega))
    have e : rdOf ByteArray.empty l (i : Int) = l.getD i ByteArray.empty := rfl
    have e2 : hasB (l.drop i) c d = (decide (d < (l.getD i ByteArray.empty).size ∧ byteAt (l.getD i ByteArray.empty) d = c) || hasB (l.drop (i + 1)) c d) := by rw [hd]; rfl
    rw [e2]
    have step : Ev (fun k => juratref13_Has.l0 k l (c : Int) (d : Int) (wrap64 ((i : Int) + 1))) (hasB (l.drop (i + 1)) c d) := by
      rw [wrap_id (by omega) (by omega)]
      exact ih (i + 1) (by omega)
    generalize l.getD i ByteArray.empty = s at e hz
    by_cases h1 : d < s.size
    · have hb := bt_byteAt h1
      by_cases h2 : byteAt s d = c
      · rw [decide_eq_true ⟨h1, h2⟩, Bool.true_or]
        refine Ev.ret fun k => ?_
        simp only [juratref13_Has.l0]
        rw [if_pos (by omega), if_pos (by omega), e, wrap_id (x := (s.size : Int) - 1) (by omega) (by omega), wrap_id (by omega) (by omega), if_pos (by omega), if_pos (by omega), if_pos (by omega), hb, if_pos (by omega)]
      · rw [decide_eq_false (fun h => h2 h.2), Bool.false_or]
        refine Ev.step (fun k => ?_) step
        simp only [juratref13_Has.l0]
        rw [if_pos (by omega), if_pos (by omega), e, wrap_id (x := (s.size : Int) - 1) (by omega) (by omega), wrap_id (x := (s.size : Int) - 1 - d) (by omega) (by omega), if_pos (by omega), if_pos (by omega), if_pos (by omega), hb, if_neg (by omega)]
    · rw [decide_eq_false (fun h => h1 h.1), Bool.false_or]
      refine Ev.step (fun k => ?_) step
      simp only [juratref13_Has.l0]
      rw [if_pos (by omega), if_pos (by omega), e, if_neg (by omega)]
theorem rhas_ev (l : List ByteArray) (hl : l.length ≤ 9223372036854775806) (hs : ∀ s ∈ l, s.size ≤ 9223372036854775806) (c d : Nat) : Ev (fun k => juratref13_Has.f k l (c : Int) (d : Int)) (hasB l c d) := rhas_l0 l hl hs c d l.length 0 (by omega)
theorem hasB_iff {l : List ByteArray} {c d : Nat} : hasB l c d = true ↔ ∃ s ∈ l, d < s.size ∧ byteAt s d = c := by
  unfold hasB; rw [List.any_eq_true]; simp
theorem rfirst_l0 (w : List ByteArray) (hl : w.length ≤ 65535) (hs : ∀ s ∈ w, s.size ≤ 65535) {c : Nat} (hc : c < 256) : ∀ (f i : Nat), i + f = minB w → (∀ d, d < i → hasB w c d = false) →
    Ev (fun k => juratref13_First.l0 k w (c : Int) (minB w : Int) (i : Int)) (shB w c) := by
  obtain ⟨h1, h2, h3, h4⟩ := shB_spec w hc
  have hmin := fun s hs => min_le (w := w) s hs
  intro f
  induction f with
  | zero =>
    intro i hi hno
    refine Ev.ret fun k => ?_
    simp only [juratref13_First.l0]
    rw [if_neg (by omega)]
    rcases h4 with h4 | ⟨s, hs, d, hd, hb, h4⟩
    · rw [h4]
    · have := hno d (by omega)
      rw [hasB_iff.2 ⟨s, hs, by have := hmin s hs; omega, hb⟩] at this
      cases this
  | succ f ih =>
    intro i hi hno
    refine Ev.step (f := fun k => (juratref13_Has.f k w (c : Int) (i : Int)).bind fun t => (if t = true then (some (i : Int)) else (juratref13_First.l0 k w (c : Int) (minB w : Int) (wrap64 ((i : Int) + 1))))) (fun k => ?_) ?_
    · simp only [juratref13_First.l0]
      rw [if_pos (by omega)]
    refine Ev.bind (rhas_ev w (by omega) (fun s h => by have := hs s h; omega) c i) ?_
    cases hh : hasB w c i with
    | true =>
      refine Ev.congr (fun k => if_pos rfl) ?_
      obtain ⟨s, hs, hd, hb⟩ := hasB_iff.1 hh
      have hle := h3 s hs i (by omega) hb
      have : shB w c = i := by
        rcases h4 with h4 | ⟨s', hs', d, hd', hb', h4⟩
        · omega
        · by_cases hlt : d < i
          · have := hno d hlt
            rw [hasB_iff.2 ⟨s', hs', by have := hmin s' hs'; omega, hb'⟩] at this
            cases this
          · omega
      rw [this]
      exact Ev.now _
    | false =>
      refine Ev.congr (fun k => if_neg (by simp)) ?_
      have hm : minB w ≤ 65535 := by
        cases w with
        | nil => simp [minB, leastB] at hi
        | cons s w => have := hmin s List.mem_cons_self; have := hs s List.mem_cons_self; omega
      rw [wrap_id (by omega) (by omega)]
      refine ih (i + 1) (by omega) (fun d hd => ?_)
      by_cases h : d = i
      · rw [h]; exact hh
      · exact hno d (by omega)
theorem rfirst_ev (w : List ByteArray) (hl : w.length ≤ 65535) (hs : ∀ s ∈ w, s.size ≤ 65535) {c : Nat} (hc : c < 256) : Ev (fun k => juratref13_First.f k w (c : Int)) (shB w c) := by
  unfold juratref13_First.f
  exact Ev.bind (rleast_ev w (by omega)) (rfirst_l0 w hl hs hc (minB w) 0 (by omega) (fun d hd => by omega))
theorem shift_ok {l w : List ByteArray} {x : Option SetD} {e : Int} (h : SetOk l x w e) : shift_New.f x = some (some ⟨shTab (minB w) w, minB w⟩) := by
  unfold shift_New.f
  rw [h.hL, h.hM, if_pos ⟨by omega, by have := h.few; omega, fun s hs => ⟨by have := min_le s hs; omega, by have := h.size s hs; omega⟩⟩, Int.toNat_natCast]
theorem sfirst_ok (w : List ByteArray) {c : Nat} (hc : c < 256) : shift_Table_First.f (some ⟨shTab (minB w) w, minB w⟩) (c : Int) = some (shB w c) := by
  show (if 0 ≤ (c : Int) ∧ (c : Int) ≤ 255 then some ((shTab (minB w) w).getD (c : Int).toNat 0) else none) = _
  rw [if_pos ⟨by omega, by omega⟩, Int.toNat_natCast]
  rfl

end Go.Proofs.Ytdfcmkmdioddnaa.Base

/- Whether two lists of numbers are the same; no condition beyond the sizes that stand in each statement. -/
namespace Go.Proofs.Ytdfcmkmdioddnaa.Base
open Go Go.RowKit Go.Proofs.YtdfcmkmdioddnaaW.PrintWords Go.Proofs.YtdfcmkmdioddnaaW.PrintMore Go.Proofs.Ytdfcmkmdioddnaa.P

/-! the same numbers -/
theorem same1_l0 (a b : List Int) (he : a.length = b.length) (hm : a.length ≤ 9223372036854775807) : ∀ (d i : Nat), i + d = a.length →
    Ev (fun k => juratref01_Same.l0 k a b (i : Int)) (decide (a.drop i = b.drop i)) := by
  intro d
  induction d with
  | zero =>
    intro i hi
    refine Ev.ret fun k => ?_
    simp only [juratref01_Same.l0]
    rw [if_neg (by omega), List.drop_of_length_le (by omega), List.drop_of_length_le (by omega)]
    rfl
  | succ d ih =>
    intro i hi
    by_cases h : rd a (i : Int) = rd b (i : Int)
    · refine Ev.step (f := fun k => juratref01_Same.l0 k a b ((i + 1 : Nat) : Int)) (fun k => ?_) ?_
      · simp only [juratref01_Same.l0]
        rw [if_pos (by omega), if_pos (by omega), if_pos (by omega), if_pos h, wrap_id (by omega) (by omega)]
        rfl
      · have e : decide (a.drop i = b.drop i) = decide (a.drop (i + 1) = b.drop (i + 1)) := by
          rw [getD_drop a i 0 (by omega), getD_drop b i 0 (by omega)]
          have h' : a.getD i 0 = b.getD i 0 := h
          rw [h']
          simp
        rw [e]
        exact ih (i + 1) (by omega)
    · refine Ev.ret fun k => ?_
      simp only [juratref01_Same.l0]
      rw [if_pos (by omega), if_pos (by omega), if_pos (by omega), if_neg h]
      rw [getD_drop a i 0 (by omega), getD_drop b i 0 (by omega)]
      have h' : ¬ a.getD i 0 = b.getD i 0 := h
      rw [decide_eq_false (fun e => h' (List.cons.inj e).1)]
theorem same1 (a b : List Int) (hm : a.length ≤ 9223372036854775807) : Ev (fun k => juratref01_Same.f k a b) (decide (a = b)) := by
  by_cases he : a.length = b.length
  · have h := same1_l0 a b he hm a.length 0 (by omega)
    rw [List.drop_zero, List.drop_zero] at h
    refine Ev.congr (fun k => ?_) h
    unfold juratref01_Same.f
    rw [if_pos (by omega)]
    rfl
  · rw [decide_eq_false (fun e => he (by rw [e]))]
    refine Ev.const fun k => ?_
    unfold juratref01_Same.f
    rw [if_neg (by omega)]

end Go.Proofs.Ytdfcmkmdioddnaa.Base

/- Layer 13's examples; no condition. -/
namespace Go.Proofs.Ytdfcmkmdioddnaa.Base
open Go Go.RowKit Go.Proofs.YtdfcmkmdioddnaaW.PrintWords Go.Proofs.YtdfcmkmdioddnaaW.PrintMore Go.Proofs.Ytdfcmkmdioddnaa.P
set_option linter.unusedVariables false

theorem new13 : pats_New.f [(⟨#[97, 98, 99]⟩ : ByteArray), (⟨#[98, 99]⟩ : ByteArray)] = some (some ⟨[(⟨#[97, 98, 99]⟩ : ByteArray), (⟨#[98, 99]⟩ : ByteArray)], 2, 3, 5⟩, 0) := by
  have hs : sortB [(⟨#[97, 98, 99]⟩ : ByteArray), (⟨#[98, 99]⟩ : ByteArray)] = [(⟨#[97, 98, 99]⟩ : ByteArray), (⟨#[98, 99]⟩ : ByteArray)] := (sortB_of (List.Perm.refl _) (by decide)).symm
  unfold pats_New.f
  rw [hs]
  rfl
abbrev tab13 : List Int := shTab 2 [(⟨#[97, 98, 99]⟩ : ByteArray), (⟨#[98, 99]⟩ : ByteArray)]
theorem shift13 : shift_New.f (some ⟨[(⟨#[97, 98, 99]⟩ : ByteArray), (⟨#[98, 99]⟩ : ByteArray)], 2, 3, 5⟩) = some (some ⟨tab13, 2⟩) := by
  unfold shift_New.f
  rw [if_pos ⟨by decide, by decide, fun s hs => by
    simp only [setL, List.mem_cons, List.not_mem_nil, or_false] at hs
    rcases hs with rfl | rfl <;> decide⟩]
  rfl
theorem first13 (c : Int) (v : Int) (h : 0 ≤ c ∧ c ≤ 255) (hv : tab13.getD c.toNat 0 = v) : shift_Table_First.f (some ⟨tab13, 2⟩) c = some v := by
  simp only [shift_Table_First.f]
  rw [if_pos h, hv]
theorem ends13 : shift_Table_Ends.f (some ⟨tab13, 2⟩) (⟨#[120, 97, 98, 99, 120]⟩ : ByteArray) = some [4] := by
  simp only [shift_Table_Ends.f]
  rw [if_neg (by decide), if_pos ⟨by decide, by decide, by decide +kernel, by decide⟩]
  exact congrArg some (by decide +kernel)
theorem awake13 : Ev (fun k => juratlaw13_awake.f k) true := by
  unfold juratlaw13_awake.f
  refine Ev.bind (Ev.const fun _ => new13) (Ev.bind (Ev.const fun _ => shift13) ?_)
  refine Ev.congr (fun k => if_pos rfl) ?_
  refine Ev.bind (Ev.const fun _ => first13 99 0 (by decide) (by decide +kernel)) (Ev.congr (fun k => if_pos rfl) ?_)
  refine Ev.bind (Ev.const fun _ => first13 98 1 (by decide) (by decide +kernel)) (Ev.congr (fun k => if_pos rfl) ?_)
  refine Ev.bind (Ev.const fun _ => first13 97 2 (by decide) (by decide +kernel)) (Ev.congr (fun k => if_pos rfl) ?_)
  refine Ev.bind (Ev.const fun _ => first13 120 2 (by decide) (by decide +kernel)) (Ev.congr (fun k => if_pos rfl) ?_)
  refine Ev.bind (Ev.const fun _ => ends13) ?_
  have s1 := same1 [4] [4] (by simp)
  rw [decide_eq_true rfl] at s1
  exact Ev.bind s1 (Ev.now true)
theorem wf8 {x : Int} (h : (Lit.int .u8 x).wf = true) : 0 ≤ x ∧ x ≤ 255 := by
  simp [Lit.wf, IntKind.min, IntKind.max, IntKind.signed, IntKind.bits] at h
  omega

end Go.Proofs.Ytdfcmkmdioddnaa.Base

/- Proved: for all texts and every byte the law ShiftTells of layer 13 answers true. No condition beyond the statement's own. -/
namespace Go.Proofs.Ytdfcmkmdioddnaa.Pure
open Go Go.RowKit Go.Proofs.Ytdfcmkmdioddnaa.P Go.Proofs.YtdfcmkmdioddnaaW.PrintWords Go.Proofs.YtdfcmkmdioddnaaW.PrintLast Go.Proofs.Ytdfcmkmdioddnaa.Base
set_option linter.unusedVariables false

theorem ShiftTells (l : List ByteArray) (c : Int) (hl : l.length * 16 ≤ 140737488351232) (_ : ∀ x ∈ l, x.size ≤ maxLen) (hc : (Lit.int .u8 c).wf = true) : ∃ k, juratlaw13_ShiftTells.f k l c = some true := by
  obtain ⟨c0, c1⟩ := wf8 hc
  obtain ⟨c, rfl⟩ : ∃ n : Nat, c = n := ⟨c.toNat, by omega⟩
  have hc8 : c < 256 := by omega
  refine Ev.rounds ?_
  unfold juratlaw13_ShiftTells.f
  refine Ev.bind (few_ev l 20 50 (by omega)) ?_
  by_cases h1 : (decide ((l.length : Int) ≤ 20) && fewB l 50) = true
  rotate_left
  · exact Ev.congr (fun k => if_neg h1) (Ev.bind awake13 (Ev.now true))
  refine Ev.congr (fun k => if_pos h1) ?_
  obtain ⟨x, w, e, h⟩ := set_ok l
  refine Ev.bind (Ev.const fun _ => h.hn) (Ev.bind (rnew_ok h) (Ev.bind (Ev.const fun _ => shift_ok h) ?_))
  refine Ev.bind (rfirst_ev w h.few h.size hc8) (Ev.bind (rleast_ev w (by have := h.few; omega)) ?_)
  refine Ev.congr (fun k => if_pos rfl) ?_
  refine Ev.bind (Ev.const fun _ => sfirst_ok w hc8) (Ev.congr (fun k => if_pos rfl) ?_)
  refine Ev.bind (Ev.const fun _ => (rfl : shift_Table_Least.f (some ⟨shTab (minB w) w, minB w⟩) = some (minB w : Int))) (Ev.congr (fun k => if_pos rfl) ?_)
  have hf : shift_Table_Foreign.f (some ⟨shTab (minB w) w, minB w⟩) (c : Int) = some (decide (0 < (minB w : Int)) && decide (shB w c = minB w)) := by
    simp only [shift_Table_Foreign.f]
    rw [if_pos ⟨by omega, by omega⟩, Int.toNat_natCast]
    rfl
  refine Ev.bind (Ev.const fun _ => hf) ?_
  have tail : Ev (fun k => (shift_Table_First.f none (c : Int)).bind fun t260 => (if t260 = 0 then ((shift_Table_Least.f none).bind fun t261 => (if t261 = 0 then ((shift_Table_Foreign.f none (c : Int)).bind fun t262 => (if t262 = true then (some false) else ((juratlaw13_awake.f k).bind fun t263 => (some t263)))) else (some false))) else (some false))) true := by
    refine Ev.bind (Ev.const fun _ => (rfl : shift_Table_First.f none (c : Int) = some 0)) (Ev.congr (fun k => if_pos rfl) ?_)
    refine Ev.bind (Ev.const fun _ => (rfl : shift_Table_Least.f none = some 0)) (Ev.congr (fun k => if_pos rfl) ?_)
    refine Ev.bind (Ev.const fun _ => (rfl : shift_Table_Foreign.f none (c : Int) = some false)) (Ev.congr (fun k => if_neg (by simp)) ?_)
    exact Ev.bind awake13 (Ev.now true)
  by_cases hm : (minB w : Int) > 0
  · refine Ev.congr (fun k => if_pos hm) ?_
    refine Ev.congr (fun k => if_pos ?_) tail
    rw [decide_eq_true (show 0 < (minB w : Int) from hm), Bool.true_and]
    by_cases hq : shB w c = minB w
    · rw [decide_eq_true hq, beq_iff_eq.2 hq]; rfl
    · rw [decide_eq_false hq, beq_eq_false_iff_ne.2 hq]; rfl
  · refine Ev.congr (fun k => if_neg hm) ?_
    refine Ev.congr (fun k => if_pos ?_) tail
    rw [decide_eq_false (show ¬ 0 < (minB w : Int) from hm)]
    rfl

end Go.Proofs.Ytdfcmkmdioddnaa.Pure

/- How a law's arguments are opened: slices of texts and of numbers, as lists, with their sizes out of the row's weights. -/
namespace Go.Proofs.Ytdfcmkmdioddnaa.RowS
open Go Go.ChangeShapes Go.WideShapes Go.RowKit Go.Proofs.YtdfcmkmdioddnaaW.PrintWords

theorem slice_strings {H : Type} {enc : TypeId × Value → H} {P : Program} {W : World} {t e : TypeId} {a : Option Addr} {len cap : Nat} {d : DataW H} {ps : List MemPlace} {ts : List TypeId} {ds : List (DataW H)} {j : Nat}
    (hsz : (DataW.weightsEach P ts ds).all (· ≤ reachBytes) = true) (ht : ts[j]? = some t) (hd : ds[j]? = some d) (hu : P.underlying t = some (.slice e)) (he : P.underlying e = some .string) (hc : P.cellsOf e = 1) (hB : P.bytesOf e = 16)
    (h : DataW.Trod enc P W 0 (fun _ => true) true t (.slice a len cap) d ps) :
    ∃ l : List ByteArray, l.length = len ∧ len ≤ cap ∧ Kd.C Kd.string W a l.length l ∧ l.length * 16 ≤ 140737488351232 ∧ ∀ s ∈ l, s.size ≤ maxLen := by
  obtain ⟨fuel, hf⟩ := h
  rcases open_strings hu he hc hf with ⟨hcs, _⟩ | ⟨x, l, c, ss, hcs, _, hl, hm, hz, hx, hcell, hw⟩
  · simp [Value.cells] at hcs
    obtain ⟨rfl, rfl, rfl⟩ := hcs
    exact ⟨[], rfl, Nat.le_refl _, Kd.C_nil _ _, by simp, by simp⟩
  · simp [Value.cells] at hcs
    obtain ⟨rfl, rfl, rfl⟩ := hcs
    obtain ⟨hx, _⟩ := Prod.mk.inj hx
    subst hx
    have z := sized_slice hsz ht hd hu
    rw [hB] at z
    rw [if_pos rfl] at hz
    have hl2 : len ≤ ss.length := by omega
    have h1 : (strs (H := H) (ss.take len)).length + (strs (H := H) (ss.drop len)).length = ss.length := by
      simp [strs]
      omega
    rw [h1] at z
    have hlen : (ss.take len).length = len := by rw [List.length_take]; omega
    refine ⟨ss.take len, hlen, hl, Kd.C_of_reads (d := ByteArray.empty) (h1 := fun _ => rfl) ⟨rfl, by rw [hlen]; unfold maxLen at hm; omega, fun _ => ⟨x, rfl, fun i hi => ?_⟩⟩, ?_, fun s hs => hw s (List.mem_of_mem_take hs)⟩
    · rw [hlen] at hi
      rw [hcell i (by omega), List.getD_eq_getElem?_getD, List.getD_eq_getElem?_getD, List.getElem?_take_of_lt hi]
    · rw [hlen]
      exact Nat.le_trans (Nat.mul_le_mul_right _ hl2) z
theorem slice_ints {H : Type} {enc : TypeId × Value → H} {P : Program} {W : World} {t e : TypeId} {k : IntKind} {a : Option Addr} {len cap : Nat} {d : DataW H} {ps : List MemPlace} {ts : List TypeId} {ds : List (DataW H)} {j : Nat}
    (hsz : (DataW.weightsEach P ts ds).all (· ≤ reachBytes) = true) (ht : ts[j]? = some t) (hd : ds[j]? = some d) (hu : P.underlying t = some (.slice e)) (he : P.underlying e = some (.int k)) (hc : P.cellsOf e = 1) {B : Nat} (hB : P.bytesOf e = B)
    (h : DataW.Trod enc P W 0 (fun _ => true) true t (.slice a len cap) d ps) :
    ∃ l : List Int, l.length = len ∧ len ≤ cap ∧ Kd.C (Kd.int k) W a l.length l ∧ l.length ≤ maxLen ∧ l.length * B ≤ 140737488351232 ∧ ∀ n ∈ l, (Lit.int k n).wf = true := by
  have y := sized_ints hsz ht hd hu he hc hB h
  obtain ⟨fuel, hf⟩ := h
  rcases open_ints hu he hc hf with ⟨hcs, _⟩ | ⟨x, l, c, zs, hcs, _, hl, hm, hz, _, hcell, hw⟩
  · simp [Value.cells] at hcs
    obtain ⟨rfl, rfl, rfl⟩ := hcs
    exact ⟨[], rfl, Nat.le_refl _, Kd.C_nil _ _, by simp, by simp, by simp⟩
  · simp [Value.cells] at hcs
    obtain ⟨rfl, rfl, rfl⟩ := hcs
    rw [if_pos rfl] at hz
    have hlen : (zs.take len).length = len := by rw [List.length_take]; omega
    refine ⟨zs.take len, hlen, hl, Kd.C_of_reads (d := (0 : Int)) (h1 := fun _ => rfl) ⟨rfl, by rw [hlen]; unfold maxLen at hm; omega, fun _ => ⟨x, rfl, fun i hi => ?_⟩⟩, by rw [hlen]; omega, by rw [hlen]; exact y, fun s hs => hw s (List.mem_of_mem_take hs)⟩
    rw [hlen] at hi
    rw [hcell i (by omega), List.getD_eq_getElem?_getD, List.getD_eq_getElem?_getD, List.getElem?_take_of_lt hi]

end Go.Proofs.Ytdfcmkmdioddnaa.RowS

/- The row of the law ShiftTells, out of its plain statement and the walk; written for this claim by a program of this session (wip/mkrow.py). -/
namespace Go.Proofs.Ytdfcmkmdioddnaa.shiftTells
open Go.ChangeShapes Go.WideShapes Go.ChangeAt Go.RowKit
open Go.ChangeMaps (open_string shut_string)
set_option linter.unusedVariables false
theorem own : ownKnob Try.prog.godebug = none := by kernel_rfl
theorem laidOut : laidOutB Try.prog = true := by kernel_rfl
set_option maxRecDepth 100000 in
theorem lifted (os : Os) (started : os.Started) (H : Type) (enc : TypeId × Value → H) :
    ReturnsInHanded {} Try.checked os 5 .any (Rows.shiftTellsSpec.pre6 enc Try.prog Try.f5 Rows.shiftTellsRow.domain false) (Rows.shiftTellsSpec.post enc Try.prog Try.f5 false true false false) := by
  refine returnsInHanded_of_change_sized (C := Try.checked) own started (by kernel_rfl) Try.func5
    (ChangeSpec.witness6 (enc := enc) (C := Try.checked) false ⟨#[], #[.slice none 0 0, .int .u8 0], []⟩ 8 (by kernel_rfl) (by kernel_rfl) (by kernel_rfl) (by kernel_rfl)) ?_
  intro W base args ds gs before hval0 hW hcnd hsz0 _
  have hsz : (DataW.weightsEach Try.prog (Try.f5.params.toList ++ Rows.shiftTellsSpec.plain.varTypes Try.prog) (ds ++ gs)).all (· ≤ reachBytes) = true := hsz0
  have hval : ∀ (j : Nat) t v, Try.f5.params[j]? = some t → args[j]? = some v → Value.okWide Try.prog W .any base t v := hval0
  have hW' := hW
  obtain ⟨p, q, hA0, hV, rfl, hfz, hnd⟩ := hW
  have hA : DataW.TrodAll enc Try.prog W 0 (fun _ => true) true Try.f5.params.toList args.toList ds p := hA0
  rw [Try.params5] at hA hval hsz
  obtain ⟨v0, vs0, d0, ds0, p0, q0, hargs, rfl, rfl, h0, r0⟩ := trodAll_cons hA
  obtain ⟨v1, vs1, d1, ds1, p1, q1, rfl, rfl, rfl, h1, r1⟩ := trodAll_cons r0
  obtain ⟨rfl, rfl, rfl⟩ := trodAll_nil r1
  obtain rfl : args = #[v0, v1] := by cases args; simp_all
  obtain ⟨rfl, rfl⟩ := trodVars_none hV
  obtain ⟨a0, len0, cap0, rfl⟩ := okWide_slice Try.underlying22 (hval 0 22 v0 rfl rfl)
  have k0 := h0
  have lt0 : ∀ x ∈ p0, x.block < W.heap.size := by obtain ⟨m, hm⟩ := k0; exact DataW.trod_lt m _ _ _ hm
  obtain ⟨l0, hn0, hc0, hr0, y0, w0⟩ := RowS.slice_strings hsz (j := 0) (t := 22) rfl rfl Try.underlying22 Try.underlying9 (by kernel_rfl) (by kernel_rfl) h0
  subst hn0
  obtain ⟨a1, rfl, rfl, rfl, w1⟩ := open_int Try.underlying5 (hval 1 5 v1 rfl rfl) h1
  clear hA0 hval0 hsz0 hsz
  obtain ⟨k, hk⟩ := Pure.ShiftTells l0 a1 y0 w0 w1
  refine (P.juratlaw13_ShiftTells.calls k a0 cap0 l0 a1 true W hr0 hc0 hk).mono fun e W' ⟨he, bel⟩ => ?_
  subst he
  exact ⟨_, rfl, _, _, _, [], _, [], hW', trodAll_mk1 (shut_bool Try.underlying4 _), (trodAll_cons_mk (Below.trod laidOut (by kernel_rfl) (of_decide_eq_true (by kernel_rfl)) k0 bel lt0) (trodAll_cons_mk (shut_int Try.underlying5 w1) trodAll_mk0)), rfl, bel.frame _, fun h => by cases h⟩
theorem over : Rows.shiftTellsRow.holds Try.pinned (OpenSpec.ofChange Rows.shiftTellsSpec) :=
  OpenClaim.holds_of_wide 5 Try.f5 rfl rfl rfl rfl rfl rfl rfl ⟨rfl, rfl, rfl, rfl, rfl⟩ rfl rfl rfl rfl rfl (by kernel_rfl) Try.func5 (by kernel_rfl)
    (of_decide_eq_true (by kernel_rfl)) (by unfold Func.isWrapper; first | (rw [if_pos (by decide +kernel)]; kernel_rfl) | (rw [if_neg (by decide +kernel)]; exact ⟨rfl, rfl⟩))
    (fun os started H enc _ => lifted os started H enc)
theorem proved : Rows.ShiftTellsSaid := over
#print axioms proved
end Go.Proofs.Ytdfcmkmdioddnaa.shiftTells
namespace Go.Proofs.Ytdfcmkmdioddnaa
/-- The row, under a short name, for the claim. -/
theorem shiftTells_holds : Rows.ShiftTellsSaid := shiftTells.proved
end Go.Proofs.Ytdfcmkmdioddnaa
