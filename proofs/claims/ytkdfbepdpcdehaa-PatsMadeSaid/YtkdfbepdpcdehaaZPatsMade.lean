/- Proved here: the row of the law PatsMade, with the plain texts that lead to it, merged by a program of this session (wip/merge.py); no condition beyond the statement's own. -/
import Derived.Test.YtkdfbepdpcdehaaM10
import Derived.Test.YtkdfbepdpcdehaaSame5
import Derived.Test.YtkdfbepdpcdehaaPx4
import Derived.Test.YtkdfbepdpcdehaaRows
import Derived.Test.YtkdfbepdpcdehaaRowS
import Derived.WalkKit
import Derived.ProofKit
import Derived.OpenShut
import Derived.ShutString
import Derived.ChangeOld
import Derived.Below
import Derived.SizedLaws
import Derived.Carry
/- What is told of a set of patterns, of the list in order and of the list as it came; layer 10's examples; no condition beyond the sizes that stand in each statement. -/
namespace Go.Proofs.Ytkdfbepdpcdehaa.Base
open Go Go.RowKit Go.Proofs.YtkdfbepdpcdehaaW.PrintWords Go.Proofs.YtkdfbepdpcdehaaW.PrintMore Go.Proofs.Ytkdfbepdpcdehaa.P
set_option linter.unusedVariables false

theorem findB_up (s : ByteArray) : ∀ (l : List ByteArray) (i : Nat), upB l → findB s l i = if inB s l = true then ((i + aheadB s l : Nat) : Int) else -1
  | [], i, _ => rfl
  | x :: l, i, h => by
    obtain ⟨h1, h2⟩ := List.pairwise_cons.1 h
    have ih := findB_up s l (i + 1) h2
    have ef : findB s (x :: l) i = if x = s then (i : Int) else findB s l (i + 1) := rfl
    rw [ef]
    by_cases hx : x = s
    · subst hx
      rw [if_pos rfl, if_pos (inB_iff.2 List.mem_cons_self), aheadB_none x (x :: l) (fun y hy => by
        rcases List.mem_cons.1 hy with rfl | hy
        · exact bl_irrefl _
        · exact h1 y hy)]
      rfl
    · rw [if_neg hx, inB_cons, decide_eq_false hx, Bool.false_or, ih]
      cases hb : Op.bytesLess (LL x) (LL s) with
      | true =>
        have e : aheadB s (x :: l) = aheadB s l + 1 := by unfold aheadB; rw [List.countP_cons_of_pos (by simpa using hb)]
        rw [e, show i + 1 + aheadB s l = i + (aheadB s l + 1) by omega]
      | false =>
        have hn : ¬ inB s l = true := fun hi => by
          rcases bl_tri (LL x) (LL s) with h' | h' | h'
          · exact hx (LL_inj h')
          · rw [hb] at h'; cases h'
          · rw [h1 s (inB_iff.1 hi)] at h'; cases h'
        rw [if_neg hn, if_neg hn]
theorem fold_perm {β : Type} (f : β → ByteArray → β) (hc : ∀ a x y, f (f a x) y = f (f a y) x) {l m : List ByteArray} (h : l.Perm m) : ∀ a, l.foldl f a = m.foldl f a := by
  induction h with
  | nil => intro a; rfl
  | cons x _ ih => intro a; exact ih _
  | swap x y l => intro a; simp only [List.foldl_cons]; rw [hc]
  | trans _ _ ih1 ih2 => intro a; rw [ih1, ih2]
theorem total_perm {l m : List ByteArray} (h : l.Perm m) : totalB 0 l = totalB 0 m := fold_perm _ (fun a x y => by omega) h 0
theorem most_perm {l m : List ByteArray} (h : l.Perm m) : mostB 0 l = mostB 0 m := fold_perm _ (fun a x y => by omega) h 0
theorem least_spec : ∀ (l : List ByteArray) (a : Nat), leastB a l ≤ a ∧ (∀ s ∈ l, leastB a l ≤ s.size) ∧ (leastB a l = a ∨ ∃ s ∈ l, leastB a l = s.size)
  | [], a => ⟨Nat.le_refl _, by simp, .inl rfl⟩
  | x :: l, a => by
    obtain ⟨h1, h2, h3⟩ := least_spec l (min a x.size)
    have e : leastB a (x :: l) = leastB (min a x.size) l := rfl
    rw [e]
    refine ⟨by omega, fun s hs => ?_, ?_⟩
    · rcases List.mem_cons.1 hs with rfl | hs
      · omega
      · exact h2 s hs
    · rcases h3 with h3 | ⟨s, hs, h3⟩
      · by_cases ha : a ≤ x.size
        · left; omega
        · right; exact ⟨x, List.mem_cons_self, by omega⟩
      · right; exact ⟨s, List.mem_cons_of_mem _ hs, h3⟩
theorem min_spec (l : List ByteArray) (h : 0 < l.length) : (∀ s ∈ l, minB l ≤ s.size) ∧ ∃ s ∈ l, minB l = s.size := by
  obtain ⟨h1, h2, h3⟩ := least_spec l (l.getD 0 ByteArray.empty).size
  refine ⟨h2, ?_⟩
  rcases h3 with h3 | h3
  · exact ⟨_, getD_mem l 0 ByteArray.empty h, h3⟩
  · exact h3
theorem min_perm {l m : List ByteArray} (h : l.Perm m) (h0 : 0 < l.length) : minB l = minB m := by
  obtain ⟨a1, s, hs, a2⟩ := min_spec l h0
  obtain ⟨b1, t, ht, b2⟩ := min_spec m (by rw [← h.length_eq]; exact h0)
  have := a1 t (h.mem_iff.2 ht)
  have := b1 s (h.mem_iff.1 hs)
  omega

/-- A set that is made of texts. -/
def setB (l : List ByteArray) : SetD := ⟨sortB l, (minB l : Nat), (mostB 0 l : Nat), (totalB 0 l : Nat)⟩
theorem new_cases (l : List ByteArray) :
    (∃ e, e ≠ 0 ∧ pats_New.f l = some (none, e) ∧ newB l = ([], e)) ∨
    (pats_New.f l = some (some (setB l), 0) ∧ newB l = (sortB l, 0) ∧ 0 < l.length ∧ l.length ≤ 65535 ∧ badB l = 0 ∧ totalB 0 l ≤ 16777216 ∧ twB [] l 0 < 0) := by
  unfold pats_New.f newB
  by_cases h0 : l.length = 0
  · exact .inl ⟨14, by decide, by rw [if_pos h0], by rw [if_pos h0]⟩
  by_cases h1 : l.length > 65535
  · exact .inl ⟨6, by decide, by rw [if_neg h0, if_pos h1], by rw [if_neg h0, if_pos h1]⟩
  by_cases h2 : badB l ≠ 0
  · exact .inl ⟨_, h2, by rw [if_neg h0, if_neg h1, if_pos h2], by rw [if_neg h0, if_neg h1, if_pos h2]⟩
  by_cases h3 : totalB 0 l > 16777216
  · exact .inl ⟨13, by decide, by rw [if_neg h0, if_neg h1, if_neg h2, if_pos h3], by rw [if_neg h0, if_neg h1, if_neg h2, if_pos h3]⟩
  by_cases h4 : twB [] l 0 ≥ 0
  · exact .inl ⟨8, by decide, by rw [if_neg h0, if_neg h1, if_neg h2, if_neg h3, if_pos h4], by rw [if_neg h0, if_neg h1, if_neg h2, if_neg h3, if_pos h4]⟩
  refine .inr ⟨by rw [if_neg h0, if_neg h1, if_neg h2, if_neg h3, if_neg h4]; rfl, by rw [if_neg h0, if_neg h1, if_neg h2, if_neg h3, if_neg h4], by omega, by omega, Classical.not_not.1 h2, by omega, by omega⟩
theorem find_is (l : List ByteArray) (s : ByteArray) (h : sizedB l) : pats_Set_Find.f (some (setB l)) s = some (if findB s (sortB l) 0 ≥ 0 then (findB s (sortB l) 0, true) else (0, false)) := by
  show (if sizedB (sortB l) ∧ upB (sortB l) then some (if inB s (sortB l) = true then ((aheadB s (sortB l) : Int), true) else (0, false)) else none) = _
  rw [if_pos ⟨sortB_sized h, sortB_up l⟩, findB_up s (sortB l) 0 (sortB_up l), Nat.zero_add]
  by_cases hi : inB s (sortB l) = true
  · rw [if_pos hi, if_pos hi, if_pos (by omega)]
  · rw [if_neg hi, if_neg hi, if_neg (by omega)]

theorem awake10 : juratlaw10_awake.f = some true := by
  have n1 : pats_New.f [(⟨#[98]⟩ : ByteArray), (⟨#[97, 98]⟩ : ByteArray), (⟨#[97]⟩ : ByteArray)] = some (some ⟨[(⟨#[97]⟩ : ByteArray), (⟨#[97, 98]⟩ : ByteArray), (⟨#[98]⟩ : ByteArray)], 1, 2, 4⟩, 0) := by
    have hs : sortB [(⟨#[98]⟩ : ByteArray), (⟨#[97, 98]⟩ : ByteArray), (⟨#[97]⟩ : ByteArray)] = [(⟨#[97]⟩ : ByteArray), (⟨#[97, 98]⟩ : ByteArray), (⟨#[98]⟩ : ByteArray)] := by
      refine (sortB_of ?_ ?_).symm
      · exact (show ([0, 1, 2] : List Nat).Perm [2, 1, 0] by decide).map (fun i => ([⟨#[97]⟩, ⟨#[97, 98]⟩, ⟨#[98]⟩] : List ByteArray).getD i ByteArray.empty)
      · decide
    unfold pats_New.f
    rw [hs]
    rfl
  have n2 : pats_New.f [(⟨#[97]⟩ : ByteArray), (⟨#[98]⟩ : ByteArray), (⟨#[97]⟩ : ByteArray)] = some (none, 8) := rfl
  have n3 : pats_New.f [(⟨#[97]⟩ : ByteArray), (⟨#[]⟩ : ByteArray)] = some (none, 7) := rfl
  have a1 : pats_Set_At.f (some ⟨[(⟨#[97]⟩ : ByteArray), (⟨#[97, 98]⟩ : ByteArray), (⟨#[98]⟩ : ByteArray)], 1, 2, 4⟩) 1 = some ((⟨#[97, 98]⟩ : ByteArray), true) := rfl
  have f1 : pats_Set_Find.f (some ⟨[(⟨#[97]⟩ : ByteArray), (⟨#[97, 98]⟩ : ByteArray), (⟨#[98]⟩ : ByteArray)], 1, 2, 4⟩) (⟨#[98]⟩ : ByteArray) = some (2, true) := by
    simp only [pats_Set_Find.f]
    rw [if_pos ⟨⟨by decide, by intro s hs; simp only [List.mem_cons, List.not_mem_nil, or_false] at hs; rcases hs with rfl | rfl | rfl <;> decide⟩, by decide⟩]
    rfl
  have t1 : (⟨#[97, 98]⟩ : ByteArray).toList = [97, 98] := by rw [ByteArray.toList_eq]
  unfold juratlaw10_awake.f
  rw [n1, n2, n3]
  simp only [Option.bind_some]
  rw [a1, f1]
  simp only [Option.bind_some]
  rw [if_pos trivial, if_pos t1, if_pos trivial, if_pos trivial, if_pos trivial, if_pos trivial]
  rfl

end Go.Proofs.Ytkdfbepdpcdehaa.Base

/- Proved: for all texts, every number and every text the law PatsMade of layer 10 answers true. No condition beyond the statement's own. -/
namespace Go.Proofs.Ytkdfbepdpcdehaa.Pure
open Go Go.RowKit Go.Proofs.Ytkdfbepdpcdehaa.P Go.Proofs.YtkdfbepdpcdehaaW.PrintWords Go.Proofs.YtkdfbepdpcdehaaW.PrintLast Go.Proofs.Ytkdfbepdpcdehaa.Base
set_option linter.unusedVariables false

theorem made_big (l : List ByteArray) (i : Int) (s : ByteArray) : Ev (fun k => juratlaw10_PatsMade.j0 k l i s true) true := by
  refine Ev.ret fun k => ?_
  simp only [juratlaw10_PatsMade.j0]
  rw [if_pos trivial, awake10]
  rfl
/-- The last part: what is told of a set, and of its list. -/
theorem made_j2 (x : Option SetD) (wl : List ByteArray) (hx : pats_Set_List.f x = some wl) (h1 : pats_Set_Len.f x = some (wl.length : Int)) (h2 : pats_Set_Least.f x = some (minB wl : Int)) (h3 : pats_Set_Most.f x = some (mostB 0 wl : Int)) (h4 : pats_Set_Total.f x = some (totalB 0 wl : Int))
    (hl : wl.length ≤ 65535) (hs : ∀ s ∈ wl, s.size ≤ 65535) : Ev (fun k => juratlaw10_PatsMade.j2 k x wl false) true := by
  refine Ev.step (f := fun k => (pats_Set_List.f x).bind fun t549 => ((juratref05_Same.f k t549 wl).bind fun t552 => (if t552 = true then ((pats_Set_Len.f x).bind fun t553 => (if t553 = (wl.length : Int) then ((pats_Set_Least.f x).bind fun t554 => ((juratref10_Least.f k wl).bind fun t555 => (if t554 = t555 then ((pats_Set_Most.f x).bind fun t556 => ((juratref10_Most.f k wl).bind fun t557 => (if t556 = t557 then ((pats_Set_Total.f x).bind fun t558 => ((juratref10_Total.f k wl).bind fun t559 => (if t558 = t559 then ((juratlaw10_awake.f).bind fun t560 => (some t560)) else (some false)))) else (some false)))) else (some false)))) else (some false))) else (some false)))) (fun k => ?_) ?_
  · simp only [juratlaw10_PatsMade.j2]
    rw [if_neg (by simp)]
  have e1 := same5 wl wl (by omega)
  rw [decide_eq_true rfl] at e1
  refine Ev.bind (Ev.const fun _ => hx) (Ev.bind e1 ?_)
  refine Ev.congr (fun k => if_pos rfl) ?_
  refine Ev.bind (Ev.const fun _ => h1) ?_
  refine Ev.congr (fun k => if_pos rfl) ?_
  refine Ev.bind (Ev.const fun _ => h2) (Ev.bind (rleast_ev wl (by omega)) ?_)
  refine Ev.congr (fun k => if_pos rfl) ?_
  refine Ev.bind (Ev.const fun _ => h3) (Ev.bind (rmost_ev wl (by omega)) ?_)
  refine Ev.congr (fun k => if_pos rfl) ?_
  refine Ev.bind (Ev.const fun _ => h4) (Ev.bind (rtotal_ev wl hl hs) ?_)
  refine Ev.congr (fun k => if_pos rfl) ?_
  exact Ev.bind (Ev.const fun _ => awake10) (Ev.now true)
/-- The middle part, where a set answers as its list does. -/
theorem made_j1 (x : Option SetD) (wl : List ByteArray) (i : Int) (s : ByteArray) (ha : pats_Set_At.f x i = some (if 0 ≤ i ∧ i < (wl.length : Int) then (wl.getD i.toNat ByteArray.empty, true) else (⟨#[]⟩, false))) (hf : pats_Set_Find.f x s = some (if findB s wl 0 ≥ 0 then (findB s wl 0, true) else (0, false)))
    (hl : wl.length ≤ 65535) (h : Ev (fun k => juratlaw10_PatsMade.j2 k x wl false) true) : Ev (fun k => juratlaw10_PatsMade.j1 k i s x wl false) true := by
  obtain ⟨K1, h1⟩ := rfind10_ev wl s (by omega)
  obtain ⟨K2, h2⟩ := h
  refine ⟨K1 + K2 + 1, fun k hk => ?_⟩
  obtain ⟨m, rfl⟩ : ∃ m, k = m + 1 := ⟨k - 1, by omega⟩
  have h1' := h1 m (by omega)
  have h2' := h2 m (by omega)
  have te : (⟨#[]⟩ : ByteArray).toList = ([] : List UInt8) := by rw [ByteArray.toList_eq]
  have er : rdOf ByteArray.empty wl i = wl.getD i.toNat ByteArray.empty := rfl
  simp only at h1' h2'
  simp only [juratlaw10_PatsMade.j1]
  rw [if_neg (by simp), ha, hf]
  simp only [Option.bind_some]
  rw [h1']
  simp only [Option.bind_some, er]
  clear ha hf h1 h2 h1' hk
  generalize findB s wl 0 = F
  have tail : (if ((if F ≥ 0 then (F, true) else (0, false)).2 != decide (F ≥ 0)) = true then juratlaw10_PatsMade.j2 m x wl true else if (if F ≥ 0 then (F, true) else (0, false)).2 = true then (if (if F ≥ 0 then (F, true) else (0, false)).1 = F then juratlaw10_PatsMade.j2 m x wl false else juratlaw10_PatsMade.j2 m x wl true) else juratlaw10_PatsMade.j2 m x wl ((if F ≥ 0 then (F, true) else (0, false)).1 != 0)) = some true := by
    by_cases hF : F ≥ 0
    · rw [if_pos hF, if_neg (by simp [hF]), if_pos rfl, if_pos rfl]; exact h2'
    · rw [if_neg hF, if_neg (by simp [hF]), if_neg (by simp)]; exact h2'
  by_cases hi : 0 ≤ i
  · by_cases hi2 : i < (wl.length : Int)
    · rw [if_pos (show i ≥ 0 from hi), if_pos (show 0 ≤ i ∧ i < (wl.length : Int) from ⟨hi, hi2⟩), if_neg (by simp [hi2]), if_pos rfl, if_pos hi, if_pos hi2, if_pos rfl]
      exact tail
    · rw [if_pos (show i ≥ 0 from hi), if_neg (show ¬ (0 ≤ i ∧ i < (wl.length : Int)) from fun h => hi2 h.2), if_neg (by simp [hi2]), if_neg (by simp), if_pos te]
      exact tail
  · rw [if_neg (show ¬ i ≥ 0 from hi), if_neg (show ¬ (0 ≤ i ∧ i < (wl.length : Int)) from fun h => hi h.1), if_neg (by simp), if_neg (by simp), if_pos te]
    exact tail

theorem PatsMade (l : List ByteArray) (i : Int) (s : ByteArray) (hl : l.length * 16 ≤ 140737488351232) (_ : ∀ x ∈ l, x.size ≤ maxLen) (_ : (Lit.int .i64 i).wf = true) (_ : s.size ≤ 140737488351232) : ∃ k, juratlaw10_PatsMade.f k l i s = some true := by
  refine Ev.rounds ?_
  unfold juratlaw10_PatsMade.f
  refine Ev.bind (few_ev l 20 50 (by omega)) ?_
  by_cases h1 : (decide ((l.length : Int) ≤ 20) && fewB l 50) = true
  rotate_left
  · exact Ev.congr (fun k => if_neg h1) (made_big l i s)
  refine Ev.congr (fun k => if_pos h1) ?_
  by_cases h2 : (s.size : Int) > 50
  · rw [decide_eq_true h2]; exact made_big l i s
  rw [decide_eq_false h2]
  obtain ⟨h3, h4⟩ := Bool.and_eq_true_iff.1 h1
  have h3 := of_decide_eq_true h3
  have h4 := fewB_iff.1 h4
  have hs : sizedB l := ⟨by omega, fun x hx => by have := h4 x hx; omega⟩
  refine Ev.step (f := fun k => (pats_New.f l).bind fun bt535 => ((juratref10_New.f k l).bind fun bt537 => (if bt535.2 = bt537.2 then (if bt535.1.isNone = true then (juratlaw10_PatsMade.j1 k i s none bt537.1 (false != (bt535.2 == 0))) else (juratlaw10_PatsMade.j1 k i s (some (bt535.1.get!)) bt537.1 (true != (bt535.2 == 0)))) else (juratlaw10_PatsMade.j1 k i s bt535.1 bt537.1 true)))) (fun k => ?_) ?_
  · simp only [juratlaw10_PatsMade.j0]
    rw [if_neg (by simp)]
  rcases new_cases l with ⟨e, he, hn, hw⟩ | ⟨hn, hw, hp, _, hb, _, _⟩
  · have r := rnew_ev l
    rw [hw] at r
    refine Ev.bind (Ev.const fun _ => hn) (Ev.bind r ?_)
    refine Ev.congr (fun k => if_pos rfl) ?_
    refine Ev.congr (fun k => if_pos rfl) ?_
    have e0 : (false != (e == 0)) = false := by rw [beq_eq_false_iff_ne.2 he]; rfl
    refine Ev.congr (fun k => by rw [e0]) ?_
    exact made_j1 none [] i s (by simp [pats_Set_At.f, setL]) (by simp [pats_Set_Find.f, findB]) (by simp) (made_j2 none [] rfl rfl rfl rfl rfl (by simp) (by simp))
  · have r := rnew_ev l
    rw [hw] at r
    refine Ev.bind (Ev.const fun _ => hn) (Ev.bind r ?_)
    refine Ev.congr (fun k => if_pos rfl) ?_
    refine Ev.congr (fun k => if_neg (by simp)) ?_
    have hlen := sortB_length l
    refine made_j1 (some (setB l)) (sortB l) i s ?_ (find_is l s hs) (by omega) (made_j2 (some (setB l)) (sortB l) ?_ ?_ ?_ ?_ ?_ (by omega) (fun x hx => by have := h4 x ((sortB_perm l).mem_iff.1 hx); omega))
    · rfl
    · show (if (sortB l).length ≤ 8796093022208 then some (sortB l) else none) = _
      rw [if_pos (by omega)]
    · rfl
    · show some ((minB l : Nat) : Int) = _
      rw [min_perm (sortB_perm l).symm hp]
    · show some ((mostB 0 l : Nat) : Int) = _
      rw [most_perm (sortB_perm l)]
    · show some ((totalB 0 l : Nat) : Int) = _
      rw [total_perm (sortB_perm l)]

end Go.Proofs.Ytkdfbepdpcdehaa.Pure

/- The row of the law PatsMade, out of its plain statement and the walk; written for this claim by a program of this session (wip/mkrow.py). -/
namespace Go.Proofs.Ytkdfbepdpcdehaa.patsMade
open Go.ChangeShapes Go.WideShapes Go.ChangeAt Go.RowKit
open Go.ChangeMaps (open_string shut_string)
set_option linter.unusedVariables false
theorem own : ownKnob Try.prog.godebug = none := by kernel_rfl
theorem laidOut : laidOutB Try.prog = true := by kernel_rfl
set_option maxRecDepth 100000 in
theorem lifted (os : Os) (started : os.Started) (H : Type) (enc : TypeId × Value → H) :
    ReturnsInHanded {} Try.checked os 4 .any (Rows.patsMadeSpec.pre6 enc Try.prog Try.f4 Rows.patsMadeRow.domain false) (Rows.patsMadeSpec.post enc Try.prog Try.f4 false true false false) := by
  refine returnsInHanded_of_change_sized (C := Try.checked) own started (by kernel_rfl) Try.func4
    (ChangeSpec.witness6 (enc := enc) (C := Try.checked) false ⟨#[], #[.slice none 0 0, .int .i64 0, .string ByteArray.empty], []⟩ 8 (by kernel_rfl) (by kernel_rfl) (by kernel_rfl) (by kernel_rfl)) ?_
  intro W base args ds gs before hval0 hW hcnd hsz0 _
  have hsz : (DataW.weightsEach Try.prog (Try.f4.params.toList ++ Rows.patsMadeSpec.plain.varTypes Try.prog) (ds ++ gs)).all (· ≤ reachBytes) = true := hsz0
  have hval : ∀ (j : Nat) t v, Try.f4.params[j]? = some t → args[j]? = some v → Value.okWide Try.prog W .any base t v := hval0
  have hW' := hW
  obtain ⟨p, q, hA0, hV, rfl, hfz, hnd⟩ := hW
  have hA : DataW.TrodAll enc Try.prog W 0 (fun _ => true) true Try.f4.params.toList args.toList ds p := hA0
  rw [Try.params4] at hA hval hsz
  obtain ⟨v0, vs0, d0, ds0, p0, q0, hargs, rfl, rfl, h0, r0⟩ := trodAll_cons hA
  obtain ⟨v1, vs1, d1, ds1, p1, q1, rfl, rfl, rfl, h1, r1⟩ := trodAll_cons r0
  obtain ⟨v2, vs2, d2, ds2, p2, q2, rfl, rfl, rfl, h2, r2⟩ := trodAll_cons r1
  obtain ⟨rfl, rfl, rfl⟩ := trodAll_nil r2
  obtain rfl : args = #[v0, v1, v2] := by cases args; simp_all
  obtain ⟨rfl, rfl⟩ := trodVars_none hV
  obtain ⟨a0, len0, cap0, rfl⟩ := okWide_slice Try.underlying22 (hval 0 22 v0 rfl rfl)
  have k0 := h0
  have lt0 : ∀ x ∈ p0, x.block < W.heap.size := by obtain ⟨m, hm⟩ := k0; exact DataW.trod_lt m _ _ _ hm
  obtain ⟨l0, hn0, hc0, hr0, y0, w0⟩ := RowS.slice_strings hsz (j := 0) (t := 22) rfl rfl Try.underlying22 Try.underlying9 (by kernel_rfl) (by kernel_rfl) h0
  subst hn0
  obtain ⟨a1, rfl, rfl, rfl, w1⟩ := open_int Try.underlying3 (hval 1 3 v1 rfl rfl) h1
  obtain ⟨a2, rfl, rfl, rfl, y2⟩ := open_string Try.underlying9 (hval 2 9 v2 rfl rfl) h2
  have w2 : a2.size ≤ 140737488351232 := by
    have z := sized_string hsz (j := 2) (t := 9) rfl rfl
    rw [Array.length_toList] at z
    exact z
  clear hA0 hval0 hsz0 hsz
  obtain ⟨k, hk⟩ := Pure.PatsMade l0 a1 a2 y0 w0 w1 w2
  refine (P.juratlaw10_PatsMade.calls k a0 cap0 l0 a1 a2 true W hr0 hc0 hk).mono fun e W' ⟨he, bel⟩ => ?_
  subst he
  exact ⟨_, rfl, _, _, _, [], _, [], hW', trodAll_mk1 (shut_bool Try.underlying4 _), (trodAll_cons_mk (Below.trod laidOut (by kernel_rfl) (of_decide_eq_true (by kernel_rfl)) k0 bel lt0) (trodAll_cons_mk (shut_int Try.underlying3 w1) (trodAll_cons_mk (shut_string Try.underlying9 y2) trodAll_mk0))), rfl, bel.frame _, fun h => by cases h⟩
theorem over : Rows.patsMadeRow.holds Try.pinned (OpenSpec.ofChange Rows.patsMadeSpec) :=
  OpenClaim.holds_of_wide 4 Try.f4 rfl rfl rfl rfl rfl rfl rfl ⟨rfl, rfl, rfl, rfl, rfl⟩ rfl rfl rfl rfl rfl (by kernel_rfl) Try.func4 (by kernel_rfl)
    (of_decide_eq_true (by kernel_rfl)) (by unfold Func.isWrapper; first | (rw [if_pos (by decide +kernel)]; kernel_rfl) | (rw [if_neg (by decide +kernel)]; exact ⟨rfl, rfl⟩))
    (fun os started H enc _ => lifted os started H enc)
theorem proved : Rows.PatsMadeSaid := over
#print axioms proved
end Go.Proofs.Ytkdfbepdpcdehaa.patsMade
namespace Go.Proofs.Ytkdfbepdpcdehaa
/-- The row, under a short name, for the claim. -/
theorem patsMade_holds : Rows.PatsMadeSaid := patsMade.proved
end Go.Proofs.Ytkdfbepdpcdehaa
