/- Proved here: the row of the law AffixOrder, with texts that lead to it, merged by a program of this session (wip/merge.py), part 1 of 1; no condition beyond the statement's own. -/
import Derived.Test.YtmkcoobmbjoloaaN09
import Derived.Test.YtmkcoobmbjoloaaK09
import Derived.Test.YtmkcoobmbjoloaaSame5
import Derived.Test.YtmkcoobmbjoloaaSame1
import Derived.Test.YtmkcoobmbjoloaaPx68
import Derived.Test.YtmkcoobmbjoloaaPx14
import Derived.Test.YtmkcoobmbjoloaaRows
import Derived.Test.YtmkcoobmbjoloaaRowS
import Derived.WalkKit
import Derived.ProofKit
import Derived.OpenShut
import Derived.ShutString
import Derived.ChangeOld
import Derived.Below
import Derived.SizedLaws
import Derived.Carry
/- Layer 9's examples answer true. -/
namespace Go.Proofs.Ytmkcoobmbjoloaa.Base
open Go Go.RowKit Go.Proofs.YtmkcoobmbjoloaaW.PrintWords Go.Proofs.YtmkcoobmbjoloaaW.PrintMore Go.Proofs.Ytmkcoobmbjoloaa.P

theorem awake09 : Ev (fun k => juratlaw09_awake.f k) true := by
  unfold juratlaw09_awake.f
  have c1 : cmp3 (LL ⟨#[97, 98]⟩) (LL ⟨#[97, 98, 99]⟩) = -1 := by decide
  have h1 := compare_ev (⟨#[97, 98]⟩ : ByteArray) (⟨#[97, 98, 99]⟩ : ByteArray) (by decide)
  rw [c1] at h1
  refine Ev.bind h1 ?_
  refine Ev.congr (fun k => if_pos rfl) ?_
  have s1 : affix_Sorted.f [(⟨#[98]⟩ : ByteArray), (⟨#[97, 98]⟩ : ByteArray), (⟨#[97]⟩ : ByteArray), (⟨#[97, 98]⟩ : ByteArray)] = some [(⟨#[97]⟩ : ByteArray), (⟨#[97, 98]⟩ : ByteArray), (⟨#[97, 98]⟩ : ByteArray), (⟨#[98]⟩ : ByteArray)] := by
    unfold affix_Sorted.f
    rw [if_pos ⟨by decide, by intro s hs; simp only [List.mem_cons, List.not_mem_nil, or_false] at hs; rcases hs with rfl | rfl | rfl | rfl <;> decide⟩]
    refine congrArg some (sortB_of ?_ ?_).symm
    · exact (show ([0, 1, 1, 2] : List Nat).Perm [2, 1, 0, 1] by decide).map (fun i => ([⟨#[97]⟩, ⟨#[97, 98]⟩, ⟨#[98]⟩] : List ByteArray).getD i ByteArray.empty)
    · decide
  refine Ev.bind (Ev.const fun _ => s1) ?_
  have e1 := same5 [(⟨#[97]⟩ : ByteArray), (⟨#[97, 98]⟩ : ByteArray), (⟨#[97, 98]⟩ : ByteArray), (⟨#[98]⟩ : ByteArray)] [(⟨#[97]⟩ : ByteArray), (⟨#[97, 98]⟩ : ByteArray), (⟨#[97, 98]⟩ : ByteArray), (⟨#[98]⟩ : ByteArray)] (by decide)
  rw [decide_eq_true rfl] at e1
  refine Ev.bind e1 ?_
  refine Ev.congr (fun k => if_pos rfl) ?_
  have t1 : affix_Twice.f [(⟨#[97]⟩ : ByteArray), (⟨#[98]⟩ : ByteArray), (⟨#[97]⟩ : ByteArray)] = some 2 := by
    unfold affix_Twice.f
    rw [if_pos ⟨by decide, by intro s hs; simp only [List.mem_cons, List.not_mem_nil, or_false] at hs; rcases hs with rfl | rfl | rfl <;> decide⟩]
    rfl
  refine Ev.bind (Ev.const fun _ => t1) ?_
  refine Ev.congr (fun k => if_pos rfl) ?_
  have h2 := shared_ev [(⟨#[97, 98]⟩ : ByteArray), (⟨#[97, 98, 99]⟩ : ByteArray), (⟨#[98]⟩ : ByteArray)] ⟨by decide, by intro s hs; simp only [List.mem_cons, List.not_mem_nil, or_false] at hs; rcases hs with rfl | rfl | rfl <;> decide⟩
  have c2 : sharedL [(⟨#[97, 98]⟩ : ByteArray), (⟨#[97, 98, 99]⟩ : ByteArray), (⟨#[98]⟩ : ByteArray)] = [0, 2, 0] := by rfl
  rw [c2] at h2
  refine Ev.bind h2 ?_
  have e2 := same1 [0, 2, 0] [0, 2, 0] (by decide)
  rw [decide_eq_true rfl] at e2
  exact Ev.bind e2 (Ev.now true)

end Go.Proofs.Ytmkcoobmbjoloaa.Base

/- Proved: for all texts and all numbers the law AffixOrder of layer 9 answers true. No condition beyond the statement's own. -/
namespace Go.Proofs.Ytmkcoobmbjoloaa.Pure
open Go Go.RowKit Go.Proofs.Ytmkcoobmbjoloaa.P Go.Proofs.YtmkcoobmbjoloaaW.PrintWords Go.Proofs.YtmkcoobmbjoloaaW.PrintLast Go.Proofs.Ytmkcoobmbjoloaa.Base

theorem pre_mid : ∀ x y z : List UInt8, Op.bytesLess y x = false → Op.bytesLess z y = false → pre x z ≤ pre x y ∧ pre x z ≤ pre y z
  | [], _, _, _, _ => by simp [pre]
  | _ :: _, _, [], _, _ => by simp [pre]
  | a :: x, [], c :: z, h1, _ => by simp [Op.bytesLess] at h1
  | a :: x, b :: y, c :: z, h1, h2 => by
    simp only [Op.bytesLess, Bool.or_eq_false_iff, Bool.and_eq_false_imp, decide_eq_false_iff_not, beq_iff_eq] at h1 h2
    by_cases hac : a = c
    · subst hac
      have hab : a = b := by
        have g1 := h1.1
        have g2 := h2.1
        rw [UInt8.lt_iff_toNat_lt] at g1 g2
        exact UInt8.toNat_inj.1 (by omega)
      subst hab
      have := pre_mid x y z (h1.2 rfl) (h2.2 rfl)
      simp only [pre, if_true]
      omega
    · simp only [pre]
      rw [if_neg hac]
      omega
theorem cmp3_anti (x y : List UInt8) : cmp3 x y = - cmp3 y x := by
  unfold cmp3
  by_cases h : x = y
  · subst h; simp
  · have h' : ¬ y = x := fun e => h e.symm
    simp only [if_neg h, if_neg h']
    rcases bl_tri x y with g | g | g
    · exact absurd g h
    · simp [g, bl_asym g]
    · simp [g, bl_asym g]
theorem cmp3_range (x y : List UInt8) : cmp3 x y = 0 ∨ cmp3 x y = 1 ∨ cmp3 x y = -1 := by
  unfold cmp3
  split
  · exact .inl rfl
  · split
    · exact .inr (.inr rfl)
    · exact .inr (.inl rfl)
theorem cmp3_le (x y : List UInt8) : cmp3 x y ≤ 0 ↔ Op.bytesLess y x = false := by
  have h := cmp3_lt y x
  have a := cmp3_anti x y
  constructor
  · intro g
    rw [← h]
    exact decide_eq_false (by omega)
  · intro g
    rw [g] at h
    have := of_decide_eq_false h
    omega
theorem up_at {l : List ByteArray} (h : upB l) (i j : Nat) (hij : i ≤ j) (hj : j < l.length) : Op.bytesLess (LL (l.getD j ByteArray.empty)) (LL (l.getD i ByteArray.empty)) = false := by
  rcases Nat.eq_or_lt_of_le hij with e | e
  · subst e; exact bl_irrefl _
  · have := List.pairwise_iff_getElem.1 h i j (by omega) hj e
    rw [List.getD_eq_getElem?_getD, List.getD_eq_getElem?_getD, List.getElem?_eq_getElem hj, List.getElem?_eq_getElem (by omega : i < l.length)]
    exact this
set_option maxHeartbeats 2000000 in
theorem order_l0 (l : List ByteArray) (hs : sizedB l) (hu : upB l) (i k : Nat) (hik : i < k) (hk : k < l.length) : ∀ (d j : Nat), j + d = k + 1 → i < j →
    Ev (fun q => juratlaw09_AffixOrder.l0 q (i : Int) (k : Int) l (sharedL l) (j : Int)) true := by
  intro d
  induction d with
  | zero =>
    intro j hj _
    refine Ev.step (f := fun q => (juratlaw09_awake.f q).bind fun t => some t) (fun q => ?_) (Ev.bind awake09 (Ev.now true))
    simp only [juratlaw09_AffixOrder.l0]
    rw [if_neg (by omega)]
  | succ d ih =>
    intro j hj hij
    have hl := hs.1
    have e1 : rdOf ByteArray.empty l (i : Int) = l.getD i ByteArray.empty := rfl
    have e2 : rdOf ByteArray.empty l (k : Int) = l.getD k ByteArray.empty := rfl
    have e3 : rdOf ByteArray.empty l (j : Int) = l.getD j ByteArray.empty := rfl
    have e4 : rdOf ByteArray.empty l ((j : Int) - 1) = l.getD (j - 1) ByteArray.empty := by
      unfold rdOf
      rw [show ((j : Int) - 1).toNat = j - 1 by omega]
    have e5 : rd (sharedL l) (j : Int) = (pre (LL (l.getD (j - 1) ByteArray.empty)) (LL (l.getD j ByteArray.empty)) : Int) := by
      show (sharedL l).getD j 0 = _
      rw [sharedL_getD l j (by omega), if_neg (by omega)]
    have h1 := prefix_ev (l.getD i ByteArray.empty) (l.getD k ByteArray.empty) (hs.2 _ (getD_mem l i _ (by omega)))
    have h2 := compare_ev (l.getD (j - 1) ByteArray.empty) (l.getD j ByteArray.empty) (hs.2 _ (getD_mem l (j - 1) _ (by omega)))
    have m1 := (pre_mid _ _ _ (up_at hu i (j - 1) (by omega) (by omega)) (up_at hu (j - 1) k (by omega) hk)).2
    have m2 := (pre_mid _ _ _ (up_at hu (j - 1) j (by omega) (by omega)) (up_at hu j k (by omega) hk)).1
    have c1 := (cmp3_le (LL (l.getD (j - 1) ByteArray.empty)) (LL (l.getD j ByteArray.empty))).2 (up_at hu (j - 1) j (by omega) (by omega))
    have ih := ih (j + 1) (by omega) (by omega)
    have hsl := sharedL_length l
    refine Ev.step (f := fun q => (affix_Prefix.f q (l.getD i ByteArray.empty) (l.getD k ByteArray.empty)).bind fun t599 => (if t599 > (pre (LL (l.getD (j - 1) ByteArray.empty)) (LL (l.getD j ByteArray.empty)) : Int) then (some false) else ((affix_Compare.f q (l.getD (j - 1) ByteArray.empty) (l.getD j ByteArray.empty)).bind fun t603 => (if t603 > 0 then (some false) else (juratlaw09_AffixOrder.l0 q (i : Int) (k : Int) l (sharedL l) ((j + 1 : Nat) : Int)))))) (fun q => ?_) ?_
    · have p1 : (j : Int) ≤ (k : Int) := by omega
      have p2 : (0 : Int) ≤ (i : Int) := by omega
      have p3 : (i : Int) < (l.length : Int) := by omega
      have p4 : (0 : Int) ≤ (k : Int) := by omega
      have p5 : (k : Int) < (l.length : Int) := by omega
      have q1 : (0 : Int) ≤ (j : Int) := by omega
      have q2 : (j : Int) < ((sharedL l).length : Int) := by omega
      have q3 : (0 : Int) ≤ (j : Int) - 1 := by omega
      have q4 : (j : Int) - 1 < (l.length : Int) := by omega
      have q5 : (j : Int) < (l.length : Int) := by omega
      have w1 : wrap64 ((j : Int) - 1) = (j : Int) - 1 := wrap_id (by omega) (by omega)
      have w2 : wrap64 ((j : Int) + 1) = ((j + 1 : Nat) : Int) := by rw [wrap_id (by omega) (by omega)]; rfl
      simp only [juratlaw09_AffixOrder.l0, w1, w2]
      rw [if_pos p1, if_pos p2, if_pos p3, if_pos p4, if_pos p5, e1, e2]
      simp only [if_pos q1, if_pos q2, if_pos q3, if_pos q4, if_pos q5, e3, e4, e5]
    have n1 : ¬ (((pre (LL (l.getD i ByteArray.empty)) (LL (l.getD k ByteArray.empty)) : Nat) : Int) > (pre (LL (l.getD (j - 1) ByteArray.empty)) (LL (l.getD j ByteArray.empty)) : Int)) := by omega
    have n2 : ¬ (cmp3 (LL (l.getD (j - 1) ByteArray.empty)) (LL (l.getD j ByteArray.empty)) > 0) := by omega
    refine Ev.bind h1 ?_
    refine Ev.congr (fun q => if_neg n1) ?_
    refine Ev.bind h2 ?_
    exact Ev.congr (fun q => if_neg n2) ih
theorem order_j1 (l : List ByteArray) (hs : sizedB l) (a4 a5 : Int) : Ev (fun q => juratlaw09_AffixOrder.j1 q l a4 a5 false) true := by
  have hs2 := sortB_sized hs
  have hu := sortB_up l
  have hl := sortB_length l
  have hsl := sharedL_length (sortB l)
  have hl2 := hs.1
  have f1 : affix_Sorted.f l = some (sortB l) := by unfold affix_Sorted.f; rw [if_pos hs]
  have aw : Ev (fun q => juratlaw09_AffixOrder.j2 q a4 a5 (sortB l) (sharedL (sortB l)) true) true := by
    refine Ev.step (f := fun q => (juratlaw09_awake.f q).bind fun t => some t) (fun q => ?_) (Ev.bind awake09 (Ev.now true))
    simp only [juratlaw09_AffixOrder.j2]
    rw [if_pos trivial, if_pos (by rw [hsl])]
  refine Ev.step (f := fun q => (affix_Sorted.f l).bind fun t589 => (if (t589.length : Int) = (l.length : Int) then ((affix_Shared.f q t589).bind fun t592 => (if a4 < 0 then (juratlaw09_AffixOrder.j2 q a4 a5 t589 t592 true) else (if a5 ≤ a4 then (juratlaw09_AffixOrder.j2 q a4 a5 t589 t592 true) else (if a5 ≥ (t589.length : Int) then (juratlaw09_AffixOrder.j2 q a4 a5 t589 t592 true) else (juratlaw09_AffixOrder.j2 q a4 a5 t589 t592 (decide (a5 ≥ (t592.length : Int)))))))) else (some false))) (fun q => ?_) ?_
  · simp only [juratlaw09_AffixOrder.j1]
    rw [if_neg (by decide)]
  refine Ev.bind (Ev.const fun _ => f1) (Ev.congr (fun q => if_pos (by rw [hl])) (Ev.bind (shared_ev (sortB l) hs2) ?_))
  by_cases c1 : a4 < 0
  · exact Ev.congr (fun q => if_pos c1) aw
  refine Ev.congr (fun q => if_neg c1) ?_
  by_cases c2 : a5 ≤ a4
  · exact Ev.congr (fun q => if_pos c2) aw
  refine Ev.congr (fun q => if_neg c2) ?_
  by_cases c3 : a5 ≥ ((sortB l).length : Int)
  · exact Ev.congr (fun q => if_pos c3) aw
  refine Ev.congr (fun q => if_neg c3) ?_
  rw [decide_eq_false (by omega)]
  obtain ⟨i, rfl⟩ := Int.eq_ofNat_of_zero_le (show 0 ≤ a4 by omega)
  obtain ⟨k, rfl⟩ := Int.eq_ofNat_of_zero_le (show 0 ≤ a5 by omega)
  have := order_l0 (sortB l) hs2 hu i k (by omega) (by omega) (k - i) (i + 1) (by omega) (by omega)
  refine Ev.step (fun q => ?_) this
  simp only [juratlaw09_AffixOrder.j2]
  rw [if_neg (by decide), wrap_id (by omega) (by omega)]
  rfl
theorem order_big (a b c : ByteArray) (l : List ByteArray) (x y : Int) : Ev (fun k => juratlaw09_AffixOrder.j0 k a b c l x y true) true := by
  refine Ev.step (f := fun k => (juratlaw09_awake.f k).bind fun t => some t) (fun k => ?_) (Ev.bind awake09 (Ev.now true))
  simp only [juratlaw09_AffixOrder.j0]
  rw [if_pos trivial]
theorem AffixOrder (a b c : ByteArray) (l : List ByteArray) (x y : Int) (_ : a.size ≤ 140737488351232) (_ : b.size ≤ 140737488351232) (_ : c.size ≤ 140737488351232) (hl : l.length * 16 ≤ 140737488351232) (_ : ∀ x ∈ l, x.size ≤ maxLen) (_ : (Lit.int .i64 x).wf = true) (_ : (Lit.int .i64 y).wf = true) : ∃ k, juratlaw09_AffixOrder.f k a b c l x y = some true := by
  refine Ev.rounds ?_
  unfold juratlaw09_AffixOrder.f
  refine Ev.bind (few_ev l 20 50 (by omega)) ?_
  by_cases h1 : (decide ((l.length : Int) ≤ 20) && fewB l 50) = true
  · refine Ev.congr (fun k => if_pos h1) ?_
    refine Ev.bind (few_ev [a, b, c] 3 50 (by simp)) ?_
    cases h2 : (decide ((([a, b, c] : List ByteArray).length : Int) ≤ 3) && fewB [a, b, c] 50) with
    | false => exact order_big a b c l x y
    | true =>
      obtain ⟨h3, h4⟩ := Bool.and_eq_true_iff.1 h1
      have h3 := of_decide_eq_true h3
      have h4 := fewB_iff.1 h4
      have g4 := fewB_iff.1 (Bool.and_eq_true_iff.1 h2).2
      have za := g4 a (by simp)
      have zb := g4 b (by simp)
      have zc := g4 c (by simp)
      have hs : sizedB l := ⟨by omega, fun x hx => by have := h4 x hx; omega⟩
      have j1 := order_j1 l hs x y
      have t1 := compare_ev a b (by omega)
      have t2 := compare_ev b c (by omega)
      have t3 := compare_ev b a (by omega)
      have t4 := compare_ev a c (by omega)
      have an := cmp3_anti (LL a) (LL b)
      have rg := cmp3_range (LL b) (LL a)
      have l1 := cmp3_le (LL a) (LL b)
      have l2 := cmp3_le (LL b) (LL c)
      have l3 := cmp3_le (LL a) (LL c)
      have z1 := cmp3_zero (LL a) (LL b)
      have w1 : cmp3 (LL a) (LL b) = wrap64 (-cmp3 (LL b) (LL a)) := by rw [wrap_id (by omega) (by omega)]; exact an
      have eq1 : ((cmp3 (LL a) (LL b) == 0) != (a.toList == b.toList)) = false := by
        rw [bne_eq_false_iff_eq, Bool.eq_iff_iff, beq_iff_eq, beq_iff_eq, z1]
        exact ⟨fun h => toList_iff.2 (LL_inj h), fun h => by rw [toList_iff.1 h]⟩
      refine Ev.step (f := fun k => (affix_Compare.f k a b).bind fun t585 => ((affix_Compare.f k b c).bind fun t586 => ((affix_Compare.f k b a).bind fun t587 => (if t585 = (wrap64 (-t587)) then (if t585 ≤ 0 then (if t586 ≤ 0 then ((affix_Compare.f k a c).bind fun t588 => (if t588 > 0 then (juratlaw09_AffixOrder.j1 k l x y true) else (juratlaw09_AffixOrder.j1 k l x y ((t585 == 0) != (a.toList == b.toList))))) else (juratlaw09_AffixOrder.j1 k l x y ((t585 == 0) != (a.toList == b.toList)))) else (juratlaw09_AffixOrder.j1 k l x y ((t585 == 0) != (a.toList == b.toList)))) else (juratlaw09_AffixOrder.j1 k l x y true))))) (fun k => ?_) ?_
      · simp only [juratlaw09_AffixOrder.j0]
        rw [if_neg (by decide)]
      refine Ev.bind t1 (Ev.bind t2 (Ev.bind t3 (Ev.congr (fun k => if_pos w1) ?_)))
      rw [eq1]
      by_cases c1 : cmp3 (LL a) (LL b) ≤ 0
      · refine Ev.congr (fun k => if_pos c1) ?_
        by_cases c2 : cmp3 (LL b) (LL c) ≤ 0
        · refine Ev.congr (fun k => if_pos c2) (Ev.bind t4 ?_)
          have : cmp3 (LL a) (LL c) ≤ 0 := l3.2 (bl_ntrans (l2.1 c2) (l1.1 c1))
          exact Ev.congr (fun k => if_neg (by omega)) j1
        · exact Ev.congr (fun k => if_neg c2) j1
      · exact Ev.congr (fun k => if_neg c1) j1
  · refine Ev.congr (fun k => if_neg h1) ?_
    exact order_big a b c l x y

end Go.Proofs.Ytmkcoobmbjoloaa.Pure

/- The row of the law AffixOrder, out of its plain statement and the walk; written for this claim by a program of this session (wip/mkrow.py). -/
namespace Go.Proofs.Ytmkcoobmbjoloaa.affixOrder
open Go.ChangeShapes Go.WideShapes Go.ChangeAt Go.RowKit
open Go.ChangeMaps (open_string shut_string)
set_option linter.unusedVariables false
theorem own : ownKnob Try.prog.godebug = none := by kernel_rfl
theorem laidOut : laidOutB Try.prog = true := by kernel_rfl
set_option maxRecDepth 100000 in
theorem lifted (os : Os) (started : os.Started) (H : Type) (enc : TypeId × Value → H) :
    ReturnsInHanded {} Try.checked os 14 .any (Rows.affixOrderSpec.pre6 enc Try.prog Try.f14 Rows.affixOrderRow.domain false) (Rows.affixOrderSpec.post enc Try.prog Try.f14 false true false false) := by
  refine returnsInHanded_of_change_sized (C := Try.checked) own started (by kernel_rfl) Try.func14
    (ChangeSpec.witness6 (enc := enc) (C := Try.checked) false ⟨#[], #[.string ByteArray.empty, .string ByteArray.empty, .string ByteArray.empty, .slice none 0 0, .int .i64 0, .int .i64 0], []⟩ 8 (by kernel_rfl) (by kernel_rfl) (by kernel_rfl) (by kernel_rfl)) ?_
  intro W base args ds gs before hval0 hW hcnd hsz0 _
  have hsz : (DataW.weightsEach Try.prog (Try.f14.params.toList ++ Rows.affixOrderSpec.plain.varTypes Try.prog) (ds ++ gs)).all (· ≤ reachBytes) = true := hsz0
  have hval : ∀ (j : Nat) t v, Try.f14.params[j]? = some t → args[j]? = some v → Value.okWide Try.prog W .any base t v := hval0
  have hW' := hW
  obtain ⟨p, q, hA0, hV, rfl, hfz, hnd⟩ := hW
  have hA : DataW.TrodAll enc Try.prog W 0 (fun _ => true) true Try.f14.params.toList args.toList ds p := hA0
  rw [Try.params14] at hA hval hsz
  obtain ⟨v0, vs0, d0, ds0, p0, q0, hargs, rfl, rfl, h0, r0⟩ := trodAll_cons hA
  obtain ⟨v1, vs1, d1, ds1, p1, q1, rfl, rfl, rfl, h1, r1⟩ := trodAll_cons r0
  obtain ⟨v2, vs2, d2, ds2, p2, q2, rfl, rfl, rfl, h2, r2⟩ := trodAll_cons r1
  obtain ⟨v3, vs3, d3, ds3, p3, q3, rfl, rfl, rfl, h3, r3⟩ := trodAll_cons r2
  obtain ⟨v4, vs4, d4, ds4, p4, q4, rfl, rfl, rfl, h4, r4⟩ := trodAll_cons r3
  obtain ⟨v5, vs5, d5, ds5, p5, q5, rfl, rfl, rfl, h5, r5⟩ := trodAll_cons r4
  obtain ⟨rfl, rfl, rfl⟩ := trodAll_nil r5
  obtain rfl : args = #[v0, v1, v2, v3, v4, v5] := by cases args; simp_all
  obtain ⟨rfl, rfl⟩ := trodVars_none hV
  obtain ⟨a0, rfl, rfl, rfl, y0⟩ := open_string Try.underlying9 (hval 0 9 v0 rfl rfl) h0
  have w0 : a0.size ≤ 140737488351232 := by
    have z := sized_string hsz (j := 0) (t := 9) rfl rfl
    rw [Array.length_toList] at z
    exact z
  obtain ⟨a1, rfl, rfl, rfl, y1⟩ := open_string Try.underlying9 (hval 1 9 v1 rfl rfl) h1
  have w1 : a1.size ≤ 140737488351232 := by
    have z := sized_string hsz (j := 1) (t := 9) rfl rfl
    rw [Array.length_toList] at z
    exact z
  obtain ⟨a2, rfl, rfl, rfl, y2⟩ := open_string Try.underlying9 (hval 2 9 v2 rfl rfl) h2
  have w2 : a2.size ≤ 140737488351232 := by
    have z := sized_string hsz (j := 2) (t := 9) rfl rfl
    rw [Array.length_toList] at z
    exact z
  obtain ⟨a3, len3, cap3, rfl⟩ := okWide_slice Try.underlying24 (hval 3 24 v3 rfl rfl)
  have k3 := h3
  have lt3 : ∀ x ∈ p3, x.block < W.heap.size := by obtain ⟨m, hm⟩ := k3; exact DataW.trod_lt m _ _ _ hm
  obtain ⟨l3, hn3, hc3, hr3, y3, w3⟩ := RowS.slice_strings hsz (j := 3) (t := 24) rfl rfl Try.underlying24 Try.underlying9 (by kernel_rfl) (by kernel_rfl) h3
  subst hn3
  obtain ⟨a4, rfl, rfl, rfl, w4⟩ := open_int Try.underlying3 (hval 4 3 v4 rfl rfl) h4
  obtain ⟨a5, rfl, rfl, rfl, w5⟩ := open_int Try.underlying3 (hval 5 3 v5 rfl rfl) h5
  clear hA0 hval0 hsz0 hsz
  obtain ⟨k, hk⟩ := Pure.AffixOrder a0 a1 a2 l3 a4 a5 w0 w1 w2 y3 w3 w4 w5
  refine (P.juratlaw09_AffixOrder.calls k a0 a1 a2 a3 cap3 l3 a4 a5 true W hr3 hc3 hk).mono fun e W' ⟨he, bel⟩ => ?_
  subst he
  exact ⟨_, rfl, _, _, _, [], _, [], hW', trodAll_mk1 (shut_bool Try.underlying4 _), (trodAll_cons_mk (shut_string Try.underlying9 y0) (trodAll_cons_mk (shut_string Try.underlying9 y1) (trodAll_cons_mk (shut_string Try.underlying9 y2) (trodAll_cons_mk (Below.trod laidOut (by kernel_rfl) (of_decide_eq_true (by kernel_rfl)) k3 bel lt3) (trodAll_cons_mk (shut_int Try.underlying3 w4) (trodAll_cons_mk (shut_int Try.underlying3 w5) trodAll_mk0)))))), rfl, bel.frame _, fun h => by cases h⟩
theorem over : Rows.affixOrderRow.holds Try.pinned (OpenSpec.ofChange Rows.affixOrderSpec) :=
  OpenClaim.holds_of_wide 14 Try.f14 rfl rfl rfl rfl rfl rfl rfl ⟨rfl, rfl, rfl, rfl, rfl⟩ rfl rfl rfl rfl rfl (by kernel_rfl) Try.func14 (by kernel_rfl)
    (of_decide_eq_true (by kernel_rfl)) (by unfold Func.isWrapper; first | (rw [if_pos (by decide +kernel)]; kernel_rfl) | (rw [if_neg (by decide +kernel)]; exact ⟨rfl, rfl⟩))
    (fun os started H enc _ => lifted os started H enc)
theorem proved : Rows.AffixOrderSaid := over
#print axioms proved
end Go.Proofs.Ytmkcoobmbjoloaa.affixOrder
namespace Go.Proofs.Ytmkcoobmbjoloaa
/-- The row, under a short name, for the claim. -/
theorem affixOrder_holds : Rows.AffixOrderSaid := affixOrder.proved
end Go.Proofs.Ytmkcoobmbjoloaa
