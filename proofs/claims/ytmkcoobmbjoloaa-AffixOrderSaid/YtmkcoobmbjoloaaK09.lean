/- What layer 9 and its reference compute beside sorting, as plain functions on lists of bytes; no condition beyond the sizes that stand in each statement. -/
import Derived.Test.YtmkcoobmbjoloaaM09
import Derived.Test.YtmkcoobmbjoloaaPx75
import Derived.Test.YtmkcoobmbjoloaaPx76
import Derived.Test.YtmkcoobmbjoloaaPx77
import Derived.Test.YtmkcoobmbjoloaaPx71
import Derived.Test.YtmkcoobmbjoloaaPx73
import Derived.Test.YtmkcoobmbjoloaaPx74
import Derived.Test.YtmkcoobmbjoloaaPx78
import Derived.Test.YtmkcoobmbjoloaaPx81
import Derived.Test.YtmkcoobmbjoloaaPx84
namespace Go.Proofs.Ytmkcoobmbjoloaa.Base
open Go Go.RowKit Go.Proofs.YtmkcoobmbjoloaaW.PrintWords Go.Proofs.YtmkcoobmbjoloaaW.PrintMore Go.Proofs.Ytmkcoobmbjoloaa.P
set_option linter.unusedVariables false

/-! alike at the beginning, at the end -/
theorem rprefix_l0 (a b : ByteArray) (ha : a.size < 4611686018427387904) : ∀ (d i : Nat), i + d = min a.size b.size →
    Ev (fun k => juratref09_Prefix.l0 k a b (i : Int)) (((i + pre ((LL a).drop i) ((LL b).drop i) : Nat)) : Int) := by
  intro d
  induction d with
  | zero =>
    intro i hi
    refine Ev.ret fun k => ?_
    have : pre ((LL a).drop i) ((LL b).drop i) = 0 := by
      have h := pre_le ((LL a).drop i) ((LL b).drop i)
      rw [List.length_drop, List.length_drop, LL_length, LL_length] at h
      omega
    rw [this]
    simp only [juratref09_Prefix.l0]
    by_cases h : i < a.size
    · rw [if_pos (by omega), if_neg (by omega)]; rfl
    · rw [if_neg (by omega)]; rfl
  | succ d ih =>
    intro i hi
    have h1 : i < (LL a).length := by rw [LL_length]; omega
    have h2 : i < (LL b).length := by rw [LL_length]; omega
    rw [getD_drop (LL a) i 0 h1, getD_drop (LL b) i 0 h2]
    by_cases h : bt a i = bt b i
    · have h' : (LL a).getD i 0 = (LL b).getD i 0 := by
        rw [bt_eq, bt_eq, Int.toNat_natCast] at h
        exact UInt8.toNat_inj.1 (by omega)
      refine Ev.step (f := fun k => juratref09_Prefix.l0 k a b ((i + 1 : Nat) : Int)) (fun k => ?_) ?_
      · simp only [juratref09_Prefix.l0]
        rw [if_pos (by omega), if_pos (by omega), if_pos (by omega), if_pos h, wrap_id (by omega) (by omega)]
        rfl
      · have := ih (i + 1) (by omega)
        simp only [pre, if_pos h']
        rw [show i + (pre ((LL a).drop (i + 1)) ((LL b).drop (i + 1)) + 1) = i + 1 + pre ((LL a).drop (i + 1)) ((LL b).drop (i + 1)) by omega]
        exact this
    · have h' : ¬ (LL a).getD i 0 = (LL b).getD i 0 := fun e => h (by rw [bt_eq, bt_eq, Int.toNat_natCast, e])
      refine Ev.ret fun k => ?_
      simp only [juratref09_Prefix.l0]
      rw [if_pos (by omega), if_pos (by omega), if_pos (by omega), if_neg h]
      simp only [pre, if_neg h']
      rfl
theorem rprefix_ev (a b : ByteArray) (ha : a.size < 4611686018427387904) : Ev (fun k => juratref09_Prefix.f k a b) (pre (LL a) (LL b) : Int) := by
  have h := rprefix_l0 a b ha (min a.size b.size) 0 (by omega)
  rw [List.drop_zero, List.drop_zero, Nat.zero_add] at h
  exact h

theorem bt_rev {a : ByteArray} {i : Nat} (hi : i < a.size) : bt a ((a.size : Int) - 1 - (i : Int)) = (((LL a).reverse.getD i 0).toNat : Int) := by
  rw [bt_eq, show ((a.size : Int) - 1 - (i : Int)).toNat = a.size - 1 - i by omega]
  have h1 : i < (LL a).length := by rw [LL_length]; exact hi
  rw [List.getD_eq_getElem?_getD, List.getD_eq_getElem?_getD, List.getElem?_reverse h1, LL_length]
def suf (a b : ByteArray) : Nat := pre (LL a).reverse (LL b).reverse
theorem LL_rev_length (s : ByteArray) : (LL s).reverse.length = s.size := by rw [List.length_reverse, LL_length]
theorem suffix_l0 (a b : ByteArray) (ha : a.size < 4611686018427387904) (hb : b.size < 4611686018427387904) (n : Int) (hn : n = (min a.size b.size : Nat)) : ∀ (d i : Nat), i + d = min a.size b.size →
    Ev (fun k => affix_Suffix.l0 k a b n n (i : Int)) (((i + pre ((LL a).reverse.drop i) ((LL b).reverse.drop i) : Nat)) : Int) := by
  intro d
  induction d with
  | zero =>
    intro i hi
    refine Ev.ret fun k => ?_
    simp only [affix_Suffix.l0]
    rw [if_neg (by omega)]
    have : pre ((LL a).reverse.drop i) ((LL b).reverse.drop i) = 0 := by
      have h := pre_le ((LL a).reverse.drop i) ((LL b).reverse.drop i)
      rw [List.length_drop, List.length_drop, LL_rev_length, LL_rev_length] at h
      omega
    rw [this]
    congr 1
    omega
  | succ d ih =>
    intro i hi
    have h1 : i < (LL a).reverse.length := by rw [LL_rev_length]; omega
    have h2 : i < (LL b).reverse.length := by rw [LL_rev_length]; omega
    rw [getD_drop (LL a).reverse i 0 h1, getD_drop (LL b).reverse i 0 h2]
    have b1 := bt_rev (a := a) (i := i) (by omega)
    have b2 := bt_rev (a := b) (i := i) (by omega)
    by_cases h : (LL a).reverse.getD i 0 = (LL b).reverse.getD i 0
    · refine Ev.step (f := fun k => affix_Suffix.l0 k a b n n ((i + 1 : Nat) : Int)) (fun k => ?_) ?_
      · simp only [affix_Suffix.l0]
        rw [wrap_id (x := (a.size : Int) - 1) (by omega) (by omega), wrap_id (x := (b.size : Int) - 1) (by omega) (by omega), wrap_id (x := (a.size : Int) - 1 - (i : Int)) (by omega) (by omega), wrap_id (x := (b.size : Int) - 1 - (i : Int)) (by omega) (by omega), b1, b2]
        rw [if_pos (by omega), if_pos (by omega), if_pos (by omega), if_pos (by omega), if_pos (by omega), if_pos (by rw [h]), wrap_id (by omega) (by omega)]
        rfl
      · have := ih (i + 1) (by omega)
        simp only [pre, if_pos h]
        rw [show i + (pre ((LL a).reverse.drop (i + 1)) ((LL b).reverse.drop (i + 1)) + 1) = i + 1 + pre ((LL a).reverse.drop (i + 1)) ((LL b).reverse.drop (i + 1)) by omega]
        exact this
    · refine Ev.ret fun k => ?_
      simp only [affix_Suffix.l0]
      rw [wrap_id (x := (a.size : Int) - 1) (by omega) (by omega), wrap_id (x := (b.size : Int) - 1) (by omega) (by omega), wrap_id (x := (a.size : Int) - 1 - (i : Int)) (by omega) (by omega), wrap_id (x := (b.size : Int) - 1 - (i : Int)) (by omega) (by omega), b1, b2]
      rw [if_pos (by omega), if_pos (by omega), if_pos (by omega), if_pos (by omega), if_pos (by omega), if_neg (fun e => h (UInt8.toNat_inj.1 (by omega)))]
      simp only [pre, if_neg h]
      rfl
theorem suffix_ev (a b : ByteArray) (ha : a.size < 4611686018427387904) (hb : b.size < 4611686018427387904) : Ev (fun k => affix_Suffix.f k a b) (suf a b : Int) := by
  have h := suffix_l0 a b ha hb _ (mn_eq a.size b.size) (min a.size b.size) 0 (by omega)
  rw [List.drop_zero, List.drop_zero, Nat.zero_add] at h
  exact h
theorem rsuffix_l0 (a b : ByteArray) (ha : a.size < 4611686018427387904) (hb : b.size < 4611686018427387904) : ∀ (d i : Nat), i + d = min a.size b.size →
    Ev (fun k => juratref09_Suffix.l0 k a b (i : Int)) (((i + pre ((LL a).reverse.drop i) ((LL b).reverse.drop i) : Nat)) : Int) := by
  intro d
  induction d with
  | zero =>
    intro i hi
    refine Ev.ret fun k => ?_
    have : pre ((LL a).reverse.drop i) ((LL b).reverse.drop i) = 0 := by
      have h := pre_le ((LL a).reverse.drop i) ((LL b).reverse.drop i)
      rw [List.length_drop, List.length_drop, LL_rev_length, LL_rev_length] at h
      omega
    rw [this]
    simp only [juratref09_Suffix.l0]
    by_cases h : i < a.size
    · rw [if_pos (by omega), if_neg (by omega)]; rfl
    · rw [if_neg (by omega)]; rfl
  | succ d ih =>
    intro i hi
    have h1 : i < (LL a).reverse.length := by rw [LL_rev_length]; omega
    have h2 : i < (LL b).reverse.length := by rw [LL_rev_length]; omega
    rw [getD_drop (LL a).reverse i 0 h1, getD_drop (LL b).reverse i 0 h2]
    have b1 := bt_rev (a := a) (i := i) (by omega)
    have b2 := bt_rev (a := b) (i := i) (by omega)
    by_cases h : (LL a).reverse.getD i 0 = (LL b).reverse.getD i 0
    · refine Ev.step (f := fun k => juratref09_Suffix.l0 k a b ((i + 1 : Nat) : Int)) (fun k => ?_) ?_
      · simp only [juratref09_Suffix.l0]
        rw [wrap_id (x := (a.size : Int) - 1) (by omega) (by omega), wrap_id (x := (b.size : Int) - 1) (by omega) (by omega), wrap_id (x := (a.size : Int) - 1 - (i : Int)) (by omega) (by omega), wrap_id (x := (b.size : Int) - 1 - (i : Int)) (by omega) (by omega), b1, b2]
        rw [if_pos (by omega), if_pos (by omega), if_pos (by omega), if_pos (by omega), if_pos (by omega), if_pos (by omega), if_pos (by rw [h]), wrap_id (by omega) (by omega)]
        rfl
      · have := ih (i + 1) (by omega)
        simp only [pre, if_pos h]
        rw [show i + (pre ((LL a).reverse.drop (i + 1)) ((LL b).reverse.drop (i + 1)) + 1) = i + 1 + pre ((LL a).reverse.drop (i + 1)) ((LL b).reverse.drop (i + 1)) by omega]
        exact this
    · refine Ev.ret fun k => ?_
      simp only [juratref09_Suffix.l0]
      rw [wrap_id (x := (a.size : Int) - 1) (by omega) (by omega), wrap_id (x := (b.size : Int) - 1) (by omega) (by omega), wrap_id (x := (a.size : Int) - 1 - (i : Int)) (by omega) (by omega), wrap_id (x := (b.size : Int) - 1 - (i : Int)) (by omega) (by omega), b1, b2]
      rw [if_pos (by omega), if_pos (by omega), if_pos (by omega), if_pos (by omega), if_pos (by omega), if_pos (by omega), if_neg (fun e => h (UInt8.toNat_inj.1 (by omega)))]
      simp only [pre, if_neg h]
      rfl
theorem rsuffix_ev (a b : ByteArray) (ha : a.size < 4611686018427387904) (hb : b.size < 4611686018427387904) : Ev (fun k => juratref09_Suffix.f k a b) (suf a b : Int) := by
  have h := rsuffix_l0 a b ha hb (min a.size b.size) 0 (by omega)
  rw [List.drop_zero, List.drop_zero, Nat.zero_add] at h
  exact h
theorem begins_ev (a b : ByteArray) (ha : a.size < 4611686018427387904) : Ev (fun k => affix_Begins.f k a b) ((pre (LL a) (LL b) : Int) == (b.size : Int)) := by
  unfold affix_Begins.f
  exact Ev.bind (prefix_ev a b ha) (Ev.now _)
theorem ends_ev (a b : ByteArray) (ha : a.size < 4611686018427387904) (hb : b.size < 4611686018427387904) : Ev (fun k => affix_Ends.f k a b) ((suf a b : Int) == (b.size : Int)) := by
  unfold affix_Ends.f
  exact Ev.bind (suffix_ev a b ha hb) (Ev.now _)
theorem rcompare (a b : ByteArray) : juratref09_Compare.f a b = some (cmp3 (LL a) (LL b)) := by
  unfold juratref09_Compare.f cmp3
  rw [ByteArray.toList_eq, ByteArray.toList_eq]
  by_cases h : LL a = LL b
  · rw [if_pos h, if_pos h]
  · rw [if_neg h, if_neg h]
    by_cases h' : Op.bytesLess (LL a) (LL b) = true
    · rw [if_pos h', if_pos h']
    · rw [if_neg h', if_neg h']

/-! where a text stands -/
theorem place_l0 (l : List ByteArray) (s : ByteArray) (hm : l.length ≤ 9223372036854775806) : ∀ (d i n : Nat) (b : Bool), i + d = l.length → n ≤ i →
    Ev (fun k => juratref09_Place.l0 k l s (n : Int) b (i : Int)) ((n + aheadB s (l.drop i) : Nat), b || inB s (l.drop i)) := by
  intro d
  induction d with
  | zero =>
    intro i n b hi hn
    refine Ev.ret fun k => ?_
    simp only [juratref09_Place.l0]
    rw [if_neg (by omega), List.drop_of_length_le (by omega)]
    simp [aheadB, inB]
  | succ d ih =>
    intro i n b hi hn
    have hd := getD_drop l i ByteArray.empty (by omega)
    have e : rdOf ByteArray.empty l (i : Int) = l.getD i ByteArray.empty := rfl
    have ein : inB s (l.drop i) = (decide (l.getD i ByteArray.empty = s) || inB s (l.drop (i + 1))) := by rw [hd]; rfl
    have eb : ((l.getD i ByteArray.empty).toList == s.toList) = decide (l.getD i ByteArray.empty = s) := by
      rw [Bool.eq_iff_iff, beq_iff_eq, decide_eq_true_iff]; exact toList_iff
    by_cases h : Op.bytesLess (LL (l.getD i ByteArray.empty)) (LL s) = true
    · have ea : aheadB s (l.drop i) = aheadB s (l.drop (i + 1)) + 1 := by unfold aheadB; rw [hd, List.countP_cons_of_pos (p := fun x => Op.bytesLess (LL x) (LL s)) h]
      refine Ev.step (f := fun k => juratref09_Place.l0 k l s ((n + 1 : Nat) : Int) (b || decide (l.getD i ByteArray.empty = s)) ((i + 1 : Nat) : Int)) (fun k => ?_) ?_
      · simp only [juratref09_Place.l0]
        rw [if_pos (by omega), if_pos (by omega), e, eb, if_pos (by rw [ByteArray.toList_eq, ByteArray.toList_eq]; exact h), wrap_id (by omega) (by omega), wrap_id (by omega) (by omega)]
        cases b with
        | true => rw [if_pos rfl]; rfl
        | false => rw [if_neg (by simp)]; rfl
      · rw [ea, ein, ← Bool.or_assoc, show n + (aheadB s (l.drop (i + 1)) + 1) = n + 1 + aheadB s (l.drop (i + 1)) by omega]
        exact ih (i + 1) (n + 1) _ (by omega) (by omega)
    · have ea : aheadB s (l.drop i) = aheadB s (l.drop (i + 1)) := by unfold aheadB; rw [hd, List.countP_cons_of_neg (p := fun x => Op.bytesLess (LL x) (LL s)) h]
      refine Ev.step (f := fun k => juratref09_Place.l0 k l s (n : Int) (b || decide (l.getD i ByteArray.empty = s)) ((i + 1 : Nat) : Int)) (fun k => ?_) ?_
      · simp only [juratref09_Place.l0]
        rw [if_pos (by omega), if_pos (by omega), e, eb, if_neg (by rw [ByteArray.toList_eq, ByteArray.toList_eq]; exact h), wrap_id (by omega) (by omega)]
        cases b with
        | true => rw [if_pos rfl]; rfl
        | false => rw [if_neg (by simp)]; rfl
      · rw [ea, ein, ← Bool.or_assoc]
        exact ih (i + 1) n _ (by omega) (by omega)
theorem rplace_ev (l : List ByteArray) (s : ByteArray) (hm : l.length ≤ 9223372036854775806) : Ev (fun k => juratref09_Place.f k l s) ((aheadB s l : Int), inB s l) := by
  have h := place_l0 l s hm l.length 0 0 false (by omega) (Nat.le_refl _)
  rw [List.drop_zero, Nat.zero_add, Bool.false_or] at h
  exact h

/-! what neighbours share -/
def sharedL (l : List ByteArray) : List Int := (List.range l.length).map fun i => if i = 0 then 0 else (pre (LL (l.getD (i - 1) ByteArray.empty)) (LL (l.getD i ByteArray.empty)) : Int)
theorem sharedL_length (l : List ByteArray) : (sharedL l).length = l.length := by unfold sharedL; simp
theorem sharedL_getD (l : List ByteArray) (i : Nat) (h : i < l.length) : (sharedL l).getD i 0 = if i = 0 then 0 else (pre (LL (l.getD (i - 1) ByteArray.empty)) (LL (l.getD i ByteArray.empty)) : Int) := by
  unfold sharedL
  rw [List.getD_eq_getElem?_getD, List.getElem?_map, List.getElem?_range h]
  rfl
theorem rshared_l0 (l : List ByteArray) (hs : sizedB l) : ∀ (d i : Nat), i + d = l.length →
    Ev (fun k => juratref09_Shared.l0 k l ((sharedL l).take i) (i : Int)) (sharedL l) := by
  have hl := hs.1
  intro d
  induction d with
  | zero =>
    intro i hi
    refine Ev.ret fun k => ?_
    simp only [juratref09_Shared.l0]
    rw [if_neg (by omega), List.take_of_length_le (by rw [sharedL_length]; omega)]
  | succ d ih =>
    intro i hi
    have ht := take_snoc (sharedL l) i 0 (by rw [sharedL_length]; omega)
    rw [sharedL_getD l i (by omega)] at ht
    have ih' := ih (i + 1) (by omega)
    rw [ht] at ih'
    by_cases h : i = 0
    · subst h
      rw [if_pos rfl] at ih'
      refine Ev.step (f := fun k => juratref09_Shared.l0 k l ((sharedL l).take 0 ++ [0]) ((0 + 1 : Nat) : Int)) (fun k => ?_) ih'
      simp only [juratref09_Shared.l0]
      rw [if_pos (by omega), if_pos (by omega), if_pos (by rw [List.length_take]; omega), wrap_id (by omega) (by omega)]
      rfl
    · rw [if_neg h] at ih'
      have hp := rprefix_ev (l.getD (i - 1) ByteArray.empty) (l.getD i ByteArray.empty) (hs.2 _ (getD_mem l _ _ (by omega)))
      refine Ev.step (f := fun k => (juratref09_Prefix.f k (l.getD (i - 1) ByteArray.empty) (l.getD i ByteArray.empty)).bind fun p => juratref09_Shared.l0 k l ((sharedL l).take i ++ [p]) ((i + 1 : Nat) : Int)) (fun k => ?_) (Ev.bind hp ih')
      simp only [juratref09_Shared.l0]
      rw [if_pos (by omega), if_neg (by omega), wrap_id (x := (i : Int) - 1) (by omega) (by omega), if_pos (by omega), if_pos (by omega), if_pos (by omega), wrap_id (by omega) (by omega)]
      have e1 : rdOf ByteArray.empty l ((i : Int) - 1) = l.getD (i - 1) ByteArray.empty := by unfold rdOf; rw [show ((i : Int) - 1).toNat = i - 1 by omega]
      have e2 : rdOf ByteArray.empty l (i : Int) = l.getD i ByteArray.empty := rfl
      rw [e1, e2]
      congr 1
      funext p
      rw [if_pos (by rw [List.length_take]; omega)]
      rfl
theorem rshared_ev (l : List ByteArray) (hs : sizedB l) : Ev (fun k => juratref09_Shared.f k l) (sharedL l) := by
  have h := rshared_l0 l hs l.length 0 (by omega)
  rw [List.take_zero] at h
  exact h
theorem shared_l0 (l : List ByteArray) (hs : sizedB l) : ∀ (d i : Nat), i + d = l.length →
    Ev (fun k => affix_Shared.l0 k l ((sharedL l).take i ++ List.replicate d 0) (l.length : Int) (i : Int)) (sharedL l) := by
  have hl := hs.1
  intro d
  induction d with
  | zero =>
    intro i hi
    refine Ev.ret fun k => ?_
    simp only [affix_Shared.l0]
    rw [if_neg (by omega), List.take_of_length_le (by rw [sharedL_length]; omega)]
    simp
  | succ d ih =>
    intro i hi
    have ht := take_snoc (sharedL l) i 0 (by rw [sharedL_length]; omega)
    have hlen : ((sharedL l).take i).length = i := by rw [List.length_take, sharedL_length]; omega
    have hset : ∀ v : Int, ((sharedL l).take i ++ List.replicate (d + 1) 0).set i v = (sharedL l).take i ++ [v] ++ List.replicate d 0 := fun v => by
      rw [List.set_append_right _ _ (by omega), hlen, Nat.sub_self, List.replicate_succ, List.set_cons_zero, List.append_assoc]; rfl
    rw [sharedL_getD l i (by omega)] at ht
    have ih' := ih (i + 1) (by omega)
    rw [ht] at ih'
    by_cases h : i = 0
    · subst h
      rw [if_pos rfl] at ih'
      refine Ev.step (f := fun k => affix_Shared.l0 k l ((sharedL l).take 0 ++ [0] ++ List.replicate d 0) (l.length : Int) ((0 + 1 : Nat) : Int)) (fun k => ?_) ih'
      simp only [affix_Shared.l0]
      rw [if_pos (by omega), if_neg (by omega), wrap_id (by omega) (by omega), List.take_zero, List.replicate_succ]
      rfl
    · rw [if_neg h] at ih'
      have hp := prefix_ev (l.getD (i - 1) ByteArray.empty) (l.getD i ByteArray.empty) (hs.2 _ (getD_mem l _ _ (by omega)))
      refine Ev.step (f := fun k => (affix_Prefix.f k (l.getD (i - 1) ByteArray.empty) (l.getD i ByteArray.empty)).bind fun p => affix_Shared.l0 k l ((sharedL l).take i ++ [p] ++ List.replicate d 0) (l.length : Int) ((i + 1 : Nat) : Int)) (fun k => ?_) (Ev.bind hp ih')
      simp only [affix_Shared.l0]
      rw [if_pos (by omega), if_pos (by omega), wrap_id (x := (i : Int) - 1) (by omega) (by omega), if_pos (by omega), if_pos (by omega), if_pos (by omega), if_pos (by omega), wrap_id (by omega) (by omega)]
      have e1 : rdOf ByteArray.empty l ((i : Int) - 1) = l.getD (i - 1) ByteArray.empty := by unfold rdOf; rw [show ((i : Int) - 1).toNat = i - 1 by omega]
      have e2 : rdOf ByteArray.empty l (i : Int) = l.getD i ByteArray.empty := rfl
      rw [e1, e2]
      congr 1
      funext p
      rw [if_pos (by rw [List.length_append, hlen, List.length_replicate]; omega), Int.toNat_natCast, hset]
      rfl
theorem shared_ev (l : List ByteArray) (hs : sizedB l) : Ev (fun k => affix_Shared.f k l) (sharedL l) := by
  have hl := hs.1
  have h := shared_l0 l hs l.length 0 (by omega)
  rw [List.take_zero, List.nil_append] at h
  refine Ev.congr (fun k => ?_) h
  unfold affix_Shared.f
  rw [if_pos (by omega), if_pos (by rw [Int.toNat_natCast]; omega), Int.toNat_natCast]
  rfl

end Go.Proofs.Ytmkcoobmbjoloaa.Base
