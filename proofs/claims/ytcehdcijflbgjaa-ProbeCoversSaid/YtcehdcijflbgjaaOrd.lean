/- The order of byte strings, with how many bytes two of them begin alike, and that the compare function of layer 9 is it; no condition beyond the sizes that stand in each statement. -/
import Derived.Test.YtcehdcijflbgjaaBase
import Derived.Test.YtcehdcijflbgjaaPx47
namespace Go.Proofs.Ytcehdcijflbgjaa.Base
open Go Go.RowKit Go.Proofs.YtcehdcijflbgjaaW.PrintWords Go.Proofs.YtcehdcijflbgjaaW.PrintMore Go.Proofs.Ytcehdcijflbgjaa.P

/-! the order -/
theorem bl_irrefl : ∀ x : List UInt8, Op.bytesLess x x = false
  | [] => rfl
  | a :: x => by simp [Op.bytesLess, bl_irrefl x, UInt8.lt_irrefl]
theorem bl_trans : ∀ x y z : List UInt8, Op.bytesLess x y = true → Op.bytesLess y z = true → Op.bytesLess x z = true
  | [], y, [], h1, h2 => by cases y <;> simp [Op.bytesLess] at h1 h2
  | [], _, _ :: _, _, _ => rfl
  | _ :: _, [], _, h1, _ => by simp [Op.bytesLess] at h1
  | _ :: _, _ :: _, [], _, h2 => by simp [Op.bytesLess] at h2
  | a :: x, b :: y, c :: z, h1, h2 => by
    simp only [Op.bytesLess, Bool.or_eq_true, Bool.and_eq_true, decide_eq_true_eq, beq_iff_eq] at h1 h2 ⊢
    rcases h1 with h1 | ⟨rfl, h1⟩
    · rcases h2 with h2 | ⟨rfl, h2⟩
      · exact .inl (UInt8.lt_trans h1 h2)
      · exact .inl h1
    · rcases h2 with h2 | ⟨rfl, h2⟩
      · exact .inl h2
      · exact .inr ⟨rfl, bl_trans x y z h1 h2⟩
theorem bl_tri : ∀ x y : List UInt8, x = y ∨ Op.bytesLess x y = true ∨ Op.bytesLess y x = true
  | [], [] => .inl rfl
  | [], _ :: _ => .inr (.inl rfl)
  | _ :: _, [] => .inr (.inr rfl)
  | a :: x, b :: y => by
    simp only [Op.bytesLess, Bool.or_eq_true, Bool.and_eq_true, decide_eq_true_eq, beq_iff_eq]
    rcases Nat.lt_trichotomy a.toNat b.toNat with h | h | h
    · exact .inr (.inl (.inl (UInt8.lt_iff_toNat_lt.2 h)))
    · obtain rfl := UInt8.toNat_inj.1 h
      rcases bl_tri x y with rfl | h | h
      · exact .inl rfl
      · exact .inr (.inl (.inr ⟨rfl, h⟩))
      · exact .inr (.inr (.inr ⟨rfl, h⟩))
    · exact .inr (.inr (.inl (UInt8.lt_iff_toNat_lt.2 h)))
theorem bl_asym {x y : List UInt8} (h : Op.bytesLess x y = true) : Op.bytesLess y x = false := by
  cases h' : Op.bytesLess y x with
  | false => rfl
  | true => have := bl_trans _ _ _ h h'; rw [bl_irrefl] at this; cases this
theorem bl_ne {x y : List UInt8} (h : Op.bytesLess x y = true) : x ≠ y := by rintro rfl; rw [bl_irrefl] at h; cases h
theorem bl_ntrans {x y z : List UInt8} (h1 : Op.bytesLess x y = false) (h2 : Op.bytesLess y z = false) : Op.bytesLess x z = false := by
  cases h : Op.bytesLess x z with
  | false => rfl
  | true =>
    rcases bl_tri x y with rfl | h' | h'
    · rw [h2] at h; cases h
    · rw [h1] at h'; cases h'
    · rw [bl_trans _ _ _ h' h] at h2; cases h2

/-- Which of two comes first. -/
def cmp3 (x y : List UInt8) : Int := if x = y then 0 else if Op.bytesLess x y = true then -1 else 1
theorem cmp3_lt (x y : List UInt8) : decide (cmp3 x y < 0) = Op.bytesLess x y := by
  unfold cmp3
  by_cases h : x = y
  · subst h; rw [if_pos rfl, bl_irrefl]; rfl
  · rw [if_neg h]
    cases h' : Op.bytesLess x y <;> simp
theorem cmp3_zero (x y : List UInt8) : cmp3 x y = 0 ↔ x = y := by
  unfold cmp3
  by_cases h : x = y
  · simp [h]
  · rw [if_neg h]; simp only [h, iff_false]; split <;> omega

/-! alike at the beginning -/
def pre : List UInt8 → List UInt8 → Nat
  | a :: x, b :: y => if a = b then pre x y + 1 else 0
  | _, _ => 0
theorem pre_le : ∀ x y : List UInt8, pre x y ≤ x.length ∧ pre x y ≤ y.length
  | [], y => by simp [pre]
  | _ :: _, [] => by simp [pre]
  | a :: x, b :: y => by
    have := pre_le x y
    simp only [pre, List.length_cons]
    split <;> omega
theorem cmp3_pre : ∀ x y : List UInt8, cmp3 x y =
    if pre x y = x.length ∧ pre x y = y.length then 0
    else if pre x y = x.length then -1 else if pre x y < y.length then (if (x.getD (pre x y) 0).toNat < (y.getD (pre x y) 0).toNat then -1 else 1) else 1
  | [], [] => by simp [cmp3, pre]
  | [], _ :: _ => by simp [cmp3, pre, Op.bytesLess]
  | _ :: _, [] => by simp [cmp3, pre, Op.bytesLess]
  | a :: x, b :: y => by
    have ih := cmp3_pre x y
    by_cases h : a = b
    · subst h
      have e : cmp3 (a :: x) (a :: y) = cmp3 x y := by
        unfold cmp3
        simp [Op.bytesLess, UInt8.lt_irrefl]
      rw [e, ih]
      simp only [pre, if_true, List.length_cons, Nat.add_right_cancel_iff, Nat.add_lt_add_iff_right, List.getD_cons_succ]
    · simp only [pre, if_neg h, List.length_cons]
      rw [if_neg (by omega), if_neg (by omega), if_pos (by omega), List.getD_cons_zero, List.getD_cons_zero]
      unfold cmp3
      rw [if_neg (fun e => h (List.cons.inj e).1)]
      simp only [Op.bytesLess, Bool.or_eq_true, Bool.and_eq_true, decide_eq_true_eq, beq_iff_eq, h, false_and, or_false, UInt8.lt_iff_toNat_lt]

theorem prefix_l0 (a b : ByteArray) (ha : a.size < 4611686018427387904) (n : Int) (hn : n = (min a.size b.size : Nat)) : ∀ (d i : Nat), i + d = min a.size b.size →
    Ev (fun k => affix_Prefix.l0 k a b n n (i : Int)) (((i + pre ((LL a).drop i) ((LL b).drop i) : Nat)) : Int) := by
  intro d
  induction d with
  | zero =>
    intro i hi
    refine Ev.ret fun k => ?_
    simp only [affix_Prefix.l0]
    rw [if_neg (by omega)]
    have : pre ((LL a).drop i) ((LL b).drop i) = 0 := by
      have h := pre_le ((LL a).drop i) ((LL b).drop i)
      rw [List.length_drop, List.length_drop, LL_length, LL_length] at h
      omega
    rw [this]
    congr 1
    omega
  | succ d ih =>
    intro i hi
    have h1 : i < (LL a).length := by rw [LL_length]; omega
    have h2 : i < (LL b).length := by rw [LL_length]; omega
    rw [getD_drop (LL a) i 0 h1, getD_drop (LL b) i 0 h2]
    by_cases h : bt a i = bt b i
    · have h' : (LL a).getD i 0 = (LL b).getD i 0 := by
        rw [bt_eq, bt_eq, Int.toNat_natCast] at h
        exact UInt8.toNat_inj.1 (by omega)
      refine Ev.step (f := fun k => affix_Prefix.l0 k a b n n ((i + 1 : Nat) : Int)) (fun k => ?_) ?_
      · simp only [affix_Prefix.l0]
        rw [if_pos (by omega), if_pos (by omega), if_pos (by omega), if_pos (by omega), if_pos h, wrap_id (by omega) (by omega)]
        rfl
      · have := ih (i + 1) (by omega)
        simp only [pre, if_pos h']
        rw [show i + (pre ((LL a).drop (i + 1)) ((LL b).drop (i + 1)) + 1) = i + 1 + pre ((LL a).drop (i + 1)) ((LL b).drop (i + 1)) by omega]
        exact this
    · have h' : ¬ (LL a).getD i 0 = (LL b).getD i 0 := fun e => h (by rw [bt_eq, bt_eq, Int.toNat_natCast, e])
      refine Ev.ret fun k => ?_
      simp only [affix_Prefix.l0]
      rw [if_pos (by omega), if_pos (by omega), if_pos (by omega), if_pos (by omega), if_neg h]
      simp only [pre, if_neg h']
      rfl
theorem mn_eq (a b : Nat) : mn (a : Int) (b : Int) = (min a b : Nat) := by unfold mn; split <;> omega
theorem prefix_ev (a b : ByteArray) (ha : a.size < 4611686018427387904) : Ev (fun k => affix_Prefix.f k a b) (pre (LL a) (LL b) : Int) := by
  have h := prefix_l0 a b ha _ (mn_eq a.size b.size) (min a.size b.size) 0 (by omega)
  rw [List.drop_zero, List.drop_zero, Nat.zero_add] at h
  exact h
theorem compare_ev (a b : ByteArray) (ha : a.size < 4611686018427387904) : Ev (fun k => affix_Compare.f k a b) (cmp3 (LL a) (LL b)) := by
  unfold affix_Compare.f
  refine Ev.bind (prefix_ev a b ha) ?_
  obtain ⟨hl, hr⟩ := pre_le (LL a) (LL b)
  rw [cmp3_pre]
  rw [LL_length] at hl hr ⊢
  rw [LL_length]
  generalize pre (LL a) (LL b) = p at hl hr ⊢
  by_cases h1 : p = a.size
  · refine Ev.congr (fun k => if_pos (by omega)) ?_
    refine Ev.ret fun k => ?_
    simp only [affix_Compare.j0]
    by_cases h2 : p = b.size
    · rw [if_pos (by rw [beq_iff_eq]; omega), if_pos ⟨h1, h2⟩]
    · rw [if_neg (by rw [beq_iff_eq]; omega), if_pos (by omega), if_neg (by omega), if_pos h1]
  · refine Ev.congr (fun k => if_neg (by omega)) ?_
    refine Ev.ret fun k => ?_
    simp only [affix_Compare.j0]
    rw [if_neg (by simp), if_neg (by omega)]
    by_cases h2 : p < b.size
    · rw [if_pos (by omega), if_pos (by omega), if_pos (by omega), bt_eq, bt_eq, Int.toNat_natCast]
      by_cases h3 : ((LL a).getD p 0).toNat < ((LL b).getD p 0).toNat
      · rw [if_pos (by omega), if_neg (by omega), if_neg h1, if_pos h2, if_pos h3]
      · rw [if_neg (by omega), if_neg (by omega), if_neg h1, if_pos h2, if_neg h3]
    · rw [if_neg (by omega), if_neg (by omega), if_neg h1, if_neg h2]

end Go.Proofs.Ytcehdcijflbgjaa.Base
