/- What layer 9's reference computes by sorting and looking for what is there twice, as plain functions on lists of texts; no condition beyond the sizes that stand in each statement. -/
import Derived.Test.YtpgmpdanplmpfaaM09
import Derived.Test.YtpgmpdanplmpfaaPx20
import Derived.Test.YtpgmpdanplmpfaaPx19
namespace Go.Proofs.Ytpgmpdanplmpfaa.Base
open Go Go.RowKit Go.Proofs.YtpgmpdanplmpfaaW.PrintWords Go.Proofs.YtpgmpdanplmpfaaW.PrintMore Go.Proofs.Ytpgmpdanplmpfaa.P
set_option linter.unusedVariables false

/-! sorted by insertion -/
theorem rsorted_put (l out : List ByteArray) (i j : Nat) (hi : i < l.length) (hl : l.length ≤ 8796093022200) (ho : out.length = i) (hj : j ≤ out.length) (hup : upB out)
    (hbelow : ∀ t, t < j → Op.bytesLess (LL (l.getD i ByteArray.empty)) (LL (out.getD t ByteArray.empty)) = false) (habove : ∀ t, j ≤ t → t < out.length → Op.bytesLess (LL (l.getD i ByteArray.empty)) (LL (out.getD t ByteArray.empty)) = true) :
    upB (out.take j ++ l.getD i ByteArray.empty :: out.drop j) ∧ (out.take j ++ l.getD i ByteArray.empty :: out.drop j).Perm (l.getD i ByteArray.empty :: out) := by
  refine ⟨?_, ?_⟩
  · have h1 : ∀ x ∈ out.take j, Op.bytesLess (LL (l.getD i ByteArray.empty)) (LL x) = false := fun x hx => by
      obtain ⟨t, ht, rfl⟩ := List.mem_iff_getElem.1 hx
      rw [List.length_take] at ht
      have := hbelow t (by omega)
      rw [List.getD_eq_getElem?_getD (l := out), List.getElem?_eq_getElem (by omega : t < out.length)] at this
      rw [List.getElem_take]
      exact this
    have h2 : ∀ x ∈ out.drop j, Op.bytesLess (LL (l.getD i ByteArray.empty)) (LL x) = true := fun x hx => by
      obtain ⟨t, ht, rfl⟩ := List.mem_iff_getElem.1 hx
      rw [List.length_drop] at ht
      have := habove (j + t) (by omega) (by omega)
      rw [List.getD_eq_getElem?_getD (l := out), List.getElem?_eq_getElem (by omega : j + t < out.length)] at this
      rw [List.getElem_drop]
      exact this
    have hsplit : (out.take j ++ out.drop j).Pairwise (fun x y => Op.bytesLess (LL y) (LL x) = false) := by rw [List.take_append_drop]; exact hup
    obtain ⟨p1, p2, p3⟩ := List.pairwise_append.1 hsplit
    refine List.pairwise_append.2 ⟨p1, List.pairwise_cons.2 ⟨fun y hy => bl_asym (h2 y hy), p2⟩, fun x hx y hy => ?_⟩
    rcases List.mem_cons.1 hy with rfl | hy
    · exact h1 x hx
    · exact p3 x hx y hy
  · refine List.perm_middle.trans ?_
    rw [List.take_append_drop]
theorem rsorted_both (l : List ByteArray) (hl : l.length ≤ 8796093022200) : ∀ (d i : Nat), i + d = l.length → ∀ out : List ByteArray, out.Perm (l.take i) → upB out →
    Ev (fun k => juratref09_Sorted.l0 k l out (i : Int)) (sortB l) := by
  intro d
  induction d with
  | zero =>
    intro i hi out hp hu
    rw [List.take_of_length_le (by omega)] at hp
    refine Ev.ret fun k => ?_
    simp only [juratref09_Sorted.l0]
    rw [if_neg (by omega), sortB_of hp hu]
  | succ d ih =>
    intro i hi out hp hu
    have ho : out.length = i := by rw [hp.length_eq, List.length_take]; omega
    have hx : rdOf ByteArray.empty l (i : Int) = l.getD i ByteArray.empty := rfl
    have fin : ∀ j, j ≤ out.length → (∀ t, t < j → Op.bytesLess (LL (l.getD i ByteArray.empty)) (LL (out.getD t ByteArray.empty)) = false) → (∀ t, j ≤ t → t < out.length → Op.bytesLess (LL (l.getD i ByteArray.empty)) (LL (out.getD t ByteArray.empty)) = true) →
        Ev (fun k => juratref09_Sorted.l0 k l ((([] ++ out.take j) ++ [l.getD i ByteArray.empty]) ++ out.drop j) ((i + 1 : Nat) : Int)) (sortB l) := fun j hj hb ha => by
      obtain ⟨u, p⟩ := rsorted_put l out i j (by omega) hl ho hj hu hb ha
      rw [List.nil_append, List.append_assoc, List.singleton_append]
      refine ih (i + 1) (by omega) _ (p.trans ?_) u
      rw [take_snoc l i ByteArray.empty (by omega)]
      exact (List.Perm.cons _ hp).trans (List.perm_append_singleton _ _).symm
    have inner : ∀ j, j ≤ out.length → (∀ t, j ≤ t → t < out.length → Op.bytesLess (LL (l.getD i ByteArray.empty)) (LL (out.getD t ByteArray.empty)) = true) →
        Ev (fun k => juratref09_Sorted.l1 k l out (i : Int) (j : Int)) (sortB l) := by
      intro j
      induction j with
      | zero =>
        intro hj ha
        refine Ev.step (f := fun k => juratref09_Sorted.l0 k l ((([] ++ out.take 0) ++ [l.getD i ByteArray.empty]) ++ out.drop 0) ((i + 1 : Nat) : Int)) (fun k => ?_) (fin 0 hj (fun t ht => absurd ht (Nat.not_lt_zero _)) ha)
        simp only [juratref09_Sorted.l1, Option.bind_some]
        rw [if_neg (by omega), if_pos (by omega), if_pos (by omega), if_pos (by simp), if_pos (by omega), if_pos (by omega), if_pos (by simp), hx, Int.toNat_natCast, if_pos (by simp; omega), wrap_id (by omega) (by omega)]
        rfl
      | succ j ihj =>
        intro hj ha
        have hy : rdOf ByteArray.empty out (((j + 1 : Nat) : Int) - 1) = out.getD j ByteArray.empty := by unfold rdOf; rw [show (((j + 1 : Nat) : Int) - 1).toNat = j by omega]
        cases hlt : Op.bytesLess (LL (l.getD i ByteArray.empty)) (LL (out.getD j ByteArray.empty)) with
        | true =>
          refine Ev.step (f := fun k => juratref09_Sorted.l1 k l out (i : Int) (j : Int)) (fun k => ?_) (ihj (by omega) (fun t h1 h2 => by
            by_cases he : t = j
            · subst he; exact hlt
            · exact ha t (by omega) h2))
          simp only [juratref09_Sorted.l1, Option.bind_some]
          rw [wrap_id (x := ((j + 1 : Nat) : Int) - 1) (by omega) (by omega), if_pos (by omega), if_pos (by omega), if_pos (by omega), if_pos (by omega), if_pos (by omega), hx, hy, if_pos (by rw [ByteArray.toList_eq, ByteArray.toList_eq]; exact hlt), show ((j + 1 : Nat) : Int) - 1 = (j : Int) by omega]
        | false =>
          refine Ev.step (f := fun k => juratref09_Sorted.l0 k l ((([] ++ out.take (j + 1)) ++ [l.getD i ByteArray.empty]) ++ out.drop (j + 1)) ((i + 1 : Nat) : Int)) (fun k => ?_) (fin (j + 1) hj (fun t ht => by
            by_cases he : t = j
            · subst he; exact hlt
            · have hp := List.pairwise_iff_getElem.1 hu t j (by omega) (by omega) (by omega)
              rw [List.getD_eq_getElem?_getD (l := out), List.getElem?_eq_getElem (by omega : j < out.length)] at hlt
              rw [List.getD_eq_getElem?_getD (l := out), List.getElem?_eq_getElem (by omega : t < out.length)]
              exact bl_ntrans hlt hp) ha)
          simp only [juratref09_Sorted.l1, Option.bind_some]
          rw [wrap_id (x := ((j + 1 : Nat) : Int) - 1) (by omega) (by omega), if_pos (by omega), if_pos (by omega), if_pos (by omega), if_pos (by omega), if_pos (by omega), hx, hy, if_neg (by rw [ByteArray.toList_eq, ByteArray.toList_eq, hlt]; simp), if_pos (by omega), if_pos (by omega), Int.toNat_natCast,
            if_pos (by simp; omega), if_pos (by simp; omega), if_pos (by simp; omega), wrap_id (by omega) (by omega)]
          rfl
    refine Ev.step (f := fun k => juratref09_Sorted.l1 k l out (i : Int) (out.length : Int)) (fun k => ?_) (inner out.length (Nat.le_refl _) (fun t h1 h2 => by omega))
    simp only [juratref09_Sorted.l0]
    rw [if_pos (by omega)]
theorem rsorted_ev (l : List ByteArray) (hl : l.length ≤ 8796093022200) : Ev (fun k => juratref09_Sorted.f k l) (sortB l) :=
  rsorted_both l hl l.length 0 (by omega) [] (by rw [List.take_zero]) List.Pairwise.nil

/-! there already -/
theorem inB_take (s : ByteArray) (l : List ByteArray) (i : Nat) : inB s (l.take i) = true ↔ ∃ t, t < i ∧ t < l.length ∧ l.getD t ByteArray.empty = s := by
  rw [inB_iff, List.mem_iff_getElem]
  constructor
  · rintro ⟨t, ht, rfl⟩
    rw [List.length_take] at ht
    refine ⟨t, by omega, by omega, ?_⟩
    rw [List.getD_eq_getElem?_getD, List.getElem?_eq_getElem (by omega : t < l.length), List.getElem_take]; rfl
  · rintro ⟨t, h1, h2, rfl⟩
    refine ⟨t, by rw [List.length_take]; omega, ?_⟩
    rw [List.getD_eq_getElem?_getD, List.getElem?_eq_getElem (by omega : t < l.length), List.getElem_take]; rfl
theorem rtwice_both (l : List ByteArray) (hl : l.length ≤ 9223372036854775806) : ∀ (d i : Nat), i + d = l.length →
    Ev (fun k => juratref09_Twice.l0 k l (i : Int)) (twB (l.take i) (l.drop i) i) := by
  intro d
  induction d with
  | zero =>
    intro i hi
    refine Ev.ret fun k => ?_
    simp only [juratref09_Twice.l0]
    rw [if_neg (by omega), List.drop_of_length_le (by omega)]
    rfl
  | succ d ih =>
    intro i hi
    have ih' := ih (i + 1) (by omega)
    rw [take_snoc l i ByteArray.empty (by omega)] at ih'
    rw [getD_drop l i ByteArray.empty (by omega)]
    have inner : ∀ e j, j + e = i → (∀ t, t < j → ¬ l.getD t ByteArray.empty = l.getD i ByteArray.empty) →
        Ev (fun k => juratref09_Twice.l1 k l (i : Int) (j : Int)) (twB (l.take i) (l.getD i ByteArray.empty :: l.drop (i + 1)) i) := by
      intro e
      induction e with
      | zero =>
        intro j hj hn
        have hin : ¬ inB (l.getD i ByteArray.empty) (l.take i) = true := fun h => by
          obtain ⟨t, h1, h2, h3⟩ := (inB_take _ _ _).1 h
          exact hn t (by omega) h3
        simp only [twB]
        rw [if_neg hin]
        refine Ev.step (f := fun k => juratref09_Twice.l0 k l ((i + 1 : Nat) : Int)) (fun k => ?_) ih'
        simp only [juratref09_Twice.l1]
        rw [if_neg (by omega), wrap_id (by omega) (by omega)]
        rfl
      | succ e ihe =>
        intro j hj hn
        have e1 : rdOf ByteArray.empty l (i : Int) = l.getD i ByteArray.empty := rfl
        have e2 : rdOf ByteArray.empty l (j : Int) = l.getD j ByteArray.empty := rfl
        by_cases h : l.getD j ByteArray.empty = l.getD i ByteArray.empty
        · have hin : inB (l.getD i ByteArray.empty) (l.take i) = true := (inB_take _ _ _).2 ⟨j, by omega, by omega, h⟩
          simp only [twB]
          rw [if_pos hin]
          refine Ev.ret fun k => ?_
          simp only [juratref09_Twice.l1]
          rw [if_pos (by omega), if_pos (by omega), if_pos (by omega), if_pos (by omega), if_pos (by omega), e1, e2, if_pos (toList_iff.2 h)]
        · refine Ev.step (f := fun k => juratref09_Twice.l1 k l (i : Int) ((j + 1 : Nat) : Int)) (fun k => ?_) (ihe (j + 1) (by omega) (fun t ht => by
            by_cases he : t = j
            · subst he; exact h
            · exact hn t (by omega)))
          simp only [juratref09_Twice.l1]
          rw [if_pos (by omega), if_pos (by omega), if_pos (by omega), if_pos (by omega), if_pos (by omega), e1, e2, if_neg (fun x => h (toList_iff.1 x)), wrap_id (by omega) (by omega)]
          rfl
    refine Ev.step (f := fun k => juratref09_Twice.l1 k l (i : Int) ((0 : Nat) : Int)) (fun k => ?_) (inner i 0 (by omega) (fun t ht => absurd ht (Nat.not_lt_zero _)))
    simp only [juratref09_Twice.l0]
    rw [if_pos (by omega)]
    rfl
theorem rtwice_ev (l : List ByteArray) (hl : l.length ≤ 9223372036854775806) : Ev (fun k => juratref09_Twice.f k l) (twB [] l 0) := by
  have h := rtwice_both l hl l.length 0 (by omega)
  rw [List.take_zero, List.drop_zero] at h
  exact h

end Go.Proofs.Ytpgmpdanplmpfaa.Base
