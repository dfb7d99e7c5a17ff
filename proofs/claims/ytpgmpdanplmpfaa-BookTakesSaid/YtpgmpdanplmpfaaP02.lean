/- The bytes of a number, seven bits a byte, the lowest first; no program in sight. -/
import Derived.Test.YtpgmpdanplmpfaaBits
import Derived.Laws.BitsAllLaws
namespace Go.Proofs.Ytpgmpdanplmpfaa.Base
open Go Go.RowKit Go.Proofs.YtpgmpdanplmpfaaW.PrintWords Go.Proofs.YtpgmpdanplmpfaaW.PrintLast Go.Proofs.YtpgmpdanplmpfaaW.PrintMore
set_option linter.unusedVariables false

theorem and127 (n : Nat) (h : n < 9223372036854775808) : Go.bits .and .i64 (n : Int) 127 = ((n % 128 : Nat) : Int) := by
  have e : Go.bits .and .i64 (n : Int) 127 = IntKind.i64.wrap (((BitVec.ofInt 64 (n : Int) &&& BitVec.ofInt 64 127).toNat : Int)) := rfl
  have e2 : (BitVec.ofInt 64 (n : Int) &&& BitVec.ofInt 64 127).toNat = n % 128 := by
    rw [BitVec.toNat_and, BitVec.toNat_ofInt, BitVec.toNat_ofInt]
    rw [show ((n : Int) % ((2 ^ 64 : Nat) : Int)).toNat = n by omega, show ((127 : Int) % ((2 ^ 64 : Nat) : Int)).toNat = 127 by decide]
    exact Nat.and_two_pow_sub_one_eq_mod n 7
  rw [e, e2, i64_w, wrap_id (by omega) (by omega)]
theorem or128 (m : Nat) (h : m < 128) : Go.bits .or .i64 (m : Int) 128 = ((m + 128 : Nat) : Int) := by
  have e : Go.bits .or .i64 (m : Int) 128 = IntKind.i64.wrap (((BitVec.ofInt 64 (m : Int) ||| BitVec.ofInt 64 128).toNat : Int)) := rfl
  have e2 : (BitVec.ofInt 64 (m : Int) ||| BitVec.ofInt 64 128).toNat = m + 128 := by
    rw [BitVec.toNat_or, BitVec.toNat_ofInt, BitVec.toNat_ofInt]
    rw [show ((m : Int) % ((2 ^ 64 : Nat) : Int)).toNat = m by omega, show ((128 : Int) % ((2 ^ 64 : Nat) : Int)).toNat = 128 by decide]
    have key : ∀ x : Fin 128, (x.val ||| 128) = x.val + 128 := by decide
    exact key ⟨m, h⟩
  rw [e, e2, i64_w, wrap_id (by omega) (by omega)]
/-- A number's bytes, in so many steps at most. -/
def vputF : Nat → Nat → List UInt8
  | 0, n => [UInt8.ofNat n]
  | f + 1, n => if 127 < n then UInt8.ofNat (n % 128 + 128) :: vputF f (n / 128) else [UInt8.ofNat n]
def vputL (n : Nat) : List UInt8 := vputF 9 n
theorem vputF_length : ∀ f n, 1 ≤ (vputF f n).length ∧ (vputF f n).length ≤ f + 1
  | 0, n => ⟨Nat.le_refl _, Nat.le_refl _⟩
  | f + 1, n => by
    have := vputF_length f (n / 128)
    unfold vputF
    split
    · rw [List.length_cons]; omega
    · exact ⟨Nat.le_refl _, by simp⟩
theorem vputF_more : ∀ (f g n : Nat), n < 128 ^ (f + 1) → vputF (f + g) n = vputF f n
  | 0, 0, n, _ => rfl
  | 0, g + 1, n, h => by
    show vputF (0 + g + 1) n = _
    unfold vputF
    rw [if_neg (by have : n < 128 := by simpa using h
                   omega)]
  | f + 1, g, n, h => by
    rw [show f + 1 + g = f + g + 1 by omega]
    unfold vputF
    split
    · rw [vputF_more f g (n / 128) (by rw [Nat.div_lt_iff_lt_mul (by decide)]; rw [Nat.pow_succ] at h; exact h)]
    · rfl
/-- Bits laid behind those that are there. -/
theorem orAdd (n m s : Nat) (h : n < 2 ^ s) (hm : m * 2 ^ s < 9223372036854775808) (hn : n < 9223372036854775808) (hs : n + m * 2 ^ s < 9223372036854775808) : Go.bits .or .i64 (n : Int) ((m * 2 ^ s : Nat) : Int) = ((n + m * 2 ^ s : Nat) : Int) := by
  obtain ⟨y, hy⟩ : ∃ y, m * 2 ^ s = y := ⟨_, rfl⟩
  have e : Go.bits .or .i64 (n : Int) ((m * 2 ^ s : Nat) : Int) = IntKind.i64.wrap (((BitVec.ofInt 64 (n : Int) ||| BitVec.ofInt 64 ((m * 2 ^ s : Nat) : Int)).toNat : Int)) := rfl
  have e3 : n ||| m * 2 ^ s = n + m * 2 ^ s := by
    have := Nat.shiftLeft_add_eq_or_of_lt h m
    rw [Nat.shiftLeft_eq] at this
    rw [Nat.or_comm, ← this, Nat.add_comm]
  have e2 : (BitVec.ofInt 64 (n : Int) ||| BitVec.ofInt 64 ((m * 2 ^ s : Nat) : Int)).toNat = n + m * 2 ^ s := by
    rw [BitVec.toNat_or, BitVec.toNat_ofInt, BitVec.toNat_ofInt, ← e3]
    rw [hy] at hm ⊢
    rw [show ((n : Int) % ((2 ^ 64 : Nat) : Int)).toNat = n by omega, show ((y : Int) % ((2 ^ 64 : Nat) : Int)).toNat = y by omega]
  rw [e, e2, i64_w, wrap_id (by omega) (by omega)]
/-- How many bytes stand ahead of the first one that ends a number. -/
def hiL : List UInt8 → Nat
  | [] => 0
  | c :: l => if 128 ≤ c.toNat then hiL l + 1 else 0
theorem hiL_le : ∀ l, hiL l ≤ l.length
  | [] => Nat.le_refl _
  | c :: l => by
    have := hiL_le l
    unfold hiL
    split
    · rw [List.length_cons]; omega
    · exact Nat.zero_le _
/-- The number that bytes are. -/
def valL : List UInt8 → Nat
  | [] => 0
  | c :: l => c.toNat % 128 + 128 * valL l
theorem valL_lt : ∀ l, valL l < 128 ^ l.length
  | [] => by decide
  | c :: l => by
    have h1 := valL_lt l
    have h2 : c.toNat % 128 < 128 := Nat.mod_lt _ (by decide)
    have e : 128 ^ (l.length + 1) = 128 * 128 ^ l.length := by rw [Nat.pow_succ, Nat.mul_comm]
    simp only [valL, List.length_cons]
    rw [e]
    have h3 : 128 * (valL l + 1) ≤ 128 * 128 ^ l.length := Nat.mul_le_mul_left 128 h1
    omega
theorem valL_append (a b : List UInt8) : valL (a ++ b) = valL a + 128 ^ a.length * valL b := by
  induction a with
  | nil => simp [valL]
  | cons c a ih =>
    simp only [List.cons_append, valL, ih, List.length_cons]
    rw [Nat.mul_add, ← Nat.mul_assoc, Nat.pow_succ, Nat.mul_comm 128 (128 ^ a.length)]
    omega
/-- What is taken of bytes: the number, how many bytes it has, and whether something is wrong (0: nothing). The three errors are given. -/
def takeL (long short form : Int) (l : List UInt8) : Int × Int × Int :=
  if 9 ≤ hiL l then (0, 0, long) else if hiL l = l.length then (0, 0, short) else if (l.getD (hiL l) 0).toNat = 0 ∧ 0 < hiL l then (0, 0, form) else ((valL (l.take (hiL l + 1)) : Nat), ((hiL l + 1 : Nat) : Int), 0)
/-- What is put is taken again. -/
theorem valL_vput : ∀ f n, n < 128 ^ (f + 1) → valL (vputF f n) = n ∧ hiL (vputF f n) + 1 = (vputF f n).length
  | 0, n, h => by
    have hn : n < 128 := by simpa using h
    have e : (UInt8.ofNat n).toNat = n := by rw [UInt8.toNat_ofNat']; omega
    simp only [vputF, valL, hiL, e]
    exact ⟨by omega, by rw [if_neg (by omega)]; rfl⟩
  | f + 1, n, h => by
    unfold vputF
    by_cases hn : 127 < n
    · rw [if_pos hn]
      obtain ⟨h1, h2⟩ := valL_vput f (n / 128) (by rw [Nat.div_lt_iff_lt_mul (by decide)]; rw [Nat.pow_succ] at h; exact h)
      have hm : n % 128 < 128 := Nat.mod_lt _ (by decide)
      have e : (UInt8.ofNat (n % 128 + 128)).toNat = n % 128 + 128 := by rw [UInt8.toNat_ofNat']; omega
      simp only [valL, hiL, e, h1, List.length_cons]
      rw [if_pos (by omega)]
      refine ⟨?_, by omega⟩
      have := Nat.div_add_mod n 128
      omega
    · rw [if_neg hn]
      have e : (UInt8.ofNat n).toNat = n := by rw [UInt8.toNat_ofNat']; omega
      simp only [valL, hiL, e]
      exact ⟨by omega, by rw [if_neg (by omega)]; rfl⟩
theorem hiL_app : ∀ (a b : List UInt8), hiL a < a.length → hiL (a ++ b) = hiL a
  | [], b, h => by simp [hiL] at h
  | c :: a, b, h => by
    rw [List.cons_append]
    unfold hiL
    split
    · rename_i hc
      have h' : hiL a + 1 < a.length + 1 := by
        have := h
        unfold hiL at this
        rw [if_pos hc] at this
        simpa using this
      rw [hiL_app a b (by omega)]
    · rfl
theorem vput_last : ∀ f n, n < 128 ^ (f + 1) → 0 < hiL (vputF f n) → ((vputF f n).getD (hiL (vputF f n)) 0).toNat ≠ 0
  | 0, n, h, h0 => by
    have hn : n < 128 := by simpa using h
    have e : (UInt8.ofNat n).toNat = n := by rw [UInt8.toNat_ofNat']; omega
    simp only [vputF, hiL, e] at h0
    rw [if_neg (by omega)] at h0
    omega
  | f + 1, n, h, h0 => by
    by_cases hn : 127 < n
    · have hm : n % 128 < 128 := Nat.mod_lt _ (by decide)
      have e : (UInt8.ofNat (n % 128 + 128)).toNat = n % 128 + 128 := by rw [UInt8.toNat_ofNat']; omega
      have hq : n / 128 < 128 ^ (f + 1) := by rw [Nat.div_lt_iff_lt_mul (by decide)]; rw [Nat.pow_succ] at h; exact h
      have ev : vputF (f + 1) n = UInt8.ofNat (n % 128 + 128) :: vputF f (n / 128) := by
        show (if 127 < n then UInt8.ofNat (n % 128 + 128) :: vputF f (n / 128) else [UInt8.ofNat n]) = _
        rw [if_pos hn]
      have eh : hiL (vputF (f + 1) n) = hiL (vputF f (n / 128)) + 1 := by rw [ev]; simp only [hiL, e]; rw [if_pos (by omega)]
      rw [eh, ev, List.getD_cons_succ]
      rcases Nat.eq_zero_or_pos (hiL (vputF f (n / 128))) with h1 | h1
      · have h2 := (valL_vput f (n / 128) hq)
        rw [h1] at h2 ⊢
        obtain ⟨c, hc⟩ : ∃ c, vputF f (n / 128) = [c] := List.length_eq_one_iff.1 h2.2.symm
        rw [hc] at h2 h1 ⊢
        have h3 : c.toNat % 128 + 128 * 0 = n / 128 := h2.1
        show c.toNat ≠ 0
        omega
      · exact vput_last f (n / 128) hq h1
    · have ev : vputF (f + 1) n = [UInt8.ofNat n] := by
        show (if 127 < n then UInt8.ofNat (n % 128 + 128) :: vputF f (n / 128) else [UInt8.ofNat n]) = _
        rw [if_neg hn]
      have e : (UInt8.ofNat n).toNat = n := by rw [UInt8.toNat_ofNat']; omega
      rw [ev] at h0
      simp only [hiL, e] at h0
      rw [if_neg (by omega)] at h0
      omega
theorem vputL_eq (n : Nat) (h : n < 128 ^ 9) : vputL n = vputF 8 n := vputF_more 8 1 n h
theorem vputL_length (n : Nat) (h : n < 128 ^ 9) : 1 ≤ (vputL n).length ∧ (vputL n).length ≤ 9 := by
  rw [vputL_eq n h]
  exact vputF_length 8 n
theorem take_vput (long short form : Int) (n : Nat) (h : n < 128 ^ 9) (rest : List UInt8) : takeL long short form (vputL n ++ rest) = ((n : Int), ((vputL n).length : Int), 0) := by
  have hl := vputL_length n h
  rw [vputL_eq n h] at hl ⊢
  obtain ⟨h1, h2⟩ := valL_vput 8 n h
  have h3 := hiL_app (vputF 8 n) rest (by omega)
  have h4 := vput_last 8 n h
  generalize vputF 8 n = L at *
  unfold takeL
  rw [h3, if_neg (by omega), if_neg (by rw [List.length_append]; omega)]
  have e1 : (L ++ rest).getD (hiL L) 0 = L.getD (hiL L) 0 := by rw [List.getD_eq_getElem?_getD, List.getD_eq_getElem?_getD, List.getElem?_append_left (by omega)]
  rw [e1, if_neg (by rintro ⟨g1, g2⟩; exact h4 g2 g1), h2, List.take_left, h1]
/-- Bytes that are a number are the number's own. -/
theorem vput_val : ∀ (f : Nat) (a : List UInt8), hiL a + 1 = a.length → a.length ≤ f + 1 → (0 < hiL a → (a.getD (hiL a) 0).toNat ≠ 0) → vputF f (valL a) = a
  | f, [], h, _, _ => by simp at h
  | f, c :: a, h, hf, h0 => by
    have hc := UInt8.toNat_lt c
    by_cases hb : 128 ≤ c.toNat
    · have eh : hiL (c :: a) = hiL a + 1 := by simp only [hiL]; rw [if_pos hb]
      rw [eh] at h h0
      rw [List.getD_cons_succ] at h0
      rw [List.length_cons] at h hf
      have h1 := h0 (Nat.succ_pos _)
      cases f with
      | zero => have := hiL_le a; omega
      | succ f =>
        have ih := vput_val f a (by omega) (by omega) (fun _ => h1)
        have hv : 0 < valL a := by
          cases a with
          | nil => simp [hiL] at h
          | cons d a =>
            rcases Nat.eq_zero_or_pos (valL (d :: a)) with hz | hz
            · exfalso
              rw [hz] at ih
              have e0 : vputF f 0 = [0] := by cases f <;> rfl
              rw [e0] at ih
              injection ih with e1 e2
              rw [← e1, ← e2] at h1
              exact h1 rfl
            · exact hz
        have e1 : valL (c :: a) = c.toNat % 128 + 128 * valL a := rfl
        have e2 : (c.toNat % 128 + 128 * valL a) / 128 = valL a := by omega
        have e3 : (c.toNat % 128 + 128 * valL a) % 128 + 128 = c.toNat := by omega
        rw [e1]
        unfold vputF
        rw [if_pos (by omega), e2, e3, ih, UInt8.ofNat_toNat]
    · have eh : hiL (c :: a) = 0 := by simp only [hiL]; rw [if_neg hb]
      rw [eh, List.length_cons] at h
      obtain rfl : a = [] := List.eq_nil_of_length_eq_zero (by omega)
      have e1 : valL [c] = c.toNat := by show c.toNat % 128 + 128 * 0 = _; omega
      rw [e1]
      cases f with
      | zero => show [UInt8.ofNat c.toNat] = _; rw [UInt8.ofNat_toNat]
      | succ f => unfold vputF; rw [if_neg (by omega), UInt8.ofNat_toNat]
theorem put_take (long short form : Int) (l : List UInt8) (n k : Int) (hne : long ≠ 0 ∧ short ≠ 0 ∧ form ≠ 0) (h : takeL long short form l = (n, k, 0)) : ∃ m j : Nat, n = m ∧ k = j ∧ j ≤ l.length ∧ 1 ≤ j ∧ j ≤ 9 ∧ m < 128 ^ 9 ∧ l.take j = vputL m := by
  unfold takeL at h
  by_cases h1 : 9 ≤ hiL l
  · rw [if_pos h1] at h
    exact absurd (Prod.mk.inj (Prod.mk.inj h).2).2 hne.1
  rw [if_neg h1] at h
  by_cases h2 : hiL l = l.length
  · rw [if_pos h2] at h
    exact absurd (Prod.mk.inj (Prod.mk.inj h).2).2 hne.2.1
  rw [if_neg h2] at h
  by_cases h3 : (l.getD (hiL l) 0).toNat = 0 ∧ 0 < hiL l
  · rw [if_pos h3] at h
    exact absurd (Prod.mk.inj (Prod.mk.inj h).2).2 hne.2.2
  rw [if_neg h3] at h
  obtain ⟨g1, g2⟩ := Prod.mk.inj h
  obtain ⟨g2, _⟩ := Prod.mk.inj g2
  have hl := hiL_le l
  have hta : ∀ l : List UInt8, hiL l < l.length → hiL (l.take (hiL l + 1)) = hiL l := by
    intro l
    induction l with
    | nil => intro h; simp [hiL] at h
    | cons c l ih =>
      intro h
      by_cases hb : 128 ≤ c.toNat
      · have e : hiL (c :: l) = hiL l + 1 := by simp only [hiL]; rw [if_pos hb]
        rw [e] at h ⊢
        rw [List.take_succ_cons]
        simp only [hiL]
        rw [if_pos hb, ih (by rw [List.length_cons] at h; omega)]
      · have e : hiL (c :: l) = 0 := by simp only [hiL]; rw [if_neg hb]
        rw [e, List.take_succ_cons]
        simp only [hiL]
        rw [if_neg hb]
  have ht := hta l (by omega)
  have htl : (l.take (hiL l + 1)).length = hiL l + 1 := by rw [List.length_take]; omega
  have hlt := valL_lt (l.take (hiL l + 1))
  rw [htl] at hlt
  have hm : valL (l.take (hiL l + 1)) < 128 ^ 9 := Nat.lt_of_lt_of_le hlt (Nat.pow_le_pow_right (by decide) (by omega))
  refine ⟨_, _, g1.symm, g2.symm, by omega, by omega, by omega, hm, ?_⟩
  rw [vputL_eq _ hm, vput_val 8 _ (by rw [ht, htl]) (by omega) (fun h0 => ?_)]
  rw [ht] at h0 ⊢
  intro hz
  refine h3 ⟨?_, h0⟩
  rw [← hz, List.getD_eq_getElem?_getD, List.getD_eq_getElem?_getD, List.getElem?_take, if_pos (by omega)]
end Go.Proofs.Ytpgmpdanplmpfaa.Base
