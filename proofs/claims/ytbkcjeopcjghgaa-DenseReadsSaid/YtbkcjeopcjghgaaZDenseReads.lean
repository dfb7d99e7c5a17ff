/- Proved here: the row of the law DenseReads, with texts that lead to it, merged by a program of this session (wip/merge.py), part 2 of 2; no condition beyond the statement's own. -/
import Derived.Test.YtbkcjeopcjghgaaPx0
import Derived.Test.YtbkcjeopcjghgaaPx10
import Derived.Test.YtbkcjeopcjghgaaPx12
import Derived.Test.YtbkcjeopcjghgaaBase
import Derived.SizedLaws
import Derived.SliceStrings
import Derived.Test.YtbkcjeopcjghgaaWWords
import Derived.Test.YtbkcjeopcjghgaaWSized
import Derived.Test.YtbkcjeopcjghgaaRows
import Derived.WalkKit
import Derived.ProofKit
import Derived.OpenShut
import Derived.ShutString
import Derived.ChangeOld
import Derived.Below
import Derived.Carry
import Derived.Test.YtbkcjeopcjghgaaZDenseReadsa
/- The classes of bytes: which are marked, and that classes rise; layer 18's examples; no condition beyond the sizes that stand in each statement. -/
namespace Go.Proofs.Ytbkcjeopcjghgaa.Base
open Go Go.RowKit Go.Proofs.YtbkcjeopcjghgaaW.PrintWords Go.Proofs.YtbkcjeopcjghgaaW.PrintMore Go.Proofs.Ytbkcjeopcjghgaa.P
set_option linter.unusedVariables false

theorem clFold_at (c : Nat) (hc : c < 256) : ∀ (l : List UInt8) (T : List Int), T.length = 256 → (l.foldl clPut T).getD c 0 = if l.any (fun x => decide (x.toNat = c)) = true then 1 else T.getD c 0
  | [], T, _ => rfl
  | x :: l, T, h => by
    rw [List.foldl_cons, clFold_at c hc l (clPut T x) (by unfold clPut; rw [List.length_set]; exact h), List.any_cons]
    have e : (clPut T x).getD c 0 = if x.toNat = c then 1 else T.getD c 0 := by
      unfold clPut
      rw [List.getD_eq_getElem?_getD, List.getElem?_set]
      by_cases hx : x.toNat = c
      · rw [if_pos hx, if_pos (by rw [h]; exact UInt8.toNat_lt _), if_pos hx]; rfl
      · rw [if_neg hx, if_neg hx, List.getD_eq_getElem?_getD]
    rw [e]
    by_cases h1 : l.any (fun x => decide (x.toNat = c)) = true
    · rw [if_pos h1, h1, Bool.or_true, if_pos rfl]
    · rw [if_neg h1, Bool.eq_false_iff.2 h1, Bool.or_false]
      by_cases hx : x.toNat = c
      · rw [if_pos hx, decide_eq_true hx, if_pos rfl]
      · rw [if_neg hx, decide_eq_false hx, if_neg (by simp)]
/-- Does a byte stand in a pattern? -/
def markB (l : List ByteArray) (c : Nat) : Bool := l.any fun s => (LL s).any fun x => decide (x.toNat = c)
theorem clRows_at (c : Nat) (hc : c < 256) : ∀ (l : List ByteArray) (T : List Int), T.length = 256 → (l.foldl clRow T).getD c 0 = if markB l c = true then 1 else T.getD c 0
  | [], T, _ => rfl
  | s :: l, T, h => by
    rw [List.foldl_cons, clRows_at c hc l (clRow T s) ((clFold_length _ _).trans h)]
    have e := clFold_at c hc (LL s) T h
    change (clRow T s).getD c 0 = _ at e
    rw [e]
    have em : markB (s :: l) c = ((LL s).any (fun x => decide (x.toNat = c)) || markB l c) := rfl
    rw [em]
    by_cases h1 : markB l c = true
    · rw [if_pos h1, h1, Bool.or_true, if_pos rfl]
    · rw [if_neg h1, Bool.eq_false_iff.2 h1, Bool.or_false]
theorem clMarks_at (l : List ByteArray) {c : Nat} (hc : c < 256) : (clMarks l).getD c 0 = if markB l c = true then 1 else 0 := by
  unfold clMarks
  rw [clRows_at c hc l _ List.length_replicate, List.getD_eq_getElem?_getD, List.getElem?_replicate, if_pos hc]
  rfl
theorem markB_iff {l : List ByteArray} {c : Nat} : markB l c = true ↔ ∃ s ∈ l, ∃ x ∈ LL s, x.toNat = c := by
  unfold markB
  simp only [List.any_eq_true, decide_eq_true_eq]
theorem clEnd_at (M : List Int) (hM : M.length = 256) (c : Nat) (hc : c < 256) : ∀ k, k ≤ 256 → (clEnd M k).1.getD c 0 = if c < k ∧ M.getD c 0 > 0 then ((clEnd M c).2.length : Int) + 1 else M.getD c 0
  | 0, _ => by rw [if_neg (by omega)]; rfl
  | k + 1, hk => by
    have ih := clEnd_at M hM c hc k (by omega)
    have hl := (clEnd_length M k).1
    by_cases h : M.getD k 0 > 0
    · have e : (clEnd M (k + 1)).1 = (clEnd M k).1.set k (((clEnd M k).2.length : Int) + 1) := by simp only [clEnd]; rw [if_pos h]
      rw [e, List.getD_eq_getElem?_getD, List.getElem?_set]
      by_cases hck : k = c
      · subst hck
        rw [if_pos rfl, if_pos (by omega), if_pos ⟨by omega, h⟩]
        rfl
      · rw [if_neg hck, ← List.getD_eq_getElem?_getD, ih]
        by_cases h2 : c < k ∧ M.getD c 0 > 0
        · rw [if_pos h2, if_pos ⟨by omega, h2.2⟩]
        · rw [if_neg h2, if_neg (fun h3 => h2 ⟨by omega, h3.2⟩)]
    · have e : (clEnd M (k + 1)).1 = (clEnd M k).1 := by simp only [clEnd]; rw [if_neg h]
      rw [e, ih]
      by_cases h2 : c < k ∧ M.getD c 0 > 0
      · rw [if_pos h2, if_pos ⟨by omega, h2.2⟩]
      · rw [if_neg h2, if_neg (fun h3 => h2 ⟨by
          by_cases hck : c = k
          · subst hck; exact absurd h3.2 h
          · omega, h3.2⟩)]
theorem clEnd_grows (M : List Int) (a : Nat) : ∀ d, (clEnd M a).2.length ≤ (clEnd M (a + d)).2.length
  | 0 => Nat.le_refl _
  | d + 1 => by
    refine Nat.le_trans (clEnd_grows M a d) ?_
    show _ ≤ (clEnd M ((a + d) + 1)).2.length
    simp only [clEnd]
    split
    · simp
    · exact Nat.le_refl _
theorem clEnd_step (M : List Int) (a : Nat) (h : M.getD a 0 > 0) : (clEnd M (a + 1)).2.length = (clEnd M a).2.length + 1 := by
  simp only [clEnd]
  rw [if_pos h]
  simp
/-- A byte's class. -/
def clB (w : List ByteArray) (c : Nat) : Int := (clEnd (clMarks w) 256).1.getD c 0
theorem clB_eq (w : List ByteArray) {c : Nat} (hc : c < 256) : clB w c = if markB w c = true then ((clEnd (clMarks w) c).2.length : Int) + 1 else 0 := by
  unfold clB
  rw [clEnd_at _ (clMarks_length w) c hc 256 (Nat.le_refl _), clMarks_at w hc]
  by_cases h : markB w c = true
  · rw [if_pos h, if_pos h, if_pos ⟨hc, by decide⟩]
  · rw [if_neg h, if_neg h, if_neg (by rintro ⟨_, h⟩; exact absurd h (by decide))]
theorem clB_range (w : List ByteArray) {c : Nat} (hc : c < 256) : 0 ≤ clB w c ∧ clB w c ≤ 256 := by
  rw [clB_eq w hc]
  have := (clEnd_length (clMarks w) c).2
  split <;> omega
theorem clB_pos (w : List ByteArray) {c : Nat} (hc : c < 256) : 0 < clB w c ↔ markB w c = true := by
  rw [clB_eq w hc]
  by_cases h : markB w c = true
  · rw [if_pos h]; exact ⟨fun _ => h, fun _ => by omega⟩
  · rw [if_neg h]; exact ⟨fun h => absurd h (by decide), fun h' => absurd h' h⟩
theorem clB_lt (w : List ByteArray) {a b : Nat} (ha : a < 256) (hb : b < 256) (h1 : 0 < clB w a) (h2 : 0 < clB w b) (h : a < b) : clB w a < clB w b := by
  have m1 := (clB_pos w ha).1 h1
  have m2 := (clB_pos w hb).1 h2
  rw [clB_eq w ha, clB_eq w hb, if_pos m1, if_pos m2]
  have e1 := clEnd_step (clMarks w) a (by rw [clMarks_at w ha, if_pos m1]; decide)
  have e2 := clEnd_grows (clMarks w) (a + 1) (b - (a + 1))
  rw [show a + 1 + (b - (a + 1)) = b by omega] at e2
  omega
theorem clB_mono (w : List ByteArray) {a b : Nat} (ha : a < 256) (hb : b < 256) (h1 : 0 < clB w a) (h2 : 0 < clB w b) : clB w a < clB w b ↔ a < b := by
  constructor
  · intro h
    rcases Nat.lt_trichotomy a b with h' | h' | h'
    · exact h'
    · subst h'; omega
    · have := clB_lt w hb ha h2 h1 h'; omega
  · exact clB_lt w ha hb h1 h2
/-- The classes of a list. -/
abbrev classD (w : List ByteArray) : ClassD := ⟨(clEnd (clMarks w) 256).1, (clEnd (clMarks w) 256).2⟩
theorem class_ok {l w : List ByteArray} {x : Option SetD} {e : Int} (h : SetOk l x w e) : class_New.f x = some (some (classD w)) := by
  unfold class_New.f
  rw [h.hL, if_pos ⟨by have := h.few; omega, fun s hs => by have := h.size s hs; omega⟩]
theorem cof_ok (w : List ByteArray) {c : Nat} (hc : c < 256) : class_Classes_Of.f (some (classD w)) (c : Int) = some (clB w c) := by
  have h := clB_range w hc
  have e : (classD w).of.getD (c : Int).toNat 0 = clB w c := by rw [Int.toNat_natCast]; rfl
  show (if (0 ≤ (c : Int) ∧ (c : Int) ≤ 255) ∧ 0 ≤ (classD w).of.getD (c : Int).toNat 0 ∧ (classD w).of.getD (c : Int).toNat 0 ≤ 65535 then some ((classD w).of.getD (c : Int).toNat 0) else none) = _
  rw [e, if_pos ⟨⟨by omega, by omega⟩, h.1, by omega⟩]


end Go.Proofs.Ytbkcjeopcjghgaa.Base

/- The table of a set, in plain Lean: rows are laid state by state, each over that of the state to which it falls back; what they tell then. -/
namespace Go.Proofs.Ytbkcjeopcjghgaa.Base
open Go Go.RowKit Go.Proofs.YtbkcjeopcjghgaaW.PrintWords Go.Proofs.YtbkcjeopcjghgaaW.PrintMore Go.Proofs.Ytbkcjeopcjghgaa.P
set_option linter.unusedVariables false

section
variable {w : List ByteArray}
/-- A byte's class, as a natural number; how many classes there are. -/
def clN (w : List ByteArray) (b : UInt8) : Nat := (clB w b.toNat).toNat
def widN (w : List ByteArray) : Nat := (clEnd (clMarks w) 256).2.length + 1
theorem clN_is (w : List ByteArray) (b : UInt8) : class_Classes_Of.f (some (classD w)) (b.toNat : Int) = some (clN w b : Int) := by
  have hb : b.toNat < 256 := UInt8.toNat_lt _
  have := clB_range w hb
  rw [cof_ok w hb]
  unfold clN
  congr 1
  omega
theorem clN_pos (w : List ByteArray) (b : UInt8) : 0 < clN w b ↔ markB w b.toNat = true := by
  have hb : b.toNat < 256 := UInt8.toNat_lt _
  rw [← clB_pos w hb]
  unfold clN
  omega
theorem clN_lt (w : List ByteArray) (b : UInt8) : clN w b < widN w := by
  have hb : b.toNat < 256 := UInt8.toNat_lt _
  unfold clN widN
  rw [clB_eq w hb]
  by_cases h : markB w b.toNat = true
  · rw [if_pos h]
    have e1 := clEnd_step (clMarks w) b.toNat (by rw [clMarks_at w hb, if_pos h]; decide)
    have e2 := clEnd_grows (clMarks w) (b.toNat + 1) (256 - (b.toNat + 1))
    rw [show b.toNat + 1 + (256 - (b.toNat + 1)) = 256 by omega] at e2
    omega
  · rw [if_neg h]
    simp
theorem clN_inj (w : List ByteArray) {a b : UInt8} (h : 0 < clN w a) (e : clN w a = clN w b) : a = b := by
  have ha : a.toNat < 256 := UInt8.toNat_lt _
  have hb : b.toNat < 256 := UInt8.toNat_lt _
  have h1 := (clB_pos w ha).2 ((clN_pos w a).1 h)
  have h2 := (clB_pos w hb).2 ((clN_pos w b).1 (by omega))
  unfold clN at e
  have e2 : clB w a.toNat = clB w b.toNat := by omega
  apply UInt8.toNat_inj.1
  rcases Nat.lt_trichotomy a.toNat b.toNat with h3 | h3 | h3
  · have := clB_lt w ha hb h1 h2 h3; omega
  · exact h3
  · have := clB_lt w hb ha h2 h1 h3; omega
theorem widN_le (w : List ByteArray) : widN w ≤ 257 := by
  have := (clEnd_length (clMarks w) 256).2
  unfold widN
  omega
/-- The bytes by which a node goes on. -/
def kidsB (w : List ByteArray) (n : NodeD) : List UInt8 := (n.gr w).map fun g => UInt8.ofNat g.1
theorem kidsB_val (hs : srt w) (hz : sizes w ≤ 16777216) {i : Nat} {n : NodeD} (h : (trN w)[i]? = some n) : trie_Trie_Bytes.f (some (trS w)) (i : Int) = some (strP (kidsB w n)) := by
  rw [bytes_val hs hz h]
  congr 1
  unfold strOfNums strP byL kidsB
  congr 2
  rw [List.map_map]
  apply List.map_congr_left
  intro g hg
  have := (kid_path hs h hg).1
  simp
theorem kidsB_mem (hs : srt w) {i : Nat} {n : NodeD} (h : (trN w)[i]? = some n) (b : UInt8) : b ∈ kidsB w n ↔ idxP w (n.path ++ [b]) ≥ 0 := by
  constructor
  · intro hb
    obtain ⟨g, hg, rfl⟩ := List.mem_map.1 hb
    obtain ⟨_, t, ht, hp⟩ := kid_path hs h hg
    exact (idx_iff hs _).2 (.inr ⟨t, ht, by rw [LL_strP]; exact hp⟩)
  · intro hb
    rcases (idx_iff hs _).1 hb with h1 | ⟨t, ht, hp⟩
    · have := congrArg LL h1
      rw [LL_strP, LL_empty] at this
      simp at this
    · rw [LL_strP] at hp
      obtain ⟨o, g, ho, hd, hg2, hk⟩ := kid_find hs h ht hp
      refine List.mem_map.2 ⟨g, by rw [← hd]; exact getD_mem _ _ _ ho, ?_⟩
      rw [hg2, UInt8.ofNat_toNat]
theorem kid_mark (hs : srt w) {p : List UInt8} {b : UInt8} (h : idxP w (p ++ [b]) ≥ 0) : 0 < clN w b := by
  rw [clN_pos, markB_iff]
  rcases (idx_iff hs _).1 h with h1 | ⟨t, ht, hp⟩
  · have := congrArg LL h1
    rw [LL_strP, LL_empty] at this
    simp at this
  · rw [LL_strP] at hp
    refine ⟨_, getD_mem w t ByteArray.empty ht, b, ?_, rfl⟩
    obtain ⟨r, hr⟩ := hp
    rw [← hr]
    simp
/-- A cell of a row. -/
def rowAt (T : List Int) (wd s c : Nat) : Int := T.getD (s * wd + c) 0
theorem cell_eq {wd s s' c c' : Nat} (hc : c < wd) (hc' : c' < wd) (e : s * wd + c = s' * wd + c') : s = s' ∧ c = c' := by
  have h1 : (s * wd + c) / wd = s := by rw [Nat.mul_comm, Nat.mul_add_div (by omega), Nat.div_eq_of_lt hc]; rfl
  have h2 : (s' * wd + c') / wd = s' := by rw [Nat.mul_comm, Nat.mul_add_div (by omega), Nat.div_eq_of_lt hc']; rfl
  have : s = s' := by rw [← h1, ← h2, e]
  subst this
  exact ⟨rfl, by omega⟩
/-- A row copied over another one. -/
def dnCopy (T : List Int) (wd s f : Nat) : List Int := T.take (s * wd) ++ (T.drop (f * wd)).take wd ++ T.drop ((s + 1) * wd)
theorem dnCopy_at {T : List Int} {n wd s f : Nat} (hl : T.length = n * wd) (hs : s < n) (hf : f < n) (s' c : Nat) (hc : c < wd) : rowAt (dnCopy T wd s f) wd s' c = if s' = s then rowAt T wd f c else rowAt T wd s' c := by
  have k1 : (s + 1) * wd ≤ n * wd := Nat.mul_le_mul_right wd hs
  have k2 : (f + 1) * wd ≤ n * wd := Nat.mul_le_mul_right wd hf
  rw [Nat.succ_mul] at k1 k2
  have l1 : (T.take (s * wd)).length = s * wd := by rw [List.length_take]; omega
  have l2 : ((T.drop (f * wd)).take wd).length = wd := by rw [List.length_take, List.length_drop]; omega
  unfold rowAt dnCopy
  rw [List.getD_eq_getElem?_getD]
  rcases Nat.lt_trichotomy s' s with h | h | h
  · rw [if_neg (by omega)]
    have h1 : (s' + 1) * wd ≤ s * wd := Nat.mul_le_mul_right wd h
    rw [Nat.succ_mul] at h1
    rw [List.append_assoc, List.getElem?_append_left (by rw [l1]; omega), List.getElem?_take, if_pos (by omega), ← List.getD_eq_getElem?_getD]
  · subst h
    rw [if_pos rfl, List.append_assoc, List.getElem?_append_right (by rw [l1]; omega), l1, List.getElem?_append_left (by rw [l2]; omega), List.getElem?_take, if_pos (by omega), List.getElem?_drop, List.getD_eq_getElem?_getD]
    congr 2
    omega
  · rw [if_neg (by omega)]
    have h1 : (s + 1) * wd ≤ s' * wd := Nat.mul_le_mul_right wd h
    rw [List.getElem?_append_right (by rw [List.length_append, l1, l2]; rw [Nat.succ_mul] at h1; omega), List.length_append, l1, l2, List.getElem?_drop, List.getD_eq_getElem?_getD]
    congr 2
    rw [Nat.succ_mul] at h1 ⊢
    omega
theorem dnCopy_length {T : List Int} {n wd s f : Nat} (hl : T.length = n * wd) (hs : s < n) (hf : f < n) : (dnCopy T wd s f).length = n * wd := by
  have k1 : (s + 1) * wd ≤ n * wd := Nat.mul_le_mul_right wd hs
  have k2 : (f + 1) * wd ≤ n * wd := Nat.mul_le_mul_right wd hf
  rw [Nat.succ_mul] at k1 k2
  unfold dnCopy
  rw [List.length_append, List.length_append, List.length_take, List.length_take, List.length_drop, List.length_drop, Nat.succ_mul]
  omega
theorem dnSet_at {T : List Int} {n wd k c0 : Nat} (hl : T.length = n * wd) (hk : k < n) (hc0 : c0 < wd) (y : Int) (s c : Nat) (hc : c < wd) : rowAt (T.set (k * wd + c0) y) wd s c = if s = k ∧ c = c0 then y else rowAt T wd s c := by
  have k1 : (k + 1) * wd ≤ n * wd := Nat.mul_le_mul_right wd hk
  rw [Nat.succ_mul] at k1
  unfold rowAt
  rw [List.getD_eq_getElem?_getD, List.getElem?_set]
  by_cases h : k * wd + c0 = s * wd + c
  · obtain ⟨h1, h2⟩ := cell_eq hc0 hc h
    rw [if_pos h, if_pos (by omega), if_pos ⟨h1.symm, h2.symm⟩]
    rfl
  · rw [if_neg h, if_neg (fun g => h (by rw [g.1, g.2])), List.getD_eq_getElem?_getD]
/-- The rows of the first states stand. -/
structure DnI (w : List ByteArray) (k : Nat) (T : List Int) : Prop where
  len : T.length = (trN w).length * widN w
  zero0 : ∀ s, s < (trN w).length → rowAt T (widN w) s 0 = 0
  row : ∀ (s : Nat) (m : NodeD), (trN w)[s]? = some m → s < k → ∀ b, rowAt T (widN w) s (clN w b) = idxP w (stepP w m.path b)
  rest : ∀ s, k ≤ s → s < (trN w).length → ∀ c, c < widN w → rowAt T (widN w) s c = 0
def baseV (w : List ByteArray) (p : List UInt8) (b : UInt8) : Int := if p = [] then 0 else idxP w (stepP w (failP w p) b)
/-- And of one more the first bytes. -/
structure DnK (w : List ByteArray) (k i : Nat) (n : NodeD) (T : List Int) : Prop where
  len : T.length = (trN w).length * widN w
  zero0 : ∀ s, s < (trN w).length → rowAt T (widN w) s 0 = 0
  row : ∀ (s : Nat) (m : NodeD), (trN w)[s]? = some m → s < k → ∀ b, rowAt T (widN w) s (clN w b) = idxP w (stepP w m.path b)
  rest : ∀ s, k < s → s < (trN w).length → ∀ c, c < widN w → rowAt T (widN w) s c = 0
  cur : ∀ b, rowAt T (widN w) k (clN w b) = if b ∈ (kidsB w n).take i then idxP w (n.path ++ [b]) else baseV w n.path b
theorem wid_pos (w : List ByteArray) : 0 < widN w := Nat.succ_pos _
theorem dn_start (w : List ByteArray) : DnI w 0 (List.replicate ((trN w).length * widN w) 0) := by
  have hr : ∀ s c, rowAt (List.replicate ((trN w).length * widN w) (0 : Int)) (widN w) s c = 0 := fun s c => by
    unfold rowAt
    rw [List.getD_eq_getElem?_getD, List.getElem?_replicate]
    split <;> rfl
  exact ⟨List.length_replicate, fun s _ => hr s 0, fun s m _ h => by omega, fun s _ _ c _ => hr s c⟩
theorem fail_at (hs : srt w) {k : Nat} {n : NodeD} (h : (trN w)[k]? = some n) : ∃ (f : Nat) (m : NodeD), (trN w)[f]? = some m ∧ m.path = failP w n.path ∧ idxP w (failP w n.path) = (f : Int) ∧ f < (trN w).length ∧ (n.path ≠ [] → f < k) ∧ (n.path = [] → f = 0 ∧ k = 0) := by
  obtain ⟨f, m, h1, h2, h3⟩ := idx_node hs (lsufx_is hs n.path.tail)
  refine ⟨f, m, h1, h2, h3, (List.getElem?_eq_some_iff.1 h1).1, fun hn => idx_lt hs h1 h (by rw [h2]; exact fail_short _ hn), fun hn => ?_⟩
  have e1 := idx_at hs h
  rw [hn, idx_nil hs] at e1
  rw [hn] at h3
  have e2 : idxP w (lsufx w ([] : List UInt8).tail) = 0 := idx_nil hs
  rw [e2] at h3
  omega
theorem dn_copy (hs : srt w) {k : Nat} {n : NodeD} {T : List Int} (h : (trN w)[k]? = some n) (hT : DnI w k T) {f : Nat} (hf : idxP w (failP w n.path) = (f : Int)) : DnK w k 0 n (dnCopy T (widN w) k f) := by
  obtain ⟨f', m, g1, g2, g3, g4, g5, g6⟩ := fail_at hs h
  obtain rfl : f' = f := by rw [g3] at hf; omega
  have hk : k < (trN w).length := (List.getElem?_eq_some_iff.1 h).1
  have hz : ∀ b, clN w b < widN w := clN_lt w
  refine ⟨dnCopy_length hT.len hk g4, fun s hs => ?_, fun s m' hm hsk b => ?_, fun s hks hsn c hc => ?_, fun b => ?_⟩
  · rw [dnCopy_at hT.len hk g4 _ _ (wid_pos w)]
    split
    · exact hT.zero0 _ g4
    · exact hT.zero0 _ hs
  · rw [dnCopy_at hT.len hk g4 _ _ (hz b), if_neg (by omega)]
    exact hT.row s m' hm hsk b
  · rw [dnCopy_at hT.len hk g4 _ _ hc, if_neg (by omega)]
    exact hT.rest s (by omega) hsn c hc
  · rw [dnCopy_at hT.len hk g4 _ _ (hz b), if_pos rfl, List.take_zero, if_neg (by simp)]
    unfold baseV
    by_cases hp : n.path = []
    · obtain ⟨rfl, rfl⟩ := g6 hp
      rw [if_pos hp]
      exact hT.rest 0 (Nat.le_refl _) g4 _ (hz b)
    · rw [if_neg hp, ← g2]
      exact hT.row _ m g1 (g5 hp) b
theorem dn_put (hs : srt w) {k i : Nat} {n : NodeD} {T : List Int} (h : (trN w)[k]? = some n) (hT : DnK w k i n T) {b : UInt8} (hb : (kidsB w n)[i]? = some b) : DnK w k (i + 1) n (T.set (k * widN w + clN w b) (idxP w (n.path ++ [b]))) := by
  have hk : k < (trN w).length := (List.getElem?_eq_some_iff.1 h).1
  have hz : ∀ b, clN w b < widN w := clN_lt w
  have hbm : b ∈ kidsB w n := List.mem_of_getElem? hb
  have hp := kid_mark hs ((kidsB_mem hs h b).1 hbm)
  refine ⟨by rw [List.length_set]; exact hT.len, fun s hsn => ?_, fun s m' hm hsk b' => ?_, fun s hks hsn c hc => ?_, fun b' => ?_⟩
  · rw [dnSet_at hT.len hk (hz b) _ _ _ (wid_pos w), if_neg (by omega)]
    exact hT.zero0 s hsn
  · rw [dnSet_at hT.len hk (hz b) _ _ _ (hz b'), if_neg (by omega)]
    exact hT.row s m' hm hsk b'
  · rw [dnSet_at hT.len hk (hz b) _ _ _ hc, if_neg (by omega)]
    exact hT.rest s hks hsn c hc
  · rw [dnSet_at hT.len hk (hz b) _ _ _ (hz b'), List.take_add_one, hb]
    by_cases e : b' = b
    · subst e
      rw [if_pos ⟨rfl, rfl⟩, if_pos (by simp)]
    · rw [if_neg (fun g => e (clN_inj w hp g.2.symm).symm), hT.cur b']
      have : (b' ∈ (kidsB w n).take i ++ (some b).toList) ↔ b' ∈ (kidsB w n).take i := by simp [e]
      by_cases h2 : b' ∈ (kidsB w n).take i
      · rw [if_pos h2, if_pos (this.2 h2)]
      · rw [if_neg h2, if_neg (fun g => h2 (this.1 g))]
theorem dn_end (hs : srt w) {k : Nat} {n : NodeD} {T : List Int} (h : (trN w)[k]? = some n) (hT : DnK w k (kidsB w n).length n T) : DnI w (k + 1) T := by
  refine ⟨hT.len, hT.zero0, fun s m hm hsk b => ?_, fun s hks hsn c hc => hT.rest s (by omega) hsn c hc⟩
  rcases Nat.lt_or_ge s k with h1 | h1
  · exact hT.row s m hm h1 b
  · obtain rfl : s = k := by omega
    obtain rfl : n = m := by rw [h] at hm; injection hm
    rw [hT.cur b, List.take_length]
    by_cases hb : b ∈ kidsB w n
    · rw [if_pos hb, step_self ((kidsB_mem hs h b).1 hb)]
    · have hn := fun g => hb ((kidsB_mem hs h b).2 g)
      rw [if_neg hb]
      unfold baseV
      by_cases hp : n.path = []
      · rw [hp] at hn ⊢
        rw [if_pos rfl, step_nil hn, idx_nil hs]
      · rw [if_neg hp, step_fall hs hn]
        rfl
/-- The classes' bytes. -/
theorem clEnd_nth (M : List Int) : ∀ k j, j < (clEnd M k).2.length → ∃ b, b < k ∧ M.getD b 0 > 0 ∧ (clEnd M k).2.getD j 0 = (b : Int) ∧ (clEnd M b).2.length = j
  | 0, j, h => by simp [clEnd] at h
  | k + 1, j, h => by
    by_cases hk : M.getD k 0 > 0
    · have e : (clEnd M (k + 1)).2 = (clEnd M k).2 ++ [(k : Int)] := by simp only [clEnd]; rw [if_pos hk]
      rw [e] at h ⊢
      rw [List.length_append, List.length_singleton] at h
      rcases Nat.lt_or_ge j (clEnd M k).2.length with h1 | h1
      · obtain ⟨b, h2, h3, h4, h5⟩ := clEnd_nth M k j h1
        exact ⟨b, by omega, h3, by rw [List.getD_eq_getElem?_getD, List.getElem?_append_left h1, ← List.getD_eq_getElem?_getD]; exact h4, h5⟩
      · obtain rfl : j = (clEnd M k).2.length := by omega
        exact ⟨k, by omega, hk, by rw [List.getD_eq_getElem?_getD, List.getElem?_append_right (Nat.le_refl _), Nat.sub_self]; rfl, rfl⟩
    · have e : (clEnd M (k + 1)).2 = (clEnd M k).2 := by simp only [clEnd]; rw [if_neg hk]
      rw [e] at h ⊢
      obtain ⟨b, h2, h3, h4, h5⟩ := clEnd_nth M k j h
      exact ⟨b, by omega, h3, h4, h5⟩
def clBytes (w : List ByteArray) : List UInt8 := (clEnd (clMarks w) 256).2.map fun n => UInt8.ofNat n.toNat
theorem clBytes_length (w : List ByteArray) : (clBytes w).length + 1 = widN w := by unfold clBytes widN; rw [List.length_map]
theorem clBytes_at (w : List ByteArray) {j : Nat} (h : j < (clBytes w).length) : clN w ((clBytes w).getD j 0) = j + 1 := by
  have h' : j < (clEnd (clMarks w) 256).2.length := by unfold clBytes at h; rw [List.length_map] at h; exact h
  obtain ⟨b, h2, h3, h4, h5⟩ := clEnd_nth (clMarks w) 256 j h'
  have e : (clBytes w).getD j 0 = UInt8.ofNat b := by
    unfold clBytes
    rw [List.getD_eq_getElem?_getD, List.getElem?_map, List.getElem?_eq_getElem h']
    rw [List.getD_eq_getElem?_getD, List.getElem?_eq_getElem h'] at h4
    have h4' : (clEnd (clMarks w) 256).2[j] = (b : Int) := h4
    show UInt8.ofNat ((clEnd (clMarks w) 256).2[j]).toNat = _
    rw [h4', Int.toNat_natCast]
  have eb : (UInt8.ofNat b).toNat = b := by rw [UInt8.toNat_ofNat']; omega
  have hm : markB w b = true := by
    rw [clMarks_at w h2] at h3
    by_cases hmm : markB w b = true
    · exact hmm
    · rw [if_neg hmm] at h3; exact absurd h3 (by decide)
  rw [e]
  unfold clN
  rw [eb, clB_eq w h2, if_pos hm, h5]
  omega
/-- A state's row; all rows. -/
def rowL (w : List ByteArray) (p : List UInt8) : List Int := 0 :: (clBytes w).map fun b => idxP w (stepP w p b)
def denseT (w : List ByteArray) : List Int := (trN w).flatMap fun n => rowL w n.path
theorem rowL_length (w : List ByteArray) (p : List UInt8) : (rowL w p).length = widN w := by
  unfold rowL
  rw [List.length_cons, List.length_map, clBytes_length]
theorem flat_len (wd : Nat) (f : NodeD → List Int) (hf : ∀ n, (f n).length = wd) : ∀ l : List NodeD, (l.flatMap f).length = l.length * wd
  | [] => by simp
  | n :: l => by rw [List.flatMap_cons, List.length_append, hf, flat_len wd f hf l, List.length_cons, Nat.succ_mul]; omega
theorem flat_get (wd : Nat) (f : NodeD → List Int) (hf : ∀ n, (f n).length = wd) : ∀ (l : List NodeD) (s : Nat) (n : NodeD), l[s]? = some n → ((l.flatMap f).drop (s * wd)).take wd = f n
  | [], s, n, h => by simp at h
  | m :: l, 0, n, h => by
    simp only [List.getElem?_cons_zero, Option.some.injEq] at h
    subst h
    rw [Nat.zero_mul, List.drop_zero, List.flatMap_cons, List.take_append_of_le_length (by rw [hf]; exact Nat.le_refl _), List.take_of_length_le (by rw [hf]; exact Nat.le_refl _)]
  | m :: l, s + 1, n, h => by
    rw [List.getElem?_cons_succ] at h
    rw [List.flatMap_cons, Nat.succ_mul, Nat.add_comm, ← List.drop_drop, List.drop_left' (hf m)]
    exact flat_get wd f hf l s n h
theorem denseT_length (w : List ByteArray) : (denseT w).length = (trN w).length * widN w := flat_len _ _ (fun n => rowL_length w _) _
theorem take_at {T : List Int} {wd s c : Nat} (hc : c < wd) : ((T.drop (s * wd)).take wd).getD c 0 = rowAt T wd s c := by
  unfold rowAt
  rw [List.getD_eq_getElem?_getD, List.getElem?_take, if_pos hc, List.getElem?_drop, List.getD_eq_getElem?_getD]
theorem dn_row {T : List Int} (hT : DnI w (trN w).length T) {s : Nat} {m : NodeD} (h : (trN w)[s]? = some m) : (T.drop (s * widN w)).take (widN w) = rowL w m.path := by
  have hs : s < (trN w).length := (List.getElem?_eq_some_iff.1 h).1
  have k1 : (s + 1) * widN w ≤ (trN w).length * widN w := Nat.mul_le_mul_right _ hs
  rw [Nat.succ_mul] at k1
  have l1 : ((T.drop (s * widN w)).take (widN w)).length = widN w := by rw [List.length_take, List.length_drop, hT.len]; omega
  apply List.ext_getElem (by rw [l1, rowL_length])
  intro c h1 h2
  rw [l1] at h1
  have e1 : ((T.drop (s * widN w)).take (widN w)).getD c 0 = ((T.drop (s * widN w)).take (widN w))[c] := by
    rw [List.getD_eq_getElem?_getD, List.getElem?_eq_getElem (by rw [l1]; exact h1)]; rfl
  rw [← e1, take_at h1]
  cases c with
  | zero => exact hT.zero0 s hs
  | succ c =>
    have hc : c < (clBytes w).length := by have := clBytes_length w; omega
    have e2 := clBytes_at w hc
    have e3 := hT.row s m h hs ((clBytes w).getD c 0)
    rw [e2] at e3
    rw [e3]
    have e4 : (rowL w m.path)[c + 1]? = some (idxP w (stepP w m.path ((clBytes w).getD c 0))) := by
      show ((clBytes w).map fun b => idxP w (stepP w m.path b))[c]? = _
      rw [List.getElem?_map, List.getD_eq_getElem?_getD, List.getElem?_eq_getElem hc]
      rfl
    exact ((List.getElem?_eq_some_iff.1 e4).2).symm
theorem dn_all {T : List Int} (hT : DnI w (trN w).length T) : T = denseT w := by
  apply List.ext_getElem (by rw [hT.len, denseT_length])
  intro j h1 h2
  have hj := h1
  rw [hT.len] at hj
  have hw := wid_pos w
  have hs : j / widN w < (trN w).length := by rw [Nat.div_lt_iff_lt_mul hw]; exact hj
  obtain ⟨m, hm⟩ : ∃ m, (trN w)[j / widN w]? = some m := ⟨_, List.getElem?_eq_getElem hs⟩
  have e : j / widN w * widN w + j % widN w = j := by rw [Nat.mul_comm]; exact Nat.div_add_mod j _
  have hc := Nat.mod_lt j hw
  have r1 := dn_row hT hm
  have r2 := flat_get (widN w) (fun n => rowL w n.path) (fun n => rowL_length w _) (trN w) _ m hm
  have r3 := r1.trans r2.symm
  have a1 := take_at (T := T) (s := j / widN w) hc
  have a2 := take_at (T := denseT w) (s := j / widN w) hc
  rw [r1] at a1
  have r2' : ((denseT w).drop (j / widN w * widN w)).take (widN w) = rowL w m.path := r2
  rw [r2'] at a2
  have a3 := a1.symm.trans a2
  unfold rowAt at a3
  rw [e, List.getD_eq_getElem?_getD, List.getD_eq_getElem?_getD, List.getElem?_eq_getElem h1, List.getElem?_eq_getElem h2] at a3
  exact a3
end
end Go.Proofs.Ytbkcjeopcjghgaa.Base

/- The table of a set: the walk of New. -/
namespace Go.Proofs.Ytbkcjeopcjghgaa.P
open Go Go.RowKit Go.Proofs.YtbkcjeopcjghgaaW.PrintWords Go.Proofs.YtbkcjeopcjghgaaW.PrintLast Go.Proofs.YtbkcjeopcjghgaaW.PrintMore Go.Proofs.Ytbkcjeopcjghgaa.Base
set_option linter.unusedVariables false
set_option linter.unusedSimpArgs false

theorem den_start {N wd rw_ : Nat} (hN : N ≤ 4311744769) {w1 X : World} {Pc : Option Addr} (hXb : X.heap[w1.heap.size]? = some (.cells #[.pointer Pc, .slice none 0 0, .int .i64 wd, .int .i64 rw_] 65 (0, 0))) (hXs : X.heap.size = w1.heap.size + 1) (hB : Below w1.heap.size w1 X) :
    DenI w1 ((X.alloc (Z19 N)).setCell ⟨w1.heap.size, 1, none⟩ (.slice (some ⟨X.heap.size, 0, none⟩) N N)) w1.heap.size X.heap.size Pc wd rw_ N (List.replicate N 0) := by
  refine ⟨?_, ?_, List.length_replicate, Nat.le_refl _, by omega, by omega, ?_⟩
  · have h1 := (((Below.refl X.heap.size X).alloc (Nat.le_refl _) (Z19 N)).block _ (blk_lt hXb)).trans hXb
    have h2 := blk_set h1 1 (.slice (some ⟨X.heap.size, 0, none⟩) N N)
    simpa using h2
  · exact Kd.R_far (p := ⟨w1.heap.size, 1, none⟩) (R19 N hN X w1.heap.size (by omega)) (fun k hk e => by
      have e' : k = w1.heap.size := e
      omega) _
  · exact Below.setCell (p := ⟨w1.heap.size, 1, none⟩) (hB.alloc hB.size _) (Nat.le_refl _) _
def dense_New.f (a0 : Option SetD) : Option (Option DenseD) := if okT (setL a0) then some (some ⟨classD (setL a0), denseT (setL a0), widN (setL a0), (trN (setL a0)).length⟩) else none
set_option maxHeartbeats 16000000 in
set_option maxRecDepth 100000 in
theorem dense_New.calls (Pa0 : Option Addr) (a0 : Option SetD) (r : Option DenseD) (w : World) (ho : OB K57 w Pa0 a0) (h : dense_New.f a0 = some r) :
    Calls Try.prog 11 #[.pointer Pa0] w fun e w' => ∃ P0_ : Option Addr, e = .returned (.pointer P0_) ∧ OB K65 w' P0_ r ∧ Below w.heap.size w w' := by
  unfold dense_New.f at h
  by_cases hs : okT (setL a0)
  rotate_left
  · rw [if_neg hs] at h; cases h
  rw [if_pos hs] at h
  obtain rfl := Option.some.inj h
  have hK := class_New.calls Pa0 a0 (some (classD (setL a0))) w ho (if_pos ⟨by have := hs.2.1; omega, fun s hm => by have := (hs.2.2.1 s hm).2; omega⟩)
  have hL : ∀ W, Below w.heap.size w W → _ := fun W (g : Below w.heap.size w W) => link_New.calls Pa0 a0 (some ⟨trS (setL a0), failL (setL a0)⟩) W (OB.below g ho) (if_pos hs)
  generalize setL a0 = l at hs hK hL ⊢
  have hsrt := srt_of hs.1
  have hz := hs.2.2.2
  obtain ⟨n, hn⟩ : ∃ n, (trN l).length = n := ⟨_, rfl⟩
  obtain ⟨wd, hwd⟩ : ∃ wd, widN l = wd := ⟨_, rfl⟩
  have hw0 : 0 < wd := by rw [← hwd]; exact wid_pos l
  have hw1 : wd ≤ 257 := by rw [← hwd]; exact widN_le l
  have hn1 : n ≤ 16777217 := by have := trN_le hsrt; unfold trK at this; omega
  have HK := Aside0.mk hK
  have HL := Aside0.mk hL
  have HN := Aside0.mk hn
  have HWD := Aside0.mk hwd
  clear ho h hK hL hn hwd
  go_enter Try.func11, Try.ntmps11
  go_wp2_with (go_at_call 38; refine HK.out.mono ?_; rintro e wa ⟨Pc, rfl, hOB, hB1⟩; have HC := Aside0.mk hOB; have HB1 := Aside0.mk hB1; clear hOB hB1)
  go_wp2_with (go_at_call 39; refine (HL.out _ HB1.out).mono ?_; rintro e w1 ⟨Pl, rfl, hOB, hB2⟩; have HLK := Aside0.mk hOB; have HB2 := Aside0.mk hB2; clear hOB hB2)
  obtain ⟨al, rfl⟩ := OB.p_some HLK.out
  obtain ⟨bl, Pt, Al, cl, vl, rfl, hbl, hll, htr, hfl⟩ := OB.at HLK.out
  have hTr : ∀ W, Below w1.heap.size w1 W → Calls Try.prog 41 #[.pointer (some ⟨bl, 0, none⟩)] W fun e w' => e = .returned (.pointer Pt) ∧ Drawn0 W w' := fun W g => link_Trie_at W ((g.block _ (blk_lt hbl)).trans hbl)
  have hLn : ∀ W, Below w1.heap.size w1 W → Calls Try.prog 42 #[.pointer Pt] W fun e w' => e = .returned (.int .i64 (n : Int)) ∧ Drawn0 W w' := fun W g => trie_Trie_Len.calls Pt (some (trS l)) (n : Int) W (OB.below g htr) (by show some (((trS l).length : Nat) : Int) = _; rw [trS_length, HN.out])
  have hCl : ∀ W, Below w1.heap.size w1 W → Calls Try.prog 40 #[.pointer Pc] W fun e w' => e = .returned (.int .i64 (wd : Int)) ∧ Drawn0 W w' := fun W g => class_Classes_Len.calls Pc (some (classD l)) (wd : Int) W (OB.below g (OB.below HB2.out HC.out)) (by
    show (if (clEnd (clMarks l) 256).2.length ≤ 256 then some (((clEnd (clMarks l) 256).2.length : Int) + 1) else none) = _
    rw [if_pos (clEnd_length _ _).2, ← HWD.out]
    unfold widN
    congr 1)
  have HTR := Aside0.mk hTr
  have HLN := Aside0.mk hLn
  have HCL := Aside0.mk hCl
  clear hTr hLn hCl
  go_wp2_with (first
    | (go_at_call 41; refine (HTR.out _ (by repeat (first | exact Below.refl _ _ | (with_reducible apply pw_below_drewN) | (with_reducible apply below_drew)))).mono ?_; rintro e wq ⟨rfl, ⟨qt, rfl⟩⟩)
    | (go_at_call 42; refine (HLN.out _ (by repeat (first | exact Below.refl _ _ | (with_reducible apply pw_below_drewN) | (with_reducible apply below_drew)))).mono ?_; rintro e wq ⟨rfl, ⟨ql, rfl⟩⟩)
    | (go_at_call 40; refine (HCL.out _ (by repeat (first | exact Below.refl _ _ | (with_reducible apply pw_below_drewN) | (with_reducible apply below_drew)))).mono ?_; rintro e wq ⟨rfl, ⟨qc, rfl⟩⟩))
  obtain ⟨N, hN⟩ : ∃ N, n * wd = N := ⟨_, rfl⟩
  have hN1 : N ≤ 4311744769 := by
    rw [← hN]
    exact Nat.le_trans (Nat.mul_le_mul hn1 hw1) (by decide)
  have hNi : (n : Int) * (wd : Int) = (N : Int) := by rw [← hN, Int.natCast_mul]
  have hp1 : wrap64 ((n : Int) * (wd : Int)) = (N : Int) := by rw [hNi, wrap_id (by omega) (by omega)]
  have hmk : ∀ W : World, (Instr.makeSlice 63 (.int .i64 ((n : Int) * (wd : Int))) (.int .i64 ((n : Int) * (wd : Int)))).run Try.prog W = .ok (.slice (some ⟨W.heap.size, 0, none⟩) N N) (W.alloc (Z19 N)) := fun W => by rw [hNi]; exact mk19 N hN1 W
  have hmk2 := fun W => mk19 N hN1 W
  have HNN := Aside0.mk hN
  clear hN hNi
  obtain ⟨q0, hq0⟩ : ∃ q0, qc + qt + ql = q0 := ⟨_, rfl⟩
  rw [hq0]
  generalize hX : (w1.drewN q0).alloc (.cells #[.pointer Pc, .slice none 0 0, .int .i64 wd, .int .i64 n] 65) = X
  have hXb : X.heap[w1.heap.size]? = some (.cells #[.pointer Pc, .slice none 0 0, .int .i64 wd, .int .i64 n] 65 (0, 0)) := by rw [← hX]; exact heap_alloc_new _ _
  have hXs : X.heap.size = w1.heap.size + 1 := by rw [← hX]; show (w1.heap.push _).size = _; rw [Array.size_push]
  have hXB : Below w1.heap.size w1 X := by rw [← hX]; exact (pw_below_drewN (Below.refl _ _) _).alloc (Nat.le_refl _) _
  have hst := den_start hN1 hXb hXs hXB
  have HST := Aside0.mk hst
  have g1 : X.cell? ⟨w1.heap.size, 1, none⟩ = some (.slice none 0 0) := blk_cell hXb 1
  have g2 : X.cell? ⟨w1.heap.size, 2, none⟩ = some (.int .i64 (wd : Int)) := blk_cell hXb 2
  have g3 : X.cell? ⟨w1.heap.size, 3, none⟩ = some (.int .i64 (n : Int)) := blk_cell hXb 3
  have g4 : X.frozen? ⟨w1.heap.size, 1, none⟩ = false := blk_frozen hXb _
  have hZb := (((Below.refl X.heap.size X).alloc (Nat.le_refl _) (Z19 N)).block _ (blk_lt hXb)).trans hXb
  have g5 : (X.alloc (Z19 N)).cell? ⟨w1.heap.size, 1, none⟩ = some (.slice none 0 0) := blk_cell hZb 1
  have g6 : (X.alloc (Z19 N)).frozen? ⟨w1.heap.size, 1, none⟩ = false := blk_frozen hZb _
  clear hXb hZb hst hXs hXB hX hq0
  go_cut [] (fun wx => Aside0 (∃ g, DenI w1 wx w1.heap.size g Pc wd n N (List.replicate N 0)))
  case first =>
    go_region
    all_goals
      go_wp2_with fail
      go_meet
      case rel => exact ⟨_, HST.out.below (by repeat (first | exact Below.refl _ _ | (with_reducible apply pw_below_drewN) | (with_reducible apply below_drew)))⟩
  case rest =>
    clear g1 g2 g3 g4 g5 g6 HST hmk hmk2 hp1
    obtain ⟨g, hI0⟩ := hcut.out
    clear hcut
    have r3 : wc.cell? ⟨w1.heap.size, 3, none⟩ = some (.int .i64 (n : Int)) := blk_cell hI0.hb 3
    generalize w1.heap.size = b at hI0 r3 ⊢
    have HI0 := Aside0.mk hI0
    have HTT := Aside0.mk htr
    clear hI0 hbl hll htr hfl
    go_wp2_with fail
    go_loopg [6, 7, 8, 9, 10, 40] n (fun kx x6 x7 x8 x9 x10 s W => ∃ (k : Nat) (T : List Int), s = .int .i64 k ∧ k ≤ n ∧ n - k ≤ kx ∧ Aside0 (DnI l k T) ∧ Aside0 (DenI w1 W b g Pc wd n N T))
    case atStart => exact ⟨0, _, rfl, Nat.zero_le _, Nat.le_refl _, ⟨by have := dn_start l; rw [HN.out, HWD.out, HNN.out] at this; exact this⟩, HI0⟩
    case round =>
      clear HI0 r3
      obtain ⟨k, T, rfl, hkn, hkx, HD, HI⟩ := hrel
      by_cases hlt : k < n
      · have hd : decide ((k : Int) < (n : Int)) = true := decide_eq_true (by omega)
        obtain ⟨nd, hnd⟩ : ∃ nd, (trN l)[k]? = some nd := ⟨_, List.getElem?_eq_getElem (by rw [HN.out]; exact hlt)⟩
        obtain ⟨f, mf, hf1, hf2, hf3, hf4, hf5, hf6⟩ := fail_at hsrt hnd
        rw [HN.out] at hf4
        have hso2 : k * wd + wd ≤ N := by
          have := Nat.mul_le_mul_right wd hlt
          rw [HNN.out, Nat.succ_mul] at this
          exact this
        have hfo2 : f * wd + wd ≤ N := by
          have := Nat.mul_le_mul_right wd hf4
          rw [HNN.out, Nat.succ_mul] at this
          exact this
        have hRow : ∀ (W0 : World) (T0 : List Int), DenI w1 W0 b g Pc wd n N T0 → ∀ kk : Nat, kk * wd + wd ≤ N ∧ kk < n → ∀ W, Below W0.heap.size W0 W → Calls Try.prog 43 #[.pointer (some ⟨b, 0, none⟩), .int .i64 (kk : Int)] W fun e w' => e = .returned (.slice (some ⟨g, kk * wd, none⟩) wd wd) ∧ Drawn0 W w' := by
          intro W0 T0 hD0 kk h2 W hW
          have := dense_row (v := .int .i64 (n : Int)) kk W (hD0.below hW).hb (by rw [Nat.succ_mul]; exact h2.1) (by rw [Nat.succ_mul]; omega) (by omega) hw0 (by omega)
          simpa [Addr.add_lit] using this
        have HG1 := Aside0.mk (And.intro hso2 hlt)
        have HG2 := Aside0.mk (And.intro hfo2 hf4)
        have hFail : ∀ W, Below w1.heap.size w1 W → Calls Try.prog 44 #[.pointer (some ⟨bl, 0, none⟩), .int .i64 (k : Int)] W fun e w' => e = .returned (.int .i64 (f : Int)) ∧ Drawn0 W w' := fun W hW => link_Link_Fail.calls _ (some ⟨trS l, failL l⟩) (k : Int) (f : Int) W (OB.below hW HLK.out) (by
          unfold link_Link_Fail.f
          rw [if_pos ⟨by omega, by show (k : Int) < (((trS l).length : Nat) : Int); rw [trS_length, HN.out]; omega⟩]
          show (if (k : Int) < ((failL l).length : Int) then some (rd (failL l) (k : Int)) else none) = _
          rw [if_pos (by rw [failL_length, HN.out]; omega), failL_at hnd, hf3])
        have hBy : ∀ W, Below w1.heap.size w1 W → Calls Try.prog 45 #[.pointer Pt, .int .i64 (k : Int)] W fun e w' => e = .returned (.string (strP (kidsB l nd))) ∧ Below W.heap.size W w' := fun W hW => trie_Trie_Bytes.calls Pt (some (trS l)) (k : Int) _ W (OB.below hW HTT.out) (kidsB_val hsrt hz hnd)
        have hDK := dn_copy hsrt hnd HD.out hf3
        rw [HWD.out] at hDK
        have hDK2 : DnK l k 0 nd (T.take (k * wd) ++ (T.drop (f * wd)).take wd ++ T.drop (k * wd + wd)) := by
          have e : dnCopy T wd k f = T.take (k * wd) ++ (T.drop (f * wd)).take wd ++ T.drop (k * wd + wd) := by unfold dnCopy; rw [Nat.succ_mul]
          rw [← e]; exact hDK
        have HDK := Aside0.mk hDK2
        have HRR := Aside0.mk (hRow wr T HI.out)
        have HRW := Aside0.mk hRow
        have HFL := Aside0.mk hFail
        have HBY := Aside0.mk hBy
        have HND := Aside0.mk hnd
        have HCP := Aside0.mk (fun W (g : Below wr.heap.size wr W) => (HI.out.below g).copy 3 (k * wd) (f * wd) hso2 hfo2)
        obtain ⟨sB, hsB⟩ : ∃ sB, strP (kidsB l nd) = sB := ⟨_, rfl⟩
        rw [hsB] at hBy
        have HSB := Aside0.mk hsB
        have hm : sB.size = (kidsB l nd).length := by rw [← hsB, strP_size]
        have HBY := Aside0.mk hBy
        have HM := Aside0.mk hm
        clear hRow hFail hBy hDK hDK2 hnd hf1 hf2 hf3 hf5 hf6 hsB hm hso2 hfo2
        go_wp2_with (first
          | (go_at_call 43; refine (HRR.out _ (by first | exact HG1.out | exact HG2.out) _ (by repeat (first | exact Below.refl _ _ | (with_reducible apply pw_below_drewN) | (with_reducible apply below_drew)))).mono ?_; rintro e wq ⟨rfl, ⟨qa, rfl⟩⟩)
          | (go_at_call 44; refine (HFL.out _ (by repeat (first | exact HI.out.hB | (with_reducible apply pw_below_drewN) | (with_reducible apply below_drew)))).mono ?_; rintro e wq ⟨rfl, ⟨qb, rfl⟩⟩; obtain ⟨qx, hqx⟩ : ∃ qx, qa + qb = qx := ⟨_, rfl⟩; have HQX := Aside0.mk hqx; clear hqx))
        rw [HQX.out]
        obtain ⟨w2, hrun, hI2⟩ := HCP.out (wr.drewN (qx + qa)) (pw_below_drewN (Below.refl _ _) _)
        rw [hrun]
        have HI2 := Aside0.mk hI2
        clear hrun hI2 HQX
        simp only [Result.andThen]
        rw [Oper.upon_value]
        go_wp2_with (first
          | (go_at_call 41; refine (HTR.out _ (by repeat (first | exact HI2.out.hB | (with_reducible apply pw_below_drewN) | (with_reducible apply below_drew)))).mono ?_; rintro e wq ⟨rfl, ⟨qd, rfl⟩⟩)
          | (go_at_call 45; refine (HBY.out _ (by repeat (first | exact HI2.out.hB | (with_reducible apply pw_below_drewN) | (with_reducible apply below_drew)))).mono ?_; rintro e w3 ⟨rfl, hB3⟩; have HI3 := Aside0.mk ((HI2.out.below (pw_below_drewN (Below.refl _ _) qd)).below hB3); clear hB3))
        obtain ⟨m, hm⟩ : ∃ m, sB.size = m := ⟨_, rfl⟩
        rw [hm]
        have HMM := Aside0.mk hm
        have hmk2 : m ≤ 16777217 := by
          have h1 := HM.out
          have h2 := (first_gt hsrt HND.out).2
          have h3 : (kidsB l nd).length = (nd.gr l).length := List.length_map ..
          have h4 := HN.out
          omega
        clear hm
        go_loopg [8, 9, 10, 58] m (fun kx x8 x9 x10 s W => ∃ (i : Nat) (T3 : List Int), s = .int .i64 i ∧ i ≤ m ∧ m - i ≤ kx ∧ Aside0 (DnK l k i nd T3) ∧ Aside0 (DenI w1 W b g Pc wd n N T3))
        case atStart => exact ⟨0, _, rfl, Nat.zero_le _, Nat.le_refl _, HDK, HI3⟩
        case round =>
          clear HI3 HDK HI2 HI HD HBY HCP HRR HFL
          obtain ⟨i, T3, rfl, him, hkx2, HD6, HI6⟩ := hrel
          by_cases hilt : i < m
          · have hd2 : decide ((i : Int) < (m : Int)) = true := decide_eq_true (by omega)
            have hkl : (kidsB l nd).length = m := by rw [← HM.out, HMM.out]
            obtain ⟨c, hc⟩ : ∃ c, (kidsB l nd)[i]? = some c := ⟨_, List.getElem?_eq_getElem (by rw [hkl]; exact hilt)⟩
            have hge := (kidsB_mem hsrt HND.out c).1 (List.mem_of_getElem? hc)
            obtain ⟨ti, mt, ht1, ht2, ht3⟩ := idx_node hsrt hge
            have htn : ti < n := by have := (List.getElem?_eq_some_iff.1 ht1).1; rw [HN.out] at this; exact this
            have hnx := next_is hsrt hz HND.out c
            rw [if_pos hge, ht3] at hnx
            have hdp := dn_put hsrt HND.out HD6.out hc
            rw [ht3, HWD.out] at hdp
            have hcl := clN_lt l c
            rw [HWD.out] at hcl
            have hof := clN_is l c
            obtain ⟨cl2, hcl2⟩ : ∃ cl2, clN l c = cl2 := ⟨_, rfl⟩
            rw [hcl2] at hdp hcl hof
            have hby : ∀ h : i < sB.size, (sB[i]'h).toNat = c.toNat := fun h => by
              have e : LL sB = kidsB l nd := by rw [← HSB.out, LL_strP]
              have e2 : (LL sB)[i]? = some c := by rw [e]; exact hc
              obtain ⟨h3, h4⟩ := List.getElem?_eq_some_iff.1 e2
              rw [← h4]
              rfl
            obtain ⟨cc, hcc⟩ : ∃ cc : Nat, c.toNat = cc := ⟨_, rfl⟩
            rw [hcc] at hnx hof hby
            have hNx := fun W (hW : Below w1.heap.size w1 W) => trie_Trie_Next.calls Pt (some (trS l)) (k : Int) (cc : Int) (ti : Int) true W (OB.below hW HTT.out) hnx
            have hOf := fun W (hW : Below w1.heap.size w1 W) => class_Classes_Of.calls Pc (some (classD l)) (cc : Int) (cl2 : Int) W (OB.below hW (OB.below HB2.out HC.out)) hof
            have HNX := Aside0.mk hNx
            have HOF := Aside0.mk hOf
            have HRR := Aside0.mk (HRW.out wr T3 HI6.out)
            have HDP := Aside0.mk hdp
            have hI7 := HI6.out
            have hT7 := hI7.hT
            rw [← hI7.len] at hT7
            have hcw : k * wd + cl2 < N := by have := HG1.out.1; omega
            have hco := Kd.R_celln 0 hT7 ((k * wd + cl2 : Nat) : Int) (by omega) (by rw [hI7.len]; omega)
            rw [Int.toNat_natCast] at hco
            obtain ⟨u1, hu1⟩ : ∃ u, wr.cell? ⟨g, k * wd + cl2, none⟩ = some u := ⟨_, hco.1⟩
            have f1 : ∀ m', (wr.drewN m').cell? ⟨g, k * wd + cl2, none⟩ = some u1 := fun _ => hu1
            have f2 : ∀ m', (wr.drewN m').frozen? ⟨g, k * wd + cl2, none⟩ = false := fun _ => hco.2
            have f3 : (cl2 : Int) < (wd : Int) := by omega
            have f4 : (i : Int) < (m : Int) := by omega
            have f5 : (ti : Int) ≤ 2147483647 := by omega
            have f6 : (i : Int) < (sB.size : Int) := by rw [HMM.out]; omega
            clear hI7 hT7 hco hu1 hNx hOf hdp hnx hof hge hc ht1 ht2 ht3 hkl hcl2 hcc hcw
            go_wp2_with fail
            go_region_with (first
              | (go_at_call 41; refine (HTR.out _ (by repeat (first | exact HI6.out.hB | (with_reducible apply pw_below_drewN) | (with_reducible apply below_drew)))).mono ?_; rintro e wq ⟨rfl, ⟨qd, rfl⟩⟩)
              | (go_at_call 46; refine (HNX.out _ (by repeat (first | exact HI6.out.hB | (with_reducible apply pw_below_drewN) | (with_reducible apply below_drew)))).mono ?_; rintro e wq ⟨rfl, ⟨qe, rfl⟩⟩))
            all_goals
              go_wp2_with fail
              go_region_with (first
                | (go_at_call 43; refine (HRR.out _ HG1.out _ (by repeat (first | exact Below.refl _ _ | (with_reducible apply pw_below_drewN) | (with_reducible apply below_drew)))).mono ?_; rintro e wq ⟨rfl, ⟨qg, rfl⟩⟩)
                | (go_at_call 47; refine (HOF.out _ (by repeat (first | exact HI6.out.hB | (with_reducible apply pw_below_drewN) | (with_reducible apply below_drew)))).mono ?_; rintro e wq ⟨rfl, ⟨qh, rfl⟩⟩))
              all_goals
                go_wp2_with fail
                go_roundg (m - (i + 1))
                case measure => omega
                case rel => exact ⟨i + 1, _, by go_num, by omega, Nat.le_refl _, HDP, ⟨(HI6.out.below (by repeat (first | exact Below.refl _ _ | (with_reducible apply pw_below_drewN) | (with_reducible apply below_drew)))).put _ _⟩⟩
          · obtain rfl : i = m := by omega
            have hd2 : decide ((i : Int) < (i : Int)) = false := decide_eq_false (by omega)
            have hde := dn_end hsrt HND.out (T := T3) (by have := HD6.out; rw [show i = (kidsB l nd).length from by rw [← HMM.out, HM.out]] at this; exact this)
            have HDE := Aside0.mk hde
            clear hde
            go_wp2_with fail
            go_roundg (n - (k + 1))
            case measure => omega
            case rel => exact ⟨k + 1, T3, by go_num, by omega, Nat.le_refl _, HDE, HI6⟩
      · obtain rfl : k = n := by omega
        have hd : decide ((k : Int) < (k : Int)) = false := decide_eq_false (by omega)
        have hTe : T = denseT l := dn_all (by rw [HN.out]; exact HD.out)
        subst hTe
        go_wp2
        go_ret
        have hI := HI.out
        refine ⟨_, rfl, ?_, HB1.out.trans ((HB2.out.trans (hI.hB.mono HB2.out.size)).mono HB1.out.size)⟩
        show K65.R _ _ _
        refine ⟨b, Pc, some ⟨g, 0, none⟩, N, rfl, ?_, ?_, OB.below hI.hB (OB.below HB2.out HC.out), ?_⟩
        · show wr.heap[b]? = some (.cells #[.pointer Pc, .slice (some ⟨g, 0, none⟩) (denseT l).length N, .int .i64 ((widN l : Nat) : Int), .int .i64 (((trN l).length : Nat) : Int)] _ (0, 0))
          rw [hI.len, HWD.out, HN.out]
          exact hI.hb
        · show (denseT l).length ≤ N
          rw [hI.len]
          exact Nat.le_refl _
        · show Kd.C (Kd.int .i32) _ _ (denseT l).length (denseT l)
          have h := hI.hT
          rw [show N = (denseT l).length from hI.len.symm] at h
          exact (Kd.R_reads' h).2.2
end Go.Proofs.Ytbkcjeopcjghgaa.P

/- Proved here: what Go functions of this seat compute, or a law of it; no condition beyond the statement's own. Written for this claim by a program of this session (wip/myprint.py) over the kit's print.py. -/
namespace Go.Proofs.Ytbkcjeopcjghgaa.P
open Go.RowKit Go.Proofs.YtbkcjeopcjghgaaW.PrintWords Go.Proofs.YtbkcjeopcjghgaaW.PrintLast Go.Proofs.YtbkcjeopcjghgaaW.PrintMore
attribute [local go_sem] max2_int min2_int max_two min_two max_three min_three max_four min_four   -- for this text's walks alone
set_option linter.unusedVariables false
set_option linter.unusedSimpArgs false

/-! ### juratlaw19_awake: function 8 -/
def juratlaw19_awake.f (k : Nat)  : Option (Bool) := (pats_New.f (([(⟨#[97, 98]⟩ : ByteArray), (⟨#[98]⟩ : ByteArray)] : List ByteArray))).bind fun bt108 => ((dense_New.f bt108.1).bind fun t111 => (if bt108.2 = 0 then ((dense_Table_Len.f t111).bind fun t112 => (if t112 = 4 then ((dense_Table_Row.f t111 0).bind fun t113 => ((juratref01_Same.f k t113 (([0, 1, 2] : List Int))).bind fun t119 => (if t119 = true then ((dense_Table_Row.f t111 1).bind fun t120 => ((juratref01_Same.f k t120 (([0, 1, 3] : List Int))).bind fun t126 => (if t126 = true then ((dense_Table_Row.f t111 3).bind fun t127 => ((juratref01_Same.f k t127 (([0, 1, 2] : List Int))).bind fun t133 => (some t133))) else (some false)))) else (some false)))) else (some false))) else (some false)))
theorem juratlaw19_awake.mono : ∀ k, LeO (juratlaw19_awake.f k ) (juratlaw19_awake.f (k + 1) ) := by
  intro  k
  unfold juratlaw19_awake.f
  repeat' first
      | (with_reducible exact juratref01_Same.mono _ _ _)
      | (with_reducible exact LeO.refl _)
      | (with_reducible exact LeO.none _)
      | (with_reducible refine LeO.ite ?_ ?_)
      | (with_reducible refine LeO.bind ?_ (fun _ => ?_))
      | exact juratref01_Same.mono _ _ _
      | exact LeO.none _
      | refine LeO.ite ?_ ?_
      | refine LeO.bind ?_ (fun _ => ?_)
set_option maxHeartbeats 8000000 in
set_option maxRecDepth 100000 in
theorem juratlaw19_awake.calls (k : Nat)  (r : Bool) (w : World) (h : juratlaw19_awake.f k  = some r) :
    Calls Try.prog 8 #[] w fun e w' => e = .returned (.bool r) ∧ Below w.heap.size w w' := by
  have HB := Aside0.mk (Below.refl w.heap.size w)
  have H : ((pats_New.f (([(⟨#[97, 98]⟩ : ByteArray), (⟨#[98]⟩ : ByteArray)] : List ByteArray))).bind fun bt108 => ((dense_New.f bt108.1).bind fun t111 => (if bt108.2 = 0 then ((dense_Table_Len.f t111).bind fun t112 => (if t112 = 4 then ((dense_Table_Row.f t111 0).bind fun t113 => ((juratref01_Same.f k t113 (([0, 1, 2] : List Int))).bind fun t119 => (if t119 = true then ((dense_Table_Row.f t111 1).bind fun t120 => ((juratref01_Same.f k t120 (([0, 1, 3] : List Int))).bind fun t126 => (if t126 = true then ((dense_Table_Row.f t111 3).bind fun t127 => ((juratref01_Same.f k t127 (([0, 1, 2] : List Int))).bind fun t133 => (some t133))) else (some false)))) else (some false)))) else (some false))) else (some false)))) = some r := h
  clear h
  obtain ⟨y105, hy105⟩ : ∃ y_ : List ByteArray, y_ = (([(⟨#[97, 98]⟩ : ByteArray), (⟨#[98]⟩ : ByteArray)] : List ByteArray)) := ⟨_, rfl⟩
  replace H : ((pats_New.f y105).bind fun bt108 => ((dense_New.f bt108.1).bind fun t111 => (if bt108.2 = 0 then ((dense_Table_Len.f t111).bind fun t112 => (if t112 = 4 then ((dense_Table_Row.f t111 0).bind fun t113 => ((juratref01_Same.f k t113 (([0, 1, 2] : List Int))).bind fun t119 => (if t119 = true then ((dense_Table_Row.f t111 1).bind fun t120 => ((juratref01_Same.f k t120 (([0, 1, 3] : List Int))).bind fun t126 => (if t126 = true then ((dense_Table_Row.f t111 3).bind fun t127 => ((juratref01_Same.f k t127 (([0, 1, 2] : List Int))).bind fun t133 => (some t133))) else (some false)))) else (some false)))) else (some false))) else (some false)))) = some r := by first | (rw [hy105]; with_reducible exact H) | (have H2_ := (Option.bind_some _ _).symm.trans H; rw [hy105]; with_reducible exact H2_) | (have H2_ := (Option.bind_some _ _).symm.trans H; with_reducible exact H2_) | with_reducible exact H | (rw [hy105]; exact H) | exact H
  have Ny105 := Aside0.mk hy105
  clear hy105
  replace H := Option.bind_eq_some_iff.mp H
  obtain ⟨⟨t108, t109⟩, A10, H⟩ := H
  replace H : ((dense_New.f t108).bind fun t111 => (if t109 = 0 then ((dense_Table_Len.f t111).bind fun t112 => (if t112 = 4 then ((dense_Table_Row.f t111 0).bind fun t113 => ((juratref01_Same.f k t113 (([0, 1, 2] : List Int))).bind fun t119 => (if t119 = true then ((dense_Table_Row.f t111 1).bind fun t120 => ((juratref01_Same.f k t120 (([0, 1, 3] : List Int))).bind fun t126 => (if t126 = true then ((dense_Table_Row.f t111 3).bind fun t127 => ((juratref01_Same.f k t127 (([0, 1, 2] : List Int))).bind fun t133 => (some t133))) else (some false)))) else (some false)))) else (some false))) else (some false))) = some r := H
  have A1 := Aside0.mk A10
  clear A10
  replace H := Option.bind_eq_some_iff.mp H
  obtain ⟨t111, A20, H⟩ := H
  replace H : (if t109 = 0 then ((dense_Table_Len.f t111).bind fun t112 => (if t112 = 4 then ((dense_Table_Row.f t111 0).bind fun t113 => ((juratref01_Same.f k t113 (([0, 1, 2] : List Int))).bind fun t119 => (if t119 = true then ((dense_Table_Row.f t111 1).bind fun t120 => ((juratref01_Same.f k t120 (([0, 1, 3] : List Int))).bind fun t126 => (if t126 = true then ((dense_Table_Row.f t111 3).bind fun t127 => ((juratref01_Same.f k t127 (([0, 1, 2] : List Int))).bind fun t133 => (some t133))) else (some false)))) else (some false)))) else (some false))) else (some false)) = some r := H
  have A2 := Aside0.mk A20
  clear A20
  by_cases c3 : t109 = 0
  · rw [if_pos c3] at H
    have c3b0 : (t109 == 0) = true := beq_iff_eq.mpr c3
    have c3b1 : (t109 != 0) = false := bne_eq_false_iff_eq.mpr c3
    clear c3
    replace H := Option.bind_eq_some_iff.mp H
    obtain ⟨t112, A40, H⟩ := H
    replace H : (if t112 = 4 then ((dense_Table_Row.f t111 0).bind fun t113 => ((juratref01_Same.f k t113 (([0, 1, 2] : List Int))).bind fun t119 => (if t119 = true then ((dense_Table_Row.f t111 1).bind fun t120 => ((juratref01_Same.f k t120 (([0, 1, 3] : List Int))).bind fun t126 => (if t126 = true then ((dense_Table_Row.f t111 3).bind fun t127 => ((juratref01_Same.f k t127 (([0, 1, 2] : List Int))).bind fun t133 => (some t133))) else (some false)))) else (some false)))) else (some false)) = some r := H
    have A4 := Aside0.mk A40
    clear A40
    by_cases c5 : t112 = 4
    · rw [if_pos c5] at H
      have c5b0 : (t112 == 4) = true := beq_iff_eq.mpr c5
      have c5b1 : (t112 != 4) = false := bne_eq_false_iff_eq.mpr c5
      clear c5
      replace H := Option.bind_eq_some_iff.mp H
      obtain ⟨t113, A60, H⟩ := H
      replace H : ((juratref01_Same.f k t113 (([0, 1, 2] : List Int))).bind fun t119 => (if t119 = true then ((dense_Table_Row.f t111 1).bind fun t120 => ((juratref01_Same.f k t120 (([0, 1, 3] : List Int))).bind fun t126 => (if t126 = true then ((dense_Table_Row.f t111 3).bind fun t127 => ((juratref01_Same.f k t127 (([0, 1, 2] : List Int))).bind fun t133 => (some t133))) else (some false)))) else (some false))) = some r := H
      have A6 := Aside0.mk A60
      clear A60
      obtain ⟨y116, hy116⟩ : ∃ y_ : List Int, y_ = (([0, 1, 2] : List Int)) := ⟨_, rfl⟩
      replace H : ((juratref01_Same.f k t113 y116).bind fun t119 => (if t119 = true then ((dense_Table_Row.f t111 1).bind fun t120 => ((juratref01_Same.f k t120 (([0, 1, 3] : List Int))).bind fun t126 => (if t126 = true then ((dense_Table_Row.f t111 3).bind fun t127 => ((juratref01_Same.f k t127 (([0, 1, 2] : List Int))).bind fun t133 => (some t133))) else (some false)))) else (some false))) = some r := by first | (rw [hy116]; with_reducible exact H) | (have H2_ := (Option.bind_some _ _).symm.trans H; rw [hy116]; with_reducible exact H2_) | (have H2_ := (Option.bind_some _ _).symm.trans H; with_reducible exact H2_) | with_reducible exact H | (rw [hy116]; exact H) | exact H
      have Ny116 := Aside0.mk hy116
      clear hy116
      replace H := Option.bind_eq_some_iff.mp H
      obtain ⟨t119, A70, H⟩ := H
      replace H : (if t119 = true then ((dense_Table_Row.f t111 1).bind fun t120 => ((juratref01_Same.f k t120 (([0, 1, 3] : List Int))).bind fun t126 => (if t126 = true then ((dense_Table_Row.f t111 3).bind fun t127 => ((juratref01_Same.f k t127 (([0, 1, 2] : List Int))).bind fun t133 => (some t133))) else (some false)))) else (some false)) = some r := H
      have A7 := Aside0.mk A70
      clear A70
      by_cases c8 : t119 = true
      · subst c8
        have H1 : ((dense_Table_Row.f t111 1).bind fun t120 => ((juratref01_Same.f k t120 (([0, 1, 3] : List Int))).bind fun t126 => (if t126 = true then ((dense_Table_Row.f t111 3).bind fun t127 => ((juratref01_Same.f k t127 (([0, 1, 2] : List Int))).bind fun t133 => (some t133))) else (some false)))) = some r := by rw [if_pos rfl] at H; exact H
        clear H
        have H := H1
        clear H1
        replace H := Option.bind_eq_some_iff.mp H
        obtain ⟨t120, A90, H⟩ := H
        replace H : ((juratref01_Same.f k t120 (([0, 1, 3] : List Int))).bind fun t126 => (if t126 = true then ((dense_Table_Row.f t111 3).bind fun t127 => ((juratref01_Same.f k t127 (([0, 1, 2] : List Int))).bind fun t133 => (some t133))) else (some false))) = some r := H
        have A9 := Aside0.mk A90
        clear A90
        obtain ⟨y123, hy123⟩ : ∃ y_ : List Int, y_ = (([0, 1, 3] : List Int)) := ⟨_, rfl⟩
        replace H : ((juratref01_Same.f k t120 y123).bind fun t126 => (if t126 = true then ((dense_Table_Row.f t111 3).bind fun t127 => ((juratref01_Same.f k t127 (([0, 1, 2] : List Int))).bind fun t133 => (some t133))) else (some false))) = some r := by first | (rw [hy123]; with_reducible exact H) | (have H2_ := (Option.bind_some _ _).symm.trans H; rw [hy123]; with_reducible exact H2_) | (have H2_ := (Option.bind_some _ _).symm.trans H; with_reducible exact H2_) | with_reducible exact H | (rw [hy123]; exact H) | exact H
        have Ny123 := Aside0.mk hy123
        clear hy123
        replace H := Option.bind_eq_some_iff.mp H
        obtain ⟨t126, A100, H⟩ := H
        replace H : (if t126 = true then ((dense_Table_Row.f t111 3).bind fun t127 => ((juratref01_Same.f k t127 (([0, 1, 2] : List Int))).bind fun t133 => (some t133))) else (some false)) = some r := H
        have A10 := Aside0.mk A100
        clear A100
        by_cases c11 : t126 = true
        · subst c11
          have H1 : ((dense_Table_Row.f t111 3).bind fun t127 => ((juratref01_Same.f k t127 (([0, 1, 2] : List Int))).bind fun t133 => (some t133))) = some r := by rw [if_pos rfl] at H; exact H
          clear H
          have H := H1
          clear H1
          replace H := Option.bind_eq_some_iff.mp H
          obtain ⟨t127, A120, H⟩ := H
          replace H : ((juratref01_Same.f k t127 (([0, 1, 2] : List Int))).bind fun t133 => (some t133)) = some r := H
          have A12 := Aside0.mk A120
          clear A120
          obtain ⟨y130, hy130⟩ : ∃ y_ : List Int, y_ = (([0, 1, 2] : List Int)) := ⟨_, rfl⟩
          replace H : ((juratref01_Same.f k t127 y130).bind fun t133 => (some t133)) = some r := by first | (rw [hy130]; with_reducible exact H) | (have H2_ := (Option.bind_some _ _).symm.trans H; rw [hy130]; with_reducible exact H2_) | (have H2_ := (Option.bind_some _ _).symm.trans H; with_reducible exact H2_) | with_reducible exact H | (rw [hy130]; exact H) | exact H
          have Ny130 := Aside0.mk hy130
          clear hy130
          replace H := Option.bind_eq_some_iff.mp H
          obtain ⟨t133, A130, H⟩ := H
          replace H : (some t133) = some r := H
          have A13 := Aside0.mk A130
          clear A130
          obtain rfl := Option.some.inj H
          go_enter Try.func8, Try.ntmps8
          go_wp2_with (first | ((with_reducible refine gate_dst (N := 5) rfl ?_); (try (refine gate_guard (by rfl) ?_; dsimp only)); refine Kd.R_lit Kd.string _ 9 ?hg (N := 5) ?hd (xs := ([(⟨#[97, 98]⟩ : ByteArray), (⟨#[98]⟩ : ByteArray)] : List ByteArray)) (inner := [.string (⟨#[97, 98]⟩ : ByteArray), .string (⟨#[98]⟩ : ByteArray)]) (ok := fun _ => True) (okp := fun _ => True) ?hr ?hp (fun _ hk => hk) trivial (Below.refl _ _) (Nat.le_refl _) (by simp) ?_; (case hd => rfl); (case hg => rfl); (case hr => first | (go_simp; done) | (go_simp; rfl)); (case hp => exact (Reps.one (show Kd.M Kd.string _ _ _ (⟨#[97, 98]⟩ : ByteArray) [.string (⟨#[97, 98]⟩ : ByteArray)] from rfl) (Reps.one (show Kd.M Kd.string _ _ _ (⟨#[98]⟩ : ByteArray) [.string (⟨#[98]⟩ : ByteArray)] from rfl) (Reps.none _ _)))); intro v106 w14 ho15 hb hg_ hnew_; clear hg_ hnew_; (first | rw [← Ny105.out] at ho15 | (simp only [Int.reduceToNat] at ho15; rw [← Ny105.out] at ho15)); have n0_ := Aside0.mk (Kd.R_lower ho15 (below_size (by repeat (first | (with_reducible first | exact HB.out | apply below_alloc | apply pw_below_drewN | apply below_drew1) | exact HB.out)))); have n1_ := Aside0.mk (below_step (by repeat (first | (with_reducible first | exact HB.out | apply below_alloc | apply pw_below_drewN | apply below_drew1) | exact HB.out)) hb); clear HB; have HO107 := n0_; have HB := n1_; clear n0_ n1_; clear hb ho15; obtain ⟨Ao16, co16, eo16⟩ := Kd.R_slice HO107.out; subst eo16) | ((with_reducible refine gate_callee (f := 9) rfl ?_); refine goesL_ (some 6) rfl rfl Try.func9 (by kernel_rfl) rfl #[.slice Ao16 y105.length co16] rfl (by (try simp only [List.map_toArray, List.map_cons, List.map_nil]); first | done | rfl | (simp only [List.length_drop, List.length_take]; rfl)) ?_; (with_reducible refine (pats_New.calls _ _ y105 t108 t109 _ ?side1 ?side2 A1.out).mono ?_); (case side1 => repeat (first | exact (Kd.R_reads' HO107.out).2.2 | (with_reducible refine Kd.C_alloc ?_ _) | (with_reducible refine Kd.C_drewN ?_ _) | (with_reducible refine Kd.C_drew ?_))); (case side2 => exact (Kd.R_reads' HO107.out).2.1); rintro e w17 ⟨Pt108, rfl, hob0, hb⟩; refine ⟨_, rfl, ?_⟩; have hbw_ := below_step (by repeat (first | (with_reducible first | exact HB.out | apply below_alloc | apply pw_below_drewN | apply below_drew1) | exact HB.out)) hb; obtain ⟨Ab110, cb110, eb110_, lb110_, gb110_⟩ := Kd.R_reads (Kd.R_below (by (with_reducible repeat (first | apply Kd.R_alloc | apply Kd.R_drewN | apply Kd.R_drew)); exact HO107.out) hb); (first | subst eb110_ | (injection eb110_ with f1_ f2_ f3_; have f4_ := f1_.symm; have f5_ := f3_.symm; clear f1_ f2_ f3_; subst f4_; subst f5_)); have HRb110 := Aside0.mk gb110_; have HCb110 := Aside0.mk lb110_; clear gb110_ lb110_; (try clear HO107); (first | (have n_ := Aside0.mk (HB00.out.trans (hbw_.mono HB00.out.size)); clear HB00; have HB00 := n_; clear n_) | have HB00 := Aside0.mk hbw_); clear HB hb hbw_; have HO_t108 := Aside0.mk hob0; clear hob0; obtain ⟨w, rfl⟩ : ∃ w_ : World, w_ = w17 := ⟨_, rfl⟩; have HB := Aside0.mk (Below.refl w.heap.size w)) | ((with_reducible refine gate_callee (f := 11) rfl ?_); refine goesL_ (some 10) rfl rfl Try.func11 (by kernel_rfl) rfl #[.pointer Pt108] rfl (by (try simp only [List.map_toArray, List.map_cons, List.map_nil]); first | done | rfl | (simp only [List.length_drop, List.length_take]; rfl)) ?_; (with_reducible refine (dense_New.calls _ t108 t111 _ ?side1 A2.out).mono ?_); (case side1 => first | exact HO_t108.out | exact OB.drewN HO_t108.out _ | exact OB.below (by repeat (first | (with_reducible first | exact HB.out | apply below_alloc | apply pw_below_drewN | apply below_drew1) | exact HB.out)) HO_t108.out); rintro e w18 ⟨Pt111, rfl, hob0, hb⟩; refine ⟨_, rfl, ?_⟩; have hbw_ := below_step (by repeat (first | (with_reducible first | exact HB.out | apply below_alloc | apply pw_below_drewN | apply below_drew1) | exact HB.out)) hb; (try (have n_ := Aside0.mk (Kd.C_below HRb110.out hbw_); clear HRb110; have HRb110 := n_; clear n_)); (try (have n_ := Aside0.mk (OB.below hbw_ HO_t108.out); clear HO_t108; have HO_t108 := n_; clear n_)); (first | (have n_ := Aside0.mk (HB00.out.trans (hbw_.mono HB00.out.size)); clear HB00; have HB00 := n_; clear n_) | have HB00 := Aside0.mk hbw_); clear HB hb hbw_; have HO_t111 := Aside0.mk hob0; clear hob0; obtain ⟨w, rfl⟩ : ∃ w_ : World, w_ = w18 := ⟨_, rfl⟩; have HB := Aside0.mk (Below.refl w.heap.size w)) | (go_at_call 25; (with_reducible refine (dense_Table_Len.calls _ t111 t112 _ ?side1 A4.out).mono ?_); (case side1 => first | exact HO_t111.out | exact OB.drewN HO_t111.out _ | exact OB.below (by repeat (first | (with_reducible first | exact HB.out | apply below_alloc | apply pw_below_drewN | apply below_drew1) | exact HB.out)) HO_t111.out); rintro e w' ⟨rfl, ⟨nd, rfl⟩⟩) | (go_at_call 31; (with_reducible refine (dense_Table_Row.calls _ t111 0 t113 _ ?side1 A6.out).mono ?_); (case side1 => first | exact HO_t111.out | exact OB.drewN HO_t111.out _ | exact OB.below (by repeat (first | (with_reducible first | exact HB.out | apply below_alloc | apply pw_below_drewN | apply below_drew1) | exact HB.out)) HO_t111.out); rintro e w19 ⟨v114, rfl, ho0, hb⟩; have n0_ := Aside0.mk (Kd.R_lower ho0 (below_size (by repeat (first | (with_reducible first | exact HB.out | apply below_alloc | apply pw_below_drewN | apply below_drew1) | exact HB.out)))); have n1_ := Aside0.mk (below_step (by repeat (first | (with_reducible first | exact HB.out | apply below_alloc | apply pw_below_drewN | apply below_drew1) | exact HB.out)) hb); clear HB; have HO115 := n0_; have HB := n1_; clear n0_ n1_; (try clear hb); (try clear hb2); (try clear hk); (try clear hi); (try clear ho0)) | ((with_reducible refine gate_dst (N := 21) rfl ?_); (try (refine gate_guard (by rfl) ?_; dsimp only)); refine Kd.R_lit (Kd.int .i64) _ 3 ?hg (N := 21) ?hd (xs := ([0, 1, 2] : List Int)) (inner := [.int .i64 0, .int .i64 1, .int .i64 2]) (ok := fun _ => True) (okp := fun _ => True) ?hr ?hp (fun _ hk => hk) trivial (Below.refl _ _) (Nat.le_refl _) (by simp) ?_; (case hd => rfl); (case hg => rfl); (case hr => first | (go_simp; done) | (go_simp; rfl)); (case hp => exact (Reps.one (show Kd.M (Kd.int .i64) _ _ _ 0 [.int .i64 0] from rfl) (Reps.one (show Kd.M (Kd.int .i64) _ _ _ 1 [.int .i64 1] from rfl) (Reps.one (show Kd.M (Kd.int .i64) _ _ _ 2 [.int .i64 2] from rfl) (Reps.none _ _))))); intro v117 w20 ho21 hb hg_ hnew_; clear hg_ hnew_; (first | rw [← Ny116.out] at ho21 | (simp only [Int.reduceToNat] at ho21; rw [← Ny116.out] at ho21)); have n0_ := Aside0.mk (Kd.R_elder' (by (with_reducible repeat (first | apply Kd.R_alloc | apply Kd.R_drewN | apply Kd.R_drew)); exact HO115.out) (Kd.R_base ho21) hb); have n1_ := Aside0.mk (Kd.R_lower (Kd.R_new' ho21 (Kd.R_lt (by (with_reducible repeat (first | apply Kd.R_alloc | apply Kd.R_drewN | apply Kd.R_drew)); exact HO115.out))) (below_size (by repeat (first | (with_reducible first | exact HB.out | apply below_alloc | apply pw_below_drewN | apply below_drew1) | exact HB.out)))); have n2_ := Aside0.mk (below_step (by repeat (first | (with_reducible first | exact HB.out | apply below_alloc | apply pw_below_drewN | apply below_drew1) | exact HB.out)) hb); clear HO115; clear HB; have HO115 := n0_; have HO118 := n1_; have HB := n2_; clear n0_ n1_ n2_; clear hb ho21; obtain ⟨Ao22, co22, eo22⟩ := Kd.R_slice HO115.out; subst eo22; obtain ⟨Ao23, co23, eo23⟩ := Kd.R_slice HO118.out; subst eo23) | (go_at_call 30; (with_reducible refine (juratref01_Same.calls k _ _ t113 _ _ y116 true _ ?side1 ?side2 ?side3 ?side4 A7.out).mono ?_); (case side1 => repeat (first | exact (Kd.R_reads' HO115.out).2.2 | (with_reducible refine Kd.C_alloc ?_ _) | (with_reducible refine Kd.C_drewN ?_ _) | (with_reducible refine Kd.C_drew ?_))); (case side2 => exact (Kd.R_reads' HO115.out).2.1); (case side3 => repeat (first | exact (Kd.R_reads' HO118.out).2.2 | (with_reducible refine Kd.C_alloc ?_ _) | (with_reducible refine Kd.C_drewN ?_ _) | (with_reducible refine Kd.C_drew ?_))); (case side4 => exact (Kd.R_reads' HO118.out).2.1); rintro e w' ⟨rfl, ⟨nd, rfl⟩⟩) | (go_at_call 31; (with_reducible refine (dense_Table_Row.calls _ t111 1 t120 _ ?side1 A9.out).mono ?_); (case side1 => first | exact HO_t111.out | exact OB.drewN HO_t111.out _ | exact OB.below (by repeat (first | (with_reducible first | exact HB.out | apply below_alloc | apply pw_below_drewN | apply below_drew1) | exact HB.out)) HO_t111.out); rintro e w24 ⟨v121, rfl, ho0, hb⟩; have n0_ := Aside0.mk (Kd.R_elder' (by (with_reducible repeat (first | apply Kd.R_alloc | apply Kd.R_drewN | apply Kd.R_drew)); exact HO115.out) (Kd.R_base ho0) hb); have n1_ := Aside0.mk (Kd.R_elder' (by (with_reducible repeat (first | apply Kd.R_alloc | apply Kd.R_drewN | apply Kd.R_drew)); exact HO118.out) (Kd.R_base ho0) hb); have n2_ := Aside0.mk (Kd.R_lower (Kd.R_new' (Kd.R_new' ho0 (Kd.R_lt (by (with_reducible repeat (first | apply Kd.R_alloc | apply Kd.R_drewN | apply Kd.R_drew)); exact HO115.out))) (Kd.R_lt (by (with_reducible repeat (first | apply Kd.R_alloc | apply Kd.R_drewN | apply Kd.R_drew)); exact HO118.out))) (below_size (by repeat (first | (with_reducible first | exact HB.out | apply below_alloc | apply pw_below_drewN | apply below_drew1) | exact HB.out)))); have n3_ := Aside0.mk (below_step (by repeat (first | (with_reducible first | exact HB.out | apply below_alloc | apply pw_below_drewN | apply below_drew1) | exact HB.out)) hb); clear HO115; clear HO118; clear HB; have HO115 := n0_; have HO118 := n1_; have HO122 := n2_; have HB := n3_; clear n0_ n1_ n2_ n3_; (try clear hb); (try clear hb2); (try clear hk); (try clear hi); (try clear ho0)) | ((with_reducible refine gate_dst (N := 27) rfl ?_); (try (refine gate_guard (by rfl) ?_; dsimp only)); refine Kd.R_lit (Kd.int .i64) _ 3 ?hg (N := 27) ?hd (xs := ([0, 1, 3] : List Int)) (inner := [.int .i64 0, .int .i64 1, .int .i64 3]) (ok := fun _ => True) (okp := fun _ => True) ?hr ?hp (fun _ hk => hk) trivial (Below.refl _ _) (Nat.le_refl _) (by simp) ?_; (case hd => rfl); (case hg => rfl); (case hr => first | (go_simp; done) | (go_simp; rfl)); (case hp => exact (Reps.one (show Kd.M (Kd.int .i64) _ _ _ 0 [.int .i64 0] from rfl) (Reps.one (show Kd.M (Kd.int .i64) _ _ _ 1 [.int .i64 1] from rfl) (Reps.one (show Kd.M (Kd.int .i64) _ _ _ 3 [.int .i64 3] from rfl) (Reps.none _ _))))); intro v124 w25 ho26 hb hg_ hnew_; clear hg_ hnew_; (first | rw [← Ny123.out] at ho26 | (simp only [Int.reduceToNat] at ho26; rw [← Ny123.out] at ho26)); have n0_ := Aside0.mk (Kd.R_elder' (by (with_reducible repeat (first | apply Kd.R_alloc | apply Kd.R_drewN | apply Kd.R_drew)); exact HO115.out) (Kd.R_base ho26) hb); have n1_ := Aside0.mk (Kd.R_elder' (by (with_reducible repeat (first | apply Kd.R_alloc | apply Kd.R_drewN | apply Kd.R_drew)); exact HO118.out) (Kd.R_base ho26) hb); have n2_ := Aside0.mk (Kd.R_elder' (by (with_reducible repeat (first | apply Kd.R_alloc | apply Kd.R_drewN | apply Kd.R_drew)); exact HO122.out) (Kd.R_base ho26) hb); have n3_ := Aside0.mk (Kd.R_lower (Kd.R_new' (Kd.R_new' (Kd.R_new' ho26 (Kd.R_lt (by (with_reducible repeat (first | apply Kd.R_alloc | apply Kd.R_drewN | apply Kd.R_drew)); exact HO115.out))) (Kd.R_lt (by (with_reducible repeat (first | apply Kd.R_alloc | apply Kd.R_drewN | apply Kd.R_drew)); exact HO118.out))) (Kd.R_lt (by (with_reducible repeat (first | apply Kd.R_alloc | apply Kd.R_drewN | apply Kd.R_drew)); exact HO122.out))) (below_size (by repeat (first | (with_reducible first | exact HB.out | apply below_alloc | apply pw_below_drewN | apply below_drew1) | exact HB.out)))); have n4_ := Aside0.mk (below_step (by repeat (first | (with_reducible first | exact HB.out | apply below_alloc | apply pw_below_drewN | apply below_drew1) | exact HB.out)) hb); clear HO115; clear HO118; clear HO122; clear HB; have HO115 := n0_; have HO118 := n1_; have HO122 := n2_; have HO125 := n3_; have HB := n4_; clear n0_ n1_ n2_ n3_ n4_; clear hb ho26; obtain ⟨Ao27, co27, eo27⟩ := Kd.R_slice HO122.out; subst eo27; obtain ⟨Ao28, co28, eo28⟩ := Kd.R_slice HO125.out; subst eo28) | (go_at_call 30; (with_reducible refine (juratref01_Same.calls k _ _ t120 _ _ y123 true _ ?side1 ?side2 ?side3 ?side4 A10.out).mono ?_); (case side1 => repeat (first | exact (Kd.R_reads' HO122.out).2.2 | (with_reducible refine Kd.C_alloc ?_ _) | (with_reducible refine Kd.C_drewN ?_ _) | (with_reducible refine Kd.C_drew ?_))); (case side2 => exact (Kd.R_reads' HO122.out).2.1); (case side3 => repeat (first | exact (Kd.R_reads' HO125.out).2.2 | (with_reducible refine Kd.C_alloc ?_ _) | (with_reducible refine Kd.C_drewN ?_ _) | (with_reducible refine Kd.C_drew ?_))); (case side4 => exact (Kd.R_reads' HO125.out).2.1); rintro e w' ⟨rfl, ⟨nd, rfl⟩⟩) | (go_at_call 31; (with_reducible refine (dense_Table_Row.calls _ t111 3 t127 _ ?side1 A12.out).mono ?_); (case side1 => first | exact HO_t111.out | exact OB.drewN HO_t111.out _ | exact OB.below (by repeat (first | (with_reducible first | exact HB.out | apply below_alloc | apply pw_below_drewN | apply below_drew1) | exact HB.out)) HO_t111.out); rintro e w29 ⟨v128, rfl, ho0, hb⟩; have n0_ := Aside0.mk (Kd.R_elder' (by (with_reducible repeat (first | apply Kd.R_alloc | apply Kd.R_drewN | apply Kd.R_drew)); exact HO115.out) (Kd.R_base ho0) hb); have n1_ := Aside0.mk (Kd.R_elder' (by (with_reducible repeat (first | apply Kd.R_alloc | apply Kd.R_drewN | apply Kd.R_drew)); exact HO118.out) (Kd.R_base ho0) hb); have n2_ := Aside0.mk (Kd.R_elder' (by (with_reducible repeat (first | apply Kd.R_alloc | apply Kd.R_drewN | apply Kd.R_drew)); exact HO122.out) (Kd.R_base ho0) hb); have n3_ := Aside0.mk (Kd.R_elder' (by (with_reducible repeat (first | apply Kd.R_alloc | apply Kd.R_drewN | apply Kd.R_drew)); exact HO125.out) (Kd.R_base ho0) hb); have n4_ := Aside0.mk (Kd.R_lower (Kd.R_new' (Kd.R_new' (Kd.R_new' (Kd.R_new' ho0 (Kd.R_lt (by (with_reducible repeat (first | apply Kd.R_alloc | apply Kd.R_drewN | apply Kd.R_drew)); exact HO115.out))) (Kd.R_lt (by (with_reducible repeat (first | apply Kd.R_alloc | apply Kd.R_drewN | apply Kd.R_drew)); exact HO118.out))) (Kd.R_lt (by (with_reducible repeat (first | apply Kd.R_alloc | apply Kd.R_drewN | apply Kd.R_drew)); exact HO122.out))) (Kd.R_lt (by (with_reducible repeat (first | apply Kd.R_alloc | apply Kd.R_drewN | apply Kd.R_drew)); exact HO125.out))) (below_size (by repeat (first | (with_reducible first | exact HB.out | apply below_alloc | apply pw_below_drewN | apply below_drew1) | exact HB.out)))); have n5_ := Aside0.mk (below_step (by repeat (first | (with_reducible first | exact HB.out | apply below_alloc | apply pw_below_drewN | apply below_drew1) | exact HB.out)) hb); clear HO115; clear HO118; clear HO122; clear HO125; clear HB; have HO115 := n0_; have HO118 := n1_; have HO122 := n2_; have HO125 := n3_; have HO129 := n4_; have HB := n5_; clear n0_ n1_ n2_ n3_ n4_ n5_; (try clear hb); (try clear hb2); (try clear hk); (try clear hi); (try clear ho0)) | ((with_reducible refine gate_dst (N := 33) rfl ?_); (try (refine gate_guard (by rfl) ?_; dsimp only)); refine Kd.R_lit (Kd.int .i64) _ 3 ?hg (N := 33) ?hd (xs := ([0, 1, 2] : List Int)) (inner := [.int .i64 0, .int .i64 1, .int .i64 2]) (ok := fun _ => True) (okp := fun _ => True) ?hr ?hp (fun _ hk => hk) trivial (Below.refl _ _) (Nat.le_refl _) (by simp) ?_; (case hd => rfl); (case hg => rfl); (case hr => first | (go_simp; done) | (go_simp; rfl)); (case hp => exact (Reps.one (show Kd.M (Kd.int .i64) _ _ _ 0 [.int .i64 0] from rfl) (Reps.one (show Kd.M (Kd.int .i64) _ _ _ 1 [.int .i64 1] from rfl) (Reps.one (show Kd.M (Kd.int .i64) _ _ _ 2 [.int .i64 2] from rfl) (Reps.none _ _))))); intro v131 w30 ho31 hb hg_ hnew_; clear hg_ hnew_; (first | rw [← Ny130.out] at ho31 | (simp only [Int.reduceToNat] at ho31; rw [← Ny130.out] at ho31)); have n0_ := Aside0.mk (Kd.R_elder' (by (with_reducible repeat (first | apply Kd.R_alloc | apply Kd.R_drewN | apply Kd.R_drew)); exact HO115.out) (Kd.R_base ho31) hb); have n1_ := Aside0.mk (Kd.R_elder' (by (with_reducible repeat (first | apply Kd.R_alloc | apply Kd.R_drewN | apply Kd.R_drew)); exact HO118.out) (Kd.R_base ho31) hb); have n2_ := Aside0.mk (Kd.R_elder' (by (with_reducible repeat (first | apply Kd.R_alloc | apply Kd.R_drewN | apply Kd.R_drew)); exact HO122.out) (Kd.R_base ho31) hb); have n3_ := Aside0.mk (Kd.R_elder' (by (with_reducible repeat (first | apply Kd.R_alloc | apply Kd.R_drewN | apply Kd.R_drew)); exact HO125.out) (Kd.R_base ho31) hb); have n4_ := Aside0.mk (Kd.R_elder' (by (with_reducible repeat (first | apply Kd.R_alloc | apply Kd.R_drewN | apply Kd.R_drew)); exact HO129.out) (Kd.R_base ho31) hb); have n5_ := Aside0.mk (Kd.R_lower (Kd.R_new' (Kd.R_new' (Kd.R_new' (Kd.R_new' (Kd.R_new' ho31 (Kd.R_lt (by (with_reducible repeat (first | apply Kd.R_alloc | apply Kd.R_drewN | apply Kd.R_drew)); exact HO115.out))) (Kd.R_lt (by (with_reducible repeat (first | apply Kd.R_alloc | apply Kd.R_drewN | apply Kd.R_drew)); exact HO118.out))) (Kd.R_lt (by (with_reducible repeat (first | apply Kd.R_alloc | apply Kd.R_drewN | apply Kd.R_drew)); exact HO122.out))) (Kd.R_lt (by (with_reducible repeat (first | apply Kd.R_alloc | apply Kd.R_drewN | apply Kd.R_drew)); exact HO125.out))) (Kd.R_lt (by (with_reducible repeat (first | apply Kd.R_alloc | apply Kd.R_drewN | apply Kd.R_drew)); exact HO129.out))) (below_size (by repeat (first | (with_reducible first | exact HB.out | apply below_alloc | apply pw_below_drewN | apply below_drew1) | exact HB.out)))); have n6_ := Aside0.mk (below_step (by repeat (first | (with_reducible first | exact HB.out | apply below_alloc | apply pw_below_drewN | apply below_drew1) | exact HB.out)) hb); clear HO115; clear HO118; clear HO122; clear HO125; clear HO129; clear HB; have HO115 := n0_; have HO118 := n1_; have HO122 := n2_; have HO125 := n3_; have HO129 := n4_; have HO132 := n5_; have HB := n6_; clear n0_ n1_ n2_ n3_ n4_ n5_ n6_; clear hb ho31; obtain ⟨Ao32, co32, eo32⟩ := Kd.R_slice HO129.out; subst eo32; obtain ⟨Ao33, co33, eo33⟩ := Kd.R_slice HO132.out; subst eo33) | (go_at_call 30; (with_reducible refine (juratref01_Same.calls k _ _ t127 _ _ y130 t133 _ ?side1 ?side2 ?side3 ?side4 A13.out).mono ?_); (case side1 => repeat (first | exact (Kd.R_reads' HO129.out).2.2 | (with_reducible refine Kd.C_alloc ?_ _) | (with_reducible refine Kd.C_drewN ?_ _) | (with_reducible refine Kd.C_drew ?_))); (case side2 => exact (Kd.R_reads' HO129.out).2.1); (case side3 => repeat (first | exact (Kd.R_reads' HO132.out).2.2 | (with_reducible refine Kd.C_alloc ?_ _) | (with_reducible refine Kd.C_drewN ?_ _) | (with_reducible refine Kd.C_drew ?_))); (case side4 => exact (Kd.R_reads' HO132.out).2.1); rintro e w' ⟨rfl, ⟨nd, rfl⟩⟩))
          go_ret
          exact ⟨by first | rfl | (simp [errW_none, errW_some] <;> rfl) | (simp [*, errW_none, errW_some] <;> rfl), by first | (refine HB00.out.trans (Below.mono ?_ HB00.out.size); (repeat (first | (with_reducible first | exact HB.out | apply below_alloc | apply pw_below_drewN | apply below_drew1) | exact HB.out))) | (repeat (first | (with_reducible first | exact HB.out | apply below_alloc | apply pw_below_drewN | apply below_drew1) | exact HB.out))⟩
        · replace c11 := Bool.eq_false_iff.mpr c11
          subst c11
          have H1 : (some false) = some r := by rw [if_neg (show ¬ (false = true) by decide)] at H; exact H
          clear H
          have H := H1
          clear H1
          obtain rfl := Option.some.inj H
          go_enter Try.func8, Try.ntmps8
          go_wp2_with (first | ((with_reducible refine gate_dst (N := 5) rfl ?_); (try (refine gate_guard (by rfl) ?_; dsimp only)); refine Kd.R_lit Kd.string _ 9 ?hg (N := 5) ?hd (xs := ([(⟨#[97, 98]⟩ : ByteArray), (⟨#[98]⟩ : ByteArray)] : List ByteArray)) (inner := [.string (⟨#[97, 98]⟩ : ByteArray), .string (⟨#[98]⟩ : ByteArray)]) (ok := fun _ => True) (okp := fun _ => True) ?hr ?hp (fun _ hk => hk) trivial (Below.refl _ _) (Nat.le_refl _) (by simp) ?_; (case hd => rfl); (case hg => rfl); (case hr => first | (go_simp; done) | (go_simp; rfl)); (case hp => exact (Reps.one (show Kd.M Kd.string _ _ _ (⟨#[97, 98]⟩ : ByteArray) [.string (⟨#[97, 98]⟩ : ByteArray)] from rfl) (Reps.one (show Kd.M Kd.string _ _ _ (⟨#[98]⟩ : ByteArray) [.string (⟨#[98]⟩ : ByteArray)] from rfl) (Reps.none _ _)))); intro v106 w34 ho35 hb hg_ hnew_; clear hg_ hnew_; (first | rw [← Ny105.out] at ho35 | (simp only [Int.reduceToNat] at ho35; rw [← Ny105.out] at ho35)); have n0_ := Aside0.mk (Kd.R_lower ho35 (below_size (by repeat (first | (with_reducible first | exact HB.out | apply below_alloc | apply pw_below_drewN | apply below_drew1) | exact HB.out)))); have n1_ := Aside0.mk (below_step (by repeat (first | (with_reducible first | exact HB.out | apply below_alloc | apply pw_below_drewN | apply below_drew1) | exact HB.out)) hb); clear HB; have HO107 := n0_; have HB := n1_; clear n0_ n1_; clear hb ho35; obtain ⟨Ao36, co36, eo36⟩ := Kd.R_slice HO107.out; subst eo36) | ((with_reducible refine gate_callee (f := 9) rfl ?_); refine goesL_ (some 6) rfl rfl Try.func9 (by kernel_rfl) rfl #[.slice Ao36 y105.length co36] rfl (by (try simp only [List.map_toArray, List.map_cons, List.map_nil]); first | done | rfl | (simp only [List.length_drop, List.length_take]; rfl)) ?_; (with_reducible refine (pats_New.calls _ _ y105 t108 t109 _ ?side1 ?side2 A1.out).mono ?_); (case side1 => repeat (first | exact (Kd.R_reads' HO107.out).2.2 | (with_reducible refine Kd.C_alloc ?_ _) | (with_reducible refine Kd.C_drewN ?_ _) | (with_reducible refine Kd.C_drew ?_))); (case side2 => exact (Kd.R_reads' HO107.out).2.1); rintro e w37 ⟨Pt108, rfl, hob0, hb⟩; refine ⟨_, rfl, ?_⟩; have hbw_ := below_step (by repeat (first | (with_reducible first | exact HB.out | apply below_alloc | apply pw_below_drewN | apply below_drew1) | exact HB.out)) hb; obtain ⟨Ab110, cb110, eb110_, lb110_, gb110_⟩ := Kd.R_reads (Kd.R_below (by (with_reducible repeat (first | apply Kd.R_alloc | apply Kd.R_drewN | apply Kd.R_drew)); exact HO107.out) hb); (first | subst eb110_ | (injection eb110_ with f1_ f2_ f3_; have f4_ := f1_.symm; have f5_ := f3_.symm; clear f1_ f2_ f3_; subst f4_; subst f5_)); have HRb110 := Aside0.mk gb110_; have HCb110 := Aside0.mk lb110_; clear gb110_ lb110_; (try clear HO107); (try (have n_ := Aside0.mk (Kd.C_below HRb110.out hbw_); clear HRb110; have HRb110 := n_; clear n_)); (try (have n_ := Aside0.mk (OB.below hbw_ HO_t108.out); clear HO_t108; have HO_t108 := n_; clear n_)); (try (have n_ := Aside0.mk (OB.below hbw_ HO_t111.out); clear HO_t111; have HO_t111 := n_; clear n_)); (first | (have n_ := Aside0.mk (HB00.out.trans (hbw_.mono HB00.out.size)); clear HB00; have HB00 := n_; clear n_) | have HB00 := Aside0.mk hbw_); clear HB hb hbw_; have HO_t108 := Aside0.mk hob0; clear hob0; obtain ⟨w, rfl⟩ : ∃ w_ : World, w_ = w37 := ⟨_, rfl⟩; have HB := Aside0.mk (Below.refl w.heap.size w)) | ((with_reducible refine gate_callee (f := 11) rfl ?_); refine goesL_ (some 10) rfl rfl Try.func11 (by kernel_rfl) rfl #[.pointer Pt108] rfl (by (try simp only [List.map_toArray, List.map_cons, List.map_nil]); first | done | rfl | (simp only [List.length_drop, List.length_take]; rfl)) ?_; (with_reducible refine (dense_New.calls _ t108 t111 _ ?side1 A2.out).mono ?_); (case side1 => first | exact HO_t108.out | exact OB.drewN HO_t108.out _ | exact OB.below (by repeat (first | (with_reducible first | exact HB.out | apply below_alloc | apply pw_below_drewN | apply below_drew1) | exact HB.out)) HO_t108.out); rintro e w38 ⟨Pt111, rfl, hob0, hb⟩; refine ⟨_, rfl, ?_⟩; have hbw_ := below_step (by repeat (first | (with_reducible first | exact HB.out | apply below_alloc | apply pw_below_drewN | apply below_drew1) | exact HB.out)) hb; (try (have n_ := Aside0.mk (Kd.C_below HRb110.out hbw_); clear HRb110; have HRb110 := n_; clear n_)); (try (have n_ := Aside0.mk (OB.below hbw_ HO_t108.out); clear HO_t108; have HO_t108 := n_; clear n_)); (try (have n_ := Aside0.mk (OB.below hbw_ HO_t111.out); clear HO_t111; have HO_t111 := n_; clear n_)); (first | (have n_ := Aside0.mk (HB00.out.trans (hbw_.mono HB00.out.size)); clear HB00; have HB00 := n_; clear n_) | have HB00 := Aside0.mk hbw_); clear HB hb hbw_; have HO_t111 := Aside0.mk hob0; clear hob0; obtain ⟨w, rfl⟩ : ∃ w_ : World, w_ = w38 := ⟨_, rfl⟩; have HB := Aside0.mk (Below.refl w.heap.size w)) | (go_at_call 25; (with_reducible refine (dense_Table_Len.calls _ t111 t112 _ ?side1 A4.out).mono ?_); (case side1 => first | exact HO_t111.out | exact OB.drewN HO_t111.out _ | exact OB.below (by repeat (first | (with_reducible first | exact HB.out | apply below_alloc | apply pw_below_drewN | apply below_drew1) | exact HB.out)) HO_t111.out); rintro e w' ⟨rfl, ⟨nd, rfl⟩⟩) | (go_at_call 31; (with_reducible refine (dense_Table_Row.calls _ t111 0 t113 _ ?side1 A6.out).mono ?_); (case side1 => first | exact HO_t111.out | exact OB.drewN HO_t111.out _ | exact OB.below (by repeat (first | (with_reducible first | exact HB.out | apply below_alloc | apply pw_below_drewN | apply below_drew1) | exact HB.out)) HO_t111.out); rintro e w39 ⟨v114, rfl, ho0, hb⟩; have n0_ := Aside0.mk (Kd.R_lower ho0 (below_size (by repeat (first | (with_reducible first | exact HB.out | apply below_alloc | apply pw_below_drewN | apply below_drew1) | exact HB.out)))); have n1_ := Aside0.mk (below_step (by repeat (first | (with_reducible first | exact HB.out | apply below_alloc | apply pw_below_drewN | apply below_drew1) | exact HB.out)) hb); clear HB; have HO115 := n0_; have HB := n1_; clear n0_ n1_; (try clear hb); (try clear hb2); (try clear hk); (try clear hi); (try clear ho0)) | ((with_reducible refine gate_dst (N := 21) rfl ?_); (try (refine gate_guard (by rfl) ?_; dsimp only)); refine Kd.R_lit (Kd.int .i64) _ 3 ?hg (N := 21) ?hd (xs := ([0, 1, 2] : List Int)) (inner := [.int .i64 0, .int .i64 1, .int .i64 2]) (ok := fun _ => True) (okp := fun _ => True) ?hr ?hp (fun _ hk => hk) trivial (Below.refl _ _) (Nat.le_refl _) (by simp) ?_; (case hd => rfl); (case hg => rfl); (case hr => first | (go_simp; done) | (go_simp; rfl)); (case hp => exact (Reps.one (show Kd.M (Kd.int .i64) _ _ _ 0 [.int .i64 0] from rfl) (Reps.one (show Kd.M (Kd.int .i64) _ _ _ 1 [.int .i64 1] from rfl) (Reps.one (show Kd.M (Kd.int .i64) _ _ _ 2 [.int .i64 2] from rfl) (Reps.none _ _))))); intro v117 w40 ho41 hb hg_ hnew_; clear hg_ hnew_; (first | rw [← Ny116.out] at ho41 | (simp only [Int.reduceToNat] at ho41; rw [← Ny116.out] at ho41)); have n0_ := Aside0.mk (Kd.R_elder' (by (with_reducible repeat (first | apply Kd.R_alloc | apply Kd.R_drewN | apply Kd.R_drew)); exact HO115.out) (Kd.R_base ho41) hb); have n1_ := Aside0.mk (Kd.R_lower (Kd.R_new' ho41 (Kd.R_lt (by (with_reducible repeat (first | apply Kd.R_alloc | apply Kd.R_drewN | apply Kd.R_drew)); exact HO115.out))) (below_size (by repeat (first | (with_reducible first | exact HB.out | apply below_alloc | apply pw_below_drewN | apply below_drew1) | exact HB.out)))); have n2_ := Aside0.mk (below_step (by repeat (first | (with_reducible first | exact HB.out | apply below_alloc | apply pw_below_drewN | apply below_drew1) | exact HB.out)) hb); clear HO115; clear HB; have HO115 := n0_; have HO118 := n1_; have HB := n2_; clear n0_ n1_ n2_; clear hb ho41; obtain ⟨Ao42, co42, eo42⟩ := Kd.R_slice HO115.out; subst eo42; obtain ⟨Ao43, co43, eo43⟩ := Kd.R_slice HO118.out; subst eo43) | (go_at_call 30; (with_reducible refine (juratref01_Same.calls k _ _ t113 _ _ y116 true _ ?side1 ?side2 ?side3 ?side4 A7.out).mono ?_); (case side1 => repeat (first | exact (Kd.R_reads' HO115.out).2.2 | (with_reducible refine Kd.C_alloc ?_ _) | (with_reducible refine Kd.C_drewN ?_ _) | (with_reducible refine Kd.C_drew ?_))); (case side2 => exact (Kd.R_reads' HO115.out).2.1); (case side3 => repeat (first | exact (Kd.R_reads' HO118.out).2.2 | (with_reducible refine Kd.C_alloc ?_ _) | (with_reducible refine Kd.C_drewN ?_ _) | (with_reducible refine Kd.C_drew ?_))); (case side4 => exact (Kd.R_reads' HO118.out).2.1); rintro e w' ⟨rfl, ⟨nd, rfl⟩⟩) | (go_at_call 31; (with_reducible refine (dense_Table_Row.calls _ t111 1 t120 _ ?side1 A9.out).mono ?_); (case side1 => first | exact HO_t111.out | exact OB.drewN HO_t111.out _ | exact OB.below (by repeat (first | (with_reducible first | exact HB.out | apply below_alloc | apply pw_below_drewN | apply below_drew1) | exact HB.out)) HO_t111.out); rintro e w44 ⟨v121, rfl, ho0, hb⟩; have n0_ := Aside0.mk (Kd.R_elder' (by (with_reducible repeat (first | apply Kd.R_alloc | apply Kd.R_drewN | apply Kd.R_drew)); exact HO115.out) (Kd.R_base ho0) hb); have n1_ := Aside0.mk (Kd.R_elder' (by (with_reducible repeat (first | apply Kd.R_alloc | apply Kd.R_drewN | apply Kd.R_drew)); exact HO118.out) (Kd.R_base ho0) hb); have n2_ := Aside0.mk (Kd.R_lower (Kd.R_new' (Kd.R_new' ho0 (Kd.R_lt (by (with_reducible repeat (first | apply Kd.R_alloc | apply Kd.R_drewN | apply Kd.R_drew)); exact HO115.out))) (Kd.R_lt (by (with_reducible repeat (first | apply Kd.R_alloc | apply Kd.R_drewN | apply Kd.R_drew)); exact HO118.out))) (below_size (by repeat (first | (with_reducible first | exact HB.out | apply below_alloc | apply pw_below_drewN | apply below_drew1) | exact HB.out)))); have n3_ := Aside0.mk (below_step (by repeat (first | (with_reducible first | exact HB.out | apply below_alloc | apply pw_below_drewN | apply below_drew1) | exact HB.out)) hb); clear HO115; clear HO118; clear HB; have HO115 := n0_; have HO118 := n1_; have HO122 := n2_; have HB := n3_; clear n0_ n1_ n2_ n3_; (try clear hb); (try clear hb2); (try clear hk); (try clear hi); (try clear ho0)) | ((with_reducible refine gate_dst (N := 27) rfl ?_); (try (refine gate_guard (by rfl) ?_; dsimp only)); refine Kd.R_lit (Kd.int .i64) _ 3 ?hg (N := 27) ?hd (xs := ([0, 1, 3] : List Int)) (inner := [.int .i64 0, .int .i64 1, .int .i64 3]) (ok := fun _ => True) (okp := fun _ => True) ?hr ?hp (fun _ hk => hk) trivial (Below.refl _ _) (Nat.le_refl _) (by simp) ?_; (case hd => rfl); (case hg => rfl); (case hr => first | (go_simp; done) | (go_simp; rfl)); (case hp => exact (Reps.one (show Kd.M (Kd.int .i64) _ _ _ 0 [.int .i64 0] from rfl) (Reps.one (show Kd.M (Kd.int .i64) _ _ _ 1 [.int .i64 1] from rfl) (Reps.one (show Kd.M (Kd.int .i64) _ _ _ 3 [.int .i64 3] from rfl) (Reps.none _ _))))); intro v124 w45 ho46 hb hg_ hnew_; clear hg_ hnew_; (first | rw [← Ny123.out] at ho46 | (simp only [Int.reduceToNat] at ho46; rw [← Ny123.out] at ho46)); have n0_ := Aside0.mk (Kd.R_elder' (by (with_reducible repeat (first | apply Kd.R_alloc | apply Kd.R_drewN | apply Kd.R_drew)); exact HO115.out) (Kd.R_base ho46) hb); have n1_ := Aside0.mk (Kd.R_elder' (by (with_reducible repeat (first | apply Kd.R_alloc | apply Kd.R_drewN | apply Kd.R_drew)); exact HO118.out) (Kd.R_base ho46) hb); have n2_ := Aside0.mk (Kd.R_elder' (by (with_reducible repeat (first | apply Kd.R_alloc | apply Kd.R_drewN | apply Kd.R_drew)); exact HO122.out) (Kd.R_base ho46) hb); have n3_ := Aside0.mk (Kd.R_lower (Kd.R_new' (Kd.R_new' (Kd.R_new' ho46 (Kd.R_lt (by (with_reducible repeat (first | apply Kd.R_alloc | apply Kd.R_drewN | apply Kd.R_drew)); exact HO115.out))) (Kd.R_lt (by (with_reducible repeat (first | apply Kd.R_alloc | apply Kd.R_drewN | apply Kd.R_drew)); exact HO118.out))) (Kd.R_lt (by (with_reducible repeat (first | apply Kd.R_alloc | apply Kd.R_drewN | apply Kd.R_drew)); exact HO122.out))) (below_size (by repeat (first | (with_reducible first | exact HB.out | apply below_alloc | apply pw_below_drewN | apply below_drew1) | exact HB.out)))); have n4_ := Aside0.mk (below_step (by repeat (first | (with_reducible first | exact HB.out | apply below_alloc | apply pw_below_drewN | apply below_drew1) | exact HB.out)) hb); clear HO115; clear HO118; clear HO122; clear HB; have HO115 := n0_; have HO118 := n1_; have HO122 := n2_; have HO125 := n3_; have HB := n4_; clear n0_ n1_ n2_ n3_ n4_; clear hb ho46; obtain ⟨Ao47, co47, eo47⟩ := Kd.R_slice HO122.out; subst eo47; obtain ⟨Ao48, co48, eo48⟩ := Kd.R_slice HO125.out; subst eo48) | (go_at_call 30; (with_reducible refine (juratref01_Same.calls k _ _ t120 _ _ y123 false _ ?side1 ?side2 ?side3 ?side4 A10.out).mono ?_); (case side1 => repeat (first | exact (Kd.R_reads' HO122.out).2.2 | (with_reducible refine Kd.C_alloc ?_ _) | (with_reducible refine Kd.C_drewN ?_ _) | (with_reducible refine Kd.C_drew ?_))); (case side2 => exact (Kd.R_reads' HO122.out).2.1); (case side3 => repeat (first | exact (Kd.R_reads' HO125.out).2.2 | (with_reducible refine Kd.C_alloc ?_ _) | (with_reducible refine Kd.C_drewN ?_ _) | (with_reducible refine Kd.C_drew ?_))); (case side4 => exact (Kd.R_reads' HO125.out).2.1); rintro e w' ⟨rfl, ⟨nd, rfl⟩⟩))
          go_ret
          exact ⟨by first | rfl | (simp [errW_none, errW_some] <;> rfl) | (simp [*, errW_none, errW_some] <;> rfl), by first | (refine HB00.out.trans (Below.mono ?_ HB00.out.size); (repeat (first | (with_reducible first | exact HB.out | apply below_alloc | apply pw_below_drewN | apply below_drew1) | exact HB.out))) | (repeat (first | (with_reducible first | exact HB.out | apply below_alloc | apply pw_below_drewN | apply below_drew1) | exact HB.out))⟩
      · replace c8 := Bool.eq_false_iff.mpr c8
        subst c8
        have H1 : (some false) = some r := by rw [if_neg (show ¬ (false = true) by decide)] at H; exact H
        clear H
        have H := H1
        clear H1
        obtain rfl := Option.some.inj H
        go_enter Try.func8, Try.ntmps8
        go_wp2_with (first | ((with_reducible refine gate_dst (N := 5) rfl ?_); (try (refine gate_guard (by rfl) ?_; dsimp only)); refine Kd.R_lit Kd.string _ 9 ?hg (N := 5) ?hd (xs := ([(⟨#[97, 98]⟩ : ByteArray), (⟨#[98]⟩ : ByteArray)] : List ByteArray)) (inner := [.string (⟨#[97, 98]⟩ : ByteArray), .string (⟨#[98]⟩ : ByteArray)]) (ok := fun _ => True) (okp := fun _ => True) ?hr ?hp (fun _ hk => hk) trivial (Below.refl _ _) (Nat.le_refl _) (by simp) ?_; (case hd => rfl); (case hg => rfl); (case hr => first | (go_simp; done) | (go_simp; rfl)); (case hp => exact (Reps.one (show Kd.M Kd.string _ _ _ (⟨#[97, 98]⟩ : ByteArray) [.string (⟨#[97, 98]⟩ : ByteArray)] from rfl) (Reps.one (show Kd.M Kd.string _ _ _ (⟨#[98]⟩ : ByteArray) [.string (⟨#[98]⟩ : ByteArray)] from rfl) (Reps.none _ _)))); intro v106 w49 ho50 hb hg_ hnew_; clear hg_ hnew_; (first | rw [← Ny105.out] at ho50 | (simp only [Int.reduceToNat] at ho50; rw [← Ny105.out] at ho50)); have n0_ := Aside0.mk (Kd.R_lower ho50 (below_size (by repeat (first | (with_reducible first | exact HB.out | apply below_alloc | apply pw_below_drewN | apply below_drew1) | exact HB.out)))); have n1_ := Aside0.mk (below_step (by repeat (first | (with_reducible first | exact HB.out | apply below_alloc | apply pw_below_drewN | apply below_drew1) | exact HB.out)) hb); clear HB; have HO107 := n0_; have HB := n1_; clear n0_ n1_; clear hb ho50; obtain ⟨Ao51, co51, eo51⟩ := Kd.R_slice HO107.out; subst eo51) | ((with_reducible refine gate_callee (f := 9) rfl ?_); refine goesL_ (some 6) rfl rfl Try.func9 (by kernel_rfl) rfl #[.slice Ao51 y105.length co51] rfl (by (try simp only [List.map_toArray, List.map_cons, List.map_nil]); first | done | rfl | (simp only [List.length_drop, List.length_take]; rfl)) ?_; (with_reducible refine (pats_New.calls _ _ y105 t108 t109 _ ?side1 ?side2 A1.out).mono ?_); (case side1 => repeat (first | exact (Kd.R_reads' HO107.out).2.2 | (with_reducible refine Kd.C_alloc ?_ _) | (with_reducible refine Kd.C_drewN ?_ _) | (with_reducible refine Kd.C_drew ?_))); (case side2 => exact (Kd.R_reads' HO107.out).2.1); rintro e w52 ⟨Pt108, rfl, hob0, hb⟩; refine ⟨_, rfl, ?_⟩; have hbw_ := below_step (by repeat (first | (with_reducible first | exact HB.out | apply below_alloc | apply pw_below_drewN | apply below_drew1) | exact HB.out)) hb; obtain ⟨Ab110, cb110, eb110_, lb110_, gb110_⟩ := Kd.R_reads (Kd.R_below (by (with_reducible repeat (first | apply Kd.R_alloc | apply Kd.R_drewN | apply Kd.R_drew)); exact HO107.out) hb); (first | subst eb110_ | (injection eb110_ with f1_ f2_ f3_; have f4_ := f1_.symm; have f5_ := f3_.symm; clear f1_ f2_ f3_; subst f4_; subst f5_)); have HRb110 := Aside0.mk gb110_; have HCb110 := Aside0.mk lb110_; clear gb110_ lb110_; (try clear HO107); (try (have n_ := Aside0.mk (Kd.C_below HRb110.out hbw_); clear HRb110; have HRb110 := n_; clear n_)); (try (have n_ := Aside0.mk (OB.below hbw_ HO_t108.out); clear HO_t108; have HO_t108 := n_; clear n_)); (try (have n_ := Aside0.mk (OB.below hbw_ HO_t111.out); clear HO_t111; have HO_t111 := n_; clear n_)); (first | (have n_ := Aside0.mk (HB00.out.trans (hbw_.mono HB00.out.size)); clear HB00; have HB00 := n_; clear n_) | have HB00 := Aside0.mk hbw_); clear HB hb hbw_; have HO_t108 := Aside0.mk hob0; clear hob0; obtain ⟨w, rfl⟩ : ∃ w_ : World, w_ = w52 := ⟨_, rfl⟩; have HB := Aside0.mk (Below.refl w.heap.size w)) | ((with_reducible refine gate_callee (f := 11) rfl ?_); refine goesL_ (some 10) rfl rfl Try.func11 (by kernel_rfl) rfl #[.pointer Pt108] rfl (by (try simp only [List.map_toArray, List.map_cons, List.map_nil]); first | done | rfl | (simp only [List.length_drop, List.length_take]; rfl)) ?_; (with_reducible refine (dense_New.calls _ t108 t111 _ ?side1 A2.out).mono ?_); (case side1 => first | exact HO_t108.out | exact OB.drewN HO_t108.out _ | exact OB.below (by repeat (first | (with_reducible first | exact HB.out | apply below_alloc | apply pw_below_drewN | apply below_drew1) | exact HB.out)) HO_t108.out); rintro e w53 ⟨Pt111, rfl, hob0, hb⟩; refine ⟨_, rfl, ?_⟩; have hbw_ := below_step (by repeat (first | (with_reducible first | exact HB.out | apply below_alloc | apply pw_below_drewN | apply below_drew1) | exact HB.out)) hb; (try (have n_ := Aside0.mk (Kd.C_below HRb110.out hbw_); clear HRb110; have HRb110 := n_; clear n_)); (try (have n_ := Aside0.mk (OB.below hbw_ HO_t108.out); clear HO_t108; have HO_t108 := n_; clear n_)); (try (have n_ := Aside0.mk (OB.below hbw_ HO_t111.out); clear HO_t111; have HO_t111 := n_; clear n_)); (first | (have n_ := Aside0.mk (HB00.out.trans (hbw_.mono HB00.out.size)); clear HB00; have HB00 := n_; clear n_) | have HB00 := Aside0.mk hbw_); clear HB hb hbw_; have HO_t111 := Aside0.mk hob0; clear hob0; obtain ⟨w, rfl⟩ : ∃ w_ : World, w_ = w53 := ⟨_, rfl⟩; have HB := Aside0.mk (Below.refl w.heap.size w)) | (go_at_call 25; (with_reducible refine (dense_Table_Len.calls _ t111 t112 _ ?side1 A4.out).mono ?_); (case side1 => first | exact HO_t111.out | exact OB.drewN HO_t111.out _ | exact OB.below (by repeat (first | (with_reducible first | exact HB.out | apply below_alloc | apply pw_below_drewN | apply below_drew1) | exact HB.out)) HO_t111.out); rintro e w' ⟨rfl, ⟨nd, rfl⟩⟩) | (go_at_call 31; (with_reducible refine (dense_Table_Row.calls _ t111 0 t113 _ ?side1 A6.out).mono ?_); (case side1 => first | exact HO_t111.out | exact OB.drewN HO_t111.out _ | exact OB.below (by repeat (first | (with_reducible first | exact HB.out | apply below_alloc | apply pw_below_drewN | apply below_drew1) | exact HB.out)) HO_t111.out); rintro e w54 ⟨v114, rfl, ho0, hb⟩; have n0_ := Aside0.mk (Kd.R_lower ho0 (below_size (by repeat (first | (with_reducible first | exact HB.out | apply below_alloc | apply pw_below_drewN | apply below_drew1) | exact HB.out)))); have n1_ := Aside0.mk (below_step (by repeat (first | (with_reducible first | exact HB.out | apply below_alloc | apply pw_below_drewN | apply below_drew1) | exact HB.out)) hb); clear HB; have HO115 := n0_; have HB := n1_; clear n0_ n1_; (try clear hb); (try clear hb2); (try clear hk); (try clear hi); (try clear ho0)) | ((with_reducible refine gate_dst (N := 21) rfl ?_); (try (refine gate_guard (by rfl) ?_; dsimp only)); refine Kd.R_lit (Kd.int .i64) _ 3 ?hg (N := 21) ?hd (xs := ([0, 1, 2] : List Int)) (inner := [.int .i64 0, .int .i64 1, .int .i64 2]) (ok := fun _ => True) (okp := fun _ => True) ?hr ?hp (fun _ hk => hk) trivial (Below.refl _ _) (Nat.le_refl _) (by simp) ?_; (case hd => rfl); (case hg => rfl); (case hr => first | (go_simp; done) | (go_simp; rfl)); (case hp => exact (Reps.one (show Kd.M (Kd.int .i64) _ _ _ 0 [.int .i64 0] from rfl) (Reps.one (show Kd.M (Kd.int .i64) _ _ _ 1 [.int .i64 1] from rfl) (Reps.one (show Kd.M (Kd.int .i64) _ _ _ 2 [.int .i64 2] from rfl) (Reps.none _ _))))); intro v117 w55 ho56 hb hg_ hnew_; clear hg_ hnew_; (first | rw [← Ny116.out] at ho56 | (simp only [Int.reduceToNat] at ho56; rw [← Ny116.out] at ho56)); have n0_ := Aside0.mk (Kd.R_elder' (by (with_reducible repeat (first | apply Kd.R_alloc | apply Kd.R_drewN | apply Kd.R_drew)); exact HO115.out) (Kd.R_base ho56) hb); have n1_ := Aside0.mk (Kd.R_lower (Kd.R_new' ho56 (Kd.R_lt (by (with_reducible repeat (first | apply Kd.R_alloc | apply Kd.R_drewN | apply Kd.R_drew)); exact HO115.out))) (below_size (by repeat (first | (with_reducible first | exact HB.out | apply below_alloc | apply pw_below_drewN | apply below_drew1) | exact HB.out)))); have n2_ := Aside0.mk (below_step (by repeat (first | (with_reducible first | exact HB.out | apply below_alloc | apply pw_below_drewN | apply below_drew1) | exact HB.out)) hb); clear HO115; clear HB; have HO115 := n0_; have HO118 := n1_; have HB := n2_; clear n0_ n1_ n2_; clear hb ho56; obtain ⟨Ao57, co57, eo57⟩ := Kd.R_slice HO115.out; subst eo57; obtain ⟨Ao58, co58, eo58⟩ := Kd.R_slice HO118.out; subst eo58) | (go_at_call 30; (with_reducible refine (juratref01_Same.calls k _ _ t113 _ _ y116 false _ ?side1 ?side2 ?side3 ?side4 A7.out).mono ?_); (case side1 => repeat (first | exact (Kd.R_reads' HO115.out).2.2 | (with_reducible refine Kd.C_alloc ?_ _) | (with_reducible refine Kd.C_drewN ?_ _) | (with_reducible refine Kd.C_drew ?_))); (case side2 => exact (Kd.R_reads' HO115.out).2.1); (case side3 => repeat (first | exact (Kd.R_reads' HO118.out).2.2 | (with_reducible refine Kd.C_alloc ?_ _) | (with_reducible refine Kd.C_drewN ?_ _) | (with_reducible refine Kd.C_drew ?_))); (case side4 => exact (Kd.R_reads' HO118.out).2.1); rintro e w' ⟨rfl, ⟨nd, rfl⟩⟩))
        go_ret
        exact ⟨by first | rfl | (simp [errW_none, errW_some] <;> rfl) | (simp [*, errW_none, errW_some] <;> rfl), by first | (refine HB00.out.trans (Below.mono ?_ HB00.out.size); (repeat (first | (with_reducible first | exact HB.out | apply below_alloc | apply pw_below_drewN | apply below_drew1) | exact HB.out))) | (repeat (first | (with_reducible first | exact HB.out | apply below_alloc | apply pw_below_drewN | apply below_drew1) | exact HB.out))⟩
    · rw [if_neg c5] at H
      have c5b0 : (t112 == 4) = false := beq_eq_false_iff_ne.mpr c5
      have c5b1 : (t112 != 4) = true := bne_iff_ne.mpr c5
      obtain rfl := Option.some.inj H
      go_enter Try.func8, Try.ntmps8
      go_wp2_with (first | ((with_reducible refine gate_dst (N := 5) rfl ?_); (try (refine gate_guard (by rfl) ?_; dsimp only)); refine Kd.R_lit Kd.string _ 9 ?hg (N := 5) ?hd (xs := ([(⟨#[97, 98]⟩ : ByteArray), (⟨#[98]⟩ : ByteArray)] : List ByteArray)) (inner := [.string (⟨#[97, 98]⟩ : ByteArray), .string (⟨#[98]⟩ : ByteArray)]) (ok := fun _ => True) (okp := fun _ => True) ?hr ?hp (fun _ hk => hk) trivial (Below.refl _ _) (Nat.le_refl _) (by simp) ?_; (case hd => rfl); (case hg => rfl); (case hr => first | (go_simp; done) | (go_simp; rfl)); (case hp => exact (Reps.one (show Kd.M Kd.string _ _ _ (⟨#[97, 98]⟩ : ByteArray) [.string (⟨#[97, 98]⟩ : ByteArray)] from rfl) (Reps.one (show Kd.M Kd.string _ _ _ (⟨#[98]⟩ : ByteArray) [.string (⟨#[98]⟩ : ByteArray)] from rfl) (Reps.none _ _)))); intro v106 w59 ho60 hb hg_ hnew_; clear hg_ hnew_; (first | rw [← Ny105.out] at ho60 | (simp only [Int.reduceToNat] at ho60; rw [← Ny105.out] at ho60)); have n0_ := Aside0.mk (Kd.R_lower ho60 (below_size (by repeat (first | (with_reducible first | exact HB.out | apply below_alloc | apply pw_below_drewN | apply below_drew1) | exact HB.out)))); have n1_ := Aside0.mk (below_step (by repeat (first | (with_reducible first | exact HB.out | apply below_alloc | apply pw_below_drewN | apply below_drew1) | exact HB.out)) hb); clear HB; have HO107 := n0_; have HB := n1_; clear n0_ n1_; clear hb ho60; obtain ⟨Ao61, co61, eo61⟩ := Kd.R_slice HO107.out; subst eo61) | ((with_reducible refine gate_callee (f := 9) rfl ?_); refine goesL_ (some 6) rfl rfl Try.func9 (by kernel_rfl) rfl #[.slice Ao61 y105.length co61] rfl (by (try simp only [List.map_toArray, List.map_cons, List.map_nil]); first | done | rfl | (simp only [List.length_drop, List.length_take]; rfl)) ?_; (with_reducible refine (pats_New.calls _ _ y105 t108 t109 _ ?side1 ?side2 A1.out).mono ?_); (case side1 => repeat (first | exact (Kd.R_reads' HO107.out).2.2 | (with_reducible refine Kd.C_alloc ?_ _) | (with_reducible refine Kd.C_drewN ?_ _) | (with_reducible refine Kd.C_drew ?_))); (case side2 => exact (Kd.R_reads' HO107.out).2.1); rintro e w62 ⟨Pt108, rfl, hob0, hb⟩; refine ⟨_, rfl, ?_⟩; have hbw_ := below_step (by repeat (first | (with_reducible first | exact HB.out | apply below_alloc | apply pw_below_drewN | apply below_drew1) | exact HB.out)) hb; obtain ⟨Ab110, cb110, eb110_, lb110_, gb110_⟩ := Kd.R_reads (Kd.R_below (by (with_reducible repeat (first | apply Kd.R_alloc | apply Kd.R_drewN | apply Kd.R_drew)); exact HO107.out) hb); (first | subst eb110_ | (injection eb110_ with f1_ f2_ f3_; have f4_ := f1_.symm; have f5_ := f3_.symm; clear f1_ f2_ f3_; subst f4_; subst f5_)); have HRb110 := Aside0.mk gb110_; have HCb110 := Aside0.mk lb110_; clear gb110_ lb110_; (try clear HO107); (try (have n_ := Aside0.mk (Kd.C_below HRb110.out hbw_); clear HRb110; have HRb110 := n_; clear n_)); (try (have n_ := Aside0.mk (OB.below hbw_ HO_t108.out); clear HO_t108; have HO_t108 := n_; clear n_)); (try (have n_ := Aside0.mk (OB.below hbw_ HO_t111.out); clear HO_t111; have HO_t111 := n_; clear n_)); (first | (have n_ := Aside0.mk (HB00.out.trans (hbw_.mono HB00.out.size)); clear HB00; have HB00 := n_; clear n_) | have HB00 := Aside0.mk hbw_); clear HB hb hbw_; have HO_t108 := Aside0.mk hob0; clear hob0; obtain ⟨w, rfl⟩ : ∃ w_ : World, w_ = w62 := ⟨_, rfl⟩; have HB := Aside0.mk (Below.refl w.heap.size w)) | ((with_reducible refine gate_callee (f := 11) rfl ?_); refine goesL_ (some 10) rfl rfl Try.func11 (by kernel_rfl) rfl #[.pointer Pt108] rfl (by (try simp only [List.map_toArray, List.map_cons, List.map_nil]); first | done | rfl | (simp only [List.length_drop, List.length_take]; rfl)) ?_; (with_reducible refine (dense_New.calls _ t108 t111 _ ?side1 A2.out).mono ?_); (case side1 => first | exact HO_t108.out | exact OB.drewN HO_t108.out _ | exact OB.below (by repeat (first | (with_reducible first | exact HB.out | apply below_alloc | apply pw_below_drewN | apply below_drew1) | exact HB.out)) HO_t108.out); rintro e w63 ⟨Pt111, rfl, hob0, hb⟩; refine ⟨_, rfl, ?_⟩; have hbw_ := below_step (by repeat (first | (with_reducible first | exact HB.out | apply below_alloc | apply pw_below_drewN | apply below_drew1) | exact HB.out)) hb; (try (have n_ := Aside0.mk (Kd.C_below HRb110.out hbw_); clear HRb110; have HRb110 := n_; clear n_)); (try (have n_ := Aside0.mk (OB.below hbw_ HO_t108.out); clear HO_t108; have HO_t108 := n_; clear n_)); (try (have n_ := Aside0.mk (OB.below hbw_ HO_t111.out); clear HO_t111; have HO_t111 := n_; clear n_)); (first | (have n_ := Aside0.mk (HB00.out.trans (hbw_.mono HB00.out.size)); clear HB00; have HB00 := n_; clear n_) | have HB00 := Aside0.mk hbw_); clear HB hb hbw_; have HO_t111 := Aside0.mk hob0; clear hob0; obtain ⟨w, rfl⟩ : ∃ w_ : World, w_ = w63 := ⟨_, rfl⟩; have HB := Aside0.mk (Below.refl w.heap.size w)) | (go_at_call 25; (with_reducible refine (dense_Table_Len.calls _ t111 t112 _ ?side1 A4.out).mono ?_); (case side1 => first | exact HO_t111.out | exact OB.drewN HO_t111.out _ | exact OB.below (by repeat (first | (with_reducible first | exact HB.out | apply below_alloc | apply pw_below_drewN | apply below_drew1) | exact HB.out)) HO_t111.out); rintro e w' ⟨rfl, ⟨nd, rfl⟩⟩))
      go_ret
      exact ⟨by first | rfl | (simp [errW_none, errW_some] <;> rfl) | (simp [*, errW_none, errW_some] <;> rfl), by first | (refine HB00.out.trans (Below.mono ?_ HB00.out.size); (repeat (first | (with_reducible first | exact HB.out | apply below_alloc | apply pw_below_drewN | apply below_drew1) | exact HB.out))) | (repeat (first | (with_reducible first | exact HB.out | apply below_alloc | apply pw_below_drewN | apply below_drew1) | exact HB.out))⟩
  · rw [if_neg c3] at H
    have c3b0 : (t109 == 0) = false := beq_eq_false_iff_ne.mpr c3
    have c3b1 : (t109 != 0) = true := bne_iff_ne.mpr c3
    obtain rfl := Option.some.inj H
    go_enter Try.func8, Try.ntmps8
    go_wp2_with (first | ((with_reducible refine gate_dst (N := 5) rfl ?_); (try (refine gate_guard (by rfl) ?_; dsimp only)); refine Kd.R_lit Kd.string _ 9 ?hg (N := 5) ?hd (xs := ([(⟨#[97, 98]⟩ : ByteArray), (⟨#[98]⟩ : ByteArray)] : List ByteArray)) (inner := [.string (⟨#[97, 98]⟩ : ByteArray), .string (⟨#[98]⟩ : ByteArray)]) (ok := fun _ => True) (okp := fun _ => True) ?hr ?hp (fun _ hk => hk) trivial (Below.refl _ _) (Nat.le_refl _) (by simp) ?_; (case hd => rfl); (case hg => rfl); (case hr => first | (go_simp; done) | (go_simp; rfl)); (case hp => exact (Reps.one (show Kd.M Kd.string _ _ _ (⟨#[97, 98]⟩ : ByteArray) [.string (⟨#[97, 98]⟩ : ByteArray)] from rfl) (Reps.one (show Kd.M Kd.string _ _ _ (⟨#[98]⟩ : ByteArray) [.string (⟨#[98]⟩ : ByteArray)] from rfl) (Reps.none _ _)))); intro v106 w64 ho65 hb hg_ hnew_; clear hg_ hnew_; (first | rw [← Ny105.out] at ho65 | (simp only [Int.reduceToNat] at ho65; rw [← Ny105.out] at ho65)); have n0_ := Aside0.mk (Kd.R_lower ho65 (below_size (by repeat (first | (with_reducible first | exact HB.out | apply below_alloc | apply pw_below_drewN | apply below_drew1) | exact HB.out)))); have n1_ := Aside0.mk (below_step (by repeat (first | (with_reducible first | exact HB.out | apply below_alloc | apply pw_below_drewN | apply below_drew1) | exact HB.out)) hb); clear HB; have HO107 := n0_; have HB := n1_; clear n0_ n1_; clear hb ho65; obtain ⟨Ao66, co66, eo66⟩ := Kd.R_slice HO107.out; subst eo66) | ((with_reducible refine gate_callee (f := 9) rfl ?_); refine goesL_ (some 6) rfl rfl Try.func9 (by kernel_rfl) rfl #[.slice Ao66 y105.length co66] rfl (by (try simp only [List.map_toArray, List.map_cons, List.map_nil]); first | done | rfl | (simp only [List.length_drop, List.length_take]; rfl)) ?_; (with_reducible refine (pats_New.calls _ _ y105 t108 t109 _ ?side1 ?side2 A1.out).mono ?_); (case side1 => repeat (first | exact (Kd.R_reads' HO107.out).2.2 | (with_reducible refine Kd.C_alloc ?_ _) | (with_reducible refine Kd.C_drewN ?_ _) | (with_reducible refine Kd.C_drew ?_))); (case side2 => exact (Kd.R_reads' HO107.out).2.1); rintro e w67 ⟨Pt108, rfl, hob0, hb⟩; refine ⟨_, rfl, ?_⟩; have hbw_ := below_step (by repeat (first | (with_reducible first | exact HB.out | apply below_alloc | apply pw_below_drewN | apply below_drew1) | exact HB.out)) hb; obtain ⟨Ab110, cb110, eb110_, lb110_, gb110_⟩ := Kd.R_reads (Kd.R_below (by (with_reducible repeat (first | apply Kd.R_alloc | apply Kd.R_drewN | apply Kd.R_drew)); exact HO107.out) hb); (first | subst eb110_ | (injection eb110_ with f1_ f2_ f3_; have f4_ := f1_.symm; have f5_ := f3_.symm; clear f1_ f2_ f3_; subst f4_; subst f5_)); have HRb110 := Aside0.mk gb110_; have HCb110 := Aside0.mk lb110_; clear gb110_ lb110_; (try clear HO107); (try (have n_ := Aside0.mk (Kd.C_below HRb110.out hbw_); clear HRb110; have HRb110 := n_; clear n_)); (try (have n_ := Aside0.mk (OB.below hbw_ HO_t108.out); clear HO_t108; have HO_t108 := n_; clear n_)); (try (have n_ := Aside0.mk (OB.below hbw_ HO_t111.out); clear HO_t111; have HO_t111 := n_; clear n_)); (first | (have n_ := Aside0.mk (HB00.out.trans (hbw_.mono HB00.out.size)); clear HB00; have HB00 := n_; clear n_) | have HB00 := Aside0.mk hbw_); clear HB hb hbw_; have HO_t108 := Aside0.mk hob0; clear hob0; obtain ⟨w, rfl⟩ : ∃ w_ : World, w_ = w67 := ⟨_, rfl⟩; have HB := Aside0.mk (Below.refl w.heap.size w)) | ((with_reducible refine gate_callee (f := 11) rfl ?_); refine goesL_ (some 10) rfl rfl Try.func11 (by kernel_rfl) rfl #[.pointer Pt108] rfl (by (try simp only [List.map_toArray, List.map_cons, List.map_nil]); first | done | rfl | (simp only [List.length_drop, List.length_take]; rfl)) ?_; (with_reducible refine (dense_New.calls _ t108 t111 _ ?side1 A2.out).mono ?_); (case side1 => first | exact HO_t108.out | exact OB.drewN HO_t108.out _ | exact OB.below (by repeat (first | (with_reducible first | exact HB.out | apply below_alloc | apply pw_below_drewN | apply below_drew1) | exact HB.out)) HO_t108.out); rintro e w68 ⟨Pt111, rfl, hob0, hb⟩; refine ⟨_, rfl, ?_⟩; have hbw_ := below_step (by repeat (first | (with_reducible first | exact HB.out | apply below_alloc | apply pw_below_drewN | apply below_drew1) | exact HB.out)) hb; (try (have n_ := Aside0.mk (Kd.C_below HRb110.out hbw_); clear HRb110; have HRb110 := n_; clear n_)); (try (have n_ := Aside0.mk (OB.below hbw_ HO_t108.out); clear HO_t108; have HO_t108 := n_; clear n_)); (try (have n_ := Aside0.mk (OB.below hbw_ HO_t111.out); clear HO_t111; have HO_t111 := n_; clear n_)); (first | (have n_ := Aside0.mk (HB00.out.trans (hbw_.mono HB00.out.size)); clear HB00; have HB00 := n_; clear n_) | have HB00 := Aside0.mk hbw_); clear HB hb hbw_; have HO_t111 := Aside0.mk hob0; clear hob0; obtain ⟨w, rfl⟩ : ∃ w_ : World, w_ = w68 := ⟨_, rfl⟩; have HB := Aside0.mk (Below.refl w.heap.size w)))
    go_ret
    exact ⟨by first | rfl | (simp [errW_none, errW_some] <;> rfl) | (simp [*, errW_none, errW_some] <;> rfl), by first | (refine HB00.out.trans (Below.mono ?_ HB00.out.size); (repeat (first | (with_reducible first | exact HB.out | apply below_alloc | apply pw_below_drewN | apply below_drew1) | exact HB.out))) | (repeat (first | (with_reducible first | exact HB.out | apply below_alloc | apply pw_below_drewN | apply below_drew1) | exact HB.out))⟩

end Go.Proofs.Ytbkcjeopcjghgaa.P

/- Proved here: what Go functions of this seat compute, or a law of it; no condition beyond the statement's own. Written for this claim by a program of this session (wip/myprint.py) over the kit's print.py. -/
namespace Go.Proofs.Ytbkcjeopcjghgaa.P
open Go.RowKit Go.Proofs.YtbkcjeopcjghgaaW.PrintWords Go.Proofs.YtbkcjeopcjghgaaW.PrintLast Go.Proofs.YtbkcjeopcjghgaaW.PrintMore
attribute [local go_sem] max2_int min2_int max_two min_two max_three min_three max_four min_four   -- for this text's walks alone
set_option linter.unusedVariables false
set_option linter.unusedSimpArgs false

/-! ### juratlaw19_DenseReads: function 3 -/
mutual
def juratlaw19_DenseReads.j0 : Nat → List ByteArray → ByteArray → Int → Bool → Option (Bool)
  | 0, _, _, _, _ => none
  | k + 1, x0, x1, x2, x22 => if x22 = true then ((juratlaw19_awake.f k).bind fun t207 => (some t207)) else ((pats_New.f x0).bind fun bt208 => ((juratref10_New.f k x0).bind fun bt210 => ((dense_New.f bt208.1).bind fun t214 => ((juratref16_States.f k bt210.1).bind fun t216 => (juratlaw19_DenseReads.l0 k x1 x2 bt210.1 t214 t216 0 0)))))
def juratlaw19_DenseReads.l0 : Nat → ByteArray → Int → List ByteArray → Option D65 → List ByteArray → Int → Int → Option (Bool)
  | 0, _, _, _, _, _, _, _ => none
  | k + 1, x1, x2, x9, x11, x12, x13, x14 => if x14 < (x1.size : Int) then (if 0 ≤ x14 then ((dense_Table_Step.f x11 x13 (bt x1 x14)).bind fun t219 => (juratlaw19_DenseReads.l0 k x1 x2 x9 x11 x12 t219 (wrap64 (x14 + 1)))) else (none)) else ((juratref17_Longest.f k x12 x1 (x1.size : Int)).bind fun t220 => (if x13 = t220 then ((juratref18_Has.f k x9 x2).bind fun t221 => (if t221 = true then ((juratlaw19_awake.f k).bind fun t222 => (some t222)) else ((dense_Table_Step.f x11 x13 x2).bind fun t223 => (if t223 = 0 then ((juratlaw19_awake.f k).bind fun t224 => (some t224)) else (some false))))) else (some false)))
end
def juratlaw19_DenseReads.f (k : Nat) (l0 : List ByteArray) (a1 : ByteArray) (a2 : Int) : Option (Bool) := (juratref09_Few.f k l0 8 12).bind fun t206 => (if t206 = true then (juratlaw19_DenseReads.j0 k l0 a1 a2 (decide ((a1.size : Int) > 60))) else (juratlaw19_DenseReads.j0 k l0 a1 a2 true))
theorem juratlaw19_DenseReads.mono_l : ∀ k, (∀ y0 y1 y2 y3, LeO (juratlaw19_DenseReads.j0 k y0 y1 y2 y3) (juratlaw19_DenseReads.j0 (k + 1) y0 y1 y2 y3)) ∧ (∀ y0 y1 y2 y3 y4 y5 y6, LeO (juratlaw19_DenseReads.l0 k y0 y1 y2 y3 y4 y5 y6) (juratlaw19_DenseReads.l0 (k + 1) y0 y1 y2 y3 y4 y5 y6))
  | 0 => ⟨fun _ _ _ _ r h => by simp [juratlaw19_DenseReads.j0] at h, fun _ _ _ _ _ _ _ r h => by simp [juratlaw19_DenseReads.l0] at h⟩
  | k + 1 => by
    obtain ⟨ih0, ih1⟩ := juratlaw19_DenseReads.mono_l k
    refine ⟨?_, ?_⟩
    · intro y0 y1 y2 y3
      unfold juratlaw19_DenseReads.j0
      repeat' first
      | (with_reducible exact ih0 _ _ _ _)
      | (with_reducible exact ih1 _ _ _ _ _ _ _)
      | (with_reducible exact juratlaw19_awake.mono _)
      | (with_reducible exact juratref09_Few.mono _ _ _ _)
      | (with_reducible exact juratref10_New.mono _ _)
      | (with_reducible exact juratref16_States.mono _ _)
      | (with_reducible exact juratref17_Longest.mono _ _ _ _)
      | (with_reducible exact juratref18_Has.mono _ _ _)
      | (with_reducible exact LeO.refl _)
      | (with_reducible exact LeO.none _)
      | (with_reducible refine LeO.ite ?_ ?_)
      | (with_reducible refine LeO.bind ?_ (fun _ => ?_))
      | exact ih0 _ _ _ _
      | exact ih1 _ _ _ _ _ _ _
      | exact juratlaw19_awake.mono _
      | exact juratref09_Few.mono _ _ _ _
      | exact juratref10_New.mono _ _
      | exact juratref16_States.mono _ _
      | exact juratref17_Longest.mono _ _ _ _
      | exact juratref18_Has.mono _ _ _
      | exact LeO.none _
      | refine LeO.ite ?_ ?_
      | refine LeO.bind ?_ (fun _ => ?_)
    · intro y0 y1 y2 y3 y4 y5 y6
      unfold juratlaw19_DenseReads.l0
      repeat' first
      | (with_reducible exact ih0 _ _ _ _)
      | (with_reducible exact ih1 _ _ _ _ _ _ _)
      | (with_reducible exact juratlaw19_awake.mono _)
      | (with_reducible exact juratref09_Few.mono _ _ _ _)
      | (with_reducible exact juratref10_New.mono _ _)
      | (with_reducible exact juratref16_States.mono _ _)
      | (with_reducible exact juratref17_Longest.mono _ _ _ _)
      | (with_reducible exact juratref18_Has.mono _ _ _)
      | (with_reducible exact LeO.refl _)
      | (with_reducible exact LeO.none _)
      | (with_reducible refine LeO.ite ?_ ?_)
      | (with_reducible refine LeO.bind ?_ (fun _ => ?_))
      | exact ih0 _ _ _ _
      | exact ih1 _ _ _ _ _ _ _
      | exact juratlaw19_awake.mono _
      | exact juratref09_Few.mono _ _ _ _
      | exact juratref10_New.mono _ _
      | exact juratref16_States.mono _ _
      | exact juratref17_Longest.mono _ _ _ _
      | exact juratref18_Has.mono _ _ _
      | exact LeO.none _
      | refine LeO.ite ?_ ?_
      | refine LeO.bind ?_ (fun _ => ?_)
theorem juratlaw19_DenseReads.mono : ∀ a0 a1 a2 k, LeO (juratlaw19_DenseReads.f k a0 a1 a2) (juratlaw19_DenseReads.f (k + 1) a0 a1 a2) := by
  intro a0 a1 a2 k
  obtain ⟨ih0, ih1⟩ := juratlaw19_DenseReads.mono_l k
  unfold juratlaw19_DenseReads.f
  repeat' first
      | (with_reducible exact ih0 _ _ _ _)
      | (with_reducible exact ih1 _ _ _ _ _ _ _)
      | (with_reducible exact juratlaw19_awake.mono _)
      | (with_reducible exact juratref09_Few.mono _ _ _ _)
      | (with_reducible exact juratref10_New.mono _ _)
      | (with_reducible exact juratref16_States.mono _ _)
      | (with_reducible exact juratref17_Longest.mono _ _ _ _)
      | (with_reducible exact juratref18_Has.mono _ _ _)
      | (with_reducible exact LeO.refl _)
      | (with_reducible exact LeO.none _)
      | (with_reducible refine LeO.ite ?_ ?_)
      | (with_reducible refine LeO.bind ?_ (fun _ => ?_))
      | exact ih0 _ _ _ _
      | exact ih1 _ _ _ _ _ _ _
      | exact juratlaw19_awake.mono _
      | exact juratref09_Few.mono _ _ _ _
      | exact juratref10_New.mono _ _
      | exact juratref16_States.mono _ _
      | exact juratref17_Longest.mono _ _ _ _
      | exact juratref18_Has.mono _ _ _
      | exact LeO.none _
      | refine LeO.ite ?_ ?_
      | refine LeO.bind ?_ (fun _ => ?_)
set_option maxHeartbeats 8000000 in
set_option maxRecDepth 100000 in
theorem juratlaw19_DenseReads.calls (k : Nat) (A0 : Option Addr) (c0 : Nat) (l0 : List ByteArray) (a1 : ByteArray) (a2 : Int) (r : Bool) (w : World) (hr0 : Kd.C Kd.string w A0 l0.length l0) (hc0 : l0.length ≤ c0) (h : juratlaw19_DenseReads.f k l0 a1 a2 = some r) :
    Calls Try.prog 3 #[.slice A0 l0.length c0, .string a1, .int .u8 a2] w fun e w' => e = .returned (.bool r) ∧ Below w.heap.size w w' := by
  have HR0 := Aside0.mk hr0
  have HC0 := Aside0.mk hc0
  clear hr0 hc0
  have HB := Aside0.mk (Below.refl w.heap.size w)
  have H : ((juratref09_Few.f k l0 8 12).bind fun t206 => (if t206 = true then (juratlaw19_DenseReads.j0 k l0 a1 a2 (decide ((a1.size : Int) > 60))) else (juratlaw19_DenseReads.j0 k l0 a1 a2 true))) = some r := h
  clear h
  have HC4 := Aside0.mk H
  clear H
  go_enter Try.func3, Try.ntmps3
  go_upto_region 1 with (fail)
  go_cut [22] (fun v22 wc => ∃ (kq : Nat) (x22_3 : Bool), v22 = .bool x22_3 ∧ Aside0 (juratlaw19_DenseReads.j0 kq l0 a1 a2 x22_3 = some r) ∧ Aside0 (kq ≤ k) ∧ Aside0 (Below w.heap.size w wc))
  case first =>
    have H := HC4.out
    clear HC4
    replace H := Option.bind_eq_some_iff.mp H
    obtain ⟨t206, A50, H⟩ := H
    replace H : (if t206 = true then (juratlaw19_DenseReads.j0 k l0 a1 a2 (decide ((a1.size : Int) > 60))) else (juratlaw19_DenseReads.j0 k l0 a1 a2 true)) = some r := H
    have A5 := Aside0.mk A50
    clear A50
    by_cases c6 : t206 = true
    · subst c6
      have H1 : (juratlaw19_DenseReads.j0 k l0 a1 a2 (decide ((a1.size : Int) > 60))) = some r := by rw [if_pos rfl] at H; exact H
      clear H
      have H := H1
      clear H1
      have H' := Aside0.mk H
      clear H
      go_wp2_with (first | ((with_reducible refine gate_callee (f := 7) rfl ?_); refine goesL_ (some 16) rfl rfl Try.func7 (by kernel_rfl) rfl #[.slice A0 l0.length c0, .int .i64 8, .int .i64 12] rfl (by (try simp only [List.map_toArray, List.map_cons, List.map_nil]); first | done | rfl | (simp only [List.length_drop, List.length_take]; rfl)) ?_; (with_reducible refine (juratref09_Few.calls k _ _ l0 8 12 true _ ?side1 ?side2 A5.out).mono ?_); (case side1 => repeat (first | exact (Kd.C_below HR0.out HB.out) | (with_reducible refine Kd.C_alloc ?_ _) | (with_reducible refine Kd.C_drewN ?_ _) | (with_reducible refine Kd.C_drew ?_))); (case side2 => exact HC0.out); rintro e w' ⟨rfl, ⟨nd, rfl⟩⟩; refine ⟨_, rfl, ?_⟩))
      go_meet
      case rel => exact ⟨_, (decide ((a1.size : Int) > 60)), (by first | rfl | exact isE_ _ | exact isE2_ _ | (simp; done) | (simp [*]; done)), H', ⟨by first | omega | exact Nat.le_refl _⟩, ⟨by repeat (first | (with_reducible first | exact HB.out | apply below_alloc | apply pw_below_drewN | apply below_drew1) | exact HB.out)⟩⟩
    · replace c6 := Bool.eq_false_iff.mpr c6
      subst c6
      have H1 : (juratlaw19_DenseReads.j0 k l0 a1 a2 true) = some r := by rw [if_neg (show ¬ (false = true) by decide)] at H; exact H
      clear H
      have H := H1
      clear H1
      have H' := Aside0.mk H
      clear H
      go_wp2_with (first | ((with_reducible refine gate_callee (f := 7) rfl ?_); refine goesL_ (some 16) rfl rfl Try.func7 (by kernel_rfl) rfl #[.slice A0 l0.length c0, .int .i64 8, .int .i64 12] rfl (by (try simp only [List.map_toArray, List.map_cons, List.map_nil]); first | done | rfl | (simp only [List.length_drop, List.length_take]; rfl)) ?_; (with_reducible refine (juratref09_Few.calls k _ _ l0 8 12 false _ ?side1 ?side2 A5.out).mono ?_); (case side1 => repeat (first | exact (Kd.C_below HR0.out HB.out) | (with_reducible refine Kd.C_alloc ?_ _) | (with_reducible refine Kd.C_drewN ?_ _) | (with_reducible refine Kd.C_drew ?_))); (case side2 => exact HC0.out); rintro e w' ⟨rfl, ⟨nd, rfl⟩⟩; refine ⟨_, rfl, ?_⟩))
      go_meet
      case rel => exact ⟨_, (true), (by first | rfl | exact isE_ _ | exact isE2_ _ | (simp; done) | (simp [*]; done)), H', ⟨by first | omega | exact Nat.le_refl _⟩, ⟨by repeat (first | (with_reducible first | exact HB.out | apply below_alloc | apply pw_below_drewN | apply below_drew1) | exact HB.out)⟩⟩
  case rest =>
    clear HC4
    try clear p2
    try clear c3
    try clear c6
    obtain ⟨kq, x22_3, rfl, HA, HJ3, HB⟩ := hcut
    cases kq with
    | zero => exact absurd HA.out (by simp [juratlaw19_DenseReads.j0])
    | succ kj3 =>
      have H := HA.out
      clear HA
      simp only [juratlaw19_DenseReads.j0] at H
      by_cases c7 : x22_3 = true
      · subst c7
        have H1 : ((juratlaw19_awake.f kj3).bind fun t207 => (some t207)) = some r := by rw [if_pos rfl] at H; exact H
        clear H
        have H := H1
        clear H1
        replace H := Option.bind_eq_some_iff.mp H
        obtain ⟨t207, A80, H⟩ := H
        replace H : (some t207) = some r := H
        have A8 := Aside0.mk A80
        clear A80
        obtain rfl := Option.some.inj H
        go_wp2_with (first | ((with_reducible refine gate_callee (f := 8) rfl ?_); refine goesL_ (some 23) rfl rfl Try.func8 (by kernel_rfl) rfl #[] rfl (by (try simp only [List.map_toArray, List.map_cons, List.map_nil]); first | done | rfl | (simp only [List.length_drop, List.length_take]; rfl)) ?_; (with_reducible refine (juratlaw19_awake.calls kj3  t207 _ A8.out).mono ?_); rintro e w9 ⟨rfl, hb⟩; refine ⟨_, rfl, ?_⟩; have n0_ := Aside0.mk (below_step (by repeat (first | (with_reducible first | exact HB.out | apply below_alloc | apply pw_below_drewN | apply below_drew1) | exact HB.out)) hb); clear HB; have HB := n0_; clear n0_; (try clear hb); (try clear hb2); (try clear hk); (try clear hi)))
        go_ret
        exact ⟨by first | rfl | (simp [errW_none, errW_some] <;> rfl) | (simp [*, errW_none, errW_some] <;> rfl), by first | (refine HB00.out.trans (Below.mono ?_ HB00.out.size); (repeat (first | (with_reducible first | exact HB.out | apply below_alloc | apply pw_below_drewN | apply below_drew1) | exact HB.out))) | (repeat (first | (with_reducible first | exact HB.out | apply below_alloc | apply pw_below_drewN | apply below_drew1) | exact HB.out))⟩
      · replace c7 := Bool.eq_false_iff.mpr c7
        subst c7
        have H1 : ((pats_New.f l0).bind fun bt208 => ((juratref10_New.f kj3 l0).bind fun bt210 => ((dense_New.f bt208.1).bind fun t214 => ((juratref16_States.f kj3 bt210.1).bind fun t216 => (juratlaw19_DenseReads.l0 kj3 a1 a2 bt210.1 t214 t216 0 0))))) = some r := by rw [if_neg (show ¬ (false = true) by decide)] at H; exact H
        clear H
        have H := H1
        clear H1
        replace H := Option.bind_eq_some_iff.mp H
        obtain ⟨⟨t208, t209⟩, A100, H⟩ := H
        replace H : ((juratref10_New.f kj3 l0).bind fun bt210 => ((dense_New.f t208).bind fun t214 => ((juratref16_States.f kj3 bt210.1).bind fun t216 => (juratlaw19_DenseReads.l0 kj3 a1 a2 bt210.1 t214 t216 0 0)))) = some r := H
        have A10 := Aside0.mk A100
        clear A100
        replace H := Option.bind_eq_some_iff.mp H
        obtain ⟨⟨t210, t211⟩, A110, H⟩ := H
        replace H : ((dense_New.f t208).bind fun t214 => ((juratref16_States.f kj3 t210).bind fun t216 => (juratlaw19_DenseReads.l0 kj3 a1 a2 t210 t214 t216 0 0))) = some r := H
        have A11 := Aside0.mk A110
        clear A110
        replace H := Option.bind_eq_some_iff.mp H
        obtain ⟨t214, A120, H⟩ := H
        replace H : ((juratref16_States.f kj3 t210).bind fun t216 => (juratlaw19_DenseReads.l0 kj3 a1 a2 t210 t214 t216 0 0)) = some r := H
        have A12 := Aside0.mk A120
        clear A120
        replace H := Option.bind_eq_some_iff.mp H
        obtain ⟨t216, A130, H⟩ := H
        replace H : (juratlaw19_DenseReads.l0 kj3 a1 a2 t210 t214 t216 0 0) = some r := H
        have A13 := Aside0.mk A130
        clear A130
        have H' := Aside0.mk H
        clear H
        go_wp2_with (first | ((with_reducible refine gate_callee (f := 9) rfl ?_); refine goesL_ (some 26) rfl rfl Try.func9 (by kernel_rfl) rfl #[.slice A0 l0.length c0] rfl (by (try simp only [List.map_toArray, List.map_cons, List.map_nil]); first | done | rfl | (simp only [List.length_drop, List.length_take]; rfl)) ?_; (with_reducible refine (pats_New.calls _ _ l0 t208 t209 _ ?side1 ?side2 A10.out).mono ?_); (case side1 => repeat (first | exact (Kd.C_below HR0.out HB.out) | (with_reducible refine Kd.C_alloc ?_ _) | (with_reducible refine Kd.C_drewN ?_ _) | (with_reducible refine Kd.C_drew ?_))); (case side2 => exact HC0.out); rintro e w14 ⟨Pt208, rfl, hob0, hb⟩; refine ⟨_, rfl, ?_⟩; have hbw_ := below_step (by repeat (first | (with_reducible first | exact HB.out | apply below_alloc | apply pw_below_drewN | apply below_drew1) | exact HB.out)) hb; (try (have n_ := Aside0.mk (Kd.C_below HR0.out hbw_); clear HR0; have HR0 := n_; clear n_)); (first | (have n_ := Aside0.mk (HB00.out.trans (hbw_.mono HB00.out.size)); clear HB00; have HB00 := n_; clear n_) | have HB00 := Aside0.mk hbw_); clear HB hb hbw_; have HO_t208 := Aside0.mk hob0; clear hob0; obtain ⟨w, rfl⟩ : ∃ w_ : World, w_ = w14 := ⟨_, rfl⟩; have HB := Aside0.mk (Below.refl w.heap.size w)) | ((with_reducible refine gate_callee (f := 10) rfl ?_); refine goesL_ (some 31) rfl rfl Try.func10 (by kernel_rfl) rfl #[.slice A0 l0.length c0] rfl (by (try simp only [List.map_toArray, List.map_cons, List.map_nil]); first | done | rfl | (simp only [List.length_drop, List.length_take]; rfl)) ?_; (with_reducible refine (juratref10_New.calls kj3 _ _ l0 t210 t211 _ ?side1 ?side2 A11.out).mono ?_); (case side1 => repeat (first | exact (Kd.C_below HR0.out HB.out) | (with_reducible refine Kd.C_alloc ?_ _) | (with_reducible refine Kd.C_drewN ?_ _) | (with_reducible refine Kd.C_drew ?_))); (case side2 => exact HC0.out); rintro e w15 ⟨v212, rfl, ho0, hb⟩; refine ⟨_, rfl, ?_⟩; have n0_ := Aside0.mk (Kd.R_lower ho0 (below_size (by repeat (first | (with_reducible first | exact HB.out | apply below_alloc | apply pw_below_drewN | apply below_drew1) | exact HB.out)))); have n1_ := Aside0.mk (below_step (by repeat (first | (with_reducible first | exact HB.out | apply below_alloc | apply pw_below_drewN | apply below_drew1) | exact HB.out)) hb); clear HB; have HO213 := n0_; have HB := n1_; clear n0_ n1_; (try clear hb); (try clear hb2); (try clear hk); (try clear hi); (try clear ho0)) | ((with_reducible refine gate_callee (f := 11) rfl ?_); refine goesL_ (some 35) rfl rfl Try.func11 (by kernel_rfl) rfl #[.pointer Pt208] rfl (by (try simp only [List.map_toArray, List.map_cons, List.map_nil]); first | done | rfl | (simp only [List.length_drop, List.length_take]; rfl)) ?_; (with_reducible refine (dense_New.calls _ t208 t214 _ ?side1 A12.out).mono ?_); (case side1 => first | exact HO_t208.out | exact OB.drewN HO_t208.out _ | exact OB.below (by repeat (first | (with_reducible first | exact HB.out | apply below_alloc | apply pw_below_drewN | apply below_drew1) | exact HB.out)) HO_t208.out); rintro e w16 ⟨Pt214, rfl, hob0, hb⟩; refine ⟨_, rfl, ?_⟩; have hbw_ := below_step (by repeat (first | (with_reducible first | exact HB.out | apply below_alloc | apply pw_below_drewN | apply below_drew1) | exact HB.out)) hb; obtain ⟨Ab215, cb215, eb215_, lb215_, gb215_⟩ := Kd.R_reads (Kd.R_below (by (with_reducible repeat (first | apply Kd.R_alloc | apply Kd.R_drewN | apply Kd.R_drew)); exact HO213.out) hb); (first | subst eb215_ | (injection eb215_ with f1_ f2_ f3_; have f4_ := f1_.symm; have f5_ := f3_.symm; clear f1_ f2_ f3_; subst f4_; subst f5_)); have HRb215 := Aside0.mk gb215_; have HCb215 := Aside0.mk lb215_; clear gb215_ lb215_; (try clear HO213); (try (have n_ := Aside0.mk (Kd.C_below HR0.out hbw_); clear HR0; have HR0 := n_; clear n_)); (try (have n_ := Aside0.mk (OB.below hbw_ HO_t208.out); clear HO_t208; have HO_t208 := n_; clear n_)); (first | (have n_ := Aside0.mk (HB00.out.trans (hbw_.mono HB00.out.size)); clear HB00; have HB00 := n_; clear n_) | have HB00 := Aside0.mk hbw_); clear HB hb hbw_; have HO_t214 := Aside0.mk hob0; clear hob0; obtain ⟨w, rfl⟩ : ∃ w_ : World, w_ = w16 := ⟨_, rfl⟩; have HB := Aside0.mk (Below.refl w.heap.size w)) | ((with_reducible refine gate_callee (f := 12) rfl ?_); refine goesL_ (some 37) rfl rfl Try.func12 (by kernel_rfl) rfl #[.slice Ab215 t210.length cb215] rfl (by (try simp only [List.map_toArray, List.map_cons, List.map_nil]); first | done | rfl | (simp only [List.length_drop, List.length_take]; rfl)) ?_; (with_reducible refine (juratref16_States.calls kj3 _ _ t210 t216 _ ?side1 ?side2 A13.out).mono ?_); (case side1 => repeat (first | exact (Kd.C_below HRb215.out HB.out) | (with_reducible refine Kd.C_alloc ?_ _) | (with_reducible refine Kd.C_drewN ?_ _) | (with_reducible refine Kd.C_drew ?_))); (case side2 => exact HCb215.out); rintro e w17 ⟨v217, rfl, ho0, hb⟩; refine ⟨_, rfl, ?_⟩; have n0_ := Aside0.mk (Kd.R_lower ho0 (below_size (by repeat (first | (with_reducible first | exact HB.out | apply below_alloc | apply pw_below_drewN | apply below_drew1) | exact HB.out)))); have n1_ := Aside0.mk (below_step (by repeat (first | (with_reducible first | exact HB.out | apply below_alloc | apply pw_below_drewN | apply below_drew1) | exact HB.out)) hb); clear HB; have HO218 := n0_; have HB := n1_; clear n0_ n1_; (try clear hb); (try clear hb2); (try clear hk); (try clear hi); (try clear ho0)))
        go_loopg [13, 14] kj3 (fun kq v13 v14 w' => ∃ (x13_2 : Int) (x14_2 : Int), v13 = .int .i64 x13_2 ∧ v14 = .int .i64 x14_2 ∧ Aside0 (juratlaw19_DenseReads.l0 kq a1 a2 t210 t214 t216 x13_2 x14_2 = some r) ∧ Aside0 (kq ≤ kj3) ∧ Aside0 (Kd.R Kd.string 9 w' w.heap.size (fun _ => True) v217 t216) ∧ Aside0 (Below w.heap.size w w'))
        case atStart => exact ⟨(0), (0), (by first | rfl | exact isE_ _ | exact isE2_ _ | (simp; done) | (simp [*]; done)), (by first | rfl | exact isE_ _ | exact isE2_ _ | (simp; done) | (simp [*]; done)), H', ⟨Nat.le_refl _⟩, ⟨by (with_reducible repeat (first | apply Kd.R_alloc | apply Kd.R_drewN | apply Kd.R_drew)); exact HO218.out⟩, ⟨by repeat (first | (with_reducible first | exact HB.out | apply below_alloc | apply pw_below_drewN | apply below_drew1) | exact HB.out)⟩⟩
        case round =>
          clear H'
          try clear c1
          try clear p2
          try clear c3
          try clear c6
          try clear c7
          try clear c8
          try clear c9
          try clear c10
          try clear c11
          try clear c12
          try clear p2
          obtain ⟨x13_2, x14_2, rfl, rfl, HA, HK2, HO_12, HB⟩ := hrel
          cases gk with
          | zero => exact absurd HA.out (by simp [juratlaw19_DenseReads.l0])
          | succ k2 =>
            have H := HA.out
            clear HA
            simp only [juratlaw19_DenseReads.l0] at H
            by_cases c18 : x14_2 < (a1.size : Int)
            · rw [if_pos c18] at H
              have c18b0 : decide (x14_2 < (a1.size : Int)) = true := decide_eq_true c18
              clear c18
              by_cases c19 : 0 ≤ x14_2
              · rw [if_pos c19] at H
                have c19b0 : decide (0 ≤ x14_2) = true := decide_eq_true c19
                clear c19
                replace H := Option.bind_eq_some_iff.mp H
                obtain ⟨t219, A210, H⟩ := H
                replace H : (juratlaw19_DenseReads.l0 k2 a1 a2 t210 t214 t216 t219 (wrap64 (x14_2 + 1))) = some r := H
                have A21 := Aside0.mk A210
                clear A210
                have H' := Aside0.mk H
                clear H
                have p20 : 0 ≤ (x14_2 : Int) := of_decide_eq_true (by first | (with_reducible assumption) | assumption)
                have q20 : x14_2 < (a1.size : Int) := of_decide_eq_true (by first | (with_reducible assumption) | assumption)
                have hx20 := bt_at a1 x14_2
                replace p20 := eq_true p20
                replace q20 := eq_true q20
                go_wp2_with (first | ((with_reducible refine gate_callee (f := 13) rfl ?_); refine goesL_ (some 49) rfl rfl Try.func13 (by kernel_rfl) rfl #[.pointer Pt214, .int .i64 x13_2, .int .u8 (bt a1 x14_2)] rfl (by (try simp only [List.map_toArray, List.map_cons, List.map_nil]); first | done | rfl | (simp only [List.length_drop, List.length_take]; rfl)) ?_; (with_reducible refine (dense_Table_Step.calls _ t214 x13_2 (bt a1 x14_2) t219 _ ?side1 A21.out).mono ?_); (case side1 => first | exact HO_t214.out | exact OB.drewN HO_t214.out _ | exact OB.below (by repeat (first | (with_reducible first | exact HB.out | apply below_alloc | apply pw_below_drewN | apply below_drew1) | exact HB.out)) HO_t214.out); rintro e w' ⟨rfl, ⟨nd, rfl⟩⟩; refine ⟨_, rfl, ?_⟩))
                go_roundg k2
                case measure => have := HJ3.out; have := HK2.out; omega
                case rel => exact ⟨(t219), (wrap64 (x14_2 + 1)), (by first | rfl | exact isE_ _ | exact isE2_ _ | (simp; done) | (simp [*]; done)), (by first | rfl | exact isE_ _ | exact isE2_ _ | (simp; done) | (simp [*]; done)), H', ⟨by have := HJ3.out; have := HK2.out; omega⟩, ⟨by (with_reducible repeat (first | apply Kd.R_alloc | apply Kd.R_drewN | apply Kd.R_drew)); exact HO_12.out⟩, ⟨by repeat (first | (with_reducible first | exact HB.out | apply below_alloc | apply pw_below_drewN | apply below_drew1) | exact HB.out)⟩⟩
              · rw [if_neg c19] at H
                exact absurd H (by simp)
            · rw [if_neg c18] at H
              have c18b0 : decide (x14_2 < (a1.size : Int)) = false := decide_eq_false c18
              clear c18
              replace H := Option.bind_eq_some_iff.mp H
              obtain ⟨t220, A220, H⟩ := H
              replace H : (if x13_2 = t220 then ((juratref18_Has.f k2 t210 a2).bind fun t221 => (if t221 = true then ((juratlaw19_awake.f k2).bind fun t222 => (some t222)) else ((dense_Table_Step.f t214 x13_2 a2).bind fun t223 => (if t223 = 0 then ((juratlaw19_awake.f k2).bind fun t224 => (some t224)) else (some false))))) else (some false)) = some r := H
              have A22 := Aside0.mk A220
              clear A220
              by_cases c23 : x13_2 = t220
              · rw [if_pos c23] at H
                have c23b0 : (x13_2 == t220) = true := beq_iff_eq.mpr c23
                have c23b1 : (x13_2 != t220) = false := bne_eq_false_iff_eq.mpr c23
                clear c23
                replace H := Option.bind_eq_some_iff.mp H
                obtain ⟨t221, A240, H⟩ := H
                replace H : (if t221 = true then ((juratlaw19_awake.f k2).bind fun t222 => (some t222)) else ((dense_Table_Step.f t214 x13_2 a2).bind fun t223 => (if t223 = 0 then ((juratlaw19_awake.f k2).bind fun t224 => (some t224)) else (some false)))) = some r := H
                have A24 := Aside0.mk A240
                clear A240
                by_cases c25 : t221 = true
                · subst c25
                  have H1 : ((juratlaw19_awake.f k2).bind fun t222 => (some t222)) = some r := by rw [if_pos rfl] at H; exact H
                  clear H
                  have H := H1
                  clear H1
                  replace H := Option.bind_eq_some_iff.mp H
                  obtain ⟨t222, A260, H⟩ := H
                  replace H : (some t222) = some r := H
                  have A26 := Aside0.mk A260
                  clear A260
                  obtain rfl := Option.some.inj H
                  obtain ⟨Ao27, co27, eo27⟩ := Kd.R_slice HO_12.out
                  subst eo27
                  go_wp2_with (first | ((with_reducible refine gate_callee (f := 14) rfl ?_); refine goesL_ (some 55) rfl rfl Try.func14 (by kernel_rfl) rfl #[.slice Ao27 t216.length co27, .string a1, .int .i64 (a1.size : Int)] rfl (by (try simp only [List.map_toArray, List.map_cons, List.map_nil]); first | done | rfl | (simp only [List.length_drop, List.length_take]; rfl)) ?_; (with_reducible refine (juratref17_Longest.calls k2 _ _ t216 a1 (a1.size : Int) t220 _ ?side1 ?side2 A22.out).mono ?_); (case side1 => repeat (first | exact (Kd.R_reads' HO_12.out).2.2 | (with_reducible refine Kd.C_alloc ?_ _) | (with_reducible refine Kd.C_drewN ?_ _) | (with_reducible refine Kd.C_drew ?_))); (case side2 => exact (Kd.R_reads' HO_12.out).2.1); rintro e w' ⟨rfl, ⟨nd, rfl⟩⟩; refine ⟨_, rfl, ?_⟩) | (go_at_call 15; (with_reducible refine (juratref18_Has.calls k2 _ _ t210 a2 true _ ?side1 ?side2 A24.out).mono ?_); (case side1 => repeat (first | exact (Kd.C_below HRb215.out (by repeat (first | (with_reducible first | exact HB.out | apply below_alloc | apply pw_below_drewN | apply below_drew1) | exact HB.out))) | (with_reducible refine Kd.C_alloc ?_ _) | (with_reducible refine Kd.C_drewN ?_ _) | (with_reducible refine Kd.C_drew ?_))); (case side2 => exact HCb215.out); rintro e w' ⟨rfl, ⟨nd, rfl⟩⟩) | (go_at_call 8; (with_reducible refine (juratlaw19_awake.calls k2  t222 _ A26.out).mono ?_); rintro e w28 ⟨rfl, hb⟩; have n0_ := Aside0.mk (Kd.R_below (by (with_reducible repeat (first | apply Kd.R_alloc | apply Kd.R_drewN | apply Kd.R_drew)); exact HO_12.out) hb); have n1_ := Aside0.mk (below_step (by repeat (first | (with_reducible first | exact HB.out | apply below_alloc | apply pw_below_drewN | apply below_drew1) | exact HB.out)) hb); clear HO_12; clear HB; have HO_12 := n0_; have HB := n1_; clear n0_ n1_; (try clear hb); (try clear hb2); (try clear hk); (try clear hi)))
                  go_ret
                  exact ⟨by first | rfl | (simp [errW_none, errW_some] <;> rfl) | (simp [*, errW_none, errW_some] <;> rfl), by first | (refine HB00.out.trans (Below.mono ?_ HB00.out.size); (repeat (first | (with_reducible first | exact HB.out | apply below_alloc | apply pw_below_drewN | apply below_drew1) | exact HB.out))) | (repeat (first | (with_reducible first | exact HB.out | apply below_alloc | apply pw_below_drewN | apply below_drew1) | exact HB.out))⟩
                · replace c25 := Bool.eq_false_iff.mpr c25
                  subst c25
                  have H1 : ((dense_Table_Step.f t214 x13_2 a2).bind fun t223 => (if t223 = 0 then ((juratlaw19_awake.f k2).bind fun t224 => (some t224)) else (some false))) = some r := by rw [if_neg (show ¬ (false = true) by decide)] at H; exact H
                  clear H
                  have H := H1
                  clear H1
                  replace H := Option.bind_eq_some_iff.mp H
                  obtain ⟨t223, A290, H⟩ := H
                  replace H : (if t223 = 0 then ((juratlaw19_awake.f k2).bind fun t224 => (some t224)) else (some false)) = some r := H
                  have A29 := Aside0.mk A290
                  clear A290
                  by_cases c30 : t223 = 0
                  · rw [if_pos c30] at H
                    have c30b0 : (t223 == 0) = true := beq_iff_eq.mpr c30
                    have c30b1 : (t223 != 0) = false := bne_eq_false_iff_eq.mpr c30
                    clear c30
                    replace H := Option.bind_eq_some_iff.mp H
                    obtain ⟨t224, A310, H⟩ := H
                    replace H : (some t224) = some r := H
                    have A31 := Aside0.mk A310
                    clear A310
                    obtain rfl := Option.some.inj H
                    obtain ⟨Ao32, co32, eo32⟩ := Kd.R_slice HO_12.out
                    subst eo32
                    go_wp2_with (first | ((with_reducible refine gate_callee (f := 14) rfl ?_); refine goesL_ (some 55) rfl rfl Try.func14 (by kernel_rfl) rfl #[.slice Ao32 t216.length co32, .string a1, .int .i64 (a1.size : Int)] rfl (by (try simp only [List.map_toArray, List.map_cons, List.map_nil]); first | done | rfl | (simp only [List.length_drop, List.length_take]; rfl)) ?_; (with_reducible refine (juratref17_Longest.calls k2 _ _ t216 a1 (a1.size : Int) t220 _ ?side1 ?side2 A22.out).mono ?_); (case side1 => repeat (first | exact (Kd.R_reads' HO_12.out).2.2 | (with_reducible refine Kd.C_alloc ?_ _) | (with_reducible refine Kd.C_drewN ?_ _) | (with_reducible refine Kd.C_drew ?_))); (case side2 => exact (Kd.R_reads' HO_12.out).2.1); rintro e w' ⟨rfl, ⟨nd, rfl⟩⟩; refine ⟨_, rfl, ?_⟩) | (go_at_call 15; (with_reducible refine (juratref18_Has.calls k2 _ _ t210 a2 false _ ?side1 ?side2 A24.out).mono ?_); (case side1 => repeat (first | exact (Kd.C_below HRb215.out (by repeat (first | (with_reducible first | exact HB.out | apply below_alloc | apply pw_below_drewN | apply below_drew1) | exact HB.out))) | (with_reducible refine Kd.C_alloc ?_ _) | (with_reducible refine Kd.C_drewN ?_ _) | (with_reducible refine Kd.C_drew ?_))); (case side2 => exact HCb215.out); rintro e w' ⟨rfl, ⟨nd, rfl⟩⟩) | (go_at_call 13; (with_reducible refine (dense_Table_Step.calls _ t214 x13_2 a2 t223 _ ?side1 A29.out).mono ?_); (case side1 => first | exact HO_t214.out | exact OB.drewN HO_t214.out _ | exact OB.below (by repeat (first | (with_reducible first | exact HB.out | apply below_alloc | apply pw_below_drewN | apply below_drew1) | exact HB.out)) HO_t214.out); rintro e w' ⟨rfl, ⟨nd, rfl⟩⟩) | (go_at_call 8; (with_reducible refine (juratlaw19_awake.calls k2  t224 _ A31.out).mono ?_); rintro e w33 ⟨rfl, hb⟩; have n0_ := Aside0.mk (Kd.R_below (by (with_reducible repeat (first | apply Kd.R_alloc | apply Kd.R_drewN | apply Kd.R_drew)); exact HO_12.out) hb); have n1_ := Aside0.mk (below_step (by repeat (first | (with_reducible first | exact HB.out | apply below_alloc | apply pw_below_drewN | apply below_drew1) | exact HB.out)) hb); clear HO_12; clear HB; have HO_12 := n0_; have HB := n1_; clear n0_ n1_; (try clear hb); (try clear hb2); (try clear hk); (try clear hi)))
                    go_ret
                    exact ⟨by first | rfl | (simp [errW_none, errW_some] <;> rfl) | (simp [*, errW_none, errW_some] <;> rfl), by first | (refine HB00.out.trans (Below.mono ?_ HB00.out.size); (repeat (first | (with_reducible first | exact HB.out | apply below_alloc | apply pw_below_drewN | apply below_drew1) | exact HB.out))) | (repeat (first | (with_reducible first | exact HB.out | apply below_alloc | apply pw_below_drewN | apply below_drew1) | exact HB.out))⟩
                  · rw [if_neg c30] at H
                    have c30b0 : (t223 == 0) = false := beq_eq_false_iff_ne.mpr c30
                    have c30b1 : (t223 != 0) = true := bne_iff_ne.mpr c30
                    obtain rfl := Option.some.inj H
                    obtain ⟨Ao34, co34, eo34⟩ := Kd.R_slice HO_12.out
                    subst eo34
                    go_wp2_with (first | ((with_reducible refine gate_callee (f := 14) rfl ?_); refine goesL_ (some 55) rfl rfl Try.func14 (by kernel_rfl) rfl #[.slice Ao34 t216.length co34, .string a1, .int .i64 (a1.size : Int)] rfl (by (try simp only [List.map_toArray, List.map_cons, List.map_nil]); first | done | rfl | (simp only [List.length_drop, List.length_take]; rfl)) ?_; (with_reducible refine (juratref17_Longest.calls k2 _ _ t216 a1 (a1.size : Int) t220 _ ?side1 ?side2 A22.out).mono ?_); (case side1 => repeat (first | exact (Kd.R_reads' HO_12.out).2.2 | (with_reducible refine Kd.C_alloc ?_ _) | (with_reducible refine Kd.C_drewN ?_ _) | (with_reducible refine Kd.C_drew ?_))); (case side2 => exact (Kd.R_reads' HO_12.out).2.1); rintro e w' ⟨rfl, ⟨nd, rfl⟩⟩; refine ⟨_, rfl, ?_⟩) | (go_at_call 15; (with_reducible refine (juratref18_Has.calls k2 _ _ t210 a2 false _ ?side1 ?side2 A24.out).mono ?_); (case side1 => repeat (first | exact (Kd.C_below HRb215.out (by repeat (first | (with_reducible first | exact HB.out | apply below_alloc | apply pw_below_drewN | apply below_drew1) | exact HB.out))) | (with_reducible refine Kd.C_alloc ?_ _) | (with_reducible refine Kd.C_drewN ?_ _) | (with_reducible refine Kd.C_drew ?_))); (case side2 => exact HCb215.out); rintro e w' ⟨rfl, ⟨nd, rfl⟩⟩) | (go_at_call 13; (with_reducible refine (dense_Table_Step.calls _ t214 x13_2 a2 t223 _ ?side1 A29.out).mono ?_); (case side1 => first | exact HO_t214.out | exact OB.drewN HO_t214.out _ | exact OB.below (by repeat (first | (with_reducible first | exact HB.out | apply below_alloc | apply pw_below_drewN | apply below_drew1) | exact HB.out)) HO_t214.out); rintro e w' ⟨rfl, ⟨nd, rfl⟩⟩))
                    go_ret
                    exact ⟨by first | rfl | (simp [errW_none, errW_some] <;> rfl) | (simp [*, errW_none, errW_some] <;> rfl), by first | (refine HB00.out.trans (Below.mono ?_ HB00.out.size); (repeat (first | (with_reducible first | exact HB.out | apply below_alloc | apply pw_below_drewN | apply below_drew1) | exact HB.out))) | (repeat (first | (with_reducible first | exact HB.out | apply below_alloc | apply pw_below_drewN | apply below_drew1) | exact HB.out))⟩
              · rw [if_neg c23] at H
                have c23b0 : (x13_2 == t220) = false := beq_eq_false_iff_ne.mpr c23
                have c23b1 : (x13_2 != t220) = true := bne_iff_ne.mpr c23
                obtain rfl := Option.some.inj H
                obtain ⟨Ao35, co35, eo35⟩ := Kd.R_slice HO_12.out
                subst eo35
                go_wp2_with (first | ((with_reducible refine gate_callee (f := 14) rfl ?_); refine goesL_ (some 55) rfl rfl Try.func14 (by kernel_rfl) rfl #[.slice Ao35 t216.length co35, .string a1, .int .i64 (a1.size : Int)] rfl (by (try simp only [List.map_toArray, List.map_cons, List.map_nil]); first | done | rfl | (simp only [List.length_drop, List.length_take]; rfl)) ?_; (with_reducible refine (juratref17_Longest.calls k2 _ _ t216 a1 (a1.size : Int) t220 _ ?side1 ?side2 A22.out).mono ?_); (case side1 => repeat (first | exact (Kd.R_reads' HO_12.out).2.2 | (with_reducible refine Kd.C_alloc ?_ _) | (with_reducible refine Kd.C_drewN ?_ _) | (with_reducible refine Kd.C_drew ?_))); (case side2 => exact (Kd.R_reads' HO_12.out).2.1); rintro e w' ⟨rfl, ⟨nd, rfl⟩⟩; refine ⟨_, rfl, ?_⟩))
                go_ret
                exact ⟨by first | rfl | (simp [errW_none, errW_some] <;> rfl) | (simp [*, errW_none, errW_some] <;> rfl), by first | (refine HB00.out.trans (Below.mono ?_ HB00.out.size); (repeat (first | (with_reducible first | exact HB.out | apply below_alloc | apply pw_below_drewN | apply below_drew1) | exact HB.out))) | (repeat (first | (with_reducible first | exact HB.out | apply below_alloc | apply pw_below_drewN | apply below_drew1) | exact HB.out))⟩

end Go.Proofs.Ytbkcjeopcjghgaa.P

/- A set of few texts has a trie; no condition beyond the sizes that stand in each statement. -/
namespace Go.Proofs.Ytbkcjeopcjghgaa.Base
open Go Go.RowKit Go.Proofs.YtbkcjeopcjghgaaW.PrintWords Go.Proofs.YtbkcjeopcjghgaaW.PrintMore Go.Proofs.Ytbkcjeopcjghgaa.P
set_option linter.unusedVariables false

theorem trie_ok {l w : List ByteArray} {x : Option SetD} {e : Int} (h : SetOk l x w e) (hz : sizes w ≤ 16777216) : trie_New.f x = some (some (trS w)) ∧ okT w := by
  have ok : okT w := ⟨⟨h.up, h.nodup⟩, h.few, fun s hs => ⟨h.pos s hs, h.size s hs⟩, hz⟩
  refine ⟨?_, ok⟩
  unfold trie_New.f
  rw [h.hL, if_pos ok]
theorem sizes_le (m : Nat) : ∀ l : List ByteArray, (∀ s ∈ l, s.size ≤ m) → sizes l ≤ l.length * m
  | [], _ => by simp [sizes]
  | s :: l, h => by
    have h1 := h s List.mem_cons_self
    have h2 := sizes_le m l (fun x hx => h x (List.mem_cons_of_mem _ hx))
    simp only [sizes, List.length_cons, Nat.succ_mul]
    omega
end Go.Proofs.Ytbkcjeopcjghgaa.Base

/- Whether two lists of numbers are the same; no condition beyond the sizes that stand in each statement. -/
namespace Go.Proofs.Ytbkcjeopcjghgaa.Base
open Go Go.RowKit Go.Proofs.YtbkcjeopcjghgaaW.PrintWords Go.Proofs.YtbkcjeopcjghgaaW.PrintMore Go.Proofs.Ytbkcjeopcjghgaa.P

/-! the same numbers -/
theorem same1_l0 (a b : List Int) (he : a.length = b.length) (hm : a.length ≤ 9223372036854775807) : ∀ (d i : Nat), i + d = a.length →
    Ev (fun k => juratref01_Same.l0 k a b (i : Int)) (decide (a.drop i = b.drop i)) := by
  intro d
  induction d with
  | zero =>
    intro i hi
    refine Ev.ret fun k => ?_
    simp only [juratref01_Same.l0]
    rw [if_neg (by omega), List.drop_of_length_le (by omega), List.drop_of_length_le (by omega)]
    rfl
  | succ d ih =>
    intro i hi
    by_cases h : rd a (i : Int) = rd b (i : Int)
    · refine Ev.step (f := fun k => juratref01_Same.l0 k a b ((i + 1 : Nat) : Int)) (fun k => ?_) ?_
      · simp only [juratref01_Same.l0]
        rw [if_pos (by omega), if_pos (by omega), if_pos (by omega), if_pos h, wrap_id (by omega) (by omega)]
        rfl
      · have e : decide (a.drop i = b.drop i) = decide (a.drop (i + 1) = b.drop (i + 1)) := by
          rw [getD_drop a i 0 (by omega), getD_drop b i 0 (by omega)]
          have h' : a.getD i 0 = b.getD i 0 := h
          rw [h']
          simp
        rw [e]
        exact ih (i + 1) (by omega)
    · refine Ev.ret fun k => ?_
      simp only [juratref01_Same.l0]
      rw [if_pos (by omega), if_pos (by omega), if_pos (by omega), if_neg h]
      rw [getD_drop a i 0 (by omega), getD_drop b i 0 (by omega)]
      have h' : ¬ a.getD i 0 = b.getD i 0 := h
      rw [decide_eq_false (fun e => h' (List.cons.inj e).1)]
theorem same1 (a b : List Int) (hm : a.length ≤ 9223372036854775807) : Ev (fun k => juratref01_Same.f k a b) (decide (a = b)) := by
  by_cases he : a.length = b.length
  · have h := same1_l0 a b he hm a.length 0 (by omega)
    rw [List.drop_zero, List.drop_zero] at h
    refine Ev.congr (fun k => ?_) h
    unfold juratref01_Same.f
    rw [if_pos (by omega)]
    rfl
  · rw [decide_eq_false (fun e => he (by rw [e]))]
    refine Ev.const fun k => ?_
    unfold juratref01_Same.f
    rw [if_neg (by omega)]

end Go.Proofs.Ytbkcjeopcjghgaa.Base

/- Layer 19's example; the table of a set; no condition beyond the sizes that stand in each statement. -/
namespace Go.Proofs.Ytbkcjeopcjghgaa.Base
open Go Go.RowKit Go.Proofs.YtbkcjeopcjghgaaW.PrintWords Go.Proofs.YtbkcjeopcjghgaaW.PrintMore Go.Proofs.Ytbkcjeopcjghgaa.P
set_option linter.unusedVariables false

abbrev l19 : List ByteArray := [(⟨#[97, 98]⟩ : ByteArray), (⟨#[98]⟩ : ByteArray)]
theorem new19 : pats_New.f l19 = some (some ⟨l19, 1, 2, 3⟩, 0) := by
  have hs : sortB l19 = l19 := (sortB_of (List.Perm.refl _) (by decide)).symm
  unfold pats_New.f
  rw [hs]
  rfl
theorem okT_19 : okT l19 := ⟨⟨by decide, by decide⟩, by decide, fun s hs => by
    simp only [List.mem_cons, List.not_mem_nil, or_false] at hs
    rcases hs with rfl | rfl <;> decide, by decide⟩
/-- The table of a list. -/
abbrev denD (w : List ByteArray) : DenseD := ⟨classD w, denseT w, widN w, (trN w).length⟩
theorem dense19 : dense_New.f (some ⟨l19, 1, 2, 3⟩) = some (some (denD l19)) := if_pos okT_19
theorem row19 (s : Int) (r : List Int) (h0 : dnIs (some (denD l19)) s = true) (h1 : dnOk (denD l19) s.toNat) (h2 : dnRow (denD l19) s.toNat = r) (h3 : ∀ y ∈ r, 0 ≤ y ∧ y ≤ 2147483647) (h4 : widN l19 ≤ 1099511627776) : dense_Table_Row.f (some (denD l19)) s = some r := by
  unfold dense_Table_Row.f
  rw [if_pos h0]
  show (if dnOk (denD l19) s.toNat ∧ (∀ y ∈ dnRow (denD l19) s.toNat, 0 ≤ y ∧ y ≤ 2147483647) ∧ widN l19 ≤ 1099511627776 then some (dnRow (denD l19) s.toNat) else none) = _
  rw [h2, if_pos ⟨h1, h3, h4⟩]
theorem awake19 : Ev (fun k => juratlaw19_awake.f k) true := by
  have hw : widN l19 ≤ 1099511627776 := by decide +kernel
  have r0 : dense_Table_Row.f (some (denD l19)) 0 = some [0, 1, 2] := row19 _ _ (by decide +kernel) (by decide +kernel) (by decide +kernel) (by decide) hw
  have r1 : dense_Table_Row.f (some (denD l19)) 1 = some [0, 1, 3] := row19 _ _ (by decide +kernel) (by decide +kernel) (by decide +kernel) (by decide) hw
  have r3 : dense_Table_Row.f (some (denD l19)) 3 = some [0, 1, 2] := row19 _ _ (by decide +kernel) (by decide +kernel) (by decide +kernel) (by decide) hw
  have hl : dense_Table_Len.f (some (denD l19)) = some 4 := by decide +kernel
  refine Ev.congr (f := fun k => (juratref01_Same.f k [0, 1, 2] [0, 1, 2]).bind fun t => (if t = true then ((juratref01_Same.f k [0, 1, 3] [0, 1, 3]).bind fun u => (if u = true then ((juratref01_Same.f k [0, 1, 2] [0, 1, 2]).bind fun v => some v) else some false)) else some false)) (fun k => ?_) ?_
  · unfold juratlaw19_awake.f
    rw [new19, Option.bind_some, dense19, Option.bind_some, if_pos rfl, hl, Option.bind_some, if_pos rfl, r0, Option.bind_some, r1, Option.bind_some, r3, Option.bind_some]
  · refine Ev.bind (same1 _ _ (by decide)) (Ev.congr (fun k => if_pos (by decide)) (Ev.bind (same1 _ _ (by decide)) (Ev.congr (fun k => if_pos (by decide)) (Ev.bind (same1 _ _ (by decide)) (Ev.now true)))))
end Go.Proofs.Ytbkcjeopcjghgaa.Base

/- What the table of a list tells; no condition beyond the sizes that stand in each statement. -/
namespace Go.Proofs.Ytbkcjeopcjghgaa.Base
open Go Go.RowKit Go.Proofs.YtbkcjeopcjghgaaW.PrintWords Go.Proofs.YtbkcjeopcjghgaaW.PrintMore Go.Proofs.Ytbkcjeopcjghgaa.P
set_option linter.unusedVariables false

theorem dense_ok {l w : List ByteArray} {x : Option SetD} {e : Int} (h : SetOk l x w e) (hz : sizes w ≤ 16777216) : dense_New.f x = some (some (denD w)) ∧ okT w := by
  obtain ⟨_, ok⟩ := trie_ok h hz
  refine ⟨?_, ok⟩
  unfold dense_New.f
  rw [h.hL, if_pos ok]
theorem foreign_step {w : List ByteArray} (hs : srt w) {c : UInt8} (h : ¬ markB w c.toNat = true) : ∀ p : List UInt8, idxP w (stepP w p c) = 0 := by
  have key : ∀ p : List UInt8, ¬ idxP w (p ++ [c]) ≥ 0 := fun p hp => h ((clN_pos w c).1 (kid_mark hs hp))
  have k2 : ∀ p : List UInt8, lsufx w (p ++ [c]) = [] := by
    intro p
    induction p with
    | nil => exact lsufx_not (key [])
    | cons a p ih =>
      have h1 := key (a :: p)
      rw [List.cons_append] at h1 ⊢
      rw [lsufx_not h1]
      exact ih
  intro p
  unfold stepP
  rw [k2 p, idx_nil hs]
theorem rowL_at {w : List ByteArray} (hs : srt w) (p : List UInt8) (c : UInt8) : (rowL w p).getD (clN w c) 0 = idxP w (stepP w p c) := by
  by_cases h : markB w c.toNat = true
  · have hp := (clN_pos w c).2 h
    have hlt := clN_lt w c
    have hb := clBytes_length w
    obtain ⟨j, hj⟩ : ∃ j, clN w c = j + 1 := ⟨clN w c - 1, by omega⟩
    have hjl : j < (clBytes w).length := by omega
    have e1 := clBytes_at w hjl
    have e2 : (clBytes w).getD j 0 = c := clN_inj w (by omega) (by omega)
    have e3 : (rowL w p)[j + 1]? = some (idxP w (stepP w p ((clBytes w).getD j 0))) := by
      show ((clBytes w).map fun b => idxP w (stepP w p b))[j]? = _
      rw [List.getElem?_map, List.getD_eq_getElem?_getD, List.getElem?_eq_getElem hjl]
      rfl
    rw [hj, List.getD_eq_getElem?_getD, e3, e2]
    rfl
  · have h0 : clN w c = 0 := by
      rcases Nat.eq_zero_or_pos (clN w c) with h1 | h1
      · exact h1
      · exact absurd ((clN_pos w c).1 h1) h
    rw [h0, foreign_step hs h]
    rfl
theorem idx_bound {w : List ByteArray} (hs : srt w) (hz : sizes w ≤ 16777216) {p : List UInt8} (h : idxP w p ≥ 0) : ∃ (i : Nat) (n : NodeD), (trN w)[i]? = some n ∧ n.path = p ∧ idxP w p = (i : Int) ∧ i < (trN w).length ∧ i ≤ 16777217 := by
  obtain ⟨i, n, h1, h2, h3⟩ := idx_node hs h
  have h4 := (List.getElem?_eq_some_iff.1 h1).1
  have h5 := trN_le hs
  unfold trK at h5
  exact ⟨i, n, h1, h2, h3, h4, by omega⟩
theorem dstep_ok {w : List ByteArray} (ok : okT w) {i : Nat} {n : NodeD} (h : (trN w)[i]? = some n) (c : UInt8) : dense_Table_Step.f (some (denD w)) (i : Int) (c.toNat : Int) = some (idxP w (stepP w n.path c)) := by
  have hs := srt_of ok.1
  have hz := ok.2.2.2
  have hi : i < (trN w).length := (List.getElem?_eq_some_iff.1 h).1
  have hl := trN_le hs
  unfold trK at hl
  have hw1 := widN_le w
  have hw0 := wid_pos w
  have hcl := clN_lt w c
  have k1 : (i + 1) * widN w ≤ (trN w).length * widN w := Nat.mul_le_mul_right _ hi
  have k2 : (trN w).length * widN w ≤ 16777217 * 257 := Nat.mul_le_mul (by omega) hw1
  unfold dense_Table_Step.f
  have e0 : dnIs (some (denD w)) (i : Int) = true := decide_eq_true ⟨by omega, by show (i : Int) < (((trN w).length : Nat) : Int); omega⟩
  rw [if_pos e0]
  have e1 : class_Classes_Of.f (some (denD w).cls) (c.toNat : Int) = some (clN w c : Int) := clN_is w c
  simp only
  rw [e1]
  simp only [Int.toNat_natCast]
  have eT : dnAt (denD w) i (clN w c) = idxP w (stepP w n.path c) := by
    have r2 := flat_get (widN w) (fun n => rowL w n.path) (fun n => rowL_length w _) (trN w) i n h
    have a2 := take_at (T := denseT w) (s := i) hcl
    have r2' : ((denseT w).drop (i * widN w)).take (widN w) = rowL w n.path := r2
    rw [r2'] at a2
    have e3 : dnAt (denD w) i (clN w c) = rowAt (denseT w) (widN w) i (clN w c) := by
      show (denseT w).getD ((i * widN w + clN w c : Nat) : Int).toNat 0 = _
      rw [Int.toNat_natCast]
      rfl
    rw [e3, ← a2]
    exact rowL_at hs n.path c
  obtain ⟨j, m, g1, g2, g3, g4, g5⟩ := idx_bound hs hz (lsufx_is hs (n.path ++ [c]))
  have e4 : idxP w (stepP w n.path c) = (j : Int) := g3
  rw [eT, if_pos ⟨⟨hw0, by show widN w ≤ _; omega, by show (i + 1) * widN w ≤ (denseT w).length; rw [denseT_length]; exact k1, by show (denseT w).length ≤ _; rw [denseT_length]; omega, by omega⟩, ⟨by omega, by show ((clN w c : Nat) : Int) < ((widN w : Nat) : Int); omega⟩, by rw [e4]; omega, by rw [e4]; omega⟩]
end Go.Proofs.Ytbkcjeopcjghgaa.Base

/- Layer 17's reference: the longest state with which a text ends; where a byte leads; no condition beyond the sizes that stand in each statement. -/
namespace Go.Proofs.Ytbkcjeopcjghgaa.Base
open Go Go.RowKit Go.Proofs.YtbkcjeopcjghgaaW.PrintWords Go.Proofs.YtbkcjeopcjghgaaW.PrintMore Go.Proofs.Ytbkcjeopcjghgaa.P
set_option linter.unusedVariables false

section
variable {w : List ByteArray}
theorem ext_strP (s : ByteArray) (a : Nat) (ha : a ≤ s.size) : s.extract a s.size = strP ((LL s).drop a) := LL_inj (by
  rw [LL_extract, LL_strP]
  rw [List.take_of_length_le (by rw [LL_length]; exact Nat.le_refl _)])
theorem rlong_l0 (hs : srt w) (hl : (paths w).length ≤ 8796093022208) (s : ByteArray) (hsz : s.size ≤ 4611686018427387904) (most : Int) (hm : (s.size : Int) ≤ most) : ∀ n : Nat, n ≤ s.size → Ev (fun k => juratref17_Longest.l0 k (paths w) s most (n : Int)) (idxP w (lsufx w ((LL s).drop (s.size - n)))) := by
  intro n
  induction n with
  | zero =>
    intro hn
    have e : (LL s).drop (s.size - 0) = [] := List.drop_of_length_le (by rw [LL_length]; omega)
    rw [e]
    have e2 : idxP w (lsufx w []) = 0 := idx_nil hs
    rw [e2]
    have hf := rfind16_ev (paths w) (s.extract s.size s.size) hl
    have e3 : findB (s.extract s.size s.size) (paths w) 0 = 0 := by
      rw [ext_strP s s.size (Nat.le_refl _), List.drop_of_length_le (by rw [LL_length]; exact Nat.le_refl _)]
      exact idx_nil hs
    rw [e3] at hf
    refine Ev.step (f := fun k => (juratref16_Find.f k (paths w) (s.extract s.size s.size)).bind fun t => (if t ≥ 0 then (some t) else (juratref17_Longest.l0 k (paths w) s most (wrap64 (0 - 1))))) (fun k => ?_) (Ev.bind hf (Ev.now 0))
    simp only [juratref17_Longest.l0]
    rw [if_pos (by omega), if_neg (by omega), wrap_id (x := (s.size : Int) - ((0 : Nat) : Int)) (by omega) (by omega), if_pos (by omega), if_pos (by omega), show ((s.size : Int) - ((0 : Nat) : Int)).toNat = s.size by omega]
    rfl
  | succ n ih =>
    intro hn
    obtain ⟨c, hc⟩ : ∃ c, (LL s).drop (s.size - (n + 1)) = c :: (LL s).drop (s.size - n) := by
      have hlt : s.size - (n + 1) < (LL s).length := by rw [LL_length]; omega
      refine ⟨(LL s)[s.size - (n + 1)], ?_⟩
      rw [List.drop_eq_getElem_cons hlt, show s.size - (n + 1) + 1 = s.size - n by omega]
    have hf := rfind16_ev (paths w) (s.extract (s.size - (n + 1)) s.size) hl
    have e3 : findB (s.extract (s.size - (n + 1)) s.size) (paths w) 0 = idxP w (c :: (LL s).drop (s.size - n)) := by
      rw [ext_strP s _ (by omega), hc]
      rfl
    rw [e3] at hf
    rw [hc]
    have ih' := ih (by omega)
    refine Ev.step (f := fun k => (juratref16_Find.f k (paths w) (s.extract (s.size - (n + 1)) s.size)).bind fun t => (if t ≥ 0 then (some t) else (juratref17_Longest.l0 k (paths w) s most (n : Int)))) (fun k => ?_) (Ev.bind hf ?_)
    · simp only [juratref17_Longest.l0]
      rw [if_pos (by omega), if_neg (by omega), wrap_id (x := (s.size : Int) - ((n + 1 : Nat) : Int)) (by omega) (by omega), if_pos (by omega), if_pos (by omega), show ((s.size : Int) - ((n + 1 : Nat) : Int)).toNat = s.size - (n + 1) by omega, wrap_id (x := ((n + 1 : Nat) : Int) - 1) (by omega) (by omega), show ((n + 1 : Nat) : Int) - 1 = (n : Int) by omega]
    · by_cases h : idxP w (c :: (LL s).drop (s.size - n)) ≥ 0
      · rw [lsufx_self h]
        exact Ev.congr (fun k => if_pos h) (Ev.now _)
      · rw [lsufx_not h]
        exact Ev.congr (fun k => if_neg h) ih'
theorem rlong_ev (hs : srt w) (hl : (paths w).length ≤ 8796093022208) (s : ByteArray) (hsz : s.size ≤ 4611686018427387904) : Ev (fun k => juratref17_Longest.f k (paths w) s (s.size : Int)) (idxP w (lsufx w (LL s))) := by
  have := rlong_l0 hs hl s hsz (s.size : Int) (Int.le_refl _) s.size (Nat.le_refl _)
  rw [Nat.sub_self, List.drop_zero] at this
  exact this
end
end Go.Proofs.Ytbkcjeopcjghgaa.Base

/- Proved here: what Go functions of this seat compute, or a law of it; no condition beyond the statement's own. Written for this claim by a program of this session (wip/myprint.py) over the kit's print.py. -/
namespace Go.Proofs.Ytbkcjeopcjghgaa.P
open Go.RowKit Go.Proofs.YtbkcjeopcjghgaaW.PrintWords Go.Proofs.YtbkcjeopcjghgaaW.PrintLast Go.Proofs.YtbkcjeopcjghgaaW.PrintMore
attribute [local go_sem] max2_int min2_int max_two min_two max_three min_three max_four min_four   -- for this text's walks alone
set_option linter.unusedVariables false
set_option linter.unusedSimpArgs false

/-! ### juratref18_Bytes: function 27 -/
def juratref18_Bytes.l0 : Nat → List ByteArray → List Int → Int → Option (ByteArray)
  | 0, _, _, _ => none
  | k + 1, x0, x3, x4 => if x4 < 256 then ((juratref18_Has.f k x0 ((x4) % 256)).bind fun t313 => (if t313 = true then (if x3.length < 140737488355328 then (juratref18_Bytes.l0 k x0 (x3 ++ [(x4) % 256]) (wrap64 (x4 + 1))) else (none)) else (juratref18_Bytes.l0 k x0 x3 (wrap64 (x4 + 1))))) else (some (strOfNums x3))
def juratref18_Bytes.f (k : Nat) (l0 : List ByteArray) : Option (ByteArray) := juratref18_Bytes.l0 k l0 (([] : List Int)) 0
theorem juratref18_Bytes.mono_l : ∀ k, (∀ y0 y1 y2, LeO (juratref18_Bytes.l0 k y0 y1 y2) (juratref18_Bytes.l0 (k + 1) y0 y1 y2))
  | 0 => fun _ _ _ r h => by simp [juratref18_Bytes.l0] at h
  | k + 1 => by
    have ih0 := juratref18_Bytes.mono_l k
    · intro y0 y1 y2
      unfold juratref18_Bytes.l0
      repeat' first
      | (with_reducible exact ih0 _ _ _)
      | (with_reducible exact juratref18_Has.mono _ _ _)
      | (with_reducible exact LeO.refl _)
      | (with_reducible exact LeO.none _)
      | (with_reducible refine LeO.ite ?_ ?_)
      | (with_reducible refine LeO.bind ?_ (fun _ => ?_))
      | exact ih0 _ _ _
      | exact juratref18_Has.mono _ _ _
      | exact LeO.none _
      | refine LeO.ite ?_ ?_
      | refine LeO.bind ?_ (fun _ => ?_)
theorem juratref18_Bytes.mono : ∀ a0 k, LeO (juratref18_Bytes.f k a0) (juratref18_Bytes.f (k + 1) a0) := by
  intro a0 k
  have ih0 := juratref18_Bytes.mono_l k
  unfold juratref18_Bytes.f
  repeat' first
      | (with_reducible exact ih0 _ _ _)
      | (with_reducible exact juratref18_Has.mono _ _ _)
      | (with_reducible exact LeO.refl _)
      | (with_reducible exact LeO.none _)
      | (with_reducible refine LeO.ite ?_ ?_)
      | (with_reducible refine LeO.bind ?_ (fun _ => ?_))
      | exact ih0 _ _ _
      | exact juratref18_Has.mono _ _ _
      | exact LeO.none _
      | refine LeO.ite ?_ ?_
      | refine LeO.bind ?_ (fun _ => ?_)
set_option maxHeartbeats 8000000 in
set_option maxRecDepth 100000 in
theorem juratref18_Bytes.calls (k : Nat) (A0 : Option Addr) (c0 : Nat) (l0 : List ByteArray) (r : ByteArray) (w : World) (hr0 : Kd.C Kd.string w A0 l0.length l0) (hc0 : l0.length ≤ c0) (h : juratref18_Bytes.f k l0 = some r) :
    Calls Try.prog 27 #[.slice A0 l0.length c0] w fun e w' => e = .returned (.string r) ∧ Below w.heap.size w w' := by
  have HR0 := Aside0.mk hr0
  have HC0 := Aside0.mk hc0
  clear hr0 hc0
  have HB := Aside0.mk (Below.refl w.heap.size w)
  have H : (juratref18_Bytes.l0 k l0 (([] : List Int)) 0) = some r := h
  clear h
  obtain ⟨y310, hy310⟩ : ∃ y_ : List Int, y_ = (([] : List Int)) := ⟨_, rfl⟩
  replace H : (juratref18_Bytes.l0 k l0 y310 0) = some r := by first | (rw [hy310]; with_reducible exact H) | (have H2_ := (Option.bind_some _ _).symm.trans H; rw [hy310]; with_reducible exact H2_) | (have H2_ := (Option.bind_some _ _).symm.trans H; with_reducible exact H2_) | with_reducible exact H | (rw [hy310]; exact H) | exact H
  have Ny310 := Aside0.mk hy310
  clear hy310
  have H' := Aside0.mk H
  clear H
  go_enter Try.func27, Try.ntmps27
  go_wp2_with (first | ((with_reducible refine gate_dst (N := 5) rfl ?_); refine Kd.R_lit (Kd.int .u8) _ 5 ?hg (N := 5) ?hd (xs := ([] : List Int)) (inner := []) (ok := fun _ => True) (okp := fun _ => True) ?hr ?hp (fun _ hk => hk) trivial (Below.refl _ _) (Nat.le_refl _) (by simp) ?_; (case hd => rfl); (case hg => rfl); (case hr => first | (go_simp; done) | (go_simp; rfl)); (case hp => exact (Reps.none _ _)); intro v311 w2 ho3 hb hg_ hnew_; clear hg_ hnew_; (first | rw [← Ny310.out] at ho3 | (simp only [Int.reduceToNat] at ho3; rw [← Ny310.out] at ho3)); have n0_ := Aside0.mk (Kd.R_lower ho3 (below_size (by repeat (first | (with_reducible first | exact HB.out | apply below_alloc | apply pw_below_drewN | apply below_drew1) | exact HB.out)))); have n1_ := Aside0.mk (below_step (by repeat (first | (with_reducible first | exact HB.out | apply below_alloc | apply pw_below_drewN | apply below_drew1) | exact HB.out)) hb); clear HB; have HO312 := n0_; have HB := n1_; clear n0_ n1_; clear hb ho3))
  go_loopg [3, 4] k (fun kq v3 v4 w' => ∃ (x3_1 : List Int) (x4_1 : Int), v4 = .int .i64 x4_1 ∧ Aside0 (juratref18_Bytes.l0 kq l0 x3_1 x4_1 = some r) ∧ Aside0 (kq ≤ k) ∧ Aside0 (Kd.R (Kd.int .u8) 5 w' w.heap.size (fun _ => True) v3 x3_1) ∧ Aside0 (Below w.heap.size w w'))
  case atStart => exact ⟨(y310), (0), (by first | rfl | exact isE_ _ | exact isE2_ _ | (simp; done) | (simp [*]; done)), H', ⟨Nat.le_refl _⟩, ⟨by (with_reducible repeat (first | apply Kd.R_alloc | apply Kd.R_drewN | apply Kd.R_drew)); exact HO312.out⟩, ⟨by repeat (first | (with_reducible first | exact HB.out | apply below_alloc | apply pw_below_drewN | apply below_drew1) | exact HB.out)⟩⟩
  case round =>
    clear H'
    try clear c2
    try clear p2
    obtain ⟨x3_1, x4_1, rfl, HA, HK1, HO_3, HB⟩ := hrel
    cases gk with
    | zero => exact absurd HA.out (by simp [juratref18_Bytes.l0])
    | succ k1 =>
      have H := HA.out
      clear HA
      simp only [juratref18_Bytes.l0] at H
      by_cases c4 : x4_1 < 256
      · rw [if_pos c4] at H
        have c4b0 : decide (x4_1 < 256) = true := decide_eq_true c4
        clear c4
        replace H := Option.bind_eq_some_iff.mp H
        obtain ⟨t313, A50, H⟩ := H
        replace H : (if t313 = true then (if x3_1.length < 140737488355328 then (juratref18_Bytes.l0 k1 l0 (x3_1 ++ [(x4_1) % 256]) (wrap64 (x4_1 + 1))) else (none)) else (juratref18_Bytes.l0 k1 l0 x3_1 (wrap64 (x4_1 + 1)))) = some r := H
        have A5 := Aside0.mk A50
        clear A50
        by_cases c6 : t313 = true
        · subst c6
          have H1 : (if x3_1.length < 140737488355328 then (juratref18_Bytes.l0 k1 l0 (x3_1 ++ [(x4_1) % 256]) (wrap64 (x4_1 + 1))) else (none)) = some r := by rw [if_pos rfl] at H; exact H
          clear H
          have H := H1
          clear H1
          by_cases c7 : x3_1.length < 140737488355328
          · rw [if_pos c7] at H
            have LMc7 := Aside0.mk c7
            clear c7
            obtain ⟨y314, hy314⟩ : ∃ y_ : List Int, y_ = (x3_1 ++ [(x4_1) % 256]) := ⟨_, rfl⟩
            replace H : (juratref18_Bytes.l0 k1 l0 y314 (wrap64 (x4_1 + 1))) = some r := by first | (rw [hy314]; with_reducible exact H) | (have H2_ := (Option.bind_some _ _).symm.trans H; rw [hy314]; with_reducible exact H2_) | (have H2_ := (Option.bind_some _ _).symm.trans H; with_reducible exact H2_) | with_reducible exact H | (rw [hy314]; exact H) | exact H
            have Ny314 := Aside0.mk hy314
            clear hy314
            have H' := Aside0.mk H
            clear H
            go_wp2_with (first | ((with_reducible refine gate_callee (f := 15) rfl ?_); refine goesL_ (some 13) rfl rfl Try.func15 (by kernel_rfl) rfl #[.slice A0 l0.length c0, .int .u8 ((x4_1) % 256)] rfl (by (try simp only [List.map_toArray, List.map_cons, List.map_nil]); first | done | rfl | (simp only [List.length_drop, List.length_take]; rfl)) ?_; (with_reducible refine (juratref18_Has.calls k1 _ _ l0 ((x4_1) % 256) true _ ?side1 ?side2 A5.out).mono ?_); (case side1 => repeat (first | exact (Kd.C_below HR0.out HB.out) | (with_reducible refine Kd.C_alloc ?_ _) | (with_reducible refine Kd.C_drewN ?_ _) | (with_reducible refine Kd.C_drew ?_))); (case side2 => exact HC0.out); rintro e w' ⟨rfl, ⟨nd, rfl⟩⟩; refine ⟨_, rfl, ?_⟩) | ((with_reducible refine gate_builtin (b := .append) (xs := #[.tmp 14, .tmp 17]) rfl ?_); at_builtin; refine Kd.R_append (Kd.int .u8) (w0 := w) w.heap.size rfl (.tmp 14) (.tmp 17) 80 5 (.int .u8 0) 1 rfl Try.underlying80 info5 rfl (by decide) (by omega) u3 x3_1 ((x4_1) % 256) [.int .u8 ((x4_1) % 256)] (fun _ => True) (fun _ => False) rfl rfl ?aP (fun _ hk => hk.elim) ?aF ?aO ?aB ?aS ?aL ?_; (case aP => exact rfl); (case aB => exact (by repeat (first | (with_reducible first | exact HB.out | apply below_alloc | apply pw_below_drewN | apply below_drew1) | exact HB.out))); (case aF => exact (fun _ _ => trivial)); (case aO => exact (by (with_reducible repeat (first | apply Kd.R_alloc | apply Kd.R_drewN | apply Kd.R_drew)); exact HO_3.out)); (case aS => exact (below_size (by repeat (first | (with_reducible first | exact HB.out | apply below_alloc | apply pw_below_drewN | apply below_drew1) | exact HB.out)))); (case aL => have := LMc7.out; omega); intro v315 w8 ho hb hg hat; rw [← Ny314.out] at ho; have n0_ := Aside0.mk (hb); have n1_ := Aside0.mk (ho); clear HB; clear HO_3; have HB := n0_; have HO316 := n1_; clear n0_ n1_; clear ho hb hg hat))
            go_roundg k1
            case measure => have := HK1.out; omega
            case rel => exact ⟨(y314), (wrap64 (x4_1 + 1)), (by first | rfl | exact isE_ _ | exact isE2_ _ | (simp; done) | (simp [*]; done)), H', ⟨by have := HK1.out; omega⟩, ⟨by (with_reducible repeat (first | apply Kd.R_alloc | apply Kd.R_drewN | apply Kd.R_drew)); exact HO316.out⟩, ⟨by repeat (first | (with_reducible first | exact HB.out | apply below_alloc | apply pw_below_drewN | apply below_drew1) | exact HB.out)⟩⟩
          · rw [if_neg c7] at H
            exact absurd H (by simp)
        · replace c6 := Bool.eq_false_iff.mpr c6
          subst c6
          have H1 : (juratref18_Bytes.l0 k1 l0 x3_1 (wrap64 (x4_1 + 1))) = some r := by rw [if_neg (show ¬ (false = true) by decide)] at H; exact H
          clear H
          have H := H1
          clear H1
          have H' := Aside0.mk H
          clear H
          go_wp2_with (first | ((with_reducible refine gate_callee (f := 15) rfl ?_); refine goesL_ (some 13) rfl rfl Try.func15 (by kernel_rfl) rfl #[.slice A0 l0.length c0, .int .u8 ((x4_1) % 256)] rfl (by (try simp only [List.map_toArray, List.map_cons, List.map_nil]); first | done | rfl | (simp only [List.length_drop, List.length_take]; rfl)) ?_; (with_reducible refine (juratref18_Has.calls k1 _ _ l0 ((x4_1) % 256) false _ ?side1 ?side2 A5.out).mono ?_); (case side1 => repeat (first | exact (Kd.C_below HR0.out HB.out) | (with_reducible refine Kd.C_alloc ?_ _) | (with_reducible refine Kd.C_drewN ?_ _) | (with_reducible refine Kd.C_drew ?_))); (case side2 => exact HC0.out); rintro e w' ⟨rfl, ⟨nd, rfl⟩⟩; refine ⟨_, rfl, ?_⟩))
          go_roundg k1
          case measure => have := HK1.out; omega
          case rel => exact ⟨(x3_1), (wrap64 (x4_1 + 1)), (by first | rfl | exact isE_ _ | exact isE2_ _ | (simp; done) | (simp [*]; done)), H', ⟨by have := HK1.out; omega⟩, ⟨by (with_reducible repeat (first | apply Kd.R_alloc | apply Kd.R_drewN | apply Kd.R_drew)); exact HO_3.out⟩, ⟨by repeat (first | (with_reducible first | exact HB.out | apply below_alloc | apply pw_below_drewN | apply below_drew1) | exact HB.out)⟩⟩
      · rw [if_neg c4] at H
        have c4b0 : decide (x4_1 < 256) = false := decide_eq_false c4
        clear c4
        obtain rfl := Option.some.inj H
        have hcv9 := own_string (P := Try.prog) Try.underlying80 Try.underlying5 Try.underlying9 (Kd.own_of_R HO_3.out)
        go_wp2
        go_ret
        exact ⟨by first | rfl | (simp [errW_none, errW_some] <;> rfl) | (simp [*, errW_none, errW_some] <;> rfl), by repeat (first | (with_reducible first | exact HB.out | apply below_alloc | apply pw_below_drewN | apply below_drew1) | exact HB.out)⟩

end Go.Proofs.Ytbkcjeopcjghgaa.P

/- Layer 18's reference: does a byte stand in a pattern; no condition beyond the sizes that stand in each statement. -/
namespace Go.Proofs.Ytbkcjeopcjghgaa.Base
open Go Go.RowKit Go.Proofs.YtbkcjeopcjghgaaW.PrintWords Go.Proofs.YtbkcjeopcjghgaaW.PrintMore Go.Proofs.Ytbkcjeopcjghgaa.P
set_option linter.unusedVariables false

theorem rhas_ev (w : List ByteArray) (hl : w.length ≤ 65535) (hz : ∀ s ∈ w, s.size ≤ 65535) (c : Nat) : Ev (fun k => juratref18_Has.f k w (c : Int)) (markB w c) := by
  have k1 : ∀ (i : Nat) (s : ByteArray), w[i]? = some s → ∀ (R : Bool), Ev (fun k => juratref18_Has.l0 k w (c : Int) ((i + 1 : Nat) : Int)) R → ∀ (d j : Nat), j + d = s.size → Ev (fun k => juratref18_Has.l1 k w (c : Int) (i : Int) (j : Int)) (((LL s).drop j).any (fun x => decide (x.toNat = c)) || R) := by
    intro i s hs R hR d
    have hi : i < w.length := (List.getElem?_eq_some_iff.1 hs).1
    have hsz := hz s (List.mem_of_getElem? hs)
    have e1 : rdOf ByteArray.empty w (i : Int) = s := by
      show w.getD (i : Int).toNat ByteArray.empty = _
      rw [Int.toNat_natCast, List.getD_eq_getElem?_getD, hs]
      rfl
    induction d with
    | zero =>
      intro j hj
      rw [List.drop_of_length_le (by rw [LL_length]; omega)]
      refine Ev.step (fun k => ?_) hR
      simp only [juratref18_Has.l1]
      rw [if_pos (by omega), if_pos (by omega), e1, if_neg (by omega), wrap_id (by omega) (by omega)]
      rfl
    | succ d ih =>
      intro j hj
      have hj2 : j < (LL s).length := by rw [LL_length]; omega
      have eb : bt s (j : Int) = (((LL s)[j]).toNat : Int) := by
        rw [bt_eq, Int.toNat_natCast, List.getD_eq_getElem?_getD, List.getElem?_eq_getElem hj2]
        rfl
      rw [List.drop_eq_getElem_cons hj2, List.any_cons]
      by_cases h : ((LL s)[j]).toNat = c
      · rw [decide_eq_true h, Bool.true_or, Bool.true_or]
        refine Ev.ret fun k => ?_
        simp only [juratref18_Has.l1]
        rw [if_pos (by omega), if_pos (by omega), e1, if_pos (by omega), if_pos (by omega), eb, if_pos (by omega)]
      · rw [decide_eq_false h, Bool.false_or]
        refine Ev.step (fun k => ?_) (ih (j + 1) (by omega))
        simp only [juratref18_Has.l1]
        rw [if_pos (by omega), if_pos (by omega), e1, if_pos (by omega), if_pos (by omega), eb, if_neg (by omega), wrap_id (by omega) (by omega)]
        rfl
  have k0 : ∀ (d i : Nat), i + d = w.length → Ev (fun k => juratref18_Has.l0 k w (c : Int) (i : Int)) (markB (w.drop i) c) := by
    intro d
    induction d with
    | zero =>
      intro i hi
      rw [List.drop_of_length_le (by omega)]
      refine Ev.ret fun k => ?_
      simp only [juratref18_Has.l0]
      rw [if_neg (by omega)]
      rfl
    | succ d ih =>
      intro i hi
      have hi2 : i < w.length := by omega
      have hr := k1 i w[i] (List.getElem?_eq_getElem hi2) _ (ih (i + 1) (by omega)) w[i].size 0 (by omega)
      rw [List.drop_zero] at hr
      have e : markB (w.drop i) c = ((LL w[i]).any (fun x => decide (x.toNat = c)) || markB (w.drop (i + 1)) c) := by
        rw [List.drop_eq_getElem_cons hi2]
        rfl
      rw [e]
      refine Ev.step (fun k => ?_) hr
      simp only [juratref18_Has.l0]
      rw [if_pos (by omega)]
      rfl
  have := k0 w.length 0 (by omega)
  rw [List.drop_zero] at this
  exact this
/-- The bytes that stand in patterns, as the reference gathers them. -/
theorem rbytes_ev (w : List ByteArray) (hl : w.length ≤ 65535) (hz : ∀ s ∈ w, s.size ≤ 65535) : Ev (fun k => juratref18_Bytes.f k w) (strOfNums (clEnd (clMarks w) 256).2) := by
  have key : ∀ (d c : Nat), c + d = 256 → Ev (fun k => juratref18_Bytes.l0 k w (clEnd (clMarks w) c).2 (c : Int)) (strOfNums (clEnd (clMarks w) 256).2) := by
    intro d
    induction d with
    | zero =>
      intro c hc
      obtain rfl : c = 256 := by omega
      refine Ev.ret fun k => ?_
      simp only [juratref18_Bytes.l0]
      rw [if_neg (by decide)]
    | succ d ih =>
      intro c hc
      have hc2 : c < 256 := by omega
      have e0 : ((c : Int) % 256) = (c : Int) := by omega
      have hlen := (clEnd_length (clMarks w) c).2
      have hm := clMarks_at w hc2
      have hx := ih (c + 1) (by omega)
      refine Ev.step (f := fun k => (juratref18_Has.f k w (c : Int)).bind fun t => (if t = true then (juratref18_Bytes.l0 k w ((clEnd (clMarks w) c).2 ++ [(c : Int)]) ((c + 1 : Nat) : Int)) else (juratref18_Bytes.l0 k w (clEnd (clMarks w) c).2 ((c + 1 : Nat) : Int)))) (fun k => ?_) (Ev.bind (rhas_ev w hl hz c) ?_)
      · simp only [juratref18_Bytes.l0]
        rw [if_pos (by omega), e0, wrap_id (x := (c : Int) + 1) (by omega) (by omega), if_pos (show (clEnd (clMarks w) c).2.length < 140737488355328 by omega)]
        rfl
      · by_cases h : markB w c = true
        · refine Ev.congr (fun k => if_pos h) ?_
          rw [if_pos h] at hm
          have e : (clEnd (clMarks w) (c + 1)).2 = (clEnd (clMarks w) c).2 ++ [(c : Int)] := by simp only [clEnd]; rw [if_pos (by rw [hm]; decide)]
          rw [← e]
          exact hx
        · refine Ev.congr (fun k => if_neg h) ?_
          rw [if_neg h] at hm
          have e : (clEnd (clMarks w) (c + 1)).2 = (clEnd (clMarks w) c).2 := by simp only [clEnd]; rw [if_neg (by rw [hm]; decide)]
          rw [← e]
          exact hx
  exact key 256 0 (by omega)
end Go.Proofs.Ytbkcjeopcjghgaa.Base

/- Proved: for all texts, every text and every byte the law DenseReads of layer 19 answers true. No condition beyond the statement's own. -/
namespace Go.Proofs.Ytbkcjeopcjghgaa.Pure
open Go Go.RowKit Go.Proofs.Ytbkcjeopcjghgaa.P Go.Proofs.YtbkcjeopcjghgaaW.PrintWords Go.Proofs.YtbkcjeopcjghgaaW.PrintLast Go.Proofs.Ytbkcjeopcjghgaa.Base
set_option linter.unusedVariables false

theorem u8_of {x : Int} (h : (Lit.int .u8 x).wf = true) : ∃ c : UInt8, x = (c.toNat : Int) := by
  have hx : 0 ≤ x ∧ x ≤ 255 := by
    simp [Lit.wf, IntKind.min, IntKind.max, IntKind.signed, IntKind.bits] at h
    omega
  exact ⟨UInt8.ofNat x.toNat, by rw [UInt8.toNat_ofNat']; omega⟩
theorem reads_l0 {w : List ByteArray} (ok : okT w) (s : ByteArray) (hsz : s.size ≤ 60) (c : UInt8) : ∀ (d i : Nat) (at_ : Nat) (n : NodeD), i + d = s.size → (trN w)[at_]? = some n → n.path = lsufx w ((LL s).take i) →
    Ev (fun k => juratlaw19_DenseReads.l0 k s (c.toNat : Int) w (some (denD w)) (paths w) (at_ : Int) (i : Int)) true := by
  have hs := srt_of ok.1
  have hz := ok.2.2.2
  have hl := trN_le hs
  unfold trK at hl
  have hpl : (paths w).length ≤ 8796093022208 := by rw [paths_length]; omega
  intro d
  induction d with
  | zero =>
    intro i at_ n hi hn hp
    rw [List.take_of_length_le (by rw [LL_length]; omega)] at hp
    have hat := idx_at hs hn
    rw [hp] at hat
    have hr := rlong_ev hs hpl s (by omega)
    rw [hat] at hr
    have hst := dstep_ok ok hn c
    refine Ev.step (f := fun k => (juratref17_Longest.f k (paths w) s (s.size : Int)).bind fun t220 => (if (at_ : Int) = t220 then ((juratref18_Has.f k w (c.toNat : Int)).bind fun t221 => (if t221 = true then ((juratlaw19_awake.f k).bind fun t222 => (some t222)) else ((dense_Table_Step.f (some (denD w)) (at_ : Int) (c.toNat : Int)).bind fun t223 => (if t223 = 0 then ((juratlaw19_awake.f k).bind fun t224 => (some t224)) else (some false))))) else (some false))) (fun k => ?_) ?_
    · simp only [juratlaw19_DenseReads.l0]
      rw [if_neg (by omega)]
    · refine Ev.bind hr (Ev.congr (fun k => if_pos rfl) (Ev.bind (rhas_ev w ok.2.1 (fun s hs => (ok.2.2.1 s hs).2) c.toNat) ?_))
      by_cases hm : markB w c.toNat = true
      · exact Ev.congr (fun k => if_pos hm) (Ev.bind awake19 (Ev.now true))
      · refine Ev.congr (fun k => if_neg hm) (Ev.bind (Ev.const fun _ => hst) ?_)
        rw [foreign_step hs hm]
        exact Ev.congr (fun k => if_pos rfl) (Ev.bind awake19 (Ev.now true))
  | succ d ih =>
    intro i at_ n hi hn hp
    have hi2 : i < (LL s).length := by rw [LL_length]; omega
    obtain ⟨b, hb⟩ : ∃ b, (LL s)[i] = b := ⟨_, rfl⟩
    have eb : bt s (i : Int) = (b.toNat : Int) := by
      rw [bt_eq, Int.toNat_natCast, List.getD_eq_getElem?_getD, List.getElem?_eq_getElem hi2, hb]
      rfl
    have hst := dstep_ok ok hn b
    obtain ⟨j, m, g1, g2, g3, g4, g5⟩ := idx_bound hs hz (lsufx_is hs (n.path ++ [b]))
    have e4 : idxP w (stepP w n.path b) = (j : Int) := g3
    rw [e4] at hst
    have hx := ih (i + 1) j m (by omega) g1 (by
      rw [g2, List.take_add_one, List.getElem?_eq_getElem hi2, hb, hp]
      exact step_text hs _ b)
    refine Ev.step (f := fun k => (dense_Table_Step.f (some (denD w)) (at_ : Int) (b.toNat : Int)).bind fun t219 => (juratlaw19_DenseReads.l0 k s (c.toNat : Int) w (some (denD w)) (paths w) t219 ((i + 1 : Nat) : Int))) (fun k => ?_) (Ev.bind (Ev.const fun _ => hst) hx)
    simp only [juratlaw19_DenseReads.l0]
    rw [if_pos (by omega), if_pos (by omega), eb, wrap_id (by omega) (by omega)]
    rfl
theorem DenseReads (l : List ByteArray) (s : ByteArray) (c : Int) (hl : l.length * 16 ≤ 140737488351232) (_ : ∀ x ∈ l, x.size ≤ maxLen) (_ : s.size ≤ 140737488351232) (hc : (Lit.int .u8 c).wf = true) : ∃ k, juratlaw19_DenseReads.f k l s c = some true := by
  obtain ⟨b, rfl⟩ := u8_of hc
  refine Ev.rounds ?_
  have big : Ev (fun k => juratlaw19_DenseReads.j0 k l s (b.toNat : Int) true) true := by
    refine Ev.step (f := fun k => (juratlaw19_awake.f k).bind fun t => some t) (fun k => ?_) (Ev.bind awake19 (Ev.now true))
    simp only [juratlaw19_DenseReads.j0]
    rw [if_pos trivial]
  unfold juratlaw19_DenseReads.f
  refine Ev.bind (few_ev l 8 12 (by omega)) ?_
  by_cases h1 : (decide ((l.length : Int) ≤ 8) && fewB l 12) = true
  rotate_left
  · exact Ev.congr (fun k => if_neg h1) big
  refine Ev.congr (fun k => if_pos h1) ?_
  by_cases h2 : (s.size : Int) > 60
  · rw [decide_eq_true h2]; exact big
  rw [decide_eq_false h2]
  rw [Bool.and_eq_true, decide_eq_true_iff] at h1
  obtain ⟨X, w, er, h⟩ := set_ok l
  have hw12 : ∀ t ∈ w, t.size ≤ 12 := fun t ht => by have := fewB_iff.1 h1.2 t (h.mem t ht); omega
  have hsz : sizes w ≤ 96 := by
    have h2 := sizes_le 12 w hw12
    have h3 := h.len
    have : w.length * 12 ≤ 8 * 12 := Nat.mul_le_mul (by omega) (Nat.le_refl _)
    omega
  obtain ⟨hD, ok⟩ := dense_ok h (by omega)
  refine Ev.step (f := fun k => juratlaw19_DenseReads.j0 (k + 1) l s (b.toNat : Int) false) (fun k => rfl) ?_
  simp only [juratlaw19_DenseReads.j0]
  refine Ev.congr (fun k => if_neg (by simp)) ?_
  refine Ev.bind (Ev.const fun _ => h.hn) (Ev.bind (rnew_ok h) (Ev.bind (Ev.const fun _ => hD) (Ev.bind (rstates_ev w ok) ?_)))
  exact reads_l0 ok s (by omega) b s.size 0 0 _ (by omega) path_root rfl
end Go.Proofs.Ytbkcjeopcjghgaa.Pure

/- How a law's arguments are opened: slices of texts and of numbers, as lists, with their sizes out of the row's weights. -/
namespace Go.Proofs.Ytbkcjeopcjghgaa.RowS
open Go Go.ChangeShapes Go.WideShapes Go.RowKit Go.Proofs.YtbkcjeopcjghgaaW.PrintWords

theorem slice_strings {H : Type} {enc : TypeId × Value → H} {P : Program} {W : World} {t e : TypeId} {a : Option Addr} {len cap : Nat} {d : DataW H} {ps : List MemPlace} {ts : List TypeId} {ds : List (DataW H)} {j : Nat}
    (hsz : (DataW.weightsEach P ts ds).all (· ≤ reachBytes) = true) (ht : ts[j]? = some t) (hd : ds[j]? = some d) (hu : P.underlying t = some (.slice e)) (he : P.underlying e = some .string) (hc : P.cellsOf e = 1) (hB : P.bytesOf e = 16)
    (h : DataW.Trod enc P W 0 (fun _ => true) true t (.slice a len cap) d ps) :
    ∃ l : List ByteArray, l.length = len ∧ len ≤ cap ∧ Kd.C Kd.string W a l.length l ∧ l.length * 16 ≤ 140737488351232 ∧ ∀ s ∈ l, s.size ≤ maxLen := by
  obtain ⟨fuel, hf⟩ := h
  rcases open_strings hu he hc hf with ⟨hcs, _⟩ | ⟨x, l, c, ss, hcs, _, hl, hm, hz, hx, hcell, hw⟩
  · simp [Value.cells] at hcs
    obtain ⟨rfl, rfl, rfl⟩ := hcs
    exact ⟨[], rfl, Nat.le_refl _, Kd.C_nil _ _, by simp, by simp⟩
  · simp [Value.cells] at hcs
    obtain ⟨rfl, rfl, rfl⟩ := hcs
    obtain ⟨hx, _⟩ := Prod.mk.inj hx
    subst hx
    have z := sized_slice hsz ht hd hu
    rw [hB] at z
    rw [if_pos rfl] at hz
    have hl2 : len ≤ ss.length := by omega
    have h1 : (strs (H := H) (ss.take len)).length + (strs (H := H) (ss.drop len)).length = ss.length := by
      simp [strs]
      omega
    rw [h1] at z
    have hlen : (ss.take len).length = len := by rw [List.length_take]; omega
    refine ⟨ss.take len, hlen, hl, Kd.C_of_reads (d := ByteArray.empty) (h1 := fun _ => rfl) ⟨rfl, by rw [hlen]; unfold maxLen at hm; omega, fun _ => ⟨x, rfl, fun i hi => ?_⟩⟩, ?_, fun s hs => hw s (List.mem_of_mem_take hs)⟩
    · rw [hlen] at hi
      rw [hcell i (by omega), List.getD_eq_getElem?_getD, List.getD_eq_getElem?_getD, List.getElem?_take_of_lt hi]
    · rw [hlen]
      exact Nat.le_trans (Nat.mul_le_mul_right _ hl2) z
theorem slice_ints {H : Type} {enc : TypeId × Value → H} {P : Program} {W : World} {t e : TypeId} {k : IntKind} {a : Option Addr} {len cap : Nat} {d : DataW H} {ps : List MemPlace} {ts : List TypeId} {ds : List (DataW H)} {j : Nat}
    (hsz : (DataW.weightsEach P ts ds).all (· ≤ reachBytes) = true) (ht : ts[j]? = some t) (hd : ds[j]? = some d) (hu : P.underlying t = some (.slice e)) (he : P.underlying e = some (.int k)) (hc : P.cellsOf e = 1) {B : Nat} (hB : P.bytesOf e = B)
    (h : DataW.Trod enc P W 0 (fun _ => true) true t (.slice a len cap) d ps) :
    ∃ l : List Int, l.length = len ∧ len ≤ cap ∧ Kd.C (Kd.int k) W a l.length l ∧ l.length ≤ maxLen ∧ l.length * B ≤ 140737488351232 ∧ ∀ n ∈ l, (Lit.int k n).wf = true := by
  have y := sized_ints hsz ht hd hu he hc hB h
  obtain ⟨fuel, hf⟩ := h
  rcases open_ints hu he hc hf with ⟨hcs, _⟩ | ⟨x, l, c, zs, hcs, _, hl, hm, hz, _, hcell, hw⟩
  · simp [Value.cells] at hcs
    obtain ⟨rfl, rfl, rfl⟩ := hcs
    exact ⟨[], rfl, Nat.le_refl _, Kd.C_nil _ _, by simp, by simp, by simp⟩
  · simp [Value.cells] at hcs
    obtain ⟨rfl, rfl, rfl⟩ := hcs
    rw [if_pos rfl] at hz
    have hlen : (zs.take len).length = len := by rw [List.length_take]; omega
    refine ⟨zs.take len, hlen, hl, Kd.C_of_reads (d := (0 : Int)) (h1 := fun _ => rfl) ⟨rfl, by rw [hlen]; unfold maxLen at hm; omega, fun _ => ⟨x, rfl, fun i hi => ?_⟩⟩, by rw [hlen]; omega, by rw [hlen]; exact y, fun s hs => hw s (List.mem_of_mem_take hs)⟩
    rw [hlen] at hi
    rw [hcell i (by omega), List.getD_eq_getElem?_getD, List.getD_eq_getElem?_getD, List.getElem?_take_of_lt hi]

end Go.Proofs.Ytbkcjeopcjghgaa.RowS

/- The row of the law DenseReads, out of its plain statement and the walk; written for this claim by a program of this session (wip/mkrow.py). -/
namespace Go.Proofs.Ytbkcjeopcjghgaa.denseReads
open Go.ChangeShapes Go.WideShapes Go.ChangeAt Go.RowKit
open Go.ChangeMaps (open_string shut_string)
set_option linter.unusedVariables false
theorem own : ownKnob Try.prog.godebug = none := by kernel_rfl
theorem laidOut : laidOutB Try.prog = true := by kernel_rfl
set_option maxRecDepth 100000 in
theorem lifted (os : Os) (started : os.Started) (H : Type) (enc : TypeId × Value → H) :
    ReturnsInHanded {} Try.checked os 3 .any (Rows.denseReadsSpec.pre6 enc Try.prog Try.f3 Rows.denseReadsRow.domain false) (Rows.denseReadsSpec.post enc Try.prog Try.f3 false true false false) := by
  refine returnsInHanded_of_change_sized (C := Try.checked) own started (by kernel_rfl) Try.func3
    (ChangeSpec.witness6 (enc := enc) (C := Try.checked) false ⟨#[], #[.slice none 0 0, .string ByteArray.empty, .int .u8 0], []⟩ 8 (by kernel_rfl) (by kernel_rfl) (by kernel_rfl) (by kernel_rfl)) ?_
  intro W base args ds gs before hval0 hW hcnd hsz0 _
  have hsz : (DataW.weightsEach Try.prog (Try.f3.params.toList ++ Rows.denseReadsSpec.plain.varTypes Try.prog) (ds ++ gs)).all (· ≤ reachBytes) = true := hsz0
  have hval : ∀ (j : Nat) t v, Try.f3.params[j]? = some t → args[j]? = some v → Value.okWide Try.prog W .any base t v := hval0
  have hW' := hW
  obtain ⟨p, q, hA0, hV, rfl, hfz, hnd⟩ := hW
  have hA : DataW.TrodAll enc Try.prog W 0 (fun _ => true) true Try.f3.params.toList args.toList ds p := hA0
  rw [Try.params3] at hA hval hsz
  obtain ⟨v0, vs0, d0, ds0, p0, q0, hargs, rfl, rfl, h0, r0⟩ := trodAll_cons hA
  obtain ⟨v1, vs1, d1, ds1, p1, q1, rfl, rfl, rfl, h1, r1⟩ := trodAll_cons r0
  obtain ⟨v2, vs2, d2, ds2, p2, q2, rfl, rfl, rfl, h2, r2⟩ := trodAll_cons r1
  obtain ⟨rfl, rfl, rfl⟩ := trodAll_nil r2
  obtain rfl : args = #[v0, v1, v2] := by cases args; simp_all
  obtain ⟨rfl, rfl⟩ := trodVars_none hV
  obtain ⟨a0, len0, cap0, rfl⟩ := okWide_slice Try.underlying22 (hval 0 22 v0 rfl rfl)
  have k0 := h0
  have lt0 : ∀ x ∈ p0, x.block < W.heap.size := by obtain ⟨m, hm⟩ := k0; exact DataW.trod_lt m _ _ _ hm
  obtain ⟨l0, hn0, hc0, hr0, y0, w0⟩ := RowS.slice_strings hsz (j := 0) (t := 22) rfl rfl Try.underlying22 Try.underlying9 (by kernel_rfl) (by kernel_rfl) h0
  subst hn0
  obtain ⟨a1, rfl, rfl, rfl, y1⟩ := open_string Try.underlying9 (hval 1 9 v1 rfl rfl) h1
  have w1 : a1.size ≤ 140737488351232 := by
    have z := sized_string hsz (j := 1) (t := 9) rfl rfl
    rw [Array.length_toList] at z
    exact z
  obtain ⟨a2, rfl, rfl, rfl, w2⟩ := open_int Try.underlying5 (hval 2 5 v2 rfl rfl) h2
  clear hA0 hval0 hsz0 hsz
  obtain ⟨k, hk⟩ := Pure.DenseReads l0 a1 a2 y0 w0 w1 w2
  refine (P.juratlaw19_DenseReads.calls k a0 cap0 l0 a1 a2 true W hr0 hc0 hk).mono fun e W' ⟨he, bel⟩ => ?_
  subst he
  exact ⟨_, rfl, _, _, _, [], _, [], hW', trodAll_mk1 (shut_bool Try.underlying4 _), (trodAll_cons_mk (Below.trod laidOut (by kernel_rfl) (of_decide_eq_true (by kernel_rfl)) k0 bel lt0) (trodAll_cons_mk (shut_string Try.underlying9 y1) (trodAll_cons_mk (shut_int Try.underlying5 w2) trodAll_mk0))), rfl, bel.frame _, fun h => by cases h⟩
theorem over : Rows.denseReadsRow.holds Try.pinned (OpenSpec.ofChange Rows.denseReadsSpec) :=
  OpenClaim.holds_of_wide 3 Try.f3 rfl rfl rfl rfl rfl rfl rfl ⟨rfl, rfl, rfl, rfl, rfl⟩ rfl rfl rfl rfl rfl (by kernel_rfl) Try.func3 (by kernel_rfl)
    (of_decide_eq_true (by kernel_rfl)) (by unfold Func.isWrapper; first | (rw [if_pos (by decide +kernel)]; kernel_rfl) | (rw [if_neg (by decide +kernel)]; exact ⟨rfl, rfl⟩))
    (fun os started H enc _ => lifted os started H enc)
theorem proved : Rows.DenseReadsSaid := over
#print axioms proved
end Go.Proofs.Ytbkcjeopcjghgaa.denseReads
namespace Go.Proofs.Ytbkcjeopcjghgaa
/-- The row, under a short name, for the claim. -/
theorem denseReads_holds : Rows.DenseReadsSaid := denseReads.proved
end Go.Proofs.Ytbkcjeopcjghgaa
