/- Proved here: the row of the law DenseTells, with texts that lead to it, merged by a program of this session (wip/merge.py), part 2 of 2; no condition beyond the statement's own. -/
import Derived.Test.YtbkcjeopcjghgaaPx0
import Derived.StillTailTactics
import Derived.SizedLaws
import Derived.SliceStrings
import Derived.Test.YtbkcjeopcjghgaaWWords
import Derived.Test.YtbkcjeopcjghgaaWSized
import Derived.Test.YtbkcjeopcjghgaaRows
import Derived.WalkKit
import Derived.ProofKit
import Derived.OpenShut
import Derived.ShutString
import Derived.ChangeOld
import Derived.Below
import Derived.Carry
import Derived.Test.YtbkcjeopcjghgaaZDenseTellsa
/- The table of a set, in plain Lean: rows are laid state by state, each over that of the state to which it falls back; what they tell then. -/
namespace Go.Proofs.Ytbkcjeopcjghgaa.Base
open Go Go.RowKit Go.Proofs.YtbkcjeopcjghgaaW.PrintWords Go.Proofs.YtbkcjeopcjghgaaW.PrintMore Go.Proofs.Ytbkcjeopcjghgaa.P
set_option linter.unusedVariables false

section
variable {w : List ByteArray}
/-- A byte's class, as a natural number; how many classes there are. -/
def clN (w : List ByteArray) (b : UInt8) : Nat := (clB w b.toNat).toNat
def widN (w : List ByteArray) : Nat := (clEnd (clMarks w) 256).2.length + 1
theorem clN_is (w : List ByteArray) (b : UInt8) : class_Classes_Of.f (some (classD w)) (b.toNat : Int) = some (clN w b : Int) := by
  have hb : b.toNat < 256 := UInt8.toNat_lt _
  have := clB_range w hb
  rw [cof_ok w hb]
  unfold clN
  congr 1
  omega
theorem clN_pos (w : List ByteArray) (b : UInt8) : 0 < clN w b ↔ markB w b.toNat = true := by
  have hb : b.toNat < 256 := UInt8.toNat_lt _
  rw [← clB_pos w hb]
  unfold clN
  omega
theorem clN_lt (w : List ByteArray) (b : UInt8) : clN w b < widN w := by
  have hb : b.toNat < 256 := UInt8.toNat_lt _
  unfold clN widN
  rw [clB_eq w hb]
  by_cases h : markB w b.toNat = true
  · rw [if_pos h]
    have e1 := clEnd_step (clMarks w) b.toNat (by rw [clMarks_at w hb, if_pos h]; decide)
    have e2 := clEnd_grows (clMarks w) (b.toNat + 1) (256 - (b.toNat + 1))
    rw [show b.toNat + 1 + (256 - (b.toNat + 1)) = 256 by omega] at e2
    omega
  · rw [if_neg h]
    simp
theorem clN_inj (w : List ByteArray) {a b : UInt8} (h : 0 < clN w a) (e : clN w a = clN w b) : a = b := by
  have ha : a.toNat < 256 := UInt8.toNat_lt _
  have hb : b.toNat < 256 := UInt8.toNat_lt _
  have h1 := (clB_pos w ha).2 ((clN_pos w a).1 h)
  have h2 := (clB_pos w hb).2 ((clN_pos w b).1 (by omega))
  unfold clN at e
  have e2 : clB w a.toNat = clB w b.toNat := by omega
  apply UInt8.toNat_inj.1
  rcases Nat.lt_trichotomy a.toNat b.toNat with h3 | h3 | h3
  · have := clB_lt w ha hb h1 h2 h3; omega
  · exact h3
  · have := clB_lt w hb ha h2 h1 h3; omega
theorem widN_le (w : List ByteArray) : widN w ≤ 257 := by
  have := (clEnd_length (clMarks w) 256).2
  unfold widN
  omega
/-- The bytes by which a node goes on. -/
def kidsB (w : List ByteArray) (n : NodeD) : List UInt8 := (n.gr w).map fun g => UInt8.ofNat g.1
theorem kidsB_val (hs : srt w) (hz : sizes w ≤ 16777216) {i : Nat} {n : NodeD} (h : (trN w)[i]? = some n) : trie_Trie_Bytes.f (some (trS w)) (i : Int) = some (strP (kidsB w n)) := by
  rw [bytes_val hs hz h]
  congr 1
  unfold strOfNums strP byL kidsB
  congr 2
  rw [List.map_map]
  apply List.map_congr_left
  intro g hg
  have := (kid_path hs h hg).1
  simp
theorem kidsB_mem (hs : srt w) {i : Nat} {n : NodeD} (h : (trN w)[i]? = some n) (b : UInt8) : b ∈ kidsB w n ↔ idxP w (n.path ++ [b]) ≥ 0 := by
  constructor
  · intro hb
    obtain ⟨g, hg, rfl⟩ := List.mem_map.1 hb
    obtain ⟨_, t, ht, hp⟩ := kid_path hs h hg
    exact (idx_iff hs _).2 (.inr ⟨t, ht, by rw [LL_strP]; exact hp⟩)
  · intro hb
    rcases (idx_iff hs _).1 hb with h1 | ⟨t, ht, hp⟩
    · have := congrArg LL h1
      rw [LL_strP, LL_empty] at this
      simp at this
    · rw [LL_strP] at hp
      obtain ⟨o, g, ho, hd, hg2, hk⟩ := kid_find hs h ht hp
      refine List.mem_map.2 ⟨g, by rw [← hd]; exact getD_mem _ _ _ ho, ?_⟩
      rw [hg2, UInt8.ofNat_toNat]
theorem kid_mark (hs : srt w) {p : List UInt8} {b : UInt8} (h : idxP w (p ++ [b]) ≥ 0) : 0 < clN w b := by
  rw [clN_pos, markB_iff]
  rcases (idx_iff hs _).1 h with h1 | ⟨t, ht, hp⟩
  · have := congrArg LL h1
    rw [LL_strP, LL_empty] at this
    simp at this
  · rw [LL_strP] at hp
    refine ⟨_, getD_mem w t ByteArray.empty ht, b, ?_, rfl⟩
    obtain ⟨r, hr⟩ := hp
    rw [← hr]
    simp
/-- A cell of a row. -/
def rowAt (T : List Int) (wd s c : Nat) : Int := T.getD (s * wd + c) 0
theorem cell_eq {wd s s' c c' : Nat} (hc : c < wd) (hc' : c' < wd) (e : s * wd + c = s' * wd + c') : s = s' ∧ c = c' := by
  have h1 : (s * wd + c) / wd = s := by rw [Nat.mul_comm, Nat.mul_add_div (by omega), Nat.div_eq_of_lt hc]; rfl
  have h2 : (s' * wd + c') / wd = s' := by rw [Nat.mul_comm, Nat.mul_add_div (by omega), Nat.div_eq_of_lt hc']; rfl
  have : s = s' := by rw [← h1, ← h2, e]
  subst this
  exact ⟨rfl, by omega⟩
/-- A row copied over another one. -/
def dnCopy (T : List Int) (wd s f : Nat) : List Int := T.take (s * wd) ++ (T.drop (f * wd)).take wd ++ T.drop ((s + 1) * wd)
theorem dnCopy_at {T : List Int} {n wd s f : Nat} (hl : T.length = n * wd) (hs : s < n) (hf : f < n) (s' c : Nat) (hc : c < wd) : rowAt (dnCopy T wd s f) wd s' c = if s' = s then rowAt T wd f c else rowAt T wd s' c := by
  have k1 : (s + 1) * wd ≤ n * wd := Nat.mul_le_mul_right wd hs
  have k2 : (f + 1) * wd ≤ n * wd := Nat.mul_le_mul_right wd hf
  rw [Nat.succ_mul] at k1 k2
  have l1 : (T.take (s * wd)).length = s * wd := by rw [List.length_take]; omega
  have l2 : ((T.drop (f * wd)).take wd).length = wd := by rw [List.length_take, List.length_drop]; omega
  unfold rowAt dnCopy
  rw [List.getD_eq_getElem?_getD]
  rcases Nat.lt_trichotomy s' s with h | h | h
  · rw [if_neg (by omega)]
    have h1 : (s' + 1) * wd ≤ s * wd := Nat.mul_le_mul_right wd h
    rw [Nat.succ_mul] at h1
    rw [List.append_assoc, List.getElem?_append_left (by rw [l1]; omega), List.getElem?_take, if_pos (by omega), ← List.getD_eq_getElem?_getD]
  · subst h
    rw [if_pos rfl, List.append_assoc, List.getElem?_append_right (by rw [l1]; omega), l1, List.getElem?_append_left (by rw [l2]; omega), List.getElem?_take, if_pos (by omega), List.getElem?_drop, List.getD_eq_getElem?_getD]
    congr 2
    omega
  · rw [if_neg (by omega)]
    have h1 : (s + 1) * wd ≤ s' * wd := Nat.mul_le_mul_right wd h
    rw [List.getElem?_append_right (by rw [List.length_append, l1, l2]; rw [Nat.succ_mul] at h1; omega), List.length_append, l1, l2, List.getElem?_drop, List.getD_eq_getElem?_getD]
    congr 2
    rw [Nat.succ_mul] at h1 ⊢
    omega
theorem dnCopy_length {T : List Int} {n wd s f : Nat} (hl : T.length = n * wd) (hs : s < n) (hf : f < n) : (dnCopy T wd s f).length = n * wd := by
  have k1 : (s + 1) * wd ≤ n * wd := Nat.mul_le_mul_right wd hs
  have k2 : (f + 1) * wd ≤ n * wd := Nat.mul_le_mul_right wd hf
  rw [Nat.succ_mul] at k1 k2
  unfold dnCopy
  rw [List.length_append, List.length_append, List.length_take, List.length_take, List.length_drop, List.length_drop, Nat.succ_mul]
  omega
theorem dnSet_at {T : List Int} {n wd k c0 : Nat} (hl : T.length = n * wd) (hk : k < n) (hc0 : c0 < wd) (y : Int) (s c : Nat) (hc : c < wd) : rowAt (T.set (k * wd + c0) y) wd s c = if s = k ∧ c = c0 then y else rowAt T wd s c := by
  have k1 : (k + 1) * wd ≤ n * wd := Nat.mul_le_mul_right wd hk
  rw [Nat.succ_mul] at k1
  unfold rowAt
  rw [List.getD_eq_getElem?_getD, List.getElem?_set]
  by_cases h : k * wd + c0 = s * wd + c
  · obtain ⟨h1, h2⟩ := cell_eq hc0 hc h
    rw [if_pos h, if_pos (by omega), if_pos ⟨h1.symm, h2.symm⟩]
    rfl
  · rw [if_neg h, if_neg (fun g => h (by rw [g.1, g.2])), List.getD_eq_getElem?_getD]
/-- The rows of the first states stand. -/
structure DnI (w : List ByteArray) (k : Nat) (T : List Int) : Prop where
  len : T.length = (trN w).length * widN w
  zero0 : ∀ s, s < (trN w).length → rowAt T (widN w) s 0 = 0
  row : ∀ (s : Nat) (m : NodeD), (trN w)[s]? = some m → s < k → ∀ b, rowAt T (widN w) s (clN w b) = idxP w (stepP w m.path b)
  rest : ∀ s, k ≤ s → s < (trN w).length → ∀ c, c < widN w → rowAt T (widN w) s c = 0
def baseV (w : List ByteArray) (p : List UInt8) (b : UInt8) : Int := if p = [] then 0 else idxP w (stepP w (failP w p) b)
/-- And of one more the first bytes. -/
structure DnK (w : List ByteArray) (k i : Nat) (n : NodeD) (T : List Int) : Prop where
  len : T.length = (trN w).length * widN w
  zero0 : ∀ s, s < (trN w).length → rowAt T (widN w) s 0 = 0
  row : ∀ (s : Nat) (m : NodeD), (trN w)[s]? = some m → s < k → ∀ b, rowAt T (widN w) s (clN w b) = idxP w (stepP w m.path b)
  rest : ∀ s, k < s → s < (trN w).length → ∀ c, c < widN w → rowAt T (widN w) s c = 0
  cur : ∀ b, rowAt T (widN w) k (clN w b) = if b ∈ (kidsB w n).take i then idxP w (n.path ++ [b]) else baseV w n.path b
theorem wid_pos (w : List ByteArray) : 0 < widN w := Nat.succ_pos _
theorem dn_start (w : List ByteArray) : DnI w 0 (List.replicate ((trN w).length * widN w) 0) := by
  have hr : ∀ s c, rowAt (List.replicate ((trN w).length * widN w) (0 : Int)) (widN w) s c = 0 := fun s c => by
    unfold rowAt
    rw [List.getD_eq_getElem?_getD, List.getElem?_replicate]
    split <;> rfl
  exact ⟨List.length_replicate, fun s _ => hr s 0, fun s m _ h => by omega, fun s _ _ c _ => hr s c⟩
theorem fail_at (hs : srt w) {k : Nat} {n : NodeD} (h : (trN w)[k]? = some n) : ∃ (f : Nat) (m : NodeD), (trN w)[f]? = some m ∧ m.path = failP w n.path ∧ idxP w (failP w n.path) = (f : Int) ∧ f < (trN w).length ∧ (n.path ≠ [] → f < k) ∧ (n.path = [] → f = 0 ∧ k = 0) := by
  obtain ⟨f, m, h1, h2, h3⟩ := idx_node hs (lsufx_is hs n.path.tail)
  refine ⟨f, m, h1, h2, h3, (List.getElem?_eq_some_iff.1 h1).1, fun hn => idx_lt hs h1 h (by rw [h2]; exact fail_short _ hn), fun hn => ?_⟩
  have e1 := idx_at hs h
  rw [hn, idx_nil hs] at e1
  rw [hn] at h3
  have e2 : idxP w (lsufx w ([] : List UInt8).tail) = 0 := idx_nil hs
  rw [e2] at h3
  omega
theorem dn_copy (hs : srt w) {k : Nat} {n : NodeD} {T : List Int} (h : (trN w)[k]? = some n) (hT : DnI w k T) {f : Nat} (hf : idxP w (failP w n.path) = (f : Int)) : DnK w k 0 n (dnCopy T (widN w) k f) := by
  obtain ⟨f', m, g1, g2, g3, g4, g5, g6⟩ := fail_at hs h
  obtain rfl : f' = f := by rw [g3] at hf; omega
  have hk : k < (trN w).length := (List.getElem?_eq_some_iff.1 h).1
  have hz : ∀ b, clN w b < widN w := clN_lt w
  refine ⟨dnCopy_length hT.len hk g4, fun s hs => ?_, fun s m' hm hsk b => ?_, fun s hks hsn c hc => ?_, fun b => ?_⟩
  · rw [dnCopy_at hT.len hk g4 _ _ (wid_pos w)]
    split
    · exact hT.zero0 _ g4
    · exact hT.zero0 _ hs
  · rw [dnCopy_at hT.len hk g4 _ _ (hz b), if_neg (by omega)]
    exact hT.row s m' hm hsk b
  · rw [dnCopy_at hT.len hk g4 _ _ hc, if_neg (by omega)]
    exact hT.rest s (by omega) hsn c hc
  · rw [dnCopy_at hT.len hk g4 _ _ (hz b), if_pos rfl, List.take_zero, if_neg (by simp)]
    unfold baseV
    by_cases hp : n.path = []
    · obtain ⟨rfl, rfl⟩ := g6 hp
      rw [if_pos hp]
      exact hT.rest 0 (Nat.le_refl _) g4 _ (hz b)
    · rw [if_neg hp, ← g2]
      exact hT.row _ m g1 (g5 hp) b
theorem dn_put (hs : srt w) {k i : Nat} {n : NodeD} {T : List Int} (h : (trN w)[k]? = some n) (hT : DnK w k i n T) {b : UInt8} (hb : (kidsB w n)[i]? = some b) : DnK w k (i + 1) n (T.set (k * widN w + clN w b) (idxP w (n.path ++ [b]))) := by
  have hk : k < (trN w).length := (List.getElem?_eq_some_iff.1 h).1
  have hz : ∀ b, clN w b < widN w := clN_lt w
  have hbm : b ∈ kidsB w n := List.mem_of_getElem? hb
  have hp := kid_mark hs ((kidsB_mem hs h b).1 hbm)
  refine ⟨by rw [List.length_set]; exact hT.len, fun s hsn => ?_, fun s m' hm hsk b' => ?_, fun s hks hsn c hc => ?_, fun b' => ?_⟩
  · rw [dnSet_at hT.len hk (hz b) _ _ _ (wid_pos w), if_neg (by omega)]
    exact hT.zero0 s hsn
  · rw [dnSet_at hT.len hk (hz b) _ _ _ (hz b'), if_neg (by omega)]
    exact hT.row s m' hm hsk b'
  · rw [dnSet_at hT.len hk (hz b) _ _ _ hc, if_neg (by omega)]
    exact hT.rest s hks hsn c hc
  · rw [dnSet_at hT.len hk (hz b) _ _ _ (hz b'), List.take_add_one, hb]
    by_cases e : b' = b
    · subst e
      rw [if_pos ⟨rfl, rfl⟩, if_pos (by simp)]
    · rw [if_neg (fun g => e (clN_inj w hp g.2.symm).symm), hT.cur b']
      have : (b' ∈ (kidsB w n).take i ++ (some b).toList) ↔ b' ∈ (kidsB w n).take i := by simp [e]
      by_cases h2 : b' ∈ (kidsB w n).take i
      · rw [if_pos h2, if_pos (this.2 h2)]
      · rw [if_neg h2, if_neg (fun g => h2 (this.1 g))]
theorem dn_end (hs : srt w) {k : Nat} {n : NodeD} {T : List Int} (h : (trN w)[k]? = some n) (hT : DnK w k (kidsB w n).length n T) : DnI w (k + 1) T := by
  refine ⟨hT.len, hT.zero0, fun s m hm hsk b => ?_, fun s hks hsn c hc => hT.rest s (by omega) hsn c hc⟩
  rcases Nat.lt_or_ge s k with h1 | h1
  · exact hT.row s m hm h1 b
  · obtain rfl : s = k := by omega
    obtain rfl : n = m := by rw [h] at hm; injection hm
    rw [hT.cur b, List.take_length]
    by_cases hb : b ∈ kidsB w n
    · rw [if_pos hb, step_self ((kidsB_mem hs h b).1 hb)]
    · have hn := fun g => hb ((kidsB_mem hs h b).2 g)
      rw [if_neg hb]
      unfold baseV
      by_cases hp : n.path = []
      · rw [hp] at hn ⊢
        rw [if_pos rfl, step_nil hn, idx_nil hs]
      · rw [if_neg hp, step_fall hs hn]
        rfl
/-- The classes' bytes. -/
theorem clEnd_nth (M : List Int) : ∀ k j, j < (clEnd M k).2.length → ∃ b, b < k ∧ M.getD b 0 > 0 ∧ (clEnd M k).2.getD j 0 = (b : Int) ∧ (clEnd M b).2.length = j
  | 0, j, h => by simp [clEnd] at h
  | k + 1, j, h => by
    by_cases hk : M.getD k 0 > 0
    · have e : (clEnd M (k + 1)).2 = (clEnd M k).2 ++ [(k : Int)] := by simp only [clEnd]; rw [if_pos hk]
      rw [e] at h ⊢
      rw [List.length_append, List.length_singleton] at h
      rcases Nat.lt_or_ge j (clEnd M k).2.length with h1 | h1
      · obtain ⟨b, h2, h3, h4, h5⟩ := clEnd_nth M k j h1
        exact ⟨b, by omega, h3, by rw [List.getD_eq_getElem?_getD, List.getElem?_append_left h1, ← List.getD_eq_getElem?_getD]; exact h4, h5⟩
      · obtain rfl : j = (clEnd M k).2.length := by omega
        exact ⟨k, by omega, hk, by rw [List.getD_eq_getElem?_getD, List.getElem?_append_right (Nat.le_refl _), Nat.sub_self]; rfl, rfl⟩
    · have e : (clEnd M (k + 1)).2 = (clEnd M k).2 := by simp only [clEnd]; rw [if_neg hk]
      rw [e] at h ⊢
      obtain ⟨b, h2, h3, h4, h5⟩ := clEnd_nth M k j h
      exact ⟨b, by omega, h3, h4, h5⟩
def clBytes (w : List ByteArray) : List UInt8 := (clEnd (clMarks w) 256).2.map fun n => UInt8.ofNat n.toNat
theorem clBytes_length (w : List ByteArray) : (clBytes w).length + 1 = widN w := by unfold clBytes widN; rw [List.length_map]
theorem clBytes_at (w : List ByteArray) {j : Nat} (h : j < (clBytes w).length) : clN w ((clBytes w).getD j 0) = j + 1 := by
  have h' : j < (clEnd (clMarks w) 256).2.length := by unfold clBytes at h; rw [List.length_map] at h; exact h
  obtain ⟨b, h2, h3, h4, h5⟩ := clEnd_nth (clMarks w) 256 j h'
  have e : (clBytes w).getD j 0 = UInt8.ofNat b := by
    unfold clBytes
    rw [List.getD_eq_getElem?_getD, List.getElem?_map, List.getElem?_eq_getElem h']
    rw [List.getD_eq_getElem?_getD, List.getElem?_eq_getElem h'] at h4
    have h4' : (clEnd (clMarks w) 256).2[j] = (b : Int) := h4
    show UInt8.ofNat ((clEnd (clMarks w) 256).2[j]).toNat = _
    rw [h4', Int.toNat_natCast]
  have eb : (UInt8.ofNat b).toNat = b := by rw [UInt8.toNat_ofNat']; omega
  have hm : markB w b = true := by
    rw [clMarks_at w h2] at h3
    by_cases hmm : markB w b = true
    · exact hmm
    · rw [if_neg hmm] at h3; exact absurd h3 (by decide)
  rw [e]
  unfold clN
  rw [eb, clB_eq w h2, if_pos hm, h5]
  omega
/-- A state's row; all rows. -/
def rowL (w : List ByteArray) (p : List UInt8) : List Int := 0 :: (clBytes w).map fun b => idxP w (stepP w p b)
def denseT (w : List ByteArray) : List Int := (trN w).flatMap fun n => rowL w n.path
theorem rowL_length (w : List ByteArray) (p : List UInt8) : (rowL w p).length = widN w := by
  unfold rowL
  rw [List.length_cons, List.length_map, clBytes_length]
theorem flat_len (wd : Nat) (f : NodeD → List Int) (hf : ∀ n, (f n).length = wd) : ∀ l : List NodeD, (l.flatMap f).length = l.length * wd
  | [] => by simp
  | n :: l => by rw [List.flatMap_cons, List.length_append, hf, flat_len wd f hf l, List.length_cons, Nat.succ_mul]; omega
theorem flat_get (wd : Nat) (f : NodeD → List Int) (hf : ∀ n, (f n).length = wd) : ∀ (l : List NodeD) (s : Nat) (n : NodeD), l[s]? = some n → ((l.flatMap f).drop (s * wd)).take wd = f n
  | [], s, n, h => by simp at h
  | m :: l, 0, n, h => by
    simp only [List.getElem?_cons_zero, Option.some.injEq] at h
    subst h
    rw [Nat.zero_mul, List.drop_zero, List.flatMap_cons, List.take_append_of_le_length (by rw [hf]; exact Nat.le_refl _), List.take_of_length_le (by rw [hf]; exact Nat.le_refl _)]
  | m :: l, s + 1, n, h => by
    rw [List.getElem?_cons_succ] at h
    rw [List.flatMap_cons, Nat.succ_mul, Nat.add_comm, ← List.drop_drop, List.drop_left' (hf m)]
    exact flat_get wd f hf l s n h
theorem denseT_length (w : List ByteArray) : (denseT w).length = (trN w).length * widN w := flat_len _ _ (fun n => rowL_length w _) _
theorem take_at {T : List Int} {wd s c : Nat} (hc : c < wd) : ((T.drop (s * wd)).take wd).getD c 0 = rowAt T wd s c := by
  unfold rowAt
  rw [List.getD_eq_getElem?_getD, List.getElem?_take, if_pos hc, List.getElem?_drop, List.getD_eq_getElem?_getD]
theorem dn_row {T : List Int} (hT : DnI w (trN w).length T) {s : Nat} {m : NodeD} (h : (trN w)[s]? = some m) : (T.drop (s * widN w)).take (widN w) = rowL w m.path := by
  have hs : s < (trN w).length := (List.getElem?_eq_some_iff.1 h).1
  have k1 : (s + 1) * widN w ≤ (trN w).length * widN w := Nat.mul_le_mul_right _ hs
  rw [Nat.succ_mul] at k1
  have l1 : ((T.drop (s * widN w)).take (widN w)).length = widN w := by rw [List.length_take, List.length_drop, hT.len]; omega
  apply List.ext_getElem (by rw [l1, rowL_length])
  intro c h1 h2
  rw [l1] at h1
  have e1 : ((T.drop (s * widN w)).take (widN w)).getD c 0 = ((T.drop (s * widN w)).take (widN w))[c] := by
    rw [List.getD_eq_getElem?_getD, List.getElem?_eq_getElem (by rw [l1]; exact h1)]; rfl
  rw [← e1, take_at h1]
  cases c with
  | zero => exact hT.zero0 s hs
  | succ c =>
    have hc : c < (clBytes w).length := by have := clBytes_length w; omega
    have e2 := clBytes_at w hc
    have e3 := hT.row s m h hs ((clBytes w).getD c 0)
    rw [e2] at e3
    rw [e3]
    have e4 : (rowL w m.path)[c + 1]? = some (idxP w (stepP w m.path ((clBytes w).getD c 0))) := by
      show ((clBytes w).map fun b => idxP w (stepP w m.path b))[c]? = _
      rw [List.getElem?_map, List.getD_eq_getElem?_getD, List.getElem?_eq_getElem hc]
      rfl
    exact ((List.getElem?_eq_some_iff.1 e4).2).symm
theorem dn_all {T : List Int} (hT : DnI w (trN w).length T) : T = denseT w := by
  apply List.ext_getElem (by rw [hT.len, denseT_length])
  intro j h1 h2
  have hj := h1
  rw [hT.len] at hj
  have hw := wid_pos w
  have hs : j / widN w < (trN w).length := by rw [Nat.div_lt_iff_lt_mul hw]; exact hj
  obtain ⟨m, hm⟩ : ∃ m, (trN w)[j / widN w]? = some m := ⟨_, List.getElem?_eq_getElem hs⟩
  have e : j / widN w * widN w + j % widN w = j := by rw [Nat.mul_comm]; exact Nat.div_add_mod j _
  have hc := Nat.mod_lt j hw
  have r1 := dn_row hT hm
  have r2 := flat_get (widN w) (fun n => rowL w n.path) (fun n => rowL_length w _) (trN w) _ m hm
  have r3 := r1.trans r2.symm
  have a1 := take_at (T := T) (s := j / widN w) hc
  have a2 := take_at (T := denseT w) (s := j / widN w) hc
  rw [r1] at a1
  have r2' : ((denseT w).drop (j / widN w * widN w)).take (widN w) = rowL w m.path := r2
  rw [r2'] at a2
  have a3 := a1.symm.trans a2
  unfold rowAt at a3
  rw [e, List.getD_eq_getElem?_getD, List.getD_eq_getElem?_getD, List.getElem?_eq_getElem h1, List.getElem?_eq_getElem h2] at a3
  exact a3
end
end Go.Proofs.Ytbkcjeopcjghgaa.Base

/- The table of a set: the walk of New. -/
namespace Go.Proofs.Ytbkcjeopcjghgaa.P
open Go Go.RowKit Go.Proofs.YtbkcjeopcjghgaaW.PrintWords Go.Proofs.YtbkcjeopcjghgaaW.PrintLast Go.Proofs.YtbkcjeopcjghgaaW.PrintMore Go.Proofs.Ytbkcjeopcjghgaa.Base
set_option linter.unusedVariables false
set_option linter.unusedSimpArgs false

theorem den_start {N wd rw_ : Nat} (hN : N ≤ 4311744769) {w1 X : World} {Pc : Option Addr} (hXb : X.heap[w1.heap.size]? = some (.cells #[.pointer Pc, .slice none 0 0, .int .i64 wd, .int .i64 rw_] 65 (0, 0))) (hXs : X.heap.size = w1.heap.size + 1) (hB : Below w1.heap.size w1 X) :
    DenI w1 ((X.alloc (Z19 N)).setCell ⟨w1.heap.size, 1, none⟩ (.slice (some ⟨X.heap.size, 0, none⟩) N N)) w1.heap.size X.heap.size Pc wd rw_ N (List.replicate N 0) := by
  refine ⟨?_, ?_, List.length_replicate, Nat.le_refl _, by omega, by omega, ?_⟩
  · have h1 := (((Below.refl X.heap.size X).alloc (Nat.le_refl _) (Z19 N)).block _ (blk_lt hXb)).trans hXb
    have h2 := blk_set h1 1 (.slice (some ⟨X.heap.size, 0, none⟩) N N)
    simpa using h2
  · exact Kd.R_far (p := ⟨w1.heap.size, 1, none⟩) (R19 N hN X w1.heap.size (by omega)) (fun k hk e => by
      have e' : k = w1.heap.size := e
      omega) _
  · exact Below.setCell (p := ⟨w1.heap.size, 1, none⟩) (hB.alloc hB.size _) (Nat.le_refl _) _
def dense_New.f (a0 : Option SetD) : Option (Option DenseD) := if okT (setL a0) then some (some ⟨classD (setL a0), denseT (setL a0), widN (setL a0), (trN (setL a0)).length⟩) else none
set_option maxHeartbeats 16000000 in
set_option maxRecDepth 100000 in
theorem dense_New.calls (Pa0 : Option Addr) (a0 : Option SetD) (r : Option DenseD) (w : World) (ho : OB K57 w Pa0 a0) (h : dense_New.f a0 = some r) :
    Calls Try.prog 11 #[.pointer Pa0] w fun e w' => ∃ P0_ : Option Addr, e = .returned (.pointer P0_) ∧ OB K65 w' P0_ r ∧ Below w.heap.size w w' := by
  unfold dense_New.f at h
  by_cases hs : okT (setL a0)
  rotate_left
  · rw [if_neg hs] at h; cases h
  rw [if_pos hs] at h
  obtain rfl := Option.some.inj h
  have hK := class_New.calls Pa0 a0 (some (classD (setL a0))) w ho (if_pos ⟨by have := hs.2.1; omega, fun s hm => by have := (hs.2.2.1 s hm).2; omega⟩)
  have hL : ∀ W, Below w.heap.size w W → _ := fun W (g : Below w.heap.size w W) => link_New.calls Pa0 a0 (some ⟨trS (setL a0), failL (setL a0)⟩) W (OB.below g ho) (if_pos hs)
  generalize setL a0 = l at hs hK hL ⊢
  have hsrt := srt_of hs.1
  have hz := hs.2.2.2
  obtain ⟨n, hn⟩ : ∃ n, (trN l).length = n := ⟨_, rfl⟩
  obtain ⟨wd, hwd⟩ : ∃ wd, widN l = wd := ⟨_, rfl⟩
  have hw0 : 0 < wd := by rw [← hwd]; exact wid_pos l
  have hw1 : wd ≤ 257 := by rw [← hwd]; exact widN_le l
  have hn1 : n ≤ 16777217 := by have := trN_le hsrt; unfold trK at this; omega
  have HK := Aside0.mk hK
  have HL := Aside0.mk hL
  have HN := Aside0.mk hn
  have HWD := Aside0.mk hwd
  clear ho h hK hL hn hwd
  go_enter Try.func11, Try.ntmps11
  go_wp2_with (go_at_call 38; refine HK.out.mono ?_; rintro e wa ⟨Pc, rfl, hOB, hB1⟩; have HC := Aside0.mk hOB; have HB1 := Aside0.mk hB1; clear hOB hB1)
  go_wp2_with (go_at_call 39; refine (HL.out _ HB1.out).mono ?_; rintro e w1 ⟨Pl, rfl, hOB, hB2⟩; have HLK := Aside0.mk hOB; have HB2 := Aside0.mk hB2; clear hOB hB2)
  obtain ⟨al, rfl⟩ := OB.p_some HLK.out
  obtain ⟨bl, Pt, Al, cl, vl, rfl, hbl, hll, htr, hfl⟩ := OB.at HLK.out
  have hTr : ∀ W, Below w1.heap.size w1 W → Calls Try.prog 41 #[.pointer (some ⟨bl, 0, none⟩)] W fun e w' => e = .returned (.pointer Pt) ∧ Drawn0 W w' := fun W g => link_Trie_at W ((g.block _ (blk_lt hbl)).trans hbl)
  have hLn : ∀ W, Below w1.heap.size w1 W → Calls Try.prog 42 #[.pointer Pt] W fun e w' => e = .returned (.int .i64 (n : Int)) ∧ Drawn0 W w' := fun W g => trie_Trie_Len.calls Pt (some (trS l)) (n : Int) W (OB.below g htr) (by show some (((trS l).length : Nat) : Int) = _; rw [trS_length, HN.out])
  have hCl : ∀ W, Below w1.heap.size w1 W → Calls Try.prog 40 #[.pointer Pc] W fun e w' => e = .returned (.int .i64 (wd : Int)) ∧ Drawn0 W w' := fun W g => class_Classes_Len.calls Pc (some (classD l)) (wd : Int) W (OB.below g (OB.below HB2.out HC.out)) (by
    show (if (clEnd (clMarks l) 256).2.length ≤ 256 then some (((clEnd (clMarks l) 256).2.length : Int) + 1) else none) = _
    rw [if_pos (clEnd_length _ _).2, ← HWD.out]
    unfold widN
    congr 1)
  have HTR := Aside0.mk hTr
  have HLN := Aside0.mk hLn
  have HCL := Aside0.mk hCl
  clear hTr hLn hCl
  go_wp2_with (first
    | (go_at_call 41; refine (HTR.out _ (by repeat (first | exact Below.refl _ _ | (with_reducible apply pw_below_drewN) | (with_reducible apply below_drew)))).mono ?_; rintro e wq ⟨rfl, ⟨qt, rfl⟩⟩)
    | (go_at_call 42; refine (HLN.out _ (by repeat (first | exact Below.refl _ _ | (with_reducible apply pw_below_drewN) | (with_reducible apply below_drew)))).mono ?_; rintro e wq ⟨rfl, ⟨ql, rfl⟩⟩)
    | (go_at_call 40; refine (HCL.out _ (by repeat (first | exact Below.refl _ _ | (with_reducible apply pw_below_drewN) | (with_reducible apply below_drew)))).mono ?_; rintro e wq ⟨rfl, ⟨qc, rfl⟩⟩))
  obtain ⟨N, hN⟩ : ∃ N, n * wd = N := ⟨_, rfl⟩
  have hN1 : N ≤ 4311744769 := by
    rw [← hN]
    exact Nat.le_trans (Nat.mul_le_mul hn1 hw1) (by decide)
  have hNi : (n : Int) * (wd : Int) = (N : Int) := by rw [← hN, Int.natCast_mul]
  have hp1 : wrap64 ((n : Int) * (wd : Int)) = (N : Int) := by rw [hNi, wrap_id (by omega) (by omega)]
  have hmk : ∀ W : World, (Instr.makeSlice 63 (.int .i64 ((n : Int) * (wd : Int))) (.int .i64 ((n : Int) * (wd : Int)))).run Try.prog W = .ok (.slice (some ⟨W.heap.size, 0, none⟩) N N) (W.alloc (Z19 N)) := fun W => by rw [hNi]; exact mk19 N hN1 W
  have hmk2 := fun W => mk19 N hN1 W
  have HNN := Aside0.mk hN
  clear hN hNi
  obtain ⟨q0, hq0⟩ : ∃ q0, qc + qt + ql = q0 := ⟨_, rfl⟩
  rw [hq0]
  generalize hX : (w1.drewN q0).alloc (.cells #[.pointer Pc, .slice none 0 0, .int .i64 wd, .int .i64 n] 65) = X
  have hXb : X.heap[w1.heap.size]? = some (.cells #[.pointer Pc, .slice none 0 0, .int .i64 wd, .int .i64 n] 65 (0, 0)) := by rw [← hX]; exact heap_alloc_new _ _
  have hXs : X.heap.size = w1.heap.size + 1 := by rw [← hX]; show (w1.heap.push _).size = _; rw [Array.size_push]
  have hXB : Below w1.heap.size w1 X := by rw [← hX]; exact (pw_below_drewN (Below.refl _ _) _).alloc (Nat.le_refl _) _
  have hst := den_start hN1 hXb hXs hXB
  have HST := Aside0.mk hst
  have g1 : X.cell? ⟨w1.heap.size, 1, none⟩ = some (.slice none 0 0) := blk_cell hXb 1
  have g2 : X.cell? ⟨w1.heap.size, 2, none⟩ = some (.int .i64 (wd : Int)) := blk_cell hXb 2
  have g3 : X.cell? ⟨w1.heap.size, 3, none⟩ = some (.int .i64 (n : Int)) := blk_cell hXb 3
  have g4 : X.frozen? ⟨w1.heap.size, 1, none⟩ = false := blk_frozen hXb _
  have hZb := (((Below.refl X.heap.size X).alloc (Nat.le_refl _) (Z19 N)).block _ (blk_lt hXb)).trans hXb
  have g5 : (X.alloc (Z19 N)).cell? ⟨w1.heap.size, 1, none⟩ = some (.slice none 0 0) := blk_cell hZb 1
  have g6 : (X.alloc (Z19 N)).frozen? ⟨w1.heap.size, 1, none⟩ = false := blk_frozen hZb _
  clear hXb hZb hst hXs hXB hX hq0
  go_cut [] (fun wx => Aside0 (∃ g, DenI w1 wx w1.heap.size g Pc wd n N (List.replicate N 0)))
  case first =>
    go_region
    all_goals
      go_wp2_with fail
      go_meet
      case rel => exact ⟨_, HST.out.below (by repeat (first | exact Below.refl _ _ | (with_reducible apply pw_below_drewN) | (with_reducible apply below_drew)))⟩
  case rest =>
    clear g1 g2 g3 g4 g5 g6 HST hmk hmk2 hp1
    obtain ⟨g, hI0⟩ := hcut.out
    clear hcut
    have r3 : wc.cell? ⟨w1.heap.size, 3, none⟩ = some (.int .i64 (n : Int)) := blk_cell hI0.hb 3
    generalize w1.heap.size = b at hI0 r3 ⊢
    have HI0 := Aside0.mk hI0
    have HTT := Aside0.mk htr
    clear hI0 hbl hll htr hfl
    go_wp2_with fail
    go_loopg [6, 7, 8, 9, 10, 40] n (fun kx x6 x7 x8 x9 x10 s W => ∃ (k : Nat) (T : List Int), s = .int .i64 k ∧ k ≤ n ∧ n - k ≤ kx ∧ Aside0 (DnI l k T) ∧ Aside0 (DenI w1 W b g Pc wd n N T))
    case atStart => exact ⟨0, _, rfl, Nat.zero_le _, Nat.le_refl _, ⟨by have := dn_start l; rw [HN.out, HWD.out, HNN.out] at this; exact this⟩, HI0⟩
    case round =>
      clear HI0 r3
      obtain ⟨k, T, rfl, hkn, hkx, HD, HI⟩ := hrel
      by_cases hlt : k < n
      · have hd : decide ((k : Int) < (n : Int)) = true := decide_eq_true (by omega)
        obtain ⟨nd, hnd⟩ : ∃ nd, (trN l)[k]? = some nd := ⟨_, List.getElem?_eq_getElem (by rw [HN.out]; exact hlt)⟩
        obtain ⟨f, mf, hf1, hf2, hf3, hf4, hf5, hf6⟩ := fail_at hsrt hnd
        rw [HN.out] at hf4
        have hso2 : k * wd + wd ≤ N := by
          have := Nat.mul_le_mul_right wd hlt
          rw [HNN.out, Nat.succ_mul] at this
          exact this
        have hfo2 : f * wd + wd ≤ N := by
          have := Nat.mul_le_mul_right wd hf4
          rw [HNN.out, Nat.succ_mul] at this
          exact this
        have hRow : ∀ (W0 : World) (T0 : List Int), DenI w1 W0 b g Pc wd n N T0 → ∀ kk : Nat, kk * wd + wd ≤ N ∧ kk < n → ∀ W, Below W0.heap.size W0 W → Calls Try.prog 43 #[.pointer (some ⟨b, 0, none⟩), .int .i64 (kk : Int)] W fun e w' => e = .returned (.slice (some ⟨g, kk * wd, none⟩) wd wd) ∧ Drawn0 W w' := by
          intro W0 T0 hD0 kk h2 W hW
          have := dense_row (v := .int .i64 (n : Int)) kk W (hD0.below hW).hb (by rw [Nat.succ_mul]; exact h2.1) (by rw [Nat.succ_mul]; omega) (by omega) hw0 (by omega)
          simpa [Addr.add_lit] using this
        have HG1 := Aside0.mk (And.intro hso2 hlt)
        have HG2 := Aside0.mk (And.intro hfo2 hf4)
        have hFail : ∀ W, Below w1.heap.size w1 W → Calls Try.prog 44 #[.pointer (some ⟨bl, 0, none⟩), .int .i64 (k : Int)] W fun e w' => e = .returned (.int .i64 (f : Int)) ∧ Drawn0 W w' := fun W hW => link_Link_Fail.calls _ (some ⟨trS l, failL l⟩) (k : Int) (f : Int) W (OB.below hW HLK.out) (by
          unfold link_Link_Fail.f
          rw [if_pos ⟨by omega, by show (k : Int) < (((trS l).length : Nat) : Int); rw [trS_length, HN.out]; omega⟩]
          show (if (k : Int) < ((failL l).length : Int) then some (rd (failL l) (k : Int)) else none) = _
          rw [if_pos (by rw [failL_length, HN.out]; omega), failL_at hnd, hf3])
        have hBy : ∀ W, Below w1.heap.size w1 W → Calls Try.prog 45 #[.pointer Pt, .int .i64 (k : Int)] W fun e w' => e = .returned (.string (strP (kidsB l nd))) ∧ Below W.heap.size W w' := fun W hW => trie_Trie_Bytes.calls Pt (some (trS l)) (k : Int) _ W (OB.below hW HTT.out) (kidsB_val hsrt hz hnd)
        have hDK := dn_copy hsrt hnd HD.out hf3
        rw [HWD.out] at hDK
        have hDK2 : DnK l k 0 nd (T.take (k * wd) ++ (T.drop (f * wd)).take wd ++ T.drop (k * wd + wd)) := by
          have e : dnCopy T wd k f = T.take (k * wd) ++ (T.drop (f * wd)).take wd ++ T.drop (k * wd + wd) := by unfold dnCopy; rw [Nat.succ_mul]
          rw [← e]; exact hDK
        have HDK := Aside0.mk hDK2
        have HRR := Aside0.mk (hRow wr T HI.out)
        have HRW := Aside0.mk hRow
        have HFL := Aside0.mk hFail
        have HBY := Aside0.mk hBy
        have HND := Aside0.mk hnd
        have HCP := Aside0.mk (fun W (g : Below wr.heap.size wr W) => (HI.out.below g).copy 3 (k * wd) (f * wd) hso2 hfo2)
        obtain ⟨sB, hsB⟩ : ∃ sB, strP (kidsB l nd) = sB := ⟨_, rfl⟩
        rw [hsB] at hBy
        have HSB := Aside0.mk hsB
        have hm : sB.size = (kidsB l nd).length := by rw [← hsB, strP_size]
        have HBY := Aside0.mk hBy
        have HM := Aside0.mk hm
        clear hRow hFail hBy hDK hDK2 hnd hf1 hf2 hf3 hf5 hf6 hsB hm hso2 hfo2
        go_wp2_with (first
          | (go_at_call 43; refine (HRR.out _ (by first | exact HG1.out | exact HG2.out) _ (by repeat (first | exact Below.refl _ _ | (with_reducible apply pw_below_drewN) | (with_reducible apply below_drew)))).mono ?_; rintro e wq ⟨rfl, ⟨qa, rfl⟩⟩)
          | (go_at_call 44; refine (HFL.out _ (by repeat (first | exact HI.out.hB | (with_reducible apply pw_below_drewN) | (with_reducible apply below_drew)))).mono ?_; rintro e wq ⟨rfl, ⟨qb, rfl⟩⟩; obtain ⟨qx, hqx⟩ : ∃ qx, qa + qb = qx := ⟨_, rfl⟩; have HQX := Aside0.mk hqx; clear hqx))
        rw [HQX.out]
        obtain ⟨w2, hrun, hI2⟩ := HCP.out (wr.drewN (qx + qa)) (pw_below_drewN (Below.refl _ _) _)
        rw [hrun]
        have HI2 := Aside0.mk hI2
        clear hrun hI2 HQX
        simp only [Result.andThen]
        rw [Oper.upon_value]
        go_wp2_with (first
          | (go_at_call 41; refine (HTR.out _ (by repeat (first | exact HI2.out.hB | (with_reducible apply pw_below_drewN) | (with_reducible apply below_drew)))).mono ?_; rintro e wq ⟨rfl, ⟨qd, rfl⟩⟩)
          | (go_at_call 45; refine (HBY.out _ (by repeat (first | exact HI2.out.hB | (with_reducible apply pw_below_drewN) | (with_reducible apply below_drew)))).mono ?_; rintro e w3 ⟨rfl, hB3⟩; have HI3 := Aside0.mk ((HI2.out.below (pw_below_drewN (Below.refl _ _) qd)).below hB3); clear hB3))
        obtain ⟨m, hm⟩ : ∃ m, sB.size = m := ⟨_, rfl⟩
        rw [hm]
        have HMM := Aside0.mk hm
        have hmk2 : m ≤ 16777217 := by
          have h1 := HM.out
          have h2 := (first_gt hsrt HND.out).2
          have h3 : (kidsB l nd).length = (nd.gr l).length := List.length_map ..
          have h4 := HN.out
          omega
        clear hm
        go_loopg [8, 9, 10, 58] m (fun kx x8 x9 x10 s W => ∃ (i : Nat) (T3 : List Int), s = .int .i64 i ∧ i ≤ m ∧ m - i ≤ kx ∧ Aside0 (DnK l k i nd T3) ∧ Aside0 (DenI w1 W b g Pc wd n N T3))
        case atStart => exact ⟨0, _, rfl, Nat.zero_le _, Nat.le_refl _, HDK, HI3⟩
        case round =>
          clear HI3 HDK HI2 HI HD HBY HCP HRR HFL
          obtain ⟨i, T3, rfl, him, hkx2, HD6, HI6⟩ := hrel
          by_cases hilt : i < m
          · have hd2 : decide ((i : Int) < (m : Int)) = true := decide_eq_true (by omega)
            have hkl : (kidsB l nd).length = m := by rw [← HM.out, HMM.out]
            obtain ⟨c, hc⟩ : ∃ c, (kidsB l nd)[i]? = some c := ⟨_, List.getElem?_eq_getElem (by rw [hkl]; exact hilt)⟩
            have hge := (kidsB_mem hsrt HND.out c).1 (List.mem_of_getElem? hc)
            obtain ⟨ti, mt, ht1, ht2, ht3⟩ := idx_node hsrt hge
            have htn : ti < n := by have := (List.getElem?_eq_some_iff.1 ht1).1; rw [HN.out] at this; exact this
            have hnx := next_is hsrt hz HND.out c
            rw [if_pos hge, ht3] at hnx
            have hdp := dn_put hsrt HND.out HD6.out hc
            rw [ht3, HWD.out] at hdp
            have hcl := clN_lt l c
            rw [HWD.out] at hcl
            have hof := clN_is l c
            obtain ⟨cl2, hcl2⟩ : ∃ cl2, clN l c = cl2 := ⟨_, rfl⟩
            rw [hcl2] at hdp hcl hof
            have hby : ∀ h : i < sB.size, (sB[i]'h).toNat = c.toNat := fun h => by
              have e : LL sB = kidsB l nd := by rw [← HSB.out, LL_strP]
              have e2 : (LL sB)[i]? = some c := by rw [e]; exact hc
              obtain ⟨h3, h4⟩ := List.getElem?_eq_some_iff.1 e2
              rw [← h4]
              rfl
            obtain ⟨cc, hcc⟩ : ∃ cc : Nat, c.toNat = cc := ⟨_, rfl⟩
            rw [hcc] at hnx hof hby
            have hNx := fun W (hW : Below w1.heap.size w1 W) => trie_Trie_Next.calls Pt (some (trS l)) (k : Int) (cc : Int) (ti : Int) true W (OB.below hW HTT.out) hnx
            have hOf := fun W (hW : Below w1.heap.size w1 W) => class_Classes_Of.calls Pc (some (classD l)) (cc : Int) (cl2 : Int) W (OB.below hW (OB.below HB2.out HC.out)) hof
            have HNX := Aside0.mk hNx
            have HOF := Aside0.mk hOf
            have HRR := Aside0.mk (HRW.out wr T3 HI6.out)
            have HDP := Aside0.mk hdp
            have hI7 := HI6.out
            have hT7 := hI7.hT
            rw [← hI7.len] at hT7
            have hcw : k * wd + cl2 < N := by have := HG1.out.1; omega
            have hco := Kd.R_celln 0 hT7 ((k * wd + cl2 : Nat) : Int) (by omega) (by rw [hI7.len]; omega)
            rw [Int.toNat_natCast] at hco
            obtain ⟨u1, hu1⟩ : ∃ u, wr.cell? ⟨g, k * wd + cl2, none⟩ = some u := ⟨_, hco.1⟩
            have f1 : ∀ m', (wr.drewN m').cell? ⟨g, k * wd + cl2, none⟩ = some u1 := fun _ => hu1
            have f2 : ∀ m', (wr.drewN m').frozen? ⟨g, k * wd + cl2, none⟩ = false := fun _ => hco.2
            have f3 : (cl2 : Int) < (wd : Int) := by omega
            have f4 : (i : Int) < (m : Int) := by omega
            have f5 : (ti : Int) ≤ 2147483647 := by omega
            have f6 : (i : Int) < (sB.size : Int) := by rw [HMM.out]; omega
            clear hI7 hT7 hco hu1 hNx hOf hdp hnx hof hge hc ht1 ht2 ht3 hkl hcl2 hcc hcw
            go_wp2_with fail
            go_region_with (first
              | (go_at_call 41; refine (HTR.out _ (by repeat (first | exact HI6.out.hB | (with_reducible apply pw_below_drewN) | (with_reducible apply below_drew)))).mono ?_; rintro e wq ⟨rfl, ⟨qd, rfl⟩⟩)
              | (go_at_call 46; refine (HNX.out _ (by repeat (first | exact HI6.out.hB | (with_reducible apply pw_below_drewN) | (with_reducible apply below_drew)))).mono ?_; rintro e wq ⟨rfl, ⟨qe, rfl⟩⟩))
            all_goals
              go_wp2_with fail
              go_region_with (first
                | (go_at_call 43; refine (HRR.out _ HG1.out _ (by repeat (first | exact Below.refl _ _ | (with_reducible apply pw_below_drewN) | (with_reducible apply below_drew)))).mono ?_; rintro e wq ⟨rfl, ⟨qg, rfl⟩⟩)
                | (go_at_call 47; refine (HOF.out _ (by repeat (first | exact HI6.out.hB | (with_reducible apply pw_below_drewN) | (with_reducible apply below_drew)))).mono ?_; rintro e wq ⟨rfl, ⟨qh, rfl⟩⟩))
              all_goals
                go_wp2_with fail
                go_roundg (m - (i + 1))
                case measure => omega
                case rel => exact ⟨i + 1, _, by go_num, by omega, Nat.le_refl _, HDP, ⟨(HI6.out.below (by repeat (first | exact Below.refl _ _ | (with_reducible apply pw_below_drewN) | (with_reducible apply below_drew)))).put _ _⟩⟩
          · obtain rfl : i = m := by omega
            have hd2 : decide ((i : Int) < (i : Int)) = false := decide_eq_false (by omega)
            have hde := dn_end hsrt HND.out (T := T3) (by have := HD6.out; rw [show i = (kidsB l nd).length from by rw [← HMM.out, HM.out]] at this; exact this)
            have HDE := Aside0.mk hde
            clear hde
            go_wp2_with fail
            go_roundg (n - (k + 1))
            case measure => omega
            case rel => exact ⟨k + 1, T3, by go_num, by omega, Nat.le_refl _, HDE, HI6⟩
      · obtain rfl : k = n := by omega
        have hd : decide ((k : Int) < (k : Int)) = false := decide_eq_false (by omega)
        have hTe : T = denseT l := dn_all (by rw [HN.out]; exact HD.out)
        subst hTe
        go_wp2
        go_ret
        have hI := HI.out
        refine ⟨_, rfl, ?_, HB1.out.trans ((HB2.out.trans (hI.hB.mono HB2.out.size)).mono HB1.out.size)⟩
        show K65.R _ _ _
        refine ⟨b, Pc, some ⟨g, 0, none⟩, N, rfl, ?_, ?_, OB.below hI.hB (OB.below HB2.out HC.out), ?_⟩
        · show wr.heap[b]? = some (.cells #[.pointer Pc, .slice (some ⟨g, 0, none⟩) (denseT l).length N, .int .i64 ((widN l : Nat) : Int), .int .i64 (((trN l).length : Nat) : Int)] _ (0, 0))
          rw [hI.len, HWD.out, HN.out]
          exact hI.hb
        · show (denseT l).length ≤ N
          rw [hI.len]
          exact Nat.le_refl _
        · show Kd.C (Kd.int .i32) _ _ (denseT l).length (denseT l)
          have h := hI.hT
          rw [show N = (denseT l).length from hI.len.symm] at h
          exact (Kd.R_reads' h).2.2
end Go.Proofs.Ytbkcjeopcjghgaa.P

/- Proved here: what Go functions of this seat compute, or a law of it; no condition beyond the statement's own. Written for this claim by a program of this session (wip/myprint.py) over the kit's print.py. -/
namespace Go.Proofs.Ytbkcjeopcjghgaa.P
open Go.RowKit Go.Proofs.YtbkcjeopcjghgaaW.PrintWords Go.Proofs.YtbkcjeopcjghgaaW.PrintLast Go.Proofs.YtbkcjeopcjghgaaW.PrintMore
attribute [local go_sem] max2_int min2_int max_two min_two max_three min_three max_four min_four   -- for this text's walks alone
set_option linter.unusedVariables false
set_option linter.unusedSimpArgs false

/-! ### juratlaw19_awake: function 8 -/
def juratlaw19_awake.f (k : Nat)  : Option (Bool) := (pats_New.f (([(⟨#[97, 98]⟩ : ByteArray), (⟨#[98]⟩ : ByteArray)] : List ByteArray))).bind fun bt108 => ((dense_New.f bt108.1).bind fun t111 => (if bt108.2 = 0 then ((dense_Table_Len.f t111).bind fun t112 => (if t112 = 4 then ((dense_Table_Row.f t111 0).bind fun t113 => ((juratref01_Same.f k t113 (([0, 1, 2] : List Int))).bind fun t119 => (if t119 = true then ((dense_Table_Row.f t111 1).bind fun t120 => ((juratref01_Same.f k t120 (([0, 1, 3] : List Int))).bind fun t126 => (if t126 = true then ((dense_Table_Row.f t111 3).bind fun t127 => ((juratref01_Same.f k t127 (([0, 1, 2] : List Int))).bind fun t133 => (some t133))) else (some false)))) else (some false)))) else (some false))) else (some false)))
theorem juratlaw19_awake.mono : ∀ k, LeO (juratlaw19_awake.f k ) (juratlaw19_awake.f (k + 1) ) := by
  intro  k
  unfold juratlaw19_awake.f
  repeat' first
      | (with_reducible exact juratref01_Same.mono _ _ _)
      | (with_reducible exact LeO.refl _)
      | (with_reducible exact LeO.none _)
      | (with_reducible refine LeO.ite ?_ ?_)
      | (with_reducible refine LeO.bind ?_ (fun _ => ?_))
      | exact juratref01_Same.mono _ _ _
      | exact LeO.none _
      | refine LeO.ite ?_ ?_
      | refine LeO.bind ?_ (fun _ => ?_)
set_option maxHeartbeats 8000000 in
set_option maxRecDepth 100000 in
theorem juratlaw19_awake.calls (k : Nat)  (r : Bool) (w : World) (h : juratlaw19_awake.f k  = some r) :
    Calls Try.prog 8 #[] w fun e w' => e = .returned (.bool r) ∧ Below w.heap.size w w' := by
  have HB := Aside0.mk (Below.refl w.heap.size w)
  have H : ((pats_New.f (([(⟨#[97, 98]⟩ : ByteArray), (⟨#[98]⟩ : ByteArray)] : List ByteArray))).bind fun bt108 => ((dense_New.f bt108.1).bind fun t111 => (if bt108.2 = 0 then ((dense_Table_Len.f t111).bind fun t112 => (if t112 = 4 then ((dense_Table_Row.f t111 0).bind fun t113 => ((juratref01_Same.f k t113 (([0, 1, 2] : List Int))).bind fun t119 => (if t119 = true then ((dense_Table_Row.f t111 1).bind fun t120 => ((juratref01_Same.f k t120 (([0, 1, 3] : List Int))).bind fun t126 => (if t126 = true then ((dense_Table_Row.f t111 3).bind fun t127 => ((juratref01_Same.f k t127 (([0, 1, 2] : List Int))).bind fun t133 => (some t133))) else (some false)))) else (some false)))) else (some false))) else (some false)))) = some r := h
  clear h
  obtain ⟨y105, hy105⟩ : ∃ y_ : List ByteArray, y_ = (([(⟨#[97, 98]⟩ : ByteArray), (⟨#[98]⟩ : ByteArray)] : List ByteArray)) := ⟨_, rfl⟩
  replace H : ((pats_New.f y105).bind fun bt108 => ((dense_New.f bt108.1).bind fun t111 => (if bt108.2 = 0 then ((dense_Table_Len.f t111).bind fun t112 => (if t112 = 4 then ((dense_Table_Row.f t111 0).bind fun t113 => ((juratref01_Same.f k t113 (([0, 1, 2] : List Int))).bind fun t119 => (if t119 = true then ((dense_Table_Row.f t111 1).bind fun t120 => ((juratref01_Same.f k t120 (([0, 1, 3] : List Int))).bind fun t126 => (if t126 = true then ((dense_Table_Row.f t111 3).bind fun t127 => ((juratref01_Same.f k t127 (([0, 1, 2] : List Int))).bind fun t133 => (some t133))) else (some false)))) else (some false)))) else (some false))) else (some false)))) = some r := by first | (rw [hy105]; with_reducible exact H) | (have H2_ := (Option.bind_some _ _).symm.trans H; rw [hy105]; with_reducible exact H2_) | (have H2_ := (Option.bind_some _ _).symm.trans H; with_reducible exact H2_) | with_reducible exact H | (rw [hy105]; exact H) | exact H
  have Ny105 := Aside0.mk hy105
  clear hy105
  replace H := Option.bind_eq_some_iff.mp H
  obtain ⟨⟨t108, t109⟩, A10, H⟩ := H
  replace H : ((dense_New.f t108).bind fun t111 => (if t109 = 0 then ((dense_Table_Len.f t111).bind fun t112 => (if t112 = 4 then ((dense_Table_Row.f t111 0).bind fun t113 => ((juratref01_Same.f k t113 (([0, 1, 2] : List Int))).bind fun t119 => (if t119 = true then ((dense_Table_Row.f t111 1).bind fun t120 => ((juratref01_Same.f k t120 (([0, 1, 3] : List Int))).bind fun t126 => (if t126 = true then ((dense_Table_Row.f t111 3).bind fun t127 => ((juratref01_Same.f k t127 (([0, 1, 2] : List Int))).bind fun t133 => (some t133))) else (some false)))) else (some false)))) else (some false))) else (some false))) = some r := H
  have A1 := Aside0.mk A10
  clear A10
  replace H := Option.bind_eq_some_iff.mp H
  obtain ⟨t111, A20, H⟩ := H
  replace H : (if t109 = 0 then ((dense_Table_Len.f t111).bind fun t112 => (if t112 = 4 then ((dense_Table_Row.f t111 0).bind fun t113 => ((juratref01_Same.f k t113 (([0, 1, 2] : List Int))).bind fun t119 => (if t119 = true then ((dense_Table_Row.f t111 1).bind fun t120 => ((juratref01_Same.f k t120 (([0, 1, 3] : List Int))).bind fun t126 => (if t126 = true then ((dense_Table_Row.f t111 3).bind fun t127 => ((juratref01_Same.f k t127 (([0, 1, 2] : List Int))).bind fun t133 => (some t133))) else (some false)))) else (some false)))) else (some false))) else (some false)) = some r := H
  have A2 := Aside0.mk A20
  clear A20
  by_cases c3 : t109 = 0
  · rw [if_pos c3] at H
    have c3b0 : (t109 == 0) = true := beq_iff_eq.mpr c3
    have c3b1 : (t109 != 0) = false := bne_eq_false_iff_eq.mpr c3
    clear c3
    replace H := Option.bind_eq_some_iff.mp H
    obtain ⟨t112, A40, H⟩ := H
    replace H : (if t112 = 4 then ((dense_Table_Row.f t111 0).bind fun t113 => ((juratref01_Same.f k t113 (([0, 1, 2] : List Int))).bind fun t119 => (if t119 = true then ((dense_Table_Row.f t111 1).bind fun t120 => ((juratref01_Same.f k t120 (([0, 1, 3] : List Int))).bind fun t126 => (if t126 = true then ((dense_Table_Row.f t111 3).bind fun t127 => ((juratref01_Same.f k t127 (([0, 1, 2] : List Int))).bind fun t133 => (some t133))) else (some false)))) else (some false)))) else (some false)) = some r := H
    have A4 := Aside0.mk A40
    clear A40
    by_cases c5 : t112 = 4
    · rw [if_pos c5] at H
      have c5b0 : (t112 == 4) = true := beq_iff_eq.mpr c5
      have c5b1 : (t112 != 4) = false := bne_eq_false_iff_eq.mpr c5
      clear c5
      replace H := Option.bind_eq_some_iff.mp H
      obtain ⟨t113, A60, H⟩ := H
      replace H : ((juratref01_Same.f k t113 (([0, 1, 2] : List Int))).bind fun t119 => (if t119 = true then ((dense_Table_Row.f t111 1).bind fun t120 => ((juratref01_Same.f k t120 (([0, 1, 3] : List Int))).bind fun t126 => (if t126 = true then ((dense_Table_Row.f t111 3).bind fun t127 => ((juratref01_Same.f k t127 (([0, 1, 2] : List Int))).bind fun t133 => (some t133))) else (some false)))) else (some false))) = some r := H
      have A6 := Aside0.mk A60
      clear A60
      obtain ⟨y116, hy116⟩ : ∃ y_ : List Int, y_ = (([0, 1, 2] : List Int)) := ⟨_, rfl⟩
      replace H : ((juratref01_Same.f k t113 y116).bind fun t119 => (if t119 = true then ((dense_Table_Row.f t111 1).bind fun t120 => ((juratref01_Same.f k t120 (([0, 1, 3] : List Int))).bind fun t126 => (if t126 = true then ((dense_Table_Row.f t111 3).bind fun t127 => ((juratref01_Same.f k t127 (([0, 1, 2] : List Int))).bind fun t133 => (some t133))) else (some false)))) else (some false))) = some r := by first | (rw [hy116]; with_reducible exact H) | (have H2_ := (Option.bind_some _ _).symm.trans H; rw [hy116]; with_reducible exact H2_) | (have H2_ := (Option.bind_some _ _).symm.trans H; with_reducible exact H2_) | with_reducible exact H | (rw [hy116]; exact H) | exact H
      have Ny116 := Aside0.mk hy116
      clear hy116
      replace H := Option.bind_eq_some_iff.mp H
      obtain ⟨t119, A70, H⟩ := H
      replace H : (if t119 = true then ((dense_Table_Row.f t111 1).bind fun t120 => ((juratref01_Same.f k t120 (([0, 1, 3] : List Int))).bind fun t126 => (if t126 = true then ((dense_Table_Row.f t111 3).bind fun t127 => ((juratref01_Same.f k t127 (([0, 1, 2] : List Int))).bind fun t133 => (some t133))) else (some false)))) else (some false)) = some r := H
      have A7 := Aside0.mk A70
      clear A70
      by_cases c8 : t119 = true
      · subst c8
        have H1 : ((dense_Table_Row.f t111 1).bind fun t120 => ((juratref01_Same.f k t120 (([0, 1, 3] : List Int))).bind fun t126 => (if t126 = true then ((dense_Table_Row.f t111 3).bind fun t127 => ((juratref01_Same.f k t127 (([0, 1, 2] : List Int))).bind fun t133 => (some t133))) else (some false)))) = some r := by rw [if_pos rfl] at H; exact H
        clear H
        have H := H1
        clear H1
        replace H := Option.bind_eq_some_iff.mp H
        obtain ⟨t120, A90, H⟩ := H
        replace H : ((juratref01_Same.f k t120 (([0, 1, 3] : List Int))).bind fun t126 => (if t126 = true then ((dense_Table_Row.f t111 3).bind fun t127 => ((juratref01_Same.f k t127 (([0, 1, 2] : List Int))).bind fun t133 => (some t133))) else (some false))) = some r := H
        have A9 := Aside0.mk A90
        clear A90
        obtain ⟨y123, hy123⟩ : ∃ y_ : List Int, y_ = (([0, 1, 3] : List Int)) := ⟨_, rfl⟩
        replace H : ((juratref01_Same.f k t120 y123).bind fun t126 => (if t126 = true then ((dense_Table_Row.f t111 3).bind fun t127 => ((juratref01_Same.f k t127 (([0, 1, 2] : List Int))).bind fun t133 => (some t133))) else (some false))) = some r := by first | (rw [hy123]; with_reducible exact H) | (have H2_ := (Option.bind_some _ _).symm.trans H; rw [hy123]; with_reducible exact H2_) | (have H2_ := (Option.bind_some _ _).symm.trans H; with_reducible exact H2_) | with_reducible exact H | (rw [hy123]; exact H) | exact H
        have Ny123 := Aside0.mk hy123
        clear hy123
        replace H := Option.bind_eq_some_iff.mp H
        obtain ⟨t126, A100, H⟩ := H
        replace H : (if t126 = true then ((dense_Table_Row.f t111 3).bind fun t127 => ((juratref01_Same.f k t127 (([0, 1, 2] : List Int))).bind fun t133 => (some t133))) else (some false)) = some r := H
        have A10 := Aside0.mk A100
        clear A100
        by_cases c11 : t126 = true
        · subst c11
          have H1 : ((dense_Table_Row.f t111 3).bind fun t127 => ((juratref01_Same.f k t127 (([0, 1, 2] : List Int))).bind fun t133 => (some t133))) = some r := by rw [if_pos rfl] at H; exact H
          clear H
          have H := H1
          clear H1
          replace H := Option.bind_eq_some_iff.mp H
          obtain ⟨t127, A120, H⟩ := H
          replace H : ((juratref01_Same.f k t127 (([0, 1, 2] : List Int))).bind fun t133 => (some t133)) = some r := H
          have A12 := Aside0.mk A120
          clear A120
          obtain ⟨y130, hy130⟩ : ∃ y_ : List Int, y_ = (([0, 1, 2] : List Int)) := ⟨_, rfl⟩
          replace H : ((juratref01_Same.f k t127 y130).bind fun t133 => (some t133)) = some r := by first | (rw [hy130]; with_reducible exact H) | (have H2_ := (Option.bind_some _ _).symm.trans H; rw [hy130]; with_reducible exact H2_) | (have H2_ := (Option.bind_some _ _).symm.trans H; with_reducible exact H2_) | with_reducible exact H | (rw [hy130]; exact H) | exact H
          have Ny130 := Aside0.mk hy130
          clear hy130
          replace H := Option.bind_eq_some_iff.mp H
          obtain ⟨t133, A130, H⟩ := H
          replace H : (some t133) = some r := H
          have A13 := Aside0.mk A130
          clear A130
          obtain rfl := Option.some.inj H
          go_enter Try.func8, Try.ntmps8
          go_wp2_with (first | ((with_reducible refine gate_dst (N := 5) rfl ?_); (try (refine gate_guard (by rfl) ?_; dsimp only)); refine Kd.R_lit Kd.string _ 9 ?hg (N := 5) ?hd (xs := ([(⟨#[97, 98]⟩ : ByteArray), (⟨#[98]⟩ : ByteArray)] : List ByteArray)) (inner := [.string (⟨#[97, 98]⟩ : ByteArray), .string (⟨#[98]⟩ : ByteArray)]) (ok := fun _ => True) (okp := fun _ => True) ?hr ?hp (fun _ hk => hk) trivial (Below.refl _ _) (Nat.le_refl _) (by simp) ?_; (case hd => rfl); (case hg => rfl); (case hr => first | (go_simp; done) | (go_simp; rfl)); (case hp => exact (Reps.one (show Kd.M Kd.string _ _ _ (⟨#[97, 98]⟩ : ByteArray) [.string (⟨#[97, 98]⟩ : ByteArray)] from rfl) (Reps.one (show Kd.M Kd.string _ _ _ (⟨#[98]⟩ : ByteArray) [.string (⟨#[98]⟩ : ByteArray)] from rfl) (Reps.none _ _)))); intro v106 w14 ho15 hb hg_ hnew_; clear hg_ hnew_; (first | rw [← Ny105.out] at ho15 | (simp only [Int.reduceToNat] at ho15; rw [← Ny105.out] at ho15)); have n0_ := Aside0.mk (Kd.R_lower ho15 (below_size (by repeat (first | (with_reducible first | exact HB.out | apply below_alloc | apply pw_below_drewN | apply below_drew1) | exact HB.out)))); have n1_ := Aside0.mk (below_step (by repeat (first | (with_reducible first | exact HB.out | apply below_alloc | apply pw_below_drewN | apply below_drew1) | exact HB.out)) hb); clear HB; have HO107 := n0_; have HB := n1_; clear n0_ n1_; clear hb ho15; obtain ⟨Ao16, co16, eo16⟩ := Kd.R_slice HO107.out; subst eo16) | ((with_reducible refine gate_callee (f := 9) rfl ?_); refine goesL_ (some 6) rfl rfl Try.func9 (by kernel_rfl) rfl #[.slice Ao16 y105.length co16] rfl (by (try simp only [List.map_toArray, List.map_cons, List.map_nil]); first | done | rfl | (simp only [List.length_drop, List.length_take]; rfl)) ?_; (with_reducible refine (pats_New.calls _ _ y105 t108 t109 _ ?side1 ?side2 A1.out).mono ?_); (case side1 => repeat (first | exact (Kd.R_reads' HO107.out).2.2 | (with_reducible refine Kd.C_alloc ?_ _) | (with_reducible refine Kd.C_drewN ?_ _) | (with_reducible refine Kd.C_drew ?_))); (case side2 => exact (Kd.R_reads' HO107.out).2.1); rintro e w17 ⟨Pt108, rfl, hob0, hb⟩; refine ⟨_, rfl, ?_⟩; have hbw_ := below_step (by repeat (first | (with_reducible first | exact HB.out | apply below_alloc | apply pw_below_drewN | apply below_drew1) | exact HB.out)) hb; obtain ⟨Ab110, cb110, eb110_, lb110_, gb110_⟩ := Kd.R_reads (Kd.R_below (by (with_reducible repeat (first | apply Kd.R_alloc | apply Kd.R_drewN | apply Kd.R_drew)); exact HO107.out) hb); (first | subst eb110_ | (injection eb110_ with f1_ f2_ f3_; have f4_ := f1_.symm; have f5_ := f3_.symm; clear f1_ f2_ f3_; subst f4_; subst f5_)); have HRb110 := Aside0.mk gb110_; have HCb110 := Aside0.mk lb110_; clear gb110_ lb110_; (try clear HO107); (first | (have n_ := Aside0.mk (HB00.out.trans (hbw_.mono HB00.out.size)); clear HB00; have HB00 := n_; clear n_) | have HB00 := Aside0.mk hbw_); clear HB hb hbw_; have HO_t108 := Aside0.mk hob0; clear hob0; obtain ⟨w, rfl⟩ : ∃ w_ : World, w_ = w17 := ⟨_, rfl⟩; have HB := Aside0.mk (Below.refl w.heap.size w)) | ((with_reducible refine gate_callee (f := 11) rfl ?_); refine goesL_ (some 10) rfl rfl Try.func11 (by kernel_rfl) rfl #[.pointer Pt108] rfl (by (try simp only [List.map_toArray, List.map_cons, List.map_nil]); first | done | rfl | (simp only [List.length_drop, List.length_take]; rfl)) ?_; (with_reducible refine (dense_New.calls _ t108 t111 _ ?side1 A2.out).mono ?_); (case side1 => first | exact HO_t108.out | exact OB.drewN HO_t108.out _ | exact OB.below (by repeat (first | (with_reducible first | exact HB.out | apply below_alloc | apply pw_below_drewN | apply below_drew1) | exact HB.out)) HO_t108.out); rintro e w18 ⟨Pt111, rfl, hob0, hb⟩; refine ⟨_, rfl, ?_⟩; have hbw_ := below_step (by repeat (first | (with_reducible first | exact HB.out | apply below_alloc | apply pw_below_drewN | apply below_drew1) | exact HB.out)) hb; (try (have n_ := Aside0.mk (Kd.C_below HRb110.out hbw_); clear HRb110; have HRb110 := n_; clear n_)); (try (have n_ := Aside0.mk (OB.below hbw_ HO_t108.out); clear HO_t108; have HO_t108 := n_; clear n_)); (first | (have n_ := Aside0.mk (HB00.out.trans (hbw_.mono HB00.out.size)); clear HB00; have HB00 := n_; clear n_) | have HB00 := Aside0.mk hbw_); clear HB hb hbw_; have HO_t111 := Aside0.mk hob0; clear hob0; obtain ⟨w, rfl⟩ : ∃ w_ : World, w_ = w18 := ⟨_, rfl⟩; have HB := Aside0.mk (Below.refl w.heap.size w)) | (go_at_call 25; (with_reducible refine (dense_Table_Len.calls _ t111 t112 _ ?side1 A4.out).mono ?_); (case side1 => first | exact HO_t111.out | exact OB.drewN HO_t111.out _ | exact OB.below (by repeat (first | (with_reducible first | exact HB.out | apply below_alloc | apply pw_below_drewN | apply below_drew1) | exact HB.out)) HO_t111.out); rintro e w' ⟨rfl, ⟨nd, rfl⟩⟩) | (go_at_call 31; (with_reducible refine (dense_Table_Row.calls _ t111 0 t113 _ ?side1 A6.out).mono ?_); (case side1 => first | exact HO_t111.out | exact OB.drewN HO_t111.out _ | exact OB.below (by repeat (first | (with_reducible first | exact HB.out | apply below_alloc | apply pw_below_drewN | apply below_drew1) | exact HB.out)) HO_t111.out); rintro e w19 ⟨v114, rfl, ho0, hb⟩; have n0_ := Aside0.mk (Kd.R_lower ho0 (below_size (by repeat (first | (with_reducible first | exact HB.out | apply below_alloc | apply pw_below_drewN | apply below_drew1) | exact HB.out)))); have n1_ := Aside0.mk (below_step (by repeat (first | (with_reducible first | exact HB.out | apply below_alloc | apply pw_below_drewN | apply below_drew1) | exact HB.out)) hb); clear HB; have HO115 := n0_; have HB := n1_; clear n0_ n1_; (try clear hb); (try clear hb2); (try clear hk); (try clear hi); (try clear ho0)) | ((with_reducible refine gate_dst (N := 21) rfl ?_); (try (refine gate_guard (by rfl) ?_; dsimp only)); refine Kd.R_lit (Kd.int .i64) _ 3 ?hg (N := 21) ?hd (xs := ([0, 1, 2] : List Int)) (inner := [.int .i64 0, .int .i64 1, .int .i64 2]) (ok := fun _ => True) (okp := fun _ => True) ?hr ?hp (fun _ hk => hk) trivial (Below.refl _ _) (Nat.le_refl _) (by simp) ?_; (case hd => rfl); (case hg => rfl); (case hr => first | (go_simp; done) | (go_simp; rfl)); (case hp => exact (Reps.one (show Kd.M (Kd.int .i64) _ _ _ 0 [.int .i64 0] from rfl) (Reps.one (show Kd.M (Kd.int .i64) _ _ _ 1 [.int .i64 1] from rfl) (Reps.one (show Kd.M (Kd.int .i64) _ _ _ 2 [.int .i64 2] from rfl) (Reps.none _ _))))); intro v117 w20 ho21 hb hg_ hnew_; clear hg_ hnew_; (first | rw [← Ny116.out] at ho21 | (simp only [Int.reduceToNat] at ho21; rw [← Ny116.out] at ho21)); have n0_ := Aside0.mk (Kd.R_elder' (by (with_reducible repeat (first | apply Kd.R_alloc | apply Kd.R_drewN | apply Kd.R_drew)); exact HO115.out) (Kd.R_base ho21) hb); have n1_ := Aside0.mk (Kd.R_lower (Kd.R_new' ho21 (Kd.R_lt (by (with_reducible repeat (first | apply Kd.R_alloc | apply Kd.R_drewN | apply Kd.R_drew)); exact HO115.out))) (below_size (by repeat (first | (with_reducible first | exact HB.out | apply below_alloc | apply pw_below_drewN | apply below_drew1) | exact HB.out)))); have n2_ := Aside0.mk (below_step (by repeat (first | (with_reducible first | exact HB.out | apply below_alloc | apply pw_below_drewN | apply below_drew1) | exact HB.out)) hb); clear HO115; clear HB; have HO115 := n0_; have HO118 := n1_; have HB := n2_; clear n0_ n1_ n2_; clear hb ho21; obtain ⟨Ao22, co22, eo22⟩ := Kd.R_slice HO115.out; subst eo22; obtain ⟨Ao23, co23, eo23⟩ := Kd.R_slice HO118.out; subst eo23) | (go_at_call 30; (with_reducible refine (juratref01_Same.calls k _ _ t113 _ _ y116 true _ ?side1 ?side2 ?side3 ?side4 A7.out).mono ?_); (case side1 => repeat (first | exact (Kd.R_reads' HO115.out).2.2 | (with_reducible refine Kd.C_alloc ?_ _) | (with_reducible refine Kd.C_drewN ?_ _) | (with_reducible refine Kd.C_drew ?_))); (case side2 => exact (Kd.R_reads' HO115.out).2.1); (case side3 => repeat (first | exact (Kd.R_reads' HO118.out).2.2 | (with_reducible refine Kd.C_alloc ?_ _) | (with_reducible refine Kd.C_drewN ?_ _) | (with_reducible refine Kd.C_drew ?_))); (case side4 => exact (Kd.R_reads' HO118.out).2.1); rintro e w' ⟨rfl, ⟨nd, rfl⟩⟩) | (go_at_call 31; (with_reducible refine (dense_Table_Row.calls _ t111 1 t120 _ ?side1 A9.out).mono ?_); (case side1 => first | exact HO_t111.out | exact OB.drewN HO_t111.out _ | exact OB.below (by repeat (first | (with_reducible first | exact HB.out | apply below_alloc | apply pw_below_drewN | apply below_drew1) | exact HB.out)) HO_t111.out); rintro e w24 ⟨v121, rfl, ho0, hb⟩; have n0_ := Aside0.mk (Kd.R_elder' (by (with_reducible repeat (first | apply Kd.R_alloc | apply Kd.R_drewN | apply Kd.R_drew)); exact HO115.out) (Kd.R_base ho0) hb); have n1_ := Aside0.mk (Kd.R_elder' (by (with_reducible repeat (first | apply Kd.R_alloc | apply Kd.R_drewN | apply Kd.R_drew)); exact HO118.out) (Kd.R_base ho0) hb); have n2_ := Aside0.mk (Kd.R_lower (Kd.R_new' (Kd.R_new' ho0 (Kd.R_lt (by (with_reducible repeat (first | apply Kd.R_alloc | apply Kd.R_drewN | apply Kd.R_drew)); exact HO115.out))) (Kd.R_lt (by (with_reducible repeat (first | apply Kd.R_alloc | apply Kd.R_drewN | apply Kd.R_drew)); exact HO118.out))) (below_size (by repeat (first | (with_reducible first | exact HB.out | apply below_alloc | apply pw_below_drewN | apply below_drew1) | exact HB.out)))); have n3_ := Aside0.mk (below_step (by repeat (first | (with_reducible first | exact HB.out | apply below_alloc | apply pw_below_drewN | apply below_drew1) | exact HB.out)) hb); clear HO115; clear HO118; clear HB; have HO115 := n0_; have HO118 := n1_; have HO122 := n2_; have HB := n3_; clear n0_ n1_ n2_ n3_; (try clear hb); (try clear hb2); (try clear hk); (try clear hi); (try clear ho0)) | ((with_reducible refine gate_dst (N := 27) rfl ?_); (try (refine gate_guard (by rfl) ?_; dsimp only)); refine Kd.R_lit (Kd.int .i64) _ 3 ?hg (N := 27) ?hd (xs := ([0, 1, 3] : List Int)) (inner := [.int .i64 0, .int .i64 1, .int .i64 3]) (ok := fun _ => True) (okp := fun _ => True) ?hr ?hp (fun _ hk => hk) trivial (Below.refl _ _) (Nat.le_refl _) (by simp) ?_; (case hd => rfl); (case hg => rfl); (case hr => first | (go_simp; done) | (go_simp; rfl)); (case hp => exact (Reps.one (show Kd.M (Kd.int .i64) _ _ _ 0 [.int .i64 0] from rfl) (Reps.one (show Kd.M (Kd.int .i64) _ _ _ 1 [.int .i64 1] from rfl) (Reps.one (show Kd.M (Kd.int .i64) _ _ _ 3 [.int .i64 3] from rfl) (Reps.none _ _))))); intro v124 w25 ho26 hb hg_ hnew_; clear hg_ hnew_; (first | rw [← Ny123.out] at ho26 | (simp only [Int.reduceToNat] at ho26; rw [← Ny123.out] at ho26)); have n0_ := Aside0.mk (Kd.R_elder' (by (with_reducible repeat (first | apply Kd.R_alloc | apply Kd.R_drewN | apply Kd.R_drew)); exact HO115.out) (Kd.R_base ho26) hb); have n1_ := Aside0.mk (Kd.R_elder' (by (with_reducible repeat (first | apply Kd.R_alloc | apply Kd.R_drewN | apply Kd.R_drew)); exact HO118.out) (Kd.R_base ho26) hb); have n2_ := Aside0.mk (Kd.R_elder' (by (with_reducible repeat (first | apply Kd.R_alloc | apply Kd.R_drewN | apply Kd.R_drew)); exact HO122.out) (Kd.R_base ho26) hb); have n3_ := Aside0.mk (Kd.R_lower (Kd.R_new' (Kd.R_new' (Kd.R_new' ho26 (Kd.R_lt (by (with_reducible repeat (first | apply Kd.R_alloc | apply Kd.R_drewN | apply Kd.R_drew)); exact HO115.out))) (Kd.R_lt (by (with_reducible repeat (first | apply Kd.R_alloc | apply Kd.R_drewN | apply Kd.R_drew)); exact HO118.out))) (Kd.R_lt (by (with_reducible repeat (first | apply Kd.R_alloc | apply Kd.R_drewN | apply Kd.R_drew)); exact HO122.out))) (below_size (by repeat (first | (with_reducible first | exact HB.out | apply below_alloc | apply pw_below_drewN | apply below_drew1) | exact HB.out)))); have n4_ := Aside0.mk (below_step (by repeat (first | (with_reducible first | exact HB.out | apply below_alloc | apply pw_below_drewN | apply below_drew1) | exact HB.out)) hb); clear HO115; clear HO118; clear HO122; clear HB; have HO115 := n0_; have HO118 := n1_; have HO122 := n2_; have HO125 := n3_; have HB := n4_; clear n0_ n1_ n2_ n3_ n4_; clear hb ho26; obtain ⟨Ao27, co27, eo27⟩ := Kd.R_slice HO122.out; subst eo27; obtain ⟨Ao28, co28, eo28⟩ := Kd.R_slice HO125.out; subst eo28) | (go_at_call 30; (with_reducible refine (juratref01_Same.calls k _ _ t120 _ _ y123 true _ ?side1 ?side2 ?side3 ?side4 A10.out).mono ?_); (case side1 => repeat (first | exact (Kd.R_reads' HO122.out).2.2 | (with_reducible refine Kd.C_alloc ?_ _) | (with_reducible refine Kd.C_drewN ?_ _) | (with_reducible refine Kd.C_drew ?_))); (case side2 => exact (Kd.R_reads' HO122.out).2.1); (case side3 => repeat (first | exact (Kd.R_reads' HO125.out).2.2 | (with_reducible refine Kd.C_alloc ?_ _) | (with_reducible refine Kd.C_drewN ?_ _) | (with_reducible refine Kd.C_drew ?_))); (case side4 => exact (Kd.R_reads' HO125.out).2.1); rintro e w' ⟨rfl, ⟨nd, rfl⟩⟩) | (go_at_call 31; (with_reducible refine (dense_Table_Row.calls _ t111 3 t127 _ ?side1 A12.out).mono ?_); (case side1 => first | exact HO_t111.out | exact OB.drewN HO_t111.out _ | exact OB.below (by repeat (first | (with_reducible first | exact HB.out | apply below_alloc | apply pw_below_drewN | apply below_drew1) | exact HB.out)) HO_t111.out); rintro e w29 ⟨v128, rfl, ho0, hb⟩; have n0_ := Aside0.mk (Kd.R_elder' (by (with_reducible repeat (first | apply Kd.R_alloc | apply Kd.R_drewN | apply Kd.R_drew)); exact HO115.out) (Kd.R_base ho0) hb); have n1_ := Aside0.mk (Kd.R_elder' (by (with_reducible repeat (first | apply Kd.R_alloc | apply Kd.R_drewN | apply Kd.R_drew)); exact HO118.out) (Kd.R_base ho0) hb); have n2_ := Aside0.mk (Kd.R_elder' (by (with_reducible repeat (first | apply Kd.R_alloc | apply Kd.R_drewN | apply Kd.R_drew)); exact HO122.out) (Kd.R_base ho0) hb); have n3_ := Aside0.mk (Kd.R_elder' (by (with_reducible repeat (first | apply Kd.R_alloc | apply Kd.R_drewN | apply Kd.R_drew)); exact HO125.out) (Kd.R_base ho0) hb); have n4_ := Aside0.mk (Kd.R_lower (Kd.R_new' (Kd.R_new' (Kd.R_new' (Kd.R_new' ho0 (Kd.R_lt (by (with_reducible repeat (first | apply Kd.R_alloc | apply Kd.R_drewN | apply Kd.R_drew)); exact HO115.out))) (Kd.R_lt (by (with_reducible repeat (first | apply Kd.R_alloc | apply Kd.R_drewN | apply Kd.R_drew)); exact HO118.out))) (Kd.R_lt (by (with_reducible repeat (first | apply Kd.R_alloc | apply Kd.R_drewN | apply Kd.R_drew)); exact HO122.out))) (Kd.R_lt (by (with_reducible repeat (first | apply Kd.R_alloc | apply Kd.R_drewN | apply Kd.R_drew)); exact HO125.out))) (below_size (by repeat (first | (with_reducible first | exact HB.out | apply below_alloc | apply pw_below_drewN | apply below_drew1) | exact HB.out)))); have n5_ := Aside0.mk (below_step (by repeat (first | (with_reducible first | exact HB.out | apply below_alloc | apply pw_below_drewN | apply below_drew1) | exact HB.out)) hb); clear HO115; clear HO118; clear HO122; clear HO125; clear HB; have HO115 := n0_; have HO118 := n1_; have HO122 := n2_; have HO125 := n3_; have HO129 := n4_; have HB := n5_; clear n0_ n1_ n2_ n3_ n4_ n5_; (try clear hb); (try clear hb2); (try clear hk); (try clear hi); (try clear ho0)) | ((with_reducible refine gate_dst (N := 33) rfl ?_); (try (refine gate_guard (by rfl) ?_; dsimp only)); refine Kd.R_lit (Kd.int .i64) _ 3 ?hg (N := 33) ?hd (xs := ([0, 1, 2] : List Int)) (inner := [.int .i64 0, .int .i64 1, .int .i64 2]) (ok := fun _ => True) (okp := fun _ => True) ?hr ?hp (fun _ hk => hk) trivial (Below.refl _ _) (Nat.le_refl _) (by simp) ?_; (case hd => rfl); (case hg => rfl); (case hr => first | (go_simp; done) | (go_simp; rfl)); (case hp => exact (Reps.one (show Kd.M (Kd.int .i64) _ _ _ 0 [.int .i64 0] from rfl) (Reps.one (show Kd.M (Kd.int .i64) _ _ _ 1 [.int .i64 1] from rfl) (Reps.one (show Kd.M (Kd.int .i64) _ _ _ 2 [.int .i64 2] from rfl) (Reps.none _ _))))); intro v131 w30 ho31 hb hg_ hnew_; clear hg_ hnew_; (first | rw [← Ny130.out] at ho31 | (simp only [Int.reduceToNat] at ho31; rw [← Ny130.out] at ho31)); have n0_ := Aside0.mk (Kd.R_elder' (by (with_reducible repeat (first | apply Kd.R_alloc | apply Kd.R_drewN | apply Kd.R_drew)); exact HO115.out) (Kd.R_base ho31) hb); have n1_ := Aside0.mk (Kd.R_elder' (by (with_reducible repeat (first | apply Kd.R_alloc | apply Kd.R_drewN | apply Kd.R_drew)); exact HO118.out) (Kd.R_base ho31) hb); have n2_ := Aside0.mk (Kd.R_elder' (by (with_reducible repeat (first | apply Kd.R_alloc | apply Kd.R_drewN | apply Kd.R_drew)); exact HO122.out) (Kd.R_base ho31) hb); have n3_ := Aside0.mk (Kd.R_elder' (by (with_reducible repeat (first | apply Kd.R_alloc | apply Kd.R_drewN | apply Kd.R_drew)); exact HO125.out) (Kd.R_base ho31) hb); have n4_ := Aside0.mk (Kd.R_elder' (by (with_reducible repeat (first | apply Kd.R_alloc | apply Kd.R_drewN | apply Kd.R_drew)); exact HO129.out) (Kd.R_base ho31) hb); have n5_ := Aside0.mk (Kd.R_lower (Kd.R_new' (Kd.R_new' (Kd.R_new' (Kd.R_new' (Kd.R_new' ho31 (Kd.R_lt (by (with_reducible repeat (first | apply Kd.R_alloc | apply Kd.R_drewN | apply Kd.R_drew)); exact HO115.out))) (Kd.R_lt (by (with_reducible repeat (first | apply Kd.R_alloc | apply Kd.R_drewN | apply Kd.R_drew)); exact HO118.out))) (Kd.R_lt (by (with_reducible repeat (first | apply Kd.R_alloc | apply Kd.R_drewN | apply Kd.R_drew)); exact HO122.out))) (Kd.R_lt (by (with_reducible repeat (first | apply Kd.R_alloc | apply Kd.R_drewN | apply Kd.R_drew)); exact HO125.out))) (Kd.R_lt (by (with_reducible repeat (first | apply Kd.R_alloc | apply Kd.R_drewN | apply Kd.R_drew)); exact HO129.out))) (below_size (by repeat (first | (with_reducible first | exact HB.out | apply below_alloc | apply pw_below_drewN | apply below_drew1) | exact HB.out)))); have n6_ := Aside0.mk (below_step (by repeat (first | (with_reducible first | exact HB.out | apply below_alloc | apply pw_below_drewN | apply below_drew1) | exact HB.out)) hb); clear HO115; clear HO118; clear HO122; clear HO125; clear HO129; clear HB; have HO115 := n0_; have HO118 := n1_; have HO122 := n2_; have HO125 := n3_; have HO129 := n4_; have HO132 := n5_; have HB := n6_; clear n0_ n1_ n2_ n3_ n4_ n5_ n6_; clear hb ho31; obtain ⟨Ao32, co32, eo32⟩ := Kd.R_slice HO129.out; subst eo32; obtain ⟨Ao33, co33, eo33⟩ := Kd.R_slice HO132.out; subst eo33) | (go_at_call 30; (with_reducible refine (juratref01_Same.calls k _ _ t127 _ _ y130 t133 _ ?side1 ?side2 ?side3 ?side4 A13.out).mono ?_); (case side1 => repeat (first | exact (Kd.R_reads' HO129.out).2.2 | (with_reducible refine Kd.C_alloc ?_ _) | (with_reducible refine Kd.C_drewN ?_ _) | (with_reducible refine Kd.C_drew ?_))); (case side2 => exact (Kd.R_reads' HO129.out).2.1); (case side3 => repeat (first | exact (Kd.R_reads' HO132.out).2.2 | (with_reducible refine Kd.C_alloc ?_ _) | (with_reducible refine Kd.C_drewN ?_ _) | (with_reducible refine Kd.C_drew ?_))); (case side4 => exact (Kd.R_reads' HO132.out).2.1); rintro e w' ⟨rfl, ⟨nd, rfl⟩⟩))
          go_ret
          exact ⟨by first | rfl | (simp [errW_none, errW_some] <;> rfl) | (simp [*, errW_none, errW_some] <;> rfl), by first | (refine HB00.out.trans (Below.mono ?_ HB00.out.size); (repeat (first | (with_reducible first | exact HB.out | apply below_alloc | apply pw_below_drewN | apply below_drew1) | exact HB.out))) | (repeat (first | (with_reducible first | exact HB.out | apply below_alloc | apply pw_below_drewN | apply below_drew1) | exact HB.out))⟩
        · replace c11 := Bool.eq_false_iff.mpr c11
          subst c11
          have H1 : (some false) = some r := by rw [if_neg (show ¬ (false = true) by decide)] at H; exact H
          clear H
          have H := H1
          clear H1
          obtain rfl := Option.some.inj H
          go_enter Try.func8, Try.ntmps8
          go_wp2_with (first | ((with_reducible refine gate_dst (N := 5) rfl ?_); (try (refine gate_guard (by rfl) ?_; dsimp only)); refine Kd.R_lit Kd.string _ 9 ?hg (N := 5) ?hd (xs := ([(⟨#[97, 98]⟩ : ByteArray), (⟨#[98]⟩ : ByteArray)] : List ByteArray)) (inner := [.string (⟨#[97, 98]⟩ : ByteArray), .string (⟨#[98]⟩ : ByteArray)]) (ok := fun _ => True) (okp := fun _ => True) ?hr ?hp (fun _ hk => hk) trivial (Below.refl _ _) (Nat.le_refl _) (by simp) ?_; (case hd => rfl); (case hg => rfl); (case hr => first | (go_simp; done) | (go_simp; rfl)); (case hp => exact (Reps.one (show Kd.M Kd.string _ _ _ (⟨#[97, 98]⟩ : ByteArray) [.string (⟨#[97, 98]⟩ : ByteArray)] from rfl) (Reps.one (show Kd.M Kd.string _ _ _ (⟨#[98]⟩ : ByteArray) [.string (⟨#[98]⟩ : ByteArray)] from rfl) (Reps.none _ _)))); intro v106 w34 ho35 hb hg_ hnew_; clear hg_ hnew_; (first | rw [← Ny105.out] at ho35 | (simp only [Int.reduceToNat] at ho35; rw [← Ny105.out] at ho35)); have n0_ := Aside0.mk (Kd.R_lower ho35 (below_size (by repeat (first | (with_reducible first | exact HB.out | apply below_alloc | apply pw_below_drewN | apply below_drew1) | exact HB.out)))); have n1_ := Aside0.mk (below_step (by repeat (first | (with_reducible first | exact HB.out | apply below_alloc | apply pw_below_drewN | apply below_drew1) | exact HB.out)) hb); clear HB; have HO107 := n0_; have HB := n1_; clear n0_ n1_; clear hb ho35; obtain ⟨Ao36, co36, eo36⟩ := Kd.R_slice HO107.out; subst eo36) | ((with_reducible refine gate_callee (f := 9) rfl ?_); refine goesL_ (some 6) rfl rfl Try.func9 (by kernel_rfl) rfl #[.slice Ao36 y105.length co36] rfl (by (try simp only [List.map_toArray, List.map_cons, List.map_nil]); first | done | rfl | (simp only [List.length_drop, List.length_take]; rfl)) ?_; (with_reducible refine (pats_New.calls _ _ y105 t108 t109 _ ?side1 ?side2 A1.out).mono ?_); (case side1 => repeat (first | exact (Kd.R_reads' HO107.out).2.2 | (with_reducible refine Kd.C_alloc ?_ _) | (with_reducible refine Kd.C_drewN ?_ _) | (with_reducible refine Kd.C_drew ?_))); (case side2 => exact (Kd.R_reads' HO107.out).2.1); rintro e w37 ⟨Pt108, rfl, hob0, hb⟩; refine ⟨_, rfl, ?_⟩; have hbw_ := below_step (by repeat (first | (with_reducible first | exact HB.out | apply below_alloc | apply pw_below_drewN | apply below_drew1) | exact HB.out)) hb; obtain ⟨Ab110, cb110, eb110_, lb110_, gb110_⟩ := Kd.R_reads (Kd.R_below (by (with_reducible repeat (first | apply Kd.R_alloc | apply Kd.R_drewN | apply Kd.R_drew)); exact HO107.out) hb); (first | subst eb110_ | (injection eb110_ with f1_ f2_ f3_; have f4_ := f1_.symm; have f5_ := f3_.symm; clear f1_ f2_ f3_; subst f4_; subst f5_)); have HRb110 := Aside0.mk gb110_; have HCb110 := Aside0.mk lb110_; clear gb110_ lb110_; (try clear HO107); (try (have n_ := Aside0.mk (Kd.C_below HRb110.out hbw_); clear HRb110; have HRb110 := n_; clear n_)); (try (have n_ := Aside0.mk (OB.below hbw_ HO_t108.out); clear HO_t108; have HO_t108 := n_; clear n_)); (try (have n_ := Aside0.mk (OB.below hbw_ HO_t111.out); clear HO_t111; have HO_t111 := n_; clear n_)); (first | (have n_ := Aside0.mk (HB00.out.trans (hbw_.mono HB00.out.size)); clear HB00; have HB00 := n_; clear n_) | have HB00 := Aside0.mk hbw_); clear HB hb hbw_; have HO_t108 := Aside0.mk hob0; clear hob0; obtain ⟨w, rfl⟩ : ∃ w_ : World, w_ = w37 := ⟨_, rfl⟩; have HB := Aside0.mk (Below.refl w.heap.size w)) | ((with_reducible refine gate_callee (f := 11) rfl ?_); refine goesL_ (some 10) rfl rfl Try.func11 (by kernel_rfl) rfl #[.pointer Pt108] rfl (by (try simp only [List.map_toArray, List.map_cons, List.map_nil]); first | done | rfl | (simp only [List.length_drop, List.length_take]; rfl)) ?_; (with_reducible refine (dense_New.calls _ t108 t111 _ ?side1 A2.out).mono ?_); (case side1 => first | exact HO_t108.out | exact OB.drewN HO_t108.out _ | exact OB.below (by repeat (first | (with_reducible first | exact HB.out | apply below_alloc | apply pw_below_drewN | apply below_drew1) | exact HB.out)) HO_t108.out); rintro e w38 ⟨Pt111, rfl, hob0, hb⟩; refine ⟨_, rfl, ?_⟩; have hbw_ := below_step (by repeat (first | (with_reducible first | exact HB.out | apply below_alloc | apply pw_below_drewN | apply below_drew1) | exact HB.out)) hb; (try (have n_ := Aside0.mk (Kd.C_below HRb110.out hbw_); clear HRb110; have HRb110 := n_; clear n_)); (try (have n_ := Aside0.mk (OB.below hbw_ HO_t108.out); clear HO_t108; have HO_t108 := n_; clear n_)); (try (have n_ := Aside0.mk (OB.below hbw_ HO_t111.out); clear HO_t111; have HO_t111 := n_; clear n_)); (first | (have n_ := Aside0.mk (HB00.out.trans (hbw_.mono HB00.out.size)); clear HB00; have HB00 := n_; clear n_) | have HB00 := Aside0.mk hbw_); clear HB hb hbw_; have HO_t111 := Aside0.mk hob0; clear hob0; obtain ⟨w, rfl⟩ : ∃ w_ : World, w_ = w38 := ⟨_, rfl⟩; have HB := Aside0.mk (Below.refl w.heap.size w)) | (go_at_call 25; (with_reducible refine (dense_Table_Len.calls _ t111 t112 _ ?side1 A4.out).mono ?_); (case side1 => first | exact HO_t111.out | exact OB.drewN HO_t111.out _ | exact OB.below (by repeat (first | (with_reducible first | exact HB.out | apply below_alloc | apply pw_below_drewN | apply below_drew1) | exact HB.out)) HO_t111.out); rintro e w' ⟨rfl, ⟨nd, rfl⟩⟩) | (go_at_call 31; (with_reducible refine (dense_Table_Row.calls _ t111 0 t113 _ ?side1 A6.out).mono ?_); (case side1 => first | exact HO_t111.out | exact OB.drewN HO_t111.out _ | exact OB.below (by repeat (first | (with_reducible first | exact HB.out | apply below_alloc | apply pw_below_drewN | apply below_drew1) | exact HB.out)) HO_t111.out); rintro e w39 ⟨v114, rfl, ho0, hb⟩; have n0_ := Aside0.mk (Kd.R_lower ho0 (below_size (by repeat (first | (with_reducible first | exact HB.out | apply below_alloc | apply pw_below_drewN | apply below_drew1) | exact HB.out)))); have n1_ := Aside0.mk (below_step (by repeat (first | (with_reducible first | exact HB.out | apply below_alloc | apply pw_below_drewN | apply below_drew1) | exact HB.out)) hb); clear HB; have HO115 := n0_; have HB := n1_; clear n0_ n1_; (try clear hb); (try clear hb2); (try clear hk); (try clear hi); (try clear ho0)) | ((with_reducible refine gate_dst (N := 21) rfl ?_); (try (refine gate_guard (by rfl) ?_; dsimp only)); refine Kd.R_lit (Kd.int .i64) _ 3 ?hg (N := 21) ?hd (xs := ([0, 1, 2] : List Int)) (inner := [.int .i64 0, .int .i64 1, .int .i64 2]) (ok := fun _ => True) (okp := fun _ => True) ?hr ?hp (fun _ hk => hk) trivial (Below.refl _ _) (Nat.le_refl _) (by simp) ?_; (case hd => rfl); (case hg => rfl); (case hr => first | (go_simp; done) | (go_simp; rfl)); (case hp => exact (Reps.one (show Kd.M (Kd.int .i64) _ _ _ 0 [.int .i64 0] from rfl) (Reps.one (show Kd.M (Kd.int .i64) _ _ _ 1 [.int .i64 1] from rfl) (Reps.one (show Kd.M (Kd.int .i64) _ _ _ 2 [.int .i64 2] from rfl) (Reps.none _ _))))); intro v117 w40 ho41 hb hg_ hnew_; clear hg_ hnew_; (first | rw [← Ny116.out] at ho41 | (simp only [Int.reduceToNat] at ho41; rw [← Ny116.out] at ho41)); have n0_ := Aside0.mk (Kd.R_elder' (by (with_reducible repeat (first | apply Kd.R_alloc | apply Kd.R_drewN | apply Kd.R_drew)); exact HO115.out) (Kd.R_base ho41) hb); have n1_ := Aside0.mk (Kd.R_lower (Kd.R_new' ho41 (Kd.R_lt (by (with_reducible repeat (first | apply Kd.R_alloc | apply Kd.R_drewN | apply Kd.R_drew)); exact HO115.out))) (below_size (by repeat (first | (with_reducible first | exact HB.out | apply below_alloc | apply pw_below_drewN | apply below_drew1) | exact HB.out)))); have n2_ := Aside0.mk (below_step (by repeat (first | (with_reducible first | exact HB.out | apply below_alloc | apply pw_below_drewN | apply below_drew1) | exact HB.out)) hb); clear HO115; clear HB; have HO115 := n0_; have HO118 := n1_; have HB := n2_; clear n0_ n1_ n2_; clear hb ho41; obtain ⟨Ao42, co42, eo42⟩ := Kd.R_slice HO115.out; subst eo42; obtain ⟨Ao43, co43, eo43⟩ := Kd.R_slice HO118.out; subst eo43) | (go_at_call 30; (with_reducible refine (juratref01_Same.calls k _ _ t113 _ _ y116 true _ ?side1 ?side2 ?side3 ?side4 A7.out).mono ?_); (case side1 => repeat (first | exact (Kd.R_reads' HO115.out).2.2 | (with_reducible refine Kd.C_alloc ?_ _) | (with_reducible refine Kd.C_drewN ?_ _) | (with_reducible refine Kd.C_drew ?_))); (case side2 => exact (Kd.R_reads' HO115.out).2.1); (case side3 => repeat (first | exact (Kd.R_reads' HO118.out).2.2 | (with_reducible refine Kd.C_alloc ?_ _) | (with_reducible refine Kd.C_drewN ?_ _) | (with_reducible refine Kd.C_drew ?_))); (case side4 => exact (Kd.R_reads' HO118.out).2.1); rintro e w' ⟨rfl, ⟨nd, rfl⟩⟩) | (go_at_call 31; (with_reducible refine (dense_Table_Row.calls _ t111 1 t120 _ ?side1 A9.out).mono ?_); (case side1 => first | exact HO_t111.out | exact OB.drewN HO_t111.out _ | exact OB.below (by repeat (first | (with_reducible first | exact HB.out | apply below_alloc | apply pw_below_drewN | apply below_drew1) | exact HB.out)) HO_t111.out); rintro e w44 ⟨v121, rfl, ho0, hb⟩; have n0_ := Aside0.mk (Kd.R_elder' (by (with_reducible repeat (first | apply Kd.R_alloc | apply Kd.R_drewN | apply Kd.R_drew)); exact HO115.out) (Kd.R_base ho0) hb); have n1_ := Aside0.mk (Kd.R_elder' (by (with_reducible repeat (first | apply Kd.R_alloc | apply Kd.R_drewN | apply Kd.R_drew)); exact HO118.out) (Kd.R_base ho0) hb); have n2_ := Aside0.mk (Kd.R_lower (Kd.R_new' (Kd.R_new' ho0 (Kd.R_lt (by (with_reducible repeat (first | apply Kd.R_alloc | apply Kd.R_drewN | apply Kd.R_drew)); exact HO115.out))) (Kd.R_lt (by (with_reducible repeat (first | apply Kd.R_alloc | apply Kd.R_drewN | apply Kd.R_drew)); exact HO118.out))) (below_size (by repeat (first | (with_reducible first | exact HB.out | apply below_alloc | apply pw_below_drewN | apply below_drew1) | exact HB.out)))); have n3_ := Aside0.mk (below_step (by repeat (first | (with_reducible first | exact HB.out | apply below_alloc | apply pw_below_drewN | apply below_drew1) | exact HB.out)) hb); clear HO115; clear HO118; clear HB; have HO115 := n0_; have HO118 := n1_; have HO122 := n2_; have HB := n3_; clear n0_ n1_ n2_ n3_; (try clear hb); (try clear hb2); (try clear hk); (try clear hi); (try clear ho0)) | ((with_reducible refine gate_dst (N := 27) rfl ?_); (try (refine gate_guard (by rfl) ?_; dsimp only)); refine Kd.R_lit (Kd.int .i64) _ 3 ?hg (N := 27) ?hd (xs := ([0, 1, 3] : List Int)) (inner := [.int .i64 0, .int .i64 1, .int .i64 3]) (ok := fun _ => True) (okp := fun _ => True) ?hr ?hp (fun _ hk => hk) trivial (Below.refl _ _) (Nat.le_refl _) (by simp) ?_; (case hd => rfl); (case hg => rfl); (case hr => first | (go_simp; done) | (go_simp; rfl)); (case hp => exact (Reps.one (show Kd.M (Kd.int .i64) _ _ _ 0 [.int .i64 0] from rfl) (Reps.one (show Kd.M (Kd.int .i64) _ _ _ 1 [.int .i64 1] from rfl) (Reps.one (show Kd.M (Kd.int .i64) _ _ _ 3 [.int .i64 3] from rfl) (Reps.none _ _))))); intro v124 w45 ho46 hb hg_ hnew_; clear hg_ hnew_; (first | rw [← Ny123.out] at ho46 | (simp only [Int.reduceToNat] at ho46; rw [← Ny123.out] at ho46)); have n0_ := Aside0.mk (Kd.R_elder' (by (with_reducible repeat (first | apply Kd.R_alloc | apply Kd.R_drewN | apply Kd.R_drew)); exact HO115.out) (Kd.R_base ho46) hb); have n1_ := Aside0.mk (Kd.R_elder' (by (with_reducible repeat (first | apply Kd.R_alloc | apply Kd.R_drewN | apply Kd.R_drew)); exact HO118.out) (Kd.R_base ho46) hb); have n2_ := Aside0.mk (Kd.R_elder' (by (with_reducible repeat (first | apply Kd.R_alloc | apply Kd.R_drewN | apply Kd.R_drew)); exact HO122.out) (Kd.R_base ho46) hb); have n3_ := Aside0.mk (Kd.R_lower (Kd.R_new' (Kd.R_new' (Kd.R_new' ho46 (Kd.R_lt (by (with_reducible repeat (first | apply Kd.R_alloc | apply Kd.R_drewN | apply Kd.R_drew)); exact HO115.out))) (Kd.R_lt (by (with_reducible repeat (first | apply Kd.R_alloc | apply Kd.R_drewN | apply Kd.R_drew)); exact HO118.out))) (Kd.R_lt (by (with_reducible repeat (first | apply Kd.R_alloc | apply Kd.R_drewN | apply Kd.R_drew)); exact HO122.out))) (below_size (by repeat (first | (with_reducible first | exact HB.out | apply below_alloc | apply pw_below_drewN | apply below_drew1) | exact HB.out)))); have n4_ := Aside0.mk (below_step (by repeat (first | (with_reducible first | exact HB.out | apply below_alloc | apply pw_below_drewN | apply below_drew1) | exact HB.out)) hb); clear HO115; clear HO118; clear HO122; clear HB; have HO115 := n0_; have HO118 := n1_; have HO122 := n2_; have HO125 := n3_; have HB := n4_; clear n0_ n1_ n2_ n3_ n4_; clear hb ho46; obtain ⟨Ao47, co47, eo47⟩ := Kd.R_slice HO122.out; subst eo47; obtain ⟨Ao48, co48, eo48⟩ := Kd.R_slice HO125.out; subst eo48) | (go_at_call 30; (with_reducible refine (juratref01_Same.calls k _ _ t120 _ _ y123 false _ ?side1 ?side2 ?side3 ?side4 A10.out).mono ?_); (case side1 => repeat (first | exact (Kd.R_reads' HO122.out).2.2 | (with_reducible refine Kd.C_alloc ?_ _) | (with_reducible refine Kd.C_drewN ?_ _) | (with_reducible refine Kd.C_drew ?_))); (case side2 => exact (Kd.R_reads' HO122.out).2.1); (case side3 => repeat (first | exact (Kd.R_reads' HO125.out).2.2 | (with_reducible refine Kd.C_alloc ?_ _) | (with_reducible refine Kd.C_drewN ?_ _) | (with_reducible refine Kd.C_drew ?_))); (case side4 => exact (Kd.R_reads' HO125.out).2.1); rintro e w' ⟨rfl, ⟨nd, rfl⟩⟩))
          go_ret
          exact ⟨by first | rfl | (simp [errW_none, errW_some] <;> rfl) | (simp [*, errW_none, errW_some] <;> rfl), by first | (refine HB00.out.trans (Below.mono ?_ HB00.out.size); (repeat (first | (with_reducible first | exact HB.out | apply below_alloc | apply pw_below_drewN | apply below_drew1) | exact HB.out))) | (repeat (first | (with_reducible first | exact HB.out | apply below_alloc | apply pw_below_drewN | apply below_drew1) | exact HB.out))⟩
      · replace c8 := Bool.eq_false_iff.mpr c8
        subst c8
        have H1 : (some false) = some r := by rw [if_neg (show ¬ (false = true) by decide)] at H; exact H
        clear H
        have H := H1
        clear H1
        obtain rfl := Option.some.inj H
        go_enter Try.func8, Try.ntmps8
        go_wp2_with (first | ((with_reducible refine gate_dst (N := 5) rfl ?_); (try (refine gate_guard (by rfl) ?_; dsimp only)); refine Kd.R_lit Kd.string _ 9 ?hg (N := 5) ?hd (xs := ([(⟨#[97, 98]⟩ : ByteArray), (⟨#[98]⟩ : ByteArray)] : List ByteArray)) (inner := [.string (⟨#[97, 98]⟩ : ByteArray), .string (⟨#[98]⟩ : ByteArray)]) (ok := fun _ => True) (okp := fun _ => True) ?hr ?hp (fun _ hk => hk) trivial (Below.refl _ _) (Nat.le_refl _) (by simp) ?_; (case hd => rfl); (case hg => rfl); (case hr => first | (go_simp; done) | (go_simp; rfl)); (case hp => exact (Reps.one (show Kd.M Kd.string _ _ _ (⟨#[97, 98]⟩ : ByteArray) [.string (⟨#[97, 98]⟩ : ByteArray)] from rfl) (Reps.one (show Kd.M Kd.string _ _ _ (⟨#[98]⟩ : ByteArray) [.string (⟨#[98]⟩ : ByteArray)] from rfl) (Reps.none _ _)))); intro v106 w49 ho50 hb hg_ hnew_; clear hg_ hnew_; (first | rw [← Ny105.out] at ho50 | (simp only [Int.reduceToNat] at ho50; rw [← Ny105.out] at ho50)); have n0_ := Aside0.mk (Kd.R_lower ho50 (below_size (by repeat (first | (with_reducible first | exact HB.out | apply below_alloc | apply pw_below_drewN | apply below_drew1) | exact HB.out)))); have n1_ := Aside0.mk (below_step (by repeat (first | (with_reducible first | exact HB.out | apply below_alloc | apply pw_below_drewN | apply below_drew1) | exact HB.out)) hb); clear HB; have HO107 := n0_; have HB := n1_; clear n0_ n1_; clear hb ho50; obtain ⟨Ao51, co51, eo51⟩ := Kd.R_slice HO107.out; subst eo51) | ((with_reducible refine gate_callee (f := 9) rfl ?_); refine goesL_ (some 6) rfl rfl Try.func9 (by kernel_rfl) rfl #[.slice Ao51 y105.length co51] rfl (by (try simp only [List.map_toArray, List.map_cons, List.map_nil]); first | done | rfl | (simp only [List.length_drop, List.length_take]; rfl)) ?_; (with_reducible refine (pats_New.calls _ _ y105 t108 t109 _ ?side1 ?side2 A1.out).mono ?_); (case side1 => repeat (first | exact (Kd.R_reads' HO107.out).2.2 | (with_reducible refine Kd.C_alloc ?_ _) | (with_reducible refine Kd.C_drewN ?_ _) | (with_reducible refine Kd.C_drew ?_))); (case side2 => exact (Kd.R_reads' HO107.out).2.1); rintro e w52 ⟨Pt108, rfl, hob0, hb⟩; refine ⟨_, rfl, ?_⟩; have hbw_ := below_step (by repeat (first | (with_reducible first | exact HB.out | apply below_alloc | apply pw_below_drewN | apply below_drew1) | exact HB.out)) hb; obtain ⟨Ab110, cb110, eb110_, lb110_, gb110_⟩ := Kd.R_reads (Kd.R_below (by (with_reducible repeat (first | apply Kd.R_alloc | apply Kd.R_drewN | apply Kd.R_drew)); exact HO107.out) hb); (first | subst eb110_ | (injection eb110_ with f1_ f2_ f3_; have f4_ := f1_.symm; have f5_ := f3_.symm; clear f1_ f2_ f3_; subst f4_; subst f5_)); have HRb110 := Aside0.mk gb110_; have HCb110 := Aside0.mk lb110_; clear gb110_ lb110_; (try clear HO107); (try (have n_ := Aside0.mk (Kd.C_below HRb110.out hbw_); clear HRb110; have HRb110 := n_; clear n_)); (try (have n_ := Aside0.mk (OB.below hbw_ HO_t108.out); clear HO_t108; have HO_t108 := n_; clear n_)); (try (have n_ := Aside0.mk (OB.below hbw_ HO_t111.out); clear HO_t111; have HO_t111 := n_; clear n_)); (first | (have n_ := Aside0.mk (HB00.out.trans (hbw_.mono HB00.out.size)); clear HB00; have HB00 := n_; clear n_) | have HB00 := Aside0.mk hbw_); clear HB hb hbw_; have HO_t108 := Aside0.mk hob0; clear hob0; obtain ⟨w, rfl⟩ : ∃ w_ : World, w_ = w52 := ⟨_, rfl⟩; have HB := Aside0.mk (Below.refl w.heap.size w)) | ((with_reducible refine gate_callee (f := 11) rfl ?_); refine goesL_ (some 10) rfl rfl Try.func11 (by kernel_rfl) rfl #[.pointer Pt108] rfl (by (try simp only [List.map_toArray, List.map_cons, List.map_nil]); first | done | rfl | (simp only [List.length_drop, List.length_take]; rfl)) ?_; (with_reducible refine (dense_New.calls _ t108 t111 _ ?side1 A2.out).mono ?_); (case side1 => first | exact HO_t108.out | exact OB.drewN HO_t108.out _ | exact OB.below (by repeat (first | (with_reducible first | exact HB.out | apply below_alloc | apply pw_below_drewN | apply below_drew1) | exact HB.out)) HO_t108.out); rintro e w53 ⟨Pt111, rfl, hob0, hb⟩; refine ⟨_, rfl, ?_⟩; have hbw_ := below_step (by repeat (first | (with_reducible first | exact HB.out | apply below_alloc | apply pw_below_drewN | apply below_drew1) | exact HB.out)) hb; (try (have n_ := Aside0.mk (Kd.C_below HRb110.out hbw_); clear HRb110; have HRb110 := n_; clear n_)); (try (have n_ := Aside0.mk (OB.below hbw_ HO_t108.out); clear HO_t108; have HO_t108 := n_; clear n_)); (try (have n_ := Aside0.mk (OB.below hbw_ HO_t111.out); clear HO_t111; have HO_t111 := n_; clear n_)); (first | (have n_ := Aside0.mk (HB00.out.trans (hbw_.mono HB00.out.size)); clear HB00; have HB00 := n_; clear n_) | have HB00 := Aside0.mk hbw_); clear HB hb hbw_; have HO_t111 := Aside0.mk hob0; clear hob0; obtain ⟨w, rfl⟩ : ∃ w_ : World, w_ = w53 := ⟨_, rfl⟩; have HB := Aside0.mk (Below.refl w.heap.size w)) | (go_at_call 25; (with_reducible refine (dense_Table_Len.calls _ t111 t112 _ ?side1 A4.out).mono ?_); (case side1 => first | exact HO_t111.out | exact OB.drewN HO_t111.out _ | exact OB.below (by repeat (first | (with_reducible first | exact HB.out | apply below_alloc | apply pw_below_drewN | apply below_drew1) | exact HB.out)) HO_t111.out); rintro e w' ⟨rfl, ⟨nd, rfl⟩⟩) | (go_at_call 31; (with_reducible refine (dense_Table_Row.calls _ t111 0 t113 _ ?side1 A6.out).mono ?_); (case side1 => first | exact HO_t111.out | exact OB.drewN HO_t111.out _ | exact OB.below (by repeat (first | (with_reducible first | exact HB.out | apply below_alloc | apply pw_below_drewN | apply below_drew1) | exact HB.out)) HO_t111.out); rintro e w54 ⟨v114, rfl, ho0, hb⟩; have n0_ := Aside0.mk (Kd.R_lower ho0 (below_size (by repeat (first | (with_reducible first | exact HB.out | apply below_alloc | apply pw_below_drewN | apply below_drew1) | exact HB.out)))); have n1_ := Aside0.mk (below_step (by repeat (first | (with_reducible first | exact HB.out | apply below_alloc | apply pw_below_drewN | apply below_drew1) | exact HB.out)) hb); clear HB; have HO115 := n0_; have HB := n1_; clear n0_ n1_; (try clear hb); (try clear hb2); (try clear hk); (try clear hi); (try clear ho0)) | ((with_reducible refine gate_dst (N := 21) rfl ?_); (try (refine gate_guard (by rfl) ?_; dsimp only)); refine Kd.R_lit (Kd.int .i64) _ 3 ?hg (N := 21) ?hd (xs := ([0, 1, 2] : List Int)) (inner := [.int .i64 0, .int .i64 1, .int .i64 2]) (ok := fun _ => True) (okp := fun _ => True) ?hr ?hp (fun _ hk => hk) trivial (Below.refl _ _) (Nat.le_refl _) (by simp) ?_; (case hd => rfl); (case hg => rfl); (case hr => first | (go_simp; done) | (go_simp; rfl)); (case hp => exact (Reps.one (show Kd.M (Kd.int .i64) _ _ _ 0 [.int .i64 0] from rfl) (Reps.one (show Kd.M (Kd.int .i64) _ _ _ 1 [.int .i64 1] from rfl) (Reps.one (show Kd.M (Kd.int .i64) _ _ _ 2 [.int .i64 2] from rfl) (Reps.none _ _))))); intro v117 w55 ho56 hb hg_ hnew_; clear hg_ hnew_; (first | rw [← Ny116.out] at ho56 | (simp only [Int.reduceToNat] at ho56; rw [← Ny116.out] at ho56)); have n0_ := Aside0.mk (Kd.R_elder' (by (with_reducible repeat (first | apply Kd.R_alloc | apply Kd.R_drewN | apply Kd.R_drew)); exact HO115.out) (Kd.R_base ho56) hb); have n1_ := Aside0.mk (Kd.R_lower (Kd.R_new' ho56 (Kd.R_lt (by (with_reducible repeat (first | apply Kd.R_alloc | apply Kd.R_drewN | apply Kd.R_drew)); exact HO115.out))) (below_size (by repeat (first | (with_reducible first | exact HB.out | apply below_alloc | apply pw_below_drewN | apply below_drew1) | exact HB.out)))); have n2_ := Aside0.mk (below_step (by repeat (first | (with_reducible first | exact HB.out | apply below_alloc | apply pw_below_drewN | apply below_drew1) | exact HB.out)) hb); clear HO115; clear HB; have HO115 := n0_; have HO118 := n1_; have HB := n2_; clear n0_ n1_ n2_; clear hb ho56; obtain ⟨Ao57, co57, eo57⟩ := Kd.R_slice HO115.out; subst eo57; obtain ⟨Ao58, co58, eo58⟩ := Kd.R_slice HO118.out; subst eo58) | (go_at_call 30; (with_reducible refine (juratref01_Same.calls k _ _ t113 _ _ y116 false _ ?side1 ?side2 ?side3 ?side4 A7.out).mono ?_); (case side1 => repeat (first | exact (Kd.R_reads' HO115.out).2.2 | (with_reducible refine Kd.C_alloc ?_ _) | (with_reducible refine Kd.C_drewN ?_ _) | (with_reducible refine Kd.C_drew ?_))); (case side2 => exact (Kd.R_reads' HO115.out).2.1); (case side3 => repeat (first | exact (Kd.R_reads' HO118.out).2.2 | (with_reducible refine Kd.C_alloc ?_ _) | (with_reducible refine Kd.C_drewN ?_ _) | (with_reducible refine Kd.C_drew ?_))); (case side4 => exact (Kd.R_reads' HO118.out).2.1); rintro e w' ⟨rfl, ⟨nd, rfl⟩⟩))
        go_ret
        exact ⟨by first | rfl | (simp [errW_none, errW_some] <;> rfl) | (simp [*, errW_none, errW_some] <;> rfl), by first | (refine HB00.out.trans (Below.mono ?_ HB00.out.size); (repeat (first | (with_reducible first | exact HB.out | apply below_alloc | apply pw_below_drewN | apply below_drew1) | exact HB.out))) | (repeat (first | (with_reducible first | exact HB.out | apply below_alloc | apply pw_below_drewN | apply below_drew1) | exact HB.out))⟩
    · rw [if_neg c5] at H
      have c5b0 : (t112 == 4) = false := beq_eq_false_iff_ne.mpr c5
      have c5b1 : (t112 != 4) = true := bne_iff_ne.mpr c5
      obtain rfl := Option.some.inj H
      go_enter Try.func8, Try.ntmps8
      go_wp2_with (first | ((with_reducible refine gate_dst (N := 5) rfl ?_); (try (refine gate_guard (by rfl) ?_; dsimp only)); refine Kd.R_lit Kd.string _ 9 ?hg (N := 5) ?hd (xs := ([(⟨#[97, 98]⟩ : ByteArray), (⟨#[98]⟩ : ByteArray)] : List ByteArray)) (inner := [.string (⟨#[97, 98]⟩ : ByteArray), .string (⟨#[98]⟩ : ByteArray)]) (ok := fun _ => True) (okp := fun _ => True) ?hr ?hp (fun _ hk => hk) trivial (Below.refl _ _) (Nat.le_refl _) (by simp) ?_; (case hd => rfl); (case hg => rfl); (case hr => first | (go_simp; done) | (go_simp; rfl)); (case hp => exact (Reps.one (show Kd.M Kd.string _ _ _ (⟨#[97, 98]⟩ : ByteArray) [.string (⟨#[97, 98]⟩ : ByteArray)] from rfl) (Reps.one (show Kd.M Kd.string _ _ _ (⟨#[98]⟩ : ByteArray) [.string (⟨#[98]⟩ : ByteArray)] from rfl) (Reps.none _ _)))); intro v106 w59 ho60 hb hg_ hnew_; clear hg_ hnew_; (first | rw [← Ny105.out] at ho60 | (simp only [Int.reduceToNat] at ho60; rw [← Ny105.out] at ho60)); have n0_ := Aside0.mk (Kd.R_lower ho60 (below_size (by repeat (first | (with_reducible first | exact HB.out | apply below_alloc | apply pw_below_drewN | apply below_drew1) | exact HB.out)))); have n1_ := Aside0.mk (below_step (by repeat (first | (with_reducible first | exact HB.out | apply below_alloc | apply pw_below_drewN | apply below_drew1) | exact HB.out)) hb); clear HB; have HO107 := n0_; have HB := n1_; clear n0_ n1_; clear hb ho60; obtain ⟨Ao61, co61, eo61⟩ := Kd.R_slice HO107.out; subst eo61) | ((with_reducible refine gate_callee (f := 9) rfl ?_); refine goesL_ (some 6) rfl rfl Try.func9 (by kernel_rfl) rfl #[.slice Ao61 y105.length co61] rfl (by (try simp only [List.map_toArray, List.map_cons, List.map_nil]); first | done | rfl | (simp only [List.length_drop, List.length_take]; rfl)) ?_; (with_reducible refine (pats_New.calls _ _ y105 t108 t109 _ ?side1 ?side2 A1.out).mono ?_); (case side1 => repeat (first | exact (Kd.R_reads' HO107.out).2.2 | (with_reducible refine Kd.C_alloc ?_ _) | (with_reducible refine Kd.C_drewN ?_ _) | (with_reducible refine Kd.C_drew ?_))); (case side2 => exact (Kd.R_reads' HO107.out).2.1); rintro e w62 ⟨Pt108, rfl, hob0, hb⟩; refine ⟨_, rfl, ?_⟩; have hbw_ := below_step (by repeat (first | (with_reducible first | exact HB.out | apply below_alloc | apply pw_below_drewN | apply below_drew1) | exact HB.out)) hb; obtain ⟨Ab110, cb110, eb110_, lb110_, gb110_⟩ := Kd.R_reads (Kd.R_below (by (with_reducible repeat (first | apply Kd.R_alloc | apply Kd.R_drewN | apply Kd.R_drew)); exact HO107.out) hb); (first | subst eb110_ | (injection eb110_ with f1_ f2_ f3_; have f4_ := f1_.symm; have f5_ := f3_.symm; clear f1_ f2_ f3_; subst f4_; subst f5_)); have HRb110 := Aside0.mk gb110_; have HCb110 := Aside0.mk lb110_; clear gb110_ lb110_; (try clear HO107); (try (have n_ := Aside0.mk (Kd.C_below HRb110.out hbw_); clear HRb110; have HRb110 := n_; clear n_)); (try (have n_ := Aside0.mk (OB.below hbw_ HO_t108.out); clear HO_t108; have HO_t108 := n_; clear n_)); (try (have n_ := Aside0.mk (OB.below hbw_ HO_t111.out); clear HO_t111; have HO_t111 := n_; clear n_)); (first | (have n_ := Aside0.mk (HB00.out.trans (hbw_.mono HB00.out.size)); clear HB00; have HB00 := n_; clear n_) | have HB00 := Aside0.mk hbw_); clear HB hb hbw_; have HO_t108 := Aside0.mk hob0; clear hob0; obtain ⟨w, rfl⟩ : ∃ w_ : World, w_ = w62 := ⟨_, rfl⟩; have HB := Aside0.mk (Below.refl w.heap.size w)) | ((with_reducible refine gate_callee (f := 11) rfl ?_); refine goesL_ (some 10) rfl rfl Try.func11 (by kernel_rfl) rfl #[.pointer Pt108] rfl (by (try simp only [List.map_toArray, List.map_cons, List.map_nil]); first | done | rfl | (simp only [List.length_drop, List.length_take]; rfl)) ?_; (with_reducible refine (dense_New.calls _ t108 t111 _ ?side1 A2.out).mono ?_); (case side1 => first | exact HO_t108.out | exact OB.drewN HO_t108.out _ | exact OB.below (by repeat (first | (with_reducible first | exact HB.out | apply below_alloc | apply pw_below_drewN | apply below_drew1) | exact HB.out)) HO_t108.out); rintro e w63 ⟨Pt111, rfl, hob0, hb⟩; refine ⟨_, rfl, ?_⟩; have hbw_ := below_step (by repeat (first | (with_reducible first | exact HB.out | apply below_alloc | apply pw_below_drewN | apply below_drew1) | exact HB.out)) hb; (try (have n_ := Aside0.mk (Kd.C_below HRb110.out hbw_); clear HRb110; have HRb110 := n_; clear n_)); (try (have n_ := Aside0.mk (OB.below hbw_ HO_t108.out); clear HO_t108; have HO_t108 := n_; clear n_)); (try (have n_ := Aside0.mk (OB.below hbw_ HO_t111.out); clear HO_t111; have HO_t111 := n_; clear n_)); (first | (have n_ := Aside0.mk (HB00.out.trans (hbw_.mono HB00.out.size)); clear HB00; have HB00 := n_; clear n_) | have HB00 := Aside0.mk hbw_); clear HB hb hbw_; have HO_t111 := Aside0.mk hob0; clear hob0; obtain ⟨w, rfl⟩ : ∃ w_ : World, w_ = w63 := ⟨_, rfl⟩; have HB := Aside0.mk (Below.refl w.heap.size w)) | (go_at_call 25; (with_reducible refine (dense_Table_Len.calls _ t111 t112 _ ?side1 A4.out).mono ?_); (case side1 => first | exact HO_t111.out | exact OB.drewN HO_t111.out _ | exact OB.below (by repeat (first | (with_reducible first | exact HB.out | apply below_alloc | apply pw_below_drewN | apply below_drew1) | exact HB.out)) HO_t111.out); rintro e w' ⟨rfl, ⟨nd, rfl⟩⟩))
      go_ret
      exact ⟨by first | rfl | (simp [errW_none, errW_some] <;> rfl) | (simp [*, errW_none, errW_some] <;> rfl), by first | (refine HB00.out.trans (Below.mono ?_ HB00.out.size); (repeat (first | (with_reducible first | exact HB.out | apply below_alloc | apply pw_below_drewN | apply below_drew1) | exact HB.out))) | (repeat (first | (with_reducible first | exact HB.out | apply below_alloc | apply pw_below_drewN | apply below_drew1) | exact HB.out))⟩
  · rw [if_neg c3] at H
    have c3b0 : (t109 == 0) = false := beq_eq_false_iff_ne.mpr c3
    have c3b1 : (t109 != 0) = true := bne_iff_ne.mpr c3
    obtain rfl := Option.some.inj H
    go_enter Try.func8, Try.ntmps8
    go_wp2_with (first | ((with_reducible refine gate_dst (N := 5) rfl ?_); (try (refine gate_guard (by rfl) ?_; dsimp only)); refine Kd.R_lit Kd.string _ 9 ?hg (N := 5) ?hd (xs := ([(⟨#[97, 98]⟩ : ByteArray), (⟨#[98]⟩ : ByteArray)] : List ByteArray)) (inner := [.string (⟨#[97, 98]⟩ : ByteArray), .string (⟨#[98]⟩ : ByteArray)]) (ok := fun _ => True) (okp := fun _ => True) ?hr ?hp (fun _ hk => hk) trivial (Below.refl _ _) (Nat.le_refl _) (by simp) ?_; (case hd => rfl); (case hg => rfl); (case hr => first | (go_simp; done) | (go_simp; rfl)); (case hp => exact (Reps.one (show Kd.M Kd.string _ _ _ (⟨#[97, 98]⟩ : ByteArray) [.string (⟨#[97, 98]⟩ : ByteArray)] from rfl) (Reps.one (show Kd.M Kd.string _ _ _ (⟨#[98]⟩ : ByteArray) [.string (⟨#[98]⟩ : ByteArray)] from rfl) (Reps.none _ _)))); intro v106 w64 ho65 hb hg_ hnew_; clear hg_ hnew_; (first | rw [← Ny105.out] at ho65 | (simp only [Int.reduceToNat] at ho65; rw [← Ny105.out] at ho65)); have n0_ := Aside0.mk (Kd.R_lower ho65 (below_size (by repeat (first | (with_reducible first | exact HB.out | apply below_alloc | apply pw_below_drewN | apply below_drew1) | exact HB.out)))); have n1_ := Aside0.mk (below_step (by repeat (first | (with_reducible first | exact HB.out | apply below_alloc | apply pw_below_drewN | apply below_drew1) | exact HB.out)) hb); clear HB; have HO107 := n0_; have HB := n1_; clear n0_ n1_; clear hb ho65; obtain ⟨Ao66, co66, eo66⟩ := Kd.R_slice HO107.out; subst eo66) | ((with_reducible refine gate_callee (f := 9) rfl ?_); refine goesL_ (some 6) rfl rfl Try.func9 (by kernel_rfl) rfl #[.slice Ao66 y105.length co66] rfl (by (try simp only [List.map_toArray, List.map_cons, List.map_nil]); first | done | rfl | (simp only [List.length_drop, List.length_take]; rfl)) ?_; (with_reducible refine (pats_New.calls _ _ y105 t108 t109 _ ?side1 ?side2 A1.out).mono ?_); (case side1 => repeat (first | exact (Kd.R_reads' HO107.out).2.2 | (with_reducible refine Kd.C_alloc ?_ _) | (with_reducible refine Kd.C_drewN ?_ _) | (with_reducible refine Kd.C_drew ?_))); (case side2 => exact (Kd.R_reads' HO107.out).2.1); rintro e w67 ⟨Pt108, rfl, hob0, hb⟩; refine ⟨_, rfl, ?_⟩; have hbw_ := below_step (by repeat (first | (with_reducible first | exact HB.out | apply below_alloc | apply pw_below_drewN | apply below_drew1) | exact HB.out)) hb; obtain ⟨Ab110, cb110, eb110_, lb110_, gb110_⟩ := Kd.R_reads (Kd.R_below (by (with_reducible repeat (first | apply Kd.R_alloc | apply Kd.R_drewN | apply Kd.R_drew)); exact HO107.out) hb); (first | subst eb110_ | (injection eb110_ with f1_ f2_ f3_; have f4_ := f1_.symm; have f5_ := f3_.symm; clear f1_ f2_ f3_; subst f4_; subst f5_)); have HRb110 := Aside0.mk gb110_; have HCb110 := Aside0.mk lb110_; clear gb110_ lb110_; (try clear HO107); (try (have n_ := Aside0.mk (Kd.C_below HRb110.out hbw_); clear HRb110; have HRb110 := n_; clear n_)); (try (have n_ := Aside0.mk (OB.below hbw_ HO_t108.out); clear HO_t108; have HO_t108 := n_; clear n_)); (try (have n_ := Aside0.mk (OB.below hbw_ HO_t111.out); clear HO_t111; have HO_t111 := n_; clear n_)); (first | (have n_ := Aside0.mk (HB00.out.trans (hbw_.mono HB00.out.size)); clear HB00; have HB00 := n_; clear n_) | have HB00 := Aside0.mk hbw_); clear HB hb hbw_; have HO_t108 := Aside0.mk hob0; clear hob0; obtain ⟨w, rfl⟩ : ∃ w_ : World, w_ = w67 := ⟨_, rfl⟩; have HB := Aside0.mk (Below.refl w.heap.size w)) | ((with_reducible refine gate_callee (f := 11) rfl ?_); refine goesL_ (some 10) rfl rfl Try.func11 (by kernel_rfl) rfl #[.pointer Pt108] rfl (by (try simp only [List.map_toArray, List.map_cons, List.map_nil]); first | done | rfl | (simp only [List.length_drop, List.length_take]; rfl)) ?_; (with_reducible refine (dense_New.calls _ t108 t111 _ ?side1 A2.out).mono ?_); (case side1 => first | exact HO_t108.out | exact OB.drewN HO_t108.out _ | exact OB.below (by repeat (first | (with_reducible first | exact HB.out | apply below_alloc | apply pw_below_drewN | apply below_drew1) | exact HB.out)) HO_t108.out); rintro e w68 ⟨Pt111, rfl, hob0, hb⟩; refine ⟨_, rfl, ?_⟩; have hbw_ := below_step (by repeat (first | (with_reducible first | exact HB.out | apply below_alloc | apply pw_below_drewN | apply below_drew1) | exact HB.out)) hb; (try (have n_ := Aside0.mk (Kd.C_below HRb110.out hbw_); clear HRb110; have HRb110 := n_; clear n_)); (try (have n_ := Aside0.mk (OB.below hbw_ HO_t108.out); clear HO_t108; have HO_t108 := n_; clear n_)); (try (have n_ := Aside0.mk (OB.below hbw_ HO_t111.out); clear HO_t111; have HO_t111 := n_; clear n_)); (first | (have n_ := Aside0.mk (HB00.out.trans (hbw_.mono HB00.out.size)); clear HB00; have HB00 := n_; clear n_) | have HB00 := Aside0.mk hbw_); clear HB hb hbw_; have HO_t111 := Aside0.mk hob0; clear hob0; obtain ⟨w, rfl⟩ : ∃ w_ : World, w_ = w68 := ⟨_, rfl⟩; have HB := Aside0.mk (Below.refl w.heap.size w)))
    go_ret
    exact ⟨by first | rfl | (simp [errW_none, errW_some] <;> rfl) | (simp [*, errW_none, errW_some] <;> rfl), by first | (refine HB00.out.trans (Below.mono ?_ HB00.out.size); (repeat (first | (with_reducible first | exact HB.out | apply below_alloc | apply pw_below_drewN | apply below_drew1) | exact HB.out))) | (repeat (first | (with_reducible first | exact HB.out | apply below_alloc | apply pw_below_drewN | apply below_drew1) | exact HB.out))⟩

end Go.Proofs.Ytbkcjeopcjghgaa.P

/- Layer 19's example; the table of a set; no condition beyond the sizes that stand in each statement. -/
namespace Go.Proofs.Ytbkcjeopcjghgaa.Base
open Go Go.RowKit Go.Proofs.YtbkcjeopcjghgaaW.PrintWords Go.Proofs.YtbkcjeopcjghgaaW.PrintMore Go.Proofs.Ytbkcjeopcjghgaa.P
set_option linter.unusedVariables false

abbrev l19 : List ByteArray := [(⟨#[97, 98]⟩ : ByteArray), (⟨#[98]⟩ : ByteArray)]
theorem new19 : pats_New.f l19 = some (some ⟨l19, 1, 2, 3⟩, 0) := by
  have hs : sortB l19 = l19 := (sortB_of (List.Perm.refl _) (by decide)).symm
  unfold pats_New.f
  rw [hs]
  rfl
theorem okT_19 : okT l19 := ⟨⟨by decide, by decide⟩, by decide, fun s hs => by
    simp only [List.mem_cons, List.not_mem_nil, or_false] at hs
    rcases hs with rfl | rfl <;> decide, by decide⟩
/-- The table of a list. -/
abbrev denD (w : List ByteArray) : DenseD := ⟨classD w, denseT w, widN w, (trN w).length⟩
theorem dense19 : dense_New.f (some ⟨l19, 1, 2, 3⟩) = some (some (denD l19)) := if_pos okT_19
theorem row19 (s : Int) (r : List Int) (h0 : dnIs (some (denD l19)) s = true) (h1 : dnOk (denD l19) s.toNat) (h2 : dnRow (denD l19) s.toNat = r) (h3 : ∀ y ∈ r, 0 ≤ y ∧ y ≤ 2147483647) (h4 : widN l19 ≤ 1099511627776) : dense_Table_Row.f (some (denD l19)) s = some r := by
  unfold dense_Table_Row.f
  rw [if_pos h0]
  show (if dnOk (denD l19) s.toNat ∧ (∀ y ∈ dnRow (denD l19) s.toNat, 0 ≤ y ∧ y ≤ 2147483647) ∧ widN l19 ≤ 1099511627776 then some (dnRow (denD l19) s.toNat) else none) = _
  rw [h2, if_pos ⟨h1, h3, h4⟩]
theorem awake19 : Ev (fun k => juratlaw19_awake.f k) true := by
  have hw : widN l19 ≤ 1099511627776 := by decide +kernel
  have r0 : dense_Table_Row.f (some (denD l19)) 0 = some [0, 1, 2] := row19 _ _ (by decide +kernel) (by decide +kernel) (by decide +kernel) (by decide) hw
  have r1 : dense_Table_Row.f (some (denD l19)) 1 = some [0, 1, 3] := row19 _ _ (by decide +kernel) (by decide +kernel) (by decide +kernel) (by decide) hw
  have r3 : dense_Table_Row.f (some (denD l19)) 3 = some [0, 1, 2] := row19 _ _ (by decide +kernel) (by decide +kernel) (by decide +kernel) (by decide) hw
  have hl : dense_Table_Len.f (some (denD l19)) = some 4 := by decide +kernel
  refine Ev.congr (f := fun k => (juratref01_Same.f k [0, 1, 2] [0, 1, 2]).bind fun t => (if t = true then ((juratref01_Same.f k [0, 1, 3] [0, 1, 3]).bind fun u => (if u = true then ((juratref01_Same.f k [0, 1, 2] [0, 1, 2]).bind fun v => some v) else some false)) else some false)) (fun k => ?_) ?_
  · unfold juratlaw19_awake.f
    rw [new19, Option.bind_some, dense19, Option.bind_some, if_pos rfl, hl, Option.bind_some, if_pos rfl, r0, Option.bind_some, r1, Option.bind_some, r3, Option.bind_some]
  · refine Ev.bind (same1 _ _ (by decide)) (Ev.congr (fun k => if_pos (by decide)) (Ev.bind (same1 _ _ (by decide)) (Ev.congr (fun k => if_pos (by decide)) (Ev.bind (same1 _ _ (by decide)) (Ev.now true)))))
end Go.Proofs.Ytbkcjeopcjghgaa.Base

/- What the table of a list tells; no condition beyond the sizes that stand in each statement. -/
namespace Go.Proofs.Ytbkcjeopcjghgaa.Base
open Go Go.RowKit Go.Proofs.YtbkcjeopcjghgaaW.PrintWords Go.Proofs.YtbkcjeopcjghgaaW.PrintMore Go.Proofs.Ytbkcjeopcjghgaa.P
set_option linter.unusedVariables false

theorem dense_ok {l w : List ByteArray} {x : Option SetD} {e : Int} (h : SetOk l x w e) (hz : sizes w ≤ 16777216) : dense_New.f x = some (some (denD w)) ∧ okT w := by
  obtain ⟨_, ok⟩ := trie_ok h hz
  refine ⟨?_, ok⟩
  unfold dense_New.f
  rw [h.hL, if_pos ok]
theorem foreign_step {w : List ByteArray} (hs : srt w) {c : UInt8} (h : ¬ markB w c.toNat = true) : ∀ p : List UInt8, idxP w (stepP w p c) = 0 := by
  have key : ∀ p : List UInt8, ¬ idxP w (p ++ [c]) ≥ 0 := fun p hp => h ((clN_pos w c).1 (kid_mark hs hp))
  have k2 : ∀ p : List UInt8, lsufx w (p ++ [c]) = [] := by
    intro p
    induction p with
    | nil => exact lsufx_not (key [])
    | cons a p ih =>
      have h1 := key (a :: p)
      rw [List.cons_append] at h1 ⊢
      rw [lsufx_not h1]
      exact ih
  intro p
  unfold stepP
  rw [k2 p, idx_nil hs]
theorem rowL_at {w : List ByteArray} (hs : srt w) (p : List UInt8) (c : UInt8) : (rowL w p).getD (clN w c) 0 = idxP w (stepP w p c) := by
  by_cases h : markB w c.toNat = true
  · have hp := (clN_pos w c).2 h
    have hlt := clN_lt w c
    have hb := clBytes_length w
    obtain ⟨j, hj⟩ : ∃ j, clN w c = j + 1 := ⟨clN w c - 1, by omega⟩
    have hjl : j < (clBytes w).length := by omega
    have e1 := clBytes_at w hjl
    have e2 : (clBytes w).getD j 0 = c := clN_inj w (by omega) (by omega)
    have e3 : (rowL w p)[j + 1]? = some (idxP w (stepP w p ((clBytes w).getD j 0))) := by
      show ((clBytes w).map fun b => idxP w (stepP w p b))[j]? = _
      rw [List.getElem?_map, List.getD_eq_getElem?_getD, List.getElem?_eq_getElem hjl]
      rfl
    rw [hj, List.getD_eq_getElem?_getD, e3, e2]
    rfl
  · have h0 : clN w c = 0 := by
      rcases Nat.eq_zero_or_pos (clN w c) with h1 | h1
      · exact h1
      · exact absurd ((clN_pos w c).1 h1) h
    rw [h0, foreign_step hs h]
    rfl
theorem idx_bound {w : List ByteArray} (hs : srt w) (hz : sizes w ≤ 16777216) {p : List UInt8} (h : idxP w p ≥ 0) : ∃ (i : Nat) (n : NodeD), (trN w)[i]? = some n ∧ n.path = p ∧ idxP w p = (i : Int) ∧ i < (trN w).length ∧ i ≤ 16777217 := by
  obtain ⟨i, n, h1, h2, h3⟩ := idx_node hs h
  have h4 := (List.getElem?_eq_some_iff.1 h1).1
  have h5 := trN_le hs
  unfold trK at h5
  exact ⟨i, n, h1, h2, h3, h4, by omega⟩
theorem dstep_ok {w : List ByteArray} (ok : okT w) {i : Nat} {n : NodeD} (h : (trN w)[i]? = some n) (c : UInt8) : dense_Table_Step.f (some (denD w)) (i : Int) (c.toNat : Int) = some (idxP w (stepP w n.path c)) := by
  have hs := srt_of ok.1
  have hz := ok.2.2.2
  have hi : i < (trN w).length := (List.getElem?_eq_some_iff.1 h).1
  have hl := trN_le hs
  unfold trK at hl
  have hw1 := widN_le w
  have hw0 := wid_pos w
  have hcl := clN_lt w c
  have k1 : (i + 1) * widN w ≤ (trN w).length * widN w := Nat.mul_le_mul_right _ hi
  have k2 : (trN w).length * widN w ≤ 16777217 * 257 := Nat.mul_le_mul (by omega) hw1
  unfold dense_Table_Step.f
  have e0 : dnIs (some (denD w)) (i : Int) = true := decide_eq_true ⟨by omega, by show (i : Int) < (((trN w).length : Nat) : Int); omega⟩
  rw [if_pos e0]
  have e1 : class_Classes_Of.f (some (denD w).cls) (c.toNat : Int) = some (clN w c : Int) := clN_is w c
  simp only
  rw [e1]
  simp only [Int.toNat_natCast]
  have eT : dnAt (denD w) i (clN w c) = idxP w (stepP w n.path c) := by
    have r2 := flat_get (widN w) (fun n => rowL w n.path) (fun n => rowL_length w _) (trN w) i n h
    have a2 := take_at (T := denseT w) (s := i) hcl
    have r2' : ((denseT w).drop (i * widN w)).take (widN w) = rowL w n.path := r2
    rw [r2'] at a2
    have e3 : dnAt (denD w) i (clN w c) = rowAt (denseT w) (widN w) i (clN w c) := by
      show (denseT w).getD ((i * widN w + clN w c : Nat) : Int).toNat 0 = _
      rw [Int.toNat_natCast]
      rfl
    rw [e3, ← a2]
    exact rowL_at hs n.path c
  obtain ⟨j, m, g1, g2, g3, g4, g5⟩ := idx_bound hs hz (lsufx_is hs (n.path ++ [c]))
  have e4 : idxP w (stepP w n.path c) = (j : Int) := g3
  rw [eT, if_pos ⟨⟨hw0, by show widN w ≤ _; omega, by show (i + 1) * widN w ≤ (denseT w).length; rw [denseT_length]; exact k1, by show (denseT w).length ≤ _; rw [denseT_length]; omega, by omega⟩, ⟨by omega, by show ((clN w c : Nat) : Int) < ((widN w : Nat) : Int); omega⟩, by rw [e4]; omega, by rw [e4]; omega⟩]
end Go.Proofs.Ytbkcjeopcjghgaa.Base

/- Proved here: what Go functions of this seat compute, or a law of it; no condition beyond the statement's own. Written for this claim by a program of this session (wip/myprint.py) over the kit's print.py. -/
namespace Go.Proofs.Ytbkcjeopcjghgaa.P
open Go.RowKit Go.Proofs.YtbkcjeopcjghgaaW.PrintWords Go.Proofs.YtbkcjeopcjghgaaW.PrintLast Go.Proofs.YtbkcjeopcjghgaaW.PrintMore
attribute [local go_sem] max2_int min2_int max_two min_two max_three min_three max_four min_four   -- for this text's walks alone
set_option linter.unusedVariables false
set_option linter.unusedSimpArgs false

/-! ### juratref17_Longest: function 14 -/
def juratref17_Longest.l0 : Nat → List ByteArray → ByteArray → Int → Int → Option (Int)
  | 0, _, _, _, _ => none
  | k + 1, x0, x1, x2, x7 => if x7 ≥ 0 then (if x7 > x2 then (juratref17_Longest.l0 k x0 x1 x2 (wrap64 (x7 - 1))) else (if 0 ≤ (wrap64 ((x1.size : Int) - x7)) then (if (wrap64 ((x1.size : Int) - x7)) ≤ (x1.size : Int) then ((juratref16_Find.f k x0 (x1.extract ((wrap64 ((x1.size : Int) - x7)) : Int).toNat x1.size)).bind fun t203 => (if t203 ≥ 0 then (some t203) else (juratref17_Longest.l0 k x0 x1 x2 (wrap64 (x7 - 1))))) else (none)) else (none))) else (some 0)
def juratref17_Longest.f (k : Nat) (l0 : List ByteArray) (a1 : ByteArray) (a2 : Int) : Option (Int) := juratref17_Longest.l0 k l0 a1 a2 (a1.size : Int)
theorem juratref17_Longest.mono_l : ∀ k, (∀ y0 y1 y2 y3, LeO (juratref17_Longest.l0 k y0 y1 y2 y3) (juratref17_Longest.l0 (k + 1) y0 y1 y2 y3))
  | 0 => fun _ _ _ _ r h => by simp [juratref17_Longest.l0] at h
  | k + 1 => by
    have ih0 := juratref17_Longest.mono_l k
    · intro y0 y1 y2 y3
      unfold juratref17_Longest.l0
      repeat' first
      | (with_reducible exact ih0 _ _ _ _)
      | (with_reducible exact juratref16_Find.mono _ _ _)
      | (with_reducible exact LeO.refl _)
      | (with_reducible exact LeO.none _)
      | (with_reducible refine LeO.ite ?_ ?_)
      | (with_reducible refine LeO.bind ?_ (fun _ => ?_))
      | exact ih0 _ _ _ _
      | exact juratref16_Find.mono _ _ _
      | exact LeO.none _
      | refine LeO.ite ?_ ?_
      | refine LeO.bind ?_ (fun _ => ?_)
theorem juratref17_Longest.mono : ∀ a0 a1 a2 k, LeO (juratref17_Longest.f k a0 a1 a2) (juratref17_Longest.f (k + 1) a0 a1 a2) := by
  intro a0 a1 a2 k
  have ih0 := juratref17_Longest.mono_l k
  unfold juratref17_Longest.f
  repeat' first
      | (with_reducible exact ih0 _ _ _ _)
      | (with_reducible exact juratref16_Find.mono _ _ _)
      | (with_reducible exact LeO.refl _)
      | (with_reducible exact LeO.none _)
      | (with_reducible refine LeO.ite ?_ ?_)
      | (with_reducible refine LeO.bind ?_ (fun _ => ?_))
      | exact ih0 _ _ _ _
      | exact juratref16_Find.mono _ _ _
      | exact LeO.none _
      | refine LeO.ite ?_ ?_
      | refine LeO.bind ?_ (fun _ => ?_)
set_option maxHeartbeats 8000000 in
set_option maxRecDepth 100000 in
theorem juratref17_Longest.calls (k : Nat) (A0 : Option Addr) (c0 : Nat) (l0 : List ByteArray) (a1 : ByteArray) (a2 : Int) (r : Int) (w : World) (hr0 : Kd.C Kd.string w A0 l0.length l0) (hc0 : l0.length ≤ c0) (h : juratref17_Longest.f k l0 a1 a2 = some r) :
    Calls Try.prog 14 #[.slice A0 l0.length c0, .string a1, .int .i64 a2] w fun e w' => e = .returned (.int .i64 r) ∧ Drawn0 w w' := by
  have HR0 := Aside0.mk hr0
  have HC0 := Aside0.mk hc0
  clear hr0 hc0
  have H : (juratref17_Longest.l0 k l0 a1 a2 (a1.size : Int)) = some r := h
  clear h
  have H' := Aside0.mk H
  clear H
  go_enter Try.func14, Try.ntmps14
  go_wp2
  go_loopg [7] k (fun kq v7 w' => ∃ (x7_1 : Int), v7 = .int .i64 x7_1 ∧ Aside0 (juratref17_Longest.l0 kq l0 a1 a2 x7_1 = some r) ∧ Aside0 (kq ≤ k) ∧ Drawn0 w w')
  case atStart => exact ⟨((a1.size : Int)), (by first | rfl | exact isE_ _ | exact isE2_ _ | (simp; done) | (simp [*]; done)), H', ⟨Nat.le_refl _⟩, by repeat (first | exact Drawn0.refl _ | apply Drawn0.step)⟩
  case round =>
    clear H'
    try clear c1
    try clear p2
    obtain ⟨x7_1, rfl, HA, HK1, ⟨m1, rfl⟩⟩ := hrel
    cases gk with
    | zero => exact absurd HA.out (by simp [juratref17_Longest.l0])
    | succ k1 =>
      have H := HA.out
      clear HA
      simp only [juratref17_Longest.l0] at H
      by_cases c4 : x7_1 ≥ 0
      · rw [if_pos c4] at H
        have c4b0 : decide (0 ≤ x7_1) = true := decide_eq_true c4
        clear c4
        by_cases c5 : x7_1 > a2
        · rw [if_pos c5] at H
          have c5b0 : decide (a2 < x7_1) = true := decide_eq_true c5
          clear c5
          have H' := Aside0.mk H
          clear H
          go_wp2
          go_roundg k1
          case measure => have := HK1.out; omega
          case rel => exact ⟨(wrap64 (x7_1 - 1)), (by first | rfl | exact isE_ _ | exact isE2_ _ | (simp; done) | (simp [*]; done)), H', ⟨by have := HK1.out; omega⟩, by repeat (first | exact Drawn0.refl _ | apply Drawn0.step)⟩
        · rw [if_neg c5] at H
          have c5b0 : decide (a2 < x7_1) = false := decide_eq_false c5
          clear c5
          obtain ⟨ji6, hji6⟩ : ∃ j_ : Int, (wrap64 ((a1.size : Int) - x7_1)) = j_ := ⟨_, rfl⟩
          replace H : (if 0 ≤ (ji6) then (if (ji6) ≤ (a1.size : Int) then ((juratref16_Find.f k1 l0 (a1.extract ((ji6) : Int).toNat a1.size)).bind fun t203 => (if t203 ≥ 0 then (some t203) else (juratref17_Longest.l0 k1 l0 a1 a2 (wrap64 (x7_1 - 1))))) else (none)) else (none)) = some r := by first | (rw [hji6] at H; exact H) | (simp only [hji6] at H ⊢; exact H)
          have hji6w : (IntKind.i64.wrap ((a1.size : Int) - x7_1)) = ji6 := (i64_w _).trans hji6
          by_cases c7 : 0 ≤ (ji6)
          · rw [if_pos c7] at H
            have c7b0 := eq_true c7
            have c7b1 : decide (0 ≤ (ji6)) = true := decide_eq_true c7
            clear c7
            by_cases c8 : (ji6) ≤ (a1.size : Int)
            · rw [if_pos c8] at H
              have c8b0 := eq_true c8
              have c8b1 : decide ((ji6) ≤ (a1.size : Int)) = true := decide_eq_true c8
              clear c8
              replace H := Option.bind_eq_some_iff.mp H
              obtain ⟨t203, A90, H⟩ := H
              replace H : (if t203 ≥ 0 then (some t203) else (juratref17_Longest.l0 k1 l0 a1 a2 (wrap64 (x7_1 - 1)))) = some r := H
              have A9 := Aside0.mk A90
              clear A90
              by_cases c10 : t203 ≥ 0
              · rw [if_pos c10] at H
                have c10b0 : decide (0 ≤ t203) = true := decide_eq_true c10
                clear c10
                obtain rfl := Option.some.inj H
                go_wp2_with (first | ((with_reducible refine gate_callee (f := 49) rfl ?_); refine goesL_ (some 25) rfl rfl Try.func49 (by kernel_rfl) rfl #[.slice A0 l0.length c0, .string (a1.extract ((ji6) : Int).toNat a1.size)] rfl (by (try simp only [List.map_toArray, List.map_cons, List.map_nil]); first | done | (simp only [hji6]; rfl) | rfl | (simp only [List.length_drop, List.length_take]; rfl)) ?_; (with_reducible refine (juratref16_Find.calls k1 _ _ l0 (a1.extract ((ji6) : Int).toNat a1.size) t203 _ ?side1 ?side2 A9.out).mono ?_); (case side1 => repeat (first | exact HR0.out | (with_reducible refine Kd.C_alloc ?_ _) | (with_reducible refine Kd.C_drewN ?_ _) | (with_reducible refine Kd.C_drew ?_))); (case side2 => exact HC0.out); rintro e w' ⟨rfl, ⟨nd, rfl⟩⟩; refine ⟨_, rfl, ?_⟩))
                go_ret
                exact ⟨by first | rfl | (simp; done) | (simp only [← hji6] <;> (first | rfl | simp)) | (simp [*]; done), by repeat (first | exact Drawn0.refl _ | apply Drawn0.step)⟩
              · rw [if_neg c10] at H
                have c10b0 : decide (0 ≤ t203) = false := decide_eq_false c10
                clear c10
                have H' := Aside0.mk H
                clear H
                go_wp2_with (first | ((with_reducible refine gate_callee (f := 49) rfl ?_); refine goesL_ (some 25) rfl rfl Try.func49 (by kernel_rfl) rfl #[.slice A0 l0.length c0, .string (a1.extract ((ji6) : Int).toNat a1.size)] rfl (by (try simp only [List.map_toArray, List.map_cons, List.map_nil]); first | done | (simp only [hji6]; rfl) | rfl | (simp only [List.length_drop, List.length_take]; rfl)) ?_; (with_reducible refine (juratref16_Find.calls k1 _ _ l0 (a1.extract ((ji6) : Int).toNat a1.size) t203 _ ?side1 ?side2 A9.out).mono ?_); (case side1 => repeat (first | exact HR0.out | (with_reducible refine Kd.C_alloc ?_ _) | (with_reducible refine Kd.C_drewN ?_ _) | (with_reducible refine Kd.C_drew ?_))); (case side2 => exact HC0.out); rintro e w' ⟨rfl, ⟨nd, rfl⟩⟩; refine ⟨_, rfl, ?_⟩))
                go_roundg k1
                case measure => have := HK1.out; omega
                case rel => exact ⟨(wrap64 (x7_1 - 1)), (by first | rfl | exact isE_ _ | exact isE2_ _ | (simp; done) | (simp [*]; done)), H', ⟨by have := HK1.out; omega⟩, by repeat (first | exact Drawn0.refl _ | apply Drawn0.step)⟩
            · rw [if_neg c8] at H
              exact absurd H (by simp)
          · rw [if_neg c7] at H
            exact absurd H (by simp)
      · rw [if_neg c4] at H
        have c4b0 : decide (0 ≤ x7_1) = false := decide_eq_false c4
        clear c4
        obtain rfl := Option.some.inj H
        go_wp2
        go_ret
        exact ⟨by first | rfl | (simp; done) | (simp [*]; done), by repeat (first | exact Drawn0.refl _ | apply Drawn0.step)⟩

end Go.Proofs.Ytbkcjeopcjghgaa.P

/- Layer 17's reference: the longest state with which a text ends; where a byte leads; no condition beyond the sizes that stand in each statement. -/
namespace Go.Proofs.Ytbkcjeopcjghgaa.Base
open Go Go.RowKit Go.Proofs.YtbkcjeopcjghgaaW.PrintWords Go.Proofs.YtbkcjeopcjghgaaW.PrintMore Go.Proofs.Ytbkcjeopcjghgaa.P
set_option linter.unusedVariables false

section
variable {w : List ByteArray}
theorem ext_strP (s : ByteArray) (a : Nat) (ha : a ≤ s.size) : s.extract a s.size = strP ((LL s).drop a) := LL_inj (by
  rw [LL_extract, LL_strP]
  rw [List.take_of_length_le (by rw [LL_length]; exact Nat.le_refl _)])
theorem rlong_l0 (hs : srt w) (hl : (paths w).length ≤ 8796093022208) (s : ByteArray) (hsz : s.size ≤ 4611686018427387904) (most : Int) (hm : (s.size : Int) ≤ most) : ∀ n : Nat, n ≤ s.size → Ev (fun k => juratref17_Longest.l0 k (paths w) s most (n : Int)) (idxP w (lsufx w ((LL s).drop (s.size - n)))) := by
  intro n
  induction n with
  | zero =>
    intro hn
    have e : (LL s).drop (s.size - 0) = [] := List.drop_of_length_le (by rw [LL_length]; omega)
    rw [e]
    have e2 : idxP w (lsufx w []) = 0 := idx_nil hs
    rw [e2]
    have hf := rfind16_ev (paths w) (s.extract s.size s.size) hl
    have e3 : findB (s.extract s.size s.size) (paths w) 0 = 0 := by
      rw [ext_strP s s.size (Nat.le_refl _), List.drop_of_length_le (by rw [LL_length]; exact Nat.le_refl _)]
      exact idx_nil hs
    rw [e3] at hf
    refine Ev.step (f := fun k => (juratref16_Find.f k (paths w) (s.extract s.size s.size)).bind fun t => (if t ≥ 0 then (some t) else (juratref17_Longest.l0 k (paths w) s most (wrap64 (0 - 1))))) (fun k => ?_) (Ev.bind hf (Ev.now 0))
    simp only [juratref17_Longest.l0]
    rw [if_pos (by omega), if_neg (by omega), wrap_id (x := (s.size : Int) - ((0 : Nat) : Int)) (by omega) (by omega), if_pos (by omega), if_pos (by omega), show ((s.size : Int) - ((0 : Nat) : Int)).toNat = s.size by omega]
    rfl
  | succ n ih =>
    intro hn
    obtain ⟨c, hc⟩ : ∃ c, (LL s).drop (s.size - (n + 1)) = c :: (LL s).drop (s.size - n) := by
      have hlt : s.size - (n + 1) < (LL s).length := by rw [LL_length]; omega
      refine ⟨(LL s)[s.size - (n + 1)], ?_⟩
      rw [List.drop_eq_getElem_cons hlt, show s.size - (n + 1) + 1 = s.size - n by omega]
    have hf := rfind16_ev (paths w) (s.extract (s.size - (n + 1)) s.size) hl
    have e3 : findB (s.extract (s.size - (n + 1)) s.size) (paths w) 0 = idxP w (c :: (LL s).drop (s.size - n)) := by
      rw [ext_strP s _ (by omega), hc]
      rfl
    rw [e3] at hf
    rw [hc]
    have ih' := ih (by omega)
    refine Ev.step (f := fun k => (juratref16_Find.f k (paths w) (s.extract (s.size - (n + 1)) s.size)).bind fun t => (if t ≥ 0 then (some t) else (juratref17_Longest.l0 k (paths w) s most (n : Int)))) (fun k => ?_) (Ev.bind hf ?_)
    · simp only [juratref17_Longest.l0]
      rw [if_pos (by omega), if_neg (by omega), wrap_id (x := (s.size : Int) - ((n + 1 : Nat) : Int)) (by omega) (by omega), if_pos (by omega), if_pos (by omega), show ((s.size : Int) - ((n + 1 : Nat) : Int)).toNat = s.size - (n + 1) by omega, wrap_id (x := ((n + 1 : Nat) : Int) - 1) (by omega) (by omega), show ((n + 1 : Nat) : Int) - 1 = (n : Int) by omega]
    · by_cases h : idxP w (c :: (LL s).drop (s.size - n)) ≥ 0
      · rw [lsufx_self h]
        exact Ev.congr (fun k => if_pos h) (Ev.now _)
      · rw [lsufx_not h]
        exact Ev.congr (fun k => if_neg h) ih'
theorem rlong_ev (hs : srt w) (hl : (paths w).length ≤ 8796093022208) (s : ByteArray) (hsz : s.size ≤ 4611686018427387904) : Ev (fun k => juratref17_Longest.f k (paths w) s (s.size : Int)) (idxP w (lsufx w (LL s))) := by
  have := rlong_l0 hs hl s hsz (s.size : Int) (Int.le_refl _) s.size (Nat.le_refl _)
  rw [Nat.sub_self, List.drop_zero] at this
  exact this
end
end Go.Proofs.Ytbkcjeopcjghgaa.Base

/- Proved here: what Go functions of this seat compute, or a law of it; no condition beyond the statement's own. Written for this claim by a program of this session (wip/myprint.py) over the kit's print.py. -/
namespace Go.Proofs.Ytbkcjeopcjghgaa.P
open Go.RowKit Go.Proofs.YtbkcjeopcjghgaaW.PrintWords Go.Proofs.YtbkcjeopcjghgaaW.PrintLast Go.Proofs.YtbkcjeopcjghgaaW.PrintMore
attribute [local go_sem] max2_int min2_int max_two min_two max_three min_three max_four min_four   -- for this text's walks alone
set_option linter.unusedVariables false
set_option linter.unusedSimpArgs false

/-! ### juratref17_Step: function 24 -/
def juratref17_Step.f (k : Nat) (l0 : List ByteArray) (a1 : Int) (a2 : Int) : Option (Int) := if 0 ≤ a1 then (if a1 < (l0.length : Int) then ((some (([a2] : List Int) : List Int)).bind fun y270 => (if (rdOf ByteArray.empty l0 a1).size + (strOfNums y270).size ≤ 9223372036854775807 then ((juratref17_Longest.f k l0 ((rdOf ByteArray.empty l0 a1) ++ (strOfNums y270)) (((rdOf ByteArray.empty l0 a1) ++ (strOfNums y270)).size : Int)).bind fun t273 => (some t273)) else (none))) else (none)) else (none)
theorem juratref17_Step.mono : ∀ a0 a1 a2 k, LeO (juratref17_Step.f k a0 a1 a2) (juratref17_Step.f (k + 1) a0 a1 a2) := by
  intro a0 a1 a2 k
  unfold juratref17_Step.f
  repeat' first
      | (with_reducible exact juratref17_Longest.mono _ _ _ _)
      | (with_reducible exact LeO.refl _)
      | (with_reducible exact LeO.none _)
      | (with_reducible refine LeO.ite ?_ ?_)
      | (with_reducible refine LeO.bind ?_ (fun _ => ?_))
      | exact juratref17_Longest.mono _ _ _ _
      | exact LeO.none _
      | refine LeO.ite ?_ ?_
      | refine LeO.bind ?_ (fun _ => ?_)
def juratref17_Step.T1 : Bool × List (List Nat × List Nat) := (true, [([], []), ([], []), ([0, 1], [0, 1]), ([2], [2]), ([], []), ([4], [4]), ([5], [5]), ([3, 6], [3, 6]), ([7, 0, 1, 2, 3, 4, 5, 6, 7], [7])])
def juratref17_Step.B1 : List Nat := [0, 0, 3, 7, 0, 16, 48, 127, 255]
theorem juratref17_Step.tab1 : rtab .any (opsOf Try.f24 1) = juratref17_Step.T1 := by kernel_rfl
theorem juratref17_Step.bits1 : waitsOk juratref17_Step.T1.2 juratref17_Step.B1 = true := by kernel_rfl
set_option maxHeartbeats 8000000 in
set_option maxRecDepth 100000 in
theorem juratref17_Step.calls (k : Nat) (A0 : Option Addr) (c0 : Nat) (l0 : List ByteArray) (a1 : Int) (a2 : Int) (r : Int) (w : World) (hr0 : Kd.C Kd.string w A0 l0.length l0) (hc0 : l0.length ≤ c0) (h : juratref17_Step.f k l0 a1 a2 = some r) :
    Calls Try.prog 24 #[.slice A0 l0.length c0, .int .i64 a1, .int .u8 a2] w fun e w' => e = .returned (.int .i64 r) ∧ Below w.heap.size w w' := by
  have HR0 := Aside0.mk hr0
  have HC0 := Aside0.mk hc0
  clear hr0 hc0
  have HB := Aside0.mk (Below.refl w.heap.size w)
  have H : (if 0 ≤ a1 then (if a1 < (l0.length : Int) then ((some (([a2] : List Int) : List Int)).bind fun y270 => (if (rdOf ByteArray.empty l0 a1).size + (strOfNums y270).size ≤ 9223372036854775807 then ((juratref17_Longest.f k l0 ((rdOf ByteArray.empty l0 a1) ++ (strOfNums y270)) (((rdOf ByteArray.empty l0 a1) ++ (strOfNums y270)).size : Int)).bind fun t273 => (some t273)) else (none))) else (none)) else (none)) = some r := h
  clear h
  by_cases c4 : 0 ≤ a1
  · rw [if_pos c4] at H
    have c4b0 : decide (0 ≤ a1) = true := decide_eq_true c4
    clear c4
    by_cases c5 : a1 < (l0.length : Int)
    · rw [if_pos c5] at H
      have c5b0 : decide (a1 < (l0.length : Int)) = true := decide_eq_true c5
      clear c5
      obtain ⟨y270, hy270⟩ : ∃ y_ : List Int, y_ = (([a2] : List Int)) := ⟨_, rfl⟩
      replace H : (if (rdOf ByteArray.empty l0 a1).size + (strOfNums y270).size ≤ 9223372036854775807 then ((juratref17_Longest.f k l0 ((rdOf ByteArray.empty l0 a1) ++ (strOfNums y270)) (((rdOf ByteArray.empty l0 a1) ++ (strOfNums y270)).size : Int)).bind fun t273 => (some t273)) else (none)) = some r := by first | (rw [hy270]; with_reducible exact H) | (have H2_ := (Option.bind_some _ _).symm.trans H; rw [hy270]; with_reducible exact H2_) | (have H2_ := (Option.bind_some _ _).symm.trans H; with_reducible exact H2_) | with_reducible exact H | (rw [hy270]; exact H) | exact H
      have Ny270 := Aside0.mk hy270
      clear hy270
      by_cases c6 : (rdOf ByteArray.empty l0 a1).size + (strOfNums y270).size ≤ 9223372036854775807
      · rw [if_pos c6] at H
        have c6b0 := eq_true c6
        have c6b1 : decide ((rdOf ByteArray.empty l0 a1).size + (strOfNums y270).size ≤ 9223372036854775807) = true := decide_eq_true c6
        try have c6b2 : (9223372036854775807 < (rdOf ByteArray.empty l0 a1).size + (strOfNums y270).size) = False := eq_false (Nat.not_lt.2 c6)
        replace H := Option.bind_eq_some_iff.mp H
        obtain ⟨t273, A70, H⟩ := H
        replace H : (some t273) = some r := H
        have A7 := Aside0.mk A70
        clear A70
        obtain rfl := Option.some.inj H
        go_enter Try.func24, Try.ntmps24
        try go_wp2
        have n0_ := Aside0.mk (below_drew1 HB.out)
        clear HB
        have HB := n0_
        clear n0_
        have p269 : 0 ≤ (a1 : Int) := of_decide_eq_true (by first | (with_reducible assumption) | assumption)
        have q269 : a1 < (l0.length : Int) := of_decide_eq_true (by first | (with_reducible assumption) | assumption)
        obtain ⟨ad269, e269, hx269_0⟩ := Kd.at_string HR0.out a1 p269 q269
        have hw269_0 := hx269_0
        cases e269
        replace hx269_0 := (HB.out.cell (World.block_lt_of_cell? w _ hx269_0)).trans hx269_0
        replace p269 := eq_true p269
        replace q269 := eq_true q269
        refine start_ (n := 9) (S := fun w' => w'.cell? (ad269.add (a1).toNat) = some (.string (rdOf ByteArray.empty l0 a1))) (ds := []) #[false, false, false, false, false, false, false, false, false] (by kernel_rfl) rfl rfl (((HB.out.cell (World.block_lt_of_cell? w _ hw269_0)).trans hw269_0)) (fun hHeld => ?_); refine with_tabW juratref17_Step.tab1 juratref17_Step.bits1 (fun HT_ HW_ => ?_)
        generalize w.drew = w8 at HB hx269_0 hHeld ⊢
        refine pure_ (i := 0) (N := some 8) (v := ?_) (a' := ?_) #[true, false, false, false, false, false, false, false, false] rfl rfl (any_of HT_.out (by kernel_rfl)) (fun _ _ _ h => h) (Or.inl ⟨by rfl, ?_⟩) ?_ ?_
        rotate_left
        · intro w'
          go_simp
          with_reducible rfl
        rotate_left
        · simp only [Act.put, List.setIfInBounds_toArray, List.set_cons_zero, List.set_cons_succ, i64_w, i32_w]
          rfl
        refine pure_ (i := 1) (N := some 9) (v := ?_) (a' := ?_) #[true, true, false, false, false, false, false, false, false] rfl rfl (any_of HT_.out (by kernel_rfl)) (fun _ _ _ h => h) (Or.inl ⟨by rfl, ?_⟩) ?_ ?_
        rotate_left
        · intro w'
          go_simp
          with_reducible rfl
        rotate_left
        · simp only [Act.put, List.setIfInBounds_toArray, List.set_cons_zero, List.set_cons_succ, i64_w, i32_w]
          rfl
        refine pure_ (i := 2) (N := some 10) (v := ?_) (a' := ?_) #[true, true, true, false, false, false, false, false, false] rfl rfl (any_of HT_.out (by kernel_rfl)) (fun _ _ _ h => h) (Or.inl ⟨by rfl, ?_⟩) ?_ ?_
        rotate_left
        · intro w'
          go_simp
          with_reducible rfl
        rotate_left
        · simp only [Act.put, List.setIfInBounds_toArray, List.set_cons_zero, List.set_cons_succ, i64_w, i32_w]
          rfl
        refine pure_ (i := 4) (N := some 12) (v := ?_) (a' := ?_) #[true, true, true, false, true, false, false, false, false] rfl rfl (any_of HT_.out (by kernel_rfl)) (fun _ _ _ h => h) (Or.inl ⟨by rfl, ?_⟩) ?_ ?_
        rotate_left
        · intro w'
          go_simp
          with_reducible rfl
        rotate_left
        · simp only [Act.put, List.setIfInBounds_toArray, List.set_cons_zero, List.set_cons_succ, i64_w, i32_w]
          rfl
        refine take_ (i := 3) (N := some 11) (v := ?_) (a' := ?_) #[true, true, true, true, true, false, false, false, false] rfl rfl (take_ofW HT_.out HW_.out (by kernel_rfl)) (fun _ _ _ h => h) (Or.inl ⟨by rfl, ?_⟩) hHeld ?_ ?_
        rotate_left
        · intro w' s0
          go_simp
          with_reducible rfl
        rotate_left
        · simp only [Act.put, List.setIfInBounds_toArray, List.set_cons_zero, List.set_cons_succ, i64_w, i32_w]
          rfl
        refine one_ (i := 5) (N := some 13) #[true, true, true, true, true, true, false, false, false] rfl rfl (one_of HT_.out (by kernel_rfl)) (by decide) (fun K hK => ?_)
        refine Kd.R_lit_step (Kd.int .u8) _ 5 ?hg (N := 13) ?hd (xs := ([a2] : List Int)) (inner := [.int .u8 a2]) (ok := fun _ => True) (okp := fun _ => True) ?hr ?hp (fun _ hk => hk) trivial (Below.refl _ _) (Nat.le_refl _) (by simp) ?_; (case hd => rfl); (case hg => rfl); (case hr => first | (go_simp; done) | (go_simp; rfl)); (case hp => exact (Reps.one (show Kd.M (Kd.int .u8) _ _ _ a2 [.int .u8 a2] from rfl) (Reps.none _ _)))
        intro v271 w9 ho10 hb hg_ hnew_
        clear hg_ hnew_
        (first | rw [← Ny270.out] at ho10 | (simp only [Int.reduceToNat] at ho10; rw [← Ny270.out] at ho10))
        have n0_ := Aside0.mk (Kd.R_lower ho10 (below_size (by repeat (first | (with_reducible first | exact HB.out | apply below_alloc | apply pw_below_drewN | apply below_drew1) | exact HB.out))))
        have n1_ := Aside0.mk (below_step (by repeat (first | (with_reducible first | exact HB.out | apply below_alloc | apply pw_below_drewN | apply below_drew1) | exact HB.out)) hb)
        clear HB
        have HO272 := n0_
        have HB := n1_
        clear n0_ n1_
        clear hb ho10
        refine hK.out _ _ (((HB.out.cell (World.block_lt_of_cell? w _ hw269_0)).trans hw269_0)) (fun hHeld => ?_)
        clear hK K
        refine norm_ (a' := ?_) ?_ ?_
        rotate_left
        · show Act.put _ (some 13) _ = _
          simp only [Act.put, List.setIfInBounds_toArray, List.set_cons_zero, List.set_cons_succ, i64_w, i32_w]
          rfl
        refine one_ (i := 6) (N := some 14) #[true, true, true, true, true, true, true, false, false] rfl rfl (one_of HT_.out (by kernel_rfl)) (by decide) (fun K hK => ?_)
        have hcv11 := own_string (P := Try.prog) Try.underlying80 Try.underlying5 Try.underlying9 (Kd.own_of_R HO272.out)
        refine value_ (w1 := ?_) (v := ?_) (by rfl) rfl ?_ ?_
        rotate_left 2
        · go_simp
          constructor
          · rfl
          · rfl
        clear hcv11
        refine hK.out _ _ (((HB.out.cell (World.block_lt_of_cell? w _ hw269_0)).trans hw269_0)) (fun hHeld => ?_)
        clear hK K
        refine norm_ (a' := ?_) ?_ ?_
        rotate_left
        · show Act.put _ (some 14) _ = _
          simp only [Act.put, List.setIfInBounds_toArray, List.set_cons_zero, List.set_cons_succ, i64_w, i32_w]
          rfl
        refine pure_ (i := 7) (N := some 15) (v := ?_) (a' := ?_) #[true, true, true, true, true, true, true, true, false] rfl rfl (any_of HT_.out (by kernel_rfl)) (fun _ _ _ h => h) (Or.inl ⟨by rfl, ?_⟩) ?_ ?_
        rotate_left
        · intro w'
          go_simp
          with_reducible rfl
        rotate_left
        · simp only [Act.put, List.setIfInBounds_toArray, List.set_cons_zero, List.set_cons_succ, i64_w, i32_w]
          rfl
        refine pure_ (i := 8) (N := some 7) (v := ?_) (a' := ?_) #[true, true, true, true, true, true, true, true, true] rfl rfl (any_of HT_.out (by kernel_rfl)) (fun _ _ _ h => h) (Or.inl ⟨by rfl, ?_⟩) ?_ ?_
        rotate_left
        · intro w'
          go_simp
          with_reducible rfl
        rotate_left
        · simp only [Act.put, List.setIfInBounds_toArray, List.set_cons_zero, List.set_cons_succ, i64_w, i32_w]
          rfl
        refine done_ (done_of HT_.out (by kernel_rfl)) ?_
        try go_wp2_with (first | ((with_reducible refine gate_callee (f := 14) rfl ?_); refine goesL_ (some 20) rfl rfl Try.func14 (by kernel_rfl) rfl #[.slice (some ad269) l0.length c0, .string ((rdOf ByteArray.empty l0 a1) ++ (strOfNums y270)), .int .i64 (((rdOf ByteArray.empty l0 a1) ++ (strOfNums y270)).size : Int)] rfl (by (try simp only [List.map_toArray, List.map_cons, List.map_nil]); first | done | rfl | (simp only [List.length_drop, List.length_take]; rfl) | (rw [ByteArray.size_append, Int.natCast_add]; rfl)) ?_; (with_reducible refine (juratref17_Longest.calls k _ _ l0 ((rdOf ByteArray.empty l0 a1) ++ (strOfNums y270)) (((rdOf ByteArray.empty l0 a1) ++ (strOfNums y270)).size : Int) t273 _ ?side1 ?side2 A7.out).mono ?_); (case side1 => repeat (first | exact (Kd.C_below HR0.out HB.out) | (with_reducible refine Kd.C_alloc ?_ _) | (with_reducible refine Kd.C_drewN ?_ _) | (with_reducible refine Kd.C_drew ?_))); (case side2 => exact HC0.out); rintro e w' ⟨rfl, ⟨nd, rfl⟩⟩; refine ⟨_, rfl, ?_⟩))
        go_ret
        exact ⟨by first | rfl | (simp [errW_none, errW_some] <;> rfl) | (simp [*, errW_none, errW_some] <;> rfl), by repeat (first | (with_reducible first | exact HB.out | apply below_alloc | apply pw_below_drewN | apply below_drew1) | exact HB.out)⟩
      · rw [if_neg c6] at H
        exact absurd H (by simp)
    · rw [if_neg c5] at H
      exact absurd H (by simp)
  · rw [if_neg c4] at H
    exact absurd H (by simp)

end Go.Proofs.Ytbkcjeopcjghgaa.P

/- Layer 17's reference: where a byte leads; no condition beyond the sizes that stand in each statement. -/
namespace Go.Proofs.Ytbkcjeopcjghgaa.Base
open Go Go.RowKit Go.Proofs.YtbkcjeopcjghgaaW.PrintWords Go.Proofs.YtbkcjeopcjghgaaW.PrintMore Go.Proofs.Ytbkcjeopcjghgaa.P
set_option linter.unusedVariables false

section
variable {w : List ByteArray}
theorem rstep_ev (hs : srt w) (hl : (paths w).length ≤ 8796093022208) {i : Nat} {n : NodeD} (h : (trN w)[i]? = some n) (hsz : n.path.length ≤ 65536) (c : UInt8) : Ev (fun k => juratref17_Step.f k (paths w) (i : Int) (c.toNat : Int)) (idxP w (stepP w n.path c)) := by
  have hi : i < (paths w).length := by rw [paths_length]; exact (List.getElem?_eq_some_iff.1 h).1
  have e1 : rdOf ByteArray.empty (paths w) (i : Int) = strP n.path := by
    show (paths w).getD (i : Int).toNat ByteArray.empty = _
    rw [Int.toNat_natCast, List.getD_eq_getElem?_getD]
    unfold paths
    rw [List.getElem?_map, h]
    rfl
  have e2 : strP n.path ++ strOfNums [(c.toNat : Int)] = strP (n.path ++ [c]) := LL_inj (by
    rw [LL_append, LL_strP, LL_strP]
    congr 1
    show [UInt8.ofNat (c.toNat : Int).toNat] = [c]
    rw [Int.toNat_natCast, UInt8.ofNat_toNat])
  have e3 : (strP (n.path ++ [c])).size = n.path.length + 1 := by rw [strP_size, List.length_append, List.length_singleton]
  have hr := rlong_ev hs hl (strP (n.path ++ [c])) (by omega)
  rw [LL_strP] at hr
  have e4 : (strP n.path).size + (strOfNums [(c.toNat : Int)]).size ≤ 9223372036854775807 := by
    have : (strOfNums [(c.toNat : Int)]).size = 1 := rfl
    rw [this, strP_size]
    omega
  refine Ev.congr (f := fun k => (juratref17_Longest.f k (paths w) (strP (n.path ++ [c])) ((strP (n.path ++ [c])).size : Int)).bind fun t => some t) (fun k => ?_) (Ev.bind hr (Ev.now _))
  unfold juratref17_Step.f
  rw [if_pos (by omega), if_pos (by omega), Option.bind_some, e1, if_pos e4, e2]
end
end Go.Proofs.Ytbkcjeopcjghgaa.Base

/- Proved here: what Go functions of this seat compute, or a law of it; no condition beyond the statement's own. Written for this claim by a program of this session (wip/myprint.py) over the kit's print.py. -/
namespace Go.Proofs.Ytbkcjeopcjghgaa.P
open Go.RowKit Go.Proofs.YtbkcjeopcjghgaaW.PrintWords Go.Proofs.YtbkcjeopcjghgaaW.PrintLast Go.Proofs.YtbkcjeopcjghgaaW.PrintMore
attribute [local go_sem] max2_int min2_int max_two min_two max_three min_three max_four min_four   -- for this text's walks alone
set_option linter.unusedVariables false
set_option linter.unusedSimpArgs false

/-! ### juratref18_Has: function 15 -/
mutual
def juratref18_Has.l0 : Nat → List ByteArray → Int → Int → Option (Bool)
  | 0, _, _, _ => none
  | k + 1, x0, x1, x5 => if x5 < (x0.length : Int) then (juratref18_Has.l1 k x0 x1 x5 0) else (some false)
def juratref18_Has.l1 : Nat → List ByteArray → Int → Int → Int → Option (Bool)
  | 0, _, _, _, _ => none
  | k + 1, x0, x1, x5, x6 => if 0 ≤ x5 then (if x5 < (x0.length : Int) then (if x6 < ((rdOf ByteArray.empty x0 x5).size : Int) then (if 0 ≤ x6 then (if (bt (rdOf ByteArray.empty x0 x5) x6) = x1 then (some true) else (juratref18_Has.l1 k x0 x1 x5 (wrap64 (x6 + 1)))) else (none)) else (juratref18_Has.l0 k x0 x1 (wrap64 (x5 + 1)))) else (none)) else (none)
end
def juratref18_Has.f (k : Nat) (l0 : List ByteArray) (a1 : Int) : Option (Bool) := juratref18_Has.l0 k l0 a1 0
theorem juratref18_Has.mono_l : ∀ k, (∀ y0 y1 y2, LeO (juratref18_Has.l0 k y0 y1 y2) (juratref18_Has.l0 (k + 1) y0 y1 y2)) ∧ (∀ y0 y1 y2 y3, LeO (juratref18_Has.l1 k y0 y1 y2 y3) (juratref18_Has.l1 (k + 1) y0 y1 y2 y3))
  | 0 => ⟨fun _ _ _ r h => by simp [juratref18_Has.l0] at h, fun _ _ _ _ r h => by simp [juratref18_Has.l1] at h⟩
  | k + 1 => by
    obtain ⟨ih0, ih1⟩ := juratref18_Has.mono_l k
    refine ⟨?_, ?_⟩
    · intro y0 y1 y2
      unfold juratref18_Has.l0
      repeat' first
      | (with_reducible exact ih0 _ _ _)
      | (with_reducible exact ih1 _ _ _ _)
      | (with_reducible exact LeO.refl _)
      | (with_reducible exact LeO.none _)
      | (with_reducible refine LeO.ite ?_ ?_)
      | (with_reducible refine LeO.bind ?_ (fun _ => ?_))
      | exact ih0 _ _ _
      | exact ih1 _ _ _ _
      | exact LeO.none _
      | refine LeO.ite ?_ ?_
      | refine LeO.bind ?_ (fun _ => ?_)
    · intro y0 y1 y2 y3
      unfold juratref18_Has.l1
      repeat' first
      | (with_reducible exact ih0 _ _ _)
      | (with_reducible exact ih1 _ _ _ _)
      | (with_reducible exact LeO.refl _)
      | (with_reducible exact LeO.none _)
      | (with_reducible refine LeO.ite ?_ ?_)
      | (with_reducible refine LeO.bind ?_ (fun _ => ?_))
      | exact ih0 _ _ _
      | exact ih1 _ _ _ _
      | exact LeO.none _
      | refine LeO.ite ?_ ?_
      | refine LeO.bind ?_ (fun _ => ?_)
theorem juratref18_Has.mono : ∀ a0 a1 k, LeO (juratref18_Has.f k a0 a1) (juratref18_Has.f (k + 1) a0 a1) := by
  intro a0 a1 k
  obtain ⟨ih0, ih1⟩ := juratref18_Has.mono_l k
  unfold juratref18_Has.f
  repeat' first
      | (with_reducible exact ih0 _ _ _)
      | (with_reducible exact ih1 _ _ _ _)
      | (with_reducible exact LeO.refl _)
      | (with_reducible exact LeO.none _)
      | (with_reducible refine LeO.ite ?_ ?_)
      | (with_reducible refine LeO.bind ?_ (fun _ => ?_))
      | exact ih0 _ _ _
      | exact ih1 _ _ _ _
      | exact LeO.none _
      | refine LeO.ite ?_ ?_
      | refine LeO.bind ?_ (fun _ => ?_)
set_option maxHeartbeats 8000000 in
set_option maxRecDepth 100000 in
theorem juratref18_Has.calls (k : Nat) (A0 : Option Addr) (c0 : Nat) (l0 : List ByteArray) (a1 : Int) (r : Bool) (w : World) (hr0 : Kd.C Kd.string w A0 l0.length l0) (hc0 : l0.length ≤ c0) (h : juratref18_Has.f k l0 a1 = some r) :
    Calls Try.prog 15 #[.slice A0 l0.length c0, .int .u8 a1] w fun e w' => e = .returned (.bool r) ∧ Drawn0 w w' := by
  have HR0 := Aside0.mk hr0
  have HC0 := Aside0.mk hc0
  clear hr0 hc0
  have H : (juratref18_Has.l0 k l0 a1 0) = some r := h
  clear h
  have H' := Aside0.mk H
  clear H
  go_enter Try.func15, Try.ntmps15
  go_wp2
  go_loopg [5] k (fun kq v5 w' => ∃ (x5_1 : Int), v5 = .int .i64 x5_1 ∧ Aside0 (juratref18_Has.l0 kq l0 a1 x5_1 = some r) ∧ Aside0 (kq ≤ k) ∧ Drawn0 w w')
  case atStart => exact ⟨(0), (by first | rfl | exact isE_ _ | exact isE2_ _ | (simp; done) | (simp [*]; done)), H', ⟨Nat.le_refl _⟩, by repeat (first | exact Drawn0.refl _ | apply Drawn0.step)⟩
  case round =>
    clear H'
    try clear c1
    try clear p2
    obtain ⟨x5_1, rfl, HA, HK1, ⟨m1, rfl⟩⟩ := hrel
    cases gk with
    | zero => exact absurd HA.out (by simp [juratref18_Has.l0])
    | succ k1 =>
      have H := HA.out
      clear HA
      simp only [juratref18_Has.l0] at H
      by_cases c3 : x5_1 < (l0.length : Int)
      · rw [if_pos c3] at H
        have c3b0 : decide (x5_1 < (l0.length : Int)) = true := decide_eq_true c3
        clear c3
        have H' := Aside0.mk H
        clear H
        go_wp2
        go_loopg [6] k1 (fun kq v6 w' => ∃ (x6_2 : Int), v6 = .int .i64 x6_2 ∧ Aside0 (juratref18_Has.l1 kq l0 a1 x5_1 x6_2 = some r) ∧ Aside0 (kq ≤ k1) ∧ Drawn0 w w')
        case atStart => exact ⟨(0), (by first | rfl | exact isE_ _ | exact isE2_ _ | (simp; done) | (simp [*]; done)), H', ⟨Nat.le_refl _⟩, by repeat (first | exact Drawn0.refl _ | apply Drawn0.step)⟩
        case round =>
          clear H'
          try clear c1
          try clear p2
          try clear c3
          try clear c3b0
          try clear p2
          obtain ⟨x6_2, rfl, HA, HK2, ⟨m2, rfl⟩⟩ := hrel
          cases gk with
          | zero => exact absurd HA.out (by simp [juratref18_Has.l1])
          | succ k2 =>
            have H := HA.out
            clear HA
            simp only [juratref18_Has.l1] at H
            by_cases c4 : 0 ≤ x5_1
            · rw [if_pos c4] at H
              have c4b0 : decide (0 ≤ x5_1) = true := decide_eq_true c4
              clear c4
              by_cases c5 : x5_1 < (l0.length : Int)
              · rw [if_pos c5] at H
                have c5b0 : decide (x5_1 < (l0.length : Int)) = true := decide_eq_true c5
                clear c5
                by_cases c6 : x6_2 < ((rdOf ByteArray.empty l0 x5_1).size : Int)
                · rw [if_pos c6] at H
                  have c6b0 : decide (x6_2 < ((rdOf ByteArray.empty l0 x5_1).size : Int)) = true := decide_eq_true c6
                  clear c6
                  by_cases c7 : 0 ≤ x6_2
                  · rw [if_pos c7] at H
                    have c7b0 : decide (0 ≤ x6_2) = true := decide_eq_true c7
                    clear c7
                    by_cases c9 : (bt (rdOf ByteArray.empty l0 x5_1) x6_2) = a1
                    · rw [if_pos c9] at H
                      have c9b0 : ((bt (rdOf ByteArray.empty l0 x5_1) x6_2) == a1) = true := beq_iff_eq.mpr c9
                      have c9b1 : ((bt (rdOf ByteArray.empty l0 x5_1) x6_2) != a1) = false := bne_eq_false_iff_eq.mpr c9
                      clear c9
                      obtain rfl := Option.some.inj H
                      have p204 : 0 ≤ (x5_1 : Int) := of_decide_eq_true (by first | (with_reducible assumption) | assumption)
                      have q204 : x5_1 < (l0.length : Int) := of_decide_eq_true (by first | (with_reducible assumption) | assumption)
                      obtain ⟨ad204, e204, hx204_0⟩ := Kd.at_string HR0.out x5_1 p204 q204
                      cases e204
                      replace p204 := eq_true p204
                      replace q204 := eq_true q204
                      have p205 : 0 ≤ (x5_1 : Int) := of_decide_eq_true (by first | (with_reducible assumption) | assumption)
                      have q205 : x5_1 < (l0.length : Int) := of_decide_eq_true (by first | (with_reducible assumption) | assumption)
                      obtain ⟨ad205, e205, hx205_0⟩ := Kd.at_string HR0.out x5_1 p205 q205
                      obtain rfl : ad204 = ad205 := (by injection e205)
                      replace p205 := eq_true p205
                      replace q205 := eq_true q205
                      have p8 : 0 ≤ (x6_2 : Int) := of_decide_eq_true (by first | (with_reducible assumption) | assumption)
                      have q8 : x6_2 < ((rdOf ByteArray.empty l0 x5_1).size : Int) := of_decide_eq_true (by first | (with_reducible assumption) | assumption)
                      have hx8 := bt_at (rdOf ByteArray.empty l0 x5_1) x6_2
                      replace p8 := eq_true p8
                      replace q8 := eq_true q8
                      go_wp2
                      go_ret
                      exact ⟨by first | rfl | (simp; done) | (simp [*]; done), by repeat (first | exact Drawn0.refl _ | apply Drawn0.step)⟩
                    · rw [if_neg c9] at H
                      have c9b0 : ((bt (rdOf ByteArray.empty l0 x5_1) x6_2) == a1) = false := beq_eq_false_iff_ne.mpr c9
                      have c9b1 : ((bt (rdOf ByteArray.empty l0 x5_1) x6_2) != a1) = true := bne_iff_ne.mpr c9
                      have H' := Aside0.mk H
                      clear H
                      have p204 : 0 ≤ (x5_1 : Int) := of_decide_eq_true (by first | (with_reducible assumption) | assumption)
                      have q204 : x5_1 < (l0.length : Int) := of_decide_eq_true (by first | (with_reducible assumption) | assumption)
                      obtain ⟨ad204, e204, hx204_0⟩ := Kd.at_string HR0.out x5_1 p204 q204
                      cases e204
                      replace p204 := eq_true p204
                      replace q204 := eq_true q204
                      have p205 : 0 ≤ (x5_1 : Int) := of_decide_eq_true (by first | (with_reducible assumption) | assumption)
                      have q205 : x5_1 < (l0.length : Int) := of_decide_eq_true (by first | (with_reducible assumption) | assumption)
                      obtain ⟨ad205, e205, hx205_0⟩ := Kd.at_string HR0.out x5_1 p205 q205
                      obtain rfl : ad204 = ad205 := (by injection e205)
                      replace p205 := eq_true p205
                      replace q205 := eq_true q205
                      have p8 : 0 ≤ (x6_2 : Int) := of_decide_eq_true (by first | (with_reducible assumption) | assumption)
                      have q8 : x6_2 < ((rdOf ByteArray.empty l0 x5_1).size : Int) := of_decide_eq_true (by first | (with_reducible assumption) | assumption)
                      have hx8 := bt_at (rdOf ByteArray.empty l0 x5_1) x6_2
                      replace p8 := eq_true p8
                      replace q8 := eq_true q8
                      go_wp2
                      go_roundg k2
                      case measure => have := HK1.out; have := HK2.out; omega
                      case rel => exact ⟨(wrap64 (x6_2 + 1)), (by first | rfl | exact isE_ _ | exact isE2_ _ | (simp; done) | (simp [*]; done)), H', ⟨by have := HK1.out; have := HK2.out; omega⟩, by repeat (first | exact Drawn0.refl _ | apply Drawn0.step)⟩
                  · rw [if_neg c7] at H
                    exact absurd H (by simp)
                · rw [if_neg c6] at H
                  have c6b0 : decide (x6_2 < ((rdOf ByteArray.empty l0 x5_1).size : Int)) = false := decide_eq_false c6
                  clear c6
                  have H' := Aside0.mk H
                  clear H
                  have p204 : 0 ≤ (x5_1 : Int) := of_decide_eq_true (by first | (with_reducible assumption) | assumption)
                  have q204 : x5_1 < (l0.length : Int) := of_decide_eq_true (by first | (with_reducible assumption) | assumption)
                  obtain ⟨ad204, e204, hx204_0⟩ := Kd.at_string HR0.out x5_1 p204 q204
                  cases e204
                  replace p204 := eq_true p204
                  replace q204 := eq_true q204
                  go_wp2
                  go_roundg k2
                  case measure => have := HK1.out; have := HK2.out; omega
                  case rel => exact ⟨(wrap64 (x5_1 + 1)), (by first | rfl | exact isE_ _ | exact isE2_ _ | (simp; done) | (simp [*]; done)), H', ⟨by have := HK1.out; have := HK2.out; omega⟩, by repeat (first | exact Drawn0.refl _ | apply Drawn0.step)⟩
              · rw [if_neg c5] at H
                exact absurd H (by simp)
            · rw [if_neg c4] at H
              exact absurd H (by simp)
      · rw [if_neg c3] at H
        have c3b0 : decide (x5_1 < (l0.length : Int)) = false := decide_eq_false c3
        clear c3
        obtain rfl := Option.some.inj H
        go_wp2
        go_ret
        exact ⟨by first | rfl | (simp; done) | (simp [*]; done), by repeat (first | exact Drawn0.refl _ | apply Drawn0.step)⟩

end Go.Proofs.Ytbkcjeopcjghgaa.P

/- Proved here: what Go functions of this seat compute, or a law of it; no condition beyond the statement's own. Written for this claim by a program of this session (wip/myprint.py) over the kit's print.py. -/
namespace Go.Proofs.Ytbkcjeopcjghgaa.P
open Go.RowKit Go.Proofs.YtbkcjeopcjghgaaW.PrintWords Go.Proofs.YtbkcjeopcjghgaaW.PrintLast Go.Proofs.YtbkcjeopcjghgaaW.PrintMore
attribute [local go_sem] max2_int min2_int max_two min_two max_three min_three max_four min_four   -- for this text's walks alone
set_option linter.unusedVariables false
set_option linter.unusedSimpArgs false

/-! ### juratref18_Bytes: function 27 -/
def juratref18_Bytes.l0 : Nat → List ByteArray → List Int → Int → Option (ByteArray)
  | 0, _, _, _ => none
  | k + 1, x0, x3, x4 => if x4 < 256 then ((juratref18_Has.f k x0 ((x4) % 256)).bind fun t313 => (if t313 = true then (if x3.length < 140737488355328 then (juratref18_Bytes.l0 k x0 (x3 ++ [(x4) % 256]) (wrap64 (x4 + 1))) else (none)) else (juratref18_Bytes.l0 k x0 x3 (wrap64 (x4 + 1))))) else (some (strOfNums x3))
def juratref18_Bytes.f (k : Nat) (l0 : List ByteArray) : Option (ByteArray) := juratref18_Bytes.l0 k l0 (([] : List Int)) 0
theorem juratref18_Bytes.mono_l : ∀ k, (∀ y0 y1 y2, LeO (juratref18_Bytes.l0 k y0 y1 y2) (juratref18_Bytes.l0 (k + 1) y0 y1 y2))
  | 0 => fun _ _ _ r h => by simp [juratref18_Bytes.l0] at h
  | k + 1 => by
    have ih0 := juratref18_Bytes.mono_l k
    · intro y0 y1 y2
      unfold juratref18_Bytes.l0
      repeat' first
      | (with_reducible exact ih0 _ _ _)
      | (with_reducible exact juratref18_Has.mono _ _ _)
      | (with_reducible exact LeO.refl _)
      | (with_reducible exact LeO.none _)
      | (with_reducible refine LeO.ite ?_ ?_)
      | (with_reducible refine LeO.bind ?_ (fun _ => ?_))
      | exact ih0 _ _ _
      | exact juratref18_Has.mono _ _ _
      | exact LeO.none _
      | refine LeO.ite ?_ ?_
      | refine LeO.bind ?_ (fun _ => ?_)
theorem juratref18_Bytes.mono : ∀ a0 k, LeO (juratref18_Bytes.f k a0) (juratref18_Bytes.f (k + 1) a0) := by
  intro a0 k
  have ih0 := juratref18_Bytes.mono_l k
  unfold juratref18_Bytes.f
  repeat' first
      | (with_reducible exact ih0 _ _ _)
      | (with_reducible exact juratref18_Has.mono _ _ _)
      | (with_reducible exact LeO.refl _)
      | (with_reducible exact LeO.none _)
      | (with_reducible refine LeO.ite ?_ ?_)
      | (with_reducible refine LeO.bind ?_ (fun _ => ?_))
      | exact ih0 _ _ _
      | exact juratref18_Has.mono _ _ _
      | exact LeO.none _
      | refine LeO.ite ?_ ?_
      | refine LeO.bind ?_ (fun _ => ?_)
set_option maxHeartbeats 8000000 in
set_option maxRecDepth 100000 in
theorem juratref18_Bytes.calls (k : Nat) (A0 : Option Addr) (c0 : Nat) (l0 : List ByteArray) (r : ByteArray) (w : World) (hr0 : Kd.C Kd.string w A0 l0.length l0) (hc0 : l0.length ≤ c0) (h : juratref18_Bytes.f k l0 = some r) :
    Calls Try.prog 27 #[.slice A0 l0.length c0] w fun e w' => e = .returned (.string r) ∧ Below w.heap.size w w' := by
  have HR0 := Aside0.mk hr0
  have HC0 := Aside0.mk hc0
  clear hr0 hc0
  have HB := Aside0.mk (Below.refl w.heap.size w)
  have H : (juratref18_Bytes.l0 k l0 (([] : List Int)) 0) = some r := h
  clear h
  obtain ⟨y310, hy310⟩ : ∃ y_ : List Int, y_ = (([] : List Int)) := ⟨_, rfl⟩
  replace H : (juratref18_Bytes.l0 k l0 y310 0) = some r := by first | (rw [hy310]; with_reducible exact H) | (have H2_ := (Option.bind_some _ _).symm.trans H; rw [hy310]; with_reducible exact H2_) | (have H2_ := (Option.bind_some _ _).symm.trans H; with_reducible exact H2_) | with_reducible exact H | (rw [hy310]; exact H) | exact H
  have Ny310 := Aside0.mk hy310
  clear hy310
  have H' := Aside0.mk H
  clear H
  go_enter Try.func27, Try.ntmps27
  go_wp2_with (first | ((with_reducible refine gate_dst (N := 5) rfl ?_); refine Kd.R_lit (Kd.int .u8) _ 5 ?hg (N := 5) ?hd (xs := ([] : List Int)) (inner := []) (ok := fun _ => True) (okp := fun _ => True) ?hr ?hp (fun _ hk => hk) trivial (Below.refl _ _) (Nat.le_refl _) (by simp) ?_; (case hd => rfl); (case hg => rfl); (case hr => first | (go_simp; done) | (go_simp; rfl)); (case hp => exact (Reps.none _ _)); intro v311 w2 ho3 hb hg_ hnew_; clear hg_ hnew_; (first | rw [← Ny310.out] at ho3 | (simp only [Int.reduceToNat] at ho3; rw [← Ny310.out] at ho3)); have n0_ := Aside0.mk (Kd.R_lower ho3 (below_size (by repeat (first | (with_reducible first | exact HB.out | apply below_alloc | apply pw_below_drewN | apply below_drew1) | exact HB.out)))); have n1_ := Aside0.mk (below_step (by repeat (first | (with_reducible first | exact HB.out | apply below_alloc | apply pw_below_drewN | apply below_drew1) | exact HB.out)) hb); clear HB; have HO312 := n0_; have HB := n1_; clear n0_ n1_; clear hb ho3))
  go_loopg [3, 4] k (fun kq v3 v4 w' => ∃ (x3_1 : List Int) (x4_1 : Int), v4 = .int .i64 x4_1 ∧ Aside0 (juratref18_Bytes.l0 kq l0 x3_1 x4_1 = some r) ∧ Aside0 (kq ≤ k) ∧ Aside0 (Kd.R (Kd.int .u8) 5 w' w.heap.size (fun _ => True) v3 x3_1) ∧ Aside0 (Below w.heap.size w w'))
  case atStart => exact ⟨(y310), (0), (by first | rfl | exact isE_ _ | exact isE2_ _ | (simp; done) | (simp [*]; done)), H', ⟨Nat.le_refl _⟩, ⟨by (with_reducible repeat (first | apply Kd.R_alloc | apply Kd.R_drewN | apply Kd.R_drew)); exact HO312.out⟩, ⟨by repeat (first | (with_reducible first | exact HB.out | apply below_alloc | apply pw_below_drewN | apply below_drew1) | exact HB.out)⟩⟩
  case round =>
    clear H'
    try clear c2
    try clear p2
    obtain ⟨x3_1, x4_1, rfl, HA, HK1, HO_3, HB⟩ := hrel
    cases gk with
    | zero => exact absurd HA.out (by simp [juratref18_Bytes.l0])
    | succ k1 =>
      have H := HA.out
      clear HA
      simp only [juratref18_Bytes.l0] at H
      by_cases c4 : x4_1 < 256
      · rw [if_pos c4] at H
        have c4b0 : decide (x4_1 < 256) = true := decide_eq_true c4
        clear c4
        replace H := Option.bind_eq_some_iff.mp H
        obtain ⟨t313, A50, H⟩ := H
        replace H : (if t313 = true then (if x3_1.length < 140737488355328 then (juratref18_Bytes.l0 k1 l0 (x3_1 ++ [(x4_1) % 256]) (wrap64 (x4_1 + 1))) else (none)) else (juratref18_Bytes.l0 k1 l0 x3_1 (wrap64 (x4_1 + 1)))) = some r := H
        have A5 := Aside0.mk A50
        clear A50
        by_cases c6 : t313 = true
        · subst c6
          have H1 : (if x3_1.length < 140737488355328 then (juratref18_Bytes.l0 k1 l0 (x3_1 ++ [(x4_1) % 256]) (wrap64 (x4_1 + 1))) else (none)) = some r := by rw [if_pos rfl] at H; exact H
          clear H
          have H := H1
          clear H1
          by_cases c7 : x3_1.length < 140737488355328
          · rw [if_pos c7] at H
            have LMc7 := Aside0.mk c7
            clear c7
            obtain ⟨y314, hy314⟩ : ∃ y_ : List Int, y_ = (x3_1 ++ [(x4_1) % 256]) := ⟨_, rfl⟩
            replace H : (juratref18_Bytes.l0 k1 l0 y314 (wrap64 (x4_1 + 1))) = some r := by first | (rw [hy314]; with_reducible exact H) | (have H2_ := (Option.bind_some _ _).symm.trans H; rw [hy314]; with_reducible exact H2_) | (have H2_ := (Option.bind_some _ _).symm.trans H; with_reducible exact H2_) | with_reducible exact H | (rw [hy314]; exact H) | exact H
            have Ny314 := Aside0.mk hy314
            clear hy314
            have H' := Aside0.mk H
            clear H
            go_wp2_with (first | ((with_reducible refine gate_callee (f := 15) rfl ?_); refine goesL_ (some 13) rfl rfl Try.func15 (by kernel_rfl) rfl #[.slice A0 l0.length c0, .int .u8 ((x4_1) % 256)] rfl (by (try simp only [List.map_toArray, List.map_cons, List.map_nil]); first | done | rfl | (simp only [List.length_drop, List.length_take]; rfl)) ?_; (with_reducible refine (juratref18_Has.calls k1 _ _ l0 ((x4_1) % 256) true _ ?side1 ?side2 A5.out).mono ?_); (case side1 => repeat (first | exact (Kd.C_below HR0.out HB.out) | (with_reducible refine Kd.C_alloc ?_ _) | (with_reducible refine Kd.C_drewN ?_ _) | (with_reducible refine Kd.C_drew ?_))); (case side2 => exact HC0.out); rintro e w' ⟨rfl, ⟨nd, rfl⟩⟩; refine ⟨_, rfl, ?_⟩) | ((with_reducible refine gate_builtin (b := .append) (xs := #[.tmp 14, .tmp 17]) rfl ?_); at_builtin; refine Kd.R_append (Kd.int .u8) (w0 := w) w.heap.size rfl (.tmp 14) (.tmp 17) 80 5 (.int .u8 0) 1 rfl Try.underlying80 info5 rfl (by decide) (by omega) u3 x3_1 ((x4_1) % 256) [.int .u8 ((x4_1) % 256)] (fun _ => True) (fun _ => False) rfl rfl ?aP (fun _ hk => hk.elim) ?aF ?aO ?aB ?aS ?aL ?_; (case aP => exact rfl); (case aB => exact (by repeat (first | (with_reducible first | exact HB.out | apply below_alloc | apply pw_below_drewN | apply below_drew1) | exact HB.out))); (case aF => exact (fun _ _ => trivial)); (case aO => exact (by (with_reducible repeat (first | apply Kd.R_alloc | apply Kd.R_drewN | apply Kd.R_drew)); exact HO_3.out)); (case aS => exact (below_size (by repeat (first | (with_reducible first | exact HB.out | apply below_alloc | apply pw_below_drewN | apply below_drew1) | exact HB.out)))); (case aL => have := LMc7.out; omega); intro v315 w8 ho hb hg hat; rw [← Ny314.out] at ho; have n0_ := Aside0.mk (hb); have n1_ := Aside0.mk (ho); clear HB; clear HO_3; have HB := n0_; have HO316 := n1_; clear n0_ n1_; clear ho hb hg hat))
            go_roundg k1
            case measure => have := HK1.out; omega
            case rel => exact ⟨(y314), (wrap64 (x4_1 + 1)), (by first | rfl | exact isE_ _ | exact isE2_ _ | (simp; done) | (simp [*]; done)), H', ⟨by have := HK1.out; omega⟩, ⟨by (with_reducible repeat (first | apply Kd.R_alloc | apply Kd.R_drewN | apply Kd.R_drew)); exact HO316.out⟩, ⟨by repeat (first | (with_reducible first | exact HB.out | apply below_alloc | apply pw_below_drewN | apply below_drew1) | exact HB.out)⟩⟩
          · rw [if_neg c7] at H
            exact absurd H (by simp)
        · replace c6 := Bool.eq_false_iff.mpr c6
          subst c6
          have H1 : (juratref18_Bytes.l0 k1 l0 x3_1 (wrap64 (x4_1 + 1))) = some r := by rw [if_neg (show ¬ (false = true) by decide)] at H; exact H
          clear H
          have H := H1
          clear H1
          have H' := Aside0.mk H
          clear H
          go_wp2_with (first | ((with_reducible refine gate_callee (f := 15) rfl ?_); refine goesL_ (some 13) rfl rfl Try.func15 (by kernel_rfl) rfl #[.slice A0 l0.length c0, .int .u8 ((x4_1) % 256)] rfl (by (try simp only [List.map_toArray, List.map_cons, List.map_nil]); first | done | rfl | (simp only [List.length_drop, List.length_take]; rfl)) ?_; (with_reducible refine (juratref18_Has.calls k1 _ _ l0 ((x4_1) % 256) false _ ?side1 ?side2 A5.out).mono ?_); (case side1 => repeat (first | exact (Kd.C_below HR0.out HB.out) | (with_reducible refine Kd.C_alloc ?_ _) | (with_reducible refine Kd.C_drewN ?_ _) | (with_reducible refine Kd.C_drew ?_))); (case side2 => exact HC0.out); rintro e w' ⟨rfl, ⟨nd, rfl⟩⟩; refine ⟨_, rfl, ?_⟩))
          go_roundg k1
          case measure => have := HK1.out; omega
          case rel => exact ⟨(x3_1), (wrap64 (x4_1 + 1)), (by first | rfl | exact isE_ _ | exact isE2_ _ | (simp; done) | (simp [*]; done)), H', ⟨by have := HK1.out; omega⟩, ⟨by (with_reducible repeat (first | apply Kd.R_alloc | apply Kd.R_drewN | apply Kd.R_drew)); exact HO_3.out⟩, ⟨by repeat (first | (with_reducible first | exact HB.out | apply below_alloc | apply pw_below_drewN | apply below_drew1) | exact HB.out)⟩⟩
      · rw [if_neg c4] at H
        have c4b0 : decide (x4_1 < 256) = false := decide_eq_false c4
        clear c4
        obtain rfl := Option.some.inj H
        have hcv9 := own_string (P := Try.prog) Try.underlying80 Try.underlying5 Try.underlying9 (Kd.own_of_R HO_3.out)
        go_wp2
        go_ret
        exact ⟨by first | rfl | (simp [errW_none, errW_some] <;> rfl) | (simp [*, errW_none, errW_some] <;> rfl), by repeat (first | (with_reducible first | exact HB.out | apply below_alloc | apply pw_below_drewN | apply below_drew1) | exact HB.out)⟩

end Go.Proofs.Ytbkcjeopcjghgaa.P

/- Layer 18's reference: does a byte stand in a pattern; no condition beyond the sizes that stand in each statement. -/
namespace Go.Proofs.Ytbkcjeopcjghgaa.Base
open Go Go.RowKit Go.Proofs.YtbkcjeopcjghgaaW.PrintWords Go.Proofs.YtbkcjeopcjghgaaW.PrintMore Go.Proofs.Ytbkcjeopcjghgaa.P
set_option linter.unusedVariables false

theorem rhas_ev (w : List ByteArray) (hl : w.length ≤ 65535) (hz : ∀ s ∈ w, s.size ≤ 65535) (c : Nat) : Ev (fun k => juratref18_Has.f k w (c : Int)) (markB w c) := by
  have k1 : ∀ (i : Nat) (s : ByteArray), w[i]? = some s → ∀ (R : Bool), Ev (fun k => juratref18_Has.l0 k w (c : Int) ((i + 1 : Nat) : Int)) R → ∀ (d j : Nat), j + d = s.size → Ev (fun k => juratref18_Has.l1 k w (c : Int) (i : Int) (j : Int)) (((LL s).drop j).any (fun x => decide (x.toNat = c)) || R) := by
    intro i s hs R hR d
    have hi : i < w.length := (List.getElem?_eq_some_iff.1 hs).1
    have hsz := hz s (List.mem_of_getElem? hs)
    have e1 : rdOf ByteArray.empty w (i : Int) = s := by
      show w.getD (i : Int).toNat ByteArray.empty = _
      rw [Int.toNat_natCast, List.getD_eq_getElem?_getD, hs]
      rfl
    induction d with
    | zero =>
      intro j hj
      rw [List.drop_of_length_le (by rw [LL_length]; omega)]
      refine Ev.step (fun k => ?_) hR
      simp only [juratref18_Has.l1]
      rw [if_pos (by omega), if_pos (by omega), e1, if_neg (by omega), wrap_id (by omega) (by omega)]
      rfl
    | succ d ih =>
      intro j hj
      have hj2 : j < (LL s).length := by rw [LL_length]; omega
      have eb : bt s (j : Int) = (((LL s)[j]).toNat : Int) := by
        rw [bt_eq, Int.toNat_natCast, List.getD_eq_getElem?_getD, List.getElem?_eq_getElem hj2]
        rfl
      rw [List.drop_eq_getElem_cons hj2, List.any_cons]
      by_cases h : ((LL s)[j]).toNat = c
      · rw [decide_eq_true h, Bool.true_or, Bool.true_or]
        refine Ev.ret fun k => ?_
        simp only [juratref18_Has.l1]
        rw [if_pos (by omega), if_pos (by omega), e1, if_pos (by omega), if_pos (by omega), eb, if_pos (by omega)]
      · rw [decide_eq_false h, Bool.false_or]
        refine Ev.step (fun k => ?_) (ih (j + 1) (by omega))
        simp only [juratref18_Has.l1]
        rw [if_pos (by omega), if_pos (by omega), e1, if_pos (by omega), if_pos (by omega), eb, if_neg (by omega), wrap_id (by omega) (by omega)]
        rfl
  have k0 : ∀ (d i : Nat), i + d = w.length → Ev (fun k => juratref18_Has.l0 k w (c : Int) (i : Int)) (markB (w.drop i) c) := by
    intro d
    induction d with
    | zero =>
      intro i hi
      rw [List.drop_of_length_le (by omega)]
      refine Ev.ret fun k => ?_
      simp only [juratref18_Has.l0]
      rw [if_neg (by omega)]
      rfl
    | succ d ih =>
      intro i hi
      have hi2 : i < w.length := by omega
      have hr := k1 i w[i] (List.getElem?_eq_getElem hi2) _ (ih (i + 1) (by omega)) w[i].size 0 (by omega)
      rw [List.drop_zero] at hr
      have e : markB (w.drop i) c = ((LL w[i]).any (fun x => decide (x.toNat = c)) || markB (w.drop (i + 1)) c) := by
        rw [List.drop_eq_getElem_cons hi2]
        rfl
      rw [e]
      refine Ev.step (fun k => ?_) hr
      simp only [juratref18_Has.l0]
      rw [if_pos (by omega)]
      rfl
  have := k0 w.length 0 (by omega)
  rw [List.drop_zero] at this
  exact this
/-- The bytes that stand in patterns, as the reference gathers them. -/
theorem rbytes_ev (w : List ByteArray) (hl : w.length ≤ 65535) (hz : ∀ s ∈ w, s.size ≤ 65535) : Ev (fun k => juratref18_Bytes.f k w) (strOfNums (clEnd (clMarks w) 256).2) := by
  have key : ∀ (d c : Nat), c + d = 256 → Ev (fun k => juratref18_Bytes.l0 k w (clEnd (clMarks w) c).2 (c : Int)) (strOfNums (clEnd (clMarks w) 256).2) := by
    intro d
    induction d with
    | zero =>
      intro c hc
      obtain rfl : c = 256 := by omega
      refine Ev.ret fun k => ?_
      simp only [juratref18_Bytes.l0]
      rw [if_neg (by decide)]
    | succ d ih =>
      intro c hc
      have hc2 : c < 256 := by omega
      have e0 : ((c : Int) % 256) = (c : Int) := by omega
      have hlen := (clEnd_length (clMarks w) c).2
      have hm := clMarks_at w hc2
      have hx := ih (c + 1) (by omega)
      refine Ev.step (f := fun k => (juratref18_Has.f k w (c : Int)).bind fun t => (if t = true then (juratref18_Bytes.l0 k w ((clEnd (clMarks w) c).2 ++ [(c : Int)]) ((c + 1 : Nat) : Int)) else (juratref18_Bytes.l0 k w (clEnd (clMarks w) c).2 ((c + 1 : Nat) : Int)))) (fun k => ?_) (Ev.bind (rhas_ev w hl hz c) ?_)
      · simp only [juratref18_Bytes.l0]
        rw [if_pos (by omega), e0, wrap_id (x := (c : Int) + 1) (by omega) (by omega), if_pos (show (clEnd (clMarks w) c).2.length < 140737488355328 by omega)]
        rfl
      · by_cases h : markB w c = true
        · refine Ev.congr (fun k => if_pos h) ?_
          rw [if_pos h] at hm
          have e : (clEnd (clMarks w) (c + 1)).2 = (clEnd (clMarks w) c).2 ++ [(c : Int)] := by simp only [clEnd]; rw [if_pos (by rw [hm]; decide)]
          rw [← e]
          exact hx
        · refine Ev.congr (fun k => if_neg h) ?_
          rw [if_neg h] at hm
          have e : (clEnd (clMarks w) (c + 1)).2 = (clEnd (clMarks w) c).2 := by simp only [clEnd]; rw [if_neg (by rw [hm]; decide)]
          rw [← e]
          exact hx
  exact key 256 0 (by omega)
end Go.Proofs.Ytbkcjeopcjghgaa.Base

/- Proved here: what Go functions of this seat compute, or a law of it; no condition beyond the statement's own. Written for this claim by a program of this session (wip/myprint.py) over the kit's print.py. -/
namespace Go.Proofs.Ytbkcjeopcjghgaa.P
open Go.RowKit Go.Proofs.YtbkcjeopcjghgaaW.PrintWords Go.Proofs.YtbkcjeopcjghgaaW.PrintLast Go.Proofs.YtbkcjeopcjghgaaW.PrintMore
attribute [local go_sem] max2_int min2_int max_two min_two max_three min_three max_four min_four   -- for this text's walks alone
set_option linter.unusedVariables false
set_option linter.unusedSimpArgs false

/-! ### juratref19_Row: function 32 -/
def juratref19_Row.l0 : Nat → List ByteArray → Int → List Int → ByteArray → Int → Option (List Int)
  | 0, _, _, _, _, _ => none
  | k + 1, x1, x2, x7, x8, x9 => if x9 < (x8.size : Int) then (if 0 ≤ x9 then ((juratref17_Step.f k x1 x2 (bt x8 x9)).bind fun t321 => (if x7.length < 17592186044416 then (juratref19_Row.l0 k x1 x2 (x7 ++ [t321]) x8 (wrap64 (x9 + 1))) else (none))) else (none)) else (some x7)
def juratref19_Row.f (k : Nat) (l0 : List ByteArray) (l1 : List ByteArray) (a2 : Int) : Option (List Int) := (juratref18_Bytes.f k l0).bind fun t320 => (juratref19_Row.l0 k l1 a2 (([0] : List Int)) t320 0)
theorem juratref19_Row.mono_l : ∀ k, (∀ y0 y1 y2 y3 y4, LeO (juratref19_Row.l0 k y0 y1 y2 y3 y4) (juratref19_Row.l0 (k + 1) y0 y1 y2 y3 y4))
  | 0 => fun _ _ _ _ _ r h => by simp [juratref19_Row.l0] at h
  | k + 1 => by
    have ih0 := juratref19_Row.mono_l k
    · intro y0 y1 y2 y3 y4
      unfold juratref19_Row.l0
      repeat' first
      | (with_reducible exact ih0 _ _ _ _ _)
      | (with_reducible exact juratref17_Step.mono _ _ _ _)
      | (with_reducible exact juratref18_Bytes.mono _ _)
      | (with_reducible exact LeO.refl _)
      | (with_reducible exact LeO.none _)
      | (with_reducible refine LeO.ite ?_ ?_)
      | (with_reducible refine LeO.bind ?_ (fun _ => ?_))
      | exact ih0 _ _ _ _ _
      | exact juratref17_Step.mono _ _ _ _
      | exact juratref18_Bytes.mono _ _
      | exact LeO.none _
      | refine LeO.ite ?_ ?_
      | refine LeO.bind ?_ (fun _ => ?_)
theorem juratref19_Row.mono : ∀ a0 a1 a2 k, LeO (juratref19_Row.f k a0 a1 a2) (juratref19_Row.f (k + 1) a0 a1 a2) := by
  intro a0 a1 a2 k
  have ih0 := juratref19_Row.mono_l k
  unfold juratref19_Row.f
  repeat' first
      | (with_reducible exact ih0 _ _ _ _ _)
      | (with_reducible exact juratref17_Step.mono _ _ _ _)
      | (with_reducible exact juratref18_Bytes.mono _ _)
      | (with_reducible exact LeO.refl _)
      | (with_reducible exact LeO.none _)
      | (with_reducible refine LeO.ite ?_ ?_)
      | (with_reducible refine LeO.bind ?_ (fun _ => ?_))
      | exact ih0 _ _ _ _ _
      | exact juratref17_Step.mono _ _ _ _
      | exact juratref18_Bytes.mono _ _
      | exact LeO.none _
      | refine LeO.ite ?_ ?_
      | refine LeO.bind ?_ (fun _ => ?_)
set_option maxHeartbeats 8000000 in
set_option maxRecDepth 100000 in
theorem juratref19_Row.calls (k : Nat) (A0 : Option Addr) (c0 : Nat) (l0 : List ByteArray) (A1 : Option Addr) (c1 : Nat) (l1 : List ByteArray) (a2 : Int) (r : List Int) (w : World) (hr0 : Kd.C Kd.string w A0 l0.length l0) (hc0 : l0.length ≤ c0) (hr1 : Kd.C Kd.string w A1 l1.length l1) (hc1 : l1.length ≤ c1) (h : juratref19_Row.f k l0 l1 a2 = some r) :
    Calls Try.prog 32 #[.slice A0 l0.length c0, .slice A1 l1.length c1, .int .i64 a2] w fun e w' => ∃ v0_ : Value, e = .returned (v0_) ∧ Kd.R (Kd.int .i64) 3 w' w.heap.size (fun _ => True) v0_ r ∧ Below w.heap.size w w' := by
  have HR0 := Aside0.mk hr0
  have HC0 := Aside0.mk hc0
  clear hr0 hc0
  have HR1 := Aside0.mk hr1
  have HC1 := Aside0.mk hc1
  clear hr1 hc1
  have HB := Aside0.mk (Below.refl w.heap.size w)
  have H : ((juratref18_Bytes.f k l0).bind fun t320 => (juratref19_Row.l0 k l1 a2 (([0] : List Int)) t320 0)) = some r := h
  clear h
  obtain ⟨y317, hy317⟩ : ∃ y_ : List Int, y_ = (([0] : List Int)) := ⟨_, rfl⟩
  replace H : ((juratref18_Bytes.f k l0).bind fun t320 => (juratref19_Row.l0 k l1 a2 y317 t320 0)) = some r := by first | (rw [hy317]; with_reducible exact H) | (have H2_ := (Option.bind_some _ _).symm.trans H; rw [hy317]; with_reducible exact H2_) | (have H2_ := (Option.bind_some _ _).symm.trans H; with_reducible exact H2_) | with_reducible exact H | (rw [hy317]; exact H) | exact H
  have Ny317 := Aside0.mk hy317
  clear hy317
  replace H := Option.bind_eq_some_iff.mp H
  obtain ⟨t320, A40, H⟩ := H
  replace H : (juratref19_Row.l0 k l1 a2 y317 t320 0) = some r := H
  have A4 := Aside0.mk A40
  clear A40
  have H' := Aside0.mk H
  clear H
  go_enter Try.func32, Try.ntmps32
  go_wp2_with (first | ((with_reducible refine gate_dst (N := 10) rfl ?_); refine Kd.R_lit (Kd.int .i64) _ 3 ?hg (N := 10) ?hd (xs := ([0] : List Int)) (inner := [.int .i64 0]) (ok := fun _ => True) (okp := fun _ => True) ?hr ?hp (fun _ hk => hk) trivial (Below.refl _ _) (Nat.le_refl _) (by simp) ?_; (case hd => rfl); (case hg => rfl); (case hr => first | (go_simp; done) | (go_simp; rfl)); (case hp => exact (Reps.one (show Kd.M (Kd.int .i64) _ _ _ 0 [.int .i64 0] from rfl) (Reps.none _ _))); intro v318 w5 ho6 hb hg_ hnew_; clear hg_ hnew_; (first | rw [← Ny317.out] at ho6 | (simp only [Int.reduceToNat] at ho6; rw [← Ny317.out] at ho6)); have n0_ := Aside0.mk (Kd.R_lower ho6 (below_size (by repeat (first | (with_reducible first | exact HB.out | apply below_alloc | apply pw_below_drewN | apply below_drew1) | exact HB.out)))); have n1_ := Aside0.mk (below_step (by repeat (first | (with_reducible first | exact HB.out | apply below_alloc | apply pw_below_drewN | apply below_drew1) | exact HB.out)) hb); clear HB; have HO319 := n0_; have HB := n1_; clear n0_ n1_; clear hb ho6) | ((with_reducible refine gate_callee (f := 27) rfl ?_); refine goesL_ (some 12) rfl rfl Try.func27 (by kernel_rfl) rfl #[.slice A0 l0.length c0] rfl (by (try simp only [List.map_toArray, List.map_cons, List.map_nil]); first | done | rfl | (simp only [List.length_drop, List.length_take]; rfl)) ?_; (with_reducible refine (juratref18_Bytes.calls k _ _ l0 t320 _ ?side1 ?side2 A4.out).mono ?_); (case side1 => repeat (first | exact (Kd.C_below HR0.out HB.out) | (with_reducible refine Kd.C_alloc ?_ _) | (with_reducible refine Kd.C_drewN ?_ _) | (with_reducible refine Kd.C_drew ?_))); (case side2 => exact HC0.out); rintro e w7 ⟨rfl, hb⟩; refine ⟨_, rfl, ?_⟩; have n0_ := Aside0.mk (Kd.R_below (by (with_reducible repeat (first | apply Kd.R_alloc | apply Kd.R_drewN | apply Kd.R_drew)); exact HO319.out) hb); have n1_ := Aside0.mk (below_step (by repeat (first | (with_reducible first | exact HB.out | apply below_alloc | apply pw_below_drewN | apply below_drew1) | exact HB.out)) hb); clear HO319; clear HB; have HO319 := n0_; have HB := n1_; clear n0_ n1_; (try clear hb); (try clear hb2); (try clear hk); (try clear hi)))
  go_loopg [7, 9] k (fun kq v7 v9 w' => ∃ (x7_1 : List Int) (x9_1 : Int), v9 = .int .i64 x9_1 ∧ Aside0 (juratref19_Row.l0 kq l1 a2 x7_1 t320 x9_1 = some r) ∧ Aside0 (kq ≤ k) ∧ Aside0 (Kd.R (Kd.int .i64) 3 w' w.heap.size (fun _ => True) v7 x7_1) ∧ Aside0 (Below w.heap.size w w'))
  case atStart => exact ⟨(y317), (0), (by first | rfl | exact isE_ _ | exact isE2_ _ | (simp; done) | (simp [*]; done)), H', ⟨Nat.le_refl _⟩, ⟨by (with_reducible repeat (first | apply Kd.R_alloc | apply Kd.R_drewN | apply Kd.R_drew)); exact HO319.out⟩, ⟨by repeat (first | (with_reducible first | exact HB.out | apply below_alloc | apply pw_below_drewN | apply below_drew1) | exact HB.out)⟩⟩
  case round =>
    clear H'
    try clear c1
    try clear c2
    try clear p2
    try clear c3
    obtain ⟨x7_1, x9_1, rfl, HA, HK1, HO_7, HB⟩ := hrel
    cases gk with
    | zero => exact absurd HA.out (by simp [juratref19_Row.l0])
    | succ k1 =>
      have H := HA.out
      clear HA
      simp only [juratref19_Row.l0] at H
      by_cases c8 : x9_1 < (t320.size : Int)
      · rw [if_pos c8] at H
        have c8b0 : decide (x9_1 < (t320.size : Int)) = true := decide_eq_true c8
        clear c8
        by_cases c9 : 0 ≤ x9_1
        · rw [if_pos c9] at H
          have c9b0 : decide (0 ≤ x9_1) = true := decide_eq_true c9
          clear c9
          replace H := Option.bind_eq_some_iff.mp H
          obtain ⟨t321, A110, H⟩ := H
          replace H : (if x7_1.length < 17592186044416 then (juratref19_Row.l0 k1 l1 a2 (x7_1 ++ [t321]) t320 (wrap64 (x9_1 + 1))) else (none)) = some r := H
          have A11 := Aside0.mk A110
          clear A110
          by_cases c12 : x7_1.length < 17592186044416
          · rw [if_pos c12] at H
            have LMc12 := Aside0.mk c12
            clear c12
            obtain ⟨y322, hy322⟩ : ∃ y_ : List Int, y_ = (x7_1 ++ [t321]) := ⟨_, rfl⟩
            replace H : (juratref19_Row.l0 k1 l1 a2 y322 t320 (wrap64 (x9_1 + 1))) = some r := by first | (rw [hy322]; with_reducible exact H) | (have H2_ := (Option.bind_some _ _).symm.trans H; rw [hy322]; with_reducible exact H2_) | (have H2_ := (Option.bind_some _ _).symm.trans H; with_reducible exact H2_) | with_reducible exact H | (rw [hy322]; exact H) | exact H
            have Ny322 := Aside0.mk hy322
            clear hy322
            have H' := Aside0.mk H
            clear H
            have p10 : 0 ≤ (x9_1 : Int) := of_decide_eq_true (by first | (with_reducible assumption) | assumption)
            have q10 : x9_1 < (t320.size : Int) := of_decide_eq_true (by first | (with_reducible assumption) | assumption)
            have hx10 := bt_at t320 x9_1
            replace p10 := eq_true p10
            replace q10 := eq_true q10
            go_wp2_with (first | ((with_reducible refine gate_callee (f := 24) rfl ?_); refine goesL_ (some 25) rfl rfl Try.func24 (by kernel_rfl) rfl #[.slice A1 l1.length c1, .int .i64 a2, .int .u8 (bt t320 x9_1)] rfl (by (try simp only [List.map_toArray, List.map_cons, List.map_nil]); first | done | rfl | (simp only [List.length_drop, List.length_take]; rfl)) ?_; (with_reducible refine (juratref17_Step.calls k1 _ _ l1 a2 (bt t320 x9_1) t321 _ ?side1 ?side2 A11.out).mono ?_); (case side1 => repeat (first | exact (Kd.C_below HR1.out HB.out) | (with_reducible refine Kd.C_alloc ?_ _) | (with_reducible refine Kd.C_drewN ?_ _) | (with_reducible refine Kd.C_drew ?_))); (case side2 => exact HC1.out); rintro e w13 ⟨rfl, hb⟩; refine ⟨_, rfl, ?_⟩; have n0_ := Aside0.mk (Kd.R_below (by (with_reducible repeat (first | apply Kd.R_alloc | apply Kd.R_drewN | apply Kd.R_drew)); exact HO_7.out) hb); have n1_ := Aside0.mk (below_step (by repeat (first | (with_reducible first | exact HB.out | apply below_alloc | apply pw_below_drewN | apply below_drew1) | exact HB.out)) hb); clear HO_7; clear HB; have HO_7 := n0_; have HB := n1_; clear n0_ n1_; (try clear hb); (try clear hb2); (try clear hk); (try clear hi)) | ((with_reducible refine gate_builtin (b := .append) (xs := #[.tmp 19, .tmp 26]) rfl ?_); at_builtin; refine Kd.R_append (Kd.int .i64) (w0 := w) w.heap.size rfl (.tmp 19) (.tmp 26) 52 3 (.int .i64 0) 8 rfl Try.underlying52 info3 rfl (by decide) (by omega) u7 x7_1 t321 [.int .i64 t321] (fun _ => True) (fun _ => False) rfl rfl ?aP (fun _ hk => hk.elim) ?aF ?aO ?aB ?aS ?aL ?_; (case aP => exact rfl); (case aB => exact (by repeat (first | (with_reducible first | exact HB.out | apply below_alloc | apply pw_below_drewN | apply below_drew1) | exact HB.out))); (case aF => exact (fun _ _ => trivial)); (case aO => exact (by (with_reducible repeat (first | apply Kd.R_alloc | apply Kd.R_drewN | apply Kd.R_drew)); exact HO_7.out)); (case aS => exact (below_size (by repeat (first | (with_reducible first | exact HB.out | apply below_alloc | apply pw_below_drewN | apply below_drew1) | exact HB.out)))); (case aL => have := LMc12.out; omega); intro v323 w14 ho hb hg hat; rw [← Ny322.out] at ho; have n0_ := Aside0.mk (hb); have n1_ := Aside0.mk (ho); clear HB; clear HO_7; have HB := n0_; have HO324 := n1_; clear n0_ n1_; clear ho hb hg hat))
            go_roundg k1
            case measure => have := HK1.out; omega
            case rel => exact ⟨(y322), (wrap64 (x9_1 + 1)), (by first | rfl | exact isE_ _ | exact isE2_ _ | (simp; done) | (simp [*]; done)), H', ⟨by have := HK1.out; omega⟩, ⟨by (with_reducible repeat (first | apply Kd.R_alloc | apply Kd.R_drewN | apply Kd.R_drew)); exact HO324.out⟩, ⟨by repeat (first | (with_reducible first | exact HB.out | apply below_alloc | apply pw_below_drewN | apply below_drew1) | exact HB.out)⟩⟩
          · rw [if_neg c12] at H
            exact absurd H (by simp)
        · rw [if_neg c9] at H
          exact absurd H (by simp)
      · rw [if_neg c8] at H
        have c8b0 : decide (x9_1 < (t320.size : Int)) = false := decide_eq_false c8
        clear c8
        obtain rfl := Option.some.inj H
        go_wp2
        go_ret
        exact ⟨_, by first | rfl | (simp [errW_none, errW_some] <;> rfl) | (simp [*, errW_none, errW_some] <;> rfl), by (with_reducible repeat (first | apply Kd.R_alloc | apply Kd.R_drewN | apply Kd.R_drew)); exact HO_7.out, by repeat (first | (with_reducible first | exact HB.out | apply below_alloc | apply pw_below_drewN | apply below_drew1) | exact HB.out)⟩

end Go.Proofs.Ytbkcjeopcjghgaa.P

/- Layer 19's reference: a state's row; no condition beyond the sizes that stand in each statement. -/
namespace Go.Proofs.Ytbkcjeopcjghgaa.Base
open Go Go.RowKit Go.Proofs.YtbkcjeopcjghgaaW.PrintWords Go.Proofs.YtbkcjeopcjghgaaW.PrintMore Go.Proofs.Ytbkcjeopcjghgaa.P
set_option linter.unusedVariables false

theorem clBytes_str (w : List ByteArray) : strOfNums (clEnd (clMarks w) 256).2 = strP (clBytes w) := rfl
theorem rrow_ev {w : List ByteArray} (ok : okT w) {i : Nat} {n : NodeD} (h : (trN w)[i]? = some n) (hsz : n.path.length ≤ 65536) : Ev (fun k => juratref19_Row.f k w (paths w) (i : Int)) (rowL w n.path) := by
  have hs := srt_of ok.1
  have hl := trN_le hs
  have hz := ok.2.2.2
  unfold trK at hl
  have hpl : (paths w).length ≤ 8796093022208 := by rw [paths_length]; omega
  have hcb := clBytes_length w
  have hwd := widN_le w
  have key : ∀ (d j : Nat), j + d = (clBytes w).length → Ev (fun k => juratref19_Row.l0 k (paths w) (i : Int) ((rowL w n.path).take (j + 1)) (strP (clBytes w)) (j : Int)) (rowL w n.path) := by
    intro d
    induction d with
    | zero =>
      intro j hj
      refine Ev.ret fun k => ?_
      simp only [juratref19_Row.l0]
      rw [if_neg (by rw [strP_size]; omega), List.take_of_length_le (by rw [rowL_length]; omega)]
    | succ d ih =>
      intro j hj
      have hjl : j < (clBytes w).length := by omega
      obtain ⟨b, hb⟩ : ∃ b, (clBytes w)[j] = b := ⟨_, rfl⟩
      have eb : bt (strP (clBytes w)) (j : Int) = (b.toNat : Int) := by
        rw [bt_eq, Int.toNat_natCast, LL_strP, List.getD_eq_getElem?_getD, List.getElem?_eq_getElem hjl, hb]
        rfl
      have e1 : (rowL w n.path)[j + 1]? = some (idxP w (stepP w n.path b)) := by
        show ((clBytes w).map fun b => idxP w (stepP w n.path b))[j]? = _
        rw [List.getElem?_map, List.getElem?_eq_getElem hjl, hb]
        rfl
      have e2 : (rowL w n.path).take (j + 1) ++ [idxP w (stepP w n.path b)] = (rowL w n.path).take (j + 1 + 1) := by
        rw [List.take_add_one (i := j + 1), e1]
        rfl
      have hx := ih (j + 1) (by omega)
      rw [← e2] at hx
      refine Ev.step (f := fun k => (juratref17_Step.f k (paths w) (i : Int) (b.toNat : Int)).bind fun t321 => juratref19_Row.l0 k (paths w) (i : Int) ((rowL w n.path).take (j + 1) ++ [t321]) (strP (clBytes w)) ((j + 1 : Nat) : Int)) (fun k => ?_) (Ev.bind (rstep_ev hs hpl h hsz b) hx)
      simp only [juratref19_Row.l0]
      rw [if_pos (by rw [strP_size]; omega), if_pos (by omega), eb, wrap_id (by omega) (by omega)]
      refine congrArg _ (funext fun t => ?_)
      rw [if_pos (show ((rowL w n.path).take (j + 1)).length < 17592186044416 by rw [List.length_take, rowL_length]; omega)]
      rfl
  unfold juratref19_Row.f
  have hb := rbytes_ev w ok.2.1 (fun s hs => (ok.2.2.1 s hs).2)
  rw [clBytes_str] at hb
  exact Ev.bind hb (key (clBytes w).length 0 (by omega))
/-- A state's row, as the table tells it. -/
theorem drow_ok {w : List ByteArray} (ok : okT w) {i : Nat} {n : NodeD} (h : (trN w)[i]? = some n) : dense_Table_Row.f (some (denD w)) (i : Int) = some (rowL w n.path) := by
  have hs := srt_of ok.1
  have hz := ok.2.2.2
  have hi : i < (trN w).length := (List.getElem?_eq_some_iff.1 h).1
  have hl := trN_le hs
  unfold trK at hl
  have hw1 := widN_le w
  have hw0 := wid_pos w
  have k1 : (i + 1) * widN w ≤ (trN w).length * widN w := Nat.mul_le_mul_right _ hi
  have k2 : (trN w).length * widN w ≤ 16777217 * 257 := Nat.mul_le_mul (by omega) hw1
  unfold dense_Table_Row.f
  have e0 : dnIs (some (denD w)) (i : Int) = true := decide_eq_true ⟨by omega, by show (i : Int) < (((trN w).length : Nat) : Int); omega⟩
  rw [if_pos e0]
  have e1 : dnRow (denD w) i = rowL w n.path := flat_get (widN w) (fun n => rowL w n.path) (fun n => rowL_length w _) (trN w) i n h
  simp only [Int.toNat_natCast]
  have hr : ∀ y ∈ rowL w n.path, 0 ≤ y ∧ y ≤ 2147483647 := fun y hy => by
    unfold rowL at hy
    rcases List.mem_cons.1 hy with rfl | hy
    · omega
    · obtain ⟨b, _, rfl⟩ := List.mem_map.1 hy
      obtain ⟨j, m, g1, g2, g3, g4, g5⟩ := idx_bound hs hz (lsufx_is hs (n.path ++ [b]))
      have e4 : idxP w (stepP w n.path b) = (j : Int) := g3
      rw [e4]
      omega
  rw [e1, if_pos ⟨⟨hw0, by show widN w ≤ _; omega, by show (i + 1) * widN w ≤ (denseT w).length; rw [denseT_length]; exact k1, by show (denseT w).length ≤ _; rw [denseT_length]; omega, by omega⟩, hr, by show widN w ≤ _; omega⟩]
end Go.Proofs.Ytbkcjeopcjghgaa.Base

/- The bytes that stand in patterns, as a text; for all classes, nil too. -/
namespace Go.Proofs.Ytbkcjeopcjghgaa.P
open Go Go.RowKit Go.Proofs.YtbkcjeopcjghgaaW.PrintWords Go.Proofs.YtbkcjeopcjghgaaW.PrintLast Go.Proofs.Ytbkcjeopcjghgaa.Base
set_option linter.unusedVariables false
set_option linter.unusedSimpArgs false

def class_Classes_Bytes.f (a0 : Option ClassD) : Option ByteArray := some (match a0 with | none => ByteArray.empty | some d => strOfNums d.bytes)
set_option maxHeartbeats 400000 in
theorem class_Classes_Bytes.calls (Pa0 : Option Addr) (a0 : Option ClassD) (r : ByteArray) (w : World) (ho : OB K84 w Pa0 a0) (h : class_Classes_Bytes.f a0 = some r) :
    Calls Try.prog 29 #[.pointer Pa0] w fun e w' => e = .returned (.string r) ∧ Drawn0 w w' := by
  obtain rfl := Option.some.inj h
  clear h
  cases a0 with
  | none =>
    obtain rfl := OB.p_none ho
    clear ho
    go_enter Try.func29, Try.ntmps29
    go_wp2
    go_ret
    exact ⟨rfl, Drawn0.refl _⟩
  | some d =>
    obtain ⟨a, rfl⟩ := OB.p_some ho
    obtain ⟨b, A, cp, rfl, hl, hb, hcp, hC⟩ := OB.at ho
    have hc : w.cell? ⟨b, 256, none⟩ = some (.slice A d.bytes.length cp) := (blk_cell hb 256).trans (arCells_last hl)
    have hS := Kd.C_string (P := Try.prog) (dst := 9) (c := cp) Try.underlying80 Try.underlying5 Try.underlying9 hC
    change Calls Try.prog _ _ _ fun e w' => e = .returned (.string (strOfNums d.bytes)) ∧ Drawn0 w w'
    generalize d.bytes.length = n at hc hS
    generalize strOfNums d.bytes = s at hS ⊢
    clear ho hb hl hC hcp
    go_enter Try.func29, Try.ntmps29
    go_wp2
    go_ret
    exact ⟨rfl, Drawn0.refl _⟩
end Go.Proofs.Ytbkcjeopcjghgaa.P

/- Layer 19's law on what a table tells of its states: the walk. -/
namespace Go.Proofs.Ytbkcjeopcjghgaa.P
open Go Go.Sort Go.RowKit Go.Proofs.YtbkcjeopcjghgaaW.PrintWords Go.Proofs.YtbkcjeopcjghgaaW.PrintLast Go.Proofs.YtbkcjeopcjghgaaW.PrintMore Go.Proofs.Ytbkcjeopcjghgaa.Base
set_option linter.unusedVariables false
set_option linter.unusedSimpArgs false

def juratlaw19_DenseTells.f (l0 : List ByteArray) (a1 a2 : Int) : Option Bool := if (0 ≤ a1 ∧ a1 ≤ 255) ∧ l0.length * 16 ≤ 140737488351232 then some true else none
theorem few19 {A0 : Option Addr} {c0 : Nat} {l0 : List ByteArray} (hl : l0.length ≤ 9223372036854775806) : ∃ r : Bool, (r = (decide ((l0.length : Int) ≤ 8) && fewB l0 12)) ∧ ∀ w : World, Kd.C Kd.string w A0 l0.length l0 → l0.length ≤ c0 → Calls Try.prog 7 #[.slice A0 l0.length c0, .int .i64 8, .int .i64 12] w fun e w' => e = .returned (.bool r) ∧ Drawn0 w w' := by
  obtain ⟨k, hk⟩ := Ev.all (few_ev l0 8 12 (by omega))
  exact ⟨_, rfl, fun w h1 h2 => juratref09_Few.calls k A0 c0 l0 8 12 _ w h1 h2 hk⟩
theorem awake19_in (w : World) : Calls Try.prog 8 #[] w fun e w' => e = .returned (.bool true) ∧ Below w.heap.size w w' := by
  obtain ⟨k, hk⟩ := Ev.all awake19
  exact juratlaw19_awake.calls k true w hk
/-- Texts that are few make a set whose table is made. -/
theorem few_dense {l w : List ByteArray} {x : Option SetD} {e : Int} (h : SetOk l x w e) (h1 : (decide ((l.length : Int) ≤ 8) && fewB l 12) = true) : dense_New.f x = some (some (denD w)) ∧ okT w ∧ w.length ≤ 8 ∧ (∀ t ∈ w, t.size ≤ 12) ∧ (paths w).length ≤ 97 := by
  rw [Bool.and_eq_true, decide_eq_true_iff] at h1
  have hw20 : ∀ t ∈ w, t.size ≤ 12 := fun t ht => by have := fewB_iff.1 h1.2 t (h.mem t ht); omega
  have h3 := h.len
  have h2 := sizes_le 12 w hw20
  have h4 : w.length * 12 ≤ 8 * 12 := Nat.mul_le_mul (by omega) (Nat.le_refl _)
  obtain ⟨hT, ok⟩ := dense_ok h (by omega)
  refine ⟨hT, ok, by omega, hw20, ?_⟩
  rw [paths_length]
  have := trN_le (srt_of ok.1)
  unfold trK at this
  omega
theorem path_short {w : List ByteArray} (hs : srt w) (hz : ∀ t ∈ w, t.size ≤ 12) {i : Nat} {n : NodeD} (h : (trN w)[i]? = some n) : n.path.length ≤ 12 := by
  rcases path_is hs h with h1 | ⟨t, ht, hp⟩
  · rw [h1]; decide
  · have h2 := hp.length_le
    rw [LL_length] at h2
    have := hz _ (getD_mem w t ByteArray.empty ht)
    omega
set_option maxRecDepth 100000 in
set_option maxHeartbeats 16000000 in
theorem tells_in (A0 : Option Addr) (c0 : Nat) (l0 : List ByteArray) (cb : UInt8) (no : Int) (w : World) (hr0 : Kd.C Kd.string w A0 l0.length l0) (hc0 : l0.length ≤ c0) (hl : l0.length ≤ 9223372036854775806) :
    Calls Try.prog 6 #[.slice A0 l0.length c0, .int .u8 (cb.toNat : Int), .int .i64 no] w fun e w' => e = .returned (.bool true) ∧ Below w.heap.size w w' := by
  obtain ⟨r, hr, hFew⟩ := few19 (A0 := A0) (c0 := c0) hl
  obtain ⟨x, lw, er, hok⟩ := set_ok l0
  obtain ⟨kn, hkn⟩ := Ev.all (rnew_ok hok)
  have hNew := fun (W : World) (h : Kd.C Kd.string W A0 l0.length l0) => pats_New.calls A0 c0 l0 x er W h hc0 hok.hn
  have hRN := fun (W : World) (h : Kd.C Kd.string W A0 l0.length l0) => juratref10_New.calls kn A0 c0 l0 lw er W h hc0 hkn
  have HFEW := Aside0.mk hFew
  have HNEW := Aside0.mk hNew
  have HRN := Aside0.mk hRN
  have HOK := Aside0.mk hok
  have HC := Aside0.mk hr0
  have HR := Aside0.mk hr
  clear hFew hNew hRN hok hr0 hr hkn
  cases r with
  | false =>
    generalize (cb.toNat : Int) = cc
    go_enter Try.func6, Try.ntmps6
    go_wp2_with (first
      | (go_at_call 7; refine (HFEW.out _ HC.out hc0).mono ?_; rintro e w' ⟨rfl, ⟨q, rfl⟩⟩)
      | (go_at_call 8; refine (awake19_in _).mono ?_; rintro e w' ⟨rfl, hb⟩; have HBa := Aside0.mk hb; clear hb))
    go_ret
    exact ⟨rfl, below_step (pw_below_drewN (Below.refl _ _) q) HBa.out⟩
  | true =>
    obtain ⟨hT, hokT, hw8, hw12, hpl⟩ := few_dense HOK.out HR.out.symm
    have hsrt := srt_of hokT.1
    have hDn := fun (W : World) (P : Option Addr) (h : OB K57 W P x) => dense_New.calls P x (some (denD lw)) W h hT
    obtain ⟨ks, hks⟩ := Ev.all (rstates_ev lw hokT)
    have hSt := fun (W : World) (A : Option Addr) (c : Nat) (h : Kd.C Kd.string W A lw.length lw) (hc : lw.length ≤ c) => juratref16_States.calls ks A c lw (paths lw) W h hc hks
    obtain ⟨kb, hkb⟩ := Ev.all (rbytes_ev lw hokT.2.1 (fun s hs => (hokT.2.2.1 s hs).2))
    obtain ⟨sB, hsB⟩ : ∃ s, strOfNums (clEnd (clMarks lw) 256).2 = s := ⟨_, rfl⟩
    have hsB2 : sB.size + 1 = widN lw := by rw [← hsB, clBytes_str, strP_size, clBytes_length]
    rw [hsB] at hkb
    have hRB := fun (W : World) (A : Option Addr) (c : Nat) (h : Kd.C Kd.string W A lw.length lw) (hc : lw.length ≤ c) => juratref18_Bytes.calls kb A c lw sB W h hc hkb
    have hLn := fun W P g => dense_Table_Len.calls P (some (denD lw)) ((paths lw).length : Int) W g (by rw [paths_length]; rfl)
    have hWd := fun W P g => dense_Table_Width.calls P (some (denD lw)) ((sB.size : Int) + 1) W g (by
      show some ((widN lw : Nat) : Int) = _
      rw [← hsB2]
      rfl)
    have hCl := fun W P g => dense_Table_Classes.calls P (some (denD lw)) (some (classD lw)) W g rfl
    have hCb := fun W P g => class_Classes_Bytes.calls P (some (classD lw)) sB W g (by rw [← hsB]; rfl)
    have hsz : sB.size ≤ 256 := by have := widN_le lw; omega
    have HDN := Aside0.mk hDn
    have HST := Aside0.mk hSt
    have HRB := Aside0.mk hRB
    have HLN := Aside0.mk hLn
    have HWD := Aside0.mk hWd
    have HCL := Aside0.mk hCl
    have HCB := Aside0.mk hCb
    have HSRT := Aside0.mk hsrt
    have HOKT := Aside0.mk hokT
    have HW12 := Aside0.mk hw12
    have hcw : (sB.size : Int) + 1 ≤ 257 := by omega
    clear hT hDn hks hSt hRB hkb hsB hsB2 hLn hWd hCl hCb hsrt hokT hw12 HR
    obtain ⟨cc, hcc⟩ : ∃ cc : Nat, cb.toNat = cc := ⟨_, rfl⟩
    rw [hcc]
    have HCC := Aside0.mk hcc
    clear hcc
    go_enter Try.func6, Try.ntmps6
    go_wp2_with (first
      | (go_at_call 7; refine (HFEW.out _ HC.out hc0).mono ?_; rintro e w' ⟨rfl, ⟨q, rfl⟩⟩; have HB1 := Aside0.mk (pw_below_drewN (Below.refl w.heap.size w) q))
      | (go_at_call 9; refine (HNEW.out _ (Kd.C_below HC.out HB1.out)).mono ?_; rintro e W2 ⟨Px, rfl, hox, hb⟩; have HX2 := Aside0.mk hox; have HB2 := Aside0.mk (below_step HB1.out hb); clear hox hb)
      | (go_at_call 10; refine (HRN.out _ (Kd.C_below HC.out HB2.out)).mono ?_; rintro e W3 ⟨vl, rfl, hR, hb⟩; have HX3 := Aside0.mk (OB.below hb HX2.out); have HB3 := Aside0.mk (below_step HB2.out hb); obtain ⟨A1, c1, rfl⟩ := Kd.R_slice hR; obtain ⟨_, hc1, hC1⟩ := Kd.R_reads' hR; have HL3 := Aside0.mk hC1; clear hR hb hC1)
      | (go_at_call 11; refine (HDN.out _ _ HX3.out).mono ?_; rintro e W4 ⟨Pt, rfl, hob, hb⟩; have HT4 := Aside0.mk hob; have HB4 := Aside0.mk (below_step HB3.out hb); have HL4 := Aside0.mk (Kd.C_below HL3.out hb); clear hob hb)
      | (go_at_call 12; refine (HST.out _ _ _ HL4.out hc1).mono ?_; rintro e W5 ⟨vp, rfl, hR, hb⟩; have HT5 := Aside0.mk (OB.below hb HT4.out); have HB5 := Aside0.mk (below_step HB4.out hb); have HL5 := Aside0.mk (Kd.C_below HL4.out hb); obtain ⟨A2, c2, rfl⟩ := Kd.R_slice hR; obtain ⟨_, hc2, hC2⟩ := Kd.R_reads' hR; have HP5 := Aside0.mk hC2; clear hR hb hC2)
      | (go_at_call 25; refine (HLN.out _ _ HT5.out).mono ?_; rintro e W6 ⟨rfl, hd⟩; have HB6 := Aside0.mk (hd.below); clear hd)
      | (go_at_call 26; refine (HWD.out _ _ (OB.below HB6.out HT5.out)).mono ?_; rintro e W7 ⟨rfl, hd⟩; have HB7 := Aside0.mk (below_step HB6.out hd.below); clear hd)
      | (go_at_call 28; refine (HCL.out _ _ (OB.below HB8.out HT5.out)).mono ?_; rintro e W9 ⟨Pc, rfl, hoc, hd⟩; have HPC := Aside0.mk hoc; have HB9 := Aside0.mk (below_step HB8.out hd.below); clear hd hoc)
      | (go_at_call 29; refine (HCB.out _ _ HPC.out).mono ?_; rintro e W10 ⟨rfl, hd⟩; have HB10 := Aside0.mk (below_step HB9.out hd.below); clear hd)
      | (go_at_call 27; refine (HRB.out _ _ _ (Kd.C_below HL5.out HB10.out) hc1).mono ?_; rintro e W11 ⟨rfl, hd⟩; have HB11 := Aside0.mk (below_step HB10.out hd); clear hd)
      | (go_at_call 27; refine (HRB.out _ _ _ (Kd.C_below HL5.out HB7.out) hc1).mono ?_; rintro e W8 ⟨rfl, hd⟩; have HB8 := Aside0.mk (below_step HB7.out hd); clear hd))
    have HT6 := Aside0.mk (OB.below HB11.out HT5.out)
    have HL6 := Aside0.mk (Kd.C_below HL5.out HB11.out)
    have HP6 := Aside0.mk (Kd.C_below HP5.out HB11.out)
    have HBA := Aside0.mk (below_step HB5.out HB11.out)
    clear HT5 HL5 HP5 HB5 HT4 HL4 HB4 HX3 HL3 HB3 HX2 HB2 HB1 HB6 HB7 HB8 HB9 HB10 HB11 HPC HC HFEW HNEW HRN HDN HST HLN HWD HCL HCB HRB
    have b01 : (0 : Int) ≤ ((paths lw).length : Int) := by omega
    have hStepN := fun (W : World) (i : Int) (z : Int) (h : Below W11.heap.size W11 W) (hz : dense_Table_Step.f (some (denD lw)) i (cc : Int) = some z) => dense_Table_Step.calls Pt (some (denD lw)) i (cc : Int) z W (OB.below h HT6.out) hz
    have hRowN := fun (W : World) (i : Int) (z : List Int) (h : Below W11.heap.size W11 W) (hz : dense_Table_Row.f (some (denD lw)) i = some z) => dense_Table_Row.calls Pt (some (denD lw)) i z W (OB.below h HT6.out) hz
    have HSTEP := Aside0.mk hStepN
    have HROW := Aside0.mk hRowN
    clear hStepN hRowN
    go_loopg [13] (paths lw).length (fun kx v W => ∃ (i : Nat), v = .int .i64 i ∧ i ≤ (paths lw).length ∧ (paths lw).length - i ≤ kx ∧ Aside0 (Below W11.heap.size W11 W))
    case atStart => exact ⟨0, rfl, Nat.zero_le _, by omega, ⟨Below.refl _ _⟩⟩
    case round =>
      obtain ⟨i, rfl, hi, hix, HB⟩ := hrel
      by_cases hlt : i < (paths lw).length
      · obtain ⟨n, hn⟩ : ∃ n, (trN lw)[i]? = some n := ⟨_, List.getElem?_eq_getElem (by rw [← paths_length]; exact hlt)⟩
        have hd : decide ((i : Int) < ((paths lw).length : Int)) = true := decide_eq_true (by omega)
        have hps := path_short HSRT.out HW12.out hn
        have hst := dstep_ok HOKT.out hn cb
        obtain ⟨k1, hk1⟩ := Ev.all (rstep_ev HSRT.out (by omega) hn (by omega) cb)
        obtain ⟨z, hz⟩ : ∃ z, idxP lw (stepP lw n.path cb) = z := ⟨_, rfl⟩
        rw [hz, HCC.out] at hst hk1
        have hrw := drow_ok HOKT.out hn
        obtain ⟨k2, hk2⟩ := Ev.all (rrow_ev HOKT.out hn (by omega))
        obtain ⟨R, hR⟩ : ∃ R, rowL lw n.path = R := ⟨_, rfl⟩
        have hRl : R.length ≤ 257 := by rw [← hR, rowL_length]; exact widN_le lw
        rw [hR] at hrw hk2
        obtain ⟨k3, hk3⟩ := Ev.all (same1 R R (by omega))
        rw [decide_eq_true rfl] at hk3
        have hA1 := fun (W : World) (h : Below W11.heap.size W11 W) => HSTEP.out W (i : Int) z h hst
        have hA2 := fun (W : World) (h : Below W11.heap.size W11 W) => juratref17_Step.calls k1 A2 c2 (paths lw) (i : Int) (cc : Int) z W (Kd.C_below HP6.out h) hc2 hk1
        have hA3 := fun (W : World) (h : Below W11.heap.size W11 W) => HROW.out W (i : Int) R h hrw
        have hA4 := fun (W : World) (h : Below W11.heap.size W11 W) => juratref19_Row.calls k2 A1 c1 lw A2 c2 (paths lw) (i : Int) R W (Kd.C_below HL6.out h) hc1 (Kd.C_below HP6.out h) hc2 hk2
        have hA5 := fun (W : World) (B1 B2 : Option Addr) (d1 d2 : Nat) (g1 : Kd.C (Kd.int .i64) W B1 R.length R) (g2 : R.length ≤ d1) (g3 : Kd.C (Kd.int .i64) W B2 R.length R) (g4 : R.length ≤ d2) => juratref01_Same.calls k3 B1 d1 R B2 d2 R true W g1 g2 g3 g4 hk3
        have HA1 := Aside0.mk hA1
        have HA2 := Aside0.mk hA2
        have HA3 := Aside0.mk hA3
        have HA4 := Aside0.mk hA4
        have HA5 := Aside0.mk hA5
        clear hn hps hst hk1 hz hrw hk2 hR hRl hk3 hA1 hA2 hA3 hA4 hA5
        go_wp2_with (first
          | (go_at_call 13; refine (HA1.out _ HB.out).mono ?_; rintro e Wa ⟨rfl, hd⟩; have HBa := Aside0.mk (below_step HB.out hd.below); clear hd)
          | (go_at_call 24; refine (HA2.out _ HBa.out).mono ?_; rintro e Wb ⟨rfl, hd⟩; have HBb := Aside0.mk (below_step HBa.out hd); clear hd)
          | (go_at_call 31; refine (HA3.out _ HBb.out).mono ?_; rintro e Wc ⟨va, rfl, hRa, hd⟩; have HBc := Aside0.mk (below_step HBb.out hd); obtain ⟨B1, d1, rfl⟩ := Kd.R_slice hRa; obtain ⟨_, hd1, hCa⟩ := Kd.R_reads' hRa; have HCa := Aside0.mk hCa; clear hd hRa hCa)
          | (go_at_call 32; refine (HA4.out _ HBc.out).mono ?_; rintro e Wd ⟨vb, rfl, hRb, hd⟩; have HBd := Aside0.mk (below_step HBc.out hd); have HCc := Aside0.mk (Kd.C_below HCa.out hd); obtain ⟨B2, d2, rfl⟩ := Kd.R_slice hRb; obtain ⟨_, hd2, hCb⟩ := Kd.R_reads' hRb; have HCb := Aside0.mk hCb; clear hd hRb hCb)
          | (go_at_call 30; refine (HA5.out _ _ _ _ _ HCc.out hd1 HCb.out hd2).mono ?_; rintro e We ⟨rfl, hd⟩; have HBe := Aside0.mk (below_step HBd.out hd.below); clear hd))
        go_roundg ((paths lw).length - (i + 1))
        case measure => omega
        case rel => exact ⟨i + 1, by go_num, by omega, Nat.le_refl _, HBe⟩
      · obtain rfl : i = (paths lw).length := by omega
        have hd : decide (((paths lw).length : Int) < ((paths lw).length : Int)) = false := decide_eq_false (by omega)
        have hn0 : dnIs none no = false := decide_eq_false (by show ¬ (0 ≤ no ∧ no < ((0 : Nat) : Int)); omega)
        have hs0 : dense_Table_Step.f none no (cc : Int) = some 0 := if_neg (by rw [hn0]; decide)
        have hr0 : dense_Table_Row.f none no = some [] := if_neg (by rw [hn0]; decide)
        have HS0 := Aside0.mk hs0
        have HR0 := Aside0.mk hr0
        clear hs0 hr0 hn0
        go_upto_region 17 with (first
          | (go_at_call 25; refine (dense_Table_Len.calls none none 0 _ trivial rfl).mono ?_; rintro e Wa ⟨rfl, hd⟩; have HBa := Aside0.mk (below_step HB.out hd.below); clear hd)
          | (go_at_call 26; refine (dense_Table_Width.calls none none 0 _ trivial rfl).mono ?_; rintro e Wb ⟨rfl, hd⟩; have HBb := Aside0.mk (below_step HBa.out hd.below); clear hd)
          | (go_at_call 13; refine (dense_Table_Step.calls none none no (cc : Int) 0 _ trivial HS0.out).mono ?_; rintro e Wc ⟨rfl, hd⟩; have HBc := Aside0.mk (below_step HBb.out hd.below); clear hd)
          | (go_at_call 31; refine (dense_Table_Row.calls none none no [] _ trivial HR0.out).mono ?_; rintro e Wd ⟨va, rfl, hRa, hd⟩; have HBd := Aside0.mk (below_step HBc.out hd); obtain ⟨B1, d1, rfl⟩ := Kd.R_slice hRa; clear hd hRa)
          | (go_at_call 28; refine (dense_Table_Classes.calls none none none _ trivial rfl).mono ?_; rintro e We ⟨Pn, rfl, hPn, hd⟩; obtain rfl := OB.p_none hPn; have HBe := Aside0.mk (below_step HBd.out hd.below); clear hd hPn))
        by_cases h1 : 0 ≤ no
        · have b1 : decide (0 ≤ no) = true := decide_eq_true h1
          by_cases h2 : no < ((paths lw).length : Int)
          · have b2 : decide (no < ((paths lw).length : Int)) = true := decide_eq_true h2
            go_wp2_with (go_at_call 8; refine (awake19_in _).mono ?_; rintro e w' ⟨rfl, hb⟩; have HBz := Aside0.mk (below_step HBe.out hb); clear hb)
            go_ret
            exact ⟨rfl, below_step HBA.out HBz.out⟩
          · have b2 : decide (no < ((paths lw).length : Int)) = false := decide_eq_false h2
            have hi2 : dnIs (some (denD lw)) no = false := decide_eq_false (by show ¬ (0 ≤ no ∧ no < (((trN lw).length : Nat) : Int)); rw [← paths_length]; omega)
            have HT1 := Aside0.mk (show dense_Table_Step.f (some (denD lw)) no (cc : Int) = some 0 from if_neg (by rw [hi2]; decide))
            have HT2 := Aside0.mk (show dense_Table_Row.f (some (denD lw)) no = some [] from if_neg (by rw [hi2]; decide))
            clear hi2
            go_wp2_with (first
              | (go_at_call 13; refine (HSTEP.out _ no 0 HBe.out HT1.out).mono ?_; rintro e Wf ⟨rfl, hd⟩; have HBf := Aside0.mk (below_step HBe.out hd.below); clear hd)
              | (go_at_call 31; refine (HROW.out _ no [] HBf.out HT2.out).mono ?_; rintro e Wg ⟨va, rfl, hRa, hd⟩; have HBg := Aside0.mk (below_step HBf.out hd); obtain ⟨B2, d2, rfl⟩ := Kd.R_slice hRa; clear hd hRa)
              | (go_at_call 8; refine (awake19_in _).mono ?_; rintro e w' ⟨rfl, hb⟩; have HBz := Aside0.mk (below_step HBg.out hb); clear hb))
            go_ret
            exact ⟨rfl, below_step HBA.out HBz.out⟩
        · have b1 : decide (0 ≤ no) = false := decide_eq_false h1
          have hi2 : dnIs (some (denD lw)) no = false := decide_eq_false (by show ¬ (0 ≤ no ∧ no < (((trN lw).length : Nat) : Int)); omega)
          have HT1 := Aside0.mk (show dense_Table_Step.f (some (denD lw)) no (cc : Int) = some 0 from if_neg (by rw [hi2]; decide))
          have HT2 := Aside0.mk (show dense_Table_Row.f (some (denD lw)) no = some [] from if_neg (by rw [hi2]; decide))
          clear hi2
          go_wp2_with (first
            | (go_at_call 13; refine (HSTEP.out _ no 0 HBe.out HT1.out).mono ?_; rintro e Wf ⟨rfl, hd⟩; have HBf := Aside0.mk (below_step HBe.out hd.below); clear hd)
            | (go_at_call 31; refine (HROW.out _ no [] HBf.out HT2.out).mono ?_; rintro e Wg ⟨va, rfl, hRa, hd⟩; have HBg := Aside0.mk (below_step HBf.out hd); obtain ⟨B2, d2, rfl⟩ := Kd.R_slice hRa; clear hd hRa)
            | (go_at_call 8; refine (awake19_in _).mono ?_; rintro e w' ⟨rfl, hb⟩; have HBz := Aside0.mk (below_step HBg.out hb); clear hb))
          go_ret
          exact ⟨rfl, below_step HBA.out HBz.out⟩
theorem juratlaw19_DenseTells.calls (A0 : Option Addr) (c0 : Nat) (l0 : List ByteArray) (a1 a2 : Int) (r : Bool) (w : World) (hr0 : Kd.C Kd.string w A0 l0.length l0) (hc0 : l0.length ≤ c0) (h : juratlaw19_DenseTells.f l0 a1 a2 = some r) :
    Calls Try.prog 6 #[.slice A0 l0.length c0, .int .u8 a1, .int .i64 a2] w fun e w' => e = .returned (.bool r) ∧ Below w.heap.size w w' := by
  unfold juratlaw19_DenseTells.f at h
  by_cases g : (0 ≤ a1 ∧ a1 ≤ 255) ∧ l0.length * 16 ≤ 140737488351232
  rotate_left
  · rw [if_neg g] at h; cases h
  rw [if_pos g] at h
  obtain rfl := Option.some.inj h
  obtain ⟨cb, hcb⟩ : ∃ cb : UInt8, (cb.toNat : Int) = a1 := ⟨UInt8.ofNat a1.toNat, by rw [UInt8.toNat_ofNat']; omega⟩
  rw [← hcb]
  exact tells_in A0 c0 l0 cb a2 w hr0 hc0 (by omega)

end Go.Proofs.Ytbkcjeopcjghgaa.P

/- Proved: for all texts, every byte and every number the law DenseTells of layer 19 answers true. No condition beyond the statement's own. -/
namespace Go.Proofs.Ytbkcjeopcjghgaa.Pure
open Go Go.RowKit Go.Proofs.Ytbkcjeopcjghgaa.P Go.Proofs.Ytbkcjeopcjghgaa.Base
theorem wf8_ {x : Int} (h : (Lit.int .u8 x).wf = true) : 0 ≤ x ∧ x ≤ 255 := by
  simp [Lit.wf, IntKind.min, IntKind.max, IntKind.signed, IntKind.bits] at h
  omega
theorem DenseTells (l : List ByteArray) (c no : Int) (hl : l.length * 16 ≤ 140737488351232) (_ : ∀ x ∈ l, x.size ≤ maxLen) (hc : (Lit.int .u8 c).wf = true) (_ : (Lit.int .i64 no).wf = true) : juratlaw19_DenseTells.f l c no = some true := if_pos ⟨wf8_ hc, hl⟩

end Go.Proofs.Ytbkcjeopcjghgaa.Pure

/- How a law's arguments are opened: slices of texts and of numbers, as lists, with their sizes out of the row's weights. -/
namespace Go.Proofs.Ytbkcjeopcjghgaa.RowS
open Go Go.ChangeShapes Go.WideShapes Go.RowKit Go.Proofs.YtbkcjeopcjghgaaW.PrintWords

theorem slice_strings {H : Type} {enc : TypeId × Value → H} {P : Program} {W : World} {t e : TypeId} {a : Option Addr} {len cap : Nat} {d : DataW H} {ps : List MemPlace} {ts : List TypeId} {ds : List (DataW H)} {j : Nat}
    (hsz : (DataW.weightsEach P ts ds).all (· ≤ reachBytes) = true) (ht : ts[j]? = some t) (hd : ds[j]? = some d) (hu : P.underlying t = some (.slice e)) (he : P.underlying e = some .string) (hc : P.cellsOf e = 1) (hB : P.bytesOf e = 16)
    (h : DataW.Trod enc P W 0 (fun _ => true) true t (.slice a len cap) d ps) :
    ∃ l : List ByteArray, l.length = len ∧ len ≤ cap ∧ Kd.C Kd.string W a l.length l ∧ l.length * 16 ≤ 140737488351232 ∧ ∀ s ∈ l, s.size ≤ maxLen := by
  obtain ⟨fuel, hf⟩ := h
  rcases open_strings hu he hc hf with ⟨hcs, _⟩ | ⟨x, l, c, ss, hcs, _, hl, hm, hz, hx, hcell, hw⟩
  · simp [Value.cells] at hcs
    obtain ⟨rfl, rfl, rfl⟩ := hcs
    exact ⟨[], rfl, Nat.le_refl _, Kd.C_nil _ _, by simp, by simp⟩
  · simp [Value.cells] at hcs
    obtain ⟨rfl, rfl, rfl⟩ := hcs
    obtain ⟨hx, _⟩ := Prod.mk.inj hx
    subst hx
    have z := sized_slice hsz ht hd hu
    rw [hB] at z
    rw [if_pos rfl] at hz
    have hl2 : len ≤ ss.length := by omega
    have h1 : (strs (H := H) (ss.take len)).length + (strs (H := H) (ss.drop len)).length = ss.length := by
      simp [strs]
      omega
    rw [h1] at z
    have hlen : (ss.take len).length = len := by rw [List.length_take]; omega
    refine ⟨ss.take len, hlen, hl, Kd.C_of_reads (d := ByteArray.empty) (h1 := fun _ => rfl) ⟨rfl, by rw [hlen]; unfold maxLen at hm; omega, fun _ => ⟨x, rfl, fun i hi => ?_⟩⟩, ?_, fun s hs => hw s (List.mem_of_mem_take hs)⟩
    · rw [hlen] at hi
      rw [hcell i (by omega), List.getD_eq_getElem?_getD, List.getD_eq_getElem?_getD, List.getElem?_take_of_lt hi]
    · rw [hlen]
      exact Nat.le_trans (Nat.mul_le_mul_right _ hl2) z
theorem slice_ints {H : Type} {enc : TypeId × Value → H} {P : Program} {W : World} {t e : TypeId} {k : IntKind} {a : Option Addr} {len cap : Nat} {d : DataW H} {ps : List MemPlace} {ts : List TypeId} {ds : List (DataW H)} {j : Nat}
    (hsz : (DataW.weightsEach P ts ds).all (· ≤ reachBytes) = true) (ht : ts[j]? = some t) (hd : ds[j]? = some d) (hu : P.underlying t = some (.slice e)) (he : P.underlying e = some (.int k)) (hc : P.cellsOf e = 1) {B : Nat} (hB : P.bytesOf e = B)
    (h : DataW.Trod enc P W 0 (fun _ => true) true t (.slice a len cap) d ps) :
    ∃ l : List Int, l.length = len ∧ len ≤ cap ∧ Kd.C (Kd.int k) W a l.length l ∧ l.length ≤ maxLen ∧ l.length * B ≤ 140737488351232 ∧ ∀ n ∈ l, (Lit.int k n).wf = true := by
  have y := sized_ints hsz ht hd hu he hc hB h
  obtain ⟨fuel, hf⟩ := h
  rcases open_ints hu he hc hf with ⟨hcs, _⟩ | ⟨x, l, c, zs, hcs, _, hl, hm, hz, _, hcell, hw⟩
  · simp [Value.cells] at hcs
    obtain ⟨rfl, rfl, rfl⟩ := hcs
    exact ⟨[], rfl, Nat.le_refl _, Kd.C_nil _ _, by simp, by simp, by simp⟩
  · simp [Value.cells] at hcs
    obtain ⟨rfl, rfl, rfl⟩ := hcs
    rw [if_pos rfl] at hz
    have hlen : (zs.take len).length = len := by rw [List.length_take]; omega
    refine ⟨zs.take len, hlen, hl, Kd.C_of_reads (d := (0 : Int)) (h1 := fun _ => rfl) ⟨rfl, by rw [hlen]; unfold maxLen at hm; omega, fun _ => ⟨x, rfl, fun i hi => ?_⟩⟩, by rw [hlen]; omega, by rw [hlen]; exact y, fun s hs => hw s (List.mem_of_mem_take hs)⟩
    rw [hlen] at hi
    rw [hcell i (by omega), List.getD_eq_getElem?_getD, List.getD_eq_getElem?_getD, List.getElem?_take_of_lt hi]

end Go.Proofs.Ytbkcjeopcjghgaa.RowS

/- The row of the law DenseTells, out of its plain statement and the walk; written for this claim by a program of this session (wip/mkrow.py). -/
namespace Go.Proofs.Ytbkcjeopcjghgaa.denseTells
open Go.ChangeShapes Go.WideShapes Go.ChangeAt Go.RowKit
open Go.ChangeMaps (open_string shut_string)
set_option linter.unusedVariables false
theorem own : ownKnob Try.prog.godebug = none := by kernel_rfl
theorem laidOut : laidOutB Try.prog = true := by kernel_rfl
set_option maxRecDepth 100000 in
theorem lifted (os : Os) (started : os.Started) (H : Type) (enc : TypeId × Value → H) :
    ReturnsInHanded {} Try.checked os 6 .any (Rows.denseTellsSpec.pre6 enc Try.prog Try.f6 Rows.denseTellsRow.domain false) (Rows.denseTellsSpec.post enc Try.prog Try.f6 false true false false) := by
  refine returnsInHanded_of_change_sized (C := Try.checked) own started (by kernel_rfl) Try.func6
    (ChangeSpec.witness6 (enc := enc) (C := Try.checked) false ⟨#[], #[.slice none 0 0, .int .u8 0, .int .i64 0], []⟩ 8 (by kernel_rfl) (by kernel_rfl) (by kernel_rfl) (by kernel_rfl)) ?_
  intro W base args ds gs before hval0 hW hcnd hsz0 _
  have hsz : (DataW.weightsEach Try.prog (Try.f6.params.toList ++ Rows.denseTellsSpec.plain.varTypes Try.prog) (ds ++ gs)).all (· ≤ reachBytes) = true := hsz0
  have hval : ∀ (j : Nat) t v, Try.f6.params[j]? = some t → args[j]? = some v → Value.okWide Try.prog W .any base t v := hval0
  have hW' := hW
  obtain ⟨p, q, hA0, hV, rfl, hfz, hnd⟩ := hW
  have hA : DataW.TrodAll enc Try.prog W 0 (fun _ => true) true Try.f6.params.toList args.toList ds p := hA0
  rw [Try.params6] at hA hval hsz
  obtain ⟨v0, vs0, d0, ds0, p0, q0, hargs, rfl, rfl, h0, r0⟩ := trodAll_cons hA
  obtain ⟨v1, vs1, d1, ds1, p1, q1, rfl, rfl, rfl, h1, r1⟩ := trodAll_cons r0
  obtain ⟨v2, vs2, d2, ds2, p2, q2, rfl, rfl, rfl, h2, r2⟩ := trodAll_cons r1
  obtain ⟨rfl, rfl, rfl⟩ := trodAll_nil r2
  obtain rfl : args = #[v0, v1, v2] := by cases args; simp_all
  obtain ⟨rfl, rfl⟩ := trodVars_none hV
  obtain ⟨a0, len0, cap0, rfl⟩ := okWide_slice Try.underlying22 (hval 0 22 v0 rfl rfl)
  have k0 := h0
  have lt0 : ∀ x ∈ p0, x.block < W.heap.size := by obtain ⟨m, hm⟩ := k0; exact DataW.trod_lt m _ _ _ hm
  obtain ⟨l0, hn0, hc0, hr0, y0, w0⟩ := RowS.slice_strings hsz (j := 0) (t := 22) rfl rfl Try.underlying22 Try.underlying9 (by kernel_rfl) (by kernel_rfl) h0
  subst hn0
  obtain ⟨a1, rfl, rfl, rfl, w1⟩ := open_int Try.underlying5 (hval 1 5 v1 rfl rfl) h1
  obtain ⟨a2, rfl, rfl, rfl, w2⟩ := open_int Try.underlying3 (hval 2 3 v2 rfl rfl) h2
  clear hA0 hval0 hsz0 hsz
  have hk := Pure.DenseTells l0 a1 a2 y0 w0 w1 w2
  refine (P.juratlaw19_DenseTells.calls a0 cap0 l0 a1 a2 true W hr0 hc0 hk).mono fun e W' ⟨he, bel⟩ => ?_
  subst he
  exact ⟨_, rfl, _, _, _, [], _, [], hW', trodAll_mk1 (shut_bool Try.underlying4 _), (trodAll_cons_mk (Below.trod laidOut (by kernel_rfl) (of_decide_eq_true (by kernel_rfl)) k0 bel lt0) (trodAll_cons_mk (shut_int Try.underlying5 w1) (trodAll_cons_mk (shut_int Try.underlying3 w2) trodAll_mk0))), rfl, bel.frame _, fun h => by cases h⟩
theorem over : Rows.denseTellsRow.holds Try.pinned (OpenSpec.ofChange Rows.denseTellsSpec) :=
  OpenClaim.holds_of_wide 6 Try.f6 rfl rfl rfl rfl rfl rfl rfl ⟨rfl, rfl, rfl, rfl, rfl⟩ rfl rfl rfl rfl rfl (by kernel_rfl) Try.func6 (by kernel_rfl)
    (of_decide_eq_true (by kernel_rfl)) (by unfold Func.isWrapper; first | (rw [if_pos (by decide +kernel)]; kernel_rfl) | (rw [if_neg (by decide +kernel)]; exact ⟨rfl, rfl⟩))
    (fun os started H enc _ => lifted os started H enc)
theorem proved : Rows.DenseTellsSaid := over
#print axioms proved
end Go.Proofs.Ytbkcjeopcjghgaa.denseTells
namespace Go.Proofs.Ytbkcjeopcjghgaa
/-- The row, under a short name, for the claim. -/
theorem denseTells_holds : Rows.DenseTellsSaid := denseTells.proved
end Go.Proofs.Ytbkcjeopcjghgaa
