/- All beginnings of patterns, as plain lists: what trie.New computes, step for step; no program in sight. -/
import Derived.Test.YtbkcjeopcjghgaaBase
namespace Go.Proofs.Ytbkcjeopcjghgaa.P
open Go Go.RowKit Go.Proofs.YtbkcjeopcjghgaaW.PrintWords Go.Proofs.Ytbkcjeopcjghgaa.Base
set_option linter.unusedVariables false

/-- A state: its cells in order. -/
structure StD where
  above : Int
  by_ : Int
  depth : Int
  id : Int
  first : Int
  many : Int
  deriving Inhabited, DecidableEq
structure JobD where
  state : Int
  from_ : Int
  to_ : Int
  deriving Inhabited, DecidableEq
/-- A text's byte. -/
def byAt (s : ByteArray) (d : Nat) : Nat := ((LL s).getD d 0).toNat
/-- Where the texts from one on that have byte c at d end. -/
def gEnd (w : List ByteArray) (d c hi : Nat) : Nat → Nat → Nat
  | 0, t => t
  | f + 1, t => if t < hi ∧ byAt (w.getD t ByteArray.empty) d = c then gEnd w d c hi f (t + 1) else t
theorem gEnd_le (w : List ByteArray) (d c hi : Nat) : ∀ f t, t ≤ hi → gEnd w d c hi f t ≤ hi
  | 0, t, h => h
  | f + 1, t, h => by
    unfold gEnd
    split
    · exact gEnd_le w d c hi f (t + 1) (by omega)
    · exact h
theorem gEnd_ge (w : List ByteArray) (d c hi : Nat) : ∀ f t, t ≤ gEnd w d c hi f t
  | 0, t => Nat.le_refl _
  | f + 1, t => by
    unfold gEnd
    split
    · exact Nat.le_trans (Nat.le_succ t) (gEnd_ge w d c hi f (t + 1))
    · exact Nat.le_refl _
theorem gEnd_in (w : List ByteArray) (d c hi : Nat) : ∀ f t u, t ≤ u → u < gEnd w d c hi f t → byAt (w.getD u ByteArray.empty) d = c
  | 0, t, u, h1, h2 => by unfold gEnd at h2; omega
  | f + 1, t, u, h1, h2 => by
    unfold gEnd at h2
    split at h2
    · rename_i h
      by_cases hu : u = t
      · rw [hu]; exact h.2
      · exact gEnd_in w d c hi f (t + 1) u (by omega) h2
    · omega
theorem gEnd_stop (w : List ByteArray) (d c hi : Nat) : ∀ f t, hi ≤ t + f → t ≤ hi → gEnd w d c hi f t < hi → byAt (w.getD (gEnd w d c hi f t) ByteArray.empty) d ≠ c
  | 0, t, h1, h2, h3 => by unfold gEnd at h3; omega
  | f + 1, t, h1, h2, h3 => by
    unfold gEnd at h3 ⊢
    by_cases h : t < hi ∧ byAt (w.getD t ByteArray.empty) d = c
    · rw [if_pos h] at h3 ⊢
      exact gEnd_stop w d c hi f (t + 1) (by omega) (by omega) h3
    · rw [if_neg h] at h3 ⊢
      exact fun e => h ⟨h3, e⟩
/-- One more state below a state. -/
def bump (sts : List StD) (j : Nat) : List StD := sts.modify j fun s => { s with many := s.many + 1 }
/-- The groups of a job. -/
def partG (w : List ByteArray) (j d hi : Nat) : Nat → Nat → List StD → List JobD → List StD × List JobD
  | 0, _, sts, js => (sts, js)
  | f + 1, lo, sts, js =>
    if lo < hi then
      let c := byAt (w.getD lo ByteArray.empty) d
      let t := gEnd w d c hi hi (lo + 1)
      partG w j d hi f t (bump (sts ++ [⟨(j : Int), (c : Int), (d : Int) + 1, -1, 0, 0⟩]) j) (js ++ [⟨(sts.length : Int), (lo : Int), (t : Int)⟩])
    else (sts, js)
/-- One job: the state's own number, its first state below, its groups. -/
def partJ (w : List ByteArray) (sts : List StD) (js : List JobD) (jb : JobD) : List StD × List JobD :=
  let j := jb.state.toNat
  let d := (sts.getD j default).depth.toNat
  let lo := jb.from_.toNat
  let own := decide (lo < jb.to_.toNat) && decide ((w.getD lo ByteArray.empty).size = d)
  let sts1 := if own then sts.modify j fun s => { s with id := (lo : Int) } else sts
  let sts2 := sts1.modify j fun s => { s with first := (sts.length : Int) }
  partG w j d jb.to_.toNat w.length (if own then lo + 1 else lo) sts2 js
/-- All jobs, as many as there may be. -/
def trRun (w : List ByteArray) : Nat → List StD → List JobD → List StD
  | 0, sts, _ => sts
  | f + 1, sts, js => match js with
    | [] => sts
    | jb :: _ => let r := partJ w sts js jb; trRun w f r.1 r.2.tail
def trStates (w : List ByteArray) (f : Nat) : List StD := trRun w f [⟨-1, 0, 0, -1, 0, 0⟩] [⟨0, 0, (w.length : Int)⟩]
/-- The groups themselves: byte, from, to. -/
def groups (w : List ByteArray) (d hi : Nat) : Nat → Nat → List (Nat × Nat × Nat)
  | 0, _ => []
  | f + 1, lo => if lo < hi then (byAt (w.getD lo ByteArray.empty) d, lo, gEnd w d (byAt (w.getD lo ByteArray.empty) d) hi hi (lo + 1)) :: groups w d hi f (gEnd w d (byAt (w.getD lo ByteArray.empty) d) hi hi (lo + 1)) else []
def addM (sts : List StD) (j k : Nat) : List StD := sts.modify j fun s => { s with many := s.many + (k : Int) }
theorem addM_length (sts : List StD) (j k : Nat) : (addM sts j k).length = sts.length := by unfold addM; simp
theorem addM_zero (sts : List StD) (j : Nat) : addM sts j 0 = sts := by
  unfold addM
  have : (fun s : StD => { s with many := s.many + ((0 : Nat) : Int) }) = id := by
    funext s
    cases s
    simp
  rw [this]
  exact List.modify_id _ _
theorem addM_succ (sts : List StD) (j k : Nat) : addM (addM sts j 1) j k = addM sts j (k + 1) := by
  unfold addM
  rw [List.modify_modify_eq]
  congr 1
  funext s
  simp only [Function.comp]
  congr 1
  omega
theorem bump_append (a c : List StD) (j : Nat) (h : j < a.length) : bump (a ++ c) j = addM a j 1 ++ c := by
  unfold bump addM
  apply List.ext_getElem?
  intro i
  rw [List.getElem?_modify]
  by_cases hi : i < a.length
  · rw [List.getElem?_append_left hi, List.getElem?_append_left (by rw [List.length_modify]; exact hi), List.getElem?_modify]
    rfl
  · rw [List.getElem?_append_right (by omega), List.getElem?_append_right (by rw [List.length_modify]; omega), List.length_modify]
    have : j ≠ i := by omega
    simp [this]
def mkSt (j d : Nat) (g : Nat × Nat × Nat) : StD := ⟨(j : Int), (g.1 : Int), (d : Int) + 1, -1, 0, 0⟩
def mkJb (n i : Nat) (g : Nat × Nat × Nat) : JobD := ⟨((n + i : Nat) : Int), (g.2.1 : Int), (g.2.2 : Int)⟩
theorem partG_eq (w : List ByteArray) (j d hi : Nat) : ∀ (f lo : Nat) (a b : List StD) (js : List JobD), j < a.length →
    partG w j d hi f lo (a ++ b) js = (addM a j (groups w d hi f lo).length ++ b ++ (groups w d hi f lo).map (mkSt j d), js ++ (groups w d hi f lo).mapIdx fun i g => mkJb (a.length + b.length) i g)
  | 0, lo, a, b, js, h => by simp [partG, groups, addM_zero]
  | f + 1, lo, a, b, js, h => by
    unfold partG groups
    by_cases hlt : lo < hi
    · rw [if_pos hlt, if_pos hlt]
      simp only
      rw [List.append_assoc, bump_append _ _ _ h]
      rw [partG_eq w j d hi f _ (addM a j 1) _ _ (by rw [addM_length]; exact h), addM_succ, addM_length]
      simp only [List.length_cons, List.map_cons, List.mapIdx_cons, List.length_append, List.length_nil, List.append_assoc, List.cons_append, List.nil_append, mkSt, mkJb]
      simp [Nat.add_assoc, Nat.add_comm 1]
    · rw [if_neg hlt, if_neg hlt]
      simp [addM_zero]
example : (trStates [⟨#[97, 98]⟩, ⟨#[97, 99]⟩, ⟨#[98]⟩] 10).length = 5 := by decide +kernel

end Go.Proofs.Ytbkcjeopcjghgaa.P
