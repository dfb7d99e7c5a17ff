/- The states of a trie by their paths: what the run's lists are when K jobs are done; no program in sight. -/
import Derived.Test.YtbkcjeopcjghgaaP16
namespace Go.Proofs.Ytbkcjeopcjghgaa.P
open Go Go.RowKit Go.Proofs.YtbkcjeopcjghgaaW.PrintWords Go.Proofs.Ytbkcjeopcjghgaa.Base
set_option linter.unusedVariables false

/-- A state with its path and the texts that begin so. -/
structure NodeD where
  path : List UInt8
  lo : Nat
  hi : Nat
  above : Int
  by_ : Nat
  deriving Inhabited
/-- Is the first of a node's texts the path itself? -/
def NodeD.own (w : List ByteArray) (n : NodeD) : Bool := decide (n.lo < n.hi) && decide ((w.getD n.lo ByteArray.empty).size = n.path.length)
def NodeD.from_ (w : List ByteArray) (n : NodeD) : Nat := if n.own w then n.lo + 1 else n.lo
def NodeD.gr (w : List ByteArray) (n : NodeD) : List (Nat × Nat × Nat) := groups w n.path.length n.hi w.length (n.from_ w)
def mkN (k : Nat) (n : NodeD) (g : Nat × Nat × Nat) : NodeD := ⟨n.path ++ [UInt8.ofNat g.1], g.2.1, g.2.2, (k : Int), g.1⟩
def kids (w : List ByteArray) (k : Nat) (n : NodeD) : List NodeD := (n.gr w).map (mkN k n)
/-- The nodes when K are done. -/
def nodesAt (w : List ByteArray) : Nat → List NodeD
  | 0 => [⟨[], 0, w.length, -1, 0⟩]
  | k + 1 => match (nodesAt w k)[k]? with
    | none => nodesAt w k
    | some n => nodesAt w k ++ kids w k n
theorem nodesAt_succ (w : List ByteArray) (k : Nat) (n : NodeD) (h : (nodesAt w k)[k]? = some n) : nodesAt w (k + 1) = nodesAt w k ++ kids w k n := by
  show (match (nodesAt w k)[k]? with | none => nodesAt w k | some n => nodesAt w k ++ kids w k n) = _
  rw [h]
/-- A state that waits, and one that is done. -/
def fresh (n : NodeD) : StD := ⟨n.above, (n.by_ : Int), (n.path.length : Int), -1, 0, 0⟩
def done (w : List ByteArray) (first : Nat) (n : NodeD) : StD := ⟨n.above, (n.by_ : Int), (n.path.length : Int), if n.own w then (n.lo : Int) else -1, (first : Int), ((n.gr w).length : Int)⟩
def stK (w : List ByteArray) (k : Nat) : List StD := (nodesAt w k).mapIdx fun i n => if i < k then done w (nodesAt w i).length n else fresh n
def jsK (w : List ByteArray) (k : Nat) : List JobD := ((nodesAt w k).drop k).mapIdx fun i n => ⟨((k + i : Nat) : Int), (n.lo : Int), (n.hi : Int)⟩
theorem stK_length (w : List ByteArray) (k : Nat) : (stK w k).length = (nodesAt w k).length := by unfold stK; simp
theorem jsK_nil (w : List ByteArray) (k : Nat) (h : (nodesAt w k).length ≤ k) : jsK w k = [] := by
  unfold jsK
  rw [List.drop_of_length_le h]
  rfl
theorem jsK_cons (w : List ByteArray) (k : Nat) (n : NodeD) (h : (nodesAt w k)[k]? = some n) : jsK w k = ⟨(k : Int), (n.lo : Int), (n.hi : Int)⟩ :: ((nodesAt w k).drop (k + 1)).mapIdx fun i n => ⟨((k + 1 + i : Nat) : Int), (n.lo : Int), (n.hi : Int)⟩ := by
  obtain ⟨hlt, hk⟩ := List.getElem?_eq_some_iff.1 h
  unfold jsK
  rw [List.drop_eq_getElem_cons hlt, List.mapIdx_cons, hk]
  congr 1
  congr 1
  funext i n
  rw [show k + (i + 1) = k + 1 + i by omega]
theorem part_step (w : List ByteArray) (k : Nat) (n : NodeD) (h : (nodesAt w k)[k]? = some n) :
    partJ w (stK w k) (jsK w k) ⟨(k : Int), (n.lo : Int), (n.hi : Int)⟩ = (stK w (k + 1), ⟨(k : Int), (n.lo : Int), (n.hi : Int)⟩ :: jsK w (k + 1)) := by
  obtain ⟨hlt, hk⟩ := List.getElem?_eq_some_iff.1 h
  have hsk : (stK w k)[k]? = some (fresh n) := by
    unfold stK
    rw [List.getElem?_mapIdx, h]
    simp
  have hd : ((stK w k).getD k default).depth.toNat = n.path.length := by
    rw [List.getD_eq_getElem?_getD, hsk]
    simp [fresh]
  unfold partJ
  simp only [Int.toNat_natCast, hd]
  have hown : (decide (n.lo < n.hi) && decide ((w.getD n.lo ByteArray.empty).size = n.path.length)) = n.own w := rfl
  rw [hown]
  have hfr : (if n.own w = true then n.lo + 1 else n.lo) = n.from_ w := rfl
  rw [hfr]
  obtain ⟨a, ha⟩ : ∃ a, ((if n.own w = true then (stK w k).modify k fun s => { s with id := (n.lo : Int) } else stK w k).modify k fun s => { s with first := ((stK w k).length : Int) }) = a := ⟨_, rfl⟩
  rw [ha]
  have hal : a.length = (nodesAt w k).length := by
    rw [← ha, List.length_modify]
    split
    · rw [List.length_modify, stK_length]
    · rw [stK_length]
  have hp := partG_eq w k n.path.length n.hi w.length (n.from_ w) a [] (jsK w k) (by omega)
  rw [List.append_nil] at hp
  rw [hp]
  have hg : groups w n.path.length n.hi w.length (n.from_ w) = n.gr w := rfl
  rw [hg, List.append_nil]
  have hns := nodesAt_succ w k n h
  have hfst : (nodesAt w k).length = (stK w k).length := (stK_length w k).symm
  congr 1
  · -- the states
    unfold stK
    rw [hns, List.mapIdx_append]
    congr 1
    · apply List.ext_getElem?
      intro i
      unfold addM
      rw [← ha, List.getElem?_modify, List.getElem?_modify, List.getElem?_mapIdx]
      by_cases hik : i = k
      · subst hik
        have hcase : (if n.own w = true then (stK w i).modify i fun s => { s with id := (n.lo : Int) } else stK w i)[i]? = some (if n.own w = true then { fresh n with id := (n.lo : Int) } else fresh n) := by
          split
          · rw [List.getElem?_modify, hsk]; simp
          · exact hsk
        rw [hcase, h]
        simp only [if_true, Option.map_some, Nat.lt_succ_self]
        congr 1
        unfold done fresh
        split
        · rename_i ho
          simp [stK_length]
        · rename_i ho
          simp [stK_length]
      · have hne : k ≠ i := fun e => hik e.symm
        have hcase : (if n.own w = true then (stK w k).modify k fun s => { s with id := (n.lo : Int) } else stK w k)[i]? = (stK w k)[i]? := by
          split
          · rw [List.getElem?_modify]; simp [hne]
          · rfl
        rw [hcase]
        unfold stK
        rw [List.getElem?_mapIdx]
        cases hn : (nodesAt w k)[i]? with
        | none => rfl
        | some m =>
          simp only [Option.map_some, hne, if_false]
          by_cases hlt2 : i < k
          · simp [hlt2, Nat.lt_succ_of_lt hlt2]
          · have : ¬ i < k + 1 := by omega
            simp [hlt2, this]
    · unfold kids
      apply List.ext_getElem?
      intro i
      rw [List.getElem?_map, List.getElem?_mapIdx, List.getElem?_map]
      cases (n.gr w)[i]? with
      | none => rfl
      | some g =>
        have : ¬ i + (nodesAt w k).length < k + 1 := by omega
        simp [this, mkSt, fresh, mkN]
  · rw [jsK_cons w k n h, List.cons_append]
    congr 1
    unfold jsK
    rw [hns, List.drop_append_of_le_length (by omega), List.mapIdx_append]
    congr 1
    unfold kids
    apply List.ext_getElem?
    intro i
    rw [List.getElem?_mapIdx, List.getElem?_mapIdx, List.getElem?_map]
    cases (n.gr w)[i]? with
    | none => rfl
    | some g =>
      simp only [Option.map_some, mkJb, mkN, List.length_drop, List.length_nil]
      congr 2
      omega
/-- The run, K jobs done. -/
theorem trRun_eq (w : List ByteArray) : ∀ f k, trRun w f (stK w k) (jsK w k) = stK w (k + f) ∨ ∃ m, m ≤ k + f ∧ trRun w f (stK w k) (jsK w k) = stK w m ∧ (nodesAt w m).length ≤ m
  | 0, k => .inl rfl
  | f + 1, k => by
    cases h : (nodesAt w k)[k]? with
    | none =>
      have hle : (nodesAt w k).length ≤ k := by simpa using h
      refine .inr ⟨k, by omega, ?_, hle⟩
      rw [jsK_nil w k hle]
      rfl
    | some n =>
      have hc := jsK_cons w k n h
      have hs := part_step w k n h
      rw [hc] at hs
      have e : trRun w (f + 1) (stK w k) (jsK w k) = trRun w f (stK w (k + 1)) (jsK w (k + 1)) := by
        rw [hc]
        show trRun w f (partJ w (stK w k) _ _).1 (partJ w (stK w k) _ _).2.tail = _
        rw [hs]
        rfl
      rw [e]
      rcases trRun_eq w f (k + 1) with h1 | ⟨m, h1, h2, h3⟩
      · exact .inl (by rw [h1]; congr 1; omega)
      · exact .inr ⟨m, by omega, h2, h3⟩

end Go.Proofs.Ytbkcjeopcjghgaa.P
