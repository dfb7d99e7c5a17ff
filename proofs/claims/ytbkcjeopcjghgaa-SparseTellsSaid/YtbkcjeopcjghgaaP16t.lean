/- The run of a trie ends: there are at most as many nodes as the texts have bytes, and one; and the nodes are just the beginnings of the texts; no program in sight. -/
import Derived.Test.YtbkcjeopcjghgaaP16s
namespace Go.Proofs.Ytbkcjeopcjghgaa.P
open Go Go.RowKit Go.Proofs.YtbkcjeopcjghgaaW.PrintWords Go.Proofs.Ytbkcjeopcjghgaa.Base
set_option linter.unusedVariables false

theorem nodes_stop {w : List ByteArray} {k : Nat} (h : (nodesAt w k).length ≤ k) : ∀ m, k ≤ m → nodesAt w m = nodesAt w k := by
  intro m
  induction m with
  | zero => intro hm; rw [show k = 0 by omega]
  | succ m ih =>
    intro hm
    rcases Nat.lt_or_eq_of_le hm with h1 | h1
    · have e := ih (by omega)
      show (match (nodesAt w m)[m]? with | none => nodesAt w m | some n => nodesAt w m ++ kids w m n) = _
      rw [List.getElem?_eq_none (by rw [e]; omega)]
      exact e
    · rw [h1]
/-- How many bytes texts have in all. -/
def sizes : List ByteArray → Nat
  | [] => 0
  | s :: l => s.size + sizes l
def prs : List ByteArray → Nat → List (Nat × Nat)
  | [], _ => []
  | s :: l, i => (List.range s.size).map (fun d => (i, d + 1)) ++ prs l (i + 1)
theorem prs_length : ∀ (l : List ByteArray) (i : Nat), (prs l i).length = sizes l
  | [], _ => rfl
  | s :: l, i => by
    simp only [prs, sizes, List.length_append, List.length_map, List.length_range]
    rw [prs_length l (i + 1)]
theorem prs_mem : ∀ (l : List ByteArray) (i t d : Nat), t < l.length → d < (l.getD t ByteArray.empty).size → (i + t, d + 1) ∈ prs l i
  | [], i, t, d, h, _ => by simp at h
  | s :: l, i, 0, d, _, hd => by
    simp only [prs]
    exact List.mem_append_left _ (List.mem_map.2 ⟨d, List.mem_range.2 (by simpa using hd), rfl⟩)
  | s :: l, i, t + 1, d, h, hd => by
    simp only [prs]
    have := prs_mem l (i + 1) t d (by simpa using h) (by simpa using hd)
    rw [show i + (t + 1) = i + 1 + t by omega]
    exact List.mem_append_right _ this
theorem nodup_sub {α : Type} [DecidableEq α] : ∀ (l m : List α), l.Nodup → (∀ x ∈ l, x ∈ m) → l.length ≤ m.length
  | [], m, _, _ => Nat.zero_le _
  | x :: l, m, h, hs => by
    obtain ⟨h1, h2⟩ := List.nodup_cons.1 h
    have hx := hs x List.mem_cons_self
    have ih := nodup_sub l (m.erase x) h2 (fun y hy => (List.mem_erase_of_ne (by rintro rfl; exact h1 hy)).2 (hs y (List.mem_cons_of_mem _ hy)))
    rw [List.length_erase_of_mem hx] at ih
    have := List.length_pos_of_mem hx
    rw [List.length_cons]
    omega
theorem nodes_nil : ∀ k, nodesAt [] k = [⟨[], 0, 0, -1, 0⟩]
  | 0 => rfl
  | k + 1 => by
    show (match (nodesAt [] k)[k]? with | none => nodesAt [] k | some n => nodesAt [] k ++ kids [] k n) = _
    split
    · exact nodes_nil k
    · rw [nodes_nil k]; rfl
theorem nodes_lt {w : List ByteArray} (hs : srt w) (h0 : 0 < w.length) (k : Nat) : ∀ n ∈ nodesAt w k, n.lo < n.hi := fun n hn => by
  rcases nodes_full hs k n hn with h | h
  · have := (nodes_ok hs k n hn).all 0 h0 (by rw [h]; exact List.nil_prefix)
    omega
  · exact h
theorem nodes_few {w : List ByteArray} (hs : srt w) (k : Nat) : (nodesAt w k).length ≤ sizes w + 1 := by
  rcases Nat.eq_zero_or_pos w.length with h0 | h0
  · rw [List.length_eq_zero_iff.1 h0, nodes_nil]
    simp
  · have hn : ((nodesAt w k).map fun n => (n.lo, n.path.length)).Nodup := by
      unfold List.Nodup
      rw [List.pairwise_map]
      refine List.Pairwise.imp_of_mem (fun {a b} ha hb h e => ?_) (nodes_up hs k)
      have h1 := nodes_lt hs h0 k a ha
      obtain ⟨e1, e2⟩ := Prod.mk.inj e
      unfold ahN at h
      omega
    have := nodup_sub _ ((0, 0) :: prs w 0) hn (fun x hx => by
      obtain ⟨n, hn, rfl⟩ := List.mem_map.1 hx
      have h1 := nodes_lt hs h0 k n hn
      have ok := nodes_ok hs k n hn
      cases hp : n.path with
      | nil =>
        have := ok.all 0 h0 (by rw [hp]; exact List.nil_prefix)
        rw [show n.lo = 0 by omega]
        exact List.mem_cons_self
      | cons c p =>
        have h2 := (ok.pre n.lo (Nat.le_refl _) h1).length_le
        rw [LL_length, hp, List.length_cons] at h2
        have := prs_mem w 0 n.lo p.length (by have := ok.top; omega) (by omega)
        rw [Nat.zero_add] at this
        exact List.mem_cons_of_mem _ this)
    rw [List.length_map, List.length_cons, prs_length] at this
    exact this
/-- As many jobs as there may be; the nodes, the states. -/
def trK (w : List ByteArray) : Nat := sizes w + 1
def trN (w : List ByteArray) : List NodeD := nodesAt w (trK w)
def trS (w : List ByteArray) : List StD := stK w (trK w)
theorem trN_le {w : List ByteArray} (hs : srt w) : (trN w).length ≤ trK w := nodes_few hs _
/-- How many nodes there are when the jobs ahead are done. -/
def firstOf (w : List ByteArray) (i : Nat) : Nat := (nodesAt w i).length
theorem node_at {w : List ByteArray} (hs : srt w) {i : Nat} {n : NodeD} (h : (trN w)[i]? = some n) : (nodesAt w i)[i]? = some n ∧ ∃ r, trN w = nodesAt w i ++ (kids w i n ++ r) := by
  obtain ⟨hlt, he⟩ := List.getElem?_eq_some_iff.1 h
  have hK := trN_le hs
  have hi : i < (nodesAt w i).length := by
    rcases Nat.lt_or_ge i (nodesAt w i).length with h1 | h1
    · exact h1
    · have e := nodes_stop h1 (trK w) (by omega)
      unfold trN at hlt
      rw [e] at hlt
      omega
  have h1 : (nodesAt w i)[i]? = some n := by
    obtain ⟨r, hr⟩ := nodes_mono_le w (k := i) (m := trK w) (by omega)
    have h' : (nodesAt w i ++ r)[i]? = some n := by rw [hr]; exact h
    rwa [List.getElem?_append_left hi] at h'
  refine ⟨h1, ?_⟩
  obtain ⟨r, hr⟩ := nodes_mono_le w (k := i + 1) (m := trK w) (by omega)
  refine ⟨r, ?_⟩
  have : nodesAt w (i + 1) ++ r = trN w := hr
  rw [← this, nodesAt_succ w i n h1, List.append_assoc]
/-- A state and its node. -/
theorem state_at {w : List ByteArray} (hs : srt w) {i : Nat} {n : NodeD} (h : (trN w)[i]? = some n) : (trS w)[i]? = some (done w (firstOf w i) n) := by
  obtain ⟨hlt, he⟩ := List.getElem?_eq_some_iff.1 h
  have hK := trN_le hs
  have h' : (nodesAt w (trK w))[i]? = some n := h
  unfold trS stK
  rw [List.getElem?_mapIdx, h']
  simp only [Option.map_some]
  rw [if_pos (by omega)]
  rfl
theorem trS_length (w : List ByteArray) : (trS w).length = (trN w).length := stK_length _ _
/-- The nodes below one. -/
theorem kid_at {w : List ByteArray} (hs : srt w) {i : Nat} {n : NodeD} (h : (trN w)[i]? = some n) {o : Nat} (ho : o < (n.gr w).length) : (trN w)[firstOf w i + o]? = some (mkN i n ((n.gr w).getD o (0, 0, 0))) := by
  obtain ⟨_, r, hr⟩ := node_at hs h
  have hl : (kids w i n).length = (n.gr w).length := by unfold kids; rw [List.length_map]
  rw [hr, firstOf, List.getElem?_append_right (by omega), Nat.add_sub_cancel_left, List.getElem?_append_left (by omega)]
  unfold kids
  rw [List.getElem?_map, List.getD_eq_getElem?_getD, List.getElem?_eq_getElem ho]
  rfl
theorem first_gt {w : List ByteArray} (hs : srt w) {i : Nat} {n : NodeD} (h : (trN w)[i]? = some n) : i < firstOf w i ∧ firstOf w i + (n.gr w).length ≤ (trN w).length := by
  obtain ⟨h1, r, hr⟩ := node_at hs h
  have hl : (kids w i n).length = (n.gr w).length := by unfold kids; rw [List.length_map]
  refine ⟨(List.getElem?_eq_some_iff.1 h1).1, ?_⟩
  rw [hr, List.length_append, List.length_append, hl]
  unfold firstOf
  omega
theorem node_ok {w : List ByteArray} (hs : srt w) {i : Nat} {n : NodeD} (h : (trN w)[i]? = some n) : OkN w n := nodes_ok hs _ n (List.mem_of_getElem? h)
/-- No two nodes have one path. -/
theorem path_inj {w : List ByteArray} (hs : srt w) {i j : Nat} {n m : NodeD} (hi : (trN w)[i]? = some n) (hj : (trN w)[j]? = some m) (e : n.path = m.path) : i = j := by
  rcases Nat.eq_zero_or_pos w.length with h0 | h0
  · have e0 : trN w = [⟨[], 0, 0, -1, 0⟩] := by unfold trN; rw [List.length_eq_zero_iff.1 h0, nodes_nil]
    rw [e0] at hi hj
    have h1 := (List.getElem?_eq_some_iff.1 hi).1
    have h2 := (List.getElem?_eq_some_iff.1 hj).1
    simp at h1 h2
    omega
  · have key : ∀ {i j : Nat} {n m : NodeD}, (trN w)[i]? = some n → (trN w)[j]? = some m → n.path = m.path → ¬ i < j := fun {i j n m} hi hj e hlt => by
      obtain ⟨h1, h2⟩ := List.getElem?_eq_some_iff.1 hi
      obtain ⟨h3, h4⟩ := List.getElem?_eq_some_iff.1 hj
      have := List.pairwise_iff_getElem.1 (nodes_up hs (trK w)) i j h1 h3 hlt
      have e1 : (nodesAt w (trK w))[i] = n := h2
      have e2 : (nodesAt w (trK w))[j] = m := h4
      rw [e1, e2] at this
      have hm := nodes_lt hs h0 (trK w) m (List.mem_of_getElem? hj)
      have hmo := node_ok hs hj
      have := (node_ok hs hi).all m.lo (by have := hmo.top; omega) (by rw [e]; exact hmo.pre m.lo (Nat.le_refl _) hm)
      unfold ahN at *
      rw [e] at *
      omega
    rcases Nat.lt_trichotomy i j with h | h | h
    · exact absurd h (key hi hj e)
    · exact h
    · exact absurd h (key hj hi e.symm)
/-- A node whose texts go on with a byte has one below it, by that byte. -/
theorem kid_find {w : List ByteArray} (hs : srt w) {i : Nat} {n : NodeD} (h : (trN w)[i]? = some n) {t : Nat} (ht : t < w.length) {c : UInt8} (hp : n.path ++ [c] <+: LL (w.getD t ByteArray.empty)) :
    ∃ (o : Nat) (g : Nat × Nat × Nat), o < (n.gr w).length ∧ (n.gr w).getD o (0, 0, 0) = g ∧ g.1 = c.toNat ∧ (trN w)[firstOf w i + o]? = some (mkN i n g) := by
  have ok := node_ok hs h
  obtain ⟨r, hr⟩ := hp
  have e2 : LL (w.getD t ByteArray.empty) = n.path ++ c :: r := by rw [← hr]; simp
  have hsz : n.path.length < (w.getD t ByteArray.empty).size := by rw [← LL_length, e2]; simp
  obtain ⟨h5, h6⟩ := from_all ok t ht ⟨_, e2.symm⟩ hsz
  obtain ⟨g, hg, h7, h8⟩ := groups_cover w n.path.length n.hi w.length (n.from_ w) (by have := ok.top; omega) t h5 h6
  have hb := (groups_in w n.path.length n.hi w.length (n.from_ w) g hg).2.2.2 t h7 h8
  rw [byAt_prefix e2] at hb
  obtain ⟨o, ho, he⟩ := List.mem_iff_getElem.1 (show g ∈ n.gr w from hg)
  have hd : (n.gr w).getD o (0, 0, 0) = g := by rw [List.getD_eq_getElem?_getD, List.getElem?_eq_getElem ho]; exact he
  refine ⟨o, g, ho, hd, hb.symm, ?_⟩
  rw [kid_at hs h ho, hd]
theorem kid_path {w : List ByteArray} (hs : srt w) {i : Nat} {n : NodeD} (h : (trN w)[i]? = some n) {g : Nat × Nat × Nat} (hg : g ∈ n.gr w) : g.1 < 256 ∧ ∃ t, t < w.length ∧ n.path ++ [UInt8.ofNat g.1] <+: LL (w.getD t ByteArray.empty) := by
  have ok := node_ok hs h
  obtain ⟨k1, k2⟩ := kid_ok hs ok i hg
  obtain ⟨h1, h2, h3, h4⟩ := groups_in w n.path.length n.hi w.length (n.from_ w) g hg
  refine ⟨by rw [← h4 g.2.1 (Nat.le_refl _) h2]; exact byAt_lt _ _, g.2.1, by have := ok.top; omega, k1.pre g.2.1 (Nat.le_refl _) h2⟩
theorem path_root {w : List ByteArray} : (trN w)[0]? = some ⟨[], 0, w.length, -1, 0⟩ := by
  obtain ⟨r, hr⟩ := nodes_mono_le w (k := 0) (m := trK w) (Nat.zero_le _)
  unfold trN
  rw [← hr]
  rfl
/-- Each beginning of a text is a node's path. -/
theorem path_has {w : List ByteArray} (hs : srt w) : ∀ (k : Nat) (p : List UInt8), p.length = k → (p = [] ∨ ∃ t, t < w.length ∧ p <+: LL (w.getD t ByteArray.empty)) → ∃ (i : Nat) (n : NodeD), (trN w)[i]? = some n ∧ n.path = p := by
  intro k
  induction k with
  | zero =>
    intro p hk _
    refine ⟨0, ⟨[], 0, w.length, -1, 0⟩, ?_, (List.length_eq_zero_iff.1 hk).symm⟩
    obtain ⟨r, hr⟩ := nodes_mono_le w (k := 0) (m := trK w) (Nat.zero_le _)
    unfold trN
    rw [← hr]
    rfl
  | succ k ih =>
    intro p hk hp
    have hne : p ≠ [] := by intro e; rw [e] at hk; simp at hk
    rcases hp with hp | ⟨t, ht, hp⟩
    · exact absurd hp hne
    · have hsplit := List.dropLast_concat_getLast hne
      have hpre : p.dropLast <+: LL (w.getD t ByteArray.empty) := (List.dropLast_prefix p).trans hp
      obtain ⟨i, n, h1, h2⟩ := ih p.dropLast (by rw [List.length_dropLast, hk]; rfl) (.inr ⟨t, ht, hpre⟩)
      obtain ⟨o, g, ho, hd, hg, hk2⟩ := kid_find hs h1 ht (c := p.getLast hne) (by rw [h2, hsplit]; exact hp)
      refine ⟨_, _, hk2, ?_⟩
      show n.path ++ [UInt8.ofNat g.1] = p
      rw [hg, UInt8.ofNat_toNat, h2, hsplit]
theorem path_is {w : List ByteArray} (hs : srt w) {i : Nat} {n : NodeD} (h : (trN w)[i]? = some n) : n.path = [] ∨ ∃ t, t < w.length ∧ n.path <+: LL (w.getD t ByteArray.empty) := by
  rcases nodes_full hs (trK w) n (List.mem_of_getElem? h) with h1 | h1
  · exact .inl h1
  · have ok := node_ok hs h
    exact .inr ⟨n.lo, by have := ok.top; omega, ok.pre n.lo (Nat.le_refl _) h1⟩
/-- The pattern that a node is. -/
theorem own_is {w : List ByteArray} (hs : srt w) {i : Nat} {n : NodeD} (h : (trN w)[i]? = some n) : (n.own w = true → n.lo < w.length ∧ LL (w.getD n.lo ByteArray.empty) = n.path) ∧ (∀ t, t < w.length → LL (w.getD t ByteArray.empty) = n.path → n.own w = true ∧ t = n.lo) := by
  have ok := node_ok hs h
  constructor
  · intro ho
    unfold NodeD.own at ho
    rw [Bool.and_eq_true, decide_eq_true_iff, decide_eq_true_iff] at ho
    exact ⟨by have := ok.top; omega, ((ok.pre n.lo (Nat.le_refl _) ho.1).eq_of_length (by rw [LL_length]; exact ho.2.symm)).symm⟩
  · intro t ht e
    obtain ⟨h1, h2⟩ := ok.all t ht ⟨[], by rw [e]; simp⟩
    have htl : t = n.lo := by
      rcases Nat.eq_or_lt_of_le h1 with h3 | h3
      · exact h3.symm
      · have := own_first (ok.pre n.lo (Nat.le_refl _) (by omega)) (ok.pre t h1 h2) (hs n.lo t h3 ht)
        rw [← LL_length, e] at this
        omega
    refine ⟨?_, htl⟩
    subst htl
    unfold NodeD.own
    rw [decide_eq_true h2, Bool.true_and, decide_eq_true_iff, ← LL_length, e]
/-- Each node but the root stands below one with a lesser number. -/
theorem above_is {w : List ByteArray} (hs : srt w) {i : Nat} {n : NodeD} (h : (trN w)[i]? = some n) (h0 : 0 < i) : ∃ (j : Nat) (m : NodeD) (o : Nat), (trN w)[j]? = some m ∧ j < i ∧ o < (m.gr w).length ∧ i = firstOf w j + o ∧ n = mkN j m ((m.gr w).getD o (0, 0, 0)) := by
  have hr : (trN w)[0]? = some ⟨[], 0, w.length, -1, 0⟩ := by
    obtain ⟨r, hr⟩ := nodes_mono_le w (k := 0) (m := trK w) (Nat.zero_le _)
    unfold trN
    rw [← hr]
    rfl
  have hne : n.path ≠ [] := fun e => by
    have := path_inj hs h hr e
    omega
  rcases path_is hs h with h1 | ⟨t, ht, hp⟩
  · exact absurd h1 hne
  · have hsplit := List.dropLast_concat_getLast hne
    obtain ⟨j, m, h1, h2⟩ := path_has hs _ n.path.dropLast rfl (.inr ⟨t, ht, (List.dropLast_prefix n.path).trans hp⟩)
    obtain ⟨o, g, ho, hd, hg, hk⟩ := kid_find hs h1 ht (c := n.path.getLast hne) (by rw [h2, hsplit]; exact hp)
    have e : i = firstOf w j + o := path_inj hs h hk (by
      show n.path = m.path ++ [UInt8.ofNat g.1]
      rw [hg, UInt8.ofNat_toNat, h2, hsplit])
    have hj := (first_gt hs h1).1
    refine ⟨j, m, o, h1, by omega, ho, e, ?_⟩
    rw [hd]
    rw [← e, h] at hk
    exact Option.some.inj hk
end Go.Proofs.Ytbkcjeopcjghgaa.P
