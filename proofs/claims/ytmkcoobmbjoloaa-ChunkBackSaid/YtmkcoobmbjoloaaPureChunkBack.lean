/- Proved: for every text, every list of lengths, every number and all parts the law ChunkBack of layer 6 answers true. No condition beyond the statement's own. -/
import Derived.Test.YtmkcoobmbjoloaaPureChunkCuts
import Derived.Test.YtmkcoobmbjoloaaH06
import Derived.Test.YtmkcoobmbjoloaaPx12
namespace Go.Proofs.Ytmkcoobmbjoloaa.Pure
open Go Go.RowKit Go.Proofs.Ytmkcoobmbjoloaa.P Go.Proofs.YtmkcoobmbjoloaaW.PrintWords Go.Proofs.YtmkcoobmbjoloaaW.PrintLast Go.Proofs.Ytmkcoobmbjoloaa.Base
set_option linter.unusedVariables false

theorem join_cons (x : ByteArray) (l : List ByteArray) : LL (joinB (x :: l)) = LL x ++ LL (joinB l) := by simp [joinB, LL]
theorem join_nil : LL (joinB []) = [] := rfl
theorem join_cut : ∀ (l : List Int) (s : ByteArray), LL (joinB (cutS s l)) = LL s
  | [], s => by
    unfold cutS
    by_cases h : s.size = 0
    · rw [if_pos h, join_nil, List.length_eq_zero_iff.1 ((LL_length s).trans h)]
    · rw [if_neg h, join_cons, join_nil, List.append_nil]
  | n :: l, s => by
    unfold cutS
    have hc := cutAt_le n s.size
    rw [join_cons, join_cut l, LL_extract, LL_extract, List.drop_zero, List.take_of_length_le (l := LL s) (i := s.size) (by rw [LL_length]; exact Nat.le_refl _), List.take_append_drop]
theorem join_even (s : ByteArray) (n : Nat) (hn : 1 ≤ n) : ∀ d a, s.size < a + d → LL (joinB (evenS s n d a)) = (LL s).drop a
  | 0, a, h => by rw [List.drop_of_length_le (by rw [LL_length]; omega)]; rfl
  | d + 1, a, h => by
    unfold evenS
    by_cases ha : a < s.size
    · rw [if_pos ha, join_cons, join_even s n hn d _ (by omega), LL_extract]
      have e : (LL s).drop a = ((LL s).drop a).take (min n (s.size - a)) ++ ((LL s).drop a).drop (min n (s.size - a)) := (List.take_append_drop _ _).symm
      rw [e, List.drop_drop, List.drop_take, Nat.add_sub_cancel_left]
    · rw [if_neg ha, join_nil, List.drop_of_length_le (by rw [LL_length]; omega)]
theorem even_parts (s : ByteArray) (n : Nat) : ∀ d a, ∀ x ∈ evenS s n d a, x.size ≤ n
  | 0, a, x, h => by simp [evenS] at h
  | d + 1, a, x, h => by
    unfold evenS at h
    by_cases ha : a < s.size
    · rw [if_pos ha] at h
      rcases List.mem_cons.1 h with rfl | h
      · rw [ByteArray.size_extract]; omega
      · exact even_parts s n d _ x h
    · rw [if_neg ha] at h; cases h
theorem longest_l0 (l : List ByteArray) (hl : l.length ≤ 9223372036854775806) : ∀ (d i : Nat) (n : Int), i + d = l.length →
    Ev (fun k => chunk_Longest.l0 k n l (l.length : Int) (i : Int)) ((l.drop i).foldl (fun n s => mx n (s.size : Int)) n) := by
  intro d
  induction d with
  | zero =>
    intro i n hi
    refine Ev.ret fun k => ?_
    simp only [chunk_Longest.l0]
    rw [if_neg (by omega), List.drop_of_length_le (by omega)]
    rfl
  | succ d ih =>
    intro i n hi
    have hd := getD_drop l i ByteArray.empty (by omega)
    have e : rdOf ByteArray.empty l (i : Int) = l.getD i ByteArray.empty := rfl
    rw [hd, List.foldl_cons]
    refine Ev.step (f := fun k => chunk_Longest.l0 k (mx n ((l.getD i ByteArray.empty).size : Int)) l (l.length : Int) ((i + 1 : Nat) : Int)) (fun k => ?_) (ih (i + 1) _ (by omega))
    simp only [chunk_Longest.l0]
    rw [if_pos (by omega), if_pos (by omega), if_pos (by omega), e, wrap_id (by omega) (by omega)]
    rfl
theorem rlongest_l0 (l : List ByteArray) (hl : l.length ≤ 9223372036854775806) : ∀ (d i : Nat) (n : Int), i + d = l.length →
    Ev (fun k => juratref06_Longest.l0 k l n (i : Int)) ((l.drop i).foldl (fun n s => mx n (s.size : Int)) n) := by
  intro d
  induction d with
  | zero =>
    intro i n hi
    refine Ev.ret fun k => ?_
    simp only [juratref06_Longest.l0]
    rw [if_neg (by omega), List.drop_of_length_le (by omega)]
    rfl
  | succ d ih =>
    intro i n hi
    have hd := getD_drop l i ByteArray.empty (by omega)
    have e : rdOf ByteArray.empty l (i : Int) = l.getD i ByteArray.empty := rfl
    rw [hd, List.foldl_cons]
    refine Ev.step (f := fun k => juratref06_Longest.l0 k l (mx n ((l.getD i ByteArray.empty).size : Int)) ((i + 1 : Nat) : Int)) (fun k => ?_) (ih (i + 1) _ (by omega))
    simp only [juratref06_Longest.l0]
    rw [if_pos (by omega), if_pos (by omega), e]
    have hm : mx n ((l.getD i ByteArray.empty).size : Int) = if ((l.getD i ByteArray.empty).size : Int) > n then ((l.getD i ByteArray.empty).size : Int) else n := by
      unfold mx
      by_cases h : ((l.getD i ByteArray.empty).size : Int) > n
      · rw [if_pos h]
      · rw [if_neg h]
    rw [hm]
    by_cases h : ((l.getD i ByteArray.empty).size : Int) > n
    · rw [if_pos h, if_pos h, wrap_id (by omega) (by omega)]; rfl
    · rw [if_neg h, if_neg h, wrap_id (by omega) (by omega)]; rfl
/-- How long the longest one is. -/
def longI (l : List ByteArray) : Int := l.foldl (fun n s => mx n (s.size : Int)) 0
theorem longest_ev (l : List ByteArray) (hl : l.length ≤ 9223372036854775806) : Ev (fun k => chunk_Longest.f k l) (longI l) := longest_l0 l hl l.length 0 0 (by omega)
theorem rlongest_ev (l : List ByteArray) (hl : l.length ≤ 9223372036854775806) : Ev (fun k => juratref06_Longest.f k l) (longI l) := rlongest_l0 l hl l.length 0 0 (by omega)
theorem long_le (b : Int) : ∀ (l : List ByteArray) (n : Int), l.foldl (fun n s => mx n (s.size : Int)) n ≤ b ↔ (n ≤ b ∧ ∀ s ∈ l, (s.size : Int) ≤ b)
  | [], n => by simp
  | x :: l, n => by
    rw [List.foldl_cons, long_le b l]
    have hm : mx n (x.size : Int) ≤ b ↔ n ≤ b ∧ (x.size : Int) ≤ b := by
      unfold mx
      split <;> omega
    rw [hm]
    simp [and_assoc]
theorem lengths_l0 (l : List ByteArray) (hl : l.length ≤ 8796093022208) : ∀ (d i : Nat), i + d = l.length →
    Ev (fun k => chunk_Lengths.l0 k ((l.take i).map fun s => (s.size : Int)) l (l.length : Int) (i : Int)) (l.map fun s => (s.size : Int)) := by
  intro d
  induction d with
  | zero =>
    intro i hi
    refine Ev.ret fun k => ?_
    simp only [chunk_Lengths.l0]
    rw [if_neg (by omega), List.take_of_length_le (by omega)]
  | succ d ih =>
    intro i hi
    have ht : l.take (i + 1) = l.take i ++ [l.getD i ByteArray.empty] := by
      rw [List.take_succ_eq_append_getElem (by omega), List.getD_eq_getElem?_getD, List.getElem?_eq_getElem (by omega)]; rfl
    have e : rdOf ByteArray.empty l (i : Int) = l.getD i ByteArray.empty := rfl
    refine Ev.step (f := fun k => chunk_Lengths.l0 k ((l.take (i + 1)).map fun s => (s.size : Int)) l (l.length : Int) ((i + 1 : Nat) : Int)) (fun k => ?_) (ih (i + 1) (by omega))
    simp only [chunk_Lengths.l0]
    rw [if_pos (by omega), if_pos (by omega), if_pos (by omega), if_pos (by simp; omega), e, wrap_id (by omega) (by omega), ht]
    simp
theorem lengths_ev (l : List ByteArray) (hl : l.length ≤ 8796093022208) : Ev (fun k => chunk_Lengths.f k l) (l.map fun s => (s.size : Int)) := lengths_l0 l hl l.length 0 (by omega)
theorem cut_back : ∀ (l : List ByteArray) (s : ByteArray), LL s = LL (joinB l) → cutS s (l.map fun s => (s.size : Int)) = l
  | [], s, h => by
    unfold cutS
    rw [List.map_nil]
    have : s.size = 0 := by rw [← LL_length, h]; rfl
    simp only
    rw [if_pos this]
  | x :: l, s, h => by
    rw [join_cons] at h
    have hz : s.size = x.size + (LL (joinB l)).length := by rw [← LL_length, h, List.length_append, LL_length]
    rw [List.map_cons]
    unfold cutS
    have hc : cutAt (x.size : Int) s.size = x.size := by unfold cutAt; omega
    rw [hc, cut_back l]
    · congr 1
      apply LL_inj
      rw [LL_extract, h, List.drop_zero, List.take_append_of_le_length (by rw [LL_length]; exact Nat.le_refl _), List.take_of_length_le (by rw [LL_length]; exact Nat.le_refl _)]
    · rw [LL_extract, List.take_of_length_le (by rw [LL_length]; exact Nat.le_refl _), h, List.drop_append_of_le_length (by rw [LL_length]; exact Nat.le_refl _), List.drop_of_length_le (by rw [LL_length]; exact Nat.le_refl _), List.nil_append]
theorem cutS_len : ∀ (l : List Int) (s : ByteArray), (cutS s l).length ≤ l.length + 1
  | [], s => by unfold cutS; split <;> simp
  | n :: l, s => by unfold cutS; simpa using cutS_len l _
theorem join_is (l : List ByteArray) (b : List UInt8) (h : LL (joinB l) = b) (h1 : l.length ≤ 1000) (h2 : b.length ≤ 100000) : chunk_Join.f l = some (joinB l) := by
  unfold chunk_Join.f
  rw [if_pos ⟨by omega, by rw [← LL_length, h]; omega⟩]
theorem join_size : ∀ (l : List ByteArray), (∀ s ∈ l, (s.size : Int) ≤ 100) → (LL (joinB l)).length ≤ l.length * 100
  | [], _ => by rw [join_nil]; simp
  | x :: l, h => by
    rw [join_cons, List.length_append, LL_length, List.length_cons]
    have := join_size l (fun s hs => h s (List.mem_cons_of_mem _ hs))
    have := h x List.mem_cons_self
    omega

theorem back_j1 (l : List ByteArray) (h1 : l.length ≤ 30) (h2 : ∀ s ∈ l, (s.size : Int) ≤ 100) : Ev (fun k => juratlaw06_ChunkBack.j1 k l false) true := by
  have hz := join_size l h2
  have e1 := join_is l _ rfl (by omega) (by omega)
  refine Ev.step (f := fun k => (chunk_Join.f l).bind fun t532 => ((chunk_Lengths.f k l).bind fun t533 => ((chunk_Cut.f k t532 t533).bind fun t536 => ((juratref05_Same.f k t536 l).bind fun t539 => (if t539 = true then ((juratlaw06_awake.f k).bind fun t540 => (some t540)) else (some false)))))) (fun k => ?_) ?_
  · simp only [juratlaw06_ChunkBack.j1]
    rw [if_neg (by simp)]
  refine Ev.bind (Ev.const fun _ => e1) (Ev.bind (lengths_ev l (by omega)) (Ev.bind (cut _ _ (by rw [List.length_map]; omega)) ?_))
  rw [cut_back l _ rfl]
  have s1 := same5 l l (by omega)
  rw [decide_eq_true rfl] at s1
  refine Ev.bind s1 ?_
  simp only [if_true]
  exact Ev.bind awake06 (Ev.now true)

theorem ChunkBack (s : ByteArray) (l : List Int) (n : Int) (p : List ByteArray) (hs : s.size ≤ 140737488351232) (hl : l.length ≤ maxLen) (hl2 : l.length * 8 ≤ 140737488351232) (_ : ∀ n ∈ l, (Lit.int .i64 n).wf = true) (hn : (Lit.int .i64 n).wf = true)
    (hp : p.length * 16 ≤ 140737488351232) (_ : ∀ x ∈ p, x.size ≤ maxLen) : ∃ k, juratlaw06_ChunkBack.f k s l n p = some true := by
  have hn' := wf64 hn
  clear hn
  refine Ev.rounds ?_
  have big : Ev (fun k => juratlaw06_ChunkBack.j0 k s l n p true) true := by
    refine Ev.step (f := fun k => (juratlaw06_awake.f k).bind fun c => some c) (fun k => ?_) (Ev.bind awake06 (Ev.now true))
    simp only [juratlaw06_ChunkBack.j0]
    rw [if_pos trivial]
  by_cases h1 : (s.size : Int) > 500
  · exact Ev.congr (fun k => by unfold juratlaw06_ChunkBack.f; rw [if_pos h1]) big
  by_cases h2 : (l.length : Int) > 50
  · exact Ev.congr (fun k => by unfold juratlaw06_ChunkBack.f; rw [if_neg h1, if_pos h2]) big
  by_cases h3 : (p.length : Int) > 30
  · exact Ev.congr (fun k => by unfold juratlaw06_ChunkBack.f; rw [if_neg h1, if_neg h2, if_pos h3]) big
  refine Ev.congr (f := fun k => (juratref06_Longest.f k p).bind fun t520 => (juratlaw06_ChunkBack.j0 k s l n p (decide (t520 > 100)))) (fun k => by unfold juratlaw06_ChunkBack.f; rw [if_neg h1, if_neg h2, if_neg h3]) ?_
  refine Ev.bind (rlongest_ev p (by omega)) ?_
  by_cases h4 : longI p > 100
  · exact Ev.congr (fun k => by rw [decide_eq_true h4]) big
  have h5 := ((long_le 100 p 0).1 (Int.not_lt.1 h4)).2
  have hj1 := back_j1 p (by omega) h5
  rw [decide_eq_false h4]
  have ec := join_cut l s
  have e1 := join_is (cutS s l) _ ec (by have := cutS_len l s; omega) (by rw [LL_length]; omega)
  have et : (joinB (cutS s l)).toList = s.toList := toList_iff.2 (LL_inj ec)
  by_cases h6 : n ≥ 1
  · have ee := join_even s n.toNat (by omega) (s.size + 1) 0 (by omega)
    rw [List.drop_zero] at ee
    have el := evenS_len s n.toNat (s.size + 1) 0
    have e2 := join_is (evenS s n.toNat (s.size + 1) 0) _ ee (by omega) (by rw [LL_length]; omega)
    have et2 : (joinB (evenS s n.toNat (s.size + 1) 0)).toList = s.toList := toList_iff.2 (LL_inj ee)
    have hlong : longI (evenS s n.toNat (s.size + 1) 0) ≤ n := (long_le n _ 0).2 ⟨by omega, fun x hx => by have := even_parts s n.toNat _ _ x hx; omega⟩
    refine Ev.step (f := fun k => (chunk_Even.f k s n).bind fun bt522 => ((chunk_Cut.f k s l).bind fun t526 => ((chunk_Join.f t526).bind fun t529 => (if t529.toList = s.toList then ((chunk_Join.f bt522.1).bind fun t530 => (if t530.toList = s.toList then ((chunk_Longest.f k bt522.1).bind fun t531 => (juratlaw06_ChunkBack.j1 k p (decide (t531 > n)))) else (juratlaw06_ChunkBack.j1 k p true))) else (juratlaw06_ChunkBack.j1 k p true))))) (fun k => ?_) ?_
    · simp only [juratlaw06_ChunkBack.j0]
      rw [if_neg (by simp)]
      simp only [if_pos h6]
    refine Ev.bind (even s n h6 (by omega)) (Ev.bind (cut s l (by omega)) ?_)
    refine Ev.bind (Ev.const fun _ => e1) ?_
    refine Ev.congr (fun k => if_pos et) ?_
    refine Ev.bind (Ev.const fun _ => e2) ?_
    refine Ev.congr (fun k => if_pos et2) ?_
    refine Ev.bind (longest_ev (evenS s n.toNat (s.size + 1) 0) (by omega)) ?_
    rw [decide_eq_false (show ¬ longI (evenS s n.toNat (s.size + 1) 0) > n by omega)]
    exact hj1
  · refine Ev.step (f := fun k => (chunk_Even.f k s n).bind fun bt522 => ((chunk_Cut.f k s l).bind fun t526 => ((chunk_Join.f t526).bind fun t529 => (if t529.toList = s.toList then (juratlaw06_ChunkBack.j1 k p false) else (juratlaw06_ChunkBack.j1 k p true))))) (fun k => ?_) ?_
    · simp only [juratlaw06_ChunkBack.j0]
      rw [if_neg (by simp)]
      simp only [if_neg h6]
    refine Ev.bind (even_bad s n (by omega)) (Ev.bind (cut s l (by omega)) ?_)
    refine Ev.bind (Ev.const fun _ => e1) ?_
    refine Ev.congr (fun k => if_pos et) ?_
    exact hj1

end Go.Proofs.Ytmkcoobmbjoloaa.Pure
