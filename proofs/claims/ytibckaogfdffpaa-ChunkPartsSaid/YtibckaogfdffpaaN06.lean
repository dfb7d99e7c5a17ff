/- Layer 6, the plain side: how long parts are, as one text, where a byte stands. -/
import Derived.Test.YtibckaogfdffpaaSame5
import Derived.Test.YtibckaogfdffpaaH06
import Derived.Test.YtibckaogfdffpaaF06w
import Derived.Test.YtibckaogfdffpaaPx13
import Derived.Test.YtibckaogfdffpaaPx14
import Derived.Test.YtibckaogfdffpaaPx16
import Derived.Test.YtibckaogfdffpaaPx17
import Derived.Test.YtibckaogfdffpaaPx12
import Derived.Test.YtibckaogfdffpaaPx19
import Derived.Test.YtibckaogfdffpaaPx24
namespace Go.Proofs.Ytibckaogfdffpaa.Base
open Go Go.RowKit Go.Proofs.YtibckaogfdffpaaW.PrintWords Go.Proofs.YtibckaogfdffpaaW.PrintLast Go.Proofs.Ytibckaogfdffpaa.P
set_option linter.unusedVariables false


/-! cuts -/
/-- Where a part of length n ends, of a text of m bytes. -/
def cutAt (n : Int) (m : Nat) : Nat := min n.toNat m
theorem cutAt_le (n : Int) (m : Nat) : cutAt n m ≤ m := Nat.min_le_right _ _
theorem mn_mx (n : Int) (m : Nat) : mn (mx n 0) (m : Int) = (cutAt n m : Int) := by
  unfold mn mx cutAt
  split <;> split <;> omega
/-- A text in parts. -/
def cutS : ByteArray → List Int → List ByteArray
  | s, [] => if s.size = 0 then [] else [s]
  | s, n :: l => s.extract 0 (cutAt n s.size) :: cutS (s.extract (cutAt n s.size) s.size) l

theorem cut_l0 (l : List Int) (hm : l.length ≤ 8796093022200) : ∀ (d i : Nat) (s : ByteArray) (out : List ByteArray), i + d = l.length → out.length + d + 1 < 8796093022208 →
    Ev (fun k => chunk_Cut.l0 k s out l (l.length : Int) (i : Int)) (out ++ cutS s (l.drop i)) := by
  intro d
  induction d with
  | zero =>
    intro i s out hi ho
    refine Ev.ret fun k => ?_
    simp only [chunk_Cut.l0]
    rw [if_neg (by omega), List.drop_of_length_le (by omega)]
    unfold cutS
    by_cases h : s.size = 0
    · rw [if_pos (toList_nil.2 h), if_pos h, List.append_nil]
    · rw [if_neg (fun e => h (toList_nil.1 e)), if_pos (by omega), if_neg h]
  | succ d ih =>
    intro i s out hi ho
    have hc := cutAt_le (l.getD i 0) s.size
    have hr : rd l (i : Int) = l.getD i 0 := rfl
    refine Ev.step (f := fun k => chunk_Cut.l0 k (s.extract (cutAt (l.getD i 0) s.size) s.size) (out ++ [s.extract 0 (cutAt (l.getD i 0) s.size)]) l (l.length : Int) ((i + 1 : Nat) : Int)) (fun k => ?_) ?_
    · simp only [chunk_Cut.l0, hr, mn_mx]
      rw [if_pos (by omega), if_pos (by omega), if_pos (by omega), if_pos (by omega), if_pos (by omega), if_pos (by omega), wrap_id (by omega) (by omega), Int.toNat_natCast]
      rfl
    · rw [getD_drop l i 0 (by omega)]
      unfold cutS
      have := ih (i + 1) (s.extract (cutAt (l.getD i 0) s.size) s.size) (out ++ [s.extract 0 (cutAt (l.getD i 0) s.size)]) (by omega) (by rw [List.length_append]; simp; omega)
      rwa [List.append_assoc, List.singleton_append] at this
theorem cut (s : ByteArray) (l : List Int) (hm : l.length ≤ 8796093022200) : Ev (fun k => chunk_Cut.f k s l) (cutS s l) := cut_l0 l hm l.length 0 s [] (by omega) (by simp; omega)
theorem awake06 : Ev (fun k => juratlaw06_awake.f k) true := by
  refine Ev.congr (f := fun k => (chunk_Cut.f k (⟨#[97, 98, 99, 100, 101]⟩ : ByteArray) [2, 0, 9]).bind fun t => ((juratref05_Same.f k t [(⟨#[97, 98]⟩ : ByteArray), (⟨#[]⟩ : ByteArray), (⟨#[99, 100, 101]⟩ : ByteArray)]).bind fun b => (if b = true then ((chunk_Cut.f k (⟨#[97, 98, 99]⟩ : ByteArray) [1]).bind fun u => ((juratref05_Same.f k u [(⟨#[97]⟩ : ByteArray), (⟨#[98, 99]⟩ : ByteArray)]).bind fun c => (some c))) else (some false)))) (fun k => rfl) ?_
  have e1 : cutS (⟨#[97, 98, 99, 100, 101]⟩ : ByteArray) [2, 0, 9] = [(⟨#[97, 98]⟩ : ByteArray), (⟨#[]⟩ : ByteArray), (⟨#[99, 100, 101]⟩ : ByteArray)] := by decide +kernel
  have e2 : cutS (⟨#[97, 98, 99]⟩ : ByteArray) [1] = [(⟨#[97]⟩ : ByteArray), (⟨#[98, 99]⟩ : ByteArray)] := by decide +kernel
  have h1 := cut (⟨#[97, 98, 99, 100, 101]⟩ : ByteArray) [2, 0, 9] (by simp)
  have h2 := cut (⟨#[97, 98, 99]⟩ : ByteArray) [1] (by simp)
  rw [e1] at h1
  rw [e2] at h2
  refine Ev.bind h1 ?_
  have s1 := same5 [(⟨#[97, 98]⟩ : ByteArray), (⟨#[]⟩ : ByteArray), (⟨#[99, 100, 101]⟩ : ByteArray)] [(⟨#[97, 98]⟩ : ByteArray), (⟨#[]⟩ : ByteArray), (⟨#[99, 100, 101]⟩ : ByteArray)] (by simp)
  have s2 := same5 [(⟨#[97]⟩ : ByteArray), (⟨#[98, 99]⟩ : ByteArray)] [(⟨#[97]⟩ : ByteArray), (⟨#[98, 99]⟩ : ByteArray)] (by simp)
  rw [decide_eq_true rfl] at s1 s2
  refine Ev.bind s1 ?_
  simp only [if_true]
  refine Ev.bind h2 ?_
  refine Ev.bind s2 ?_
  exact Ev.now true

theorem join_cons (x : ByteArray) (l : List ByteArray) : LL (joinB (x :: l)) = LL x ++ LL (joinB l) := by simp [joinB, LL]
theorem join_nil : LL (joinB []) = [] := rfl
theorem longest_l0 (l : List ByteArray) (hl : l.length ≤ 9223372036854775806) : ∀ (d i : Nat) (n : Int), i + d = l.length →
    Ev (fun k => chunk_Longest.l0 k n l (l.length : Int) (i : Int)) ((l.drop i).foldl (fun n s => mx n (s.size : Int)) n) := by
  intro d
  induction d with
  | zero =>
    intro i n hi
    refine Ev.ret fun k => ?_
    simp only [chunk_Longest.l0]
    rw [if_neg (by omega), List.drop_of_length_le (by omega)]
    rfl
  | succ d ih =>
    intro i n hi
    have hd := getD_drop l i ByteArray.empty (by omega)
    have e : rdOf ByteArray.empty l (i : Int) = l.getD i ByteArray.empty := rfl
    rw [hd, List.foldl_cons]
    refine Ev.step (f := fun k => chunk_Longest.l0 k (mx n ((l.getD i ByteArray.empty).size : Int)) l (l.length : Int) ((i + 1 : Nat) : Int)) (fun k => ?_) (ih (i + 1) _ (by omega))
    simp only [chunk_Longest.l0]
    rw [if_pos (by omega), if_pos (by omega), if_pos (by omega), e, wrap_id (by omega) (by omega)]
    rfl
theorem rlongest_l0 (l : List ByteArray) (hl : l.length ≤ 9223372036854775806) : ∀ (d i : Nat) (n : Int), i + d = l.length →
    Ev (fun k => juratref06_Longest.l0 k l n (i : Int)) ((l.drop i).foldl (fun n s => mx n (s.size : Int)) n) := by
  intro d
  induction d with
  | zero =>
    intro i n hi
    refine Ev.ret fun k => ?_
    simp only [juratref06_Longest.l0]
    rw [if_neg (by omega), List.drop_of_length_le (by omega)]
    rfl
  | succ d ih =>
    intro i n hi
    have hd := getD_drop l i ByteArray.empty (by omega)
    have e : rdOf ByteArray.empty l (i : Int) = l.getD i ByteArray.empty := rfl
    rw [hd, List.foldl_cons]
    refine Ev.step (f := fun k => juratref06_Longest.l0 k l (mx n ((l.getD i ByteArray.empty).size : Int)) ((i + 1 : Nat) : Int)) (fun k => ?_) (ih (i + 1) _ (by omega))
    simp only [juratref06_Longest.l0]
    rw [if_pos (by omega), if_pos (by omega), e]
    have hm : mx n ((l.getD i ByteArray.empty).size : Int) = if ((l.getD i ByteArray.empty).size : Int) > n then ((l.getD i ByteArray.empty).size : Int) else n := by
      unfold mx
      by_cases h : ((l.getD i ByteArray.empty).size : Int) > n
      · rw [if_pos h]
      · rw [if_neg h]
    rw [hm]
    by_cases h : ((l.getD i ByteArray.empty).size : Int) > n
    · rw [if_pos h, if_pos h, wrap_id (by omega) (by omega)]; rfl
    · rw [if_neg h, if_neg h, wrap_id (by omega) (by omega)]; rfl
/-- How long the longest one is. -/
def longI (l : List ByteArray) : Int := l.foldl (fun n s => mx n (s.size : Int)) 0
theorem longest_ev (l : List ByteArray) (hl : l.length ≤ 9223372036854775806) : Ev (fun k => chunk_Longest.f k l) (longI l) := longest_l0 l hl l.length 0 0 (by omega)
theorem rlongest_ev (l : List ByteArray) (hl : l.length ≤ 9223372036854775806) : Ev (fun k => juratref06_Longest.f k l) (longI l) := rlongest_l0 l hl l.length 0 0 (by omega)
theorem long_le (b : Int) : ∀ (l : List ByteArray) (n : Int), l.foldl (fun n s => mx n (s.size : Int)) n ≤ b ↔ (n ≤ b ∧ ∀ s ∈ l, (s.size : Int) ≤ b)
  | [], n => by simp
  | x :: l, n => by
    rw [List.foldl_cons, long_le b l]
    have hm : mx n (x.size : Int) ≤ b ↔ n ≤ b ∧ (x.size : Int) ≤ b := by
      unfold mx
      split <;> omega
    rw [hm]
    simp [and_assoc]
theorem lengths_l0 (l : List ByteArray) (hl : l.length ≤ 8796093022208) : ∀ (d i : Nat), i + d = l.length →
    Ev (fun k => chunk_Lengths.l0 k ((l.take i).map fun s => (s.size : Int)) l (l.length : Int) (i : Int)) (l.map fun s => (s.size : Int)) := by
  intro d
  induction d with
  | zero =>
    intro i hi
    refine Ev.ret fun k => ?_
    simp only [chunk_Lengths.l0]
    rw [if_neg (by omega), List.take_of_length_le (by omega)]
  | succ d ih =>
    intro i hi
    have ht : l.take (i + 1) = l.take i ++ [l.getD i ByteArray.empty] := by
      rw [List.take_succ_eq_append_getElem (by omega), List.getD_eq_getElem?_getD, List.getElem?_eq_getElem (by omega)]; rfl
    have e : rdOf ByteArray.empty l (i : Int) = l.getD i ByteArray.empty := rfl
    refine Ev.step (f := fun k => chunk_Lengths.l0 k ((l.take (i + 1)).map fun s => (s.size : Int)) l (l.length : Int) ((i + 1 : Nat) : Int)) (fun k => ?_) (ih (i + 1) (by omega))
    simp only [chunk_Lengths.l0]
    rw [if_pos (by omega), if_pos (by omega), if_pos (by omega), if_pos (by simp; omega), e, wrap_id (by omega) (by omega), ht]
    simp
theorem lengths_ev (l : List ByteArray) (hl : l.length ≤ 8796093022208) : Ev (fun k => chunk_Lengths.f k l) (l.map fun s => (s.size : Int)) := lengths_l0 l hl l.length 0 (by omega)
theorem join_is (l : List ByteArray) (b : List UInt8) (h : LL (joinB l) = b) (h1 : l.length ≤ 1000) (h2 : b.length ≤ 100000) : chunk_Join.f l = some (joinB l) := by
  unfold chunk_Join.f
  rw [if_pos ⟨by omega, by rw [← LL_length, h]; omega⟩]
theorem join_size : ∀ (l : List ByteArray), (∀ s ∈ l, (s.size : Int) ≤ 100) → (LL (joinB l)).length ≤ l.length * 100
  | [], _ => by rw [join_nil]; simp
  | x :: l, h => by
    rw [join_cons, List.length_append, LL_length, List.length_cons]
    have := join_size l (fun s hs => h s (List.mem_cons_of_mem _ hs))
    have := h x List.mem_cons_self
    omega

theorem joinB_take (l : List ByteArray) (i : Nat) (h : i < l.length) : joinB (l.take (i + 1)) = joinB (l.take i) ++ l.getD i ByteArray.empty := by
  apply ByteArray.ext
  apply Array.toList_inj.1
  show LL _ = LL _
  have e : ∀ a b : ByteArray, LL (a ++ b) = LL a ++ LL b := fun a b => by simp [LL]
  rw [e, List.take_succ_eq_append_getElem h, List.getD_eq_getElem?_getD, List.getElem?_eq_getElem h]
  show ((l.take i ++ [l[i]]).map LL).flatten = ((l.take i).map LL).flatten ++ LL l[i]
  rw [List.map_append, List.flatten_append]
  simp
theorem rjoin_l0 (l : List ByteArray) (hl : l.length ≤ 30) (hs : ∀ s ∈ l, (s.size : Int) ≤ 100) : ∀ (d i : Nat), i + d = l.length →
    Ev (fun k => juratref06_Join.l0 k l (joinB (l.take i)) (i : Int)) (joinB l) := by
  intro d
  induction d with
  | zero =>
    intro i hi
    refine Ev.ret fun k => ?_
    simp only [juratref06_Join.l0]
    rw [if_neg (by omega), List.take_of_length_le (by omega)]
  | succ d ih =>
    intro i hi
    have e : rdOf ByteArray.empty l (i : Int) = l.getD i ByteArray.empty := rfl
    refine Ev.step (f := fun k => juratref06_Join.l0 k l (joinB (l.take (i + 1))) ((i + 1 : Nat) : Int)) (fun k => ?_) (ih (i + 1) (by omega))
    have hz := join_size (l.take (i + 1)) (fun s h => hs s (List.mem_of_mem_take h))
    rw [joinB_take l i (by omega), LL_length, ByteArray.size_append, List.length_take] at hz
    simp only [juratref06_Join.l0]
    rw [if_pos (by omega), if_pos (by omega), e, if_pos (by omega), wrap_id (by omega) (by omega), joinB_take l i (by omega)]
    rfl
theorem rjoin_ev (l : List ByteArray) (hl : l.length ≤ 30) (hs : ∀ s ∈ l, (s.size : Int) ≤ 100) : Ev (fun k => juratref06_Join.f k l) (joinB l) := rjoin_l0 l hl hs l.length 0 (by omega)
/-- Where the document says that a byte stands. -/
def rWhere (l : List ByteArray) (a : Int) : Int × Int := if (whereB l a).2.2 = true then ((whereB l a).1, (whereB l a).2.1) else (-1, 0)
theorem rwhere_l1 (l : List ByteArray) (hl : l.length ≤ 30) (a : Int) (i : Nat) (hi : i < l.length) (n : Nat) (hn : n ≤ 100000) (hs : ((l.getD i ByteArray.empty).size : Int) ≤ 100) (hlo : (n : Int) ≤ a ∨ a < 0) (v : Int × Int)
    (hnext : ¬ (0 ≤ a ∧ a < (n : Int) + ((l.getD i ByteArray.empty).size : Int)) → Ev (fun k => juratref06_Where.l0 k l a ((n + (l.getD i ByteArray.empty).size : Nat) : Int) ((i + 1 : Nat) : Int)) v)
    (hv : 0 ≤ a ∧ a < (n : Int) + ((l.getD i ByteArray.empty).size : Int) → v = ((i : Int), a - (n : Int))) : ∀ (d t : Nat), t + d = (l.getD i ByteArray.empty).size → ((n + t : Nat) : Int) ≤ a ∨ a < 0 →
    Ev (fun k => juratref06_Where.l1 k l a ((n + t : Nat) : Int) (i : Int) (t : Int)) v := by
  have e : rdOf ByteArray.empty l (i : Int) = l.getD i ByteArray.empty := rfl
  intro d
  induction d with
  | zero =>
    intro t ht hta
    refine Ev.step (f := fun k => juratref06_Where.l0 k l a ((n + (l.getD i ByteArray.empty).size : Nat) : Int) ((i + 1 : Nat) : Int)) (fun k => ?_) (hnext (by omega))
    simp only [juratref06_Where.l1]
    rw [if_pos (by omega), if_pos (by omega), e, if_neg (by omega), wrap_id (by omega) (by omega), show t = (l.getD i ByteArray.empty).size by omega]
    rfl
  | succ d ih =>
    intro t ht hta
    by_cases heq : ((n + t : Nat) : Int) = a
    · refine Ev.ret fun k => ?_
      simp only [juratref06_Where.l1]
      rw [if_pos (by omega), if_pos (by omega), e, if_pos (by omega), if_pos heq, hv (by omega)]
      congr 2
      omega
    · refine Ev.step (f := fun k => juratref06_Where.l1 k l a ((n + (t + 1) : Nat) : Int) (i : Int) ((t + 1 : Nat) : Int)) (fun k => ?_) (ih (t + 1) (by omega) (by omega))
      simp only [juratref06_Where.l1]
      rw [if_pos (by omega), if_pos (by omega), e, if_pos (by omega), if_neg heq, wrap_id (by omega) (by omega), wrap_id (by omega) (by omega)]
      rfl
theorem sumS_small (l : List ByteArray) (hs : ∀ s ∈ l, (s.size : Int) ≤ 100) : sumS l ≤ l.length * 100 := by
  induction l with
  | nil => simp [sumS]
  | cons x l ih =>
    have h1 := hs x List.mem_cons_self
    have h2 := ih (fun s h => hs s (List.mem_cons_of_mem _ h))
    simp only [sumS, List.length_cons]
    omega
theorem rwhere_l0 (l : List ByteArray) (hl : l.length ≤ 30) (hs : ∀ s ∈ l, (s.size : Int) ≤ 100) (a : Int) : ∀ (d i : Nat), i + d = l.length → ((sumS (l.take i) : Int) ≤ a ∨ a < 0) →
    Ev (fun k => juratref06_Where.l0 k l a (sumS (l.take i) : Int) (i : Int)) (rWhere l a) := by
  intro d
  induction d with
  | zero =>
    intro i hi ha
    refine Ev.ret fun k => ?_
    simp only [juratref06_Where.l0]
    rw [if_neg (by omega)]
    rw [List.take_of_length_le (by omega)] at ha
    have hw : whereB l a = (0, 0, false) := by
      unfold whereB
      by_cases h : a < 0
      · rw [if_pos h]
      · rw [if_neg h]; exact whereFrom_none l a 0 (by omega)
    unfold rWhere
    rw [hw]
    rfl
  | succ d ih =>
    intro i hi ha
    have htk := sumS_take l i (by omega)
    have hsz := hs _ (getD_mem l i ByteArray.empty (by omega))
    have hsm := sumS_small (l.take i) (fun s h => hs s (List.mem_of_mem_take h))
    rw [List.length_take] at hsm
    refine Ev.step (f := fun k => juratref06_Where.l1 k l a ((sumS (l.take i) + 0 : Nat) : Int) (i : Int) ((0 : Nat) : Int)) (fun k => ?_) (rwhere_l1 l hl a i (by omega) (sumS (l.take i)) (by omega) hsz ha (rWhere l a) ?_ ?_ (l.getD i ByteArray.empty).size 0 (by omega) (by omega))
    · simp only [juratref06_Where.l0]
      rw [if_pos (by omega)]
      rfl
    · intro hno
      rw [← htk]
      exact ih (i + 1) (by omega) (by omega)
    · intro hin
      have hw : whereB l a = ((i : Int), a - (sumS (l.take i) : Int), true) := by
        unfold whereB
        rw [if_neg (by omega), whereFrom_at l a 0 i (by omega) (by omega) (by rw [htk]; omega), Nat.zero_add]
      unfold rWhere
      rw [hw]
      rfl
theorem rwhere_ev (l : List ByteArray) (hl : l.length ≤ 30) (hs : ∀ s ∈ l, (s.size : Int) ≤ 100) (a : Int) : Ev (fun k => juratref06_Where.f k l a) (rWhere l a) := rwhere_l0 l hl hs a l.length 0 (by omega) (by simp only [List.take_zero, sumS]; omega)

end Go.Proofs.Ytibckaogfdffpaa.Base
