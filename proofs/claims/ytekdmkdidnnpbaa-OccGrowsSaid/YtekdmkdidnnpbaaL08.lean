/- What the border layer and its reference compute, as plain functions on byte strings; no condition beyond the sizes that stand in each statement. -/
import Derived.Test.YtekdmkdidnnpbaaKmp
import Derived.Test.YtekdmkdidnnpbaaSame1
import Derived.Test.YtekdmkdidnnpbaaPx102
import Derived.Test.YtekdmkdidnnpbaaPx64
namespace Go.Proofs.Ytekdmkdidnnpbaa.Base
open Go Go.RowKit Go.Proofs.YtekdmkdidnnpbaaW.PrintWords Go.Proofs.YtekdmkdidnnpbaaW.PrintMore Go.Proofs.Ytekdmkdidnnpbaa.P

theorem bt_iff {s t : ByteArray} {i j : Nat} (_hi : i < s.size) (hj : j < t.size) : bt s (i : Int) = bt t (j : Int) ↔ (LL t)[j]? = some ((LL s).getD i 0) := by
  rw [bt_eq, bt_eq, Int.toNat_natCast, Int.toNat_natCast]
  have hj' : j < (LL t).length := by rw [LL_length]; exact hj
  rw [List.getElem?_eq_getElem hj', List.getD_eq_getElem?_getD (l := LL t), List.getElem?_eq_getElem hj', Option.getD_some]
  constructor
  · intro h; rw [Option.some.injEq]; exact UInt8.toNat_inj.1 (by omega)
  · intro h; rw [Option.some.inj h]
theorem getElem?_none {s : ByteArray} {i : Nat} (h : s.size ≤ i) : (LL s)[i]? = none := List.getElem?_eq_none (by rw [LL_length]; exact h)
theorem take_next {s : ByteArray} {i : Nat} (h : i < s.size) : (LL s).take (i + 1) = (LL s).take i ++ [(LL s).getD i 0] := by
  have h' : i < (LL s).length := by rw [LL_length]; exact h
  rw [List.take_succ_eq_append_getElem h', List.getD_eq_getElem?_getD, List.getElem?_eq_getElem h']
  rfl

/-! the table -/
/-- For each beginning of a text, how long its longest border is. -/
def tabS (s : ByteArray) : List Int := (List.range (s.size + 1)).map fun j => (fail (LL s) j : Int)
theorem tabS_length (s : ByteArray) : (tabS s).length = s.size + 1 := by unfold tabS; simp
theorem tabS_get (s : ByteArray) (j : Nat) (h : j ≤ s.size) : (tabS s).getD j 0 = (fail (LL s) j : Int) := by
  unfold tabS
  rw [List.getD_eq_getElem?_getD, List.getElem?_map, List.getElem?_range (by omega)]
  rfl
theorem rd_tabS (s : ByteArray) (j : Nat) (h : j ≤ s.size) : rd (tabS s) (j : Int) = (fail (LL s) j : Int) := tabS_get s j h

theorem table_l1 (s : ByteArray) (hs : s.size ≤ 8796093022200) (i : Nat) (h1 : 1 ≤ i) (hi : i < s.size) (out : List Int) (hl : out.length = s.size + 1) (ho : ∀ j, j ≤ i → out.getD j 0 = (fail (LL s) j : Int)) (r : List Int)
    (hr : Ev (fun k => border_Table.l0 k s (out.set (i + 1) (fail (LL s) (i + 1) : Int)) (fail (LL s) (i + 1) : Int) ((i + 1 : Nat) : Int)) r) :
    ∀ (n k : Nat), k ≤ n → Chain (LL s) ((LL s).take i) ((LL s).getD i 0) (i - 1) k → Ev (fun q => border_Table.l1 q s out (k : Int) (i : Int)) r := by
  have hf : fail (LL s) (i + 1) = st (LL s) ((LL s).take i ++ [(LL s).getD i 0]) i := by unfold fail st; rw [take_next hi]; rfl
  have hlen : ((LL s).take i).length = i := by rw [List.length_take, LL_length]; omega
  intro n
  induction n with
  | zero =>
    intro k hk hch
    obtain rfl : k = 0 := by omega
    by_cases hb : bt s (i : Int) = bt s ((0 : Nat) : Int)
    · have hc := (bt_iff hi (by omega : 0 < s.size)).1 hb
      have e := chain_hit hch hc i (by omega) (by omega)
      rw [← hf] at e
      rw [e] at hr
      refine Ev.step (fun q => ?_) hr
      simp only [border_Table.l1]
      rw [if_neg (by omega), if_pos (by omega), if_pos (by omega), if_pos (by omega), if_pos (by omega), if_pos hb]
      rw [show wrap64 ((i : Int) + 1) = ((i + 1 : Nat) : Int) from by rw [wrap_id (by omega) (by omega)]; rfl, show wrap64 (((0 : Nat) : Int) + 1) = ((0 + 1 : Nat) : Int) from by rw [wrap_id (by omega) (by omega)]; rfl]
      rw [if_pos (by omega), if_pos (by omega), Int.toNat_natCast]
    · have e := chain_miss hch (fun hc => hb ((bt_iff hi (by omega : 0 < s.size)).2 hc)) i (by omega)
      rw [← hf] at e
      rw [e] at hr
      refine Ev.step (fun q => ?_) hr
      simp only [border_Table.l1]
      rw [if_neg (by omega), if_pos (by omega), if_pos (by omega), if_pos (by omega), if_pos (by omega), if_neg hb]
      rw [show wrap64 ((i : Int) + 1) = ((i + 1 : Nat) : Int) from by rw [wrap_id (by omega) (by omega)]; rfl]
      rw [if_pos (by omega), if_pos (by omega), Int.toNat_natCast]
  | succ n ih =>
    intro k hk hch
    have hle := hch.le
    by_cases hk0 : k = 0
    · exact ih k (by omega) hch
    by_cases hb : bt s (i : Int) = bt s (k : Int)
    · have hc := (bt_iff hi (by omega : k < s.size)).1 hb
      have e := chain_hit hch hc i (by omega) (by omega)
      rw [← hf] at e
      rw [e] at hr
      refine Ev.step (fun q => ?_) hr
      simp only [border_Table.l1]
      rw [if_pos (by omega), if_pos (by omega), if_pos (by omega), if_pos (by omega), if_pos (by omega), if_pos hb]
      rw [show wrap64 ((i : Int) + 1) = ((i + 1 : Nat) : Int) from by rw [wrap_id (by omega) (by omega)]; rfl, show wrap64 ((k : Int) + 1) = ((k + 1 : Nat) : Int) from by rw [wrap_id (by omega) (by omega)]; rfl]
      rw [if_pos (by omega), if_pos (by omega), Int.toNat_natCast]
    · have hch' := chain_fail hch (by omega) (fun hc => hb ((bt_iff hi (by omega : k < s.size)).2 hc))
      have hlt := fail_lt (LL s) k (by omega)
      refine Ev.step (fun q => ?_) (ih (fail (LL s) k) (by omega) hch')
      simp only [border_Table.l1]
      rw [if_pos (by omega), if_pos (by omega), if_pos (by omega), if_pos (by omega), if_pos (by omega), if_neg hb, if_pos (by omega)]
      rw [show rd out (k : Int) = (fail (LL s) k : Int) from ho k (by omega)]
theorem table_l0 (s : ByteArray) (hs : s.size ≤ 8796093022200) : ∀ (d i : Nat) (out : List Int), 1 ≤ i → i + d = s.size → out.length = s.size + 1 → (∀ j, j ≤ i → out.getD j 0 = (fail (LL s) j : Int)) →
    Ev (fun k => border_Table.l0 k s out (fail (LL s) i : Int) (i : Int)) (tabS s) := by
  intro d
  induction d with
  | zero =>
    intro i out h1 hi hl ho
    have e : out = tabS s := by
      apply List.ext_getElem (by rw [hl, tabS_length])
      intro j hj1 hj2
      have a := ho j (by omega)
      have b := tabS_get s j (by omega)
      rw [List.getD_eq_getElem?_getD, List.getElem?_eq_getElem hj1] at a
      rw [List.getD_eq_getElem?_getD, List.getElem?_eq_getElem hj2] at b
      exact a.trans b.symm
    rw [e]
    refine Ev.ret fun k => ?_
    simp only [border_Table.l0]
    rw [if_neg (by omega)]
  | succ d ih =>
    intro i out h1 hi hl ho
    refine Ev.step (f := fun k => border_Table.l1 k s out (fail (LL s) i : Int) (i : Int)) (fun k => ?_) ?_
    · simp only [border_Table.l0]
      rw [if_pos (by omega)]
    · refine table_l1 s hs i h1 (by omega) out hl ho _ ?_ _ _ (Nat.le_refl _) ?_
      · refine ih (i + 1) _ (by omega) (by omega) (by rw [List.length_set]; exact hl) fun j hj => ?_
        by_cases e : j = i + 1
        · rw [e, List.getD_eq_getElem?_getD, List.getElem?_set_self (by omega)]; rfl
        · rw [List.getD_eq_getElem?_getD, List.getElem?_set_ne (by omega), ← List.getD_eq_getElem?_getD]
          exact ho j (by omega)
      · exact chain_start _ _ _ _
theorem table (s : ByteArray) (hs : s.size ≤ 8796093022200) : Ev (fun k => border_Table.f k s) (tabS s) := by
  have hf : ∀ j, j ≤ 1 → fail (LL s) j = 0 := fun j hj => by have := fail_le (LL s) j; omega
  refine Ev.congr (f := fun k => border_Table.l0 k s (List.replicate (s.size + 1) 0) 0 1) (fun k => ?_) ?_
  · unfold border_Table.f
    rw [show wrap64 ((s.size : Int) + 1) = ((s.size + 1 : Nat) : Int) from by rw [wrap_id (by omega) (by omega)]; rfl, Int.toNat_natCast, if_pos (by omega), if_pos (by omega)]
  · by_cases h0 : s.size = 0
    · refine Ev.ret fun k => ?_
      simp only [border_Table.l0]
      rw [if_neg (by omega)]
      unfold tabS
      rw [h0]
      simp [hf]
    · have := table_l0 s hs (s.size - 1) 1 (List.replicate (s.size + 1) 0) (by omega) (by omega) (by simp) (fun j hj => by
        rw [List.getD_eq_getElem?_getD, List.getElem?_replicate, if_pos (by omega), hf j hj]; rfl)
      rwa [hf 1 (by omega)] at this

/-! where a text stands in another one -/
/-- The state behind i bytes of a, of the text b. -/
def stS (a b : ByteArray) (i : Nat) : Nat := st (LL b) ((LL a).take i) b.size
theorem stS_le (a b : ByteArray) (i : Nat) : stS a b i ≤ b.size := top_le _ _
theorem stS_zero (a b : ByteArray) : stS a b 0 = 0 := by
  unfold stS st
  refine top_eq _ _ _ (Nat.zero_le _) (fun h => absurd h (Nat.lt_irrefl 0)) fun m h1 _ h3 => ?_
  have := h3.2.1
  simp at this
  omega
theorem stS_next (a b : ByteArray) (i : Nat) (hi : i < a.size) : stS a b (i + 1) = st (LL b) ((LL a).take i ++ [(LL a).getD i 0]) b.size := by unfold stS; rw [take_next hi]

/-- The places at which t stands in s. -/
def findS (s t : ByteArray) : List Int := if t.size = 0 then [] else ((List.range (s.size + 1)).filter fun i => decide (stS s t i = t.size)).map fun i : Nat => (i : Int) - t.size
/-- .. up to i bytes. -/
def findTo (s t : ByteArray) (i : Nat) : List Int := ((List.range i).filter fun i => decide (stS s t i = t.size)).map fun i : Nat => (i : Int) - t.size
theorem findTo_next (s t : ByteArray) (i : Nat) : findTo s t (i + 1) = findTo s t i ++ (if stS s t i = t.size then [(i : Int) - t.size] else []) := by
  unfold findTo
  rw [List.range_succ, List.filter_append, List.map_append]
  congr 1
  by_cases h : stS s t i = t.size <;> simp [h]
theorem findTo_length (s t : ByteArray) (i : Nat) : (findTo s t i).length ≤ i := by
  unfold findTo
  rw [List.length_map]
  exact Nat.le_trans (List.length_filter_le _ _) (by simp)

theorem find_j2 (a b : ByteArray) (ha : a.size ≤ 8796093022200) (hb : b.size ≤ 8796093022200) (hz : 0 < b.size) (i : Nat) (hi : i < a.size) (out : List Int) (ho : out.length ≤ i + 1) (r : List Int)
    (hr : Ev (fun k => border_Find.l0 k a b (out ++ (if stS a b (i + 1) = b.size then [((i + 1 : Nat) : Int) - b.size] else [])) (tabS b) (stS a b (i + 1) : Int) (a.size : Int) ((i + 1 : Nat) : Int)) r)
    (k : Nat) (hk : k < b.size) (he : stS a b (i + 1) = if bt a (i : Int) = bt b (k : Int) then k + 1 else k) :
    Ev (fun q => border_Find.j2 q a b out (tabS b) (k : Int) (i : Int) (a.size : Int) (i : Int)) r := by
  refine Ev.step (fun q => ?_) hr
  have hw : wrap64 ((i : Int) + 1) = ((i + 1 : Nat) : Int) := by rw [wrap_id (by omega) (by omega)]; rfl
  have hw2 : wrap64 (((i + 1 : Nat) : Int) - (b.size : Int)) = ((i + 1 : Nat) : Int) - b.size := wrap_id (by omega) (by omega)
  have hw3 : wrap64 ((k : Int) + 1) = ((k + 1 : Nat) : Int) := by rw [wrap_id (by omega) (by omega)]; rfl
  simp only [border_Find.j2, hw, hw2, hw3]
  clear hw hw2 hw3
  rw [if_pos (by omega), if_pos (by omega), if_pos (by omega), if_pos (by omega)]
  by_cases hbt : bt a (i : Int) = bt b (k : Int)
  · rw [if_pos hbt] at he ⊢
    rw [he]
    by_cases e : k + 1 = b.size
    · rw [if_pos (by omega), if_pos (by omega), if_pos e]
    · rw [if_neg (by omega), if_neg e, List.append_nil]
  · rw [if_neg hbt] at he ⊢
    rw [he, if_neg (by omega), if_neg (by omega), List.append_nil]
theorem find_l1 (a b : ByteArray) (ha : a.size ≤ 8796093022200) (hb : b.size ≤ 8796093022200) (hz : 0 < b.size) (i : Nat) (hi : i < a.size) (out : List Int) (ho : out.length ≤ i + 1) (r : List Int)
    (hr : Ev (fun k => border_Find.l0 k a b (out ++ (if stS a b (i + 1) = b.size then [((i + 1 : Nat) : Int) - b.size] else [])) (tabS b) (stS a b (i + 1) : Int) (a.size : Int) ((i + 1 : Nat) : Int)) r) :
    ∀ (n k : Nat), k ≤ n → Chain (LL b) ((LL a).take i) ((LL a).getD i 0) b.size k → Ev (fun q => border_Find.l1 q a b out (tabS b) (k : Int) (i : Int) (a.size : Int) (i : Int)) r := by
  have hf := stS_next a b i hi
  intro n
  induction n with
  | zero =>
    intro k hk hch
    obtain rfl : k = 0 := by omega
    refine Ev.step (f := fun q => border_Find.j2 q a b out (tabS b) ((0 : Nat) : Int) (i : Int) (a.size : Int) (i : Int)) (fun q => ?_) ?_
    · simp only [border_Find.l1]
      rw [if_neg (by omega)]
    · refine find_j2 a b ha hb hz i hi out ho r hr 0 hz ?_
      by_cases hbt : bt a (i : Int) = bt b ((0 : Nat) : Int)
      · rw [if_pos hbt, hf, chain_hit hch ((bt_iff hi hz).1 hbt) b.size (by omega) (by omega)]
      · rw [if_neg hbt, hf, chain_miss hch (fun hc => hbt ((bt_iff hi hz).2 hc)) b.size (by omega)]
  | succ n ih =>
    intro k hk hch
    have hle := hch.le
    by_cases hk0 : k = 0
    · exact ih k (by omega) hch
    have hlt := fail_lt (LL b) k (by omega)
    by_cases hkb : k = b.size
    · have hch' := chain_fail hch (by omega) (fun hc => by rw [getElem?_none (by omega)] at hc; cases hc)
      refine Ev.step (fun q => ?_) (ih (fail (LL b) k) (by omega) hch')
      simp only [border_Find.l1]
      rw [if_pos (by omega), if_pos (by omega), if_pos (by omega), if_pos (by rw [tabS_length]; omega), rd_tabS b k (by omega)]
    · by_cases hbt : bt a (i : Int) = bt b (k : Int)
      · refine Ev.step (f := fun q => border_Find.j2 q a b out (tabS b) (k : Int) (i : Int) (a.size : Int) (i : Int)) (fun q => ?_) ?_
        · simp only [border_Find.l1]
          rw [if_pos (by omega), if_neg (by omega), if_pos (by omega), if_pos (by omega), if_pos (by omega), if_pos (by omega), if_pos hbt]
        · refine find_j2 a b ha hb hz i hi out ho r hr k (by omega) ?_
          rw [if_pos hbt, hf, chain_hit hch ((bt_iff hi (by omega : k < b.size)).1 hbt) b.size (by omega) (by omega)]
      · have hch' := chain_fail hch (by omega) (fun hc => hbt ((bt_iff hi (by omega : k < b.size)).2 hc))
        refine Ev.step (fun q => ?_) (ih (fail (LL b) k) (by omega) hch')
        simp only [border_Find.l1]
        rw [if_pos (by omega), if_neg (by omega), if_pos (by omega), if_pos (by omega), if_pos (by omega), if_pos (by omega), if_neg hbt, if_pos (by rw [tabS_length]; omega), rd_tabS b k (by omega)]
theorem find_l0 (a b : ByteArray) (ha : a.size ≤ 8796093022200) (hb : b.size ≤ 8796093022200) (hz : 0 < b.size) : ∀ (d i : Nat), i + d = a.size →
    Ev (fun k => border_Find.l0 k a b (findTo a b (i + 1)) (tabS b) (stS a b i : Int) (a.size : Int) (i : Int)) (findTo a b (a.size + 1)) := by
  intro d
  induction d with
  | zero =>
    intro i hi
    obtain rfl : i = a.size := by omega
    refine Ev.ret fun k => ?_
    simp only [border_Find.l0]
    rw [if_neg (by omega)]
  | succ d ih =>
    intro i hi
    refine Ev.step (f := fun k => border_Find.l1 k a b (findTo a b (i + 1)) (tabS b) (stS a b i : Int) (i : Int) (a.size : Int) (i : Int)) (fun k => ?_) ?_
    · simp only [border_Find.l0]
      rw [if_pos (by omega)]
    · refine find_l1 a b ha hb hz i (by omega) _ (findTo_length a b (i + 1)) _ ?_ _ _ (Nat.le_refl _) (chain_start _ _ _ _)
      have := ih (i + 1) (by omega)
      rwa [findTo_next] at this
theorem find (s t : ByteArray) (hs : s.size ≤ 8796093022200) (ht : t.size ≤ 8796093022200) : Ev (fun k => border_Find.f k s t) (findS s t) := by
  by_cases h : t.size = 0
  · refine Ev.const fun k => ?_
    unfold border_Find.f findS
    rw [if_pos (toList_nil.2 h), if_pos h]
  · refine Ev.congr (f := fun k => (border_Table.f k t).bind fun x => border_Find.l0 k s t ([] : List Int) x 0 (s.size : Int) 0) (fun k => ?_) (Ev.bind (table t ht) ?_)
    · unfold border_Find.f
      rw [if_neg (fun e => h (toList_nil.1 e))]
    · have := find_l0 s t hs ht (by omega) s.size 0 (by omega)
      rw [stS_zero, findTo_next, stS_zero, if_neg (by omega)] at this
      have e : findS s t = findTo s t (s.size + 1) := by unfold findS findTo; rw [if_neg h]
      rw [e]
      exact this

end Go.Proofs.Ytekdmkdidnnpbaa.Base
