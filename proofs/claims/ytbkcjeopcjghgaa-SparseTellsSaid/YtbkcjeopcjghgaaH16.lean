/- A trie is made: the walk of part, which parts one job, and of New. The states are the call's own row, written cell by cell; the jobs are a queue. -/
import Derived.BigRegion
import Derived.Deep.RegionLaw
import Derived.Deep.AppendLies
import Derived.StillTailTactics
import Derived.WalkMore
import Derived.Deep.Cut
import Derived.Deep.CutRange
import Derived.Deep.DeepCutAuto
import Derived.Deep.CutBlock
import Derived.Test.YtbkcjeopcjghgaaH16a
import Derived.Test.YtbkcjeopcjghgaaH10b
import Derived.Test.YtbkcjeopcjghgaaP16t
namespace Go.Proofs.Ytbkcjeopcjghgaa.P
open Go Go.RowKit Go.Proofs.YtbkcjeopcjghgaaW.PrintWords Go.Proofs.YtbkcjeopcjghgaaW.PrintLast Go.Proofs.YtbkcjeopcjghgaaW.PrintMore Go.Proofs.Ytbkcjeopcjghgaa.Base
set_option linter.unusedVariables false
set_option linter.unusedSimpArgs false

theorem infoSt : (Try.prog.info? 102).map (fun i => (i.zero, i.size, i.bytes)) = some (some (.agg #[.int .i64 0, .int .u8 0, .int .i64 0, .int .i64 0, .int .i64 0, .int .i64 0]), 6, 48) := by kernel_rfl
theorem infoJb : (Try.prog.info? 110).map (fun i => (i.zero, i.size, i.bytes)) = some (some (.agg #[.int .i64 0, .int .i64 0, .int .i64 0]), 3, 24) := by kernel_rfl
/-- What a job may be, at states and texts. -/
structure JobOk (l : List ByteArray) (sts : List StD) (js : List JobD) (j lo hi d M : Nat) : Prop where
  js0 : js.getD 0 default = ⟨(j : Int), (lo : Int), (hi : Int)⟩
  jsl : 0 < js.length
  js1 : js.length + l.length ≤ 1073741824
  j1 : j < sts.length
  sts1 : sts.length + l.length ≤ 1073741824
  dep : (sts.getD j default).depth = (d : Int)
  many : (sts.getD j default).many = (M : Int)
  M1 : M + l.length ≤ 1073741824
  lohi : lo ≤ hi
  hil : hi ≤ l.length
  size0 : ∀ t, lo ≤ t → t < hi → d ≤ (l.getD t ByteArray.empty).size ∧ (l.getD t ByteArray.empty).size ≤ 65535
  size1 : ∀ t, lo < t → t < hi → d < (l.getD t ByteArray.empty).size
/-- What holds while a job is parted. -/
structure PartI (NB b X : Nat) (w0 W : World) (v : Value) (g cap : Nat) (sts : List StD) (js : List JobD) (j lo hi : Nat) : Prop where
  hb : W.heap[b]? = some (.cells #[.slice (some ⟨g, 0, none⟩) sts.length cap] 97 (0, 0))
  hX : W.heap[X]? = some (.cells #[.int .i64 j, .int .i64 lo, .int .i64 hi] 110 (0, 0))
  hS : stF.kd.R 102 W NB (fun _ => True) (.slice (some ⟨g, 0, none⟩) sts.length cap) sts
  hJ : jbF.kd.Q 110 W NB (fun k => k ≠ X) v js
  hB : Below NB w0 W
  nb : NB ≤ b
  nX : NB ≤ X
  nW : NB ≤ W.heap.size
theorem grown_drew {w A : World} {row : Option Nat} (h : w.grownBy A row) : w.grownBy A.drew row := ⟨h.os, h.tape, h.output, h.size, h.block⟩
section
variable {NB b X g cap j lo hi : Nat} {w0 W : World} {v : Value} {sts : List StD} {js : List JobD}
theorem PartI.below (h : PartI NB b X w0 W v g cap sts js j lo hi) {W1 : World} (hb : Below W.heap.size W W1) : PartI NB b X w0 W1 v g cap sts js j lo hi :=
  ⟨(hb.block _ (blk_lt h.hb)).trans h.hb, (hb.block _ (blk_lt h.hX)).trans h.hX, Kd.R_below h.hS hb, Kd.Q_below h.hJ hb, h.hB.trans (hb.mono h.nW), h.nb, h.nX, Nat.le_trans h.nW hb.size⟩
theorem PartI.gty (h : PartI NB b X w0 W v g cap sts js j lo hi) : ∃ cells, W.heap[g]? = some (.cells cells 102 (0, 0)) := Kd.R_typed h.hS g (by simp [Value.ownBlock])
theorem ty_ne {W : World} {a c s t : Nat} {x y : Array Value} {p q : Nat × Nat} (h1 : W.heap[a]? = some (.cells x s p)) (h2 : W.heap[c]? = some (.cells y t q)) (hne : s ≠ t) : a ≠ c := by
  rintro rfl
  rw [h1] at h2
  injection h2 with e
  injection e with _ e
  exact hne e
/-- A cell of state i is written. -/
theorem PartI.put (h : PartI NB b X w0 W v g cap sts js j lo hi) {i jj : Nat} {u : Value} {x' : StD} (hi' : i < sts.length) (hj : jj < 6) (hx : stF.enc x' = (stF.enc (sts.getD i default)).set jj u) :
    PartI NB b X w0 (W.setCell ⟨g, i * 6 + jj, none⟩ u) v g cap (sts.set i x') js j lo hi := by
  obtain ⟨cells, hg⟩ := h.gty
  have n1 : b ≠ g := ty_ne h.hb hg (by decide)
  have n2 : X ≠ g := ty_ne h.hX hg (by decide)
  have hl : (sts.set i x').length = sts.length := List.length_set ..
  have hS := flat_put default h.hS (i := i) (j := jj) (u := u) (x' := x') hi' hj hx
  refine ⟨?_, ?_, ?_, Kd.Q_set h.hJ hg (fun q hq => ?_) _ _, Below.setCell (p := ⟨g, i * 6 + jj, none⟩) h.hB (Kd.R_base h.hS g (by simp [Value.ownBlock])) _, h.nb, h.nX, by rw [World.size_setCell]; exact h.nW⟩
  · rw [hl]; exact (Below.heap_setCell W ⟨g, i * 6 + jj, none⟩ u b n1).trans h.hb
  · exact (Below.heap_setCell W ⟨g, i * 6 + jj, none⟩ u X n2).trans h.hX
  · rw [hl]; exact hS
  · simp only [List.mem_cons] at hq
    rcases hq with rfl | hq
    · decide
    · cases hq
theorem PartI.jty (h : PartI NB b X w0 W v g cap sts js j lo hi) : ∀ k, v.ownBlock = some k → ∃ cells, W.heap[k]? = some (.cells cells 110 (0, 0)) := fun k hk => by
  obtain ⟨_, _, _, q, hq, hc⟩ := (Kd.Q_bound h.hJ).1 k hk
  simp only [List.mem_cons] at hq
  rcases hq with rfl | hq
  · exact hc
  · cases hq
/-- One job more. -/
theorem PartI.job (h : PartI NB b X w0 W v g cap sts js j lo hi) {w1 : World} {v1 : Value} {p : JobD} (hq : jbF.kd.Q 110 w1 NB (fun k => k ≠ X) v1 (js ++ [p])) (hb : Below NB w0 w1) (hg : W.grownBy w1 v.ownBlock) : PartI NB b X w0 w1 v1 g cap sts (js ++ [p]) j lo hi :=
  ⟨(hg.block b (blk_lt h.hb) (Kd.Q_ne h.hJ h.hb (by decide))).trans h.hb, (hg.block X (blk_lt h.hX) (Kd.Q_away h.hJ (fun _ hk => hk))).trans h.hX,
    Kd.R_over' h.hS h.jty (fun q hq => by
      simp only [List.mem_cons] at hq
      rcases hq with rfl | hq
      · decide
      · cases hq) hg, hq, hb, h.nb, h.nX, Nat.le_trans h.nW hg.size⟩
/-- One state more. -/
theorem PartI.grow (h : PartI NB b X w0 W v g cap sts js j lo hi) {W1 : World} {g1 cap1 : Nat} {x : StD} (hall : W.grownBy W1 (some g))
    (hown : W1.ownsRow NB 102 6 (.slice (some ⟨g1, 0, none⟩) (sts.length + 1) cap1) (sts.length + 1) (sts.flatMap stF.enc ++ stF.enc x)) :
    PartI NB b X w0 (W1.setCell ⟨b, 0, none⟩ (.slice (some ⟨g1, 0, none⟩) (sts.length + 1) cap1)) v g1 cap1 (sts ++ [x]) js j lo hi := by
  obtain ⟨cells, hg⟩ := h.gty
  have n1 : b ≠ g := ty_ne h.hb hg (by decide)
  have n2 : X ≠ g := ty_ne h.hX hg (by decide)
  have n3 : X ≠ b := ty_ne h.hX h.hb (by decide)
  have hb1 := (hall.block b (blk_lt h.hb) (fun e => n1 (Option.some.inj e))).trans h.hb
  have hX1 := (hall.block X (blk_lt h.hX) (fun e => n2 (Option.some.inj e))).trans h.hX
  have hl : (sts ++ [x]).length = sts.length + 1 := by simp
  have hf : (sts ++ [x]).flatMap stF.enc = sts.flatMap stF.enc ++ stF.enc x := by simp
  have hq : jbF.kd.Q 110 W1 NB (fun k => k ≠ X) v js := Kd.Q_mono (Kd.Q_grown (Kd.Q_types h.hJ hg (fun q hq => by
    simp only [List.mem_cons] at hq
    rcases hq with rfl | hq
    · decide
    · cases hq)) hall (fun k hk e => hk.2 (Option.some.inj e))) (fun k hk => hk.1)
  refine ⟨?_, (Below.heap_setCell W1 ⟨b, 0, none⟩ _ X n3).trans hX1, ?_, Kd.Q_set hq hb1 (fun q hq => ?_) _ _, Below.setCell (p := ⟨b, 0, none⟩) (Below.grown h.hB hall h.nW (fun k hk => by cases hk; exact Kd.R_base h.hS g (by simp [Value.ownBlock]))) h.nb _, h.nb, h.nX, by rw [World.size_setCell]; exact Nat.le_trans h.nW hall.size⟩
  · rw [hl]
    exact (blk_set hb1 0 _).trans rfl
  · refine Kd.R_set (flat_R ?_ (fun _ _ => trivial)) hb1 (fun q hq => ?_) _ _
    · rw [hl, hf]; exact hown
    · simp only [List.mem_cons] at hq
      rcases hq with rfl | hq
      · decide
      · cases hq
  · simp only [List.mem_cons] at hq
    rcases hq with rfl | hq
    · decide
    · cases hq
end
/-- The states when a job begins to be parted: its own number, its first state below. -/
def sts2 (l : List ByteArray) (sts : List StD) (j lo : Nat) (own : Bool) : List StD := (if own then sts.modify j fun s => { s with id := (lo : Int) } else sts).modify j fun s => { s with first := (sts.length : Int) }
theorem partJ_is (l : List ByteArray) (sts : List StD) (js : List JobD) (j lo hi d : Nat) (own : Bool) (hd : (sts.getD j default).depth = (d : Int)) (ho : (decide (lo < hi) && decide ((l.getD lo ByteArray.empty).size = d)) = own) :
    partJ l sts js ⟨(j : Int), (lo : Int), (hi : Int)⟩ = partG l j d hi l.length (if own then lo + 1 else lo) (sts2 l sts j lo own) js := by
  unfold partJ sts2
  simp only [Int.toNat_natCast, hd]
  rw [ho]
theorem modify_set (sts : List StD) (j : Nat) (f : StD → StD) (h : j < sts.length) : sts.modify j f = sts.set j (f (sts.getD j default)) := by
  apply List.ext_getElem?
  intro i
  rw [List.getElem?_modify, List.getElem?_set]
  by_cases hi : j = i
  · subst hi
    simp [h]
  · simp [hi]
theorem gEnd_uniq {l : List ByteArray} {d c hi t0 t : Nat} (h1 : t0 ≤ t) (h2 : t ≤ hi) (h3 : ∀ u, t0 ≤ u → u < t → byAt (l.getD u ByteArray.empty) d = c) (h4 : t = hi ∨ byAt (l.getD t ByteArray.empty) d ≠ c) : gEnd l d c hi hi t0 = t := by
  have e1 := gEnd_ge l d c hi hi t0
  have e2 := gEnd_le l d c hi hi t0 (by omega)
  rcases Nat.lt_trichotomy (gEnd l d c hi hi t0) t with h | h | h
  · exact absurd (h3 _ e1 h) (gEnd_stop l d c hi hi t0 (by omega) (by omega) (by omega))
  · exact h
  · rcases h4 with h4 | h4
    · omega
    · exact absurd (gEnd_in l d c hi hi t0 t h1 h) h4
theorem byAt_at {s : ByteArray} {d : Nat} (h : d < s.size) : byAt s d = (s[d]'h).toNat := by
  unfold byAt
  rw [List.getD_eq_getElem?_getD, List.getElem?_eq_getElem (by rw [LL_length]; exact h)]
  rfl
theorem partG_succ (l : List ByteArray) (j d hi f lo : Nat) (sts : List StD) (js : List JobD) (h : lo < hi) : partG l j d hi (f + 1) lo sts js =
    partG l j d hi f (gEnd l d (byAt (l.getD lo ByteArray.empty) d) hi hi (lo + 1)) (bump (sts ++ [⟨(j : Int), (byAt (l.getD lo ByteArray.empty) d : Int), (d : Int) + 1, -1, 0, 0⟩]) j) (js ++ [⟨(sts.length : Int), (lo : Int), (gEnd l d (byAt (l.getD lo ByteArray.empty) d) hi hi (lo + 1) : Int)⟩]) := by
  show (if lo < hi then _ else _) = _
  rw [if_pos h]
theorem partG_end (l : List ByteArray) (j d hi f lo : Nat) (sts : List StD) (js : List JobD) (h : ¬ lo < hi) : partG l j d hi f lo sts js = (sts, js) := by
  cases f with
  | zero => rfl
  | succ f =>
    show (if lo < hi then _ else _) = _
    rw [if_neg h]
set_option maxHeartbeats 16000000 in
set_option maxRecDepth 100000 in
theorem trie_part (NB : Nat) (w : World) (b g cap : Nat) (Al : Option Addr) (cl : Nat) (v : Value) (l : List ByteArray) (sts : List StD) (js : List JobD) (j lo hi d M : Nat)
    (hb : w.heap[b]? = some (.cells #[.slice (some ⟨g, 0, none⟩) sts.length cap] 97 (0, 0))) (hNb : NB ≤ b) (hNw : NB ≤ w.heap.size)
    (hS : stF.kd.R 102 w NB (fun _ => True) (.slice (some ⟨g, 0, none⟩) sts.length cap) sts)
    (hJ : jbF.kd.Q 110 w NB (fun _ => True) v js)
    (hL : ∀ W, Below NB w W → Kd.C Kd.string W Al l.length l) (hcl : l.length ≤ cl) (ok : JobOk l sts js j lo hi d M) :
    Calls Try.prog 68 #[.pointer (some ⟨b, 0, none⟩), .slice Al l.length cl, v] w fun e w' => ∃ v' g' cap', e = .returned v' ∧
      w'.heap[b]? = some (.cells #[.slice (some ⟨g', 0, none⟩) (partJ l sts js ⟨(j : Int), (lo : Int), (hi : Int)⟩).1.length cap'] 97 (0, 0)) ∧
      stF.kd.R 102 w' NB (fun _ => True) (.slice (some ⟨g', 0, none⟩) (partJ l sts js ⟨(j : Int), (lo : Int), (hi : Int)⟩).1.length cap') (partJ l sts js ⟨(j : Int), (lo : Int), (hi : Int)⟩).1 ∧
      jbF.kd.Q 110 w' NB (fun _ => True) v' (partJ l sts js ⟨(j : Int), (lo : Int), (hi : Int)⟩).2 ∧ Below NB w w' := by
  obtain ⟨ok1, ok2, ok3, ok4, ok5, ok6, ok7, ok8, ok9, ok10, ok11, ok12⟩ := ok
  obtain ⟨RS, hRS⟩ : ∃ RS, partJ l sts js ⟨(j : Int), (lo : Int), (hi : Int)⟩ = RS := ⟨_, rfl⟩
  rw [hRS]
  have HRS := Aside0.mk hRS
  clear hRS
  obtain ⟨gj, oj, capj, hv, hgj, hgjl, cells, hcj⟩ := Kd.Q_form hJ ok2
  subst hv
  have hj0 : w.cell? ⟨gj, oj, none⟩ = some (.int .i64 j) := by
    have := flatQ_at default hJ (i := 0) (j := 0) (u := .int .i64 j) ok2 (by rw [ok1]; rfl)
    simpa using this
  have hj1 : w.cell? ⟨gj, oj + 1, none⟩ = some (.int .i64 lo) := by
    have := flatQ_at default hJ (i := 0) (j := 1) (u := .int .i64 lo) ok2 (by rw [ok1]; rfl)
    simpa using this
  have hj2 : w.cell? ⟨gj, oj + 2, none⟩ = some (.int .i64 hi) := by
    have := flatQ_at default hJ (i := 0) (j := 2) (u := .int .i64 hi) ok2 (by rw [ok1]; rfl)
    simpa using this
  have h0 : w.cell? ⟨b, 0, none⟩ = some (.slice (some ⟨g, 0, none⟩) sts.length cap) := blk_cell hb 0
  have hd0 : w.cell? ⟨g, j * 6 + 2, none⟩ = some (.int .i64 d) := flat_at default hS (i := j) (j := 2) ok4 (by rw [← ok6]; rfl)
  have hji : (j : Int) < (sts.length : Int) := by omega
  have H1 := Aside0.mk ok1
  have HS := Aside0.mk hS
  have HJ := Aside0.mk hJ
  have HL := Aside0.mk hL
  have HB0 := Aside0.mk hb
  have HM := Aside0.mk ok7
  have HD := Aside0.mk ok6
  have S0 := Aside0.mk ok11
  have S1 := Aside0.mk ok12
  clear ok1 hS hJ hL hb ok7 ok6 ok11 ok12 hcj
  go_enter Try.func68, Try.ntmps68
  go_wp2
  go_step3
  go_wp2
  have hlt := blk_lt HB0.out
  have hP0 : PartI NB b w.heap.size w (w.alloc (Obj.cells #[Value.int IntKind.i64 ↑j, Value.int IntKind.i64 ↑lo, Value.int IntKind.i64 ↑hi] 110)) (.slice (some ⟨gj, oj, none⟩) js.length capj) g cap sts js j lo hi :=
    ⟨((Below.refl w.heap.size w).alloc (Nat.le_refl _) _ |>.block _ hlt).trans HB0.out, heap_alloc_new _ _, Kd.R_alloc HS.out _, Kd.Q_alloc (Kd.Q_mono (Kd.Q_bound HJ.out) (fun k hk => by have := hk.2.2.1; omega)) _, (Below.refl NB w).alloc hNw _, hNb, hNw, by simp; omega⟩
  have HP := Aside0.mk hP0
  obtain ⟨X, hX⟩ : ∃ X, w.heap.size = X := ⟨_, rfl⟩
  rw [hX] at HP hNw hlt ⊢
  clear hP0 hj0 hj1 hj2 h0 hd0 HS HJ HB0 hX hlt hgj hgjl
  generalize w.alloc (Obj.cells #[Value.int IntKind.i64 ↑j, Value.int IntKind.i64 ↑lo, Value.int IntKind.i64 ↑hi] 110) = W at HP ⊢
  have h0 := blk_cell HP.out.hb 0
  have x0 := blk_cell HP.out.hX 0
  have x1 := blk_cell HP.out.hX 1
  have x2 := blk_cell HP.out.hX 2
  have hd0 : W.cell? ⟨g, j * 6 + 2, none⟩ = some (.int .i64 d) := flat_at default HP.out.hS (i := j) (j := 2) (u := .int .i64 d) ok4 (by rw [← HD.out]; rfl)
  simp only [List.getElem?_toArray, List.getElem?_cons_zero, List.getElem?_cons_succ] at h0 x0 x1 x2
  go_quiet (fail)
  clear h0 x0 x1 x2 hd0
  have HP1 := Aside0.mk (HP.out.below (pw_below_drewN (Below.refl _ _) nq))
  clear HP
  generalize W.drewN nq = W at HP1 ⊢
  have h0 := blk_cell HP1.out.hb 0
  have x0 := blk_cell HP1.out.hX 0
  have x1 := blk_cell HP1.out.hX 1
  have x2 := blk_cell HP1.out.hX 2
  simp only [List.getElem?_toArray, List.getElem?_cons_zero, List.getElem?_cons_succ] at h0 x0 x1 x2
  obtain ⟨own, hown⟩ : ∃ own, (decide (lo < hi) && decide ((l.getD lo ByteArray.empty).size = d)) = own := ⟨_, rfl⟩
  have HOWN := Aside0.mk hown
  have hcase : (lo < hi ∧ (l.getD lo ByteArray.empty).size = d ∧ own = true) ∨ (lo < hi ∧ (l.getD lo ByteArray.empty).size ≠ d ∧ own = false) ∨ (¬ lo < hi ∧ own = false) := by
    rw [← hown]
    by_cases h1 : lo < hi
    · by_cases h2 : (l.getD lo ByteArray.empty).size = d
      · exact .inl ⟨h1, h2, by rw [decide_eq_true h1, decide_eq_true h2]; rfl⟩
      · exact .inr (.inl ⟨h1, h2, by rw [decide_eq_false h2, Bool.and_false]⟩)
    · exact .inr (.inr ⟨h1, by rw [decide_eq_false h1]; rfl⟩)
  have HCASE := Aside0.mk hcase
  have HPJ := Aside0.mk (partJ_is l sts js j lo hi d own HD.out hown)
  clear hown hcase
  go_upto_region 4 with (fail)
  go_cut [38] from 26 (fun c wx => c = .bool own ∧ wx = W)
  case first =>
    rcases HCASE.out with ⟨h1, h2, h3⟩ | ⟨h1, h2, h3⟩ | ⟨h1, h3⟩
    · obtain ⟨ad, hA, hx⟩ := Kd.at_string (HL.out _ HP1.out.hB) (lo : Int) (by omega) (by omega)
      obtain rfl : Al = some ad := hA
      have hx' : W.cell? (ad.add lo) = some (.string (l.getD lo ByteArray.empty)) := hx
      clear hx HCASE HOWN HPJ
      generalize l.getD lo ByteArray.empty = s0 at hx' h2
      have l1 : decide ((lo : Int) < (hi : Int)) = true := decide_eq_true (by omega)
      have l2 : decide (lo < hi) = true := decide_eq_true h1
      have l3 : ((s0.size : Int) == (d : Int)) = true := beq_iff_eq.2 (by omega)
      have l4 : (s0.size == d) = true := beq_iff_eq.2 (by omega)
      have l5 : (lo : Int) < (l.length : Int) := by omega
      subst h3
      clear h1 h2
      go_wp2
      go_meet
      case rel => exact ⟨rfl, rfl⟩
    · obtain ⟨ad, hA, hx⟩ := Kd.at_string (HL.out _ HP1.out.hB) (lo : Int) (by omega) (by omega)
      obtain rfl : Al = some ad := hA
      have hx' : W.cell? (ad.add lo) = some (.string (l.getD lo ByteArray.empty)) := hx
      clear hx HCASE HOWN HPJ
      generalize l.getD lo ByteArray.empty = s0 at hx' h2
      have l1 : decide ((lo : Int) < (hi : Int)) = true := decide_eq_true (by omega)
      have l2 : decide (lo < hi) = true := decide_eq_true h1
      have l3 : ((s0.size : Int) == (d : Int)) = false := beq_eq_false_iff_ne.2 (by omega)
      have l4 : (s0.size == d) = false := beq_eq_false_iff_ne.2 (by omega)
      have l5 : (lo : Int) < (l.length : Int) := by omega
      subst h3
      clear h1 h2
      go_wp2
      go_meet
      case rel => exact ⟨rfl, rfl⟩
    · have l1 : decide ((lo : Int) < (hi : Int)) = false := decide_eq_false (by omega)
      have l2 : decide (lo < hi) = false := decide_eq_false h1
      subst h3
      clear h1 HCASE HOWN HPJ
      go_wp2
      go_meet
      case rel => exact ⟨rfl, rfl⟩
  case rest =>
    obtain ⟨rfl, rfl⟩ := hcut
    go_upto_if 38 with (fail)
    go_cut [9] from 39 (fun f wx => f = .int .i64 ((if own then lo + 1 else lo : Nat) : Int) ∧ PartI NB b X w wx (.slice (some ⟨gj, oj, none⟩) js.length capj) g cap (if own then sts.modify j fun s => { s with id := (lo : Int) } else sts) js j lo hi)
    case first =>
      cases own with
      | false =>
        go_wp2
        go_meet
        case rel => exact ⟨rfl, HP1.out⟩
      | true =>
        have k3 : wc.cell? ⟨g, j * 6 + 3, none⟩ = some (.int .i64 (sts.getD j default).id) := flat_at default HP1.out.hS (i := j) (j := 3) ok4 rfl
        have g3 := flat_frozen HP1.out.hS (g := g) (by simp [Value.ownBlock]) (j * 6 + 3)
        have hput := HP1.out.put (i := j) (jj := 3) (u := .int .i64 lo) (x' := { sts.getD j default with id := (lo : Int) }) ok4 (by omega) rfl
        rw [← modify_set sts j (fun s => { s with id := (lo : Int) }) ok4] at hput
        have HPUT := Aside0.mk (hput.below (below_drew (Below.refl _ _)))
        generalize (sts.getD j default).id = y at k3
        clear hput HCASE HOWN HPJ
        go_wp2
        go_still_tail 9, (by kernel_rfl)
        go_wp2
        go_meet
        case rel => exact ⟨by simp, HPUT.out⟩
    case rest =>
      obtain ⟨rfl, hP2⟩ := hcut
      have hFS : ∀ t, (if own then lo + 1 else lo) ≤ t → t < hi → d < (l.getD t ByteArray.empty).size ∧ (l.getD t ByteArray.empty).size ≤ 65535 := fun t h1 h2 => by
        rcases HCASE.out with ⟨g1, g2, g3⟩ | ⟨g1, g2, g3⟩ | ⟨g1, g3⟩
        · rw [g3, if_pos rfl] at h1
          exact ⟨S1.out t (by omega) h2, (S0.out t (by omega) h2).2⟩
        · rw [g3, if_neg (by simp)] at h1
          by_cases ht : t = lo
          · rw [ht]
            have := S0.out lo (Nat.le_refl _) g1
            exact ⟨by omega, this.2⟩
          · exact ⟨S1.out t (by omega) h2, (S0.out t (by omega) h2).2⟩
        · rw [g3, if_neg (by simp)] at h1
          omega
      have hfr : lo ≤ (if own then lo + 1 else lo) ∧ (if own then lo + 1 else lo) ≤ hi := by
        rcases HCASE.out with ⟨g1, g2, g3⟩ | ⟨g1, g2, g3⟩ | ⟨g1, g3⟩ <;> rw [g3] <;> simp <;> omega
      have hpj := HRS.out.symm.trans HPJ.out
      unfold sts2 at hpj
      have hl1 : (if own then sts.modify j fun s => { s with id := (lo : Int) } else sts).length = sts.length := by split <;> simp
      have hm1 : ((if own then sts.modify j fun s => { s with id := (lo : Int) } else sts).getD j default).many = (M : Int) := by
        split
        · rw [modify_set sts j _ ok4, List.getD_eq_getElem?_getD, List.getElem?_set_self (by omega), ← HM.out]; rfl
        · exact HM.out
      generalize (if own then lo + 1 else lo) = fr at hpj hfr hFS ⊢
      generalize (if own then sts.modify j fun s => { s with id := (lo : Int) } else sts) = Sa at hP2 hpj hl1 hm1
      rw [modify_set Sa j _ (by omega)] at hpj
      have hj4 : j < Sa.length := by omega
      have hPx := hP2.put (i := j) (jj := 4) (u := .int .i64 sts.length) (x' := { Sa.getD j default with first := (sts.length : Int) }) hj4 (by omega) rfl
      have hl2 : (Sa.set j { Sa.getD j default with first := (sts.length : Int) }).length = sts.length := by rw [List.length_set]; exact hl1
      have hm2 : ((Sa.set j { Sa.getD j default with first := (sts.length : Int) }).getD j default).many = (M : Int) := by
        rw [List.getD_eq_getElem?_getD, List.getElem?_set_self hj4, ← hm1]; rfl
      generalize Sa.set j { Sa.getD j default with first := (sts.length : Int) } = Sb at hPx hpj hl2 hm2
      have h0 := blk_cell hP2.hb 0
      have x0 := blk_cell hP2.hX 0
      simp only [List.getElem?_toArray, List.getElem?_cons_zero, List.getElem?_cons_succ] at h0 x0
      have k4 : wc.cell? ⟨g, j * 6 + 4, none⟩ = some (.int .i64 (Sa.getD j default).first) := flat_at default hP2.hS (i := j) (j := 4) hj4 rfl
      have g4 := flat_frozen hP2.hS (g := g) (by simp [Value.ownBlock]) (j * 6 + 4)
      generalize (Sa.getD j default).first = y at k4
      rw [hl1] at h0
      have HPX := Aside0.mk (hPx.below (below_drew (Below.refl _ _)))
      have HPJ2 := Aside0.mk hpj
      have HFS := Aside0.mk hFS
      have HL2 := Aside0.mk hl2
      have HM2 := Aside0.mk hm2
      obtain ⟨hf1, hf2⟩ := hfr
      clear hP2 hpj hFS hl2 hm2 hl1 hm1 hPx HPJ HCASE HOWN HP1 x1 x2 HM HD S0 S1 H1 hj4
      go_wp2
      go_still_tail 13, (by kernel_rfl)
      go_wp2
      have ho2 := HL2.out
      go_step3
      go_wp2
      go_loopg [2, 9] l.length (fun kx vw vf W => ∃ (lo' g cap : Nat) (St : List StD) (Js : List JobD) (M' : Nat), vf = .int .i64 lo' ∧ hi ≤ lo' + kx ∧ fr ≤ lo' ∧ lo' ≤ hi ∧ j < St.length ∧ St.length + kx ≤ 1073741824 ∧ Js.length + kx ≤ 1073741824 ∧ M' + kx ≤ 1073741824 ∧
        Aside0 (PartI NB b X w W vw g cap St Js j lo hi) ∧ Aside0 (RS = partG l j d hi kx lo' St Js) ∧ Aside0 ((St.getD j default).many = (M' : Int)))
      case atStart => exact ⟨fr, g, cap, Sb, js, M, rfl, by omega, Nat.le_refl _, by omega, by omega, by omega, by omega, by omega, HPX, HPJ2, HM2⟩
      case round =>
        clear HPX HPJ2 HM2 h0 x0 k4 g4 HL2 ho2
        obtain ⟨lo', g, cap, St, Js, M', rfl, q1, q2, q3, q4, q5, q6, q7, HP, HG, HM⟩ := hrel
        have x2 := blk_cell HP.out.hX 2
        have h0 := blk_cell HP.out.hb 0
        simp only [List.getElem?_toArray, List.getElem?_cons_zero, List.getElem?_cons_succ] at h0 x2
        by_cases hlt : lo' < hi
        · cases gk with
          | zero => omega
          | succ f =>
            obtain ⟨ad, hA, hx⟩ := Kd.at_string (HL.out _ HP.out.hB) (lo' : Int) (by omega) (by omega)
            obtain rfl : Al = some ad := hA
            have hx' : wr.cell? (ad.add lo') = some (.string (l.getD lo' ByteArray.empty)) := hx
            obtain ⟨hs1, hs2⟩ := HFS.out lo' q2 hlt
            have hG := HG.out
            rw [partG_succ _ _ _ _ _ _ _ _ hlt] at hG
            have HG2 := Aside0.mk hG
            obtain ⟨cc, hcc⟩ : ∃ cc, byAt (l.getD lo' ByteArray.empty) d = cc := ⟨_, rfl⟩
            have hcb := byAt_at hs1
            have HCC := Aside0.mk hcc
            rw [hcc] at hcb
            clear hG hx HG hcc
            obtain ⟨s0, hs0⟩ : ∃ s0, l.getD lo' ByteArray.empty = s0 := ⟨_, rfl⟩
            have w5 : ∀ h : d < s0.size, (s0[d]'h).toNat = cc := fun h => by subst hs0; exact hcb.symm
            have HS0 := Aside0.mk hs0
            rw [hs0] at hx' hs1 hs2
            clear hs0 hcb
            have l1 : decide ((lo' : Int) < (hi : Int)) = true := decide_eq_true (by omega)
            have l2 : decide (lo' < hi) = true := decide_eq_true hlt
            have l5 : (lo' : Int) < (l.length : Int) := by omega
            have l6 : (d : Int) < (s0.size : Int) := by omega
            obtain ⟨vq, rfl⟩ : ∃ v_, v_ = u2 := ⟨_, rfl⟩
            obtain ⟨Wj, rfl⟩ : ∃ W_ : World, W_ = wr := ⟨_, rfl⟩
            go_wp2
            go_loopg [2, 9, 11] hi (fun ky v2 v9 vt Wi => ∃ t : Nat, v2 = vq ∧ v9 = .int .i64 lo' ∧ vt = .int .i64 t ∧ lo' + 1 ≤ t ∧ t ≤ hi ∧ hi - t ≤ ky ∧ Aside0 (∀ u, lo' + 1 ≤ u → u < t → byAt (l.getD u ByteArray.empty) d = cc) ∧ Aside0 (Wi = Wj))
            case atStart => exact ⟨lo' + 1, rfl, rfl, by go_num, Nat.le_refl _, by omega, by omega, ⟨fun u h1 h2 => by omega⟩, ⟨rfl⟩⟩
            case round =>
              obtain ⟨t, rfl, rfl, rfl, t1, t2, t3, HU, HW⟩ := hrel
              obtain rfl := HW.out
              clear HW hx' l1 l2 l6 w5
              obtain ⟨go, hgo⟩ : ∃ go, (decide (t < hi) && decide (byAt (l.getD t ByteArray.empty) d = cc)) = go := ⟨_, rfl⟩
              have hcase : (t < hi ∧ byAt (l.getD t ByteArray.empty) d = cc ∧ go = true) ∨ (t < hi ∧ byAt (l.getD t ByteArray.empty) d ≠ cc ∧ go = false) ∨ (¬ t < hi ∧ go = false) := by
                rw [← hgo]
                by_cases h1 : t < hi
                · by_cases h2 : byAt (l.getD t ByteArray.empty) d = cc
                  · exact .inl ⟨h1, h2, by rw [decide_eq_true h1, decide_eq_true h2]; rfl⟩
                  · exact .inr (.inl ⟨h1, h2, by rw [decide_eq_false h2, Bool.and_false]⟩)
                · exact .inr (.inr ⟨h1, by rw [decide_eq_false h1]; rfl⟩)
              have HCASE := Aside0.mk hcase
              clear hgo hcase
              go_upto_region 12 with (fail)
              go_cut [90] (fun c wx => c = .bool go ∧ wx = wr)
              case first =>
                rcases HCASE.out with ⟨h1, h2, h3⟩ | ⟨h1, h2, h3⟩ | ⟨h1, h3⟩
                · obtain ⟨ad2, hA, hx⟩ := Kd.at_string (HL.out _ HP.out.hB) (t : Int) (by omega) (by omega)
                  obtain rfl : ad2 = ad := by injection hA with e; exact e.symm
                  have hx' : wr.cell? (ad2.add t) = some (.string (l.getD t ByteArray.empty)) := hx
                  obtain ⟨hs1, hs2⟩ := HFS.out t (by omega) h1
                  rw [byAt_at hs1] at h2
                  clear hx HCASE hA
                  generalize l.getD t ByteArray.empty = s1 at hx' hs1 hs2 h2
                  have m1 : decide ((t : Int) < (hi : Int)) = true := decide_eq_true (by omega)
                  have m2 : decide (t < hi) = true := decide_eq_true h1
                  have m3 : (t : Int) < (l.length : Int) := by omega
                  have m4 : ∀ h : d < s1.size, (s1[d]'h).toNat = cc := fun _ => h2
                  have m5 : (d : Int) < (s1.size : Int) := by omega
                  subst h3
                  clear h1 h2
                  go_wp2
                  go_meet
                  case rel => exact ⟨rfl, rfl⟩
                · obtain ⟨ad2, hA, hx⟩ := Kd.at_string (HL.out _ HP.out.hB) (t : Int) (by omega) (by omega)
                  obtain rfl : ad2 = ad := by injection hA with e; exact e.symm
                  have hx' : wr.cell? (ad2.add t) = some (.string (l.getD t ByteArray.empty)) := hx
                  obtain ⟨hs1, hs2⟩ := HFS.out t (by omega) h1
                  rw [byAt_at hs1] at h2
                  clear hx HCASE hA
                  generalize l.getD t ByteArray.empty = s1 at hx' hs1 hs2 h2
                  have m1 : decide ((t : Int) < (hi : Int)) = true := decide_eq_true (by omega)
                  have m2 : decide (t < hi) = true := decide_eq_true h1
                  have m3 : (t : Int) < (l.length : Int) := by omega
                  obtain ⟨c1, hc1⟩ : ∃ c1, (s1[d]'hs1).toNat = c1 := ⟨_, rfl⟩
                  rw [hc1] at h2
                  have m4 : ∀ h : d < s1.size, (s1[d]'h).toNat = c1 := fun _ => hc1
                  have m5 : (d : Int) < (s1.size : Int) := by omega
                  have m6 : ((c1 : Int) == (cc : Int)) = false := beq_eq_false_iff_ne.2 (by omega)
                  have m7 : (c1 == cc) = false := beq_eq_false_iff_ne.2 h2
                  subst h3
                  clear h1 h2 hc1
                  go_wp2
                  go_meet
                  case rel => exact ⟨rfl, rfl⟩
                · have m1 : decide ((t : Int) < (hi : Int)) = false := decide_eq_false (by omega)
                  have m2 : decide (t < hi) = false := decide_eq_false h1
                  subst h3
                  clear h1 HCASE
                  go_wp2
                  go_meet
                  case rel => exact ⟨rfl, rfl⟩
              case rest =>
                obtain ⟨rfl, rfl⟩ := hcut
                cases go with
                | true =>
                  have hc := HCASE.out
                  have hc2 : t < hi ∧ byAt (l.getD t ByteArray.empty) d = cc := by
                    rcases hc with ⟨h1, h2, _⟩ | ⟨_, _, h3⟩ | ⟨_, h3⟩
                    · exact ⟨h1, h2⟩
                    · cases h3
                    · cases h3
                  have HC2 := Aside0.mk hc2
                  have hti := hc2.1
                  clear hc hc2 HCASE
                  go_wp2
                  go_roundg (hi - (t + 1))
                  case measure => omega
                  case rel => exact ⟨t + 1, rfl, rfl, by go_num, by omega, by omega, Nat.le_refl _, ⟨fun u h1 h2 => by
                    by_cases hu : u = t
                    · rw [hu]; exact HC2.out.2
                    · exact HU.out u h1 (by omega)⟩, ⟨rfl⟩⟩
                | false =>
                  have he : gEnd l d cc hi hi (lo' + 1) = t := gEnd_uniq t1 t2 HU.out (by
                    rcases HCASE.out with ⟨_, _, h3⟩ | ⟨_, h2, _⟩ | ⟨h1, _⟩
                    · cases h3
                    · exact .inr h2
                    · exact .inl (by omega))
                  have hG := HG2.out
                  rw [HCC.out, he] at hG
                  have HG := Aside0.mk hG
                  have h0 := blk_cell HP.out.hb 0
                  simp only [List.getElem?_toArray, List.getElem?_cons_zero, List.getElem?_cons_succ] at h0
                  have HP0 := HP
                  have hwd : IntKind.i64.wrap ((d : Int) + 1) = (d : Int) + 1 := by rw [i64_w, wrap_id (by omega) (by omega)]
                  clear hG HCASE HU HG2 he x2 hs1 hs2
                  go_wp2_with ((with_reducible refine gate_builtin (b := .append) (xs := #[.tmp 91, .tmp 100]) rfl ?_); at_builtin; refine Kd.Q_append jbF.kd (w0 := w) NB rfl (.tmp 91) (.tmp 100) 111 110 _ 24 rfl Try.underlying111 infoJb rfl (by decide) (by decide) _ Js ⟨(St.length : Int), (lo' : Int), (t : Int)⟩ [.int .i64 St.length, .int .i64 lo', .int .i64 t] (fun k => k ≠ X) (fun _ => False) rfl rfl ?aP (fun _ hk => hk.elim) ?aF ?aO ?aB ?aS ?aL ?_; (case aP => exact rfl); (case aB => exact HP0.out.hB); (case aF => exact (fun k hk => by have := blk_lt HP0.out.hX; omega)); (case aO => exact HP0.out.hJ); (case aS => exact HP0.out.nW); (case aL => omega); intro v1 w1 hq1 hb1 hg1 hat1; have HPa := Aside0.mk (HP0.out.job hq1 hb1 hg1); clear HP HP0 h0 hq1 hb1 hg1 hat1)
                  go_upto_region 14 with (fail)
                  go_cut [] (fun wx => ∃ gg capg, PartI NB b X w wx v1 gg capg (St ++ [⟨(j : Int), (cc : Int), (d : Int) + 1, -1, 0, 0⟩]) (Js ++ [⟨(St.length : Int), (lo' : Int), (t : Int)⟩]) j lo hi)
                  case first =>
                    have h0 := blk_cell HPa.out.hb 0
                    have x0 := blk_cell HPa.out.hX 0
                    simp only [List.getElem?_toArray, List.getElem?_cons_zero, List.getElem?_cons_succ] at h0 x0
                    have hf0 := blk_frozen HPa.out.hb 0
                    obtain ⟨i0, hi0, hz0, hz1, hz2⟩ := info_parts infoSt
                    have hown := flat_own HPa.out.hS
                    have hnb := HPa.out.nW
                    obtain ⟨LIT, hLIT⟩ : ∃ o : Obj, Obj.cells #[.int .i64 j, .int .u8 cc, .int .i64 ((d : Int) + 1), .int .i64 (-1), .int .i64 0, .int .i64 0] 102 (0, 0) = o := ⟨_, rfl⟩
                    have hbw : Below w1.heap.size w1 ((w1.alloc (.cells #[.int .i64 j, .int .u8 cc, .int .i64 ((d : Int) + 1), .int .i64 (-1), .int .i64 0, .int .i64 0] 102 (0, 0))).drew) := below_drew ((Below.refl w1.heap.size w1).alloc (Nat.le_refl _) _)
                    have hp8 := (hbw.block _ (blk_lt HPa.out.hb)).trans HPa.out.hb
                    have hx8 := (hbw.block _ (blk_lt HPa.out.hX)).trans HPa.out.hX
                    have HP8 := Aside0.mk hp8
                    have HX8 := Aside0.mk hx8
                    have h8 := blk_cell hp8 0
                    have x8 := blk_cell hx8 0
                    simp only [List.getElem?_toArray, List.getElem?_cons_zero, List.getElem?_cons_succ] at h8 x8
                    have hf8 := blk_frozen hp8 0
                    obtain ⟨cells, hgt⟩ := HPa.out.gty
                    have hbg : b ≠ g := ty_ne HPa.out.hb hgt (by decide)
                    have HGRB := Aside0.mk (show w1.grownBy w1 none from ⟨rfl, rfl, rfl, Nat.le_refl _, fun _ _ _ => rfl⟩)
                    have q5' : St.length ≤ 1073741824 := by omega
                    clear hp8 hx8 hbw hLIT hgt cells
                    go_region_law
                      ((refine step_append_lies _ (by rfl) _ _ _ (by rfl) NB 102 i0 _ 6 48 Try.underlying95 hi0 hz0 hz1 hz2 rfl (by omega) (.slice (some ⟨g, 0, none⟩) St.length cap) St.length _ (by rfl) ((hown.alloc _).drew) ⟨w1.heap.size, 0, none⟩ 1 1 [.int .i64 j, .int .u8 cc, .int .i64 ((d : Int) + 1), .int .i64 (-1), .int .i64 0, .int .i64 0] (by rfl) (by rfl) (World.news_of_block (cs := #[.int .i64 j, .int .u8 cc, .int .i64 ((d : Int) + 1), .int .i64 (-1), .int .i64 0, .int .i64 0]) (t := 102) (fr := (0, 0)) (heap_alloc_new w1 _)) (by simp [Value.oneCell']) (by omega) (by unfold maxLen; omega) (by omega) (by simp; omega) (w1.heap.size + 1) (by simp) ?_; intro gg capg w2 hown1 hgrow hat hlt2; have hp9 := blk_grown HP8.out hgrow (fun e => hbg (Option.some.inj e)); have hc9 := blk_cell hp9 0; have hf9 := blk_frozen hp9 0))
                    all_goals
                      have HALL := Aside0.mk ((grown_drew (World.grownBy_alloc w1 (.cells #[.int .i64 j, .int .u8 cc, .int .i64 ((d : Int) + 1), .int .i64 (-1), .int .i64 0, .int .i64 0] 102 (0, 0)) (some g))).trans hgrow)
                      have HOWN := Aside0.mk hown1
                      clear hown1 hgrow hat hc9 hf9 hp9 hown h0 x0 h8 x8 hf0 hf8
                      go_wp2
                      go_meet
                      case rel => exact ⟨gg, capg, HPa.out.grow HALL.out HOWN.out⟩
                  case rest =>
                    obtain ⟨gg, capg, hPb⟩ := hcut
                    obtain ⟨Sx, hSx⟩ : ∃ Sx, St ++ [⟨(j : Int), (cc : Int), (d : Int) + 1, -1, 0, 0⟩] = Sx := ⟨_, rfl⟩
                    have hxl : Sx.length = St.length + 1 := by rw [← hSx]; simp
                    have hxm : (Sx.getD j default).many = (M' : Int) := by
                      rw [← hSx, List.getD_eq_getElem?_getD, List.getElem?_append_left q4, ← List.getD_eq_getElem?_getD]
                      exact HM.out
                    have hG := HG.out
                    rw [hSx] at hG hPb
                    have hjx : j < Sx.length := by omega
                    have hput := hPb.put (i := j) (jj := 5) (u := .int .i64 ((M' : Int) + 1)) (x' := { Sx.getD j default with many := (Sx.getD j default).many + 1 }) hjx (by omega) (by rw [hxm]; rfl)
                    rw [← modify_set Sx j (fun s => { s with many := s.many + 1 }) hjx] at hput
                    have h0 := blk_cell hPb.hb 0
                    have x0 := blk_cell hPb.hX 0
                    simp only [List.getElem?_toArray, List.getElem?_cons_zero, List.getElem?_cons_succ] at h0 x0
                    have k5 : wc.cell? ⟨gg, j * 6 + 5, none⟩ = some (.int .i64 M') := flat_at default hPb.hS (i := j) (j := 5) hjx (by rw [← hxm]; rfl)
                    have g5 := flat_frozen hPb.hS (g := gg) (by simp [Value.ownBlock]) (j * 6 + 5)
                    have HPUT := Aside0.mk (hput.below (below_drew (Below.refl _ _)))
                    have HG3 := Aside0.mk (show RS = partG l j d hi f t (Sx.modify j fun s => { s with many := s.many + 1 }) (Js ++ [⟨(St.length : Int), (lo' : Int), (t : Int)⟩]) from hG)
                    have HBL := Aside0.mk (show (Sx.modify j fun s => { s with many := s.many + 1 }).length = St.length + 1 by simp [hxl])
                    have HBM := Aside0.mk (show ((Sx.modify j fun s => { s with many := s.many + 1 }).getD j default).many = ((M' + 1 : Nat) : Int) by
                      rw [modify_set Sx j (fun s => { s with many := s.many + 1 }) hjx, List.getD_eq_getElem?_getD, List.getElem?_set_self hjx]
                      show (Sx.getD j default).many + 1 = ((M' + 1 : Nat) : Int)
                      rw [hxm]
                      omega)
                    have hji2 : (j : Int) < (Sx.length : Int) := by omega
                    have hwm : IntKind.i64.wrap ((M' : Int) + 1) = (M' : Int) + 1 := by rw [i64_w, wrap_id (by omega) (by omega)]
                    clear hPb HPa hG hput hxm HG HM hSx hxl
                    go_wp2
                    go_still_tail 12, (by kernel_rfl)
                    clear hwm
                    go_wp2
                    have hbl := HBL.out
                    go_roundg f
                    case measure => omega
                    case rel => exact ⟨t, gg, capg, _, _, M' + 1, rfl, by omega, by omega, by omega, by omega, by omega, by simp; omega, by omega, HPUT, HG3, HBM⟩
        · have l1 : decide ((lo' : Int) < (hi : Int)) = false := decide_eq_false (by omega)
          have l2 : decide (lo' < hi) = false := decide_eq_false hlt
          have hG := HG.out
          rw [partG_end _ _ _ _ _ _ _ _ hlt] at hG
          obtain rfl : RS = (St, Js) := hG
          have hP := HP.out
          have HFin := Aside0.mk (show ∃ v' g' cap', u2 = v' ∧ wr.heap[b]? = some (.cells #[.slice (some ⟨g', 0, none⟩) St.length cap'] 97 (0, 0)) ∧
            stF.kd.R 102 wr NB (fun _ => True) (.slice (some ⟨g', 0, none⟩) St.length cap') St ∧ jbF.kd.Q 110 wr NB (fun _ => True) v' Js ∧ Below NB w wr from ⟨_, g, cap, rfl, hP.hb, hP.hS, Kd.Q_mono hP.hJ (fun _ _ => trivial), hP.hB⟩)
          clear hP HG HM
          go_wp2
          go_ret
          obtain ⟨v', g', cap', e1, e2, e3, e4, e5⟩ := HFin.out
          exact ⟨v', by rw [← e1]; rfl, g', cap', e2, e3, e4, e5⟩
end Go.Proofs.Ytbkcjeopcjghgaa.P
