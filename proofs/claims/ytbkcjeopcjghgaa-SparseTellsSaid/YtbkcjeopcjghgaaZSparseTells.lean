/- Proved here: the row of the law SparseTells, with texts that lead to it, merged by a program of this session (wip/merge.py), part 2 of 2; no condition beyond the statement's own. -/
import Derived.Test.YtbkcjeopcjghgaaPx0
import Derived.Test.YtbkcjeopcjghgaaPx52
import Derived.StillTailTactics
import Derived.SizedLaws
import Derived.SliceStrings
import Derived.Test.YtbkcjeopcjghgaaWWords
import Derived.Test.YtbkcjeopcjghgaaWSized
import Derived.Test.YtbkcjeopcjghgaaRows
import Derived.WalkKit
import Derived.ProofKit
import Derived.OpenShut
import Derived.ShutString
import Derived.ChangeOld
import Derived.Below
import Derived.Carry
import Derived.Test.YtbkcjeopcjghgaaZSparseTellsa
/- Rows are laid over each other: the least place where a row's cells are free (fits), and one cell laid (put). -/
namespace Go.Proofs.Ytbkcjeopcjghgaa.P
open Go Go.RowKit Go.Proofs.YtbkcjeopcjghgaaW.PrintWords Go.Proofs.YtbkcjeopcjghgaaW.PrintLast Go.Proofs.YtbkcjeopcjghgaaW.PrintMore Go.Proofs.Ytbkcjeopcjghgaa.Base
set_option linter.unusedVariables false
set_option linter.unusedSimpArgs false

theorem infoCl : (Try.prog.info? 78).map (fun i => (i.zero, i.size, i.bytes)) = some (some (.agg #[.int .i32 0, .int .i32 0]), 2, 8) := by kernel_rfl
theorem cl_own {e base : Nat} {ok : Nat → Prop} {W : World} {v : Value} {l : List CellD} (h : clF.kd.R e W base ok v l) (ok' : Nat → Prop) (h' : ∀ k, v.ownBlock = some k → ok' k) : clF.kd.R e W base ok' v l := flat_R (flat_own h) h'
/-- What holds while rows are laid: the cells are the call's own row, and so are the two rows of numbers. -/
structure SpaI (w1 W : World) (b : Nat) (v : Value) (gB gF n : Nat) (CL : List CellD) (BV FV : List Int) : Prop where
  hb : W.heap[b]? = some (.cells #[v, .slice (some ⟨gB, 0, none⟩) n n, .slice (some ⟨gF, 0, none⟩) n n] 74 (0, 0))
  hC : clF.kd.R 78 W w1.heap.size (fun _ => True) v CL
  hB : Kd.R (Kd.int .i64) 3 W w1.heap.size (fun k => k = gB) (.slice (some ⟨gB, 0, none⟩) n n) BV
  hF : Kd.R (Kd.int .i64) 3 W w1.heap.size (fun k => k = gF) (.slice (some ⟨gF, 0, none⟩) n n) FV
  lB : BV.length = n
  lF : FV.length = n
  ne : gB ≠ gF
  nb : w1.heap.size ≤ b
  hW : Below w1.heap.size w1 W
section
variable {w1 W : World} {b gB gF n : Nat} {v : Value} {CL : List CellD} {BV FV : List Int}
theorem SpaI.below (h : SpaI w1 W b v gB gF n CL BV FV) {W1 : World} (hb : Below W.heap.size W W1) : SpaI w1 W1 b v gB gF n CL BV FV :=
  ⟨(hb.block _ (blk_lt h.hb)).trans h.hb, Kd.R_below h.hC hb, Kd.R_below h.hB hb, Kd.R_below h.hF hb, h.lB, h.lF, h.ne, h.nb, h.hW.trans (hb.mono h.hW.size)⟩
theorem SpaI.tB (h : SpaI w1 W b v gB gF n CL BV FV) : ∃ cells, W.heap[gB]? = some (.cells cells 3 (0, 0)) := Kd.R_typed h.hB gB (by simp [Value.ownBlock])
theorem SpaI.tF (h : SpaI w1 W b v gB gF n CL BV FV) : ∃ cells, W.heap[gF]? = some (.cells cells 3 (0, 0)) := Kd.R_typed h.hF gF (by simp [Value.ownBlock])
theorem cl_far (hC : clF.kd.R 78 W w1.heap.size (fun _ => True) v CL) {g : Nat} {cells : Array Value} {t : Nat} (hg : W.heap[g]? = some (.cells cells t (0, 0))) (ht : 78 ≠ t) (i : Nat) (y : Value) : clF.kd.R 78 (W.setCell ⟨g, i, none⟩ y) w1.heap.size (fun _ => True) v CL :=
  cl_own (Kd.R_far (p := ⟨g, i, none⟩) (cl_own hC (fun k => v.ownBlock = some k) (fun k hk => hk)) (fun k hk e => by
    obtain ⟨cs, hc⟩ := Kd.R_typed hC k hk
    have e' : k = g := e
    subst e'
    exact ty_ne hc hg ht rfl) y) _ (fun _ _ => trivial)
theorem SpaI.putB (h : SpaI w1 W b v gB gF n CL BV FV) (i : Nat) (y : Int) : SpaI w1 (W.setCell ⟨gB, i, none⟩ (.int .i64 y)) b v gB gF n CL (BV.set i y) FV := by
  obtain ⟨cells, hg⟩ := h.tB
  have n1 : b ≠ gB := ty_ne h.hb hg (by decide)
  have hT := h.hB
  rw [← h.lB] at hT
  have hp := (Kd.R_putg hT (i : Int) y).1
  rw [Int.toNat_natCast] at hp
  have hp' : Kd.R (Kd.int .i64) 3 (W.setCell ⟨gB, i, none⟩ (.int .i64 y)) w1.heap.size (fun k => k = gB) (.slice (some ⟨gB, 0, none⟩) BV.length BV.length) (BV.set i y) := hp
  rw [h.lB] at hp'
  exact ⟨(Below.heap_setCell W ⟨gB, i, none⟩ _ b n1).trans h.hb, cl_far h.hC hg (by decide) i _, hp', Kd.R_far (p := ⟨gB, i, none⟩) h.hF (fun k hk e => h.ne (by rw [← hk]; exact e.symm)) _, (List.length_set ..).trans h.lB, h.lF, h.ne, h.nb, Below.setCell (p := ⟨gB, i, none⟩) h.hW (Kd.R_base h.hB gB (by simp [Value.ownBlock])) _⟩
theorem SpaI.putF (h : SpaI w1 W b v gB gF n CL BV FV) (i : Nat) (y : Int) : SpaI w1 (W.setCell ⟨gF, i, none⟩ (.int .i64 y)) b v gB gF n CL BV (FV.set i y) := by
  obtain ⟨cells, hg⟩ := h.tF
  have n1 : b ≠ gF := ty_ne h.hb hg (by decide)
  have hT := h.hF
  rw [← h.lF] at hT
  have hp := (Kd.R_putg hT (i : Int) y).1
  rw [Int.toNat_natCast] at hp
  have hp' : Kd.R (Kd.int .i64) 3 (W.setCell ⟨gF, i, none⟩ (.int .i64 y)) w1.heap.size (fun k => k = gF) (.slice (some ⟨gF, 0, none⟩) FV.length FV.length) (FV.set i y) := hp
  rw [h.lF] at hp'
  exact ⟨(Below.heap_setCell W ⟨gF, i, none⟩ _ b n1).trans h.hb, cl_far h.hC hg (by decide) i _, Kd.R_far (p := ⟨gF, i, none⟩) h.hB (fun k hk e => h.ne (by rw [← hk]; exact e)) _, hp', h.lB, (List.length_set ..).trans h.lF, h.ne, h.nb, Below.setCell (p := ⟨gF, i, none⟩) h.hW (Kd.R_base h.hF gF (by simp [Value.ownBlock])) _⟩
end
theorem SpaI.step1 {w1 W : World} {b gB gF n g m cp : Nat} {PL PL' : List CellD} {BV FV : List Int} (h : SpaI w1 W b (.slice (some ⟨g, 0, none⟩) m cp) gB gF n PL BV FV) (i : Nat) (u : Value) (hC : clF.kd.R 78 (W.setCell ⟨g, i, none⟩ u) w1.heap.size (fun _ => True) (.slice (some ⟨g, 0, none⟩) m cp) PL') :
    SpaI w1 (W.setCell ⟨g, i, none⟩ u) b (.slice (some ⟨g, 0, none⟩) m cp) gB gF n PL' BV FV := by
  obtain ⟨cs, hg⟩ := Kd.R_typed h.hC g (by simp [Value.ownBlock])
  obtain ⟨cB, hgB⟩ := h.tB
  obtain ⟨cF, hgF⟩ := h.tF
  have nb : b ≠ g := ty_ne h.hb hg (by decide)
  have nB : gB ≠ g := ty_ne hgB hg (by decide)
  have nF : gF ≠ g := ty_ne hgF hg (by decide)
  exact ⟨(Below.heap_setCell W ⟨g, i, none⟩ _ b nb).trans h.hb, hC, Kd.R_far (p := ⟨g, i, none⟩) h.hB (fun k hk e => nB (by rw [← hk]; exact e)) _, Kd.R_far (p := ⟨g, i, none⟩) h.hF (fun k hk e => nF (by rw [← hk]; exact e)) _, h.lB, h.lF, h.ne, h.nb, Below.setCell (p := ⟨g, i, none⟩) h.hW (Kd.R_base h.hC g (by simp [Value.ownBlock])) _⟩
theorem SpaI.putCell {w1 W : World} {b gB gF n g m cp : Nat} {PL : List CellD} {BV FV : List Int} (h : SpaI w1 W b (.slice (some ⟨g, 0, none⟩) m cp) gB gF n PL BV FV) (k : Nat) (hk : k < m) (hl : PL.length = m) (co cn : Int) :
    SpaI w1 ((W.setCell ⟨g, k * 2, none⟩ (.int .i32 co)).setCell ⟨g, k * 2 + 1, none⟩ (.int .i32 cn)) b (.slice (some ⟨g, 0, none⟩) m cp) gB gF n (PL.set k ⟨co, cn⟩) BV FV := by
  have f1 := flat_put default h.hC (i := k) (j := 0) (u := .int .i32 co) (x' := ⟨co, (PL.getD k default).next⟩) hk (by decide) rfl
  have s1 := h.step1 (k * 2) (.int .i32 co) f1
  have e : (PL.set k ⟨co, (PL.getD k default).next⟩).getD k default = ⟨co, (PL.getD k default).next⟩ := by
    rw [List.getD_eq_getElem?_getD, List.getElem?_set, if_pos rfl, if_pos (by omega)]
    rfl
  have f2 := flat_put default s1.hC (i := k) (j := 1) (u := .int .i32 cn) (x' := ⟨co, cn⟩) hk (by decide) (by rw [e]; rfl)
  rw [List.set_set] at f2
  exact s1.step1 (k * 2 + 1) (.int .i32 cn) f2
/-- What holds while a cell is laid: it stands in a block of its own. -/
structure PutI (w1 W : World) (b X : Nat) (v : Value) (gB gF n : Nat) (co cn : Int) (CL : List CellD) (BV FV : List Int) : Prop where
  hS : SpaI w1 W b v gB gF n CL BV FV
  hX : W.heap[X]? = some (.cells #[.int .i32 co, .int .i32 cn] 78 (0, 0))
  hx : ∀ k, v.ownBlock = some k → k ≠ X
theorem PutI.below {w1 W : World} {b X gB gF n : Nat} {v : Value} {co cn : Int} {CL : List CellD} {BV FV : List Int} (h : PutI w1 W b X v gB gF n co cn CL BV FV) {W1 : World} (hb : Below W.heap.size W W1) : PutI w1 W1 b X v gB gF n co cn CL BV FV :=
  ⟨h.hS.below hb, (hb.block _ (blk_lt h.hX)).trans h.hX, h.hx⟩
theorem PutI.grow {w1 W : World} {b X gB gF n : Nat} {v : Value} {co cn : Int} {CL : List CellD} {BV FV : List Int} (h : PutI w1 W b X v gB gF n co cn CL BV FV) {v1 : Value} {w2 : World} (hR : clF.kd.R 78 w2 w1.heap.size (fun k => k ≠ X) v1 (CL ++ [⟨0, 0⟩])) (hb : Below w1.heap.size w1 w2) (hg : W.grownBy w2 v.ownBlock) :
    PutI w1 (w2.setCell ⟨b, 0, none⟩ v1) b X v1 gB gF n co cn (CL ++ [⟨0, 0⟩]) BV FV := by
  have hty : ∀ k, v.ownBlock = some k → ∃ cells, W.heap[k]? = some (.cells cells 78 (0, 0)) := fun k hk => Kd.R_typed h.hS.hC k hk
  have hbv : some b ≠ v.ownBlock := fun e => by
    obtain ⟨cs, hc⟩ := hty b e.symm
    exact ty_ne hc h.hS.hb (by decide) rfl
  have hb2 := blk_grown h.hS.hb hg hbv
  obtain ⟨cB, hgB⟩ := h.hS.tB
  obtain ⟨cF, hgF⟩ := h.hS.tF
  have nB : b ≠ gB := ty_ne h.hS.hb hgB (by decide)
  have nF : b ≠ gF := ty_ne h.hS.hb hgF (by decide)
  have nX : X ≠ b := ty_ne h.hX h.hS.hb (by decide)
  refine ⟨⟨?_, cl_far (w1 := w1) (W := w2) (cl_own hR _ (fun _ _ => trivial)) hb2 (by decide) 0 v1, ?_, ?_, h.hS.lB, h.hS.lF, h.hS.ne, h.hS.nb, Below.setCell (p := ⟨b, 0, none⟩) hb h.hS.nb _⟩, ?_, hR.1⟩
  · have := blk_set hb2 0 v1
    simpa using this
  · exact Kd.R_far (p := ⟨b, 0, none⟩) (Kd.R_over' h.hS.hB hty (fun q hq => by
    rcases List.mem_cons.1 hq with rfl | hq
    · decide
    · exact (List.not_mem_nil (show q ∈ ([] : List Nat) from hq)).elim) hg) (fun k hk e => nB (by rw [← hk]; exact e.symm)) _
  · exact Kd.R_far (p := ⟨b, 0, none⟩) (Kd.R_over' h.hS.hF hty (fun q hq => by
    rcases List.mem_cons.1 hq with rfl | hq
    · decide
    · exact (List.not_mem_nil (show q ∈ ([] : List Nat) from hq)).elim) hg) (fun k hk e => nF (by rw [← hk]; exact e.symm)) _
  · exact blk_far (p := ⟨b, 0, none⟩) (blk_grown h.hX hg (fun e => h.hx X e.symm rfl)) nX _
theorem PutI.bv {w1 W : World} {b X gB gF n : Nat} {v : Value} {co cn : Int} {CL : List CellD} {BV FV : List Int} (h : PutI w1 W b X v gB gF n co cn CL BV FV) : some b ≠ v.ownBlock := fun e => by
  obtain ⟨cs, hc⟩ := Kd.R_typed h.hS.hC b e.symm
  exact ty_ne hc h.hS.hb (by decide) rfl
theorem cl_block {e base : Nat} {ok : Nat → Prop} {W : World} {A : Option Addr} {m cp : Nat} {l : List CellD} (h : clF.kd.R e W base ok (.slice A m cp) l) (hm : 0 < l.length) : ∃ g, A = some ⟨g, 0, none⟩ := by
  rcases (flat_own h).2 with ⟨_, hx0⟩ | ⟨g, cap, cur, hv, _⟩
  · omega
  · injection hv with h1
    exact ⟨g, h1⟩
set_option maxHeartbeats 4000000 in
set_option maxRecDepth 100000 in
/-- One cell is laid. -/
theorem sparse_put {w1 W : World} {b gB gF n : Nat} {v : Value} {CL : List CellD} {BV FV : List Int} (k : Nat) (c : CellD) (hI : SpaI w1 W b v gB gF n CL BV FV) (hk : k ≤ 8589934592) (hl : CL.length ≤ 8589934592) :
    Calls Try.prog 51 #[.pointer (some ⟨b, 0, none⟩), .int .i64 (k : Int), .agg #[.int .i32 c.owner, .int .i32 c.next]] W fun e w' => e = .returned (.tuple #[]) ∧ ∃ v', SpaI w1 w' b v' gB gF n (putC CL k c) BV FV := by
  obtain ⟨co, cn⟩ := c
  have hP : PutI w1 (W.alloc (.cells #[.int .i32 co, .int .i32 cn] 78)) b W.heap.size v gB gF n co cn CL BV FV :=
    ⟨hI.below ((Below.refl _ _).alloc (Nat.le_refl _) _), heap_alloc_new _ _, fun k hk => by
      obtain ⟨cs, hc⟩ := Kd.R_typed hI.hC k hk
      have := blk_lt hc
      omega⟩
  have HP0 := Aside0.mk hP
  have HCL := Aside0.mk hl
  obtain ⟨A0, c0, rfl⟩ := Kd.R_slice hI.hC
  generalize hX : W.heap.size = X at HP0
  have HXX := Aside0.mk hX
  clear hI hP hl hX
  go_enter Try.func51, Try.ntmps51
  go_wp2
  rw [HXX.out]
  go_loopg [] (k + 1 - CL.length) (fun kx Wx => ∃ (A : Option Addr) (cp : Nat) (j : Nat), k + 1 - (CL.length + j) ≤ kx ∧ (CL.length + j ≤ max CL.length (k + 1)) ∧ Aside0 (PutI w1 Wx b X (.slice A (CL.length + j) cp) gB gF n co cn (CL ++ List.replicate j ⟨0, 0⟩) BV FV))
  case atStart => exact ⟨A0, c0, 0, by omega, by omega, ⟨by rw [List.replicate_zero, List.append_nil]; exact HP0.out⟩⟩
  case round =>
    clear HP0
    obtain ⟨A, cp, j, hkx, hj, HP⟩ := hrel
    have hP := HP.out
    have hc0 : wr.cell? ⟨b, 0, none⟩ = some (.slice A (CL.length + j) cp) := blk_cell hP.hS.hb 0
    have hll : (CL ++ List.replicate j (⟨0, 0⟩ : CellD)).length = CL.length + j := by rw [List.length_append, List.length_replicate]
    have HLL := Aside0.mk hll
    obtain ⟨m, hm⟩ : ∃ m, CL.length + j = m := ⟨_, rfl⟩
    rw [hm] at hkx hj hc0 hll HLL
    have HM := Aside0.mk hm
    have HP := Aside0.mk (show PutI w1 wr b X (.slice A m cp) gB gF n co cn (CL ++ List.replicate j ⟨0, 0⟩) BV FV by rw [← hm]; exact hP)
    have hcl := HCL.out
    clear hP hm
    by_cases hle : m ≤ k
    · have hb1 : decide ((m : Int) ≤ (k : Int)) = true := decide_eq_true (by omega)
      have hml : m ≤ 8589934592 := by omega
      have hl2 : (CL ++ List.replicate j (⟨0, 0⟩ : CellD) ++ [(⟨0, 0⟩ : CellD)]).length = m + 1 := by rw [List.length_append, HLL.out, List.length_singleton]
      have HL2 := Aside0.mk hl2
      clear hll hcl hl2
      go_wp2_with ((with_reducible refine gate_builtin (b := .append) (xs := #[.tmp 17, .tmp 19]) rfl ?_); at_builtin; refine Kd.R_append clF.kd (w0 := w1) w1.heap.size rfl (.tmp 17) (.tmp 19) 72 78 _ 8 rfl Try.underlying72 infoCl rfl (by decide) (by decide) (.slice A m cp) (CL ++ List.replicate j ⟨0, 0⟩) ⟨0, 0⟩ [.int .i32 0, .int .i32 0] (fun k => k ≠ X) (fun _ => False) rfl rfl ?aP (fun _ hk => hk.elim) ?aF ?aO ?aB ?aS ?aL ?_; (case aP => exact rfl); (case aB => exact HP.out.hS.hW); (case aF => exact (fun k hk => by have := blk_lt HP.out.hX; omega)); (case aO => exact cl_own HP.out.hS.hC (fun k => k ≠ X) HP.out.hx); (case aS => exact HP.out.hS.hW.size); (case aL => rw [HLL.out]; omega); intro v1 w6 ho hb hg hat; have HG := Aside0.mk (HP.out.grow ho hb hg); obtain ⟨A1, cp1, hv1⟩ := Kd.R_slice ho; rw [HL2.out] at hv1; subst hv1; have hp9 := blk_grown HP.out.hS.hb hg HP.out.bv; have hc9 := blk_cell hp9 0; have hf9 := blk_frozen hp9 0; clear ho hb hg hat hp9)
      go_roundg (k + 1 - (m + 1))
      case measure => omega
      case rel =>
        have hG := HG.out
        rw [List.append_assoc, ← List.replicate_succ'] at hG
        have := HM.out
        refine ⟨A1, cp1, j + 1, by omega, by omega, ⟨?_⟩⟩
        rw [show CL.length + (j + 1) = m + 1 by omega]
        exact hG
    · have hb1 : decide ((m : Int) ≤ (k : Int)) = false := decide_eq_false (by omega)
      obtain ⟨g, rfl⟩ := cl_block HP.out.hS.hC (by rw [HLL.out]; omega)
      have hpad : CL ++ List.replicate j (⟨0, 0⟩ : CellD) = padC CL k := by
        have := HM.out
        unfold padC
        rw [show k + 1 - CL.length = j by omega]
      have HP := Aside0.mk (show PutI w1 wr b X (.slice (some ⟨g, 0, none⟩) m cp) gB gF n co cn (padC CL k) BV FV by rw [← hpad]; exact HP.out)
      have x0 : wr.cell? ⟨X, 0, none⟩ = some (.int .i32 co) := blk_cell HP.out.hX 0
      have x1 : wr.cell? ⟨X, 1, none⟩ = some (.int .i32 cn) := blk_cell HP.out.hX 1
      have hkm : (k : Int) < (m : Int) := by omega
      have y0 := flat_at default HP.out.hS.hC (i := k) (j := 0) (by omega) rfl
      have y1 := flat_at default HP.out.hS.hC (i := k) (j := 1) (by omega) rfl
      have z0 : ∀ i, wr.frozen? ⟨g, i, none⟩ = false := fun i => flat_frozen HP.out.hS.hC (by simp [Value.ownBlock]) i
      change wr.cell? ⟨g, k * 2, none⟩ = _ at y0
      change wr.cell? ⟨g, k * 2 + 1, none⟩ = _ at y1
      clear hpad hll hcl
      go_wp2
      go_region
      all_goals
        go_end0
        refine ⟨rfl, _, (HP.out.hS.putCell k (by omega) (by rw [padC_length]; have := HM.out; omega) co cn).below (by repeat (first | exact Below.refl _ _ | (with_reducible apply pw_below_drewN) | (with_reducible apply below_drew)))⟩
set_option maxHeartbeats 4000000 in
set_option maxRecDepth 100000 in
/-- The least place at which a row has all its cells free. -/
theorem sparse_fits {w1 W : World} {b gB gF n : Nat} {v : Value} {CL : List CellD} {BV FV : List Int} (hI : SpaI w1 W b v gB gF n CL BV FV) (sB : ByteArray) (bs : List UInt8) (hsB : LL sB = bs) (hne : bs ≠ []) (first : Nat) (hf : first ≤ CL.length) (hl : CL.length ≤ 8589934592) (hbl : bs.length ≤ 16777217) :
    Calls Try.prog 50 #[.pointer (some ⟨b, 0, none⟩), .string sB, .int .i64 (first : Int)] W fun e w' => e = .returned (.int .i64 (fitA CL bs first : Int)) ∧ w' = W := by
  obtain ⟨A, cp, rfl⟩ := Kd.R_slice hI.hC
  have hc0 : W.cell? ⟨b, 0, none⟩ = some (.slice A CL.length cp) := blk_cell hI.hb 0
  obtain ⟨m, hm⟩ : ∃ m, bs.length = m := ⟨_, rfl⟩
  have hsz : sB.size = m := by rw [← LL_length, hsB, hm]
  have hm0 : 0 < m := by rw [← hm]; exact List.length_pos_iff.2 hne
  have hby : ∀ i, ∀ h : i < sB.size, (sB[i]'h).toNat = (bs.getD i 0).toNat := fun i h => by
    have h3 : i < (LL sB).length := by rw [LL_length]; exact h
    rw [← hsB, List.getD_eq_getElem?_getD, List.getElem?_eq_getElem h3]
    rfl
  obtain ⟨b0, hb0⟩ : ∃ b0, (bs.getD 0 0).toNat = b0 := ⟨_, rfl⟩
  have hb1 : b0 < 256 := by rw [← hb0]; exact UInt8.toNat_lt _
  have hby0 := hby 0
  rw [hb0] at hby0
  have hp0 : (0 : Int) < (sB.size : Int) := by rw [hsz]; omega
  have hst : startF first bs = first - b0 := by unfold startF; rw [hb0]
  have hmax : max 0 ((first : Int) - (b0 : Int)) = ((startF first bs : Nat) : Int) := by
    rw [hst]
    omega
  have hIC := hI.hC
  have HC := Aside0.mk hIC
  have HBY := Aside0.mk hby
  have HM := Aside0.mk hm
  have HSZ := Aside0.mk hsz
  have HMAX := Aside0.mk hmax
  have hfuel : fitF CL bs (CL.length - startF first bs) (startF first bs) = fitA CL bs first := rfl
  have HFU := Aside0.mk hfuel
  have hsl : startF first bs ≤ CL.length := by omega
  have HSL := Aside0.mk hsl
  obtain ⟨r, hr⟩ : ∃ r, fitA CL bs first = r := ⟨_, rfl⟩
  rw [hr] at HFU ⊢
  obtain ⟨cl, hcl⟩ : ∃ cl, CL.length = cl := ⟨_, rfl⟩
  have HCL := Aside0.mk hcl
  have hcl2 : cl ≤ 8589934592 := by omega
  have hm2 : m ≤ 16777217 := by omega
  rw [hcl] at hc0
  clear hI hIC hby hm hsz hmax hfuel hsl hst hr hcl hb0
  go_enter Try.func50, Try.ntmps50
  go_wp2
  go_step3
  go_wp2
  go_step3
  go_wp2
  rw [HMAX.out]
  go_loopg [7, 8, 9, 20] (cl - startF first bs) (fun kx x x8 x9 x20 Wx => ∃ (a f : Nat), x = .int .i64 a ∧ f ≤ kx ∧ a + f = cl ∧ Aside0 (fitF CL bs f a = r) ∧ Wx = W)
  case atStart => exact ⟨startF first bs, cl - startF first bs, rfl, Nat.le_refl _, by have := HSL.out; have := HCL.out; omega, ⟨by rw [← HCL.out]; exact HFU.out⟩, rfl⟩
  case round =>
    clear HFU HMAX HSL
    obtain ⟨a, f, rfl, hfk, haf, HF, rfl⟩ := hrel
    go_wp2
    rw [HSZ.out]
    go_loopg [8, 9, 20] m (fun kx2 x8 x9 x20 Wx => ∃ (i : Nat), x20 = .int .i64 i ∧ i ≤ m ∧ m - i ≤ kx2 ∧ Aside0 (∀ j, j < i → ¬ 0 < ownC CL (a + (bs.getD j 0).toNat)) ∧ Wx = wr)
    case atStart => exact ⟨0, rfl, Nat.zero_le _, Nat.le_refl _, ⟨fun j h => by omega⟩, rfl⟩
    case round =>
      obtain ⟨i, rfl, him, hik, HJ, rfl⟩ := hrel
      by_cases hilt : i < m
      · have hd : decide ((i : Int) < (m : Int)) = true := decide_eq_true (by omega)
        obtain ⟨bi, hbi⟩ : ∃ bi, (bs.getD i 0).toNat = bi := ⟨_, rfl⟩
        have hbi2 : bi < 256 := by rw [← hbi]; exact UInt8.toNat_lt _
        have hby1 := HBY.out i
        rw [hbi] at hby1
        have hil : (i : Int) < (sB.size : Int) := by rw [HSZ.out]; omega
        have HBI := Aside0.mk hbi
        have w1' : IntKind.i64.wrap ((a : Int) + (bi : Int)) = ((a + bi : Nat) : Int) := by rw [i64_w, wrap_id (by omega) (by omega)]; omega
        have hback : ¬ 0 < ownC CL (a + bi) → Aside0 (∀ j, j < i + 1 → ¬ 0 < ownC CL (a + (bs.getD j 0).toNat)) := fun h => ⟨fun j hj => by
          rcases Nat.lt_or_ge j i with h1 | h1
          · exact HJ.out j h1
          · obtain rfl : j = i := by omega
            rw [HBI.out]
            exact h⟩
        have HBK := Aside0.mk hback
        clear hbi hback
        by_cases hk : a + bi < cl
        · have hd1 : decide ((a : Int) + (bi : Int) < (cl : Int)) = true := decide_eq_true (by omega)
          have hk' : (a : Int) + (bi : Int) < (cl : Int) := by omega
          have hk0 : 0 ≤ (a : Int) + (bi : Int) := by omega
          have ht : ((a : Int) + (bi : Int)).toNat = a + bi := by omega
          obtain ⟨ad, rfl, hx⟩ := flat_C default (Kd.R_reads' HC.out).2.2 (a + bi) (by rw [HCL.out]; exact hk)
          have g0 : wr.cell? (ad.add ((a + bi) * 2)) = some (.int .i32 (ownC CL (a + bi))) := hx 0 _ rfl
          clear hx
          by_cases ho : 0 < ownC CL (a + bi)
          · have hd2 : decide (0 < ownC CL (a + bi)) = true := decide_eq_true ho
            obtain ⟨f, rfl⟩ : ∃ f', f = f' + 1 := ⟨f - 1, by omega⟩
            have hF := HF.out
            have hno : ¬ fitB CL bs a = true := fun h => by
              have := fitB_iff.1 h (bs.getD i 0) (getD_mem bs i 0 (by rw [HM.out]; exact hilt))
              rw [HBI.out] at this
              exact this ho
            simp only [fitF] at hF
            rw [if_neg hno] at hF
            have HF2 := Aside0.mk hF
            clear hF hno
            generalize ownC CL (a + bi) = ow at *
            clear HBK
            go_wp2
            go_roundg f
            case measure => omega
            case rel => exact ⟨a + 1, f, by go_num, Nat.le_refl _, by omega, HF2, rfl⟩
          · have hd2 : decide (0 < ownC CL (a + bi)) = false := decide_eq_false ho
            have HB2 := HBK.out ho
            generalize ownC CL (a + bi) = ow at *
            clear HBK
            go_wp2
            go_roundg (m - (i + 1))
            case measure => omega
            case rel => exact ⟨i + 1, by go_num, by omega, Nat.le_refl _, HB2, rfl⟩
        · have hd1 : decide ((a : Int) + (bi : Int) < (cl : Int)) = false := decide_eq_false (by omega)
          have HB2 := HBK.out (by unfold ownC; rw [own_out (by rw [HCL.out]; omega)]; decide)
          clear HBK
          go_wp2
          go_roundg (m - (i + 1))
          case measure => omega
          case rel => exact ⟨i + 1, by go_num, by omega, Nat.le_refl _, HB2, rfl⟩
      · obtain rfl : i = m := by omega
        have hd : decide ((i : Int) < (i : Int)) = false := decide_eq_false (by omega)
        have hfit : fitB CL bs a = true := fitB_iff.2 (fun b hb => by
          obtain ⟨j, hj, rfl⟩ := List.mem_iff_getElem.1 hb
          have := HJ.out j (by rw [← HM.out]; exact hj)
          rw [List.getD_eq_getElem?_getD, List.getElem?_eq_getElem hj] at this
          exact this)
        have hF := HF.out
        have har : a = r := by
          cases f with
          | zero => exact hF
          | succ f => simp only [fitF] at hF; rw [if_pos hfit] at hF; exact hF
        subst har
        clear hF hfit
        go_wp2
        go_ret
        exact ⟨rfl, rfl⟩
end Go.Proofs.Ytbkcjeopcjghgaa.P

/- Rows laid over each other: the walk of New. -/
namespace Go.Proofs.Ytbkcjeopcjghgaa.P
open Go Go.RowKit Go.Proofs.YtbkcjeopcjghgaaW.PrintWords Go.Proofs.YtbkcjeopcjghgaaW.PrintLast Go.Proofs.YtbkcjeopcjghgaaW.PrintMore Go.Proofs.Ytbkcjeopcjghgaa.Base
set_option linter.unusedVariables false
set_option linter.unusedSimpArgs false

theorem link_TrieA {b : Nat} {Pt A : Option Addr} {n c : Nat} {v : Value} (w : World) (hb : w.heap[b]? = some (.cells #[.pointer Pt, .slice A n c, v] 91 (0, 0))) :
    Calls Try.prog 41 #[.pointer (some ⟨b, 0, none⟩)] w fun e w' => e = .returned (.pointer Pt) ∧ Drawn0 w w' := by
  have h0 : w.cell? ⟨b, 0, none⟩ = some (.pointer Pt) := blk_cell hb 0
  clear hb
  go_enter Try.func41, Try.ntmps41
  go_wp2
  go_ret
  exact ⟨rfl, Drawn0.refl _⟩
theorem spa_start {n : Nat} (hn : n ≤ 16777217) {w1 A A' : World} {g1 g2 : Nat} (hA : Below w1.heap.size w1 A) (hs : A.heap.size = w1.heap.size) (hA' : Below (A.alloc (Z17 n)).heap.size (A.alloc (Z17 n)) A') (hs' : A'.heap.size = w1.heap.size + 1)
    (hg : (g1 = w1.heap.size ∧ g2 = w1.heap.size + 1) ∨ (g1 = w1.heap.size + 1 ∧ g2 = w1.heap.size)) :
    SpaI w1 ((A'.alloc (Z17 n)).alloc (.cells #[.slice none 0 0, .slice (some ⟨g1, 0, none⟩) n n, .slice (some ⟨g2, 0, none⟩) n n] 74)) (w1.heap.size + 1 + 1) (.slice none 0 0) g1 g2 n [] (List.replicate n 0) (List.replicate n 0) := by
  have hl : (List.replicate n (0 : Int)).length = n := List.length_replicate
  have r1 := R_news (R_news (Kd.R_below (R17 n hn A w1.heap.size (by omega)) hA') (Z17 n)) (.cells #[.slice none 0 0, .slice (some ⟨g1, 0, none⟩) n n, .slice (some ⟨g2, 0, none⟩) n n] 74)
  have r2 := R_news (R17 n hn A' w1.heap.size (by omega)) (.cells #[.slice none 0 0, .slice (some ⟨g1, 0, none⟩) n n, .slice (some ⟨g2, 0, none⟩) n n] 74)
  rw [hs] at r1
  rw [hs'] at r2
  have hsz : (A'.alloc (Z17 n)).heap.size = w1.heap.size + 1 + 1 := by
    show (A'.heap.push _).size = _
    rw [Array.size_push, hs']
  have hb0 : Below w1.heap.size w1 A' := (below_new hA (Z17 n)).trans (hA'.mono (by show _ ≤ (A.heap.push _).size; rw [Array.size_push]; omega))
  refine ⟨?_, Kd.R_nil _ _ _ _ _, ?_, ?_, hl, hl, by rcases hg with ⟨rfl, rfl⟩ | ⟨rfl, rfl⟩ <;> omega, by omega, below_new (below_new hb0 _) _⟩
  · rw [← hsz]
    exact heap_alloc_new _ _
  · rcases hg with ⟨rfl, rfl⟩ | ⟨rfl, rfl⟩
    · exact r1
    · exact r2
  · rcases hg with ⟨rfl, rfl⟩ | ⟨rfl, rfl⟩
    · exact r2
    · exact r1
theorem spa_begin {n : Nat} (hn : n ≤ 16777217) {w1 A' : World} {g1 g2 : Nat} (h : (∃ m, A' = (w1.drewN m).alloc (Z17 n)) ∨ ∃ m k, A' = ((w1.drewN m).alloc (Z17 n)).drewN k)
    (hg : (g1 = w1.heap.size ∧ g2 = w1.heap.size + 1) ∨ (g1 = w1.heap.size + 1 ∧ g2 = w1.heap.size)) :
    SpaI w1 ((A'.alloc (Z17 n)).alloc (.cells #[.slice none 0 0, .slice (some ⟨g1, 0, none⟩) n n, .slice (some ⟨g2, 0, none⟩) n n] 74)) (w1.heap.size + 1 + 1) (.slice none 0 0) g1 g2 n [] (List.replicate n 0) (List.replicate n 0) := by
  rcases h with ⟨m, rfl⟩ | ⟨m, k, rfl⟩
  · exact spa_start hn (A := w1.drewN m) (pw_below_drewN (Below.refl _ _) m) rfl (Below.refl _ _) (by show (w1.heap.push _).size = _; rw [Array.size_push]) hg
  · exact spa_start hn (A := w1.drewN m) (pw_below_drewN (Below.refl _ _) m) rfl (pw_below_drewN (Below.refl _ _) k) (by show (w1.heap.push _).size = _; rw [Array.size_push]) hg
theorem i32_r {x : Int} (h0 : -2147483648 ≤ x) (h1 : x ≤ 2147483647) : IntKind.i32.wrap x = x := by
  simp [IntKind.wrap, IntKind.bits, IntKind.signed]
  omega
def sparse_New.f (a0 : Option SetD) : Option (Option SparseD) := if okT (setL a0) then some (some (sparD (setL a0))) else none
set_option maxHeartbeats 16000000 in
set_option maxRecDepth 100000 in
theorem sparse_New.calls (Pa0 : Option Addr) (a0 : Option SetD) (r : Option SparseD) (w : World) (ho : OB K57 w Pa0 a0) (h : sparse_New.f a0 = some r) :
    Calls Try.prog 17 #[.pointer Pa0] w fun e w' => ∃ P0_ : Option Addr, e = .returned (.pointer P0_) ∧ OB K74 w' P0_ r ∧ Below w.heap.size w w' := by
  unfold sparse_New.f at h
  by_cases hs : okT (setL a0)
  rotate_left
  · rw [if_neg hs] at h; cases h
  rw [if_pos hs] at h
  obtain rfl := Option.some.inj h
  have hL := link_New.calls Pa0 a0 (some ⟨trS (setL a0), failL (setL a0)⟩) w ho (if_pos hs)
  generalize setL a0 = l at hs hL ⊢
  have hsrt := srt_of hs.1
  have hz := hs.2.2.2
  obtain ⟨n, hn⟩ : ∃ n, (trN l).length = n := ⟨_, rfl⟩
  have hn1 : n ≤ 16777217 := by have := trN_le hsrt; unfold trK at this; omega
  have HL := Aside0.mk hL
  have HN := Aside0.mk hn
  clear ho h hL hn
  go_enter Try.func17, Try.ntmps17
  go_wp2_with (go_at_call 39; refine HL.out.mono ?_; rintro e w1 ⟨Pl, rfl, hOB, hB2⟩; have HLK := Aside0.mk hOB; have HB2 := Aside0.mk hB2; clear hOB hB2)
  obtain ⟨al, rfl⟩ := OB.p_some HLK.out
  obtain ⟨bl, Pt, Al, cl, vl, rfl, hbl, hll, htr, hfl⟩ := OB.at HLK.out
  have hTr : ∀ W, Below w1.heap.size w1 W → Calls Try.prog 41 #[.pointer (some ⟨bl, 0, none⟩)] W fun e w' => e = .returned (.pointer Pt) ∧ Drawn0 W w' := fun W g => link_TrieA W ((g.block _ (blk_lt hbl)).trans hbl)
  have hLn : ∀ W, Below w1.heap.size w1 W → Calls Try.prog 42 #[.pointer Pt] W fun e w' => e = .returned (.int .i64 (n : Int)) ∧ Drawn0 W w' := fun W g => trie_Trie_Len.calls Pt (some (trS l)) (n : Int) W (OB.below g htr) (by show some (((trS l).length : Nat) : Int) = _; rw [trS_length, HN.out])
  have HTR := Aside0.mk hTr
  have HLN := Aside0.mk hLn
  have HTT := Aside0.mk htr
  clear hTr hLn htr hbl hll hfl
  go_wp2_with (first
    | (go_at_call 41; refine (HTR.out _ (by repeat (first | exact Below.refl _ _ | (with_reducible apply pw_below_drewN) | (with_reducible apply below_drew)))).mono ?_; rintro e wq ⟨rfl, ⟨qt, rfl⟩⟩)
    | (go_at_call 42; refine (HLN.out _ (by repeat (first | exact Below.refl _ _ | (with_reducible apply pw_below_drewN) | (with_reducible apply below_drew)))).mono ?_; rintro e wq ⟨rfl, ⟨ql, rfl⟩⟩))
  have hmk := mk17 n hn1
  go_cut [5] (fun v wx => ∃ b gB gF, v = .pointer (some ⟨b, 0, none⟩) ∧ SpaI w1 wx b (.slice none 0 0) gB gF n [] (List.replicate n 0) (List.replicate n 0))
  case first =>
    go_region_with (fail)
    all_goals
      clear hmk
      go_wp2_with fail
      go_meet
      case rel =>
        exact ⟨_, _, _, rfl, spa_begin hn1 (by first | exact .inl ⟨_, rfl⟩ | exact .inr ⟨_, _, rfl⟩) (by first | exact .inl ⟨rfl, rfl⟩ | exact .inr ⟨rfl, rfl⟩)⟩
  case rest =>
    obtain ⟨b, gB, gF, rfl, hI0⟩ := hcut
    have HI0 := Aside0.mk hI0
    clear hI0 hmk
    go_wp2_with fail
    go_loopg [6, 7, 8, 9, 10, 11, 24] n (fun kx x6 x7 x8 x9 x10 x11 s W => ∃ (k : Nat) (S : SpS) (v : Value) (FV : List Int), s = .int .i64 k ∧ x6 = .int .i64 S.first ∧ k ≤ n ∧ n - k ≤ kx ∧ Aside0 (S = spRun l k) ∧ Aside0 (∀ j, j < k → rd FV (j : Int) = rd (failL l) (j : Int)) ∧ Aside0 (SpaI w1 W b v gB gF n S.cells (S.base.map fun n : Nat => (n : Int)) FV))
    case atStart =>
      exact ⟨0, spRun l 0, _, _, rfl, rfl, Nat.zero_le _, Nat.le_refl _, ⟨rfl⟩, ⟨fun j h => by omega⟩, ⟨by
        have e : (spRun l 0).base.map (fun n : Nat => (n : Int)) = List.replicate n 0 := by
          show (List.replicate (trN l).length 0).map _ = _
          rw [HN.out, List.map_replicate]
          rfl
        rw [e]
        exact HI0.out⟩⟩
    case round =>
      clear HI0
      obtain ⟨k, S, v, FV, rfl, rfl, hkn, hkx, HS, HF, HI⟩ := hrel
      by_cases hlt : k < n
      · have hd : decide ((k : Int) < (n : Int)) = true := decide_eq_true (by omega)
        obtain ⟨nd, hnd⟩ : ∃ nd, (trN l)[k]? = some nd := ⟨_, List.getElem?_eq_getElem (by rw [HN.out]; exact hlt)⟩
        obtain ⟨f, mf, hf1, hf2, hf3, hf4, hf5, hf6⟩ := fail_at hsrt hnd
        rw [HN.out] at hf4
        have hrun := spI_run l k (by rw [HN.out]; exact hkn)
        rw [← HS.out] at hrun
        have hlead := leadN_le l k
        have hcl : S.cells.length ≤ 4294967552 := by have := hrun.cl; omega
        have hfc := hrun.fl
        have hnext : spRun l (k + 1) = spStep l k nd S := by simp only [spRun]; rw [hnd, HS.out]
        have HNEXT := Aside0.mk hnext
        have hFail : ∀ W, Below w1.heap.size w1 W → Calls Try.prog 44 #[.pointer (some ⟨bl, 0, none⟩), .int .i64 (k : Int)] W fun e w' => e = .returned (.int .i64 (f : Int)) ∧ Drawn0 W w' := fun W hW => link_Link_Fail.calls _ (some ⟨trS l, failL l⟩) (k : Int) (f : Int) W (OB.below hW HLK.out) (by
          unfold link_Link_Fail.f
          rw [if_pos ⟨by omega, by show (k : Int) < (((trS l).length : Nat) : Int); rw [trS_length, HN.out]; omega⟩]
          show (if (k : Int) < ((failL l).length : Int) then some (rd (failL l) (k : Int)) else none) = _
          rw [if_pos (by rw [failL_length, HN.out]; omega), failL_at hnd, hf3])
        obtain ⟨sB, hsB⟩ : ∃ sB, strP (kidsB l nd) = sB := ⟨_, rfl⟩
        have hBy : ∀ W, Below w1.heap.size w1 W → Calls Try.prog 45 #[.pointer Pt, .int .i64 (k : Int)] W fun e w' => e = .returned (.string sB) ∧ Below W.heap.size W w' := fun W hW => trie_Trie_Bytes.calls Pt (some (trS l)) (k : Int) _ W (OB.below hW HTT.out) (by rw [← hsB]; exact kidsB_val hsrt hz hnd)
        have HSB := Aside0.mk hsB
        have HFL := Aside0.mk hFail
        have HBY := Aside0.mk hBy
        have HND := Aside0.mk hnd
        have hFn : rd (failL l) (k : Int) = (f : Int) := by rw [failL_at hnd, hf3]
        have hF2 : ∀ j, j < k + 1 → rd (FV.set k (f : Int)) (j : Int) = rd (failL l) (j : Int) := fun j hj => by
          show (FV.set k (f : Int)).getD (j : Int).toNat 0 = _
          rw [Int.toNat_natCast, List.getD_eq_getElem?_getD, List.getElem?_set]
          by_cases h : k = j
          · subst h
            rw [if_pos rfl, if_pos (by rw [HI.out.lF]; exact hlt), hFn]
            rfl
          · rw [if_neg h, ← HF.out j (by omega)]
            show _ = FV.getD (j : Int).toNat 0
            rw [Int.toNat_natCast, List.getD_eq_getElem?_getD]
        have HF2 := Aside0.mk hF2
        have HCL := Aside0.mk hcl
        have HFC := Aside0.mk hfc
        have hI := HI.out
        have hFr := hI.hF
        rw [← hI.lF] at hFr
        have c2 : ∀ m', (wr.drewN m').cell? ⟨b, 2, none⟩ = some (.slice (some ⟨gF, 0, none⟩) n n) := fun _ => blk_cell hI.hb 2
        have hco := Kd.R_celln 0 hFr (k : Int) (by omega) (by rw [hI.lF]; omega)
        rw [Int.toNat_natCast] at hco
        obtain ⟨u1, hu1⟩ : ∃ u, wr.cell? ⟨gF, k, none⟩ = some u := ⟨_, hco.1⟩
        have c3 : ∀ m', (wr.drewN m').cell? ⟨gF, k, none⟩ = some u1 := fun _ => hu1
        have c4 : ∀ m', (wr.drewN m').frozen? ⟨gF, k, none⟩ = false := fun _ => hco.2
        have c2a : wr.cell? ⟨b, 2, none⟩ = some (.slice (some ⟨gF, 0, none⟩) n n) := c2 0
        have c3a : wr.cell? ⟨gF, k, none⟩ = some u1 := hu1
        have c4a : wr.frozen? ⟨gF, k, none⟩ = false := hco.2
        have hki : (k : Int) < (n : Int) := by omega
        clear hnd hf1 hf2 hf3 hf5 hf6 hrun hnext hFail hBy hsB hF2 hFn hI hFr hco hu1 hlead hcl hfc
        go_upto_region 8 with (fail)
        go_cut [] (fun wx => Aside0 (SpaI w1 wx b v gB gF n S.cells (S.base.map fun n : Nat => (n : Int)) (FV.set k (f : Int))))
        case first =>
          go_region_with (go_at_call 44; refine (HFL.out _ (by repeat (first | exact HI.out.hW | (with_reducible apply pw_below_drewN) | (with_reducible apply below_drew)))).mono ?_; rintro e wq ⟨rfl, ⟨qa, rfl⟩⟩)
          all_goals
            go_wp2_with fail
            go_meet
            case rel => exact ⟨(HI.out.below (by repeat (first | exact Below.refl _ _ | (with_reducible apply pw_below_drewN) | (with_reducible apply below_drew)))).putF k _⟩
        case rest =>
          clear c2 c3 c4 c2a c3a c4a HI
          have HI := hcut
          clear hcut
          by_cases hke : kidsB l nd = []
          · obtain rfl : sB = ⟨#[]⟩ := by rw [← HSB.out, hke]; rfl
            have hst : spStep l k nd S = S := by unfold spStep; rw [if_pos hke]
            have HST := Aside0.mk hst
            clear hst hke
            go_wp2_with (first
              | (go_at_call 41; refine (HTR.out _ (by repeat (first | exact HI.out.hW | (with_reducible apply pw_below_drewN) | (with_reducible apply below_drew)))).mono ?_; rintro e wq ⟨rfl, ⟨qd, rfl⟩⟩)
              | (go_at_call 45; refine (HBY.out _ (by repeat (first | exact HI.out.hW | (with_reducible apply pw_below_drewN) | (with_reducible apply below_drew)))).mono ?_; rintro e w3 ⟨rfl, hB3⟩; have HI3 := Aside0.mk ((HI.out.below (pw_below_drewN (Below.refl _ _) qd)).below hB3); clear hB3))
            go_roundg (n - (k + 1))
            case measure => omega
            case rel => exact ⟨k + 1, S, v, _, by go_num, rfl, by omega, Nat.le_refl _, ⟨by rw [HNEXT.out, HST.out]⟩, HF2, HI3⟩
          · have hsne : ¬ sB = ⟨#[]⟩ := fun h => by
              have h2 := congrArg LL h
              rw [← HSB.out, LL_strP] at h2
              exact hke h2
            have hsne3 : sB.toList.isEmpty = false := by
              rw [ByteArray.toList_eq]
              have h2 : LL sB = kidsB l nd := by rw [← HSB.out, LL_strP]
              show (LL sB).isEmpty = false
              rw [h2, List.isEmpty_eq_false_iff]
              exact hke
            have HKE := Aside0.mk hke
            clear hke
            go_wp2_with (first
              | (go_at_call 41; refine (HTR.out _ (by repeat (first | exact HI.out.hW | (with_reducible apply pw_below_drewN) | (with_reducible apply below_drew)))).mono ?_; rintro e wq ⟨rfl, ⟨qd, rfl⟩⟩)
              | (go_at_call 45; refine (HBY.out _ (by repeat (first | exact HI.out.hW | (with_reducible apply pw_below_drewN) | (with_reducible apply below_drew)))).mono ?_; rintro e w3 ⟨rfl, hB3⟩; have HI3 := Aside0.mk ((HI.out.below (pw_below_drewN (Below.refl _ _) qd)).below hB3); clear hB3))
            have hll : LL sB = kidsB l nd := by rw [← HSB.out, LL_strP]
            have hkl : (kidsB l nd).length ≤ 16777217 := by
              have h2 := (first_gt hsrt HND.out).2
              have h3 : (kidsB l nd).length = (nd.gr l).length := List.length_map ..
              have h4 := HN.out
              omega
            obtain ⟨a, ha⟩ : ∃ a, fitA S.cells (kidsB l nd) S.first = a := ⟨_, rfl⟩
            have hale : a ≤ 4294967552 := by
              have := fitA_le (bs := kidsB l nd) HFC.out
              rw [ha] at this
              have := HCL.out
              omega
            have hFit := fun W (g : Below w3.heap.size w3 W) => sparse_fits (HI3.out.below g) sB (kidsB l nd) hll HKE.out S.first HFC.out (by have := HCL.out; omega) hkl
            rw [ha] at hFit
            have HFIT := Aside0.mk hFit
            have HA := Aside0.mk ha
            have HLL := Aside0.mk hll
            have HKL := Aside0.mk hkl
            have hI := HI3.out
            have hBr := hI.hB
            rw [← hI.lB] at hBr
            have c2 : ∀ m', (w3.drewN m').cell? ⟨b, 1, none⟩ = some (.slice (some ⟨gB, 0, none⟩) n n) := fun _ => blk_cell hI.hb 1
            have hco := Kd.R_celln 0 hBr (k : Int) (by omega) (by rw [hI.lB]; omega)
            rw [Int.toNat_natCast] at hco
            obtain ⟨u1, hu1⟩ : ∃ u, w3.cell? ⟨gB, k, none⟩ = some u := ⟨_, hco.1⟩
            have c3 : ∀ m', (w3.drewN m').cell? ⟨gB, k, none⟩ = some u1 := fun _ => hu1
            have c4 : ∀ m', (w3.drewN m').frozen? ⟨gB, k, none⟩ = false := fun _ => hco.2
            have c2a : w3.cell? ⟨b, 1, none⟩ = some (.slice (some ⟨gB, 0, none⟩) n n) := c2 0
            have c3a : w3.cell? ⟨gB, k, none⟩ = some u1 := hu1
            have c4a : w3.frozen? ⟨gB, k, none⟩ = false := hco.2
            clear hll hkl ha hFit hI hBr hco hu1 hsne hsne3
            go_cut [] (fun wx => Aside0 (SpaI w1 wx b v gB gF n S.cells ((S.base.set k a).map fun n : Nat => (n : Int)) (FV.set k (f : Int))))
            case first =>
              go_region_with (go_at_call 50; refine (HFIT.out _ (by repeat (first | exact Below.refl _ _ | (with_reducible apply pw_below_drewN) | (with_reducible apply below_drew)))).mono ?_; rintro e wq ⟨rfl, rfl⟩)
              all_goals
                go_wp2_with fail
                go_meet
                case rel =>
                  rw [List.map_set]
                  first
                    | exact ⟨(HI3.out.putB k _).below (by repeat (first | exact Below.refl _ _ | (with_reducible apply pw_below_drewN) | (with_reducible apply below_drew)))⟩
                    | exact ⟨(HI3.out.below (by repeat (first | exact Below.refl _ _ | (with_reducible apply pw_below_drewN) | (with_reducible apply below_drew)))).putB k _⟩
            case rest =>
              clear c2 c3 c4 c2a c3a c4a HI3 HI HFIT
              have HI := hcut
              clear hcut
              go_wp2_with fail
              obtain ⟨m, hm⟩ : ∃ m, sB.size = m := ⟨_, rfl⟩
              have hmk : (kidsB l nd).length = m := by rw [← hm, ← HLL.out, LL_length]
              have hm2 : m ≤ 16777217 := by rw [← hmk]; exact HKL.out
              rw [hm]
              have HM := Aside0.mk hm
              have HMK := Aside0.mk hmk
              obtain ⟨BV2, hBV2⟩ : ∃ BV2, (S.base.set k a).map (fun n : Nat => (n : Int)) = BV2 := ⟨_, rfl⟩
              have HBV2 := Aside0.mk hBV2
              have hbk : rd BV2 (k : Int) = (a : Int) := by
                have hbl := (spI_run l k (by rw [HN.out]; exact hkn)).bl
                rw [← HS.out, HN.out] at hbl
                rw [← hBV2]
                show ((S.base.set k a).map (fun n : Nat => (n : Int))).getD (k : Int).toNat 0 = _
                rw [Int.toNat_natCast, List.getD_eq_getElem?_getD, List.getElem?_map, List.getElem?_set, if_pos rfl, if_pos (by rw [hbl]; exact hlt)]
                rfl
              rw [hBV2] at HI
              have HBK := Aside0.mk hbk
              clear hm hmk hBV2 hbk
              go_loopg [9, 10, 11, 54] m (fun kx x9 x10 x11 s W => ∃ (i : Nat) (v2 : Value), s = .int .i64 i ∧ i ≤ m ∧ m - i ≤ kx ∧ Aside0 (SpaI w1 W b v2 gB gF n (rowC l k nd.path a S.cells ((kidsB l nd).take i)) BV2 (FV.set k (f : Int))))
              case atStart => exact ⟨0, v, rfl, Nat.zero_le _, Nat.le_refl _, ⟨by rw [List.take_zero]; exact HI.out⟩⟩
              case round =>
                clear HI
                obtain ⟨i, v2, rfl, him, hix, HI6⟩ := hrel
                by_cases hilt : i < m
                · have hd2 : decide ((i : Int) < (m : Int)) = true := decide_eq_true (by omega)
                  obtain ⟨c, hc⟩ : ∃ c, (kidsB l nd)[i]? = some c := ⟨_, List.getElem?_eq_getElem (by rw [HMK.out]; exact hilt)⟩
                  have hge := (kidsB_mem hsrt HND.out c).1 (List.mem_of_getElem? hc)
                  obtain ⟨ti, mt, ht1, ht2, ht3⟩ := idx_node hsrt hge
                  have htn : ti < n := by have := (List.getElem?_eq_some_iff.1 ht1).1; rw [HN.out] at this; exact this
                  have hnx := next_is hsrt hz HND.out c
                  rw [if_pos hge, ht3] at hnx
                  have hcb : c.toNat < 256 := UInt8.toNat_lt _
                  have hby : ∀ h : i < sB.size, (sB[i]'h).toNat = c.toNat := fun h => by
                    have e2 : (LL sB)[i]? = some c := by rw [HLL.out]; exact hc
                    obtain ⟨h3, h4⟩ := List.getElem?_eq_some_iff.1 e2
                    rw [← h4]
                    rfl
                  have hrow : rowC l k nd.path a S.cells ((kidsB l nd).take (i + 1)) = putC (rowC l k nd.path a S.cells ((kidsB l nd).take i)) (a + c.toNat) ⟨(k : Int) + 1, (ti : Int)⟩ := by
                    rw [List.take_add_one, hc]
                    unfold rowC
                    rw [List.foldl_append]
                    show putC _ (a + c.toNat) ⟨(k : Int) + 1, idxP l (nd.path ++ [c])⟩ = _
                    rw [ht3]
                  have hlen := (rowC_length l k nd.path a ((kidsB l nd).take i) S.cells).2.1
                  have hclb := HCL.out
                  have hput := fun W (g : Below wr.heap.size wr W) => sparse_put (a + c.toNat) ⟨(k : Int) + 1, (ti : Int)⟩ (HI6.out.below g) (by omega) (by omega)
                  rw [← hrow] at hput
                  obtain ⟨cc, hcc⟩ : ∃ cc : Nat, c.toNat = cc := ⟨_, rfl⟩
                  rw [hcc] at hnx hby hput hcb
                  have e1 : ((a + cc : Nat) : Int) = IntKind.i64.wrap ((a : Int) + IntKind.i64.wrap (cc : Int)) := by
                    rw [i64_w, i64_w, wrap_id (x := (cc : Int)) (by omega) (by omega), wrap_id (by omega) (by omega)]
                    omega
                  have e2 : (k : Int) + 1 = IntKind.i32.wrap (IntKind.i32.wrap (k : Int) + 1) := by
                    rw [i32_r (x := (k : Int)) (by omega) (by omega), i32_r (by omega) (by omega)]
                  have e3 : (ti : Int) = IntKind.i32.wrap (ti : Int) := (i32_r (by omega) (by omega)).symm
                  have hput2 : ∀ W, Below wr.heap.size wr W → Calls Try.prog 51 #[.pointer (some ⟨b, 0, none⟩), .int .i64 (IntKind.i64.wrap ((a : Int) + IntKind.i64.wrap (cc : Int))), .agg #[.int .i32 (IntKind.i32.wrap (IntKind.i32.wrap (k : Int) + 1)), .int .i32 (IntKind.i32.wrap (ti : Int))]] W fun e w' => e = .returned (.tuple #[]) ∧ ∃ v', SpaI w1 w' b v' gB gF n (rowC l k nd.path a S.cells ((kidsB l nd).take (i + 1))) BV2 (FV.set k (f : Int)) := fun W g => by
                    rw [← e1, ← e2, ← e3]
                    exact hput W g
                  have hNx := fun W (hW : Below w1.heap.size w1 W) => trie_Trie_Next.calls Pt (some (trS l)) (k : Int) (cc : Int) (ti : Int) true W (OB.below hW HTT.out) hnx
                  have HNX := Aside0.mk hNx
                  have HPUT := Aside0.mk hput2
                  have hI7 := HI6.out
                  have hBr := hI7.hB
                  rw [← hI7.lB] at hBr
                  have c2 : ∀ m', (wr.drewN m').cell? ⟨b, 1, none⟩ = some (.slice (some ⟨gB, 0, none⟩) n n) := fun _ => blk_cell hI7.hb 1
                  have hco := (Kd.R_celln 0 hBr (k : Int) (by omega) (by rw [hI7.lB]; omega)).1
                  rw [Int.toNat_natCast] at hco
                  have hco2 : wr.cell? ⟨gB, k, none⟩ = some (.int .i64 (a : Int)) := by rw [← HBK.out]; exact hco
                  have c3 : ∀ m', (wr.drewN m').cell? ⟨gB, k, none⟩ = some (.int .i64 (a : Int)) := fun _ => hco2
                  have f4 : (i : Int) < (m : Int) := by omega
                  have f5 : (ti : Int) ≤ 2147483647 := by omega
                  have f6 : (i : Int) < (sB.size : Int) := by rw [HM.out]; omega
                  have f7 : (k : Int) < (n : Int) := by omega
                  have f8 : (cc : Int) ≤ 255 := by omega
                  have f9 : (k : Int) + 1 ≤ 2147483647 := by omega
                  clear hc hge ht1 ht2 ht3 hnx hrow hlen hclb hput hput2 e1 e2 e3 hcc hNx hI7 hBr hco hco2
                  go_wp2_with fail
                  go_cut [10] (fun v wx => v = .int .i64 (ti : Int) ∧ ∃ q, wx = wr.drewN q)
                  case first =>
                    go_region_with (first
                      | (go_at_call 41; refine (HTR.out _ (by repeat (first | exact HI6.out.hW | (with_reducible apply pw_below_drewN) | (with_reducible apply below_drew)))).mono ?_; rintro e wq ⟨rfl, ⟨qd, rfl⟩⟩)
                      | (go_at_call 46; refine (HNX.out _ (by repeat (first | exact HI6.out.hW | (with_reducible apply pw_below_drewN) | (with_reducible apply below_drew)))).mono ?_; rintro e wq ⟨rfl, ⟨qe, rfl⟩⟩))
                    all_goals
                      go_wp2_with fail
                      go_meet
                      case rel => exact ⟨rfl, _, rfl⟩
                  case rest =>
                    obtain ⟨rfl, q9, rfl⟩ := hcut
                    go_wp2_with fail
                    go_region_with (go_at_call 51; refine (HPUT.out _ (by repeat (first | exact Below.refl _ _ | (with_reducible apply pw_below_drewN) | (with_reducible apply below_drew)))).mono ?_; rintro e w6 ⟨rfl, v6, hI6⟩; have HI8 := Aside0.mk hI6; clear hI6)
                    all_goals
                      go_wp2_with fail
                      go_roundg (m - (i + 1))
                      case measure => omega
                      case rel => exact ⟨i + 1, v6, by go_num, by omega, Nat.le_refl _, ⟨HI8.out.below (by repeat (first | exact Below.refl _ _ | (with_reducible apply pw_below_drewN) | (with_reducible apply below_drew)))⟩⟩
                · obtain rfl : i = m := by omega
                  have hd2 : decide ((i : Int) < (i : Int)) = false := decide_eq_false (by omega)
                  have hI7 := HI6.out
                  rw [List.take_of_length_le (by rw [HMK.out]; exact Nat.le_refl _)] at hI7
                  obtain ⟨CL2, hCL2⟩ : ∃ CL2, rowC l k nd.path a S.cells (kidsB l nd) = CL2 := ⟨_, rfl⟩
                  have hlen := rowC_length l k nd.path a (kidsB l nd) S.cells
                  rw [hCL2] at hI7 hlen
                  obtain ⟨cl2, hcl2⟩ : ∃ cl2, CL2.length = cl2 := ⟨_, rfl⟩
                  have hclb := HCL.out
                  have hfcb := HFC.out
                  have hcl3 : cl2 ≤ 8589934592 := by rw [← hcl2]; have := hlen.2.1; omega
                  have hf2 : S.first ≤ cl2 := by rw [← hcl2]; have := hlen.1; omega
                  obtain ⟨A2, cp2, hv2⟩ := Kd.R_slice hI7.hC
                  subst hv2
                  have c2 : wr.cell? ⟨b, 0, none⟩ = some (.slice A2 CL2.length cp2) := blk_cell hI7.hb 0
                  rw [hcl2] at c2
                  obtain ⟨R, hR⟩ : ∃ R, firstF CL2 (CL2.length - S.first) S.first = R := ⟨_, rfl⟩
                  have hres : spRun l (k + 1) = ⟨CL2, S.base.set k a, R⟩ := by
                    rw [HNEXT.out]
                    unfold spStep
                    rw [if_neg HKE.out, HA.out, hCL2, hR]
                  rw [hcl2] at hR
                  have HRES := Aside0.mk hres
                  have HRR := Aside0.mk hR
                  have HI8 := Aside0.mk hI7
                  have HCL2 := Aside0.mk hcl2
                  clear hI7 hCL2 hlen hcl2 hclb hfcb hres hR HI6
                  go_wp2_with fail
                  go_loopg [6] (cl2 - S.first) (fun kx x W => ∃ (g fu : Nat), x = .int .i64 g ∧ fu ≤ kx ∧ g + fu = cl2 ∧ Aside0 (firstF CL2 fu g = R) ∧ W = wr)
                  case atStart => exact ⟨S.first, cl2 - S.first, rfl, Nat.le_refl _, by omega, HRR, rfl⟩
                  case round =>
                    clear HRR
                    obtain ⟨g, fu, rfl, hfu, hgf, HG, rfl⟩ := hrel
                    by_cases hg : g < cl2
                    · have b1 : decide ((g : Int) < (cl2 : Int)) = true := decide_eq_true (by omega)
                      have b1' : (g : Int) < (cl2 : Int) := by omega
                      obtain ⟨fu, rfl⟩ : ∃ f', fu = f' + 1 := ⟨fu - 1, by omega⟩
                      obtain ⟨ad, rfl, hx⟩ := flat_C default (Kd.R_reads' HI8.out.hC).2.2 g (by rw [HCL2.out]; exact hg)
                      have g0 : wr.cell? (ad.add (g * 2)) = some (.int .i32 (ownC CL2 g)) := hx 0 _ rfl
                      have hG := HG.out
                      simp only [firstF] at hG
                      clear hx
                      by_cases ho : 0 < ownC CL2 g
                      · have b2 : decide (0 < ownC CL2 g) = true := decide_eq_true ho
                        rw [if_pos ⟨by rw [HCL2.out]; exact hg, ho⟩] at hG
                        have HG2 := Aside0.mk hG
                        generalize ownC CL2 g = ow at *
                        clear hG
                        go_wp2
                        go_roundg fu
                        case measure => omega
                        case rel => exact ⟨g + 1, fu, by go_num, Nat.le_refl _, by omega, HG2, rfl⟩
                      · have b2 : decide (0 < ownC CL2 g) = false := decide_eq_false ho
                        rw [if_neg (fun h => ho h.2)] at hG
                        generalize ownC CL2 g = ow at *
                        subst hG
                        go_wp2
                        go_roundg (n - (k + 1))
                        case measure => omega
                        case rel => exact ⟨k + 1, ⟨CL2, S.base.set k a, g⟩, _, FV.set k (f : Int), by go_num, rfl, by omega, Nat.le_refl _, ⟨HRES.out.symm⟩, HF2, ⟨by rw [HBV2.out]; exact HI8.out⟩⟩
                    · have b1 : decide ((g : Int) < (cl2 : Int)) = false := decide_eq_false (by omega)
                      obtain rfl : fu = 0 := by omega
                      have hG := HG.out
                      simp only [firstF] at hG
                      subst hG
                      go_wp2
                      go_roundg (n - (k + 1))
                      case measure => omega
                      case rel => exact ⟨k + 1, ⟨CL2, S.base.set k a, g⟩, _, FV.set k (f : Int), by go_num, rfl, by omega, Nat.le_refl _, ⟨HRES.out.symm⟩, HF2, ⟨by rw [HBV2.out]; exact HI8.out⟩⟩
      · obtain rfl : k = n := by omega
        have hd : decide ((k : Int) < (k : Int)) = false := decide_eq_false (by omega)
        have hI := HI.out
        have hFV : FV = failL l := by
          apply List.ext_getElem
          · rw [hI.lF, failL_length]; exact HN.out.symm
          · intro j h1 h2
            have hj : j < k := by rw [← hI.lF]; exact h1
            have e1 := HF.out j hj
            have e2 : FV.getD (j : Int).toNat 0 = (failL l).getD (j : Int).toNat 0 := e1
            rw [Int.toNat_natCast, List.getD_eq_getElem?_getD, List.getD_eq_getElem?_getD, List.getElem?_eq_getElem h1, List.getElem?_eq_getElem h2] at e2
            exact e2
        obtain ⟨A2, cp2, hv2⟩ := Kd.R_slice hI.hC
        subst hv2
        have HII := Aside0.mk hI
        clear hI
        go_wp2
        go_ret
        have hI := HII.out
        refine ⟨_, rfl, ?_, HB2.out.trans (hI.hW.mono HB2.out.size)⟩
        have hsp : sparD l = ⟨S.cells, S.base.map fun n : Nat => (n : Int), FV⟩ := by
          unfold sparD
          rw [HN.out, ← HS.out, hFV]
        rw [hsp]
        show K74.R _ _ _
        have hB := hI.hB
        have hF := hI.hF
        rw [← hI.lB] at hB
        rw [← hI.lF] at hF
        refine ⟨b, A2, cp2, some ⟨gB, 0, none⟩, k, some ⟨gF, 0, none⟩, k, rfl, ?_, (Kd.R_reads' hI.hC).2.1, (Kd.R_reads' hI.hC).2.2, (Kd.R_reads' hB).2.2, (Kd.R_reads' hF).2.2⟩
        show wr.heap[b]? = some (.cells #[.slice A2 S.cells.length cp2, .slice (some ⟨gB, 0, none⟩) (S.base.map fun n : Nat => (n : Int)).length k, .slice (some ⟨gF, 0, none⟩) FV.length k] _ (0, 0))
        rw [hI.lB, hI.lF]
        exact hI.hb
end Go.Proofs.Ytbkcjeopcjghgaa.P

/- A set of few texts has a trie; no condition beyond the sizes that stand in each statement. -/
namespace Go.Proofs.Ytbkcjeopcjghgaa.Base
open Go Go.RowKit Go.Proofs.YtbkcjeopcjghgaaW.PrintWords Go.Proofs.YtbkcjeopcjghgaaW.PrintMore Go.Proofs.Ytbkcjeopcjghgaa.P
set_option linter.unusedVariables false

theorem trie_ok {l w : List ByteArray} {x : Option SetD} {e : Int} (h : SetOk l x w e) (hz : sizes w ≤ 16777216) : trie_New.f x = some (some (trS w)) ∧ okT w := by
  have ok : okT w := ⟨⟨h.up, h.nodup⟩, h.few, fun s hs => ⟨h.pos s hs, h.size s hs⟩, hz⟩
  refine ⟨?_, ok⟩
  unfold trie_New.f
  rw [h.hL, if_pos ok]
theorem sizes_le (m : Nat) : ∀ l : List ByteArray, (∀ s ∈ l, s.size ≤ m) → sizes l ≤ l.length * m
  | [], _ => by simp [sizes]
  | s :: l, h => by
    have h1 := h s List.mem_cons_self
    have h2 := sizes_le m l (fun x hx => h x (List.mem_cons_of_mem _ hx))
    simp only [sizes, List.length_cons, Nat.succ_mul]
    omega
end Go.Proofs.Ytbkcjeopcjghgaa.Base

/- Proved here: what Go functions of this seat compute, or a law of it; no condition beyond the statement's own. Written for this claim by a program of this session (wip/myprint.py) over the kit's print.py. -/
namespace Go.Proofs.Ytbkcjeopcjghgaa.P
open Go.RowKit Go.Proofs.YtbkcjeopcjghgaaW.PrintWords Go.Proofs.YtbkcjeopcjghgaaW.PrintLast Go.Proofs.YtbkcjeopcjghgaaW.PrintMore
attribute [local go_sem] max2_int min2_int max_two min_two max_three min_three max_four min_four   -- for this text's walks alone
set_option linter.unusedVariables false
set_option linter.unusedSimpArgs false

/-! ### juratlaw20_awake: function 16 -/
def juratlaw20_awake.f  : Option (Bool) := (pats_New.f (([(⟨#[97, 98]⟩ : ByteArray), (⟨#[98]⟩ : ByteArray)] : List ByteArray))).bind fun bt228 => ((sparse_New.f bt228.1).bind fun t231 => ((sparse_Table_Next.f t231 1 98).bind fun bt232 => (if bt228.2 = 0 then ((sparse_Table_Len.f t231).bind fun t234 => (if t234 = 4 then (if bt232.1 = 3 then (if bt232.2 = true then ((sparse_Table_Step.f t231 2 97).bind fun t235 => (some (t235 == 1))) else (some false)) else (some false)) else (some false))) else (some false))))
set_option maxHeartbeats 8000000 in
set_option maxRecDepth 100000 in
theorem juratlaw20_awake.calls  (r : Bool) (w : World) (h : juratlaw20_awake.f  = some r) :
    Calls Try.prog 16 #[] w fun e w' => e = .returned (.bool r) ∧ Below w.heap.size w w' := by
  have HB := Aside0.mk (Below.refl w.heap.size w)
  have H : ((pats_New.f (([(⟨#[97, 98]⟩ : ByteArray), (⟨#[98]⟩ : ByteArray)] : List ByteArray))).bind fun bt228 => ((sparse_New.f bt228.1).bind fun t231 => ((sparse_Table_Next.f t231 1 98).bind fun bt232 => (if bt228.2 = 0 then ((sparse_Table_Len.f t231).bind fun t234 => (if t234 = 4 then (if bt232.1 = 3 then (if bt232.2 = true then ((sparse_Table_Step.f t231 2 97).bind fun t235 => (some (t235 == 1))) else (some false)) else (some false)) else (some false))) else (some false))))) = some r := h
  clear h
  obtain ⟨y225, hy225⟩ : ∃ y_ : List ByteArray, y_ = (([(⟨#[97, 98]⟩ : ByteArray), (⟨#[98]⟩ : ByteArray)] : List ByteArray)) := ⟨_, rfl⟩
  replace H : ((pats_New.f y225).bind fun bt228 => ((sparse_New.f bt228.1).bind fun t231 => ((sparse_Table_Next.f t231 1 98).bind fun bt232 => (if bt228.2 = 0 then ((sparse_Table_Len.f t231).bind fun t234 => (if t234 = 4 then (if bt232.1 = 3 then (if bt232.2 = true then ((sparse_Table_Step.f t231 2 97).bind fun t235 => (some (t235 == 1))) else (some false)) else (some false)) else (some false))) else (some false))))) = some r := by first | (rw [hy225]; with_reducible exact H) | (have H2_ := (Option.bind_some _ _).symm.trans H; rw [hy225]; with_reducible exact H2_) | (have H2_ := (Option.bind_some _ _).symm.trans H; with_reducible exact H2_) | with_reducible exact H | (rw [hy225]; exact H) | exact H
  have Ny225 := Aside0.mk hy225
  clear hy225
  replace H := Option.bind_eq_some_iff.mp H
  obtain ⟨⟨t228, t229⟩, A10, H⟩ := H
  replace H : ((sparse_New.f t228).bind fun t231 => ((sparse_Table_Next.f t231 1 98).bind fun bt232 => (if t229 = 0 then ((sparse_Table_Len.f t231).bind fun t234 => (if t234 = 4 then (if bt232.1 = 3 then (if bt232.2 = true then ((sparse_Table_Step.f t231 2 97).bind fun t235 => (some (t235 == 1))) else (some false)) else (some false)) else (some false))) else (some false)))) = some r := H
  have A1 := Aside0.mk A10
  clear A10
  replace H := Option.bind_eq_some_iff.mp H
  obtain ⟨t231, A20, H⟩ := H
  replace H : ((sparse_Table_Next.f t231 1 98).bind fun bt232 => (if t229 = 0 then ((sparse_Table_Len.f t231).bind fun t234 => (if t234 = 4 then (if bt232.1 = 3 then (if bt232.2 = true then ((sparse_Table_Step.f t231 2 97).bind fun t235 => (some (t235 == 1))) else (some false)) else (some false)) else (some false))) else (some false))) = some r := H
  have A2 := Aside0.mk A20
  clear A20
  replace H := Option.bind_eq_some_iff.mp H
  obtain ⟨⟨t232, t233⟩, A30, H⟩ := H
  replace H : (if t229 = 0 then ((sparse_Table_Len.f t231).bind fun t234 => (if t234 = 4 then (if t232 = 3 then (if t233 = true then ((sparse_Table_Step.f t231 2 97).bind fun t235 => (some (t235 == 1))) else (some false)) else (some false)) else (some false))) else (some false)) = some r := H
  have A3 := Aside0.mk A30
  clear A30
  by_cases c4 : t229 = 0
  · rw [if_pos c4] at H
    have c4b0 : (t229 == 0) = true := beq_iff_eq.mpr c4
    have c4b1 : (t229 != 0) = false := bne_eq_false_iff_eq.mpr c4
    clear c4
    replace H := Option.bind_eq_some_iff.mp H
    obtain ⟨t234, A50, H⟩ := H
    replace H : (if t234 = 4 then (if t232 = 3 then (if t233 = true then ((sparse_Table_Step.f t231 2 97).bind fun t235 => (some (t235 == 1))) else (some false)) else (some false)) else (some false)) = some r := H
    have A5 := Aside0.mk A50
    clear A50
    by_cases c6 : t234 = 4
    · rw [if_pos c6] at H
      have c6b0 : (t234 == 4) = true := beq_iff_eq.mpr c6
      have c6b1 : (t234 != 4) = false := bne_eq_false_iff_eq.mpr c6
      clear c6
      by_cases c7 : t232 = 3
      · rw [if_pos c7] at H
        have c7b0 : (t232 == 3) = true := beq_iff_eq.mpr c7
        have c7b1 : (t232 != 3) = false := bne_eq_false_iff_eq.mpr c7
        clear c7
        by_cases c8 : t233 = true
        · subst c8
          have H1 : ((sparse_Table_Step.f t231 2 97).bind fun t235 => (some (t235 == 1))) = some r := by rw [if_pos rfl] at H; exact H
          clear H
          have H := H1
          clear H1
          replace H := Option.bind_eq_some_iff.mp H
          obtain ⟨t235, A90, H⟩ := H
          replace H : (some (t235 == 1)) = some r := H
          have A9 := Aside0.mk A90
          clear A90
          obtain rfl := Option.some.inj H
          go_enter Try.func16, Try.ntmps16
          go_wp2_with (first | ((with_reducible refine gate_dst (N := 7) rfl ?_); refine Kd.R_lit Kd.string _ 9 ?hg (N := 7) ?hd (xs := ([(⟨#[97, 98]⟩ : ByteArray), (⟨#[98]⟩ : ByteArray)] : List ByteArray)) (inner := [.string (⟨#[97, 98]⟩ : ByteArray), .string (⟨#[98]⟩ : ByteArray)]) (ok := fun _ => True) (okp := fun _ => True) ?hr ?hp (fun _ hk => hk) trivial (Below.refl _ _) (Nat.le_refl _) (by simp) ?_; (case hd => rfl); (case hg => rfl); (case hr => first | (go_simp; done) | (go_simp; rfl)); (case hp => exact (Reps.one (show Kd.M Kd.string _ _ _ (⟨#[97, 98]⟩ : ByteArray) [.string (⟨#[97, 98]⟩ : ByteArray)] from rfl) (Reps.one (show Kd.M Kd.string _ _ _ (⟨#[98]⟩ : ByteArray) [.string (⟨#[98]⟩ : ByteArray)] from rfl) (Reps.none _ _)))); intro v226 w10 ho11 hb hg_ hnew_; clear hg_ hnew_; (first | rw [← Ny225.out] at ho11 | (simp only [Int.reduceToNat] at ho11; rw [← Ny225.out] at ho11)); have n0_ := Aside0.mk (Kd.R_lower ho11 (below_size (by repeat (first | (with_reducible first | exact HB.out | apply below_alloc | apply pw_below_drewN | apply below_drew1) | exact HB.out)))); have n1_ := Aside0.mk (below_step (by repeat (first | (with_reducible first | exact HB.out | apply below_alloc | apply pw_below_drewN | apply below_drew1) | exact HB.out)) hb); clear HB; have HO227 := n0_; have HB := n1_; clear n0_ n1_; clear hb ho11; obtain ⟨Ao12, co12, eo12⟩ := Kd.R_slice HO227.out; subst eo12) | ((with_reducible refine gate_callee (f := 9) rfl ?_); refine goesL_ (some 8) rfl rfl Try.func9 (by kernel_rfl) rfl #[.slice Ao12 y225.length co12] rfl (by (try simp only [List.map_toArray, List.map_cons, List.map_nil]); first | done | rfl | (simp only [List.length_drop, List.length_take]; rfl)) ?_; (with_reducible refine (pats_New.calls _ _ y225 t228 t229 _ ?side1 ?side2 A1.out).mono ?_); (case side1 => repeat (first | exact (Kd.R_reads' HO227.out).2.2 | (with_reducible refine Kd.C_alloc ?_ _) | (with_reducible refine Kd.C_drewN ?_ _) | (with_reducible refine Kd.C_drew ?_))); (case side2 => exact (Kd.R_reads' HO227.out).2.1); rintro e w13 ⟨Pt228, rfl, hob0, hb⟩; refine ⟨_, rfl, ?_⟩; have hbw_ := below_step (by repeat (first | (with_reducible first | exact HB.out | apply below_alloc | apply pw_below_drewN | apply below_drew1) | exact HB.out)) hb; obtain ⟨Ab230, cb230, eb230_, lb230_, gb230_⟩ := Kd.R_reads (Kd.R_below (by (with_reducible repeat (first | apply Kd.R_alloc | apply Kd.R_drewN | apply Kd.R_drew)); exact HO227.out) hb); (first | subst eb230_ | (injection eb230_ with f1_ f2_ f3_; have f4_ := f1_.symm; have f5_ := f3_.symm; clear f1_ f2_ f3_; subst f4_; subst f5_)); have HRb230 := Aside0.mk gb230_; have HCb230 := Aside0.mk lb230_; clear gb230_ lb230_; (try clear HO227); (first | (have n_ := Aside0.mk (HB00.out.trans (hbw_.mono HB00.out.size)); clear HB00; have HB00 := n_; clear n_) | have HB00 := Aside0.mk hbw_); clear HB hb hbw_; have HO_t228 := Aside0.mk hob0; clear hob0; obtain ⟨w, rfl⟩ : ∃ w_ : World, w_ = w13 := ⟨_, rfl⟩; have HB := Aside0.mk (Below.refl w.heap.size w)) | ((with_reducible refine gate_callee (f := 17) rfl ?_); refine goesL_ (some 12) rfl rfl Try.func17 (by kernel_rfl) rfl #[.pointer Pt228] rfl (by (try simp only [List.map_toArray, List.map_cons, List.map_nil]); first | done | rfl | (simp only [List.length_drop, List.length_take]; rfl)) ?_; (with_reducible refine (sparse_New.calls _ t228 t231 _ ?side1 A2.out).mono ?_); (case side1 => first | exact HO_t228.out | exact OB.drewN HO_t228.out _ | exact OB.below (by repeat (first | (with_reducible first | exact HB.out | apply below_alloc | apply pw_below_drewN | apply below_drew1) | exact HB.out)) HO_t228.out); rintro e w14 ⟨Pt231, rfl, hob0, hb⟩; refine ⟨_, rfl, ?_⟩; have hbw_ := below_step (by repeat (first | (with_reducible first | exact HB.out | apply below_alloc | apply pw_below_drewN | apply below_drew1) | exact HB.out)) hb; (try (have n_ := Aside0.mk (Kd.C_below HRb230.out hbw_); clear HRb230; have HRb230 := n_; clear n_)); (try (have n_ := Aside0.mk (OB.below hbw_ HO_t228.out); clear HO_t228; have HO_t228 := n_; clear n_)); (first | (have n_ := Aside0.mk (HB00.out.trans (hbw_.mono HB00.out.size)); clear HB00; have HB00 := n_; clear n_) | have HB00 := Aside0.mk hbw_); clear HB hb hbw_; have HO_t231 := Aside0.mk hob0; clear hob0; obtain ⟨w, rfl⟩ : ∃ w_ : World, w_ = w14 := ⟨_, rfl⟩; have HB := Aside0.mk (Below.refl w.heap.size w)) | ((with_reducible refine gate_callee (f := 22) rfl ?_); refine goesL_ (some 15) rfl rfl Try.func22 (by kernel_rfl) rfl #[.pointer Pt231, .int .i64 1, .int .u8 98] rfl (by (try simp only [List.map_toArray, List.map_cons, List.map_nil]); first | done | rfl | (simp only [List.length_drop, List.length_take]; rfl)) ?_; (with_reducible refine (sparse_Table_Next.calls _ t231 1 98 t232 true _ ?side1 A3.out).mono ?_); (case side1 => first | exact HO_t231.out | exact OB.drewN HO_t231.out _ | exact OB.below (by repeat (first | (with_reducible first | exact HB.out | apply below_alloc | apply pw_below_drewN | apply below_drew1) | exact HB.out)) HO_t231.out); rintro e w' ⟨rfl, ⟨nd, rfl⟩⟩; refine ⟨_, rfl, ?_⟩) | (go_at_call 19; (with_reducible refine (sparse_Table_Len.calls _ t231 t234 _ ?side1 A5.out).mono ?_); (case side1 => first | exact HO_t231.out | exact OB.drewN HO_t231.out _ | exact OB.below (by repeat (first | (with_reducible first | exact HB.out | apply below_alloc | apply pw_below_drewN | apply below_drew1) | exact HB.out)) HO_t231.out); rintro e w' ⟨rfl, ⟨nd, rfl⟩⟩) | (go_at_call 18; (with_reducible refine (sparse_Table_Step.calls _ t231 2 97 t235 _ ?side1 A9.out).mono ?_); (case side1 => first | exact HO_t231.out | exact OB.drewN HO_t231.out _ | exact OB.below (by repeat (first | (with_reducible first | exact HB.out | apply below_alloc | apply pw_below_drewN | apply below_drew1) | exact HB.out)) HO_t231.out); rintro e w' ⟨rfl, ⟨nd, rfl⟩⟩))
          go_ret
          exact ⟨by first | rfl | (simp [errW_none, errW_some] <;> rfl) | (simp [*, errW_none, errW_some] <;> rfl), by first | (refine HB00.out.trans (Below.mono ?_ HB00.out.size); (repeat (first | (with_reducible first | exact HB.out | apply below_alloc | apply pw_below_drewN | apply below_drew1) | exact HB.out))) | (repeat (first | (with_reducible first | exact HB.out | apply below_alloc | apply pw_below_drewN | apply below_drew1) | exact HB.out))⟩
        · replace c8 := Bool.eq_false_iff.mpr c8
          subst c8
          have H1 : (some false) = some r := by rw [if_neg (show ¬ (false = true) by decide)] at H; exact H
          clear H
          have H := H1
          clear H1
          obtain rfl := Option.some.inj H
          go_enter Try.func16, Try.ntmps16
          go_wp2_with (first | ((with_reducible refine gate_dst (N := 7) rfl ?_); refine Kd.R_lit Kd.string _ 9 ?hg (N := 7) ?hd (xs := ([(⟨#[97, 98]⟩ : ByteArray), (⟨#[98]⟩ : ByteArray)] : List ByteArray)) (inner := [.string (⟨#[97, 98]⟩ : ByteArray), .string (⟨#[98]⟩ : ByteArray)]) (ok := fun _ => True) (okp := fun _ => True) ?hr ?hp (fun _ hk => hk) trivial (Below.refl _ _) (Nat.le_refl _) (by simp) ?_; (case hd => rfl); (case hg => rfl); (case hr => first | (go_simp; done) | (go_simp; rfl)); (case hp => exact (Reps.one (show Kd.M Kd.string _ _ _ (⟨#[97, 98]⟩ : ByteArray) [.string (⟨#[97, 98]⟩ : ByteArray)] from rfl) (Reps.one (show Kd.M Kd.string _ _ _ (⟨#[98]⟩ : ByteArray) [.string (⟨#[98]⟩ : ByteArray)] from rfl) (Reps.none _ _)))); intro v226 w15 ho16 hb hg_ hnew_; clear hg_ hnew_; (first | rw [← Ny225.out] at ho16 | (simp only [Int.reduceToNat] at ho16; rw [← Ny225.out] at ho16)); have n0_ := Aside0.mk (Kd.R_lower ho16 (below_size (by repeat (first | (with_reducible first | exact HB.out | apply below_alloc | apply pw_below_drewN | apply below_drew1) | exact HB.out)))); have n1_ := Aside0.mk (below_step (by repeat (first | (with_reducible first | exact HB.out | apply below_alloc | apply pw_below_drewN | apply below_drew1) | exact HB.out)) hb); clear HB; have HO227 := n0_; have HB := n1_; clear n0_ n1_; clear hb ho16; obtain ⟨Ao17, co17, eo17⟩ := Kd.R_slice HO227.out; subst eo17) | ((with_reducible refine gate_callee (f := 9) rfl ?_); refine goesL_ (some 8) rfl rfl Try.func9 (by kernel_rfl) rfl #[.slice Ao17 y225.length co17] rfl (by (try simp only [List.map_toArray, List.map_cons, List.map_nil]); first | done | rfl | (simp only [List.length_drop, List.length_take]; rfl)) ?_; (with_reducible refine (pats_New.calls _ _ y225 t228 t229 _ ?side1 ?side2 A1.out).mono ?_); (case side1 => repeat (first | exact (Kd.R_reads' HO227.out).2.2 | (with_reducible refine Kd.C_alloc ?_ _) | (with_reducible refine Kd.C_drewN ?_ _) | (with_reducible refine Kd.C_drew ?_))); (case side2 => exact (Kd.R_reads' HO227.out).2.1); rintro e w18 ⟨Pt228, rfl, hob0, hb⟩; refine ⟨_, rfl, ?_⟩; have hbw_ := below_step (by repeat (first | (with_reducible first | exact HB.out | apply below_alloc | apply pw_below_drewN | apply below_drew1) | exact HB.out)) hb; obtain ⟨Ab230, cb230, eb230_, lb230_, gb230_⟩ := Kd.R_reads (Kd.R_below (by (with_reducible repeat (first | apply Kd.R_alloc | apply Kd.R_drewN | apply Kd.R_drew)); exact HO227.out) hb); (first | subst eb230_ | (injection eb230_ with f1_ f2_ f3_; have f4_ := f1_.symm; have f5_ := f3_.symm; clear f1_ f2_ f3_; subst f4_; subst f5_)); have HRb230 := Aside0.mk gb230_; have HCb230 := Aside0.mk lb230_; clear gb230_ lb230_; (try clear HO227); (try (have n_ := Aside0.mk (Kd.C_below HRb230.out hbw_); clear HRb230; have HRb230 := n_; clear n_)); (try (have n_ := Aside0.mk (OB.below hbw_ HO_t228.out); clear HO_t228; have HO_t228 := n_; clear n_)); (try (have n_ := Aside0.mk (OB.below hbw_ HO_t231.out); clear HO_t231; have HO_t231 := n_; clear n_)); (first | (have n_ := Aside0.mk (HB00.out.trans (hbw_.mono HB00.out.size)); clear HB00; have HB00 := n_; clear n_) | have HB00 := Aside0.mk hbw_); clear HB hb hbw_; have HO_t228 := Aside0.mk hob0; clear hob0; obtain ⟨w, rfl⟩ : ∃ w_ : World, w_ = w18 := ⟨_, rfl⟩; have HB := Aside0.mk (Below.refl w.heap.size w)) | ((with_reducible refine gate_callee (f := 17) rfl ?_); refine goesL_ (some 12) rfl rfl Try.func17 (by kernel_rfl) rfl #[.pointer Pt228] rfl (by (try simp only [List.map_toArray, List.map_cons, List.map_nil]); first | done | rfl | (simp only [List.length_drop, List.length_take]; rfl)) ?_; (with_reducible refine (sparse_New.calls _ t228 t231 _ ?side1 A2.out).mono ?_); (case side1 => first | exact HO_t228.out | exact OB.drewN HO_t228.out _ | exact OB.below (by repeat (first | (with_reducible first | exact HB.out | apply below_alloc | apply pw_below_drewN | apply below_drew1) | exact HB.out)) HO_t228.out); rintro e w19 ⟨Pt231, rfl, hob0, hb⟩; refine ⟨_, rfl, ?_⟩; have hbw_ := below_step (by repeat (first | (with_reducible first | exact HB.out | apply below_alloc | apply pw_below_drewN | apply below_drew1) | exact HB.out)) hb; (try (have n_ := Aside0.mk (Kd.C_below HRb230.out hbw_); clear HRb230; have HRb230 := n_; clear n_)); (try (have n_ := Aside0.mk (OB.below hbw_ HO_t228.out); clear HO_t228; have HO_t228 := n_; clear n_)); (try (have n_ := Aside0.mk (OB.below hbw_ HO_t231.out); clear HO_t231; have HO_t231 := n_; clear n_)); (first | (have n_ := Aside0.mk (HB00.out.trans (hbw_.mono HB00.out.size)); clear HB00; have HB00 := n_; clear n_) | have HB00 := Aside0.mk hbw_); clear HB hb hbw_; have HO_t231 := Aside0.mk hob0; clear hob0; obtain ⟨w, rfl⟩ : ∃ w_ : World, w_ = w19 := ⟨_, rfl⟩; have HB := Aside0.mk (Below.refl w.heap.size w)) | ((with_reducible refine gate_callee (f := 22) rfl ?_); refine goesL_ (some 15) rfl rfl Try.func22 (by kernel_rfl) rfl #[.pointer Pt231, .int .i64 1, .int .u8 98] rfl (by (try simp only [List.map_toArray, List.map_cons, List.map_nil]); first | done | rfl | (simp only [List.length_drop, List.length_take]; rfl)) ?_; (with_reducible refine (sparse_Table_Next.calls _ t231 1 98 t232 false _ ?side1 A3.out).mono ?_); (case side1 => first | exact HO_t231.out | exact OB.drewN HO_t231.out _ | exact OB.below (by repeat (first | (with_reducible first | exact HB.out | apply below_alloc | apply pw_below_drewN | apply below_drew1) | exact HB.out)) HO_t231.out); rintro e w' ⟨rfl, ⟨nd, rfl⟩⟩; refine ⟨_, rfl, ?_⟩) | (go_at_call 19; (with_reducible refine (sparse_Table_Len.calls _ t231 t234 _ ?side1 A5.out).mono ?_); (case side1 => first | exact HO_t231.out | exact OB.drewN HO_t231.out _ | exact OB.below (by repeat (first | (with_reducible first | exact HB.out | apply below_alloc | apply pw_below_drewN | apply below_drew1) | exact HB.out)) HO_t231.out); rintro e w' ⟨rfl, ⟨nd, rfl⟩⟩))
          go_ret
          exact ⟨by first | rfl | (simp [errW_none, errW_some] <;> rfl) | (simp [*, errW_none, errW_some] <;> rfl), by first | (refine HB00.out.trans (Below.mono ?_ HB00.out.size); (repeat (first | (with_reducible first | exact HB.out | apply below_alloc | apply pw_below_drewN | apply below_drew1) | exact HB.out))) | (repeat (first | (with_reducible first | exact HB.out | apply below_alloc | apply pw_below_drewN | apply below_drew1) | exact HB.out))⟩
      · rw [if_neg c7] at H
        have c7b0 : (t232 == 3) = false := beq_eq_false_iff_ne.mpr c7
        have c7b1 : (t232 != 3) = true := bne_iff_ne.mpr c7
        obtain rfl := Option.some.inj H
        go_enter Try.func16, Try.ntmps16
        go_wp2_with (first | ((with_reducible refine gate_dst (N := 7) rfl ?_); refine Kd.R_lit Kd.string _ 9 ?hg (N := 7) ?hd (xs := ([(⟨#[97, 98]⟩ : ByteArray), (⟨#[98]⟩ : ByteArray)] : List ByteArray)) (inner := [.string (⟨#[97, 98]⟩ : ByteArray), .string (⟨#[98]⟩ : ByteArray)]) (ok := fun _ => True) (okp := fun _ => True) ?hr ?hp (fun _ hk => hk) trivial (Below.refl _ _) (Nat.le_refl _) (by simp) ?_; (case hd => rfl); (case hg => rfl); (case hr => first | (go_simp; done) | (go_simp; rfl)); (case hp => exact (Reps.one (show Kd.M Kd.string _ _ _ (⟨#[97, 98]⟩ : ByteArray) [.string (⟨#[97, 98]⟩ : ByteArray)] from rfl) (Reps.one (show Kd.M Kd.string _ _ _ (⟨#[98]⟩ : ByteArray) [.string (⟨#[98]⟩ : ByteArray)] from rfl) (Reps.none _ _)))); intro v226 w20 ho21 hb hg_ hnew_; clear hg_ hnew_; (first | rw [← Ny225.out] at ho21 | (simp only [Int.reduceToNat] at ho21; rw [← Ny225.out] at ho21)); have n0_ := Aside0.mk (Kd.R_lower ho21 (below_size (by repeat (first | (with_reducible first | exact HB.out | apply below_alloc | apply pw_below_drewN | apply below_drew1) | exact HB.out)))); have n1_ := Aside0.mk (below_step (by repeat (first | (with_reducible first | exact HB.out | apply below_alloc | apply pw_below_drewN | apply below_drew1) | exact HB.out)) hb); clear HB; have HO227 := n0_; have HB := n1_; clear n0_ n1_; clear hb ho21; obtain ⟨Ao22, co22, eo22⟩ := Kd.R_slice HO227.out; subst eo22) | ((with_reducible refine gate_callee (f := 9) rfl ?_); refine goesL_ (some 8) rfl rfl Try.func9 (by kernel_rfl) rfl #[.slice Ao22 y225.length co22] rfl (by (try simp only [List.map_toArray, List.map_cons, List.map_nil]); first | done | rfl | (simp only [List.length_drop, List.length_take]; rfl)) ?_; (with_reducible refine (pats_New.calls _ _ y225 t228 t229 _ ?side1 ?side2 A1.out).mono ?_); (case side1 => repeat (first | exact (Kd.R_reads' HO227.out).2.2 | (with_reducible refine Kd.C_alloc ?_ _) | (with_reducible refine Kd.C_drewN ?_ _) | (with_reducible refine Kd.C_drew ?_))); (case side2 => exact (Kd.R_reads' HO227.out).2.1); rintro e w23 ⟨Pt228, rfl, hob0, hb⟩; refine ⟨_, rfl, ?_⟩; have hbw_ := below_step (by repeat (first | (with_reducible first | exact HB.out | apply below_alloc | apply pw_below_drewN | apply below_drew1) | exact HB.out)) hb; obtain ⟨Ab230, cb230, eb230_, lb230_, gb230_⟩ := Kd.R_reads (Kd.R_below (by (with_reducible repeat (first | apply Kd.R_alloc | apply Kd.R_drewN | apply Kd.R_drew)); exact HO227.out) hb); (first | subst eb230_ | (injection eb230_ with f1_ f2_ f3_; have f4_ := f1_.symm; have f5_ := f3_.symm; clear f1_ f2_ f3_; subst f4_; subst f5_)); have HRb230 := Aside0.mk gb230_; have HCb230 := Aside0.mk lb230_; clear gb230_ lb230_; (try clear HO227); (try (have n_ := Aside0.mk (Kd.C_below HRb230.out hbw_); clear HRb230; have HRb230 := n_; clear n_)); (try (have n_ := Aside0.mk (OB.below hbw_ HO_t228.out); clear HO_t228; have HO_t228 := n_; clear n_)); (try (have n_ := Aside0.mk (OB.below hbw_ HO_t231.out); clear HO_t231; have HO_t231 := n_; clear n_)); (first | (have n_ := Aside0.mk (HB00.out.trans (hbw_.mono HB00.out.size)); clear HB00; have HB00 := n_; clear n_) | have HB00 := Aside0.mk hbw_); clear HB hb hbw_; have HO_t228 := Aside0.mk hob0; clear hob0; obtain ⟨w, rfl⟩ : ∃ w_ : World, w_ = w23 := ⟨_, rfl⟩; have HB := Aside0.mk (Below.refl w.heap.size w)) | ((with_reducible refine gate_callee (f := 17) rfl ?_); refine goesL_ (some 12) rfl rfl Try.func17 (by kernel_rfl) rfl #[.pointer Pt228] rfl (by (try simp only [List.map_toArray, List.map_cons, List.map_nil]); first | done | rfl | (simp only [List.length_drop, List.length_take]; rfl)) ?_; (with_reducible refine (sparse_New.calls _ t228 t231 _ ?side1 A2.out).mono ?_); (case side1 => first | exact HO_t228.out | exact OB.drewN HO_t228.out _ | exact OB.below (by repeat (first | (with_reducible first | exact HB.out | apply below_alloc | apply pw_below_drewN | apply below_drew1) | exact HB.out)) HO_t228.out); rintro e w24 ⟨Pt231, rfl, hob0, hb⟩; refine ⟨_, rfl, ?_⟩; have hbw_ := below_step (by repeat (first | (with_reducible first | exact HB.out | apply below_alloc | apply pw_below_drewN | apply below_drew1) | exact HB.out)) hb; (try (have n_ := Aside0.mk (Kd.C_below HRb230.out hbw_); clear HRb230; have HRb230 := n_; clear n_)); (try (have n_ := Aside0.mk (OB.below hbw_ HO_t228.out); clear HO_t228; have HO_t228 := n_; clear n_)); (try (have n_ := Aside0.mk (OB.below hbw_ HO_t231.out); clear HO_t231; have HO_t231 := n_; clear n_)); (first | (have n_ := Aside0.mk (HB00.out.trans (hbw_.mono HB00.out.size)); clear HB00; have HB00 := n_; clear n_) | have HB00 := Aside0.mk hbw_); clear HB hb hbw_; have HO_t231 := Aside0.mk hob0; clear hob0; obtain ⟨w, rfl⟩ : ∃ w_ : World, w_ = w24 := ⟨_, rfl⟩; have HB := Aside0.mk (Below.refl w.heap.size w)) | ((with_reducible refine gate_callee (f := 22) rfl ?_); refine goesL_ (some 15) rfl rfl Try.func22 (by kernel_rfl) rfl #[.pointer Pt231, .int .i64 1, .int .u8 98] rfl (by (try simp only [List.map_toArray, List.map_cons, List.map_nil]); first | done | rfl | (simp only [List.length_drop, List.length_take]; rfl)) ?_; (with_reducible refine (sparse_Table_Next.calls _ t231 1 98 t232 t233 _ ?side1 A3.out).mono ?_); (case side1 => first | exact HO_t231.out | exact OB.drewN HO_t231.out _ | exact OB.below (by repeat (first | (with_reducible first | exact HB.out | apply below_alloc | apply pw_below_drewN | apply below_drew1) | exact HB.out)) HO_t231.out); rintro e w' ⟨rfl, ⟨nd, rfl⟩⟩; refine ⟨_, rfl, ?_⟩) | (go_at_call 19; (with_reducible refine (sparse_Table_Len.calls _ t231 t234 _ ?side1 A5.out).mono ?_); (case side1 => first | exact HO_t231.out | exact OB.drewN HO_t231.out _ | exact OB.below (by repeat (first | (with_reducible first | exact HB.out | apply below_alloc | apply pw_below_drewN | apply below_drew1) | exact HB.out)) HO_t231.out); rintro e w' ⟨rfl, ⟨nd, rfl⟩⟩))
        go_ret
        exact ⟨by first | rfl | (simp [errW_none, errW_some] <;> rfl) | (simp [*, errW_none, errW_some] <;> rfl), by first | (refine HB00.out.trans (Below.mono ?_ HB00.out.size); (repeat (first | (with_reducible first | exact HB.out | apply below_alloc | apply pw_below_drewN | apply below_drew1) | exact HB.out))) | (repeat (first | (with_reducible first | exact HB.out | apply below_alloc | apply pw_below_drewN | apply below_drew1) | exact HB.out))⟩
    · rw [if_neg c6] at H
      have c6b0 : (t234 == 4) = false := beq_eq_false_iff_ne.mpr c6
      have c6b1 : (t234 != 4) = true := bne_iff_ne.mpr c6
      obtain rfl := Option.some.inj H
      go_enter Try.func16, Try.ntmps16
      go_wp2_with (first | ((with_reducible refine gate_dst (N := 7) rfl ?_); refine Kd.R_lit Kd.string _ 9 ?hg (N := 7) ?hd (xs := ([(⟨#[97, 98]⟩ : ByteArray), (⟨#[98]⟩ : ByteArray)] : List ByteArray)) (inner := [.string (⟨#[97, 98]⟩ : ByteArray), .string (⟨#[98]⟩ : ByteArray)]) (ok := fun _ => True) (okp := fun _ => True) ?hr ?hp (fun _ hk => hk) trivial (Below.refl _ _) (Nat.le_refl _) (by simp) ?_; (case hd => rfl); (case hg => rfl); (case hr => first | (go_simp; done) | (go_simp; rfl)); (case hp => exact (Reps.one (show Kd.M Kd.string _ _ _ (⟨#[97, 98]⟩ : ByteArray) [.string (⟨#[97, 98]⟩ : ByteArray)] from rfl) (Reps.one (show Kd.M Kd.string _ _ _ (⟨#[98]⟩ : ByteArray) [.string (⟨#[98]⟩ : ByteArray)] from rfl) (Reps.none _ _)))); intro v226 w25 ho26 hb hg_ hnew_; clear hg_ hnew_; (first | rw [← Ny225.out] at ho26 | (simp only [Int.reduceToNat] at ho26; rw [← Ny225.out] at ho26)); have n0_ := Aside0.mk (Kd.R_lower ho26 (below_size (by repeat (first | (with_reducible first | exact HB.out | apply below_alloc | apply pw_below_drewN | apply below_drew1) | exact HB.out)))); have n1_ := Aside0.mk (below_step (by repeat (first | (with_reducible first | exact HB.out | apply below_alloc | apply pw_below_drewN | apply below_drew1) | exact HB.out)) hb); clear HB; have HO227 := n0_; have HB := n1_; clear n0_ n1_; clear hb ho26; obtain ⟨Ao27, co27, eo27⟩ := Kd.R_slice HO227.out; subst eo27) | ((with_reducible refine gate_callee (f := 9) rfl ?_); refine goesL_ (some 8) rfl rfl Try.func9 (by kernel_rfl) rfl #[.slice Ao27 y225.length co27] rfl (by (try simp only [List.map_toArray, List.map_cons, List.map_nil]); first | done | rfl | (simp only [List.length_drop, List.length_take]; rfl)) ?_; (with_reducible refine (pats_New.calls _ _ y225 t228 t229 _ ?side1 ?side2 A1.out).mono ?_); (case side1 => repeat (first | exact (Kd.R_reads' HO227.out).2.2 | (with_reducible refine Kd.C_alloc ?_ _) | (with_reducible refine Kd.C_drewN ?_ _) | (with_reducible refine Kd.C_drew ?_))); (case side2 => exact (Kd.R_reads' HO227.out).2.1); rintro e w28 ⟨Pt228, rfl, hob0, hb⟩; refine ⟨_, rfl, ?_⟩; have hbw_ := below_step (by repeat (first | (with_reducible first | exact HB.out | apply below_alloc | apply pw_below_drewN | apply below_drew1) | exact HB.out)) hb; obtain ⟨Ab230, cb230, eb230_, lb230_, gb230_⟩ := Kd.R_reads (Kd.R_below (by (with_reducible repeat (first | apply Kd.R_alloc | apply Kd.R_drewN | apply Kd.R_drew)); exact HO227.out) hb); (first | subst eb230_ | (injection eb230_ with f1_ f2_ f3_; have f4_ := f1_.symm; have f5_ := f3_.symm; clear f1_ f2_ f3_; subst f4_; subst f5_)); have HRb230 := Aside0.mk gb230_; have HCb230 := Aside0.mk lb230_; clear gb230_ lb230_; (try clear HO227); (try (have n_ := Aside0.mk (Kd.C_below HRb230.out hbw_); clear HRb230; have HRb230 := n_; clear n_)); (try (have n_ := Aside0.mk (OB.below hbw_ HO_t228.out); clear HO_t228; have HO_t228 := n_; clear n_)); (try (have n_ := Aside0.mk (OB.below hbw_ HO_t231.out); clear HO_t231; have HO_t231 := n_; clear n_)); (first | (have n_ := Aside0.mk (HB00.out.trans (hbw_.mono HB00.out.size)); clear HB00; have HB00 := n_; clear n_) | have HB00 := Aside0.mk hbw_); clear HB hb hbw_; have HO_t228 := Aside0.mk hob0; clear hob0; obtain ⟨w, rfl⟩ : ∃ w_ : World, w_ = w28 := ⟨_, rfl⟩; have HB := Aside0.mk (Below.refl w.heap.size w)) | ((with_reducible refine gate_callee (f := 17) rfl ?_); refine goesL_ (some 12) rfl rfl Try.func17 (by kernel_rfl) rfl #[.pointer Pt228] rfl (by (try simp only [List.map_toArray, List.map_cons, List.map_nil]); first | done | rfl | (simp only [List.length_drop, List.length_take]; rfl)) ?_; (with_reducible refine (sparse_New.calls _ t228 t231 _ ?side1 A2.out).mono ?_); (case side1 => first | exact HO_t228.out | exact OB.drewN HO_t228.out _ | exact OB.below (by repeat (first | (with_reducible first | exact HB.out | apply below_alloc | apply pw_below_drewN | apply below_drew1) | exact HB.out)) HO_t228.out); rintro e w29 ⟨Pt231, rfl, hob0, hb⟩; refine ⟨_, rfl, ?_⟩; have hbw_ := below_step (by repeat (first | (with_reducible first | exact HB.out | apply below_alloc | apply pw_below_drewN | apply below_drew1) | exact HB.out)) hb; (try (have n_ := Aside0.mk (Kd.C_below HRb230.out hbw_); clear HRb230; have HRb230 := n_; clear n_)); (try (have n_ := Aside0.mk (OB.below hbw_ HO_t228.out); clear HO_t228; have HO_t228 := n_; clear n_)); (try (have n_ := Aside0.mk (OB.below hbw_ HO_t231.out); clear HO_t231; have HO_t231 := n_; clear n_)); (first | (have n_ := Aside0.mk (HB00.out.trans (hbw_.mono HB00.out.size)); clear HB00; have HB00 := n_; clear n_) | have HB00 := Aside0.mk hbw_); clear HB hb hbw_; have HO_t231 := Aside0.mk hob0; clear hob0; obtain ⟨w, rfl⟩ : ∃ w_ : World, w_ = w29 := ⟨_, rfl⟩; have HB := Aside0.mk (Below.refl w.heap.size w)) | ((with_reducible refine gate_callee (f := 22) rfl ?_); refine goesL_ (some 15) rfl rfl Try.func22 (by kernel_rfl) rfl #[.pointer Pt231, .int .i64 1, .int .u8 98] rfl (by (try simp only [List.map_toArray, List.map_cons, List.map_nil]); first | done | rfl | (simp only [List.length_drop, List.length_take]; rfl)) ?_; (with_reducible refine (sparse_Table_Next.calls _ t231 1 98 t232 t233 _ ?side1 A3.out).mono ?_); (case side1 => first | exact HO_t231.out | exact OB.drewN HO_t231.out _ | exact OB.below (by repeat (first | (with_reducible first | exact HB.out | apply below_alloc | apply pw_below_drewN | apply below_drew1) | exact HB.out)) HO_t231.out); rintro e w' ⟨rfl, ⟨nd, rfl⟩⟩; refine ⟨_, rfl, ?_⟩) | (go_at_call 19; (with_reducible refine (sparse_Table_Len.calls _ t231 t234 _ ?side1 A5.out).mono ?_); (case side1 => first | exact HO_t231.out | exact OB.drewN HO_t231.out _ | exact OB.below (by repeat (first | (with_reducible first | exact HB.out | apply below_alloc | apply pw_below_drewN | apply below_drew1) | exact HB.out)) HO_t231.out); rintro e w' ⟨rfl, ⟨nd, rfl⟩⟩))
      go_ret
      exact ⟨by first | rfl | (simp [errW_none, errW_some] <;> rfl) | (simp [*, errW_none, errW_some] <;> rfl), by first | (refine HB00.out.trans (Below.mono ?_ HB00.out.size); (repeat (first | (with_reducible first | exact HB.out | apply below_alloc | apply pw_below_drewN | apply below_drew1) | exact HB.out))) | (repeat (first | (with_reducible first | exact HB.out | apply below_alloc | apply pw_below_drewN | apply below_drew1) | exact HB.out))⟩
  · rw [if_neg c4] at H
    have c4b0 : (t229 == 0) = false := beq_eq_false_iff_ne.mpr c4
    have c4b1 : (t229 != 0) = true := bne_iff_ne.mpr c4
    obtain rfl := Option.some.inj H
    go_enter Try.func16, Try.ntmps16
    go_wp2_with (first | ((with_reducible refine gate_dst (N := 7) rfl ?_); refine Kd.R_lit Kd.string _ 9 ?hg (N := 7) ?hd (xs := ([(⟨#[97, 98]⟩ : ByteArray), (⟨#[98]⟩ : ByteArray)] : List ByteArray)) (inner := [.string (⟨#[97, 98]⟩ : ByteArray), .string (⟨#[98]⟩ : ByteArray)]) (ok := fun _ => True) (okp := fun _ => True) ?hr ?hp (fun _ hk => hk) trivial (Below.refl _ _) (Nat.le_refl _) (by simp) ?_; (case hd => rfl); (case hg => rfl); (case hr => first | (go_simp; done) | (go_simp; rfl)); (case hp => exact (Reps.one (show Kd.M Kd.string _ _ _ (⟨#[97, 98]⟩ : ByteArray) [.string (⟨#[97, 98]⟩ : ByteArray)] from rfl) (Reps.one (show Kd.M Kd.string _ _ _ (⟨#[98]⟩ : ByteArray) [.string (⟨#[98]⟩ : ByteArray)] from rfl) (Reps.none _ _)))); intro v226 w30 ho31 hb hg_ hnew_; clear hg_ hnew_; (first | rw [← Ny225.out] at ho31 | (simp only [Int.reduceToNat] at ho31; rw [← Ny225.out] at ho31)); have n0_ := Aside0.mk (Kd.R_lower ho31 (below_size (by repeat (first | (with_reducible first | exact HB.out | apply below_alloc | apply pw_below_drewN | apply below_drew1) | exact HB.out)))); have n1_ := Aside0.mk (below_step (by repeat (first | (with_reducible first | exact HB.out | apply below_alloc | apply pw_below_drewN | apply below_drew1) | exact HB.out)) hb); clear HB; have HO227 := n0_; have HB := n1_; clear n0_ n1_; clear hb ho31; obtain ⟨Ao32, co32, eo32⟩ := Kd.R_slice HO227.out; subst eo32) | ((with_reducible refine gate_callee (f := 9) rfl ?_); refine goesL_ (some 8) rfl rfl Try.func9 (by kernel_rfl) rfl #[.slice Ao32 y225.length co32] rfl (by (try simp only [List.map_toArray, List.map_cons, List.map_nil]); first | done | rfl | (simp only [List.length_drop, List.length_take]; rfl)) ?_; (with_reducible refine (pats_New.calls _ _ y225 t228 t229 _ ?side1 ?side2 A1.out).mono ?_); (case side1 => repeat (first | exact (Kd.R_reads' HO227.out).2.2 | (with_reducible refine Kd.C_alloc ?_ _) | (with_reducible refine Kd.C_drewN ?_ _) | (with_reducible refine Kd.C_drew ?_))); (case side2 => exact (Kd.R_reads' HO227.out).2.1); rintro e w33 ⟨Pt228, rfl, hob0, hb⟩; refine ⟨_, rfl, ?_⟩; have hbw_ := below_step (by repeat (first | (with_reducible first | exact HB.out | apply below_alloc | apply pw_below_drewN | apply below_drew1) | exact HB.out)) hb; obtain ⟨Ab230, cb230, eb230_, lb230_, gb230_⟩ := Kd.R_reads (Kd.R_below (by (with_reducible repeat (first | apply Kd.R_alloc | apply Kd.R_drewN | apply Kd.R_drew)); exact HO227.out) hb); (first | subst eb230_ | (injection eb230_ with f1_ f2_ f3_; have f4_ := f1_.symm; have f5_ := f3_.symm; clear f1_ f2_ f3_; subst f4_; subst f5_)); have HRb230 := Aside0.mk gb230_; have HCb230 := Aside0.mk lb230_; clear gb230_ lb230_; (try clear HO227); (try (have n_ := Aside0.mk (Kd.C_below HRb230.out hbw_); clear HRb230; have HRb230 := n_; clear n_)); (try (have n_ := Aside0.mk (OB.below hbw_ HO_t228.out); clear HO_t228; have HO_t228 := n_; clear n_)); (try (have n_ := Aside0.mk (OB.below hbw_ HO_t231.out); clear HO_t231; have HO_t231 := n_; clear n_)); (first | (have n_ := Aside0.mk (HB00.out.trans (hbw_.mono HB00.out.size)); clear HB00; have HB00 := n_; clear n_) | have HB00 := Aside0.mk hbw_); clear HB hb hbw_; have HO_t228 := Aside0.mk hob0; clear hob0; obtain ⟨w, rfl⟩ : ∃ w_ : World, w_ = w33 := ⟨_, rfl⟩; have HB := Aside0.mk (Below.refl w.heap.size w)) | ((with_reducible refine gate_callee (f := 17) rfl ?_); refine goesL_ (some 12) rfl rfl Try.func17 (by kernel_rfl) rfl #[.pointer Pt228] rfl (by (try simp only [List.map_toArray, List.map_cons, List.map_nil]); first | done | rfl | (simp only [List.length_drop, List.length_take]; rfl)) ?_; (with_reducible refine (sparse_New.calls _ t228 t231 _ ?side1 A2.out).mono ?_); (case side1 => first | exact HO_t228.out | exact OB.drewN HO_t228.out _ | exact OB.below (by repeat (first | (with_reducible first | exact HB.out | apply below_alloc | apply pw_below_drewN | apply below_drew1) | exact HB.out)) HO_t228.out); rintro e w34 ⟨Pt231, rfl, hob0, hb⟩; refine ⟨_, rfl, ?_⟩; have hbw_ := below_step (by repeat (first | (with_reducible first | exact HB.out | apply below_alloc | apply pw_below_drewN | apply below_drew1) | exact HB.out)) hb; (try (have n_ := Aside0.mk (Kd.C_below HRb230.out hbw_); clear HRb230; have HRb230 := n_; clear n_)); (try (have n_ := Aside0.mk (OB.below hbw_ HO_t228.out); clear HO_t228; have HO_t228 := n_; clear n_)); (try (have n_ := Aside0.mk (OB.below hbw_ HO_t231.out); clear HO_t231; have HO_t231 := n_; clear n_)); (first | (have n_ := Aside0.mk (HB00.out.trans (hbw_.mono HB00.out.size)); clear HB00; have HB00 := n_; clear n_) | have HB00 := Aside0.mk hbw_); clear HB hb hbw_; have HO_t231 := Aside0.mk hob0; clear hob0; obtain ⟨w, rfl⟩ : ∃ w_ : World, w_ = w34 := ⟨_, rfl⟩; have HB := Aside0.mk (Below.refl w.heap.size w)) | ((with_reducible refine gate_callee (f := 22) rfl ?_); refine goesL_ (some 15) rfl rfl Try.func22 (by kernel_rfl) rfl #[.pointer Pt231, .int .i64 1, .int .u8 98] rfl (by (try simp only [List.map_toArray, List.map_cons, List.map_nil]); first | done | rfl | (simp only [List.length_drop, List.length_take]; rfl)) ?_; (with_reducible refine (sparse_Table_Next.calls _ t231 1 98 t232 t233 _ ?side1 A3.out).mono ?_); (case side1 => first | exact HO_t231.out | exact OB.drewN HO_t231.out _ | exact OB.below (by repeat (first | (with_reducible first | exact HB.out | apply below_alloc | apply pw_below_drewN | apply below_drew1) | exact HB.out)) HO_t231.out); rintro e w' ⟨rfl, ⟨nd, rfl⟩⟩; refine ⟨_, rfl, ?_⟩))
    go_ret
    exact ⟨by first | rfl | (simp [errW_none, errW_some] <;> rfl) | (simp [*, errW_none, errW_some] <;> rfl), by first | (refine HB00.out.trans (Below.mono ?_ HB00.out.size); (repeat (first | (with_reducible first | exact HB.out | apply below_alloc | apply pw_below_drewN | apply below_drew1) | exact HB.out))) | (repeat (first | (with_reducible first | exact HB.out | apply below_alloc | apply pw_below_drewN | apply below_drew1) | exact HB.out))⟩

end Go.Proofs.Ytbkcjeopcjghgaa.P

/- What the rows of a list tell; layer 20's example; no condition beyond the sizes that stand in each statement. -/
namespace Go.Proofs.Ytbkcjeopcjghgaa.Base
open Go Go.RowKit Go.Proofs.YtbkcjeopcjghgaaW.PrintWords Go.Proofs.YtbkcjeopcjghgaaW.PrintMore Go.Proofs.Ytbkcjeopcjghgaa.P
set_option linter.unusedVariables false

theorem sparse_ok {l w : List ByteArray} {x : Option SetD} {e : Int} (h : SetOk l x w e) (hz : sizes w ≤ 16777216) : sparse_New.f x = some (some (sparD w)) ∧ okT w := by
  obtain ⟨_, ok⟩ := trie_ok h hz
  refine ⟨?_, ok⟩
  unfold sparse_New.f
  rw [h.hL, if_pos ok]
section
variable {w : List ByteArray}
theorem idx_lim (hs : srt w) (hz : sizes w ≤ 16777216) {p : List UInt8} (h : idxP w p ≥ 0) : ∃ (i : Nat) (n : NodeD), (trN w)[i]? = some n ∧ n.path = p ∧ idxP w p = (i : Int) ∧ i < (trN w).length ∧ i ≤ 16777217 := by
  obtain ⟨i, n, h1, h2, h3⟩ := idx_node hs h
  have h4 := (List.getElem?_eq_some_iff.1 h1).1
  have h5 := trN_le hs
  unfold trK at h5
  exact ⟨i, n, h1, h2, h3, h4, by omega⟩
theorem sp_base (w : List ByteArray) (s : Nat) : rd (sparD w).base (s : Int) = (((spRun w (trN w).length).base.getD s 0 : Nat) : Int) := by
  show ((spRun w (trN w).length).base.map fun n : Nat => (n : Int)).getD (s : Int).toNat 0 = _
  rw [Int.toNat_natCast, List.getD_eq_getElem?_getD, List.getElem?_map, List.getD_eq_getElem?_getD]
  cases (spRun w (trN w).length).base[s]? <;> rfl
theorem sp_ok (ok : okT w) (s : Nat) (c : UInt8) : spOk (sparD w) (s : Int) (c.toNat : Int) := by
  have hs := srt_of ok.1
  have hz := ok.2.2.2
  have hl := trN_le hs
  unfold trK at hl
  have hI := spI_run w (trN w).length (Nat.le_refl _)
  have hle := leadN_le w (trN w).length
  have hcl := hI.cl
  have hbb := hI.bb s
  have hc : c.toNat < 256 := UInt8.toNat_lt _
  refine ⟨by rw [sp_base]; omega, by omega, fun x hx => ?_, by show ((spRun w (trN w).length).base.map _).length ≤ _; rw [List.length_map, hI.bl]; omega⟩
  obtain ⟨j, hj, rfl⟩ := List.mem_iff_getElem.1 (show x ∈ (spRun w (trN w).length).cells from hx)
  have e : (spRun w (trN w).length).cells.getD j default = (spRun w (trN w).length).cells[j] := by rw [List.getD_eq_getElem?_getD, List.getElem?_eq_getElem hj]; rfl
  rw [← e]
  rcases hI.own j with h1 | ⟨s', n, b, h1, h2, h3, h4, h5⟩
  · rw [h1]; exact ⟨⟨by decide, by decide⟩, by decide, by decide⟩
  · rw [h5]
    obtain ⟨i, m, g1, g2, g3, g4, g5⟩ := idx_lim hs hz ((kidsB_mem hs h1 b).1 h3)
    rw [g3]
    exact ⟨⟨by show 0 ≤ (s' : Int) + 1; omega, by show (s' : Int) + 1 ≤ _; omega⟩, by show 0 ≤ (i : Int); omega, by show (i : Int) ≤ _; omega⟩
theorem sp_is {i : Nat} (hi : i < (trN w).length) : spIs (some (sparD w)) (i : Int) = true := by
  have hbl := (spI_run w (trN w).length (Nat.le_refl _)).bl
  exact decide_eq_true ⟨by omega, by show (i : Int) < ((((spRun w (trN w).length).base.map fun n : Nat => (n : Int)).length : Nat) : Int); rw [List.length_map, hbl]; omega⟩
theorem snext_ok (ok : okT w) {i : Nat} {n : NodeD} (h : (trN w)[i]? = some n) (c : UInt8) : sparse_Table_Next.f (some (sparD w)) (i : Int) (c.toNat : Int) = some (if idxP w (n.path ++ [c]) ≥ 0 then (idxP w (n.path ++ [c]), true) else (0, false)) := by
  unfold sparse_Table_Next.f
  rw [if_pos (sp_is (List.getElem?_eq_some_iff.1 h).1)]
  simp only
  rw [if_pos (sp_ok ok i c), sp_next (srt_of ok.1) h c]
theorem sfall_is (ok : okT w) (c : UInt8) : ∀ (k m : Nat) (p : List UInt8), p.length = k → k < m → idxP w p ≥ 0 → spStepF (sparD w) (c.toNat : Int) m (idxP w p) = some (idxP w (stepP w p c)) := by
  have hs := srt_of ok.1
  intro k
  induction k using Nat.strongRecOn with
  | _ k ih =>
    intro m p hk hm hp
    cases m with
    | zero => omega
    | succ m =>
      obtain ⟨i, n, h1, h2, h3⟩ := idx_node hs hp
      rw [h3]
      unfold spStepF
      rw [snext_ok ok h1 c, h2]
      by_cases hn : idxP w (p ++ [c]) ≥ 0
      · rw [if_pos hn]
        show (if true = true then some (idxP w (p ++ [c])) else _) = _
        rw [if_pos rfl, step_self hn]
      · rw [if_neg hn]
        show (if false = true then some 0 else if ((i : Nat) : Int) = 0 then some 0 else _) = _
        rw [if_neg (by decide)]
        by_cases hpn : p = []
        · subst hpn
          rw [idx_nil hs] at h3
          rw [if_pos h3.symm, step_nil hn, idx_nil hs]
        · have hi0 : ¬ ((i : Nat) : Int) = 0 := fun e => by
            have : i = 0 := by omega
            subst this
            have hr := path_root (w := w)
            rw [h1] at hr
            injection hr with e2
            rw [e2] at h2
            exact hpn h2.symm
          have hlt := (List.getElem?_eq_some_iff.1 h1).1
          have hfl : (sparD w).fail = failL w := rfl
          rw [if_neg hi0, hfl, if_pos ⟨by omega, by rw [failL_length]; omega⟩, failL_at h1, h2]
          have hs1 := fail_short (w := w) p hpn
          rw [ih (failP w p).length (by omega) m (failP w p) rfl (by omega) (lsufx_is hs _), show stepP w (failP w p) c = stepP w p c from (step_fall hs hn).symm]
theorem node_len (ok : okT w) {i : Nat} {n : NodeD} (h : (trN w)[i]? = some n) : n.path.length ≤ 65535 := by
  have hs := srt_of ok.1
  rcases path_is hs h with h1 | ⟨t, ht, hp⟩
  · rw [h1]; exact Nat.zero_le _
  · have h2 := hp.length_le
    rw [LL_length] at h2
    have := (ok.2.2.1 _ (getD_mem w t ByteArray.empty ht)).2
    omega
theorem sstep_ok (ok : okT w) {i : Nat} {n : NodeD} (h : (trN w)[i]? = some n) (c : UInt8) : sparse_Table_Step.f (some (sparD w)) (i : Int) (c.toNat : Int) = some (idxP w (stepP w n.path c)) := by
  have hs := srt_of ok.1
  have hid := idx_at hs h
  have hlen := node_len ok h
  unfold sparse_Table_Step.f
  rw [if_pos (sp_is (List.getElem?_eq_some_iff.1 h).1)]
  simp only
  rw [← hid]
  exact sfall_is ok c n.path.length 16777219 n.path rfl (by omega) (by omega)
theorem slen_ok (w : List ByteArray) : sparse_Table_Len.f (some (sparD w)) = some ((trN w).length : Int) := by
  have hbl := (spI_run w (trN w).length (Nat.le_refl _)).bl
  show some ((((spRun w (trN w).length).base.map fun n : Nat => (n : Int)).length : Nat) : Int) = _
  rw [List.length_map, hbl]
end
abbrev l20 : List ByteArray := [(⟨#[97, 98]⟩ : ByteArray), (⟨#[98]⟩ : ByteArray)]
theorem new20 : pats_New.f l20 = some (some ⟨l20, 1, 2, 3⟩, 0) := by
  have hs : sortB l20 = l20 := (sortB_of (List.Perm.refl _) (by decide)).symm
  unfold pats_New.f
  rw [hs]
  rfl
theorem okT_20 : okT l20 := ⟨⟨by decide, by decide⟩, by decide, fun s hs => by
    simp only [List.mem_cons, List.not_mem_nil, or_false] at hs
    rcases hs with rfl | rfl <;> decide, by decide⟩
theorem sparse20 : sparse_New.f (some ⟨l20, 1, 2, 3⟩) = some (some (sparD l20)) := if_pos okT_20
theorem awake20 : juratlaw20_awake.f = some true := by
  obtain ⟨n1, h1, p1⟩ := Option.map_eq_some_iff.1 (show ((trN l20)[1]?).map NodeD.path = some [97] by decide +kernel)
  obtain ⟨n2, h2, p2⟩ := Option.map_eq_some_iff.1 (show ((trN l20)[2]?).map NodeD.path = some [98] by decide +kernel)
  have a1 := snext_ok okT_20 h1 98
  have a2 := sstep_ok okT_20 h2 97
  rw [p1, show idxP l20 ([97] ++ [98]) = 3 by decide +kernel, if_pos (by decide)] at a1
  rw [p2, show idxP l20 (stepP l20 [98] 97) = 1 by decide +kernel] at a2
  have a3 := slen_ok l20
  rw [show (trN l20).length = 4 by decide +kernel] at a3
  have a1' : sparse_Table_Next.f (some (sparD l20)) 1 98 = some (3, true) := a1
  have a2' : sparse_Table_Step.f (some (sparD l20)) 2 97 = some 1 := a2
  have a3' : sparse_Table_Len.f (some (sparD l20)) = some 4 := a3
  unfold juratlaw20_awake.f
  rw [new20, Option.bind_some, sparse20, Option.bind_some, a1', Option.bind_some, if_pos rfl, a3', Option.bind_some, if_pos rfl, if_pos rfl, if_pos rfl, a2', Option.bind_some]
  rfl
end Go.Proofs.Ytbkcjeopcjghgaa.Base

/- Proved here: what Go functions of this seat compute, or a law of it; no condition beyond the statement's own. Written for this claim by a program of this session (wip/myprint.py) over the kit's print.py. -/
namespace Go.Proofs.Ytbkcjeopcjghgaa.P
open Go.RowKit Go.Proofs.YtbkcjeopcjghgaaW.PrintWords Go.Proofs.YtbkcjeopcjghgaaW.PrintLast Go.Proofs.YtbkcjeopcjghgaaW.PrintMore
attribute [local go_sem] max2_int min2_int max_two min_two max_three min_three max_four min_four   -- for this text's walks alone
set_option linter.unusedVariables false
set_option linter.unusedSimpArgs false

/-! ### juratref17_Longest: function 14 -/
def juratref17_Longest.l0 : Nat → List ByteArray → ByteArray → Int → Int → Option (Int)
  | 0, _, _, _, _ => none
  | k + 1, x0, x1, x2, x7 => if x7 ≥ 0 then (if x7 > x2 then (juratref17_Longest.l0 k x0 x1 x2 (wrap64 (x7 - 1))) else (if 0 ≤ (wrap64 ((x1.size : Int) - x7)) then (if (wrap64 ((x1.size : Int) - x7)) ≤ (x1.size : Int) then ((juratref16_Find.f k x0 (x1.extract ((wrap64 ((x1.size : Int) - x7)) : Int).toNat x1.size)).bind fun t203 => (if t203 ≥ 0 then (some t203) else (juratref17_Longest.l0 k x0 x1 x2 (wrap64 (x7 - 1))))) else (none)) else (none))) else (some 0)
def juratref17_Longest.f (k : Nat) (l0 : List ByteArray) (a1 : ByteArray) (a2 : Int) : Option (Int) := juratref17_Longest.l0 k l0 a1 a2 (a1.size : Int)
theorem juratref17_Longest.mono_l : ∀ k, (∀ y0 y1 y2 y3, LeO (juratref17_Longest.l0 k y0 y1 y2 y3) (juratref17_Longest.l0 (k + 1) y0 y1 y2 y3))
  | 0 => fun _ _ _ _ r h => by simp [juratref17_Longest.l0] at h
  | k + 1 => by
    have ih0 := juratref17_Longest.mono_l k
    · intro y0 y1 y2 y3
      unfold juratref17_Longest.l0
      repeat' first
      | (with_reducible exact ih0 _ _ _ _)
      | (with_reducible exact juratref16_Find.mono _ _ _)
      | (with_reducible exact LeO.refl _)
      | (with_reducible exact LeO.none _)
      | (with_reducible refine LeO.ite ?_ ?_)
      | (with_reducible refine LeO.bind ?_ (fun _ => ?_))
      | exact ih0 _ _ _ _
      | exact juratref16_Find.mono _ _ _
      | exact LeO.none _
      | refine LeO.ite ?_ ?_
      | refine LeO.bind ?_ (fun _ => ?_)
theorem juratref17_Longest.mono : ∀ a0 a1 a2 k, LeO (juratref17_Longest.f k a0 a1 a2) (juratref17_Longest.f (k + 1) a0 a1 a2) := by
  intro a0 a1 a2 k
  have ih0 := juratref17_Longest.mono_l k
  unfold juratref17_Longest.f
  repeat' first
      | (with_reducible exact ih0 _ _ _ _)
      | (with_reducible exact juratref16_Find.mono _ _ _)
      | (with_reducible exact LeO.refl _)
      | (with_reducible exact LeO.none _)
      | (with_reducible refine LeO.ite ?_ ?_)
      | (with_reducible refine LeO.bind ?_ (fun _ => ?_))
      | exact ih0 _ _ _ _
      | exact juratref16_Find.mono _ _ _
      | exact LeO.none _
      | refine LeO.ite ?_ ?_
      | refine LeO.bind ?_ (fun _ => ?_)
set_option maxHeartbeats 8000000 in
set_option maxRecDepth 100000 in
theorem juratref17_Longest.calls (k : Nat) (A0 : Option Addr) (c0 : Nat) (l0 : List ByteArray) (a1 : ByteArray) (a2 : Int) (r : Int) (w : World) (hr0 : Kd.C Kd.string w A0 l0.length l0) (hc0 : l0.length ≤ c0) (h : juratref17_Longest.f k l0 a1 a2 = some r) :
    Calls Try.prog 14 #[.slice A0 l0.length c0, .string a1, .int .i64 a2] w fun e w' => e = .returned (.int .i64 r) ∧ Drawn0 w w' := by
  have HR0 := Aside0.mk hr0
  have HC0 := Aside0.mk hc0
  clear hr0 hc0
  have H : (juratref17_Longest.l0 k l0 a1 a2 (a1.size : Int)) = some r := h
  clear h
  have H' := Aside0.mk H
  clear H
  go_enter Try.func14, Try.ntmps14
  go_wp2
  go_loopg [7] k (fun kq v7 w' => ∃ (x7_1 : Int), v7 = .int .i64 x7_1 ∧ Aside0 (juratref17_Longest.l0 kq l0 a1 a2 x7_1 = some r) ∧ Aside0 (kq ≤ k) ∧ Drawn0 w w')
  case atStart => exact ⟨((a1.size : Int)), (by first | rfl | exact isE_ _ | exact isE2_ _ | (simp; done) | (simp [*]; done)), H', ⟨Nat.le_refl _⟩, by repeat (first | exact Drawn0.refl _ | apply Drawn0.step)⟩
  case round =>
    clear H'
    try clear c1
    try clear p2
    obtain ⟨x7_1, rfl, HA, HK1, ⟨m1, rfl⟩⟩ := hrel
    cases gk with
    | zero => exact absurd HA.out (by simp [juratref17_Longest.l0])
    | succ k1 =>
      have H := HA.out
      clear HA
      simp only [juratref17_Longest.l0] at H
      by_cases c4 : x7_1 ≥ 0
      · rw [if_pos c4] at H
        have c4b0 : decide (0 ≤ x7_1) = true := decide_eq_true c4
        clear c4
        by_cases c5 : x7_1 > a2
        · rw [if_pos c5] at H
          have c5b0 : decide (a2 < x7_1) = true := decide_eq_true c5
          clear c5
          have H' := Aside0.mk H
          clear H
          go_wp2
          go_roundg k1
          case measure => have := HK1.out; omega
          case rel => exact ⟨(wrap64 (x7_1 - 1)), (by first | rfl | exact isE_ _ | exact isE2_ _ | (simp; done) | (simp [*]; done)), H', ⟨by have := HK1.out; omega⟩, by repeat (first | exact Drawn0.refl _ | apply Drawn0.step)⟩
        · rw [if_neg c5] at H
          have c5b0 : decide (a2 < x7_1) = false := decide_eq_false c5
          clear c5
          obtain ⟨ji6, hji6⟩ : ∃ j_ : Int, (wrap64 ((a1.size : Int) - x7_1)) = j_ := ⟨_, rfl⟩
          replace H : (if 0 ≤ (ji6) then (if (ji6) ≤ (a1.size : Int) then ((juratref16_Find.f k1 l0 (a1.extract ((ji6) : Int).toNat a1.size)).bind fun t203 => (if t203 ≥ 0 then (some t203) else (juratref17_Longest.l0 k1 l0 a1 a2 (wrap64 (x7_1 - 1))))) else (none)) else (none)) = some r := by first | (rw [hji6] at H; exact H) | (simp only [hji6] at H ⊢; exact H)
          have hji6w : (IntKind.i64.wrap ((a1.size : Int) - x7_1)) = ji6 := (i64_w _).trans hji6
          by_cases c7 : 0 ≤ (ji6)
          · rw [if_pos c7] at H
            have c7b0 := eq_true c7
            have c7b1 : decide (0 ≤ (ji6)) = true := decide_eq_true c7
            clear c7
            by_cases c8 : (ji6) ≤ (a1.size : Int)
            · rw [if_pos c8] at H
              have c8b0 := eq_true c8
              have c8b1 : decide ((ji6) ≤ (a1.size : Int)) = true := decide_eq_true c8
              clear c8
              replace H := Option.bind_eq_some_iff.mp H
              obtain ⟨t203, A90, H⟩ := H
              replace H : (if t203 ≥ 0 then (some t203) else (juratref17_Longest.l0 k1 l0 a1 a2 (wrap64 (x7_1 - 1)))) = some r := H
              have A9 := Aside0.mk A90
              clear A90
              by_cases c10 : t203 ≥ 0
              · rw [if_pos c10] at H
                have c10b0 : decide (0 ≤ t203) = true := decide_eq_true c10
                clear c10
                obtain rfl := Option.some.inj H
                go_wp2_with (first | ((with_reducible refine gate_callee (f := 49) rfl ?_); refine goesL_ (some 25) rfl rfl Try.func49 (by kernel_rfl) rfl #[.slice A0 l0.length c0, .string (a1.extract ((ji6) : Int).toNat a1.size)] rfl (by (try simp only [List.map_toArray, List.map_cons, List.map_nil]); first | done | (simp only [hji6]; rfl) | rfl | (simp only [List.length_drop, List.length_take]; rfl)) ?_; (with_reducible refine (juratref16_Find.calls k1 _ _ l0 (a1.extract ((ji6) : Int).toNat a1.size) t203 _ ?side1 ?side2 A9.out).mono ?_); (case side1 => repeat (first | exact HR0.out | (with_reducible refine Kd.C_alloc ?_ _) | (with_reducible refine Kd.C_drewN ?_ _) | (with_reducible refine Kd.C_drew ?_))); (case side2 => exact HC0.out); rintro e w' ⟨rfl, ⟨nd, rfl⟩⟩; refine ⟨_, rfl, ?_⟩))
                go_ret
                exact ⟨by first | rfl | (simp; done) | (simp only [← hji6] <;> (first | rfl | simp)) | (simp [*]; done), by repeat (first | exact Drawn0.refl _ | apply Drawn0.step)⟩
              · rw [if_neg c10] at H
                have c10b0 : decide (0 ≤ t203) = false := decide_eq_false c10
                clear c10
                have H' := Aside0.mk H
                clear H
                go_wp2_with (first | ((with_reducible refine gate_callee (f := 49) rfl ?_); refine goesL_ (some 25) rfl rfl Try.func49 (by kernel_rfl) rfl #[.slice A0 l0.length c0, .string (a1.extract ((ji6) : Int).toNat a1.size)] rfl (by (try simp only [List.map_toArray, List.map_cons, List.map_nil]); first | done | (simp only [hji6]; rfl) | rfl | (simp only [List.length_drop, List.length_take]; rfl)) ?_; (with_reducible refine (juratref16_Find.calls k1 _ _ l0 (a1.extract ((ji6) : Int).toNat a1.size) t203 _ ?side1 ?side2 A9.out).mono ?_); (case side1 => repeat (first | exact HR0.out | (with_reducible refine Kd.C_alloc ?_ _) | (with_reducible refine Kd.C_drewN ?_ _) | (with_reducible refine Kd.C_drew ?_))); (case side2 => exact HC0.out); rintro e w' ⟨rfl, ⟨nd, rfl⟩⟩; refine ⟨_, rfl, ?_⟩))
                go_roundg k1
                case measure => have := HK1.out; omega
                case rel => exact ⟨(wrap64 (x7_1 - 1)), (by first | rfl | exact isE_ _ | exact isE2_ _ | (simp; done) | (simp [*]; done)), H', ⟨by have := HK1.out; omega⟩, by repeat (first | exact Drawn0.refl _ | apply Drawn0.step)⟩
            · rw [if_neg c8] at H
              exact absurd H (by simp)
          · rw [if_neg c7] at H
            exact absurd H (by simp)
      · rw [if_neg c4] at H
        have c4b0 : decide (0 ≤ x7_1) = false := decide_eq_false c4
        clear c4
        obtain rfl := Option.some.inj H
        go_wp2
        go_ret
        exact ⟨by first | rfl | (simp; done) | (simp [*]; done), by repeat (first | exact Drawn0.refl _ | apply Drawn0.step)⟩

end Go.Proofs.Ytbkcjeopcjghgaa.P

/- Layer 17's reference: the longest state with which a text ends; where a byte leads; no condition beyond the sizes that stand in each statement. -/
namespace Go.Proofs.Ytbkcjeopcjghgaa.Base
open Go Go.RowKit Go.Proofs.YtbkcjeopcjghgaaW.PrintWords Go.Proofs.YtbkcjeopcjghgaaW.PrintMore Go.Proofs.Ytbkcjeopcjghgaa.P
set_option linter.unusedVariables false

section
variable {w : List ByteArray}
theorem ext_strP (s : ByteArray) (a : Nat) (ha : a ≤ s.size) : s.extract a s.size = strP ((LL s).drop a) := LL_inj (by
  rw [LL_extract, LL_strP]
  rw [List.take_of_length_le (by rw [LL_length]; exact Nat.le_refl _)])
theorem rlong_l0 (hs : srt w) (hl : (paths w).length ≤ 8796093022208) (s : ByteArray) (hsz : s.size ≤ 4611686018427387904) (most : Int) (hm : (s.size : Int) ≤ most) : ∀ n : Nat, n ≤ s.size → Ev (fun k => juratref17_Longest.l0 k (paths w) s most (n : Int)) (idxP w (lsufx w ((LL s).drop (s.size - n)))) := by
  intro n
  induction n with
  | zero =>
    intro hn
    have e : (LL s).drop (s.size - 0) = [] := List.drop_of_length_le (by rw [LL_length]; omega)
    rw [e]
    have e2 : idxP w (lsufx w []) = 0 := idx_nil hs
    rw [e2]
    have hf := rfind16_ev (paths w) (s.extract s.size s.size) hl
    have e3 : findB (s.extract s.size s.size) (paths w) 0 = 0 := by
      rw [ext_strP s s.size (Nat.le_refl _), List.drop_of_length_le (by rw [LL_length]; exact Nat.le_refl _)]
      exact idx_nil hs
    rw [e3] at hf
    refine Ev.step (f := fun k => (juratref16_Find.f k (paths w) (s.extract s.size s.size)).bind fun t => (if t ≥ 0 then (some t) else (juratref17_Longest.l0 k (paths w) s most (wrap64 (0 - 1))))) (fun k => ?_) (Ev.bind hf (Ev.now 0))
    simp only [juratref17_Longest.l0]
    rw [if_pos (by omega), if_neg (by omega), wrap_id (x := (s.size : Int) - ((0 : Nat) : Int)) (by omega) (by omega), if_pos (by omega), if_pos (by omega), show ((s.size : Int) - ((0 : Nat) : Int)).toNat = s.size by omega]
    rfl
  | succ n ih =>
    intro hn
    obtain ⟨c, hc⟩ : ∃ c, (LL s).drop (s.size - (n + 1)) = c :: (LL s).drop (s.size - n) := by
      have hlt : s.size - (n + 1) < (LL s).length := by rw [LL_length]; omega
      refine ⟨(LL s)[s.size - (n + 1)], ?_⟩
      rw [List.drop_eq_getElem_cons hlt, show s.size - (n + 1) + 1 = s.size - n by omega]
    have hf := rfind16_ev (paths w) (s.extract (s.size - (n + 1)) s.size) hl
    have e3 : findB (s.extract (s.size - (n + 1)) s.size) (paths w) 0 = idxP w (c :: (LL s).drop (s.size - n)) := by
      rw [ext_strP s _ (by omega), hc]
      rfl
    rw [e3] at hf
    rw [hc]
    have ih' := ih (by omega)
    refine Ev.step (f := fun k => (juratref16_Find.f k (paths w) (s.extract (s.size - (n + 1)) s.size)).bind fun t => (if t ≥ 0 then (some t) else (juratref17_Longest.l0 k (paths w) s most (n : Int)))) (fun k => ?_) (Ev.bind hf ?_)
    · simp only [juratref17_Longest.l0]
      rw [if_pos (by omega), if_neg (by omega), wrap_id (x := (s.size : Int) - ((n + 1 : Nat) : Int)) (by omega) (by omega), if_pos (by omega), if_pos (by omega), show ((s.size : Int) - ((n + 1 : Nat) : Int)).toNat = s.size - (n + 1) by omega, wrap_id (x := ((n + 1 : Nat) : Int) - 1) (by omega) (by omega), show ((n + 1 : Nat) : Int) - 1 = (n : Int) by omega]
    · by_cases h : idxP w (c :: (LL s).drop (s.size - n)) ≥ 0
      · rw [lsufx_self h]
        exact Ev.congr (fun k => if_pos h) (Ev.now _)
      · rw [lsufx_not h]
        exact Ev.congr (fun k => if_neg h) ih'
theorem rlong_ev (hs : srt w) (hl : (paths w).length ≤ 8796093022208) (s : ByteArray) (hsz : s.size ≤ 4611686018427387904) : Ev (fun k => juratref17_Longest.f k (paths w) s (s.size : Int)) (idxP w (lsufx w (LL s))) := by
  have := rlong_l0 hs hl s hsz (s.size : Int) (Int.le_refl _) s.size (Nat.le_refl _)
  rw [Nat.sub_self, List.drop_zero] at this
  exact this
end
end Go.Proofs.Ytbkcjeopcjghgaa.Base

/- Proved here: what Go functions of this seat compute, or a law of it; no condition beyond the statement's own. Written for this claim by a program of this session (wip/myprint.py) over the kit's print.py. -/
namespace Go.Proofs.Ytbkcjeopcjghgaa.P
open Go.RowKit Go.Proofs.YtbkcjeopcjghgaaW.PrintWords Go.Proofs.YtbkcjeopcjghgaaW.PrintLast Go.Proofs.YtbkcjeopcjghgaaW.PrintMore
attribute [local go_sem] max2_int min2_int max_two min_two max_three min_three max_four min_four   -- for this text's walks alone
set_option linter.unusedVariables false
set_option linter.unusedSimpArgs false

/-! ### juratref17_Step: function 24 -/
def juratref17_Step.f (k : Nat) (l0 : List ByteArray) (a1 : Int) (a2 : Int) : Option (Int) := if 0 ≤ a1 then (if a1 < (l0.length : Int) then ((some (([a2] : List Int) : List Int)).bind fun y270 => (if (rdOf ByteArray.empty l0 a1).size + (strOfNums y270).size ≤ 9223372036854775807 then ((juratref17_Longest.f k l0 ((rdOf ByteArray.empty l0 a1) ++ (strOfNums y270)) (((rdOf ByteArray.empty l0 a1) ++ (strOfNums y270)).size : Int)).bind fun t273 => (some t273)) else (none))) else (none)) else (none)
theorem juratref17_Step.mono : ∀ a0 a1 a2 k, LeO (juratref17_Step.f k a0 a1 a2) (juratref17_Step.f (k + 1) a0 a1 a2) := by
  intro a0 a1 a2 k
  unfold juratref17_Step.f
  repeat' first
      | (with_reducible exact juratref17_Longest.mono _ _ _ _)
      | (with_reducible exact LeO.refl _)
      | (with_reducible exact LeO.none _)
      | (with_reducible refine LeO.ite ?_ ?_)
      | (with_reducible refine LeO.bind ?_ (fun _ => ?_))
      | exact juratref17_Longest.mono _ _ _ _
      | exact LeO.none _
      | refine LeO.ite ?_ ?_
      | refine LeO.bind ?_ (fun _ => ?_)
def juratref17_Step.T1 : Bool × List (List Nat × List Nat) := (true, [([], []), ([], []), ([0, 1], [0, 1]), ([2], [2]), ([], []), ([4], [4]), ([5], [5]), ([3, 6], [3, 6]), ([7, 0, 1, 2, 3, 4, 5, 6, 7], [7])])
def juratref17_Step.B1 : List Nat := [0, 0, 3, 7, 0, 16, 48, 127, 255]
theorem juratref17_Step.tab1 : rtab .any (opsOf Try.f24 1) = juratref17_Step.T1 := by kernel_rfl
theorem juratref17_Step.bits1 : waitsOk juratref17_Step.T1.2 juratref17_Step.B1 = true := by kernel_rfl
set_option maxHeartbeats 8000000 in
set_option maxRecDepth 100000 in
theorem juratref17_Step.calls (k : Nat) (A0 : Option Addr) (c0 : Nat) (l0 : List ByteArray) (a1 : Int) (a2 : Int) (r : Int) (w : World) (hr0 : Kd.C Kd.string w A0 l0.length l0) (hc0 : l0.length ≤ c0) (h : juratref17_Step.f k l0 a1 a2 = some r) :
    Calls Try.prog 24 #[.slice A0 l0.length c0, .int .i64 a1, .int .u8 a2] w fun e w' => e = .returned (.int .i64 r) ∧ Below w.heap.size w w' := by
  have HR0 := Aside0.mk hr0
  have HC0 := Aside0.mk hc0
  clear hr0 hc0
  have HB := Aside0.mk (Below.refl w.heap.size w)
  have H : (if 0 ≤ a1 then (if a1 < (l0.length : Int) then ((some (([a2] : List Int) : List Int)).bind fun y270 => (if (rdOf ByteArray.empty l0 a1).size + (strOfNums y270).size ≤ 9223372036854775807 then ((juratref17_Longest.f k l0 ((rdOf ByteArray.empty l0 a1) ++ (strOfNums y270)) (((rdOf ByteArray.empty l0 a1) ++ (strOfNums y270)).size : Int)).bind fun t273 => (some t273)) else (none))) else (none)) else (none)) = some r := h
  clear h
  by_cases c4 : 0 ≤ a1
  · rw [if_pos c4] at H
    have c4b0 : decide (0 ≤ a1) = true := decide_eq_true c4
    clear c4
    by_cases c5 : a1 < (l0.length : Int)
    · rw [if_pos c5] at H
      have c5b0 : decide (a1 < (l0.length : Int)) = true := decide_eq_true c5
      clear c5
      obtain ⟨y270, hy270⟩ : ∃ y_ : List Int, y_ = (([a2] : List Int)) := ⟨_, rfl⟩
      replace H : (if (rdOf ByteArray.empty l0 a1).size + (strOfNums y270).size ≤ 9223372036854775807 then ((juratref17_Longest.f k l0 ((rdOf ByteArray.empty l0 a1) ++ (strOfNums y270)) (((rdOf ByteArray.empty l0 a1) ++ (strOfNums y270)).size : Int)).bind fun t273 => (some t273)) else (none)) = some r := by first | (rw [hy270]; with_reducible exact H) | (have H2_ := (Option.bind_some _ _).symm.trans H; rw [hy270]; with_reducible exact H2_) | (have H2_ := (Option.bind_some _ _).symm.trans H; with_reducible exact H2_) | with_reducible exact H | (rw [hy270]; exact H) | exact H
      have Ny270 := Aside0.mk hy270
      clear hy270
      by_cases c6 : (rdOf ByteArray.empty l0 a1).size + (strOfNums y270).size ≤ 9223372036854775807
      · rw [if_pos c6] at H
        have c6b0 := eq_true c6
        have c6b1 : decide ((rdOf ByteArray.empty l0 a1).size + (strOfNums y270).size ≤ 9223372036854775807) = true := decide_eq_true c6
        try have c6b2 : (9223372036854775807 < (rdOf ByteArray.empty l0 a1).size + (strOfNums y270).size) = False := eq_false (Nat.not_lt.2 c6)
        replace H := Option.bind_eq_some_iff.mp H
        obtain ⟨t273, A70, H⟩ := H
        replace H : (some t273) = some r := H
        have A7 := Aside0.mk A70
        clear A70
        obtain rfl := Option.some.inj H
        go_enter Try.func24, Try.ntmps24
        try go_wp2
        have n0_ := Aside0.mk (below_drew1 HB.out)
        clear HB
        have HB := n0_
        clear n0_
        have p269 : 0 ≤ (a1 : Int) := of_decide_eq_true (by first | (with_reducible assumption) | assumption)
        have q269 : a1 < (l0.length : Int) := of_decide_eq_true (by first | (with_reducible assumption) | assumption)
        obtain ⟨ad269, e269, hx269_0⟩ := Kd.at_string HR0.out a1 p269 q269
        have hw269_0 := hx269_0
        cases e269
        replace hx269_0 := (HB.out.cell (World.block_lt_of_cell? w _ hx269_0)).trans hx269_0
        replace p269 := eq_true p269
        replace q269 := eq_true q269
        refine start_ (n := 9) (S := fun w' => w'.cell? (ad269.add (a1).toNat) = some (.string (rdOf ByteArray.empty l0 a1))) (ds := []) #[false, false, false, false, false, false, false, false, false] (by kernel_rfl) rfl rfl (((HB.out.cell (World.block_lt_of_cell? w _ hw269_0)).trans hw269_0)) (fun hHeld => ?_); refine with_tabW juratref17_Step.tab1 juratref17_Step.bits1 (fun HT_ HW_ => ?_)
        generalize w.drew = w8 at HB hx269_0 hHeld ⊢
        refine pure_ (i := 0) (N := some 8) (v := ?_) (a' := ?_) #[true, false, false, false, false, false, false, false, false] rfl rfl (any_of HT_.out (by kernel_rfl)) (fun _ _ _ h => h) (Or.inl ⟨by rfl, ?_⟩) ?_ ?_
        rotate_left
        · intro w'
          go_simp
          with_reducible rfl
        rotate_left
        · simp only [Act.put, List.setIfInBounds_toArray, List.set_cons_zero, List.set_cons_succ, i64_w, i32_w]
          rfl
        refine pure_ (i := 1) (N := some 9) (v := ?_) (a' := ?_) #[true, true, false, false, false, false, false, false, false] rfl rfl (any_of HT_.out (by kernel_rfl)) (fun _ _ _ h => h) (Or.inl ⟨by rfl, ?_⟩) ?_ ?_
        rotate_left
        · intro w'
          go_simp
          with_reducible rfl
        rotate_left
        · simp only [Act.put, List.setIfInBounds_toArray, List.set_cons_zero, List.set_cons_succ, i64_w, i32_w]
          rfl
        refine pure_ (i := 2) (N := some 10) (v := ?_) (a' := ?_) #[true, true, true, false, false, false, false, false, false] rfl rfl (any_of HT_.out (by kernel_rfl)) (fun _ _ _ h => h) (Or.inl ⟨by rfl, ?_⟩) ?_ ?_
        rotate_left
        · intro w'
          go_simp
          with_reducible rfl
        rotate_left
        · simp only [Act.put, List.setIfInBounds_toArray, List.set_cons_zero, List.set_cons_succ, i64_w, i32_w]
          rfl
        refine pure_ (i := 4) (N := some 12) (v := ?_) (a' := ?_) #[true, true, true, false, true, false, false, false, false] rfl rfl (any_of HT_.out (by kernel_rfl)) (fun _ _ _ h => h) (Or.inl ⟨by rfl, ?_⟩) ?_ ?_
        rotate_left
        · intro w'
          go_simp
          with_reducible rfl
        rotate_left
        · simp only [Act.put, List.setIfInBounds_toArray, List.set_cons_zero, List.set_cons_succ, i64_w, i32_w]
          rfl
        refine take_ (i := 3) (N := some 11) (v := ?_) (a' := ?_) #[true, true, true, true, true, false, false, false, false] rfl rfl (take_ofW HT_.out HW_.out (by kernel_rfl)) (fun _ _ _ h => h) (Or.inl ⟨by rfl, ?_⟩) hHeld ?_ ?_
        rotate_left
        · intro w' s0
          go_simp
          with_reducible rfl
        rotate_left
        · simp only [Act.put, List.setIfInBounds_toArray, List.set_cons_zero, List.set_cons_succ, i64_w, i32_w]
          rfl
        refine one_ (i := 5) (N := some 13) #[true, true, true, true, true, true, false, false, false] rfl rfl (one_of HT_.out (by kernel_rfl)) (by decide) (fun K hK => ?_)
        refine Kd.R_lit_step (Kd.int .u8) _ 5 ?hg (N := 13) ?hd (xs := ([a2] : List Int)) (inner := [.int .u8 a2]) (ok := fun _ => True) (okp := fun _ => True) ?hr ?hp (fun _ hk => hk) trivial (Below.refl _ _) (Nat.le_refl _) (by simp) ?_; (case hd => rfl); (case hg => rfl); (case hr => first | (go_simp; done) | (go_simp; rfl)); (case hp => exact (Reps.one (show Kd.M (Kd.int .u8) _ _ _ a2 [.int .u8 a2] from rfl) (Reps.none _ _)))
        intro v271 w9 ho10 hb hg_ hnew_
        clear hg_ hnew_
        (first | rw [← Ny270.out] at ho10 | (simp only [Int.reduceToNat] at ho10; rw [← Ny270.out] at ho10))
        have n0_ := Aside0.mk (Kd.R_lower ho10 (below_size (by repeat (first | (with_reducible first | exact HB.out | apply below_alloc | apply pw_below_drewN | apply below_drew1) | exact HB.out))))
        have n1_ := Aside0.mk (below_step (by repeat (first | (with_reducible first | exact HB.out | apply below_alloc | apply pw_below_drewN | apply below_drew1) | exact HB.out)) hb)
        clear HB
        have HO272 := n0_
        have HB := n1_
        clear n0_ n1_
        clear hb ho10
        refine hK.out _ _ (((HB.out.cell (World.block_lt_of_cell? w _ hw269_0)).trans hw269_0)) (fun hHeld => ?_)
        clear hK K
        refine norm_ (a' := ?_) ?_ ?_
        rotate_left
        · show Act.put _ (some 13) _ = _
          simp only [Act.put, List.setIfInBounds_toArray, List.set_cons_zero, List.set_cons_succ, i64_w, i32_w]
          rfl
        refine one_ (i := 6) (N := some 14) #[true, true, true, true, true, true, true, false, false] rfl rfl (one_of HT_.out (by kernel_rfl)) (by decide) (fun K hK => ?_)
        have hcv11 := own_string (P := Try.prog) Try.underlying80 Try.underlying5 Try.underlying9 (Kd.own_of_R HO272.out)
        refine value_ (w1 := ?_) (v := ?_) (by rfl) rfl ?_ ?_
        rotate_left 2
        · go_simp
          constructor
          · rfl
          · rfl
        clear hcv11
        refine hK.out _ _ (((HB.out.cell (World.block_lt_of_cell? w _ hw269_0)).trans hw269_0)) (fun hHeld => ?_)
        clear hK K
        refine norm_ (a' := ?_) ?_ ?_
        rotate_left
        · show Act.put _ (some 14) _ = _
          simp only [Act.put, List.setIfInBounds_toArray, List.set_cons_zero, List.set_cons_succ, i64_w, i32_w]
          rfl
        refine pure_ (i := 7) (N := some 15) (v := ?_) (a' := ?_) #[true, true, true, true, true, true, true, true, false] rfl rfl (any_of HT_.out (by kernel_rfl)) (fun _ _ _ h => h) (Or.inl ⟨by rfl, ?_⟩) ?_ ?_
        rotate_left
        · intro w'
          go_simp
          with_reducible rfl
        rotate_left
        · simp only [Act.put, List.setIfInBounds_toArray, List.set_cons_zero, List.set_cons_succ, i64_w, i32_w]
          rfl
        refine pure_ (i := 8) (N := some 7) (v := ?_) (a' := ?_) #[true, true, true, true, true, true, true, true, true] rfl rfl (any_of HT_.out (by kernel_rfl)) (fun _ _ _ h => h) (Or.inl ⟨by rfl, ?_⟩) ?_ ?_
        rotate_left
        · intro w'
          go_simp
          with_reducible rfl
        rotate_left
        · simp only [Act.put, List.setIfInBounds_toArray, List.set_cons_zero, List.set_cons_succ, i64_w, i32_w]
          rfl
        refine done_ (done_of HT_.out (by kernel_rfl)) ?_
        try go_wp2_with (first | ((with_reducible refine gate_callee (f := 14) rfl ?_); refine goesL_ (some 20) rfl rfl Try.func14 (by kernel_rfl) rfl #[.slice (some ad269) l0.length c0, .string ((rdOf ByteArray.empty l0 a1) ++ (strOfNums y270)), .int .i64 (((rdOf ByteArray.empty l0 a1) ++ (strOfNums y270)).size : Int)] rfl (by (try simp only [List.map_toArray, List.map_cons, List.map_nil]); first | done | rfl | (simp only [List.length_drop, List.length_take]; rfl) | (rw [ByteArray.size_append, Int.natCast_add]; rfl)) ?_; (with_reducible refine (juratref17_Longest.calls k _ _ l0 ((rdOf ByteArray.empty l0 a1) ++ (strOfNums y270)) (((rdOf ByteArray.empty l0 a1) ++ (strOfNums y270)).size : Int) t273 _ ?side1 ?side2 A7.out).mono ?_); (case side1 => repeat (first | exact (Kd.C_below HR0.out HB.out) | (with_reducible refine Kd.C_alloc ?_ _) | (with_reducible refine Kd.C_drewN ?_ _) | (with_reducible refine Kd.C_drew ?_))); (case side2 => exact HC0.out); rintro e w' ⟨rfl, ⟨nd, rfl⟩⟩; refine ⟨_, rfl, ?_⟩))
        go_ret
        exact ⟨by first | rfl | (simp [errW_none, errW_some] <;> rfl) | (simp [*, errW_none, errW_some] <;> rfl), by repeat (first | (with_reducible first | exact HB.out | apply below_alloc | apply pw_below_drewN | apply below_drew1) | exact HB.out)⟩
      · rw [if_neg c6] at H
        exact absurd H (by simp)
    · rw [if_neg c5] at H
      exact absurd H (by simp)
  · rw [if_neg c4] at H
    exact absurd H (by simp)

end Go.Proofs.Ytbkcjeopcjghgaa.P

/- Layer 17's reference: where a byte leads; no condition beyond the sizes that stand in each statement. -/
namespace Go.Proofs.Ytbkcjeopcjghgaa.Base
open Go Go.RowKit Go.Proofs.YtbkcjeopcjghgaaW.PrintWords Go.Proofs.YtbkcjeopcjghgaaW.PrintMore Go.Proofs.Ytbkcjeopcjghgaa.P
set_option linter.unusedVariables false

section
variable {w : List ByteArray}
theorem rstep_ev (hs : srt w) (hl : (paths w).length ≤ 8796093022208) {i : Nat} {n : NodeD} (h : (trN w)[i]? = some n) (hsz : n.path.length ≤ 65536) (c : UInt8) : Ev (fun k => juratref17_Step.f k (paths w) (i : Int) (c.toNat : Int)) (idxP w (stepP w n.path c)) := by
  have hi : i < (paths w).length := by rw [paths_length]; exact (List.getElem?_eq_some_iff.1 h).1
  have e1 : rdOf ByteArray.empty (paths w) (i : Int) = strP n.path := by
    show (paths w).getD (i : Int).toNat ByteArray.empty = _
    rw [Int.toNat_natCast, List.getD_eq_getElem?_getD]
    unfold paths
    rw [List.getElem?_map, h]
    rfl
  have e2 : strP n.path ++ strOfNums [(c.toNat : Int)] = strP (n.path ++ [c]) := LL_inj (by
    rw [LL_append, LL_strP, LL_strP]
    congr 1
    show [UInt8.ofNat (c.toNat : Int).toNat] = [c]
    rw [Int.toNat_natCast, UInt8.ofNat_toNat])
  have e3 : (strP (n.path ++ [c])).size = n.path.length + 1 := by rw [strP_size, List.length_append, List.length_singleton]
  have hr := rlong_ev hs hl (strP (n.path ++ [c])) (by omega)
  rw [LL_strP] at hr
  have e4 : (strP n.path).size + (strOfNums [(c.toNat : Int)]).size ≤ 9223372036854775807 := by
    have : (strOfNums [(c.toNat : Int)]).size = 1 := rfl
    rw [this, strP_size]
    omega
  refine Ev.congr (f := fun k => (juratref17_Longest.f k (paths w) (strP (n.path ++ [c])) ((strP (n.path ++ [c])).size : Int)).bind fun t => some t) (fun k => ?_) (Ev.bind hr (Ev.now _))
  unfold juratref17_Step.f
  rw [if_pos (by omega), if_pos (by omega), Option.bind_some, e1, if_pos e4, e2]
end
end Go.Proofs.Ytbkcjeopcjghgaa.Base

/- Proved here: what Go functions of this seat compute, or a law of it; no condition beyond the statement's own. Written for this claim by a program of this session (wip/myprint.py) over the kit's print.py. -/
namespace Go.Proofs.Ytbkcjeopcjghgaa.P
open Go.RowKit Go.Proofs.YtbkcjeopcjghgaaW.PrintWords Go.Proofs.YtbkcjeopcjghgaaW.PrintLast Go.Proofs.YtbkcjeopcjghgaaW.PrintMore
attribute [local go_sem] max2_int min2_int max_two min_two max_three min_three max_four min_four   -- for this text's walks alone
set_option linter.unusedVariables false
set_option linter.unusedSimpArgs false

/-! ### juratref20_Next: function 23 -/
def juratref20_Next.f (k : Nat) (l0 : List ByteArray) (a1 : Int) (a2 : Int) : Option (Int) := if a1 < 0 then (some (-1)) else (if a1 ≥ (l0.length : Int) then (some (-1)) else (if 0 ≤ a1 then (if a1 < (l0.length : Int) then ((some (([a2] : List Int) : List Int)).bind fun y265 => (if (rdOf ByteArray.empty l0 a1).size + (strOfNums y265).size ≤ 9223372036854775807 then ((juratref16_Find.f k l0 ((rdOf ByteArray.empty l0 a1) ++ (strOfNums y265))).bind fun t268 => (some t268)) else (none))) else (none)) else (none)))
theorem juratref20_Next.mono : ∀ a0 a1 a2 k, LeO (juratref20_Next.f k a0 a1 a2) (juratref20_Next.f (k + 1) a0 a1 a2) := by
  intro a0 a1 a2 k
  unfold juratref20_Next.f
  repeat' first
      | (with_reducible exact juratref16_Find.mono _ _ _)
      | (with_reducible exact LeO.refl _)
      | (with_reducible exact LeO.none _)
      | (with_reducible refine LeO.ite ?_ ?_)
      | (with_reducible refine LeO.bind ?_ (fun _ => ?_))
      | exact juratref16_Find.mono _ _ _
      | exact LeO.none _
      | refine LeO.ite ?_ ?_
      | refine LeO.bind ?_ (fun _ => ?_)
def juratref20_Next.T3 : Bool × List (List Nat × List Nat) := (true, [([], []), ([], []), ([], []), ([1, 2], [1, 2]), ([3], [3]), ([], []), ([5], [5]), ([6], [6]), ([4, 7], [4, 7]), ([0, 8], [0, 8]), ([9, 9, 0, 1, 2, 3, 4, 5, 6, 7, 8, 9], [9])])
def juratref20_Next.B3 : List Nat := [0, 0, 0, 6, 14, 0, 32, 96, 254, 511, 1023]
theorem juratref20_Next.tab3 : rtab .any (opsOf Try.f23 3) = juratref20_Next.T3 := by kernel_rfl
theorem juratref20_Next.bits3 : waitsOk juratref20_Next.T3.2 juratref20_Next.B3 = true := by kernel_rfl
set_option maxHeartbeats 8000000 in
set_option maxRecDepth 100000 in
theorem juratref20_Next.calls (k : Nat) (A0 : Option Addr) (c0 : Nat) (l0 : List ByteArray) (a1 : Int) (a2 : Int) (r : Int) (w : World) (hr0 : Kd.C Kd.string w A0 l0.length l0) (hc0 : l0.length ≤ c0) (h : juratref20_Next.f k l0 a1 a2 = some r) :
    Calls Try.prog 23 #[.slice A0 l0.length c0, .int .i64 a1, .int .u8 a2] w fun e w' => e = .returned (.int .i64 r) ∧ Below w.heap.size w w' := by
  have HR0 := Aside0.mk hr0
  have HC0 := Aside0.mk hc0
  clear hr0 hc0
  have HB := Aside0.mk (Below.refl w.heap.size w)
  have H : (if a1 < 0 then (some (-1)) else (if a1 ≥ (l0.length : Int) then (some (-1)) else (if 0 ≤ a1 then (if a1 < (l0.length : Int) then ((some (([a2] : List Int) : List Int)).bind fun y265 => (if (rdOf ByteArray.empty l0 a1).size + (strOfNums y265).size ≤ 9223372036854775807 then ((juratref16_Find.f k l0 ((rdOf ByteArray.empty l0 a1) ++ (strOfNums y265))).bind fun t268 => (some t268)) else (none))) else (none)) else (none)))) = some r := h
  clear h
  by_cases c4 : a1 < 0
  · rw [if_pos c4] at H
    have c4b0 : decide (a1 < 0) = true := decide_eq_true c4
    clear c4
    obtain rfl := Option.some.inj H
    go_enter Try.func23, Try.ntmps23
    go_wp2
    go_ret
    exact ⟨by first | rfl | (simp [errW_none, errW_some] <;> rfl) | (simp [*, errW_none, errW_some] <;> rfl), by repeat (first | (with_reducible first | exact HB.out | apply below_alloc | apply pw_below_drewN | apply below_drew1) | exact HB.out)⟩
  · rw [if_neg c4] at H
    have c4b0 : decide (a1 < 0) = false := decide_eq_false c4
    clear c4
    by_cases c5 : a1 ≥ (l0.length : Int)
    · rw [if_pos c5] at H
      have c5b0 : decide ((l0.length : Int) ≤ a1) = true := decide_eq_true c5
      clear c5
      obtain rfl := Option.some.inj H
      go_enter Try.func23, Try.ntmps23
      go_wp2
      go_ret
      exact ⟨by first | rfl | (simp [errW_none, errW_some] <;> rfl) | (simp [*, errW_none, errW_some] <;> rfl), by repeat (first | (with_reducible first | exact HB.out | apply below_alloc | apply pw_below_drewN | apply below_drew1) | exact HB.out)⟩
    · rw [if_neg c5] at H
      have c5b0 : decide ((l0.length : Int) ≤ a1) = false := decide_eq_false c5
      clear c5
      by_cases c6 : 0 ≤ a1
      · rw [if_pos c6] at H
        have c6b0 : decide (0 ≤ a1) = true := decide_eq_true c6
        clear c6
        by_cases c7 : a1 < (l0.length : Int)
        · rw [if_pos c7] at H
          have c7b0 : decide (a1 < (l0.length : Int)) = true := decide_eq_true c7
          clear c7
          obtain ⟨y265, hy265⟩ : ∃ y_ : List Int, y_ = (([a2] : List Int)) := ⟨_, rfl⟩
          replace H : (if (rdOf ByteArray.empty l0 a1).size + (strOfNums y265).size ≤ 9223372036854775807 then ((juratref16_Find.f k l0 ((rdOf ByteArray.empty l0 a1) ++ (strOfNums y265))).bind fun t268 => (some t268)) else (none)) = some r := by first | (rw [hy265]; with_reducible exact H) | (have H2_ := (Option.bind_some _ _).symm.trans H; rw [hy265]; with_reducible exact H2_) | (have H2_ := (Option.bind_some _ _).symm.trans H; with_reducible exact H2_) | with_reducible exact H | (rw [hy265]; exact H) | exact H
          have Ny265 := Aside0.mk hy265
          clear hy265
          by_cases c8 : (rdOf ByteArray.empty l0 a1).size + (strOfNums y265).size ≤ 9223372036854775807
          · rw [if_pos c8] at H
            have c8b0 := eq_true c8
            have c8b1 : decide ((rdOf ByteArray.empty l0 a1).size + (strOfNums y265).size ≤ 9223372036854775807) = true := decide_eq_true c8
            try have c8b2 : (9223372036854775807 < (rdOf ByteArray.empty l0 a1).size + (strOfNums y265).size) = False := eq_false (Nat.not_lt.2 c8)
            replace H := Option.bind_eq_some_iff.mp H
            obtain ⟨t268, A90, H⟩ := H
            replace H : (some t268) = some r := H
            have A9 := Aside0.mk A90
            clear A90
            obtain rfl := Option.some.inj H
            go_enter Try.func23, Try.ntmps23
            try go_wp2
            have n0_ := Aside0.mk (below_drew1 HB.out)
            clear HB
            have HB := n0_
            clear n0_
            have p264 : 0 ≤ (a1 : Int) := of_decide_eq_true (by first | (with_reducible assumption) | assumption)
            have q264 : a1 < (l0.length : Int) := of_decide_eq_true (by first | (with_reducible assumption) | assumption)
            obtain ⟨ad264, e264, hx264_0⟩ := Kd.at_string HR0.out a1 p264 q264
            have hw264_0 := hx264_0
            cases e264
            replace hx264_0 := (HB.out.cell (World.block_lt_of_cell? w _ hx264_0)).trans hx264_0
            replace p264 := eq_true p264
            replace q264 := eq_true q264
            refine start_ (n := 11) (S := fun w' => w'.cell? (ad264.add (a1).toNat) = some (.string (rdOf ByteArray.empty l0 a1))) (ds := []) #[false, false, false, false, false, false, false, false, false, false, false] (by kernel_rfl) rfl rfl (((HB.out.cell (World.block_lt_of_cell? w _ hw264_0)).trans hw264_0)) (fun hHeld => ?_); refine with_tabW juratref20_Next.tab3 juratref20_Next.bits3 (fun HT_ HW_ => ?_)
            generalize w.drew = w10 at HB hx264_0 hHeld ⊢
            refine pure_ (i := 0) (N := some 15) (v := ?_) (a' := ?_) #[true, false, false, false, false, false, false, false, false, false, false] rfl rfl (any_of HT_.out (by kernel_rfl)) (fun _ _ _ h => h) (Or.inl ⟨by rfl, ?_⟩) ?_ ?_
            rotate_left
            · intro w'
              go_simp
              with_reducible rfl
            rotate_left
            · simp only [Act.put, List.setIfInBounds_toArray, List.set_cons_zero, List.set_cons_succ, i64_w, i32_w]
              rfl
            refine pure_ (i := 1) (N := some 16) (v := ?_) (a' := ?_) #[true, true, false, false, false, false, false, false, false, false, false] rfl rfl (any_of HT_.out (by kernel_rfl)) (fun _ _ _ h => h) (Or.inl ⟨by rfl, ?_⟩) ?_ ?_
            rotate_left
            · intro w'
              go_simp
              with_reducible rfl
            rotate_left
            · simp only [Act.put, List.setIfInBounds_toArray, List.set_cons_zero, List.set_cons_succ, i64_w, i32_w]
              rfl
            refine pure_ (i := 2) (N := some 17) (v := ?_) (a' := ?_) #[true, true, true, false, false, false, false, false, false, false, false] rfl rfl (any_of HT_.out (by kernel_rfl)) (fun _ _ _ h => h) (Or.inl ⟨by rfl, ?_⟩) ?_ ?_
            rotate_left
            · intro w'
              go_simp
              with_reducible rfl
            rotate_left
            · simp only [Act.put, List.setIfInBounds_toArray, List.set_cons_zero, List.set_cons_succ, i64_w, i32_w]
              rfl
            refine pure_ (i := 3) (N := some 18) (v := ?_) (a' := ?_) #[true, true, true, true, false, false, false, false, false, false, false] rfl rfl (any_of HT_.out (by kernel_rfl)) (fun _ _ _ h => h) (Or.inl ⟨by rfl, ?_⟩) ?_ ?_
            rotate_left
            · intro w'
              go_simp
              with_reducible rfl
            rotate_left
            · simp only [Act.put, List.setIfInBounds_toArray, List.set_cons_zero, List.set_cons_succ, i64_w, i32_w]
              rfl
            refine pure_ (i := 5) (N := some 20) (v := ?_) (a' := ?_) #[true, true, true, true, false, true, false, false, false, false, false] rfl rfl (any_of HT_.out (by kernel_rfl)) (fun _ _ _ h => h) (Or.inl ⟨by rfl, ?_⟩) ?_ ?_
            rotate_left
            · intro w'
              go_simp
              with_reducible rfl
            rotate_left
            · simp only [Act.put, List.setIfInBounds_toArray, List.set_cons_zero, List.set_cons_succ, i64_w, i32_w]
              rfl
            refine take_ (i := 4) (N := some 19) (v := ?_) (a' := ?_) #[true, true, true, true, true, true, false, false, false, false, false] rfl rfl (take_ofW HT_.out HW_.out (by kernel_rfl)) (fun _ _ _ h => h) (Or.inl ⟨by rfl, ?_⟩) hHeld ?_ ?_
            rotate_left
            · intro w' s0
              go_simp
              with_reducible rfl
            rotate_left
            · simp only [Act.put, List.setIfInBounds_toArray, List.set_cons_zero, List.set_cons_succ, i64_w, i32_w]
              rfl
            refine one_ (i := 6) (N := some 21) #[true, true, true, true, true, true, true, false, false, false, false] rfl rfl (one_of HT_.out (by kernel_rfl)) (by decide) (fun K hK => ?_)
            refine Kd.R_lit_step (Kd.int .u8) _ 5 ?hg (N := 21) ?hd (xs := ([a2] : List Int)) (inner := [.int .u8 a2]) (ok := fun _ => True) (okp := fun _ => True) ?hr ?hp (fun _ hk => hk) trivial (Below.refl _ _) (Nat.le_refl _) (by simp) ?_; (case hd => rfl); (case hg => rfl); (case hr => first | (go_simp; done) | (go_simp; rfl)); (case hp => exact (Reps.one (show Kd.M (Kd.int .u8) _ _ _ a2 [.int .u8 a2] from rfl) (Reps.none _ _)))
            intro v266 w11 ho12 hb hg_ hnew_
            clear hg_ hnew_
            (first | rw [← Ny265.out] at ho12 | (simp only [Int.reduceToNat] at ho12; rw [← Ny265.out] at ho12))
            have n0_ := Aside0.mk (Kd.R_lower ho12 (below_size (by repeat (first | (with_reducible first | exact HB.out | apply below_alloc | apply pw_below_drewN | apply below_drew1) | exact HB.out))))
            have n1_ := Aside0.mk (below_step (by repeat (first | (with_reducible first | exact HB.out | apply below_alloc | apply pw_below_drewN | apply below_drew1) | exact HB.out)) hb)
            clear HB
            have HO267 := n0_
            have HB := n1_
            clear n0_ n1_
            clear hb ho12
            refine hK.out _ _ (((HB.out.cell (World.block_lt_of_cell? w _ hw264_0)).trans hw264_0)) (fun hHeld => ?_)
            clear hK K
            refine norm_ (a' := ?_) ?_ ?_
            rotate_left
            · show Act.put _ (some 21) _ = _
              simp only [Act.put, List.setIfInBounds_toArray, List.set_cons_zero, List.set_cons_succ, i64_w, i32_w]
              rfl
            refine one_ (i := 7) (N := some 22) #[true, true, true, true, true, true, true, true, false, false, false] rfl rfl (one_of HT_.out (by kernel_rfl)) (by decide) (fun K hK => ?_)
            have hcv13 := own_string (P := Try.prog) Try.underlying80 Try.underlying5 Try.underlying9 (Kd.own_of_R HO267.out)
            refine value_ (w1 := ?_) (v := ?_) (by rfl) rfl ?_ ?_
            rotate_left 2
            · go_simp
              constructor
              · rfl
              · rfl
            clear hcv13
            refine hK.out _ _ (((HB.out.cell (World.block_lt_of_cell? w _ hw264_0)).trans hw264_0)) (fun hHeld => ?_)
            clear hK K
            refine norm_ (a' := ?_) ?_ ?_
            rotate_left
            · show Act.put _ (some 22) _ = _
              simp only [Act.put, List.setIfInBounds_toArray, List.set_cons_zero, List.set_cons_succ, i64_w, i32_w]
              rfl
            refine pure_ (i := 8) (N := some 23) (v := ?_) (a' := ?_) #[true, true, true, true, true, true, true, true, true, false, false] rfl rfl (any_of HT_.out (by kernel_rfl)) (fun _ _ _ h => h) (Or.inl ⟨by rfl, ?_⟩) ?_ ?_
            rotate_left
            · intro w'
              go_simp
              with_reducible rfl
            rotate_left
            · simp only [Act.put, List.setIfInBounds_toArray, List.set_cons_zero, List.set_cons_succ, i64_w, i32_w]
              rfl
            refine one_ (i := 9) (N := some 24) #[true, true, true, true, true, true, true, true, true, true, false] rfl rfl (one_of HT_.out (by kernel_rfl)) (by decide) (fun K hK => ?_)
            refine goes_ Try.func49 (by kernel_rfl) rfl #[.slice (some ad264) l0.length c0, .string ((rdOf ByteArray.empty l0 a1) ++ (strOfNums y265))] (by rfl) rfl rfl (by (try simp only [List.map_toArray, List.map_cons, List.map_nil]); first | done | rfl | (simp only [List.length_drop, List.length_take]; rfl)) ?_
            with_reducible refine (juratref16_Find.calls k _ _ l0 ((rdOf ByteArray.empty l0 a1) ++ (strOfNums y265)) t268 _ ?side1 ?side2 A9.out).mono ?_
            (case side1 => repeat (first | exact (Kd.C_below HR0.out HB.out) | (with_reducible refine Kd.C_alloc ?_ _) | (with_reducible refine Kd.C_drewN ?_ _) | (with_reducible refine Kd.C_drew ?_)))
            (case side2 => exact HC0.out)
            rintro e w' ⟨rfl, ⟨nd, rfl⟩⟩
            refine ⟨_, rfl, ?_⟩
            refine hK.out _ _ (((HB.out.cell (World.block_lt_of_cell? w _ hw264_0)).trans hw264_0)) (fun hHeld => ?_)
            clear hK K
            refine norm_ (a' := ?_) ?_ ?_
            rotate_left
            · show Act.put _ (some 24) _ = _
              simp only [Act.put, List.setIfInBounds_toArray, List.set_cons_zero, List.set_cons_succ, i64_w, i32_w]
              rfl
            refine pure_ (i := 10) (N := some 6) (v := ?_) (a' := ?_) #[true, true, true, true, true, true, true, true, true, true, true] rfl rfl (any_of HT_.out (by kernel_rfl)) (fun _ _ _ h => h) (Or.inl ⟨by rfl, ?_⟩) ?_ ?_
            rotate_left
            · intro w'
              go_simp
              with_reducible rfl
            rotate_left
            · simp only [Act.put, List.setIfInBounds_toArray, List.set_cons_zero, List.set_cons_succ, i64_w, i32_w]
              rfl
            refine done_ (done_of HT_.out (by kernel_rfl)) ?_
            try go_wp2
            go_ret
            exact ⟨by first | rfl | (simp [errW_none, errW_some] <;> rfl) | (simp [*, errW_none, errW_some] <;> rfl), by repeat (first | (with_reducible first | exact HB.out | apply below_alloc | apply pw_below_drewN | apply below_drew1) | exact HB.out)⟩
          · rw [if_neg c8] at H
            exact absurd H (by simp)
        · rw [if_neg c7] at H
          exact absurd H (by simp)
      · rw [if_neg c6] at H
        exact absurd H (by simp)

end Go.Proofs.Ytbkcjeopcjghgaa.P

/- Proved here: what Go functions of this seat compute, or a law of it; no condition beyond the statement's own. Written for this claim by a program of this session (wip/myprint.py) over the kit's print.py. -/
namespace Go.Proofs.Ytbkcjeopcjghgaa.P
open Go.RowKit Go.Proofs.YtbkcjeopcjghgaaW.PrintWords Go.Proofs.YtbkcjeopcjghgaaW.PrintLast Go.Proofs.YtbkcjeopcjghgaaW.PrintMore
attribute [local go_sem] max2_int min2_int max_two min_two max_three min_three max_four min_four   -- for this text's walks alone
set_option linter.unusedVariables false
set_option linter.unusedSimpArgs false

/-! ### juratref20_Leading: function 21 -/
def juratref20_Leading.l0 : Nat → List ByteArray → Int → Int → Option (Int)
  | 0, _, _, _ => none
  | k + 1, x0, x3, x4 => if x4 < (x0.length : Int) then ((juratref16_Bytes.f k x0 x4).bind fun t263 => (if (t263.size : Int) > 0 then (juratref20_Leading.l0 k x0 (wrap64 (x3 + 1)) (wrap64 (x4 + 1))) else (juratref20_Leading.l0 k x0 x3 (wrap64 (x4 + 1))))) else (some x3)
def juratref20_Leading.f (k : Nat) (l0 : List ByteArray) : Option (Int) := juratref20_Leading.l0 k l0 0 0
theorem juratref20_Leading.mono_l : ∀ k, (∀ y0 y1 y2, LeO (juratref20_Leading.l0 k y0 y1 y2) (juratref20_Leading.l0 (k + 1) y0 y1 y2))
  | 0 => fun _ _ _ r h => by simp [juratref20_Leading.l0] at h
  | k + 1 => by
    have ih0 := juratref20_Leading.mono_l k
    · intro y0 y1 y2
      unfold juratref20_Leading.l0
      repeat' first
      | (with_reducible exact ih0 _ _ _)
      | (with_reducible exact juratref16_Bytes.mono _ _ _)
      | (with_reducible exact LeO.refl _)
      | (with_reducible exact LeO.none _)
      | (with_reducible refine LeO.ite ?_ ?_)
      | (with_reducible refine LeO.bind ?_ (fun _ => ?_))
      | exact ih0 _ _ _
      | exact juratref16_Bytes.mono _ _ _
      | exact LeO.none _
      | refine LeO.ite ?_ ?_
      | refine LeO.bind ?_ (fun _ => ?_)
theorem juratref20_Leading.mono : ∀ a0 k, LeO (juratref20_Leading.f k a0) (juratref20_Leading.f (k + 1) a0) := by
  intro a0 k
  have ih0 := juratref20_Leading.mono_l k
  unfold juratref20_Leading.f
  repeat' first
      | (with_reducible exact ih0 _ _ _)
      | (with_reducible exact juratref16_Bytes.mono _ _ _)
      | (with_reducible exact LeO.refl _)
      | (with_reducible exact LeO.none _)
      | (with_reducible refine LeO.ite ?_ ?_)
      | (with_reducible refine LeO.bind ?_ (fun _ => ?_))
      | exact ih0 _ _ _
      | exact juratref16_Bytes.mono _ _ _
      | exact LeO.none _
      | refine LeO.ite ?_ ?_
      | refine LeO.bind ?_ (fun _ => ?_)
set_option maxHeartbeats 8000000 in
set_option maxRecDepth 100000 in
theorem juratref20_Leading.calls (k : Nat) (A0 : Option Addr) (c0 : Nat) (l0 : List ByteArray) (r : Int) (w : World) (hr0 : Kd.C Kd.string w A0 l0.length l0) (hc0 : l0.length ≤ c0) (h : juratref20_Leading.f k l0 = some r) :
    Calls Try.prog 21 #[.slice A0 l0.length c0] w fun e w' => e = .returned (.int .i64 r) ∧ Below w.heap.size w w' := by
  have HR0 := Aside0.mk hr0
  have HC0 := Aside0.mk hc0
  clear hr0 hc0
  have HB := Aside0.mk (Below.refl w.heap.size w)
  have H : (juratref20_Leading.l0 k l0 0 0) = some r := h
  clear h
  have H' := Aside0.mk H
  clear H
  go_enter Try.func21, Try.ntmps21
  go_wp2
  go_loopg [3, 4] k (fun kq v3 v4 w' => ∃ (x3_1 : Int) (x4_1 : Int), v3 = .int .i64 x3_1 ∧ v4 = .int .i64 x4_1 ∧ Aside0 (juratref20_Leading.l0 kq l0 x3_1 x4_1 = some r) ∧ Aside0 (kq ≤ k) ∧ Aside0 (Below w.heap.size w w'))
  case atStart => exact ⟨(0), (0), (by first | rfl | exact isE_ _ | exact isE2_ _ | (simp; done) | (simp [*]; done)), (by first | rfl | exact isE_ _ | exact isE2_ _ | (simp; done) | (simp [*]; done)), H', ⟨Nat.le_refl _⟩, ⟨by repeat (first | (with_reducible first | exact HB.out | apply below_alloc | apply pw_below_drewN | apply below_drew1) | exact HB.out)⟩⟩
  case round =>
    clear H'
    obtain ⟨x3_1, x4_1, rfl, rfl, HA, HK1, HB⟩ := hrel
    cases gk with
    | zero => exact absurd HA.out (by simp [juratref20_Leading.l0])
    | succ k1 =>
      have H := HA.out
      clear HA
      simp only [juratref20_Leading.l0] at H
      by_cases c2 : x4_1 < (l0.length : Int)
      · rw [if_pos c2] at H
        have c2b0 : decide (x4_1 < (l0.length : Int)) = true := decide_eq_true c2
        clear c2
        replace H := Option.bind_eq_some_iff.mp H
        obtain ⟨t263, A30, H⟩ := H
        replace H : (if (t263.size : Int) > 0 then (juratref20_Leading.l0 k1 l0 (wrap64 (x3_1 + 1)) (wrap64 (x4_1 + 1))) else (juratref20_Leading.l0 k1 l0 x3_1 (wrap64 (x4_1 + 1)))) = some r := H
        have A3 := Aside0.mk A30
        clear A30
        by_cases c4 : (t263.size : Int) > 0
        · rw [if_pos c4] at H
          have c4b0 : decide (0 < (t263.size : Int)) = true := decide_eq_true c4
          have c4b1 : decide (0 < t263.size) = true := decide_eq_true (by omega)
          clear c4
          have H' := Aside0.mk H
          clear H
          go_wp2_with (first | ((with_reducible refine gate_callee (f := 52) rfl ?_); refine goesL_ (some 13) rfl rfl Try.func52 (by kernel_rfl) rfl #[.slice A0 l0.length c0, .int .i64 x4_1] rfl (by (try simp only [List.map_toArray, List.map_cons, List.map_nil]); first | done | rfl | (simp only [List.length_drop, List.length_take]; rfl)) ?_; (with_reducible refine (juratref16_Bytes.calls k1 _ _ l0 x4_1 t263 _ ?side1 ?side2 A3.out).mono ?_); (case side1 => repeat (first | exact (Kd.C_below HR0.out HB.out) | (with_reducible refine Kd.C_alloc ?_ _) | (with_reducible refine Kd.C_drewN ?_ _) | (with_reducible refine Kd.C_drew ?_))); (case side2 => exact HC0.out); rintro e w5 ⟨rfl, hb⟩; refine ⟨_, rfl, ?_⟩; have n0_ := Aside0.mk (below_step (by repeat (first | (with_reducible first | exact HB.out | apply below_alloc | apply pw_below_drewN | apply below_drew1) | exact HB.out)) hb); clear HB; have HB := n0_; clear n0_; (try clear hb); (try clear hb2); (try clear hk); (try clear hi)))
          go_roundg k1
          case measure => have := HK1.out; omega
          case rel => exact ⟨(wrap64 (x3_1 + 1)), (wrap64 (x4_1 + 1)), (by first | rfl | exact isE_ _ | exact isE2_ _ | (simp; done) | (simp [*]; done)), (by first | rfl | exact isE_ _ | exact isE2_ _ | (simp; done) | (simp [*]; done)), H', ⟨by have := HK1.out; omega⟩, ⟨by repeat (first | (with_reducible first | exact HB.out | apply below_alloc | apply pw_below_drewN | apply below_drew1) | exact HB.out)⟩⟩
        · rw [if_neg c4] at H
          have c4b0 : decide (0 < (t263.size : Int)) = false := decide_eq_false c4
          have c4b1 : decide (0 < t263.size) = false := decide_eq_false (by omega)
          clear c4
          have H' := Aside0.mk H
          clear H
          go_wp2_with (first | ((with_reducible refine gate_callee (f := 52) rfl ?_); refine goesL_ (some 13) rfl rfl Try.func52 (by kernel_rfl) rfl #[.slice A0 l0.length c0, .int .i64 x4_1] rfl (by (try simp only [List.map_toArray, List.map_cons, List.map_nil]); first | done | rfl | (simp only [List.length_drop, List.length_take]; rfl)) ?_; (with_reducible refine (juratref16_Bytes.calls k1 _ _ l0 x4_1 t263 _ ?side1 ?side2 A3.out).mono ?_); (case side1 => repeat (first | exact (Kd.C_below HR0.out HB.out) | (with_reducible refine Kd.C_alloc ?_ _) | (with_reducible refine Kd.C_drewN ?_ _) | (with_reducible refine Kd.C_drew ?_))); (case side2 => exact HC0.out); rintro e w6 ⟨rfl, hb⟩; refine ⟨_, rfl, ?_⟩; have n0_ := Aside0.mk (below_step (by repeat (first | (with_reducible first | exact HB.out | apply below_alloc | apply pw_below_drewN | apply below_drew1) | exact HB.out)) hb); clear HB; have HB := n0_; clear n0_; (try clear hb); (try clear hb2); (try clear hk); (try clear hi)))
          go_roundg k1
          case measure => have := HK1.out; omega
          case rel => exact ⟨(x3_1), (wrap64 (x4_1 + 1)), (by first | rfl | exact isE_ _ | exact isE2_ _ | (simp; done) | (simp [*]; done)), (by first | rfl | exact isE_ _ | exact isE2_ _ | (simp; done) | (simp [*]; done)), H', ⟨by have := HK1.out; omega⟩, ⟨by repeat (first | (with_reducible first | exact HB.out | apply below_alloc | apply pw_below_drewN | apply below_drew1) | exact HB.out)⟩⟩
      · rw [if_neg c2] at H
        have c2b0 : decide (x4_1 < (l0.length : Int)) = false := decide_eq_false c2
        clear c2
        obtain rfl := Option.some.inj H
        go_wp2
        go_ret
        exact ⟨by first | rfl | (simp [errW_none, errW_some] <;> rfl) | (simp [*, errW_none, errW_some] <;> rfl), by repeat (first | (with_reducible first | exact HB.out | apply below_alloc | apply pw_below_drewN | apply below_drew1) | exact HB.out)⟩

end Go.Proofs.Ytbkcjeopcjghgaa.P

/- Layer 20's reference: where a byte leads in the trie, and how many states lead on; no condition beyond the sizes that stand in each statement. -/
namespace Go.Proofs.Ytbkcjeopcjghgaa.Base
open Go Go.RowKit Go.Proofs.YtbkcjeopcjghgaaW.PrintWords Go.Proofs.YtbkcjeopcjghgaaW.PrintMore Go.Proofs.Ytbkcjeopcjghgaa.P
set_option linter.unusedVariables false

section
variable {w : List ByteArray}
theorem rnext20_ev (hs : srt w) (hl : (paths w).length ≤ 8796093022208) {i : Nat} {n : NodeD} (h : (trN w)[i]? = some n) (hsz : n.path.length ≤ 65536) (c : UInt8) : Ev (fun k => juratref20_Next.f k (paths w) (i : Int) (c.toNat : Int)) (idxP w (n.path ++ [c])) := by
  have hi : i < (paths w).length := by rw [paths_length]; exact (List.getElem?_eq_some_iff.1 h).1
  have e1 : rdOf ByteArray.empty (paths w) (i : Int) = strP n.path := by
    show (paths w).getD (i : Int).toNat ByteArray.empty = _
    rw [Int.toNat_natCast, paths_at h]
  have e2 : strP n.path ++ strOfNums [(c.toNat : Int)] = strP (n.path ++ [c]) := LL_inj (by
    rw [LL_append, LL_strP, LL_strP]
    congr 1
    show [UInt8.ofNat (c.toNat : Int).toNat] = [c]
    rw [Int.toNat_natCast, UInt8.ofNat_toNat])
  have hf := rfind16_ev (paths w) (strP (n.path ++ [c])) hl
  have e4 : (strP n.path).size + (strOfNums [(c.toNat : Int)]).size ≤ 9223372036854775807 := by
    have : (strOfNums [(c.toNat : Int)]).size = 1 := rfl
    rw [this, strP_size]
    omega
  refine Ev.congr (f := fun k => (juratref16_Find.f k (paths w) (strP (n.path ++ [c]))).bind fun t => some t) (fun k => ?_) (Ev.bind hf (Ev.now _))
  unfold juratref20_Next.f
  rw [if_neg (by omega), if_neg (by omega), if_pos (by omega), if_pos (by omega), Option.bind_some, e1, if_pos e4, e2]
theorem rlead_ev (ok : okT w) : Ev (fun k => juratref20_Leading.f k (paths w)) ((leadN w (trN w).length : Nat) : Int) := by
  have hs := srt_of ok.1
  have hl := trN_le hs
  have hz := ok.2.2.2
  unfold trK at hl
  have hps : ∀ s ∈ paths w, s.size ≤ 65535 := fun s h => by
    rcases (paths_mem hs s).1 h with h | ⟨t, h1, h2⟩
    · subst h; decide
    · have h3 := h2.length_le
      rw [LL_length, LL_length] at h3
      have := (ok.2.2.1 _ (getD_mem w t ByteArray.empty h1)).2
      omega
  have key : ∀ (d i : Nat), i + d = (trN w).length → Ev (fun k => juratref20_Leading.l0 k (paths w) ((leadN w i : Nat) : Int) (i : Int)) ((leadN w (trN w).length : Nat) : Int) := by
    intro d
    induction d with
    | zero =>
      intro i hi
      obtain rfl : i = (trN w).length := by omega
      refine Ev.ret fun k => ?_
      simp only [juratref20_Leading.l0]
      rw [if_neg (by rw [paths_length]; omega)]
    | succ d ih =>
      intro i hi
      obtain ⟨n, hn⟩ : ∃ n, (trN w)[i]? = some n := ⟨_, List.getElem?_eq_getElem (by omega)⟩
      have hb := rbytes16_ev (paths w) (by rw [paths_length]; omega) hps i (by rw [paths_length]; omega)
      rw [paths_at hn, rbF_is hs hn] at hb
      have hle := leadN_le w i
      have hbs : ((strOfNums (byL w n)).size : Int) = ((kidsB w n).length : Int) := by
        have : (strOfNums (byL w n)).size = (byL w n).length := by unfold strOfNums; simp [ByteArray.size]
        rw [this]
        unfold byL kidsB
        rw [List.length_map, List.length_map]
      have hx := ih (i + 1) (by omega)
      refine Ev.step (f := fun k => (juratref16_Bytes.f k (paths w) (i : Int)).bind fun t263 => (if (t263.size : Int) > 0 then (juratref20_Leading.l0 k (paths w) (((leadN w i : Nat) : Int) + 1) ((i + 1 : Nat) : Int)) else (juratref20_Leading.l0 k (paths w) ((leadN w i : Nat) : Int) ((i + 1 : Nat) : Int)))) (fun k => ?_) (Ev.bind hb ?_)
      · simp only [juratref20_Leading.l0]
        rw [if_pos (by rw [paths_length]; omega), wrap_id (x := (i : Int) + 1) (by omega) (by omega), wrap_id (x := ((leadN w i : Nat) : Int) + 1) (by omega) (by omega)]
        rfl
      · rw [hbs]
        by_cases hk : kidsB w n = []
        · have el : leadN w (i + 1) = leadN w i := by simp only [leadN]; rw [hn]; simp [hk]
          rw [el] at hx
          exact Ev.congr (fun k => if_neg (by rw [hk]; decide)) hx
        · have el : leadN w (i + 1) = leadN w i + 1 := by simp only [leadN]; rw [hn]; simp [hk]
          have hp : 0 < (kidsB w n).length := List.length_pos_iff.2 hk
          rw [el] at hx
          exact Ev.congr (fun k => if_pos (by omega)) hx
  exact key (trN w).length 0 (by omega)
end
end Go.Proofs.Ytbkcjeopcjghgaa.Base

/- Layer 20's law on what the rows tell of their states: the walk. -/
namespace Go.Proofs.Ytbkcjeopcjghgaa.P
open Go Go.Sort Go.RowKit Go.Proofs.YtbkcjeopcjghgaaW.PrintWords Go.Proofs.YtbkcjeopcjghgaaW.PrintLast Go.Proofs.YtbkcjeopcjghgaaW.PrintMore Go.Proofs.Ytbkcjeopcjghgaa.Base
set_option linter.unusedVariables false
set_option linter.unusedSimpArgs false

def juratlaw20_SparseTells.f (l0 : List ByteArray) (a1 a2 : Int) : Option Bool := if (0 ≤ a1 ∧ a1 ≤ 255) ∧ l0.length * 16 ≤ 140737488351232 then some true else none
theorem few20 {A0 : Option Addr} {c0 : Nat} {l0 : List ByteArray} (hl : l0.length ≤ 9223372036854775806) : ∃ r : Bool, (r = (decide ((l0.length : Int) ≤ 8) && fewB l0 12)) ∧ ∀ w : World, Kd.C Kd.string w A0 l0.length l0 → l0.length ≤ c0 → Calls Try.prog 7 #[.slice A0 l0.length c0, .int .i64 8, .int .i64 12] w fun e w' => e = .returned (.bool r) ∧ Drawn0 w w' := by
  obtain ⟨k, hk⟩ := Ev.all (few_ev l0 8 12 (by omega))
  exact ⟨_, rfl, fun w h1 h2 => juratref09_Few.calls k A0 c0 l0 8 12 _ w h1 h2 hk⟩
theorem awake20_in (w : World) : Calls Try.prog 16 #[] w fun e w' => e = .returned (.bool true) ∧ Below w.heap.size w w' := juratlaw20_awake.calls true w awake20
/-- Texts that are few make a set whose rows are laid. -/
theorem few_sparse {l w : List ByteArray} {x : Option SetD} {e : Int} (h : SetOk l x w e) (h1 : (decide ((l.length : Int) ≤ 8) && fewB l 12) = true) : sparse_New.f x = some (some (sparD w)) ∧ okT w ∧ w.length ≤ 8 ∧ (∀ t ∈ w, t.size ≤ 12) ∧ (paths w).length ≤ 97 := by
  rw [Bool.and_eq_true, decide_eq_true_iff] at h1
  have hw20 : ∀ t ∈ w, t.size ≤ 12 := fun t ht => by have := fewB_iff.1 h1.2 t (h.mem t ht); omega
  have h3 := h.len
  have h2 := sizes_le 12 w hw20
  have h4 : w.length * 12 ≤ 8 * 12 := Nat.mul_le_mul (by omega) (Nat.le_refl _)
  obtain ⟨hT, ok⟩ := sparse_ok h (by omega)
  refine ⟨hT, ok, by omega, hw20, ?_⟩
  rw [paths_length]
  have := trN_le (srt_of ok.1)
  unfold trK at this
  omega
set_option maxRecDepth 100000 in
set_option maxHeartbeats 16000000 in
theorem tells20_in (A0 : Option Addr) (c0 : Nat) (l0 : List ByteArray) (cb : UInt8) (no : Int) (w : World) (hr0 : Kd.C Kd.string w A0 l0.length l0) (hc0 : l0.length ≤ c0) (hl : l0.length ≤ 9223372036854775806) :
    Calls Try.prog 5 #[.slice A0 l0.length c0, .int .u8 (cb.toNat : Int), .int .i64 no] w fun e w' => e = .returned (.bool true) ∧ Below w.heap.size w w' := by
  obtain ⟨r, hr, hFew⟩ := few20 (A0 := A0) (c0 := c0) hl
  obtain ⟨x, lw, er, hok⟩ := set_ok l0
  obtain ⟨kn, hkn⟩ := Ev.all (rnew_ok hok)
  have hNew := fun (W : World) (h : Kd.C Kd.string W A0 l0.length l0) => pats_New.calls A0 c0 l0 x er W h hc0 hok.hn
  have hRN := fun (W : World) (h : Kd.C Kd.string W A0 l0.length l0) => juratref10_New.calls kn A0 c0 l0 lw er W h hc0 hkn
  have HFEW := Aside0.mk hFew
  have HNEW := Aside0.mk hNew
  have HRN := Aside0.mk hRN
  have HOK := Aside0.mk hok
  have HC := Aside0.mk hr0
  have HR := Aside0.mk hr
  clear hFew hNew hRN hok hr0 hr hkn
  cases r with
  | false =>
    generalize (cb.toNat : Int) = cc
    go_enter Try.func5, Try.ntmps5
    go_wp2_with (first
      | (go_at_call 7; refine (HFEW.out _ HC.out hc0).mono ?_; rintro e w' ⟨rfl, ⟨q, rfl⟩⟩)
      | (go_at_call 16; refine (awake20_in _).mono ?_; rintro e w' ⟨rfl, hb⟩; have HBa := Aside0.mk hb; clear hb))
    go_ret
    exact ⟨rfl, below_step (pw_below_drewN (Below.refl _ _) q) HBa.out⟩
  | true =>
    obtain ⟨hT, hokT, hw8, hw12, hpl⟩ := few_sparse HOK.out HR.out.symm
    have hsrt := srt_of hokT.1
    have hDn := fun (W : World) (P : Option Addr) (h : OB K57 W P x) => sparse_New.calls P x (some (sparD lw)) W h hT
    obtain ⟨ks, hks⟩ := Ev.all (rstates_ev lw hokT)
    have hSt := fun (W : World) (A : Option Addr) (c : Nat) (h : Kd.C Kd.string W A lw.length lw) (hc : lw.length ≤ c) => juratref16_States.calls ks A c lw (paths lw) W h hc hks
    obtain ⟨cn, hcn⟩ : ∃ cn, (sparD lw).cells.length = cn := ⟨_, rfl⟩
    obtain ⟨ld, hld⟩ : ∃ ld, leadN lw (trN lw).length = ld := ⟨_, rfl⟩
    have hfew := sp_few hsrt
    have hmany := sp_many lw
    have hle := leadN_le lw (trN lw).length
    have hpe := paths_length lw
    obtain ⟨kl, hkl⟩ := Ev.all (rlead_ev hokT)
    rw [hld] at hmany hle hkl
    rw [hcn] at hfew hmany
    have hLn := fun W P g => sparse_Table_Len.calls P (some (sparD lw)) ((paths lw).length : Int) W g (by rw [slen_ok, paths_length])
    have hCe := fun W P g => sparse_Table_Cells.calls P (some (sparD lw)) (cn : Int) W g (by show some (((sparD lw).cells.length : Nat) : Int) = _; rw [hcn])
    have hLd := fun (W : World) (A : Option Addr) (c : Nat) (h : Kd.C Kd.string W A (paths lw).length (paths lw)) (hc : (paths lw).length ≤ c) => juratref20_Leading.calls kl A c (paths lw) (ld : Int) W h hc hkl
    have b1 : decide ((cn : Int) < ((paths lw).length : Int) - 1) = false := decide_eq_false (by omega)
    have b2 : decide (256 * (ld : Int) < (cn : Int)) = false := decide_eq_false (by omega)
    have b3 : (ld : Int) ≤ 97 := by omega
    have b4 : ((paths lw).length : Int) ≤ 97 := by omega
    have HDN := Aside0.mk hDn
    have HST := Aside0.mk hSt
    have HLN := Aside0.mk hLn
    have HCE := Aside0.mk hCe
    have HLD := Aside0.mk hLd
    have HSRT := Aside0.mk hsrt
    have HOKT := Aside0.mk hokT
    clear hT hDn hks hSt hkl hcn hld hLn hCe hLd hsrt hokT hw12 HR hfew hmany hle hpe
    obtain ⟨cc, hcc⟩ : ∃ cc : Nat, cb.toNat = cc := ⟨_, rfl⟩
    rw [hcc]
    have HCC := Aside0.mk hcc
    clear hcc
    go_enter Try.func5, Try.ntmps5
    go_wp2_with (first
      | (go_at_call 7; refine (HFEW.out _ HC.out hc0).mono ?_; rintro e w' ⟨rfl, ⟨q, rfl⟩⟩; have HB1 := Aside0.mk (pw_below_drewN (Below.refl w.heap.size w) q))
      | (go_at_call 9; refine (HNEW.out _ (Kd.C_below HC.out HB1.out)).mono ?_; rintro e W2 ⟨Px, rfl, hox, hb⟩; have HX2 := Aside0.mk hox; have HB2 := Aside0.mk (below_step HB1.out hb); clear hox hb)
      | (go_at_call 10; refine (HRN.out _ (Kd.C_below HC.out HB2.out)).mono ?_; rintro e W3 ⟨vl, rfl, hR, hb⟩; have HX3 := Aside0.mk (OB.below hb HX2.out); have HB3 := Aside0.mk (below_step HB2.out hb); obtain ⟨A1, c1, rfl⟩ := Kd.R_slice hR; obtain ⟨_, hc1, hC1⟩ := Kd.R_reads' hR; have HL3 := Aside0.mk hC1; clear hR hb hC1)
      | (go_at_call 17; refine (HDN.out _ _ HX3.out).mono ?_; rintro e W4 ⟨Pt, rfl, hob, hb⟩; have HT4 := Aside0.mk hob; have HB4 := Aside0.mk (below_step HB3.out hb); have HL4 := Aside0.mk (Kd.C_below HL3.out hb); clear hob hb)
      | (go_at_call 12; refine (HST.out _ _ _ HL4.out hc1).mono ?_; rintro e W5 ⟨vp, rfl, hR, hb⟩; have HT5 := Aside0.mk (OB.below hb HT4.out); have HB5 := Aside0.mk (below_step HB4.out hb); obtain ⟨A2, c2, rfl⟩ := Kd.R_slice hR; obtain ⟨_, hc2, hC2⟩ := Kd.R_reads' hR; have HP5 := Aside0.mk hC2; clear hR hb hC2)
      | (go_at_call 19; refine (HLN.out _ _ HT5.out).mono ?_; rintro e W6 ⟨rfl, hd⟩; have HB6 := Aside0.mk (hd.below); clear hd)
      | (go_at_call 20; refine (HCE.out _ _ (OB.below HB7.out HT5.out)).mono ?_; rintro e W8 ⟨rfl, hd⟩; have HB8 := Aside0.mk (below_step HB7.out hd.below); clear hd)
      | (go_at_call 20; refine (HCE.out _ _ (OB.below HB6.out HT5.out)).mono ?_; rintro e W7 ⟨rfl, hd⟩; have HB7 := Aside0.mk (below_step HB6.out hd.below); clear hd)
      | (go_at_call 21; refine (HLD.out _ _ _ (Kd.C_below HP5.out HB8.out) hc2).mono ?_; rintro e W11 ⟨rfl, hd⟩; have HB11 := Aside0.mk (below_step HB8.out (by first | exact hd | exact hd.below)); clear hd))
    have HT6 := Aside0.mk (OB.below HB11.out HT5.out)
    have HP6 := Aside0.mk (Kd.C_below HP5.out HB11.out)
    have HBA := Aside0.mk (below_step HB5.out HB11.out)
    clear HT5 HP5 HB5 HT4 HL4 HB4 HX3 HL3 HB3 HX2 HB2 HB1 HB6 HB7 HB8 HB11 HC HFEW HNEW HRN HDN HST HLN HCE HLD b1 b2 b3
    have b01 : (0 : Int) ≤ ((paths lw).length : Int) := by omega
    have hStepN := fun (W : World) (i : Int) (z : Int) (h : Below W11.heap.size W11 W) (hz : sparse_Table_Step.f (some (sparD lw)) i (cc : Int) = some z) => sparse_Table_Step.calls Pt (some (sparD lw)) i (cc : Int) z W (OB.below h HT6.out) hz
    have hNextN := fun (W : World) (i : Int) (z : Int) (o : Bool) (h : Below W11.heap.size W11 W) (hz : sparse_Table_Next.f (some (sparD lw)) i (cc : Int) = some (z, o)) => sparse_Table_Next.calls Pt (some (sparD lw)) i (cc : Int) z o W (OB.below h HT6.out) hz
    have HSTEP := Aside0.mk hStepN
    have HNEXT := Aside0.mk hNextN
    clear hStepN hNextN
    go_loopg [13, 14, 15, 16] (paths lw).length (fun kx v v14 v15 v16 W => ∃ (i : Nat), v = .int .i64 i ∧ i ≤ (paths lw).length ∧ (paths lw).length - i ≤ kx ∧ Aside0 (Below W11.heap.size W11 W))
    case atStart => exact ⟨0, rfl, Nat.zero_le _, by omega, ⟨Below.refl _ _⟩⟩
    case round =>
      obtain ⟨i, rfl, hi, hix, HB⟩ := hrel
      by_cases hlt : i < (paths lw).length
      · obtain ⟨n, hn⟩ : ∃ n, (trN lw)[i]? = some n := ⟨_, List.getElem?_eq_getElem (by rw [← paths_length]; exact hlt)⟩
        have hd : decide ((i : Int) < ((paths lw).length : Int)) = true := decide_eq_true (by omega)
        have hlen := node_len HOKT.out hn
        have hst := sstep_ok HOKT.out hn cb
        obtain ⟨k1, hk1⟩ := Ev.all (rstep_ev HSRT.out (by omega) hn (by omega) cb)
        obtain ⟨z, hz⟩ : ∃ z, idxP lw (stepP lw n.path cb) = z := ⟨_, rfl⟩
        rw [hz, HCC.out] at hst hk1
        have hnx := snext_ok HOKT.out hn cb
        obtain ⟨k2, hk2⟩ := Ev.all (rnext20_ev HSRT.out (by omega) hn (by omega) cb)
        have hneg : ¬ idxP lw (n.path ++ [cb]) ≥ 0 → idxP lw (n.path ++ [cb]) = -1 := idx_neg HSRT.out
        obtain ⟨y, hy⟩ : ∃ y, idxP lw (n.path ++ [cb]) = y := ⟨_, rfl⟩
        rw [hy, HCC.out] at hnx hk2
        rw [hy] at hneg
        have hA2 := fun (W : World) (h : Below W11.heap.size W11 W) => juratref17_Step.calls k1 A2 c2 (paths lw) (i : Int) (cc : Int) z W (Kd.C_below HP6.out h) hc2 hk1
        have hA3 := fun (W : World) (h : Below W11.heap.size W11 W) => juratref20_Next.calls k2 A2 c2 (paths lw) (i : Int) (cc : Int) y W (Kd.C_below HP6.out h) hc2 hk2
        have HA1 := Aside0.mk hst
        have HA2 := Aside0.mk hA2
        have HA3 := Aside0.mk hA3
        clear hn hlen hst hk1 hz hk2 hy hA2 hA3
        by_cases hc : y ≥ 0
        · rw [if_pos hc] at hnx
          have b5 : decide (0 ≤ y) = true := decide_eq_true hc
          have HA4 := Aside0.mk hnx
          clear hnx hneg
          go_wp2_with (first
            | (go_at_call 22; refine (HNEXT.out _ (i : Int) y true HB.out HA4.out).mono ?_; rintro e Wa ⟨rfl, hd⟩; have HBa := Aside0.mk (below_step HB.out hd.below); clear hd)
            | (go_at_call 23; refine (HA3.out _ HBa.out).mono ?_; rintro e Wb ⟨rfl, hd⟩; have HBb := Aside0.mk (below_step HBa.out (by first | exact hd | exact hd.below)); clear hd)
            | (go_at_call 18; refine (HSTEP.out _ (i : Int) z HBb.out HA1.out).mono ?_; rintro e Wc ⟨rfl, hd⟩; have HBc := Aside0.mk (below_step HBb.out hd.below); clear hd)
            | (go_at_call 24; refine (HA2.out _ HBc.out).mono ?_; rintro e Wd ⟨rfl, hd⟩; have HBd := Aside0.mk (below_step HBc.out hd); clear hd))
          go_roundg ((paths lw).length - (i + 1))
          case measure => omega
          case rel => exact ⟨i + 1, by go_num, by omega, Nat.le_refl _, HBd⟩
        · rw [if_neg hc] at hnx
          obtain rfl := hneg hc
          have HA4 := Aside0.mk hnx
          clear hnx hc hneg
          go_wp2_with (first
            | (go_at_call 22; refine (HNEXT.out _ (i : Int) 0 false HB.out HA4.out).mono ?_; rintro e Wa ⟨rfl, hd⟩; have HBa := Aside0.mk (below_step HB.out hd.below); clear hd)
            | (go_at_call 23; refine (HA3.out _ HBa.out).mono ?_; rintro e Wb ⟨rfl, hd⟩; have HBb := Aside0.mk (below_step HBa.out (by first | exact hd | exact hd.below)); clear hd)
            | (go_at_call 18; refine (HSTEP.out _ (i : Int) z HBb.out HA1.out).mono ?_; rintro e Wc ⟨rfl, hd⟩; have HBc := Aside0.mk (below_step HBb.out hd.below); clear hd)
            | (go_at_call 24; refine (HA2.out _ HBc.out).mono ?_; rintro e Wd ⟨rfl, hd⟩; have HBd := Aside0.mk (below_step HBc.out hd); clear hd))
          go_roundg ((paths lw).length - (i + 1))
          case measure => omega
          case rel => exact ⟨i + 1, by go_num, by omega, Nat.le_refl _, HBd⟩
      · obtain rfl : i = (paths lw).length := by omega
        have hd : decide (((paths lw).length : Int) < ((paths lw).length : Int)) = false := decide_eq_false (by omega)
        have hn0 : spIs none no = false := decide_eq_false (by show ¬ (0 ≤ no ∧ no < ((0 : Nat) : Int)); omega)
        have hs0 : sparse_Table_Step.f none no (cc : Int) = some 0 := if_neg (by rw [hn0]; decide)
        have hr0 : sparse_Table_Next.f none no (cc : Int) = some (0, false) := if_neg (by rw [hn0]; decide)
        have HS0 := Aside0.mk hs0
        have HR0 := Aside0.mk hr0
        clear hs0 hr0 hn0
        go_upto_region 20 with (first
          | (go_at_call 22; refine (sparse_Table_Next.calls none none no (cc : Int) 0 false _ trivial HR0.out).mono ?_; rintro e Wa ⟨rfl, hd⟩; have HBa := Aside0.mk (below_step HB.out hd.below); clear hd)
          | (go_at_call 19; refine (sparse_Table_Len.calls none none 0 _ trivial rfl).mono ?_; rintro e Wb ⟨rfl, hd⟩; have HBb := Aside0.mk (below_step HBa.out hd.below); clear hd)
          | (go_at_call 20; refine (sparse_Table_Cells.calls none none 0 _ trivial rfl).mono ?_; rintro e Wc ⟨rfl, hd⟩; have HBc := Aside0.mk (below_step HBb.out hd.below); clear hd)
          | (go_at_call 18; refine (sparse_Table_Step.calls none none no (cc : Int) 0 _ trivial HS0.out).mono ?_; rintro e We ⟨rfl, hd⟩; have HBe := Aside0.mk (below_step HBc.out hd.below); clear hd))
        have hbl := (spI_run lw (trN lw).length (Nat.le_refl _)).bl
        have hsl : spLen (some (sparD lw)) = (paths lw).length := by
          show ((spRun lw (trN lw).length).base.map fun n : Nat => (n : Int)).length = _
          rw [List.length_map, hbl, paths_length]
        have HSL := Aside0.mk hsl
        clear hbl hsl
        by_cases h1 : 0 ≤ no
        · have b1 : decide (0 ≤ no) = true := decide_eq_true h1
          by_cases h2 : no < ((paths lw).length : Int)
          · have b2 : decide (no < ((paths lw).length : Int)) = true := decide_eq_true h2
            obtain ⟨j, rfl⟩ : ∃ j : Nat, no = (j : Int) := ⟨no.toNat, by omega⟩
            obtain ⟨n, hn⟩ : ∃ n, (trN lw)[j]? = some n := ⟨_, List.getElem?_eq_getElem (by rw [← paths_length]; omega)⟩
            have hnx := snext_ok HOKT.out hn cb
            obtain ⟨z, o, hzo⟩ : ∃ z o, (if idxP lw (n.path ++ [cb]) ≥ 0 then (idxP lw (n.path ++ [cb]), true) else ((0 : Int), false)) = (z, o) := ⟨_, _, rfl⟩
            rw [hzo, HCC.out] at hnx
            have HT1 := Aside0.mk hnx
            clear hn hnx hzo
            go_wp2_with (first
              | (go_at_call 22; refine (HNEXT.out _ (j : Int) z o HBe.out HT1.out).mono ?_; rintro e Wf ⟨rfl, hd⟩; have HBf := Aside0.mk (below_step HBe.out hd.below); clear hd)
              | (go_at_call 16; refine (awake20_in _).mono ?_; rintro e w' ⟨rfl, hb⟩; have HBz := Aside0.mk (below_step HBf.out hb); clear hb))
            go_ret
            exact ⟨rfl, below_step HBA.out HBz.out⟩
          · have b2 : decide (no < ((paths lw).length : Int)) = false := decide_eq_false h2
            have hi2 : spIs (some (sparD lw)) no = false := decide_eq_false (by rw [HSL.out]; omega)
            have HT1 := Aside0.mk (show sparse_Table_Step.f (some (sparD lw)) no (cc : Int) = some 0 from if_neg (by rw [hi2]; decide))
            have HT2 := Aside0.mk (show sparse_Table_Next.f (some (sparD lw)) no (cc : Int) = some (0, false) from if_neg (by rw [hi2]; decide))
            clear hi2
            go_wp2_with (first
              | (go_at_call 22; refine (HNEXT.out _ no 0 false HBe.out HT2.out).mono ?_; rintro e Wf ⟨rfl, hd⟩; have HBf := Aside0.mk (below_step HBe.out hd.below); clear hd)
              | (go_at_call 18; refine (HSTEP.out _ no 0 HBf.out HT1.out).mono ?_; rintro e Wg ⟨rfl, hd⟩; have HBg := Aside0.mk (below_step HBf.out hd.below); clear hd)
              | (go_at_call 16; refine (awake20_in _).mono ?_; rintro e w' ⟨rfl, hb⟩; have HBz := Aside0.mk (below_step HBg.out hb); clear hb))
            go_ret
            exact ⟨rfl, below_step HBA.out HBz.out⟩
        · have b1 : decide (0 ≤ no) = false := decide_eq_false h1
          have hi2 : spIs (some (sparD lw)) no = false := decide_eq_false (by omega)
          have HT1 := Aside0.mk (show sparse_Table_Step.f (some (sparD lw)) no (cc : Int) = some 0 from if_neg (by rw [hi2]; decide))
          have HT2 := Aside0.mk (show sparse_Table_Next.f (some (sparD lw)) no (cc : Int) = some (0, false) from if_neg (by rw [hi2]; decide))
          clear hi2
          go_wp2_with (first
            | (go_at_call 22; refine (HNEXT.out _ no 0 false HBe.out HT2.out).mono ?_; rintro e Wf ⟨rfl, hd⟩; have HBf := Aside0.mk (below_step HBe.out hd.below); clear hd)
            | (go_at_call 18; refine (HSTEP.out _ no 0 HBf.out HT1.out).mono ?_; rintro e Wg ⟨rfl, hd⟩; have HBg := Aside0.mk (below_step HBf.out hd.below); clear hd)
            | (go_at_call 16; refine (awake20_in _).mono ?_; rintro e w' ⟨rfl, hb⟩; have HBz := Aside0.mk (below_step HBg.out hb); clear hb))
          go_ret
          exact ⟨rfl, below_step HBA.out HBz.out⟩
theorem juratlaw20_SparseTells.calls (A0 : Option Addr) (c0 : Nat) (l0 : List ByteArray) (a1 a2 : Int) (r : Bool) (w : World) (hr0 : Kd.C Kd.string w A0 l0.length l0) (hc0 : l0.length ≤ c0) (h : juratlaw20_SparseTells.f l0 a1 a2 = some r) :
    Calls Try.prog 5 #[.slice A0 l0.length c0, .int .u8 a1, .int .i64 a2] w fun e w' => e = .returned (.bool r) ∧ Below w.heap.size w w' := by
  unfold juratlaw20_SparseTells.f at h
  by_cases g : (0 ≤ a1 ∧ a1 ≤ 255) ∧ l0.length * 16 ≤ 140737488351232
  rotate_left
  · rw [if_neg g] at h; cases h
  rw [if_pos g] at h
  obtain rfl := Option.some.inj h
  obtain ⟨cb, hcb⟩ : ∃ cb : UInt8, (cb.toNat : Int) = a1 := ⟨UInt8.ofNat a1.toNat, by rw [UInt8.toNat_ofNat']; omega⟩
  rw [← hcb]
  exact tells20_in A0 c0 l0 cb a2 w hr0 hc0 (by omega)

end Go.Proofs.Ytbkcjeopcjghgaa.P

/- Proved: for all texts, every byte and every number the law SparseTells of layer 20 answers true. No condition beyond the statement's own. -/
namespace Go.Proofs.Ytbkcjeopcjghgaa.Pure
open Go Go.RowKit Go.Proofs.Ytbkcjeopcjghgaa.P Go.Proofs.Ytbkcjeopcjghgaa.Base
theorem wf8_ {x : Int} (h : (Lit.int .u8 x).wf = true) : 0 ≤ x ∧ x ≤ 255 := by
  simp [Lit.wf, IntKind.min, IntKind.max, IntKind.signed, IntKind.bits] at h
  omega
theorem SparseTells (l : List ByteArray) (c no : Int) (hl : l.length * 16 ≤ 140737488351232) (_ : ∀ x ∈ l, x.size ≤ maxLen) (hc : (Lit.int .u8 c).wf = true) (_ : (Lit.int .i64 no).wf = true) : juratlaw20_SparseTells.f l c no = some true := if_pos ⟨wf8_ hc, hl⟩

end Go.Proofs.Ytbkcjeopcjghgaa.Pure

/- How a law's arguments are opened: slices of texts and of numbers, as lists, with their sizes out of the row's weights. -/
namespace Go.Proofs.Ytbkcjeopcjghgaa.RowS
open Go Go.ChangeShapes Go.WideShapes Go.RowKit Go.Proofs.YtbkcjeopcjghgaaW.PrintWords

theorem slice_strings {H : Type} {enc : TypeId × Value → H} {P : Program} {W : World} {t e : TypeId} {a : Option Addr} {len cap : Nat} {d : DataW H} {ps : List MemPlace} {ts : List TypeId} {ds : List (DataW H)} {j : Nat}
    (hsz : (DataW.weightsEach P ts ds).all (· ≤ reachBytes) = true) (ht : ts[j]? = some t) (hd : ds[j]? = some d) (hu : P.underlying t = some (.slice e)) (he : P.underlying e = some .string) (hc : P.cellsOf e = 1) (hB : P.bytesOf e = 16)
    (h : DataW.Trod enc P W 0 (fun _ => true) true t (.slice a len cap) d ps) :
    ∃ l : List ByteArray, l.length = len ∧ len ≤ cap ∧ Kd.C Kd.string W a l.length l ∧ l.length * 16 ≤ 140737488351232 ∧ ∀ s ∈ l, s.size ≤ maxLen := by
  obtain ⟨fuel, hf⟩ := h
  rcases open_strings hu he hc hf with ⟨hcs, _⟩ | ⟨x, l, c, ss, hcs, _, hl, hm, hz, hx, hcell, hw⟩
  · simp [Value.cells] at hcs
    obtain ⟨rfl, rfl, rfl⟩ := hcs
    exact ⟨[], rfl, Nat.le_refl _, Kd.C_nil _ _, by simp, by simp⟩
  · simp [Value.cells] at hcs
    obtain ⟨rfl, rfl, rfl⟩ := hcs
    obtain ⟨hx, _⟩ := Prod.mk.inj hx
    subst hx
    have z := sized_slice hsz ht hd hu
    rw [hB] at z
    rw [if_pos rfl] at hz
    have hl2 : len ≤ ss.length := by omega
    have h1 : (strs (H := H) (ss.take len)).length + (strs (H := H) (ss.drop len)).length = ss.length := by
      simp [strs]
      omega
    rw [h1] at z
    have hlen : (ss.take len).length = len := by rw [List.length_take]; omega
    refine ⟨ss.take len, hlen, hl, Kd.C_of_reads (d := ByteArray.empty) (h1 := fun _ => rfl) ⟨rfl, by rw [hlen]; unfold maxLen at hm; omega, fun _ => ⟨x, rfl, fun i hi => ?_⟩⟩, ?_, fun s hs => hw s (List.mem_of_mem_take hs)⟩
    · rw [hlen] at hi
      rw [hcell i (by omega), List.getD_eq_getElem?_getD, List.getD_eq_getElem?_getD, List.getElem?_take_of_lt hi]
    · rw [hlen]
      exact Nat.le_trans (Nat.mul_le_mul_right _ hl2) z
theorem slice_ints {H : Type} {enc : TypeId × Value → H} {P : Program} {W : World} {t e : TypeId} {k : IntKind} {a : Option Addr} {len cap : Nat} {d : DataW H} {ps : List MemPlace} {ts : List TypeId} {ds : List (DataW H)} {j : Nat}
    (hsz : (DataW.weightsEach P ts ds).all (· ≤ reachBytes) = true) (ht : ts[j]? = some t) (hd : ds[j]? = some d) (hu : P.underlying t = some (.slice e)) (he : P.underlying e = some (.int k)) (hc : P.cellsOf e = 1) {B : Nat} (hB : P.bytesOf e = B)
    (h : DataW.Trod enc P W 0 (fun _ => true) true t (.slice a len cap) d ps) :
    ∃ l : List Int, l.length = len ∧ len ≤ cap ∧ Kd.C (Kd.int k) W a l.length l ∧ l.length ≤ maxLen ∧ l.length * B ≤ 140737488351232 ∧ ∀ n ∈ l, (Lit.int k n).wf = true := by
  have y := sized_ints hsz ht hd hu he hc hB h
  obtain ⟨fuel, hf⟩ := h
  rcases open_ints hu he hc hf with ⟨hcs, _⟩ | ⟨x, l, c, zs, hcs, _, hl, hm, hz, _, hcell, hw⟩
  · simp [Value.cells] at hcs
    obtain ⟨rfl, rfl, rfl⟩ := hcs
    exact ⟨[], rfl, Nat.le_refl _, Kd.C_nil _ _, by simp, by simp, by simp⟩
  · simp [Value.cells] at hcs
    obtain ⟨rfl, rfl, rfl⟩ := hcs
    rw [if_pos rfl] at hz
    have hlen : (zs.take len).length = len := by rw [List.length_take]; omega
    refine ⟨zs.take len, hlen, hl, Kd.C_of_reads (d := (0 : Int)) (h1 := fun _ => rfl) ⟨rfl, by rw [hlen]; unfold maxLen at hm; omega, fun _ => ⟨x, rfl, fun i hi => ?_⟩⟩, by rw [hlen]; omega, by rw [hlen]; exact y, fun s hs => hw s (List.mem_of_mem_take hs)⟩
    rw [hlen] at hi
    rw [hcell i (by omega), List.getD_eq_getElem?_getD, List.getD_eq_getElem?_getD, List.getElem?_take_of_lt hi]

end Go.Proofs.Ytbkcjeopcjghgaa.RowS

/- The row of the law SparseTells, out of its plain statement and the walk; written for this claim by a program of this session (wip/mkrow.py). -/
namespace Go.Proofs.Ytbkcjeopcjghgaa.sparseTells
open Go.ChangeShapes Go.WideShapes Go.ChangeAt Go.RowKit
open Go.ChangeMaps (open_string shut_string)
set_option linter.unusedVariables false
theorem own : ownKnob Try.prog.godebug = none := by kernel_rfl
theorem laidOut : laidOutB Try.prog = true := by kernel_rfl
set_option maxRecDepth 100000 in
theorem lifted (os : Os) (started : os.Started) (H : Type) (enc : TypeId × Value → H) :
    ReturnsInHanded {} Try.checked os 5 .any (Rows.sparseTellsSpec.pre6 enc Try.prog Try.f5 Rows.sparseTellsRow.domain false) (Rows.sparseTellsSpec.post enc Try.prog Try.f5 false true false false) := by
  refine returnsInHanded_of_change_sized (C := Try.checked) own started (by kernel_rfl) Try.func5
    (ChangeSpec.witness6 (enc := enc) (C := Try.checked) false ⟨#[], #[.slice none 0 0, .int .u8 0, .int .i64 0], []⟩ 8 (by kernel_rfl) (by kernel_rfl) (by kernel_rfl) (by kernel_rfl)) ?_
  intro W base args ds gs before hval0 hW hcnd hsz0 _
  have hsz : (DataW.weightsEach Try.prog (Try.f5.params.toList ++ Rows.sparseTellsSpec.plain.varTypes Try.prog) (ds ++ gs)).all (· ≤ reachBytes) = true := hsz0
  have hval : ∀ (j : Nat) t v, Try.f5.params[j]? = some t → args[j]? = some v → Value.okWide Try.prog W .any base t v := hval0
  have hW' := hW
  obtain ⟨p, q, hA0, hV, rfl, hfz, hnd⟩ := hW
  have hA : DataW.TrodAll enc Try.prog W 0 (fun _ => true) true Try.f5.params.toList args.toList ds p := hA0
  rw [Try.params5] at hA hval hsz
  obtain ⟨v0, vs0, d0, ds0, p0, q0, hargs, rfl, rfl, h0, r0⟩ := trodAll_cons hA
  obtain ⟨v1, vs1, d1, ds1, p1, q1, rfl, rfl, rfl, h1, r1⟩ := trodAll_cons r0
  obtain ⟨v2, vs2, d2, ds2, p2, q2, rfl, rfl, rfl, h2, r2⟩ := trodAll_cons r1
  obtain ⟨rfl, rfl, rfl⟩ := trodAll_nil r2
  obtain rfl : args = #[v0, v1, v2] := by cases args; simp_all
  obtain ⟨rfl, rfl⟩ := trodVars_none hV
  obtain ⟨a0, len0, cap0, rfl⟩ := okWide_slice Try.underlying22 (hval 0 22 v0 rfl rfl)
  have k0 := h0
  have lt0 : ∀ x ∈ p0, x.block < W.heap.size := by obtain ⟨m, hm⟩ := k0; exact DataW.trod_lt m _ _ _ hm
  obtain ⟨l0, hn0, hc0, hr0, y0, w0⟩ := RowS.slice_strings hsz (j := 0) (t := 22) rfl rfl Try.underlying22 Try.underlying9 (by kernel_rfl) (by kernel_rfl) h0
  subst hn0
  obtain ⟨a1, rfl, rfl, rfl, w1⟩ := open_int Try.underlying5 (hval 1 5 v1 rfl rfl) h1
  obtain ⟨a2, rfl, rfl, rfl, w2⟩ := open_int Try.underlying3 (hval 2 3 v2 rfl rfl) h2
  clear hA0 hval0 hsz0 hsz
  have hk := Pure.SparseTells l0 a1 a2 y0 w0 w1 w2
  refine (P.juratlaw20_SparseTells.calls a0 cap0 l0 a1 a2 true W hr0 hc0 hk).mono fun e W' ⟨he, bel⟩ => ?_
  subst he
  exact ⟨_, rfl, _, _, _, [], _, [], hW', trodAll_mk1 (shut_bool Try.underlying4 _), (trodAll_cons_mk (Below.trod laidOut (by kernel_rfl) (of_decide_eq_true (by kernel_rfl)) k0 bel lt0) (trodAll_cons_mk (shut_int Try.underlying5 w1) (trodAll_cons_mk (shut_int Try.underlying3 w2) trodAll_mk0))), rfl, bel.frame _, fun h => by cases h⟩
theorem over : Rows.sparseTellsRow.holds Try.pinned (OpenSpec.ofChange Rows.sparseTellsSpec) :=
  OpenClaim.holds_of_wide 5 Try.f5 rfl rfl rfl rfl rfl rfl rfl ⟨rfl, rfl, rfl, rfl, rfl⟩ rfl rfl rfl rfl rfl (by kernel_rfl) Try.func5 (by kernel_rfl)
    (of_decide_eq_true (by kernel_rfl)) (by unfold Func.isWrapper; first | (rw [if_pos (by decide +kernel)]; kernel_rfl) | (rw [if_neg (by decide +kernel)]; exact ⟨rfl, rfl⟩))
    (fun os started H enc _ => lifted os started H enc)
theorem proved : Rows.SparseTellsSaid := over
#print axioms proved
end Go.Proofs.Ytbkcjeopcjghgaa.sparseTells
namespace Go.Proofs.Ytbkcjeopcjghgaa
/-- The row, under a short name, for the claim. -/
theorem sparseTells_holds : Rows.SparseTellsSaid := sparseTells.proved
end Go.Proofs.Ytbkcjeopcjghgaa
