/- Layer 25's carry: nil ones, and one that keeps two bytes, as the layer's example drives it: the walks. -/
import Derived.Below
import Derived.Deep.Draws
import Derived.OwnWalk
import Derived.Tactics
import Derived.WalkKit
import Derived.KernelRfl
import Derived.RowKit3
import Derived.Deep.LoopGhost
import Derived.Deep.QuietTactic
import Derived.BigQuiet
import Derived.WideLaws
import Derived.Outline
import Derived.StillTailTactics
import Derived.Test.YtibckaogfdffpaaArr
import Derived.Test.YtibckaogfdffpaaOb
import Derived.Test.YtibckaogfdffpaaBase
import Derived.Test.YtibckaogfdffpaaPx0
namespace Go.Proofs.Ytibckaogfdffpaa.P
open Go Go.RowKit Go.Proofs.YtibckaogfdffpaaW.PrintWords Go.Proofs.YtibckaogfdffpaaW.PrintLast Go.Proofs.YtibckaogfdffpaaW.PrintMore Go.Proofs.Ytibckaogfdffpaa.Base
set_option linter.unusedVariables false
set_option linter.unusedSimpArgs false

theorem carry_New2 (w : World) : Calls Try.prog 6 #[.int .i64 2] w fun e w' => e = .returned (.tuple #[.pointer (some ⟨w.heap.size, 0, none⟩), .int .i64 0]) ∧ w'.heap[w.heap.size]? = some (.cells #[.int .i64 2, .slice none 0 0, .int .i64 0, .int .i64 0] 50 (0, 0)) ∧ Below w.heap.size w w' ∧ w.heap.size < w'.heap.size := by
  have HB := Aside0.mk (Below.refl w.heap.size w)
  go_enter Try.func6, Try.ntmps6
  go_wp2
  go_ret2
  exact ⟨rfl, heap_alloc_new _ _, (Below.refl _ _).alloc (Nat.le_refl _) _, blk_lt (heap_alloc_new _ _)⟩
theorem carry_Add0 (s : ByteArray) (w : World) : Calls Try.prog 7 #[.pointer none, .string s] w fun e w' => e = .returned (.tuple #[]) ∧ Drawn0 w w' := by
  go_enter Try.func7, Try.ntmps7
  go_wp2
  (try simp only [Exit.inBlock, Exit.then])
  refine bodyPost_ret (results_none rfl _ _ _) rfl ?_
  exact ⟨rfl, Drawn0.refl _⟩
theorem carry_Pass0 (n : Int) (w : World) : Calls Try.prog 8 #[.pointer none, .int .i64 n] w fun e w' => e = .returned (.int .i64 1) ∧ Drawn0 w w' := by
  go_enter Try.func8, Try.ntmps8
  go_wp2
  go_ret
  exact ⟨rfl, Drawn0.refl _⟩
theorem carry_Held0 (w : World) : Calls Try.prog 9 #[.pointer none] w fun e w' => e = .returned (.int .i64 0) ∧ Drawn0 w w' := by
  go_enter Try.func9, Try.ntmps9
  go_wp2
  go_ret
  exact ⟨rfl, Drawn0.refl _⟩
theorem carry_Done0 (w : World) : Calls Try.prog 21 #[.pointer none] w fun e w' => e = .returned (.int .i64 0) ∧ Drawn0 w w' := by
  go_enter Try.func21, Try.ntmps21
  go_wp2
  go_ret
  exact ⟨rfl, Drawn0.refl _⟩
theorem carry_Seen0 (w : World) : Calls Try.prog 22 #[.pointer none] w fun e w' => e = .returned (.int .i64 0) ∧ Drawn0 w w' := by
  go_enter Try.func22, Try.ntmps22
  go_wp2
  go_ret
  exact ⟨rfl, Drawn0.refl _⟩
theorem carry_Tail0 (n : Int) (w : World) : Calls Try.prog 10 #[.pointer none, .int .i64 n] w fun e w' => e = .returned (.tuple #[.string ByteArray.empty, .bool false]) ∧ Drawn0 w w' := by
  go_enter Try.func10, Try.ntmps10
  go_wp2
  all_goals
    go_ret2
    exact ⟨rfl, Drawn0.refl _⟩
theorem carry_Byte0 (n : Int) (w : World) : Calls Try.prog 11 #[.pointer none, .int .i64 n] w fun e w' => e = .returned (.tuple #[.int .u8 0, .bool false]) ∧ Drawn0 w w' := by
  go_enter Try.func11, Try.ntmps11
  go_wp2
  all_goals
    go_ret2
    exact ⟨rfl, Drawn0.refl _⟩

/-! the example's own steps -/
/-- A carry of two bytes at a block: what it keeps, what came ahead of that, what is done. -/
def CarryAt (w : World) (b : Nat) (v : Value) (f d : Int) : Prop := w.heap[b]? = some (.cells #[.int .i64 2, v, .int .i64 f, .int .i64 d] 50 (0, 0))
theorem CarryAt.cell {w : World} {b : Nat} {v : Value} {f d : Int} (h : CarryAt w b v f d) : w.cell? ⟨b, 0, none⟩ = some (.int .i64 2) ∧ w.cell? ⟨b, 1, none⟩ = some v ∧ w.cell? ⟨b, 2, none⟩ = some (.int .i64 f) ∧ w.cell? ⟨b, 3, none⟩ = some (.int .i64 d) :=
  ⟨(blk_cell h 0).trans rfl, (blk_cell h 1).trans rfl, (blk_cell h 2).trans rfl, (blk_cell h 3).trans rfl⟩
theorem info25 : (Try.prog.info? 5).map (fun i => (i.zero, i.size, i.bytes)) = some (some (.int .u8 0), 1, 1) := by kernel_rfl
theorem info25s : (Try.prog.info? 5).map (·.size) = some 1 := by kernel_rfl
theorem bytes25 : bytesOf (⟨#[97, 98, 99, 100, 101]⟩ : ByteArray) = [97, 98, 99, 100, 101] := by decide
theorem carry_Add2 (s : ByteArray) (hs : bytesOf s = [97, 98, 99, 100, 101]) (B b : Nat) (w0 w : World) (hc : CarryAt w b (.slice none 0 0) 0 0) (hB : Below B w0 w) (hb : B ≤ b) :
    Calls Try.prog 7 #[.pointer (some ⟨b, 0, none⟩), .string s] w fun e w' => e = .returned (.tuple #[]) ∧ ∃ g c, CarryAt w' b (.slice (some ⟨g, 0, none⟩) 5 c) 0 0 ∧ Kd.R (Kd.int .u8) 5 w' (b + 1) (fun _ => True) (.slice (some ⟨g, 0, none⟩) 5 c) [97, 98, 99, 100, 101] ∧ Below B w0 w' := by
  obtain ⟨c0, c1, c2, c3⟩ := hc.cell
  have HC := Aside0.mk hc
  have HB := Aside0.mk hB
  have hlt := blk_lt hc
  have hlt2 : b + 1 ≤ w.heap.size := hlt
  have hf1 := blk_frozen hc 1
  have hsz : s.size = 5 := by rw [← bytesOf_length, hs]; rfl
  have hsl : ([] : List Int).length + s.size ≤ 140737488355328 := by rw [hsz]; decide
  have HS := Aside0.mk hs
  have HSL := Aside0.mk hsl
  clear hc hB hs hsz hsl
  go_enter Try.func7, Try.ntmps7
  go_wp2_with ((with_reducible refine gate_builtin (b := .append) (xs := #[.tmp 10, .tmp 11]) rfl ?_); at_builtin; refine print_append_str (w0 := w) (b + 1) rfl (.tmp 10) (.tmp 11) 48 9 5 rfl Try.underlying48 Try.underlying9 info25 (.slice none 0 0) [] s rfl rfl (World.ownsRow_nil _ _ _ _) (Below.refl _ _) hlt2 HSL.out ?_)
  intro v1 w1 ho hb1 hg
  have ho2 := ho
  rw [HS.out] at ho2
  obtain ⟨g, cap, rfl, hbg, hlg⟩ := ho2.form (by decide)
  have hp1 := blk_grown HC.out hg (fun e => by simp [Value.ownBlock] at e)
  have hc1' : w1.cell? ⟨b, 1, none⟩ = some (.slice none 0 0) := (blk_cell hp1 1).trans rfl
  have hf1' := blk_frozen hp1 1
  have HP := Aside0.mk hp1
  have HO := Aside0.mk ho2
  have HB1 := Aside0.mk (HB.out.grown hg (by omega) (fun j hj => by simp [Value.ownBlock] at hj))
  clear hp1 ho ho2 hg hb1
  go_wp2
  go_end0
  refine ⟨rfl, g, cap, (blk_set HP.out 1 _).trans rfl, R_beside (Kd.R_of_own HO.out (fun _ _ => trivial)) (Nat.lt_succ_self _) _, Below.setCell (p := ⟨b, 1, none⟩) HB1.out hb _⟩
theorem carry_Done2 {w : World} {b : Nat} {v : Value} {f d : Int} (hc : CarryAt w b v f d) : Calls Try.prog 21 #[.pointer (some ⟨b, 0, none⟩)] w fun e w' => e = .returned (.int .i64 d) ∧ Drawn0 w w' := by
  obtain ⟨c0, c1, c2, c3⟩ := hc.cell
  clear hc
  go_enter Try.func21, Try.ntmps21
  go_wp2
  go_ret
  exact ⟨rfl, Drawn0.refl _⟩
theorem carry_Held2 {w : World} {b : Nat} {A : Option Addr} {n c : Nat} {f d : Int} (hc : CarryAt w b (.slice A n c) f d) : Calls Try.prog 9 #[.pointer (some ⟨b, 0, none⟩)] w fun e w' => e = .returned (.int .i64 (n : Int)) ∧ Drawn0 w w' := by
  obtain ⟨c0, c1, c2, c3⟩ := hc.cell
  clear hc
  go_enter Try.func9, Try.ntmps9
  go_wp2
  go_ret
  exact ⟨rfl, Drawn0.refl _⟩
theorem carry_Seen2 {w : World} {b : Nat} {A : Option Addr} {n c : Nat} {f d : Int} (hc : CarryAt w b (.slice A n c) f d) (r : Int) (hr : IntKind.i64.wrap (f + (n : Int)) = r) : Calls Try.prog 22 #[.pointer (some ⟨b, 0, none⟩)] w fun e w' => e = .returned (.int .i64 r) ∧ ∃ q, w' = w.drewN q := by
  obtain ⟨c0, c1, c2, c3⟩ := hc.cell
  clear hc
  go_enter Try.func22, Try.ntmps22
  go_wp2
  go_quiet (fail)
  go_wp2
  go_ret
  exact ⟨rfl, _, rfl⟩

abbrev RB (w : World) (base : Nat) (v : Value) (xs : List Int) : Prop := Kd.R (Kd.int .u8) 5 w base (fun _ => True) v xs
set_option maxHeartbeats 4000000 in
set_option maxRecDepth 100000 in
theorem carry_Pass2 {B b g c : Nat} {w0 w : World} (hc : CarryAt w b (.slice (some ⟨g, 0, none⟩) 5 c) 0 0) (hr : RB w (b + 1) (.slice (some ⟨g, 0, none⟩) 5 c) [97, 98, 99, 100, 101]) (hB : Below B w0 w) (hb : B ≤ b) :
    Calls Try.prog 8 #[.pointer (some ⟨b, 0, none⟩), .int .i64 4] w fun e w' => e = .returned (.int .i64 0) ∧ ∃ g c, CarryAt w' b (.slice (some ⟨g, 0, none⟩) 3 c) 2 4 ∧ RB w' (b + 1) (.slice (some ⟨g, 0, none⟩) 3 c) [99, 100, 101] ∧ Below B w0 w' := by
  obtain ⟨c0, c1, c2, c3⟩ := hc.cell
  have HC := Aside0.mk hc
  have HR := Aside0.mk hr
  have HB := Aside0.mk hB
  have hf3 := blk_frozen hc 3
  clear hc hr hB
  go_enter Try.func8, Try.ntmps8
  go_wp2_with (go_at_call 22; refine (carry_Seen2 HC.out 5 rfl).mono ?_; rintro e w' ⟨rfl, q, rfl⟩)
  have HC5 : Aside0 (CarryAt ((w.drewN q).setCell ⟨b, 3, none⟩ (.int .i64 4)) b (.slice (some ⟨g, 0, none⟩) 5 c) 0 4) := ⟨(blk_set (show (w.drewN q).heap[b]? = _ from HC.out) 3 _).trans rfl⟩
  have HR5 : Aside0 (RB ((w.drewN q).setCell ⟨b, 3, none⟩ (.int .i64 4)) (b + 1) (.slice (some ⟨g, 0, none⟩) 5 c) [97, 98, 99, 100, 101]) := ⟨R_beside (Kd.R_drewN HR.out q) (Nat.lt_succ_self _) _⟩
  have HB5 : Aside0 (Below B w0 ((w.drewN q).setCell ⟨b, 3, none⟩ (.int .i64 4))) := ⟨Below.setCell (p := ⟨b, 3, none⟩) (pw_below_drewN HB.out q) hb _⟩
  generalize (w.drewN q).setCell ⟨b, 3, none⟩ (.int .i64 4) = W5 at HC5 HR5 HB5 ⊢
  clear c0 c1 c2 c3 hf3 HC HR HB
  obtain ⟨c0, c1, c2, c3⟩ := HC5.out.cell
  have hlt5 : b + 1 ≤ W5.heap.size := blk_lt HC5.out
  have hc5 : 5 ≤ c := (Kd.R_reads' HR5.out).2.1
  go_quiet (fail)
  go_wp2_with (refine Kd.R_make (Kd.int .u8) (w0 := W5) (b + 1) 5 rfl (N := 47) rfl 48 (.tmp 46) (.tmp 46) rfl (3 : Int) rfl rfl Try.underlying48 (.int .u8 0) 1 info25 rfl (by decide) (by decide) (0 : Int) (ok := fun _ => True) (okp := fun _ => True) ?hz (fun _ h => h) trivial ?h0 ?hl ?hB ?hs ?_; (case hz => rfl); (case h0 => decide); (case hl => decide); (case hB => repeat (first | exact Below.refl _ _ | (with_reducible apply pw_below_drewN))); (case hs => exact hlt5))
  intro v1 w2 hR2 hb2 hg2 bb hbb1 hbb2
  obtain ⟨g2, cap2, rfl, hbg2, hlg2, _⟩ := Kd.R_form hR2 (by decide)
  have HC6 : Aside0 (CarryAt w2 b (.slice (some ⟨g, 0, none⟩) 5 c) 0 4) := ⟨blk_grown (show (World.drewN W5 _).heap[b]? = _ from HC5.out) hg2 (fun e => by cases e)⟩
  have HR6 : Aside0 (RB w2 (b + 1) (.slice (some ⟨g, 0, none⟩) 5 c) [97, 98, 99, 100, 101]) := ⟨Kd.R_grown (Kd.R_drewN HR5.out _) hg2 (fun k _ e => by cases e)⟩
  have HB6 : Aside0 (Below B w0 w2) := ⟨Below.grown (pw_below_drewN HB5.out _) hg2 (show B ≤ W5.heap.size by omega) (fun j hj => by cases hj)⟩
  have HR2 := Aside0.mk hR2
  clear hR2 hb2 hg2 hbb1 hbb2 c0 c1 c2 c3 HC5 HR5 HB5
  obtain ⟨c0, c1, c2, c3⟩ := HC6.out.cell
  have hC : Kd.C (Kd.int .u8) w2 (some ⟨g, 2, none⟩) 3 [99, 100, 101] := by
    have := Kd.C_drop (m := 2) (c := c) (Kd.R_reads' HR6.out).2.2 (by decide) hc5
    rw [if_neg (by omega)] at this
    exact this
  have HCC := Aside0.mk hC
  have hlt6 : b + 1 ≤ w2.heap.size := blk_lt HC6.out
  clear hC
  go_wp2_with ((with_reducible refine gate_builtin (b := .copy) (xs := #[.tmp 48, .tmp 54]) rfl ?_); refine Kd.R_copy (enc := Value.int .u8) (h1 := fun _ => rfl) (0 : Int) (w0 := w2) (b + 1) rfl (.tmp 48) (.tmp 54) 48 48 5 rfl Try.underlying48 info25s (.slice (some ⟨g2, 0, none⟩) 3 cap2) [0, 0, 0] [99, 100, 101] _ _ _ (fun _ => True) rfl rfl HR2.out ?hR (Below.refl _ _) hlt6 ?_; (case hR => first | exact HCC.out | (rw [if_neg (show ¬ c = 2 by omega)]; exact HCC.out) | (rw [if_neg (show ¬ (c : Int) = 2 by omega)]; exact HCC.out)))
  intro w3 hR3 hb3 hg3
  have HR3 : Aside0 (RB w3 (b + 1) (.slice (some ⟨g2, 0, none⟩) 3 cap2) [99, 100, 101]) := ⟨hR3⟩
  have HC7 : Aside0 (CarryAt w3 b (.slice (some ⟨g, 0, none⟩) 5 c) 0 4) := ⟨blk_grown HC6.out hg3 (fun e => by simp [Value.ownBlock] at e; omega)⟩
  have HB7 : Aside0 (Below B w0 w3) := ⟨Below.grown HB6.out hg3 (by omega) (fun j hj => by simp [Value.ownBlock] at hj; omega)⟩
  clear hR3 hb3 hg3 c0 c1 c2 c3 HC6 HB6 HR6 HR2
  obtain ⟨c0, c1, c2, c3⟩ := HC7.out.cell
  have hf1 := blk_frozen HC7.out 1
  have hf2 := blk_frozen HC7.out 2
  go_wp2
  go_ret
  exact ⟨rfl, g2, cap2, (blk_set (blk_set HC7.out 1 _) 2 _).trans rfl, R_beside (R_beside HR3.out (Nat.lt_succ_self _) _) (Nat.lt_succ_self _) _, Below.setCell (p := ⟨b, 2, none⟩) (Below.setCell (p := ⟨b, 1, none⟩) HB7.out hb _) hb _⟩

set_option maxHeartbeats 4000000 in
set_option maxRecDepth 100000 in
theorem carry_Tail5 {b g c : Nat} {w : World} (hc : CarryAt w b (.slice (some ⟨g, 0, none⟩) 3 c) 2 4) (hr : RB w (b + 1) (.slice (some ⟨g, 0, none⟩) 3 c) [99, 100, 101]) :
    Calls Try.prog 10 #[.pointer (some ⟨b, 0, none⟩), .int .i64 5] w fun e w' => e = .returned (.tuple #[.string (⟨#[100, 101]⟩ : ByteArray), .bool true]) ∧ ∃ q, w' = w.drewN q := by
  obtain ⟨c0, c1, c2, c3⟩ := hc.cell
  have HC := Aside0.mk hc
  have hc3 : 3 ≤ c := (Kd.R_reads' hr).2.1
  have HR := Aside0.mk hr
  clear hc hr
  go_enter Try.func10, Try.ntmps10
  go_wp2_with (go_at_call 22; refine (carry_Seen2 HC.out 5 rfl).mono ?_; rintro e w' ⟨rfl, q, rfl⟩)
  have hC : Kd.C (Kd.int .u8) w (some ⟨g, 1, none⟩) 2 [100, 101] := by
    have := Kd.C_drop (m := 1) (c := c) (Kd.R_reads' HR.out).2.2 (by decide) hc3
    rw [if_neg (by omega)] at this
    exact this
  have r0 : w.cell? ⟨g, 1, none⟩ = some (.int .u8 100) := by
    obtain ⟨ad, e, hx⟩ := Kd.at_int hC 0 (by decide) (by decide)
    cases e
    exact hx
  have r1 : w.cell? ⟨g, 2, none⟩ = some (.int .u8 101) := by
    obtain ⟨ad, e, hx⟩ := Kd.at_int hC 1 (by decide) (by decide)
    cases e
    exact hx
  have e1 : IntKind.i64.wrap 3 = 3 := by decide
  have e2 : IntKind.i64.wrap 1 = 1 := by decide
  have e3 : IntKind.i64.wrap (3 - 2) = 1 := by decide
  have e4 : IntKind.i64.wrap (5 - 2) = 3 := by decide
  have hcn : ¬ c = 1 := by omega
  have hcn2 : (c = 1) = False := eq_false hcn
  have hi3 : (3 : Int) ≤ (c : Int) := by omega
  have hi4 : ¬ (c : Int) < 3 := by omega
  have hi5 : ¬ c < 3 := by omega
  have hcv : ∀ (W : World) (cp : Nat), W.cell? ⟨g, 1, none⟩ = some (.int .u8 100) → W.cell? ⟨g, 2, none⟩ = some (.int .u8 101) → (Go.convert 48 9 (.slice (some ⟨g, 1, none⟩) 2 cp)).run Try.prog W = .ok (.string (⟨#[100, 101]⟩ : ByteArray)) W := fun W cp g0 g1 => by
    have := run_convert_bytes_arg (P := Try.prog) W 48 5 Try.underlying48 Try.underlying5 g 1 2 cp [100, 101] rfl (fun i hi => by
      have : i = 0 ∨ i = 1 := by omega
      rcases this with rfl | rfl
      · exact g0
      · exact g1) 9 Try.underlying9
    exact this
  go_quiet (fail)
  go_wp2
  go_ret2
  exact ⟨rfl, _, rfl⟩
theorem carry_Tail3 {b g c : Nat} {w : World} (hc : CarryAt w b (.slice (some ⟨g, 0, none⟩) 3 c) 2 4) :
    Calls Try.prog 10 #[.pointer (some ⟨b, 0, none⟩), .int .i64 3] w fun e w' => e = .returned (.tuple #[.string ByteArray.empty, .bool false]) ∧ ∃ q, w' = w.drewN q := by
  obtain ⟨c0, c1, c2, c3⟩ := hc.cell
  have HC := Aside0.mk hc
  clear hc
  go_enter Try.func10, Try.ntmps10
  go_wp2_with (go_at_call 22; refine (carry_Seen2 HC.out 5 rfl).mono ?_; rintro e w' ⟨rfl, q, rfl⟩)
  go_ret2
  exact ⟨rfl, _, rfl⟩

end Go.Proofs.Ytibckaogfdffpaa.P
