/- Layer 25's carry at any bytes: what comes, what is told, what is given up: the walks; no condition beyond the sizes that stand in each statement. -/
import Derived.Test.YtibckaogfdffpaaH25
namespace Go.Proofs.Ytibckaogfdffpaa.P
open Go Go.RowKit Go.Proofs.YtibckaogfdffpaaW.PrintWords Go.Proofs.YtibckaogfdffpaaW.PrintLast Go.Proofs.YtibckaogfdffpaaW.PrintMore Go.Proofs.Ytibckaogfdffpaa.Base
attribute [local go_sem] max2_int min2_int max_two min_two
set_option linter.unusedVariables false
set_option linter.unusedSimpArgs false

/-- A carry at a block: how much it keeps, its bytes' row, what came ahead of that, what is done. -/
def CarryG (w : World) (b : Nat) (keep : Int) (v : Value) (f d : Int) : Prop := w.heap[b]? = some (.cells #[.int .i64 keep, v, .int .i64 f, .int .i64 d] 50 (0, 0))
theorem CarryG.cell {w : World} {b : Nat} {keep : Int} {v : Value} {f d : Int} (h : CarryG w b keep v f d) : w.cell? ⟨b, 0, none⟩ = some (.int .i64 keep) ∧ w.cell? ⟨b, 1, none⟩ = some v ∧ w.cell? ⟨b, 2, none⟩ = some (.int .i64 f) ∧ w.cell? ⟨b, 3, none⟩ = some (.int .i64 d) :=
  ⟨(blk_cell h 0).trans rfl, (blk_cell h 1).trans rfl, (blk_cell h 2).trans rfl, (blk_cell h 3).trans rfl⟩
theorem CarryG.kept {w w' : World} {b : Nat} {keep : Int} {v : Value} {f d : Int} {S : Nat → Prop} (h : CarryG w b keep v f d) (hk : Kept w w' S) (hn : ¬ S b) : CarryG w' b keep v f d := blk_kept h hk hn

theorem carry_NewG (keep : Nat) (h1 : 1 ≤ keep) (h2 : keep ≤ 65536) (w : World) : Calls Try.prog 6 #[.int .i64 (keep : Int)] w fun e w' => e = .returned (.tuple #[.pointer (some ⟨w.heap.size, 0, none⟩), .int .i64 0]) ∧ CarryG w' w.heap.size (keep : Int) (.slice none 0 0) 0 0 ∧ Below w.heap.size w w' ∧ w.heap.size < w'.heap.size := by
  have HB := Aside0.mk (Below.refl w.heap.size w)
  have c1 : decide ((keep : Int) < 1) = false := decide_eq_false (by omega)
  have c2 : decide ((65536 : Int) < (keep : Int)) = false := decide_eq_false (by omega)
  go_enter Try.func6, Try.ntmps6
  go_wp2
  go_ret2
  exact ⟨rfl, heap_alloc_new _ _, (Below.refl _ _).alloc (Nat.le_refl _) _, blk_lt (heap_alloc_new _ _)⟩
theorem carry_AddG (s : ByteArray) (keep f d : Int) (Bs : List Int) (b base B : Nat) (v : Value) (w0 w : World) (hc : CarryG w b keep v f d) (hr : RB w base v Bs) (hbb : b < base) (hbase : base ≤ w.heap.size) (hl : Bs.length + s.size ≤ 1099511627776) (hB : Below B w0 w) (hBb : B ≤ b) :
    Calls Try.prog 7 #[.pointer (some ⟨b, 0, none⟩), .string s] w fun e w' => e = .returned (.tuple #[]) ∧ ∃ v', CarryG w' b keep v' f d ∧ RB w' base v' (Bs ++ bytesOf s) ∧ Kept w w' (fun k => k = b ∨ some k = v.ownBlock) ∧ Below B w0 w' := by
  obtain ⟨c0, c1, c2, c3⟩ := hc.cell
  have HC := Aside0.mk hc
  have HB := Aside0.mk hB
  have HO := Aside0.mk (Kd.own_of_R hr)
  have hf1 := blk_frozen hc 1
  have HBS := Aside0.mk (Kd.R_base hr)
  have hsl : Bs.length + s.size ≤ 140737488355328 := by omega
  obtain ⟨A, cp, rfl⟩ := Kd.R_slice hr
  clear hc hB hr hl
  go_enter Try.func7, Try.ntmps7
  go_wp2_with ((with_reducible refine gate_builtin (b := .append) (xs := #[.tmp 10, .tmp 11]) rfl ?_); at_builtin; refine print_append_str (w0 := w) base rfl (.tmp 10) (.tmp 11) 48 9 5 rfl Try.underlying48 Try.underlying9 info25 _ Bs s rfl rfl HO.out (Below.refl _ _) hbase hsl ?_)
  intro v1 w1 ho hb1 hg
  have hp1 := blk_grown HC.out hg (fun e => by have := HBS.out b (by rw [← e]); omega)
  have hc1' : w1.cell? ⟨b, 1, none⟩ = some (.slice A Bs.length cp) := (blk_cell hp1 1).trans rfl
  have hf1' := blk_frozen hp1 1
  have HP := Aside0.mk hp1
  have HR1 := Aside0.mk (Kd.R_of_own (enc := Value.int .u8) (h1 := fun _ => rfl) (ok := fun _ => True) (xs := Bs ++ bytesOf s) (by rw [List.length_append]; exact ho) (fun _ _ => trivial))
  have HB1 := Aside0.mk (HB.out.grown hg (by omega) (fun j hj => by have := HBS.out j hj; omega))
  have HK := Aside0.mk (Kept.of_grown hg (Kept.refl w (fun k => k = b ∨ some k = (Value.slice A Bs.length cp).ownBlock)) (fun k hk => .inl (.inr hk.symm)))
  obtain ⟨A1, cp1, rfl⟩ := Kd.R_slice HR1.out
  clear hp1 ho hg hb1
  go_wp2
  go_end0
  exact ⟨rfl, _, (blk_set HP.out 1 _).trans rfl, R_beside (by have := HR1.out; rw [List.length_append] at this; exact this) hbb _, HK.out.setCell (p := ⟨b, 1, none⟩) (.inl (.inl rfl)) _, Below.setCell (p := ⟨b, 1, none⟩) HB1.out hBb _⟩
theorem carry_SeenG {w : World} {b : Nat} {keep : Int} {A : Option Addr} {n c f : Nat} {d : Int} (hc : CarryG w b keep (.slice A n c) (f : Int) d) (hn : f + n ≤ 1099511627776) : Calls Try.prog 22 #[.pointer (some ⟨b, 0, none⟩)] w fun e w' => e = .returned (.int .i64 ((f + n : Nat) : Int)) ∧ ∃ q, w' = w.drewN q := by
  obtain ⟨c0, c1, c2, c3⟩ := hc.cell
  have hr : IntKind.i64.wrap ((f : Int) + (n : Int)) = ((f + n : Nat) : Int) := by rw [i64_w, wrap_id (by omega) (by omega)]; omega
  clear hc
  go_enter Try.func22, Try.ntmps22
  go_wp2
  go_quiet (fail)
  go_wp2
  go_ret
  exact ⟨rfl, _, rfl⟩
theorem carry_HeldG {w : World} {b : Nat} {keep : Int} {A : Option Addr} {n c : Nat} {f d : Int} (hc : CarryG w b keep (.slice A n c) f d) : Calls Try.prog 9 #[.pointer (some ⟨b, 0, none⟩)] w fun e w' => e = .returned (.int .i64 (n : Int)) ∧ ∃ q, w' = w.drewN q := by
  obtain ⟨c0, c1, c2, c3⟩ := hc.cell
  clear hc
  go_enter Try.func9, Try.ntmps9
  go_wp2
  go_ret
  exact ⟨rfl, 0, rfl⟩

set_option maxHeartbeats 4000000 in
set_option maxRecDepth 100000 in
theorem carry_PassG {B b base keep f d e : Nat} {Bs : List Int} {v : Value} {w0 w : World} (hc : CarryG w b (keep : Int) v (f : Int) (d : Int)) (hr : RB w base v Bs) (hbb : b < base) (hbase : base ≤ w.heap.size) (hl : f + Bs.length ≤ 1099511627776) (hk0 : 1 ≤ keep) (hk : keep ≤ 1099511627776) (he1 : d ≤ e) (he2 : e ≤ f + Bs.length) (hB : Below B w0 w) (hBb : B ≤ b) :
    Calls Try.prog 8 #[.pointer (some ⟨b, 0, none⟩), .int .i64 (e : Int)] w fun r w' => r = .returned (.int .i64 0) ∧ ∃ v', CarryG w' b (keep : Int) v' ((f + (e - keep - f) : Nat) : Int) (e : Int) ∧ RB w' base v' (Bs.drop (e - keep - f)) ∧ Kept w w' (fun k => k = b) ∧ Below B w0 w' := by
  have hc' := hc
  obtain ⟨A, cp, rfl⟩ := Kd.R_slice hr
  obtain ⟨c0, c1, c2, c3⟩ := hc.cell
  have hcp : Bs.length ≤ cp := (Kd.R_reads' hr).2.1
  have HC := Aside0.mk hc
  have HR := Aside0.mk hr
  have HB := Aside0.mk hB
  have hf3 := blk_frozen hc 3
  have hn : f + Bs.length ≤ 1099511627776 := hl
  have q1 : decide ((e : Int) < (d : Int)) = false := decide_eq_false (by omega)
  have q2 : decide (((f + Bs.length : Nat) : Int) < (e : Int)) = false := decide_eq_false (by omega)
  have w1 : IntKind.i64.wrap ((e : Int) - (keep : Int)) = (e : Int) - (keep : Int) := by rw [i64_w, wrap_id (by omega) (by omega)]
  have w2 : IntKind.i64.wrap ((e : Int) - (keep : Int) - (f : Int)) = (e : Int) - (keep : Int) - (f : Int) := by rw [i64_w, wrap_id (by omega) (by omega)]
  clear hc hr hB hc'
  by_cases hs : e ≤ keep + f
  · have h0 : e - keep - f = 0 := by omega
    have q3 : decide ((f : Int) < (e : Int) - (keep : Int)) = false := decide_eq_false (by omega)
    rw [h0, Nat.add_zero, List.drop_zero]
    clear hs h0
    go_enter Try.func8, Try.ntmps8
    go_wp2_with (go_at_call 22; refine (carry_SeenG HC.out hn).mono ?_; rintro e w' ⟨rfl, q, rfl⟩)
    have HC5 : Aside0 (CarryG ((w.drewN q).setCell ⟨b, 3, none⟩ (.int .i64 (e : Int))) b (keep : Int) (.slice A Bs.length cp) (f : Int) (e : Int)) := ⟨(blk_set (show (w.drewN q).heap[b]? = _ from HC.out) 3 _).trans rfl⟩
    have HR5 : Aside0 (RB ((w.drewN q).setCell ⟨b, 3, none⟩ (.int .i64 (e : Int))) base (.slice A Bs.length cp) Bs) := ⟨R_beside (Kd.R_drewN HR.out q) hbb _⟩
    have HB5 : Aside0 (Below B w0 ((w.drewN q).setCell ⟨b, 3, none⟩ (.int .i64 (e : Int)))) := ⟨Below.setCell (p := ⟨b, 3, none⟩) (pw_below_drewN HB.out q) hBb _⟩
    have HK5 : Aside0 (Kept w ((w.drewN q).setCell ⟨b, 3, none⟩ (.int .i64 (e : Int))) (fun k => k = b)) := ⟨Kept.setCell (S := fun k => k = b) ((Kept.refl w _).drewN q) (p := ⟨b, 3, none⟩) (.inl rfl) _⟩
    generalize (w.drewN q).setCell ⟨b, 3, none⟩ (.int .i64 (e : Int)) = W5 at HC5 HR5 HB5 HK5 ⊢
    clear c0 c1 c2 c3 hf3 HC HR HB
    obtain ⟨c0, c1, c2, c3⟩ := HC5.out.cell
    go_quiet (fail)
    go_wp2
    go_ret
    exact ⟨rfl, _, HC5.out, Kd.R_drewN HR5.out _, HK5.out, pw_below_drewN HB5.out _⟩
  · obtain ⟨sp, hsp⟩ : ∃ sp : Nat, e - keep - f = sp := ⟨_, rfl⟩
    have hsp0 : 0 < sp := by omega
    have hspl : sp ≤ Bs.length := by omega
    have hse : (e : Int) - (keep : Int) - (f : Int) = (sp : Int) := by omega
    have q3 : decide (0 < sp) = true := decide_eq_true hsp0
    rw [hse] at w2
    rw [hsp]
    clear hs
    obtain ⟨m, hm⟩ : ∃ m, Bs.length - sp = m := ⟨_, rfl⟩
    have w3 : IntKind.i64.wrap ((Bs.length : Int) - (sp : Int)) = (m : Int) := by rw [i64_w, wrap_id (by omega) (by omega)]; omega
    have w4 : IntKind.i64.wrap ((f : Int) + (sp : Int)) = ((f + sp : Nat) : Int) := by rw [i64_w, wrap_id (by omega) (by omega)]; omega
    clear hsp
    go_enter Try.func8, Try.ntmps8
    go_wp2_with (go_at_call 22; refine (carry_SeenG HC.out hn).mono ?_; rintro e w' ⟨rfl, q, rfl⟩)
    have HC5 : Aside0 (CarryG ((w.drewN q).setCell ⟨b, 3, none⟩ (.int .i64 (e : Int))) b (keep : Int) (.slice A Bs.length cp) (f : Int) (e : Int)) := ⟨(blk_set (show (w.drewN q).heap[b]? = _ from HC.out) 3 _).trans rfl⟩
    have HR5 : Aside0 (RB ((w.drewN q).setCell ⟨b, 3, none⟩ (.int .i64 (e : Int))) base (.slice A Bs.length cp) Bs) := ⟨R_beside (Kd.R_drewN HR.out q) hbb _⟩
    have HB5 : Aside0 (Below B w0 ((w.drewN q).setCell ⟨b, 3, none⟩ (.int .i64 (e : Int)))) := ⟨Below.setCell (p := ⟨b, 3, none⟩) (pw_below_drewN HB.out q) hBb _⟩
    have HK5 : Aside0 (Kept w ((w.drewN q).setCell ⟨b, 3, none⟩ (.int .i64 (e : Int))) (fun k => k = b)) := ⟨Kept.setCell (S := fun k => k = b) ((Kept.refl w _).drewN q) (p := ⟨b, 3, none⟩) (.inl rfl) _⟩
    have hb5 : base ≤ ((w.drewN q).setCell ⟨b, 3, none⟩ (.int .i64 (e : Int))).heap.size := Nat.le_trans hbase HK5.out.1
    generalize (w.drewN q).setCell ⟨b, 3, none⟩ (.int .i64 (e : Int)) = W5 at HC5 HR5 HB5 HK5 hb5 ⊢
    clear c0 c1 c2 c3 hf3 HC HR HB
    obtain ⟨c0, c1, c2, c3⟩ := HC5.out.cell
    go_quiet (fail)
    go_wp2_with (refine Kd.R_make (Kd.int .u8) (w0 := W5) base 5 rfl (N := 47) rfl 48 (.tmp 46) (.tmp 46) rfl (m : Int) rfl rfl Try.underlying48 (.int .u8 0) 1 info25 rfl (by decide) (by decide) (0 : Int) (ok := fun _ => True) (okp := fun _ => True) ?hz (fun _ h => h) trivial ?h0 ?hl ?hB ?hs ?_; (case hz => rfl); (case h0 => omega); (case hl => (rw [Int.toNat_natCast]; omega)); (case hB => repeat (first | exact Below.refl _ _ | (with_reducible apply pw_below_drewN))); (case hs => exact hb5))
    intro v1 w2 hR2 hb2 hg2 bb hbb1 hbb2
    try rw [Int.toNat_natCast] at hR2
    obtain ⟨g2, cap2, rfl, hbg2, hlg2, _⟩ := Kd.R_form hR2 (by rw [List.length_replicate]; omega)
    have hgb : g2 = bb := by simpa [Value.ownBlock] using hbb1
    have HC6 : Aside0 (CarryG w2 b (keep : Int) (.slice A Bs.length cp) (f : Int) (e : Int)) := ⟨blk_grown (show (World.drewN W5 _).heap[b]? = _ from HC5.out) hg2 (fun e => by cases e)⟩
    have HR6 : Aside0 (RB w2 base (.slice A Bs.length cp) Bs) := ⟨Kd.R_grown (Kd.R_drewN HR5.out _) hg2 (fun k _ e => by cases e)⟩
    have HB6 : Aside0 (Below B w0 w2) := ⟨Below.grown (pw_below_drewN HB5.out _) hg2 (show B ≤ W5.heap.size by omega) (fun j hj => by cases hj)⟩
    have HK6 : Aside0 (Kept w w2 (fun k => k = b)) := ⟨Kept.of_grown hg2 (HK5.out.drewN _) (fun k hk => by cases hk)⟩
    have hw5 : w.heap.size ≤ W5.heap.size := HK5.out.1
    have hwg : w.heap.size ≤ g2 := by rw [hgb]; exact Nat.le_trans hw5 hbb2
    have hne : b ≠ g2 := by omega
    have HR2 := Aside0.mk hR2
    have HWG := Aside0.mk hwg
    have HNE := Aside0.mk hne
    rw [List.length_replicate]
    have hb6 : base ≤ w2.heap.size := Nat.le_trans hb5 hg2.size
    clear hR2 hb2 hg2 hbb1 hbb2 hgb hbg2 hlg2 hwg hne hw5 c0 c1 c2 c3 HC5 HR5 HB5 HK5 hb5
    obtain ⟨c0, c1, c2, c3⟩ := HC6.out.cell
    have hC : Kd.C (Kd.int .u8) w2 (Option.map (fun x => x.add sp) A) m (Bs.drop sp) := by
      have h := Kd.C_drop (m := sp) (c := cp) (Kd.R_reads' HR6.out).2.2 hspl hcp
      rw [if_neg (by omega), List.length_drop, hm] at h
      have e1 : sp * (Kd.int .u8).sz = sp := Nat.mul_one sp
      rw [e1] at h
      exact h
    have HCC := Aside0.mk hC
    have hspi : (sp : Int) ≤ (Bs.length : Int) := by omega
    have hsp1 : (0 : Int) ≤ (sp : Int) := by omega
    have hcpi : (Bs.length : Int) ≤ (cp : Int) := by omega
    clear hC
    go_wp2_with ((with_reducible refine gate_builtin (b := .copy) (xs := #[.tmp 48, .tmp 54]) rfl ?_); refine Kd.R_copy (enc := Value.int .u8) (h1 := fun _ => rfl) (0 : Int) (w0 := w2) base rfl (.tmp 48) (.tmp 54) 48 48 5 rfl Try.underlying48 info25s (.slice (some ⟨g2, 0, none⟩) m cap2) (List.replicate m 0) (Bs.drop sp) _ _ _ (fun _ => True) rfl rfl (by have := HR2.out; rw [List.length_replicate] at this; exact this) HCC.out (Below.refl _ _) hb6 ?_)
    intro w3 hR3 hb3 hg3
    rw [List.take_of_length_le (by rw [List.length_drop]; omega)] at hR3
    have HR3 : Aside0 (RB w3 base (.slice (some ⟨g2, 0, none⟩) m cap2) (Bs.drop sp)) := ⟨hR3⟩
    have HC7 : Aside0 (CarryG w3 b (keep : Int) (.slice A Bs.length cp) (f : Int) (e : Int)) := ⟨blk_grown HC6.out hg3 (fun e => by have := HNE.out; simp [Value.ownBlock] at e; omega)⟩
    have HB7 : Aside0 (Below B w0 w3) := ⟨Below.grown HB6.out hg3 (by omega) (fun j hj => by have := HWG.out; simp [Value.ownBlock] at hj; omega)⟩
    have HK7 : Aside0 (Kept w w3 (fun k => k = b)) := ⟨Kept.of_grown hg3 HK6.out (fun k hk => by have := HWG.out; simp [Value.ownBlock] at hk; omega)⟩
    clear hR3 hb3 hg3 c0 c1 c2 c3 HC6 HB6 HR6 HR2 HK6
    obtain ⟨c0, c1, c2, c3⟩ := HC7.out.cell
    have hf1 := blk_frozen HC7.out 1
    have hf2 := blk_frozen HC7.out 2
    go_wp2
    go_ret
    exact ⟨rfl, _, (blk_set (blk_set HC7.out 1 _) 2 _).trans rfl, R_beside (R_beside HR3.out hbb _) hbb _, Kept.setCell (p := ⟨b, 2, none⟩) (Kept.setCell (p := ⟨b, 1, none⟩) HK7.out (.inl rfl) _) (.inl rfl) _, Below.setCell (p := ⟨b, 2, none⟩) (Below.setCell (p := ⟨b, 1, none⟩) HB7.out hBb _) hBb _⟩

def tailG (keep f d : Nat) (Bs : List Int) (e : Int) : ByteArray × Bool :=
  if 0 ≤ e ∧ e ≤ ((f + Bs.length : Nat) : Int) ∧ (d : Int) ≤ e then (strOfNums ((Bs.take (e.toNat - f)).drop (e.toNat - min e.toNat keep - f)), true) else (ByteArray.empty, false)
def byteG (f : Nat) (Bs : List Int) (e : Int) : Int × Bool := if e ≤ (f : Int) ∨ ((f + Bs.length : Nat) : Int) < e then (0, false) else (Bs.getD (e.toNat - f - 1) 0, true)
set_option maxHeartbeats 4000000 in
set_option maxRecDepth 100000 in
theorem carry_TailG {b base keep f d : Nat} {Bs : List Int} {v : Value} {w : World} (e : Int) (hc : CarryG w b (keep : Int) v (f : Int) (d : Int)) (hr : RB w base v Bs) (hl : f + Bs.length ≤ 1099511627776) (hk : keep ≤ 1099511627776) (hfd : f ≤ d - keep) (he : -9223372036854775808 ≤ e ∧ e ≤ 9223372036854775807) :
    Calls Try.prog 10 #[.pointer (some ⟨b, 0, none⟩), .int .i64 e] w fun r w' => r = .returned (.tuple #[.string (tailG keep f d Bs e).1, .bool (tailG keep f d Bs e).2]) ∧ ∃ q, w' = w.drewN q := by
  obtain ⟨A, cp, rfl⟩ := Kd.R_slice hr
  obtain ⟨c0, c1, c2, c3⟩ := hc.cell
  have hcp : Bs.length ≤ cp := (Kd.R_reads' hr).2.1
  have HC := Aside0.mk hc
  have HR := Aside0.mk hr
  clear hc hr
  by_cases g : 0 ≤ e ∧ e ≤ ((f + Bs.length : Nat) : Int) ∧ (d : Int) ≤ e
  rotate_left
  · have hT : tailG keep f d Bs e = (ByteArray.empty, false) := if_neg g
    rw [hT]
    have hn : f + Bs.length ≤ 1099511627776 := hl
    by_cases g0 : e < 0
    · have q0 : decide (e < 0) = true := decide_eq_true g0
      clear g hT
      go_enter Try.func10, Try.ntmps10
      go_wp2_with (go_at_call 22; refine (carry_SeenG HC.out hn).mono ?_; rintro e w' ⟨rfl, q, rfl⟩)
      go_ret2
      exact ⟨rfl, ⟨0, rfl⟩⟩
    · have q0 : decide (e < 0) = false := decide_eq_false g0
      by_cases g1 : ((f + Bs.length : Nat) : Int) < e
      · have q1 : decide (((f + Bs.length : Nat) : Int) < e) = true := decide_eq_true g1
        have q1' : decide ((f : Int) + (Bs.length : Int) < e) = true := decide_eq_true (by omega)
        clear g hT g0 g1
        go_enter Try.func10, Try.ntmps10
        go_wp2_with (go_at_call 22; refine (carry_SeenG HC.out hn).mono ?_; rintro e w' ⟨rfl, q, rfl⟩)
        go_ret2
        exact ⟨rfl, ⟨_, rfl⟩⟩
      · have q1 : decide (((f + Bs.length : Nat) : Int) < e) = false := decide_eq_false g1
        have q1' : decide ((f : Int) + (Bs.length : Int) < e) = false := decide_eq_false (by omega)
        have q2 : decide (e < (d : Int)) = true := decide_eq_true (by omega)
        clear g hT g0 g1
        go_enter Try.func10, Try.ntmps10
        go_wp2_with (go_at_call 22; refine (carry_SeenG HC.out hn).mono ?_; rintro e w' ⟨rfl, q, rfl⟩)
        go_ret2
        exact ⟨rfl, ⟨_, rfl⟩⟩
  · have hT : tailG keep f d Bs e = (strOfNums ((Bs.take (e.toNat - f)).drop (e.toNat - min e.toNat keep - f)), true) := if_pos g
    rw [hT]
    clear hT
    have hn : f + Bs.length ≤ 1099511627776 := hl
    obtain ⟨g0, g1, g2⟩ := g
    obtain ⟨en, rfl⟩ : ∃ n : Nat, e = n := ⟨e.toNat, by omega⟩
    rw [Int.toNat_natCast]
    have q0 : decide ((en : Int) < 0) = false := decide_eq_false (by omega)
    have q1 : decide (((f + Bs.length : Nat) : Int) < (en : Int)) = false := decide_eq_false (by omega)
    have q1' : decide ((f : Int) + (Bs.length : Int) < (en : Int)) = false := decide_eq_false (by omega)
    have q2 : decide ((en : Int) < (d : Int)) = false := decide_eq_false (by omega)
    have q2' : decide (en < d) = false := decide_eq_false (by omega)
    obtain ⟨n, hn2⟩ : ∃ n : Nat, min en keep = n := ⟨_, rfl⟩
    have hm1 : (if keep < en then (keep : Int) else (en : Int)) = (n : Int) := by split <;> omega
    obtain ⟨lo, hlo⟩ : ∃ lo : Nat, en - n - f = lo := ⟨_, rfl⟩
    obtain ⟨hi, hhi⟩ : ∃ hi : Nat, en - f = hi := ⟨_, rfl⟩
    rw [hn2, hlo, hhi]
    have w1 : IntKind.i64.wrap ((en : Int) - (n : Int)) = (en : Int) - (n : Int) := by rw [i64_w, wrap_id (by omega) (by omega)]
    have w2 : IntKind.i64.wrap ((en : Int) - (n : Int) - (f : Int)) = (lo : Int) := by rw [i64_w, wrap_id (by omega) (by omega)]; omega
    have w3 : IntKind.i64.wrap ((en : Int) - (f : Int)) = (hi : Int) := by rw [i64_w, wrap_id (by omega) (by omega)]; omega
    have h1 : lo ≤ hi := by omega
    have h2 : hi ≤ Bs.length := by omega
    have h1' : (lo : Int) ≤ (hi : Int) := by omega
    have h2' : (hi : Int) ≤ (Bs.length : Int) := by omega
    have h3' : (hi : Int) ≤ (cp : Int) := by omega
    clear hn2 hlo hhi g0 g1 g2
    go_enter Try.func10, Try.ntmps10
    go_wp2_with (go_at_call 22; refine (carry_SeenG HC.out hn).mono ?_; rintro e w' ⟨rfl, q, rfl⟩)
    obtain ⟨i0, hi0, _, hi1, _⟩ := info_parts info25
    obtain ⟨A2, hA2⟩ : ∃ A2 : Option Addr, (if cp = lo then A else A.map (·.add (lo * 1))) = A2 := ⟨_, rfl⟩
    have hcut : ∀ W : World, (Instr.slice 48 (.slice A Bs.length cp) (some (.int .i64 (lo : Int))) (some (.int .i64 (hi : Int))) none).run Try.prog W = .ok (.slice A2 (hi - lo) (cp - lo)) W := fun W => by
      have := cut_mid 48 5 .i64 .i64 Try.underlying48 hi0 1 hi1 A Bs.length cp (lo : Int) (hi : Int) (by omega) h1' h2' hcp W
      rw [Int.toNat_natCast, Int.toNat_natCast, hA2] at this
      exact this
    have hC : Kd.C (Kd.int .u8) w A2 (hi - lo) ((Bs.take hi).drop lo) := by
      have h := Kd.C_mid (lo := lo) (hi := hi) (c := cp) (Kd.R_reads' HR.out).2.2 h1 h2 hcp
      have e1 : (Kd.int .u8).sz = 1 := rfl
      rw [e1, hA2] at h
      have e2 : ((Bs.take hi).drop lo).length = hi - lo := by rw [List.length_drop, List.length_take]; omega
      rw [e2] at h
      exact h
    have hcv : ∀ k : Nat, (Go.convert 48 9 (.slice A2 (hi - lo) (cp - lo))).run Try.prog (w.drewN k) = .ok (.string (strOfNums ((Bs.take hi).drop lo))) (w.drewN k) := fun k =>
      Kd.C_string Try.underlying48 Try.underlying5 Try.underlying9 (show Kd.C (Kd.int .u8) (w.drewN k) A2 (hi - lo) ((Bs.take hi).drop lo) from Kd.C_below hC (pw_below_drewN (Below.refl _ _) k))
    have hcv0 := hcv 0
    clear hC hA2
    go_quiet (fail)
    go_wp2
    go_ret2
    exact ⟨rfl, q + nq, by rw [World.drewN_drewN]⟩
set_option maxHeartbeats 4000000 in
set_option maxRecDepth 100000 in
theorem carry_ByteG {b base f : Nat} {keep d : Int} {Bs : List Int} {v : Value} {w : World} (e : Int) (hc : CarryG w b keep v (f : Int) d) (hr : RB w base v Bs) (hl : f + Bs.length ≤ 1099511627776) :
    Calls Try.prog 11 #[.pointer (some ⟨b, 0, none⟩), .int .i64 e] w fun r w' => r = .returned (.tuple #[.int .u8 (byteG f Bs e).1, .bool (byteG f Bs e).2]) ∧ ∃ q, w' = w.drewN q := by
  obtain ⟨A, cp, rfl⟩ := Kd.R_slice hr
  obtain ⟨c0, c1, c2, c3⟩ := hc.cell
  have HC := Aside0.mk hc
  have HR := Aside0.mk hr
  have hn : f + Bs.length ≤ 1099511627776 := hl
  clear hc hr
  by_cases g : e ≤ (f : Int) ∨ ((f + Bs.length : Nat) : Int) < e
  · have hT : byteG f Bs e = (0, false) := if_pos g
    rw [hT]
    by_cases g0 : e ≤ (f : Int)
    · have q0 : decide (e ≤ (f : Int)) = true := decide_eq_true g0
      clear g hT
      go_enter Try.func11, Try.ntmps11
      go_wp2_with (go_at_call 22; refine (carry_SeenG HC.out hn).mono ?_; rintro e w' ⟨rfl, q, rfl⟩)
      go_ret2
      exact ⟨rfl, ⟨0, rfl⟩⟩
    · have q0 : decide (e ≤ (f : Int)) = false := decide_eq_false g0
      have q1 : decide (((f + Bs.length : Nat) : Int) < e) = true := decide_eq_true (by omega)
      have q1' : decide ((f : Int) + (Bs.length : Int) < e) = true := decide_eq_true (by omega)
      clear g hT g0
      go_enter Try.func11, Try.ntmps11
      go_wp2_with (go_at_call 22; refine (carry_SeenG HC.out hn).mono ?_; rintro e w' ⟨rfl, q, rfl⟩)
      go_ret2
      exact ⟨rfl, ⟨_, rfl⟩⟩
  · have hT : byteG f Bs e = (Bs.getD (e.toNat - f - 1) 0, true) := if_neg g
    rw [hT]
    clear hT
    obtain ⟨i, hi⟩ : ∃ i : Nat, e.toNat - f - 1 = i := ⟨_, rfl⟩
    have hil : i < Bs.length := by omega
    have he : e = (f : Int) + (i : Int) + 1 := by omega
    rw [hi]
    subst he
    have q0 : decide ((f : Int) + (i : Int) + 1 ≤ (f : Int)) = false := decide_eq_false (by omega)
    have q1 : decide (((f + Bs.length : Nat) : Int) < (f : Int) + (i : Int) + 1) = false := decide_eq_false (by omega)
    have q1' : decide ((f : Int) + (Bs.length : Int) < (f : Int) + (i : Int) + 1) = false := decide_eq_false (by omega)
    have w1 : IntKind.i64.wrap ((f : Int) + (i : Int) + 1 - (f : Int)) = (i : Int) + 1 := by rw [i64_w, wrap_id (by omega) (by omega)]; omega
    have w2 : IntKind.i64.wrap ((i : Int) + 1 - 1) = (i : Int) := by rw [i64_w, wrap_id (by omega) (by omega)]; omega
    have w2' : IntKind.i64.wrap (i : Int) = (i : Int) := by rw [i64_w, wrap_id (by omega) (by omega)]
    have w3 : (0 : Int) ≤ (i : Int) := by omega
    have w4 : (i : Int) < (Bs.length : Int) := by omega
    obtain ⟨ad, rfl, hx⟩ := Kd.at_int (Kd.R_reads' HR.out).2.2 (i : Int) w3 w4
    have hx' : w.cell? (ad.add i) = some (.int .u8 (Bs.getD i 0)) := hx
    clear hx hi g
    generalize Bs.getD i 0 = z at hx' ⊢
    go_enter Try.func11, Try.ntmps11
    go_wp2_with (go_at_call 22; refine (carry_SeenG HC.out hn).mono ?_; rintro e w' ⟨rfl, q, rfl⟩)
    go_quiet (fail)
    go_wp2
    go_ret2
    exact ⟨rfl, ⟨q + nq, by rw [World.drewN_drewN]⟩⟩

end Go.Proofs.Ytibckaogfdffpaa.P
