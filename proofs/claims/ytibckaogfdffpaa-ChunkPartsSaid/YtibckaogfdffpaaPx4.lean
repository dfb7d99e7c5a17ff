/- Layer 6's law that what is told of any parts is as the document says: the walk, with its loop over the parts' iterator. -/
import Derived.Lib.QuietBelowIn
import Derived.BigGuardIn
import Derived.Test.YtibckaogfdffpaaN06
namespace Go.Proofs.Ytibckaogfdffpaa.P
open Go Go.RowKit Go.Sort Go.Proofs.YtibckaogfdffpaaW.PrintWords Go.Proofs.YtibckaogfdffpaaW.PrintLast Go.Proofs.Ytibckaogfdffpaa.Base
set_option linter.unusedVariables false
set_option linter.unusedSimpArgs false

attribute [local go_sem] Oper.semAt_some

def juratlaw06_ChunkParts.f (l0 : List ByteArray) (a1 : Int) : Option Bool := if (-9223372036854775808 ≤ a1 ∧ a1 ≤ 9223372036854775807) ∧ l0.length * 16 ≤ 140737488351232 then some true else none
theorem eql_func_nil {P : Program} {t : TypeId} (fn : Fn) (cs bs : Array Value) (w : World) (ht : (P.underlying t).any (fun u => match u with | .func .. => true | _ => false) = true) :
    (binOp .eql t (.func fn cs bs) .nilFunc).run P w = .ok (.bool false) w := by
  cases hu : P.underlying t with
  | none => rw [hu] at ht; cases ht
  | some u =>
    rw [hu] at ht
    cases u with
    | func ps rs va =>
      have h : ∀ d : Nat, (Op.equalIn (d + 1) t (.func fn cs bs) .nilFunc).run P w = .ok false w := fun d => by
        simp [Op.equalIn, run_underlying hu]
      simp only [binOp]
      simp [Op.equal, Op.maxDepth, h 9999]
    | _ => simp at ht
theorem longest_in (l : List ByteArray) (hl : l.length ≤ 9223372036854775806) (A : Option Addr) (c : Nat) (w : World) (h : Kd.C Kd.string w A l.length l) (hc : l.length ≤ c) : Calls Try.prog 17 #[.slice A l.length c] w fun e w' => e = .returned (.int .i64 (longI l)) ∧ Drawn0 w w' := by
  obtain ⟨k, hk⟩ := Ev.all (longest_ev l hl)
  exact chunk_Longest.calls k A c l _ w h hc hk
theorem rlongest_in (l : List ByteArray) (hl : l.length ≤ 9223372036854775806) (A : Option Addr) (c : Nat) (w : World) (h : Kd.C Kd.string w A l.length l) (hc : l.length ≤ c) : Calls Try.prog 12 #[.slice A l.length c] w fun e w' => e = .returned (.int .i64 (longI l)) ∧ Drawn0 w w' := by
  obtain ⟨k, hk⟩ := Ev.all (rlongest_ev l hl)
  exact juratref06_Longest.calls k A c l _ w h hc hk
theorem rjoin_in (l : List ByteArray) (hl : l.length ≤ 30) (hs : ∀ s ∈ l, (s.size : Int) ≤ 100) (A : Option Addr) (c : Nat) (w : World) (h : Kd.C Kd.string w A l.length l) (hc : l.length ≤ c) : Calls Try.prog 19 #[.slice A l.length c] w fun e w' => e = .returned (.string (joinB l)) ∧ Drawn0 w w' := by
  obtain ⟨k, hk⟩ := Ev.all (rjoin_ev l hl hs)
  exact juratref06_Join.calls k A c l _ w h hc hk
theorem rwhere_in (l : List ByteArray) (hl : l.length ≤ 30) (hs : ∀ s ∈ l, (s.size : Int) ≤ 100) (a : Int) (A : Option Addr) (c : Nat) (w : World) (h : Kd.C Kd.string w A l.length l) (hc : l.length ≤ c) : Calls Try.prog 16 #[.slice A l.length c, .int .i64 a] w fun e w' => e = .returned (.tuple #[.int .i64 (rWhere l a).1, .int .i64 (rWhere l a).2]) ∧ Drawn0 w w' := by
  obtain ⟨k, hk⟩ := Ev.all (rwhere_ev l hl hs a)
  exact juratref06_Where.calls k A c l a _ _ w h hc hk
theorem lengths_in (l : List ByteArray) (hl : l.length ≤ 30) (A : Option Addr) (c : Nat) (w : World) (h : Kd.C Kd.string w A l.length l) (hc : l.length ≤ c) : Calls Try.prog 14 #[.slice A l.length c] w fun e w' => ∃ v, e = .returned v ∧ Kd.R (Kd.int .i64) 3 w' w.heap.size (fun _ => True) v (l.map fun s => (s.size : Int)) ∧ Below w.heap.size w w' := by
  obtain ⟨k, hk⟩ := Ev.all (lengths_ev l (by omega))
  exact chunk_Lengths.calls k A c l _ w h hc hk
theorem join_in (l : List ByteArray) (hl : l.length ≤ 30) (hs : ∀ s ∈ l, (s.size : Int) ≤ 100) (A : Option Addr) (c : Nat) (w : World) (h : Kd.C Kd.string w A l.length l) (hc : l.length ≤ c) : Calls Try.prog 18 #[.slice A l.length c] w fun e w' => e = .returned (.string (joinB l)) ∧ Below w.heap.size w w' := by
  have hz := join_size l hs
  exact chunk_Join.calls A c l _ w h hc (join_is l _ rfl (by omega) (by omega))
theorem awake_in (w : World) : Calls Try.prog 13 #[] w fun e w' => e = .returned (.bool true) ∧ Below w.heap.size w w' := by
  obtain ⟨k, hk⟩ := Ev.all awake06
  exact juratlaw06_awake.calls k true w hk
theorem whereFrom_shape : ∀ (l : List ByteArray) (a : Int) (i : Nat), (∃ (j : Nat) (k : Int), whereFrom l a i = ((j : Int), k, true)) ∨ whereFrom l a i = (0, 0, false)
  | [], _, _ => .inr rfl
  | s :: l, a, i => by
    unfold whereFrom
    by_cases h : a < (s.size : Int)
    · rw [if_pos h]; exact .inl ⟨i, a, rfl⟩
    · rw [if_neg h]; exact whereFrom_shape l _ _
theorem whereB_shape (l : List ByteArray) (a : Int) : (∃ (j : Nat) (k : Int), whereB l a = ((j : Int), k, true)) ∨ whereB l a = (0, 0, false) := by
  unfold whereB
  by_cases h : a < 0
  · rw [if_pos h]; exact .inr rfl
  · rw [if_neg h]; exact whereFrom_shape l a 0
def xP (b s k : Nat) : Prop := k = b + 1 ∨ k = s ∨ k = s + 1
set_option maxRecDepth 100000 in
set_option maxHeartbeats 16000000 in
theorem parts_in (A0 : Option Addr) (c0 : Nat) (l0 : List ByteArray) (a1 : Int) (w : World) (hr0 : Kd.C Kd.string w A0 l0.length l0) (hc0 : l0.length ≤ c0) (hl : l0.length ≤ 9223372036854775806) (ha : -9223372036854775808 ≤ a1 ∧ a1 ≤ 9223372036854775807) :
    CallsIn Fence.wide 3 Try.prog 4 #[.slice A0 l0.length c0, .int .i64 a1] w fun e w' => e = .returned (.bool true) ∧ Below w.heap.size w w' := by
  have q0 := Boxed.new w 35 (.slice A0 l0.length c0)
  obtain ⟨y0, hy0⟩ : ∃ y0, y0 = w.alloc (.cells #[.slice A0 l0.length c0] 35) := ⟨_, rfl⟩
  have s0 : y0.heap.size = w.heap.size + 1 := by rw [hy0, World.size_alloc]
  have q1 := Boxed.new y0 4 (.bool false)
  obtain ⟨y1, hy1⟩ : ∃ y1, y1 = y0.alloc (.cells #[.bool false] 4) := ⟨_, rfl⟩
  have s1 : y1.heap.size = w.heap.size + 1 + 1 := by rw [hy1, World.size_alloc, s0]
  have b1 : Below w.heap.size w y1 := by
    rw [hy1, hy0]
    exact ((Below.refl _ w).alloc (Nat.le_refl _) _).alloc (by simp) _
  rw [← hy0] at q0
  rw [← hy1, s0] at q1
  have r0 : Boxed y1 w.heap.size 35 (.slice A0 l0.length c0) := by rw [hy1]; exact q0.alloc _
  have hC1 : Kd.C Kd.string y1 A0 l0.length l0 := Kd.C_below hr0 b1
  have hy : (w.alloc (.cells #[.slice A0 l0.length c0] 35)).alloc (.cells #[.bool false] 4) = y1 := by rw [hy1, hy0]
  have HA0 := Aside0.mk (show 0 < l0.length → ∃ ad : Addr, A0 = some ad ∧ ad.block < w.heap.size from by
    intro hp
    obtain ⟨ad, e, hx⟩ := Kd.at_string hr0 0 (by omega) (by omega)
    have hx' : w.cell? (ad.add 0) = some (.string (l0.getD 0 ByteArray.empty)) := hx
    refine ⟨ad, e, ?_⟩
    have := World.block_lt_of_cell? w _ hx'
    unfold Addr.add at this
    simpa using this)
  have HY := Aside0.mk hy
  have HC1 := Aside0.mk hC1
  have HL1 := Aside0.mk r0
  have HR1 := Aside0.mk q1
  have HB1 := Aside0.mk b1
  have HS1 := Aside0.mk s1
  have HA := Aside0.mk ha
  have cL := r0.cell
  clear q0 q1 r0 s0 s1 b1 hC1 hy hr0 ha
  clear hy1 hy0
  have hin : Try.prog.underlying 3 = some (.int .i64) := Try.underlying3
  have hbl : Try.prog.underlying 4 = some .bool := Try.underlying4
  refine callsIn_of_wp_marks Try.func4 rfl trivial ?_ rfl
  simp only [Try.ntmps4, List.size_toArray, List.length_cons, List.length_nil, Nat.reduceAdd, Nat.reduceSub, Array.replicate_succ, Array.replicate_zero, List.push_toArray, List.append_toArray, List.nil_append, List.cons_append]
  by_cases h30 : 30 < l0.length
  · have d1 : decide ((30 : Int) < (l0.length : Int)) = true := decide_eq_true (by omega)
    have d2 : decide (30 < l0.length) = true := decide_eq_true h30
    have cL' := cL
    rw [← HY.out] at cL'
    gi_wp2_with (fail)
    refine ⟨trivial, ?_⟩
    gi_wp2_with (refine ⟨trivial, ?_⟩; gi_at_call 13; refine (callsIn_wide.2 (awake_in _)).mono ?_; rintro e W2 ⟨rfl, hb⟩; rw [HY.out] at hb; have HR2 := Aside0.mk (show Boxed W2 (w.heap.size + 1) 4 (.bool false) from (hb.block _ HR1.out.lt).trans HR1.out); have cR := HR2.out.cell; have fR := HR2.out.frozen; have HB2 := Aside0.mk (below_step HB1.out hb); clear hb)
    exact ⟨_, results_cell1 rfl rfl (loadVar_bool Try.underlying4 (HR2.out.set _).cell), rfl, Below.setCell (p := ⟨w.heap.size + 1, 0, none⟩) HB2.out (by show _ ≤ w.heap.size + 1; omega) _⟩
  · have d1 : decide ((30 : Int) < (l0.length : Int)) = false := decide_eq_false (by omega)
    have d2 : decide (30 < l0.length) = false := decide_eq_false h30
    have hLn := rlongest_in l0 hl A0 c0
    have HLN := Aside0.mk hLn
    clear hLn
    obtain ⟨lg, hlg⟩ : ∃ lg, longI l0 = lg := ⟨_, rfl⟩
    have HLG := Aside0.mk hlg
    rw [hlg] at HLN
    clear hlg
    have cL' := cL
    rw [← HY.out] at cL'
    by_cases h100 : 100 < lg
    · have d3 : decide (100 < lg) = true := decide_eq_true h100
      gi_wp2_with (first
        | (refine ⟨trivial, ?_⟩; gi_at_call 12; rw [HY.out]; refine (callsIn_wide.2 (HLN.out _ HC1.out hc0)).mono ?_; rintro e W2 ⟨rfl, ⟨q, rfl⟩⟩)
        | (refine ⟨trivial, ?_⟩; gi_at_call 13; refine (callsIn_wide.2 (awake_in _)).mono ?_; rintro e W2 ⟨rfl, hb⟩; have HR2 := Aside0.mk (show Boxed W2 (w.heap.size + 1) 4 (.bool false) from (hb.block _ HR1.out.lt).trans HR1.out); have cR := HR2.out.cell; have fR := HR2.out.frozen; have HB2 := Aside0.mk (below_step (pw_below_drewN HB1.out q) hb); clear hb))
      exact ⟨_, results_cell1 rfl rfl (loadVar_bool Try.underlying4 (HR2.out.set _).cell), rfl, Below.setCell (p := ⟨w.heap.size + 1, 0, none⟩) HB2.out (by show _ ≤ w.heap.size + 1; omega) _⟩
    · have d3 : decide (100 < lg) = false := decide_eq_false h100
      have hsz : ∀ s ∈ l0, (s.size : Int) ≤ 100 := ((long_le 100 l0 0).1 (by have := HLG.out; unfold longI at this; omega)).2
      have hl30 : l0.length ≤ 30 := by omega
      have HSZ := Aside0.mk hsz
      have HLE := Aside0.mk (lengths_in l0 hl30 A0 c0)
      have HWH := Aside0.mk (fun (W : World) (h : Kd.C Kd.string W A0 l0.length l0) => where_in A0 c0 l0 a1 W h hc0 (by omega) (by have := sumS_small l0 hsz; omega) HA.out)
      have HRW := Aside0.mk (rwhere_in l0 hl30 hsz a1 A0 c0)
      clear hsz
      have cL'' : ∀ q, (y1.drewN q).cell? ⟨w.heap.size, 0, none⟩ = some (.slice A0 l0.length c0) := fun q => cL
      have HLO := Aside0.mk (longest_in l0 hl A0 c0)
      rw [HLG.out] at HLO
      have HJO := Aside0.mk (join_in l0 hl30 HSZ.out A0 c0)
      have HRJ := Aside0.mk (rjoin_in l0 hl30 HSZ.out A0 c0)
      obtain ⟨jb, hjb⟩ : ∃ jb, joinB l0 = jb := ⟨_, rfl⟩
      rw [hjb] at HJO HRJ
      clear hjb
      rcases whereB_shape l0 a1 with ⟨wi, wk, ew⟩ | ew
      · have erw : rWhere l0 a1 = ((wi : Int), wk) := by unfold rWhere; rw [ew]; rfl
        gi_wp2_with (first
          | (refine ⟨trivial, ?_⟩; gi_at_call 12; rw [HY.out]; refine (callsIn_wide.2 (HLN.out _ HC1.out hc0)).mono ?_; rintro e W2 ⟨rfl, ⟨q, rfl⟩⟩)
          | (refine ⟨trivial, ?_⟩; gi_at_call 14; refine (callsIn_wide.2 (HLE.out _ (Kd.C_drewN HC1.out _) hc0)).mono ?_; rintro e W3 ⟨v3, rfl, hr, hb⟩; have HL3 := Aside0.mk (show Boxed W3 w.heap.size 35 (.slice A0 l0.length c0) from (hb.block _ HL1.out.lt).trans HL1.out); have HR3 := Aside0.mk (show Boxed W3 (w.heap.size + 1) 4 (.bool false) from (hb.block _ HR1.out.lt).trans HR1.out); have HC3 := Aside0.mk (Kd.C_below (Kd.C_drewN HC1.out q) hb); have HB3 := Aside0.mk (below_step (pw_below_drewN HB1.out q) hb); have cL3 := HL3.out.cell; obtain ⟨An, cn, rfl⟩ := Kd.R_slice hr; have HN3 := Aside0.mk (Kd.R_reads' hr).2.2; have HAB := Aside0.mk (Kd.R_base hr); have cL4 := (HL3.out.alloc (.cells #[.slice An l0.length cn] 37)).cell; clear hb hr)
          | (refine ⟨trivial, ?_⟩; gi_at_call 15; fail))
        have hbn := Boxed.new W3 37 (.slice An l0.length cn)
        have hba : Below W3.heap.size W3 (W3.alloc (.cells #[.slice An l0.length cn] 37)) := (Below.refl _ _).alloc (Nat.le_refl _) _
        obtain ⟨bn, hbne⟩ : ∃ bn, W3.heap.size = bn := ⟨_, rfl⟩
        have HL4 := Aside0.mk (HL3.out.alloc (.cells #[.slice An l0.length cn] 37))
        have HR4 := Aside0.mk (HR3.out.alloc (.cells #[.slice An l0.length cn] 37))
        have HC4 := Aside0.mk (Kd.C_below HC3.out hba)
        have HI4 := Aside0.mk (Kd.C_below HN3.out hba)
        have HB4 := Aside0.mk (below_step HB3.out hba)
        have HBN := Aside0.mk (show w.heap.size + 1 < bn by rw [← hbne]; exact HR3.out.lt)
        rw [hbne] at hbn ⊢
        have HN4 := Aside0.mk hbn
        clear hbn hba hbne HL3 HR3 HC3 HN3 HB3 cL3 cL4
        generalize W3.alloc (.cells #[.slice An l0.length cn] 37) = W4 at HL4 HR4 HC4 HI4 HB4 HN4 ⊢
        have hwh := (callsIn_wide (n := 2)).2 (callsIn_wide.1 (HWH.out W4 HC4.out))
        rw [ew] at hwh
        refine ⟨trivial, ?_⟩
        refine hwh.mono ?_
        rintro e W5 ⟨rfl, hb⟩
        have HL5 := Aside0.mk (show Boxed W5 w.heap.size 35 (.slice A0 l0.length c0) from (hb.block _ HL4.out.lt).trans HL4.out)
        have HR5 := Aside0.mk (show Boxed W5 (w.heap.size + 1) 4 (.bool false) from (hb.block _ HR4.out.lt).trans HR4.out)
        have HN5 := Aside0.mk (show Boxed W5 bn 37 (.slice An l0.length cn) from (hb.block _ HN4.out.lt).trans HN4.out)
        have HC5 := Aside0.mk (Kd.C_below HC4.out hb)
        have HI5 := Aside0.mk (Kd.C_below HI4.out hb)
        have HB5 := Aside0.mk (below_step HB4.out hb)
        have cL5 := HL5.out.cell
        clear hb hwh HL4 HR4 HN4 HC4 HI4 HB4
        gi_wp2_with (refine ⟨trivial, ?_⟩; gi_at_call 16; fail)
        refine ⟨trivial, ?_⟩
        have hrw := (callsIn_wide (n := 2)).2 (HRW.out W5 HC5.out hc0)
        rw [erw] at hrw
        refine hrw.mono ?_
        rintro e W6 ⟨rfl, ⟨q6, rfl⟩⟩
        have HL6 : Aside0 (Boxed (W5.drewN q6) w.heap.size 35 (.slice A0 l0.length c0)) := ⟨HL5.out⟩
        have HR6 : Aside0 (Boxed (W5.drewN q6) (w.heap.size + 1) 4 (.bool false)) := ⟨HR5.out⟩
        have HN6 : Aside0 (Boxed (W5.drewN q6) bn 37 (.slice An l0.length cn)) := ⟨HN5.out⟩
        have HC6 := Aside0.mk (Kd.C_drewN HC5.out q6)
        have HI6 := Aside0.mk (Kd.C_drewN HI5.out q6)
        have HB6 := Aside0.mk (pw_below_drewN HB5.out q6)
        clear hrw HL5 HR5 HN5 HC5 HI5 HB5 cL5
        generalize W5.drewN q6 = W6 at HL6 HR6 HN6 HC6 HI6 HB6 ⊢
        have k0 := cell_regrown HL6.out.cell
        have k1 := cell_regrown HN6.out.cell
        have cQ1 : ∀ d os, CallsIn Fence.wide 2 Try.prog 17 #[.slice A0 l0.length c0] (grow (redrawn W6 d) os) fun e w'' => e = .returned (.int .i64 lg) ∧ ∃ p : Regrown, w'' = grow (redrawn W6 p.d) p.os := fun d os => CallsIn.regrown_of ((callsIn_wide.2 (HLO.out _ (Kd.C_below HC6.out (below_regrown W6 d os)) hc0)).mono fun _ _ h => ⟨h.1, h.2.below⟩)
        have cQ2 : ∀ d os, CallsIn Fence.wide 2 Try.prog 12 #[.slice A0 l0.length c0] (grow (redrawn W6 d) os) fun e w'' => e = .returned (.int .i64 lg) ∧ ∃ p : Regrown, w'' = grow (redrawn W6 p.d) p.os := fun d os => CallsIn.regrown_of ((callsIn_wide.2 (HLN.out _ (Kd.C_below HC6.out (below_regrown W6 d os)) hc0)).mono fun _ _ h => ⟨h.1, h.2.below⟩)
        have cQ3 : ∀ d os, CallsIn Fence.wide 2 Try.prog 18 #[.slice A0 l0.length c0] (grow (redrawn W6 d) os) fun e w'' => e = .returned (.string jb) ∧ ∃ p : Regrown, w'' = grow (redrawn W6 p.d) p.os := fun d os => CallsIn.regrown_of (callsIn_wide.2 (HJO.out _ (Kd.C_below HC6.out (below_regrown W6 d os)) hc0))
        have cQ4 : ∀ d os, CallsIn Fence.wide 2 Try.prog 19 #[.slice A0 l0.length c0] (grow (redrawn W6 d) os) fun e w'' => e = .returned (.string jb) ∧ ∃ p : Regrown, w'' = grow (redrawn W6 p.d) p.os := fun d os => CallsIn.regrown_of ((callsIn_wide.2 (HRJ.out _ (Kd.C_below HC6.out (below_regrown W6 d os)) hc0)).mono fun _ _ h => ⟨h.1, h.2.below⟩)
        gi_wp2_with (fail)
        refine wpIn_region_quiet_below rfl (by kernel_rfl) (by kernel_rfl) ?_
        repeat (first
          | gi_big_quiet_step (fail)
          | (refine BigFrame.wpQuietIn_want (fun _ _ _ _ => trivial) rfl (fun K hK => ?_)
             gi_big_quiet_op
             apply Exists.intro
             refine ⟨fun _ => ?_, ?_⟩
             · (first | exact cQ1 _ _ | exact cQ2 _ _ | exact cQ3 _ _ | exact cQ4 _ _)
             refine hK _ ?_
             clear hK K))
        refine wpQuietIn_nil ?_
        intro _ hw'
        obtain ⟨⟨dq, osq⟩, hw''⟩ := hw'
        subst hw''
        have hbg := below_regrown W6 dq osq
        have HL7 := Aside0.mk (show Boxed _ w.heap.size 35 (.slice A0 l0.length c0) from (hbg.block _ HL6.out.lt).trans HL6.out)
        have HR7 := Aside0.mk (show Boxed _ (w.heap.size + 1) 4 (.bool false) from (hbg.block _ HR6.out.lt).trans HR6.out)
        have HN7 := Aside0.mk (show Boxed _ bn 37 (.slice An l0.length cn) from (hbg.block _ HN6.out.lt).trans HN6.out)
        have HC7 := Aside0.mk (Kd.C_below HC6.out hbg)
        have HI7 := Aside0.mk (Kd.C_below HI6.out hbg)
        have HB7 := Aside0.mk (below_step HB6.out hbg)
        clear hbg HL6 HR6 HN6 HC6 HI6 HB6 k0 k1 cQ1 cQ2 cQ3 cQ4
        generalize grow (redrawn W6 dq) osq = W7 at HL7 HR7 HN7 HC7 HI7 HB7 ⊢
        obtain ⟨s, hs⟩ : ∃ s, W7.heap.size = s := ⟨_, rfl⟩
        have hbs : bn < s := by rw [← hs]; exact HN7.out.lt
        have hbn := HBN.out
        have HB0 := Aside0.mk ((Below.refl W7.heap.size W7).alloc (Nat.le_refl _) (.cells #[.int .i64 0] 3))
        have p1 := Boxed.new W7 3 (.int .i64 0)
        have p2 := Boxed.new (W7.alloc (.cells #[.int .i64 0] 3)) 3 (.int .i64 0)
        have p3 := Boxed.new ((W7.alloc (.cells #[.int .i64 0] 3)).alloc (.cells #[.int .i64 0] 3)) 35 (.slice A0 l0.length c0)
        rw [World.size_alloc] at p2
        rw [World.size_alloc, World.size_alloc] at p3
        have hBY : Below W7.heap.size W7 (((W7.alloc (.cells #[.int .i64 0] 3)).alloc (.cells #[.int .i64 0] 3)).alloc (.cells #[.slice A0 l0.length c0] 35)) := (((Below.refl _ W7).alloc (Nat.le_refl _) _).alloc (by simp) _).alloc (by simp <;> omega) _
        have hsY : (((W7.alloc (.cells #[.int .i64 0] 3)).alloc (.cells #[.int .i64 0] 3)).alloc (.cells #[.slice A0 l0.length c0] 35)).heap.size = s + 3 := by rw [World.size_alloc, World.size_alloc, World.size_alloc, hs]
        rw [hs] at p1 p2 p3
        have cLz := ((HL7.out.alloc (.cells #[.int .i64 0] 3)).alloc (.cells #[.int .i64 0] 3)).cell
        have P1 := Aside0.mk ((p1.alloc (.cells #[.int .i64 0] 3)).alloc (.cells #[.slice A0 l0.length c0] 35))
        have P2 := Aside0.mk (p2.alloc (.cells #[.slice A0 l0.length c0] 35))
        have P3 := Aside0.mk p3
        have HLY := Aside0.mk (show Boxed _ w.heap.size 35 (.slice A0 l0.length c0) from (hBY.block _ HL7.out.lt).trans HL7.out)
        have HRY := Aside0.mk (show Boxed _ (w.heap.size + 1) 4 (.bool false) from (hBY.block _ HR7.out.lt).trans HR7.out)
        have HNY := Aside0.mk (show Boxed _ bn 37 (.slice An l0.length cn) from (hBY.block _ HN7.out.lt).trans HN7.out)
        have HCY := Aside0.mk (Kd.C_below HC7.out hBY)
        have HIY := Aside0.mk (Kd.C_below HI7.out hBY)
        have HBY := Aside0.mk (below_step HB7.out hBY)
        have hBYx := hBY
        have HI7x := HI7
        have HN0lt := HR7.out.lt
        have HCW := Aside0.mk (show 0 < l0.length → ∃ ad : Addr, A0 = some ad ∧ ad.block < s ∧ ∀ j, j < l0.length → W7.cell? (ad.add j) = some (.string (l0.getD j ByteArray.empty)) from by
          intro hp
          obtain ⟨ad, e, hx⟩ := Kd.at_string HC7.out 0 (by omega) (by omega)
          have hx' : W7.cell? (ad.add 0) = some (.string (l0.getD 0 ByteArray.empty)) := hx
          refine ⟨ad, e, ?_, fun j hj => ?_⟩
          · have := World.block_lt_of_cell? W7 _ hx'
            unfold Addr.add at this
            rw [← hs]
            simpa using this
          · obtain ⟨ad', e', hx2⟩ := Kd.at_string HC7.out (j : Int) (by omega) (by omega)
            rw [e] at e'
            injection e' with e'
            subst e'
            exact hx2)
        have hEN := fun (fn : Fn) (cs bs : Array Value) (W : World) => eql_func_nil (P := Try.prog) (t := 45) fn cs bs W (by kernel_rfl)
        clear p1 p2 p3 HL7 HR7 HN7 HC7 HI7 HB7 HB0
        gi_wp2_with (refine ⟨trivial, ?_⟩; gi_at_call 20; refine (all_in _ _ _ _ _).mono ?_; rintro e w' ⟨rfl, rfl⟩)
        have HAI := Aside0.mk (show 0 < l0.length → ∃ an : Addr, An = some an ∧ w.heap.size + 1 < an.block ∧ an.block < s ∧ ∀ j, j < l0.length → W7.cell? (an.add j) = some (.int .i64 ((l0.getD j ByteArray.empty).size : Int)) from by
          intro hp
          have hml : (l0.map fun s => (s.size : Int)).length = l0.length := List.length_map _
          obtain ⟨an, e, hx⟩ := Kd.at_int HI7x.out 0 (by omega) (by omega)
          have hb := HAB.out an.block (by rw [e]; simp [Value.ownBlock])
          have hb2 : y1.heap.size ≤ an.block := hb
          rw [HS1.out] at hb2
          refine ⟨an, e, by omega, ?_, fun j hj => ?_⟩
          · have hx' : W7.cell? (an.add 0) = some (.int .i64 ((l0.map fun s => (s.size : Int)).getD 0 0)) := hx
            have := World.block_lt_of_cell? W7 _ hx'
            unfold Addr.add at this
            rw [← hs]
            simpa using this
          · obtain ⟨an', e', hx2⟩ := Kd.at_int HI7x.out (j : Int) (by omega) (by omega)
            rw [e] at e'
            injection e' with e'
            subst e'
            have hx3 : W7.cell? (an.add j) = some (.int .i64 ((l0.map fun s => (s.size : Int)).getD j 0)) := hx2
            rw [hx3, List.getD_eq_getElem?_getD, List.getElem?_map, List.getD_eq_getElem?_getD, List.getElem?_eq_getElem hj]
            rfl)
        have hlast := hBYx
        generalize ((W7.alloc (.cells #[.int .i64 0] 3)).alloc (.cells #[.int .i64 0] 3)).alloc (.cells #[.slice A0 l0.length c0] 35) = Y at P1 P2 P3 HLY HRY HNY HCY HIY HBY hsY hlast ⊢
        have HSZ2 := Aside0.mk (sumS_small l0 HSZ.out)
        have hww := HN0lt
        refine wpIn_rangeFunc_ownG rfl (by omega) (gf := 26) (lb := #[.pointer (some ⟨s + 1 + 1, 0, none⟩)]) rfl trivial (enters_of Try.func26 (by kernel_rfl) rfl)
          (all_stops 2 (by omega) (s + 1 + 1) (s + 3) c0 (xP w.heap.size s) A0 l0 (by omega) (by have := HSZ2.out; omega) _ (by omega) (by omega) P3.out.cell
            (fun hp => by
              obtain ⟨ad, e, h1, h2⟩ := HCW.out hp
              obtain ⟨ad2, e2, h3⟩ := HA0.out hp
              rw [e] at e2
              injection e2 with e2
              subst e2
              exact ⟨ad, e, by omega, by unfold xP; omega, fun j hj => (hlast.cell (p := ad.add j) (by unfold Addr.add; split <;> (show ad.block < W7.heap.size; omega))).trans (h2 j hj)⟩))
          spare_t (spare_b (by omega)) (Below.refl _ _) (fun _ => rfl)
          (fun pre W => (((Boxed W s 3 (.int .i64 (pre.length : Int)) ∧ Boxed W (s + 1) 3 (.int .i64 (sumS (l0.take pre.length) : Int))) ∧ Boxed W (w.heap.size + 1) 4 (.bool false)) ∧ Spare (xP w.heap.size s) (s + 3) Y W) ∧ Below w.heap.size w W ∧ pre <+: partsTo l0 l0.length)
          (fun c pre W => ¬ (pre <+: partsTo l0 l0.length))
          (OwnFrom.and (OwnFrom.and (OwnFrom.and (OwnFrom.and (Own.from (boxed_own _ _ (fun pre : List (Int × ByteArray) => .int .i64 (pre.length : Int))) _) (Own.from (boxed_own _ _ (fun pre : List (Int × ByteArray) => .int .i64 (sumS (l0.take pre.length) : Int))) _)) (Own.from (boxed_own _ _ (fun _ : List (Int × ByteArray) => .bool false)) _)) (ownFrom_spare (by omega) (by omega))) (OwnFrom.and (ownFrom_below (Nat.le_refl _) (by omega)) (ownFrom_pure _ _)))
          (fun c => ownFrom_pure _ _)
          ⟨⟨⟨⟨P1.out, by show Boxed Y (s + 1) 3 (.int .i64 ((sumS (l0.take 0) : Nat) : Int)); rw [List.take_zero]; exact P2.out⟩, HRY.out⟩, Spare.refl _ _ _⟩, HBY.out, List.nil_prefix⟩
          ?act ?assign ?body ?done ?stop
        case assign =>
          intro y x W K hK
          gi_wp2
          exact hK
        case body =>
          rintro y pre x W ⟨⟨⟨⟨h1, h2⟩, h3⟩, hS⟩, hB, hp⟩ hpl
          obtain ⟨xa, xs⟩ := x
          obtain ⟨ad, e1, hd1, hd2⟩ := HCW.out (by omega)
          obtain ⟨ad2, e2, hd3⟩ := HA0.out (by omega)
          obtain rfl : ad = ad2 := by rw [e1] at e2; injection e2
          obtain ⟨an, e3, ha1, ha2, ha3⟩ := HAI.out (by omega)
          have cL := (hS.boxed HLY.out (by omega) (by unfold xP; omega)).cell
          have cN := (hS.boxed HNY.out (by omega) (by unfold xP; omega)).cell
          have cE : W.cell? (ad.add pre.length) = some (.string (l0.getD pre.length ByteArray.empty)) := hS.cell (a := ad.add pre.length) (by unfold Addr.add; split <;> (show ad.block < s + 3; omega)) (by unfold Addr.add; split <;> (show ¬ xP w.heap.size s ad.block; unfold xP; omega)) ((hlast.cell (p := ad.add pre.length) (by unfold Addr.add; split <;> (show ad.block < W7.heap.size; omega))).trans (hd2 _ hpl))
          have cI : W.cell? (an.add pre.length) = some (.int .i64 ((l0.getD pre.length ByteArray.empty).size : Int)) := hS.cell (a := an.add pre.length) (by unfold Addr.add; split <;> (show an.block < s + 3; omega)) (by unfold Addr.add; split <;> (show ¬ xP w.heap.size s an.block; unfold xP; omega)) ((hlast.cell (p := an.add pre.length) (by unfold Addr.add; split <;> (show an.block < W7.heap.size; omega))).trans (ha3 _ hpl))
          have hci : Boxed Y (w.heap.size + 1) 4 (.bool false) := HRY.out
          have cs := h1.cell
          have cs1 := h2.cell
          have cR := h3.cell
          have fs := h1.frozen
          have fs1 := h2.frozen
          have fR := h3.frozen
          have htk := sumS_take l0 pre.length hpl
          have hle := sumS_le l0 (pre.length + 1)
          have hzz := HSZ2.out
          have hsum : sumS (l0.take pre.length) + (l0.getD pre.length ByteArray.empty).size ≤ 3000 := by omega
          have hpa : partAt l0 pre.length = (((sumS (l0.take pre.length) : Nat) : Int), l0.getD pre.length ByteArray.empty) := rfl
          have hsn := partsTo_snoc (l := l0) (n := l0.length) (pre := pre) (x := (xa, xs))
          have hgo : partAt l0 pre.length = (xa, xs) → pre ++ [(xa, xs)] <+: partsTo l0 l0.length := fun hx => by
            refine partsTo_prefix.2 ⟨by rw [List.length_append]; show pre.length + 1 ≤ _; omega, ?_⟩
            rw [List.length_append]
            show _ = partsTo l0 (pre.length + 1)
            rw [partsTo_succ, hx, ← (partsTo_prefix.1 hp).2]
          have HSN := Aside0.mk hsn
          have HGO := Aside0.mk hgo
          have HTK := Aside0.mk htk
          have HPA := Aside0.mk hpa
          have hlen : (((pre ++ [(xa, xs)]).length : Nat) : Int) = (pre.length : Int) + 1 := by rw [List.length_append]; rfl
          have hlenN : (pre ++ [(xa, xs)]).length = pre.length + 1 := by rw [List.length_append]; rfl
          have KR := Aside0.mk (KeepsFrom.of_grownBy (B := Y.heap.size) (grownBy_setCell' W (w.heap.size + 1) (.bool false)) (fun j e => by cases e; omega))
          rw [e1, e3] at *
          have k1 : (pre.length : Int) < (l0.length : Int) := by omega
          have g1 : decide ((l0.length : Int) ≤ (pre.length : Int)) = false := decide_eq_false (by omega)
          have g2 : decide (l0.length ≤ pre.length) = false := decide_eq_false (by omega)
          have hk30 : (pre.length : Int) + 1 ≤ 30 := by omega
          obtain ⟨sk, hsk⟩ : ∃ sk, l0.getD pre.length ByteArray.empty = sk := ⟨_, rfl⟩
          obtain ⟨m, hm⟩ : ∃ m, sumS (l0.take pre.length) = m := ⟨_, rfl⟩
          rw [hsk] at cE cI hsum
          rw [hsk, hm] at HTK HPA
          rw [hm] at cs1 hsum h2
          have HH1 := Aside0.mk h1
          have HH2 := Aside0.mk h2
          have HH3 := Aside0.mk h3
          have HHS := Aside0.mk hS
          have HHB := Aside0.mk hB
          have HLN1 := Aside0.mk hlen
          have HLN2 := Aside0.mk hlenN
          have HYS := Aside0.mk hsY
          clear h1 h2 h3 hS hB hp hsn hgo htk hpa hlen hlenN hci hsk hm hle hd2 ha3 hlast hd1 hd3 ha1 ha2
          by_cases hxa : xa = (m : Int)
          · subst hxa
            by_cases hxs : xs = sk
            · subst hxs
              have KK := Aside0.mk ((KeepsFrom.of_grownBy (B := Y.heap.size) (grownBy_setCell' W s (.int .i64 ((pre.length : Int) + 1))) (fun j e => by cases e; have := HYS.out; omega)).trans (KeepsFrom.of_grownBy (B := Y.heap.size) (grownBy_setCell' (W.setCell ⟨s, 0, none⟩ (.int .i64 ((pre.length : Int) + 1))) (s + 1) (.int .i64 ((m : Int) + (xs.size : Int)))) (fun j e => by cases e; have := HYS.out; omega)))
              have cs1' := (HH2.out.other (B' := s) (by omega) (.int .i64 ((pre.length : Int) + 1))).cell
              have fs1' := (HH2.out.other (B' := s) (by omega) (.int .i64 ((pre.length : Int) + 1))).frozen
              have hms : (m : Int) + (xs.size : Int) ≤ 3000 := by omega
              clear hsY
              gi_wp2
              refine ⟨KK.out, ((Spare.refl (xP w.heap.size s) (s + 3) W).set (p := ⟨s, 0, none⟩) (show xP w.heap.size s s by unfold xP; omega) _).set (p := ⟨s + 1, 0, none⟩) (show xP w.heap.size s (s + 1) by unfold xP; omega) _, ⟨⟨⟨?_, ?_⟩, (HH3.out.other (by omega) _).other (by omega) _⟩, (HHS.out.set (p := ⟨s, 0, none⟩) (show xP w.heap.size s s by unfold xP; omega) _).set (p := ⟨s + 1, 0, none⟩) (show xP w.heap.size s (s + 1) by unfold xP; omega) _⟩, Below.setCell (p := ⟨s + 1, 0, none⟩) (Below.setCell (p := ⟨s, 0, none⟩) HHB.out (by show _ ≤ s; omega) _) (by show _ ≤ s + 1; omega) _, HGO.out HPA.out⟩
              · rw [HLN1.out]
                exact (HH1.out.set _).other (by omega) _
              · rw [HLN2.out, HTK.out, show (((m + xs.size : Nat)) : Int) = (m : Int) + (xs.size : Int) by omega]
                exact (HH2.out.other (by omega) _).set _
            · have e5 : (xs.toList == sk.toList) = false := by
                rw [beq_eq_false_iff_ne]
                intro e
                rw [ByteArray.toList_eq, ByteArray.toList_eq] at e
                exact hxs (by cases xs; cases sk; congr 1; exact Array.toList_inj.1 e)
              have HNO : Aside0 (¬ (pre ++ [((m : Int), xs)] <+: partsTo l0 l0.length)) := ⟨fun h => by
                obtain ⟨e, _⟩ := HSN.out h
                rw [HPA.out] at e
                injection e with _ e
                exact hxs e⟩
              clear hsY hxs
              gi_wp2
              exact ⟨KR.out, HNO.out⟩
          · have e4 : (xa == (m : Int)) = false := by rw [beq_eq_false_iff_ne]; exact hxa
            have HNO : Aside0 (¬ (pre ++ [(xa, xs)] <+: partsTo l0 l0.length)) := ⟨fun h => by
              obtain ⟨e, _⟩ := HSN.out h
              rw [HPA.out] at e
              injection e with e _
              exact hxa e⟩
            clear hsY
            gi_wp2
            exact ⟨KR.out, HNO.out⟩
        case done =>
          rintro D ys W hD rfl ⟨⟨⟨⟨h1, h2⟩, h3⟩, hS⟩, hB, hp⟩ hK
          rw [partsTo_length] at h1
          have cs := h1.cell
          have cL := (hS.boxed HLY.out (by omega) (by unfold xP; omega)).cell
          have HH3 := Aside0.mk h3
          have HHB := Aside0.mk hB
          have HHK := Aside0.mk hK
          have HHD := Aside0.mk (show s + 3 ≤ D by omega)
          clear h1 h2 h3 hS hB hp hK hD hsY hlast
          gi_wp2_with (refine ⟨trivial, ?_⟩; gi_at_call 13; refine (callsIn_wide.2 (awake_in _)).mono ?_; rintro e W9 ⟨rfl, hb⟩; have HR9 := Aside0.mk (show Boxed W9 (w.heap.size + 1) 4 (.bool false) from (hb.block _ HH3.out.lt).trans HH3.out); have cR9 := HR9.out.cell; have fR9 := HR9.out.frozen; have HK9 := Aside0.mk ((hb.block _ (Array.getElem?_eq_some_iff.1 HHK.out).1).trans HHK.out); have HB9 := Aside0.mk (below_step HHB.out hb); clear hb)
          have hd := HHD.out
          have HKS : (W9.setCell ⟨w.heap.size + 1, 0, none⟩ (.bool true)).heap[D]? = some (.deferred (some [])) := by
            rw [Below.heap_setCell _ _ _ D (by show D ≠ w.heap.size + 1; omega)]
            exact HK9.out
          have HBS : Below w.heap.size w (W9.setCell ⟨w.heap.size + 1, 0, none⟩ (.bool true)) := Below.setCell (p := ⟨w.heap.size + 1, 0, none⟩) HB9.out (by show _ ≤ w.heap.size + 1; omega) _
          refine ⟨by simp, .inl ⟨_, _, rfl, run_takeDeferred HKS, ?_⟩⟩
          have hput : ∀ (W : World) b t v, Boxed W b t v → b ≠ D → Boxed (W.putObj D (.deferred none)) b t v := fun W b t v hb hne => hb.kept (grownBy_putObj' W D _) (fun e => hne (by cases e; rfl))
          exact ⟨_, results_cell1 rfl rfl (loadVar_bool Try.underlying4 (hput _ _ _ _ (HR9.out.set _) (by omega)).cell), rfl, HBS.trans (belowK_b (w := w) (Nat.le_refl _) _ D _ _ (by omega) HKS rfl rfl)⟩
        case stop =>
          rintro D c pre W hD hpre hno hK
          exact absurd hpre hno
      · have erw : rWhere l0 a1 = (-1, 0) := by unfold rWhere; rw [ew]; rfl
        gi_wp2_with (first
          | (refine ⟨trivial, ?_⟩; gi_at_call 12; rw [HY.out]; refine (callsIn_wide.2 (HLN.out _ HC1.out hc0)).mono ?_; rintro e W2 ⟨rfl, ⟨q, rfl⟩⟩)
          | (refine ⟨trivial, ?_⟩; gi_at_call 14; refine (callsIn_wide.2 (HLE.out _ (Kd.C_drewN HC1.out _) hc0)).mono ?_; rintro e W3 ⟨v3, rfl, hr, hb⟩; have HL3 := Aside0.mk (show Boxed W3 w.heap.size 35 (.slice A0 l0.length c0) from (hb.block _ HL1.out.lt).trans HL1.out); have HR3 := Aside0.mk (show Boxed W3 (w.heap.size + 1) 4 (.bool false) from (hb.block _ HR1.out.lt).trans HR1.out); have HC3 := Aside0.mk (Kd.C_below (Kd.C_drewN HC1.out q) hb); have HB3 := Aside0.mk (below_step (pw_below_drewN HB1.out q) hb); have cL3 := HL3.out.cell; obtain ⟨An, cn, rfl⟩ := Kd.R_slice hr; have HN3 := Aside0.mk (Kd.R_reads' hr).2.2; have HAB := Aside0.mk (Kd.R_base hr); have cL4 := (HL3.out.alloc (.cells #[.slice An l0.length cn] 37)).cell; clear hb hr)
          | (refine ⟨trivial, ?_⟩; gi_at_call 15; fail))
        have hbn := Boxed.new W3 37 (.slice An l0.length cn)
        have hba : Below W3.heap.size W3 (W3.alloc (.cells #[.slice An l0.length cn] 37)) := (Below.refl _ _).alloc (Nat.le_refl _) _
        obtain ⟨bn, hbne⟩ : ∃ bn, W3.heap.size = bn := ⟨_, rfl⟩
        have HL4 := Aside0.mk (HL3.out.alloc (.cells #[.slice An l0.length cn] 37))
        have HR4 := Aside0.mk (HR3.out.alloc (.cells #[.slice An l0.length cn] 37))
        have HC4 := Aside0.mk (Kd.C_below HC3.out hba)
        have HI4 := Aside0.mk (Kd.C_below HN3.out hba)
        have HB4 := Aside0.mk (below_step HB3.out hba)
        have HBN := Aside0.mk (show w.heap.size + 1 < bn by rw [← hbne]; exact HR3.out.lt)
        rw [hbne] at hbn ⊢
        have HN4 := Aside0.mk hbn
        clear hbn hba hbne HL3 HR3 HC3 HN3 HB3 cL3 cL4
        generalize W3.alloc (.cells #[.slice An l0.length cn] 37) = W4 at HL4 HR4 HC4 HI4 HB4 HN4 ⊢
        have hwh := (callsIn_wide (n := 2)).2 (callsIn_wide.1 (HWH.out W4 HC4.out))
        rw [ew] at hwh
        refine ⟨trivial, ?_⟩
        refine hwh.mono ?_
        rintro e W5 ⟨rfl, hb⟩
        have HL5 := Aside0.mk (show Boxed W5 w.heap.size 35 (.slice A0 l0.length c0) from (hb.block _ HL4.out.lt).trans HL4.out)
        have HR5 := Aside0.mk (show Boxed W5 (w.heap.size + 1) 4 (.bool false) from (hb.block _ HR4.out.lt).trans HR4.out)
        have HN5 := Aside0.mk (show Boxed W5 bn 37 (.slice An l0.length cn) from (hb.block _ HN4.out.lt).trans HN4.out)
        have HC5 := Aside0.mk (Kd.C_below HC4.out hb)
        have HI5 := Aside0.mk (Kd.C_below HI4.out hb)
        have HB5 := Aside0.mk (below_step HB4.out hb)
        have cL5 := HL5.out.cell
        clear hb hwh HL4 HR4 HN4 HC4 HI4 HB4
        gi_wp2_with (refine ⟨trivial, ?_⟩; gi_at_call 16; fail)
        refine ⟨trivial, ?_⟩
        have hrw := (callsIn_wide (n := 2)).2 (HRW.out W5 HC5.out hc0)
        rw [erw] at hrw
        refine hrw.mono ?_
        rintro e W6 ⟨rfl, ⟨q6, rfl⟩⟩
        have HL6 : Aside0 (Boxed (W5.drewN q6) w.heap.size 35 (.slice A0 l0.length c0)) := ⟨HL5.out⟩
        have HR6 : Aside0 (Boxed (W5.drewN q6) (w.heap.size + 1) 4 (.bool false)) := ⟨HR5.out⟩
        have HN6 : Aside0 (Boxed (W5.drewN q6) bn 37 (.slice An l0.length cn)) := ⟨HN5.out⟩
        have HC6 := Aside0.mk (Kd.C_drewN HC5.out q6)
        have HI6 := Aside0.mk (Kd.C_drewN HI5.out q6)
        have HB6 := Aside0.mk (pw_below_drewN HB5.out q6)
        clear hrw HL5 HR5 HN5 HC5 HI5 HB5 cL5
        generalize W5.drewN q6 = W6 at HL6 HR6 HN6 HC6 HI6 HB6 ⊢
        have k0 := cell_regrown HL6.out.cell
        have k1 := cell_regrown HN6.out.cell
        have cQ1 : ∀ d os, CallsIn Fence.wide 2 Try.prog 17 #[.slice A0 l0.length c0] (grow (redrawn W6 d) os) fun e w'' => e = .returned (.int .i64 lg) ∧ ∃ p : Regrown, w'' = grow (redrawn W6 p.d) p.os := fun d os => CallsIn.regrown_of ((callsIn_wide.2 (HLO.out _ (Kd.C_below HC6.out (below_regrown W6 d os)) hc0)).mono fun _ _ h => ⟨h.1, h.2.below⟩)
        have cQ2 : ∀ d os, CallsIn Fence.wide 2 Try.prog 12 #[.slice A0 l0.length c0] (grow (redrawn W6 d) os) fun e w'' => e = .returned (.int .i64 lg) ∧ ∃ p : Regrown, w'' = grow (redrawn W6 p.d) p.os := fun d os => CallsIn.regrown_of ((callsIn_wide.2 (HLN.out _ (Kd.C_below HC6.out (below_regrown W6 d os)) hc0)).mono fun _ _ h => ⟨h.1, h.2.below⟩)
        have cQ3 : ∀ d os, CallsIn Fence.wide 2 Try.prog 18 #[.slice A0 l0.length c0] (grow (redrawn W6 d) os) fun e w'' => e = .returned (.string jb) ∧ ∃ p : Regrown, w'' = grow (redrawn W6 p.d) p.os := fun d os => CallsIn.regrown_of (callsIn_wide.2 (HJO.out _ (Kd.C_below HC6.out (below_regrown W6 d os)) hc0))
        have cQ4 : ∀ d os, CallsIn Fence.wide 2 Try.prog 19 #[.slice A0 l0.length c0] (grow (redrawn W6 d) os) fun e w'' => e = .returned (.string jb) ∧ ∃ p : Regrown, w'' = grow (redrawn W6 p.d) p.os := fun d os => CallsIn.regrown_of ((callsIn_wide.2 (HRJ.out _ (Kd.C_below HC6.out (below_regrown W6 d os)) hc0)).mono fun _ _ h => ⟨h.1, h.2.below⟩)
        gi_wp2_with (fail)
        refine wpIn_region_quiet_below rfl (by kernel_rfl) (by kernel_rfl) ?_
        repeat (first
          | gi_big_quiet_step (fail)
          | (refine BigFrame.wpQuietIn_want (fun _ _ _ _ => trivial) rfl (fun K hK => ?_)
             gi_big_quiet_op
             apply Exists.intro
             refine ⟨fun _ => ?_, ?_⟩
             · (first | exact cQ1 _ _ | exact cQ2 _ _ | exact cQ3 _ _ | exact cQ4 _ _)
             refine hK _ ?_
             clear hK K))
        refine wpQuietIn_nil ?_
        intro _ hw'
        obtain ⟨⟨dq, osq⟩, hw''⟩ := hw'
        subst hw''
        have hbg := below_regrown W6 dq osq
        have HL7 := Aside0.mk (show Boxed _ w.heap.size 35 (.slice A0 l0.length c0) from (hbg.block _ HL6.out.lt).trans HL6.out)
        have HR7 := Aside0.mk (show Boxed _ (w.heap.size + 1) 4 (.bool false) from (hbg.block _ HR6.out.lt).trans HR6.out)
        have HN7 := Aside0.mk (show Boxed _ bn 37 (.slice An l0.length cn) from (hbg.block _ HN6.out.lt).trans HN6.out)
        have HC7 := Aside0.mk (Kd.C_below HC6.out hbg)
        have HI7 := Aside0.mk (Kd.C_below HI6.out hbg)
        have HB7 := Aside0.mk (below_step HB6.out hbg)
        clear hbg HL6 HR6 HN6 HC6 HI6 HB6 k0 k1 cQ1 cQ2 cQ3 cQ4
        generalize grow (redrawn W6 dq) osq = W7 at HL7 HR7 HN7 HC7 HI7 HB7 ⊢
        obtain ⟨s, hs⟩ : ∃ s, W7.heap.size = s := ⟨_, rfl⟩
        have hbs : bn < s := by rw [← hs]; exact HN7.out.lt
        have hbn := HBN.out
        have HB0 := Aside0.mk ((Below.refl W7.heap.size W7).alloc (Nat.le_refl _) (.cells #[.int .i64 0] 3))
        have p1 := Boxed.new W7 3 (.int .i64 0)
        have p2 := Boxed.new (W7.alloc (.cells #[.int .i64 0] 3)) 3 (.int .i64 0)
        have p3 := Boxed.new ((W7.alloc (.cells #[.int .i64 0] 3)).alloc (.cells #[.int .i64 0] 3)) 35 (.slice A0 l0.length c0)
        rw [World.size_alloc] at p2
        rw [World.size_alloc, World.size_alloc] at p3
        have hBY : Below W7.heap.size W7 (((W7.alloc (.cells #[.int .i64 0] 3)).alloc (.cells #[.int .i64 0] 3)).alloc (.cells #[.slice A0 l0.length c0] 35)) := (((Below.refl _ W7).alloc (Nat.le_refl _) _).alloc (by simp) _).alloc (by simp <;> omega) _
        have hsY : (((W7.alloc (.cells #[.int .i64 0] 3)).alloc (.cells #[.int .i64 0] 3)).alloc (.cells #[.slice A0 l0.length c0] 35)).heap.size = s + 3 := by rw [World.size_alloc, World.size_alloc, World.size_alloc, hs]
        rw [hs] at p1 p2 p3
        have cLz := ((HL7.out.alloc (.cells #[.int .i64 0] 3)).alloc (.cells #[.int .i64 0] 3)).cell
        have P1 := Aside0.mk ((p1.alloc (.cells #[.int .i64 0] 3)).alloc (.cells #[.slice A0 l0.length c0] 35))
        have P2 := Aside0.mk (p2.alloc (.cells #[.slice A0 l0.length c0] 35))
        have P3 := Aside0.mk p3
        have HLY := Aside0.mk (show Boxed _ w.heap.size 35 (.slice A0 l0.length c0) from (hBY.block _ HL7.out.lt).trans HL7.out)
        have HRY := Aside0.mk (show Boxed _ (w.heap.size + 1) 4 (.bool false) from (hBY.block _ HR7.out.lt).trans HR7.out)
        have HNY := Aside0.mk (show Boxed _ bn 37 (.slice An l0.length cn) from (hBY.block _ HN7.out.lt).trans HN7.out)
        have HCY := Aside0.mk (Kd.C_below HC7.out hBY)
        have HIY := Aside0.mk (Kd.C_below HI7.out hBY)
        have HBY := Aside0.mk (below_step HB7.out hBY)
        have hBYx := hBY
        have HI7x := HI7
        have HN0lt := HR7.out.lt
        have HCW := Aside0.mk (show 0 < l0.length → ∃ ad : Addr, A0 = some ad ∧ ad.block < s ∧ ∀ j, j < l0.length → W7.cell? (ad.add j) = some (.string (l0.getD j ByteArray.empty)) from by
          intro hp
          obtain ⟨ad, e, hx⟩ := Kd.at_string HC7.out 0 (by omega) (by omega)
          have hx' : W7.cell? (ad.add 0) = some (.string (l0.getD 0 ByteArray.empty)) := hx
          refine ⟨ad, e, ?_, fun j hj => ?_⟩
          · have := World.block_lt_of_cell? W7 _ hx'
            unfold Addr.add at this
            rw [← hs]
            simpa using this
          · obtain ⟨ad', e', hx2⟩ := Kd.at_string HC7.out (j : Int) (by omega) (by omega)
            rw [e] at e'
            injection e' with e'
            subst e'
            exact hx2)
        have hEN := fun (fn : Fn) (cs bs : Array Value) (W : World) => eql_func_nil (P := Try.prog) (t := 45) fn cs bs W (by kernel_rfl)
        clear p1 p2 p3 HL7 HR7 HN7 HC7 HI7 HB7 HB0
        gi_wp2_with (refine ⟨trivial, ?_⟩; gi_at_call 20; refine (all_in _ _ _ _ _).mono ?_; rintro e w' ⟨rfl, rfl⟩)
        have HAI := Aside0.mk (show 0 < l0.length → ∃ an : Addr, An = some an ∧ w.heap.size + 1 < an.block ∧ an.block < s ∧ ∀ j, j < l0.length → W7.cell? (an.add j) = some (.int .i64 ((l0.getD j ByteArray.empty).size : Int)) from by
          intro hp
          have hml : (l0.map fun s => (s.size : Int)).length = l0.length := List.length_map _
          obtain ⟨an, e, hx⟩ := Kd.at_int HI7x.out 0 (by omega) (by omega)
          have hb := HAB.out an.block (by rw [e]; simp [Value.ownBlock])
          have hb2 : y1.heap.size ≤ an.block := hb
          rw [HS1.out] at hb2
          refine ⟨an, e, by omega, ?_, fun j hj => ?_⟩
          · have hx' : W7.cell? (an.add 0) = some (.int .i64 ((l0.map fun s => (s.size : Int)).getD 0 0)) := hx
            have := World.block_lt_of_cell? W7 _ hx'
            unfold Addr.add at this
            rw [← hs]
            simpa using this
          · obtain ⟨an', e', hx2⟩ := Kd.at_int HI7x.out (j : Int) (by omega) (by omega)
            rw [e] at e'
            injection e' with e'
            subst e'
            have hx3 : W7.cell? (an.add j) = some (.int .i64 ((l0.map fun s => (s.size : Int)).getD j 0)) := hx2
            rw [hx3, List.getD_eq_getElem?_getD, List.getElem?_map, List.getD_eq_getElem?_getD, List.getElem?_eq_getElem hj]
            rfl)
        have hlast := hBYx
        generalize ((W7.alloc (.cells #[.int .i64 0] 3)).alloc (.cells #[.int .i64 0] 3)).alloc (.cells #[.slice A0 l0.length c0] 35) = Y at P1 P2 P3 HLY HRY HNY HCY HIY HBY hsY hlast ⊢
        have HSZ2 := Aside0.mk (sumS_small l0 HSZ.out)
        have hww := HN0lt
        refine wpIn_rangeFunc_ownG rfl (by omega) (gf := 26) (lb := #[.pointer (some ⟨s + 1 + 1, 0, none⟩)]) rfl trivial (enters_of Try.func26 (by kernel_rfl) rfl)
          (all_stops 2 (by omega) (s + 1 + 1) (s + 3) c0 (xP w.heap.size s) A0 l0 (by omega) (by have := HSZ2.out; omega) _ (by omega) (by omega) P3.out.cell
            (fun hp => by
              obtain ⟨ad, e, h1, h2⟩ := HCW.out hp
              obtain ⟨ad2, e2, h3⟩ := HA0.out hp
              rw [e] at e2
              injection e2 with e2
              subst e2
              exact ⟨ad, e, by omega, by unfold xP; omega, fun j hj => (hlast.cell (p := ad.add j) (by unfold Addr.add; split <;> (show ad.block < W7.heap.size; omega))).trans (h2 j hj)⟩))
          spare_t (spare_b (by omega)) (Below.refl _ _) (fun _ => rfl)
          (fun pre W => (((Boxed W s 3 (.int .i64 (pre.length : Int)) ∧ Boxed W (s + 1) 3 (.int .i64 (sumS (l0.take pre.length) : Int))) ∧ Boxed W (w.heap.size + 1) 4 (.bool false)) ∧ Spare (xP w.heap.size s) (s + 3) Y W) ∧ Below w.heap.size w W ∧ pre <+: partsTo l0 l0.length)
          (fun c pre W => ¬ (pre <+: partsTo l0 l0.length))
          (OwnFrom.and (OwnFrom.and (OwnFrom.and (OwnFrom.and (Own.from (boxed_own _ _ (fun pre : List (Int × ByteArray) => .int .i64 (pre.length : Int))) _) (Own.from (boxed_own _ _ (fun pre : List (Int × ByteArray) => .int .i64 (sumS (l0.take pre.length) : Int))) _)) (Own.from (boxed_own _ _ (fun _ : List (Int × ByteArray) => .bool false)) _)) (ownFrom_spare (by omega) (by omega))) (OwnFrom.and (ownFrom_below (Nat.le_refl _) (by omega)) (ownFrom_pure _ _)))
          (fun c => ownFrom_pure _ _)
          ⟨⟨⟨⟨P1.out, by show Boxed Y (s + 1) 3 (.int .i64 ((sumS (l0.take 0) : Nat) : Int)); rw [List.take_zero]; exact P2.out⟩, HRY.out⟩, Spare.refl _ _ _⟩, HBY.out, List.nil_prefix⟩
          ?act2 ?assign2 ?body2 ?done2 ?stop2 
        case assign2 =>
          intro y x W K hK
          gi_wp2
          exact hK
        case body2 =>
          rintro y pre x W ⟨⟨⟨⟨h1, h2⟩, h3⟩, hS⟩, hB, hp⟩ hpl
          obtain ⟨xa, xs⟩ := x
          obtain ⟨ad, e1, hd1, hd2⟩ := HCW.out (by omega)
          obtain ⟨ad2, e2, hd3⟩ := HA0.out (by omega)
          obtain rfl : ad = ad2 := by rw [e1] at e2; injection e2
          obtain ⟨an, e3, ha1, ha2, ha3⟩ := HAI.out (by omega)
          have cL := (hS.boxed HLY.out (by omega) (by unfold xP; omega)).cell
          have cN := (hS.boxed HNY.out (by omega) (by unfold xP; omega)).cell
          have cE : W.cell? (ad.add pre.length) = some (.string (l0.getD pre.length ByteArray.empty)) := hS.cell (a := ad.add pre.length) (by unfold Addr.add; split <;> (show ad.block < s + 3; omega)) (by unfold Addr.add; split <;> (show ¬ xP w.heap.size s ad.block; unfold xP; omega)) ((hlast.cell (p := ad.add pre.length) (by unfold Addr.add; split <;> (show ad.block < W7.heap.size; omega))).trans (hd2 _ hpl))
          have cI : W.cell? (an.add pre.length) = some (.int .i64 ((l0.getD pre.length ByteArray.empty).size : Int)) := hS.cell (a := an.add pre.length) (by unfold Addr.add; split <;> (show an.block < s + 3; omega)) (by unfold Addr.add; split <;> (show ¬ xP w.heap.size s an.block; unfold xP; omega)) ((hlast.cell (p := an.add pre.length) (by unfold Addr.add; split <;> (show an.block < W7.heap.size; omega))).trans (ha3 _ hpl))
          have hci : Boxed Y (w.heap.size + 1) 4 (.bool false) := HRY.out
          have cs := h1.cell
          have cs1 := h2.cell
          have cR := h3.cell
          have fs := h1.frozen
          have fs1 := h2.frozen
          have fR := h3.frozen
          have htk := sumS_take l0 pre.length hpl
          have hle := sumS_le l0 (pre.length + 1)
          have hzz := HSZ2.out
          have hsum : sumS (l0.take pre.length) + (l0.getD pre.length ByteArray.empty).size ≤ 3000 := by omega
          have hpa : partAt l0 pre.length = (((sumS (l0.take pre.length) : Nat) : Int), l0.getD pre.length ByteArray.empty) := rfl
          have hsn := partsTo_snoc (l := l0) (n := l0.length) (pre := pre) (x := (xa, xs))
          have hgo : partAt l0 pre.length = (xa, xs) → pre ++ [(xa, xs)] <+: partsTo l0 l0.length := fun hx => by
            refine partsTo_prefix.2 ⟨by rw [List.length_append]; show pre.length + 1 ≤ _; omega, ?_⟩
            rw [List.length_append]
            show _ = partsTo l0 (pre.length + 1)
            rw [partsTo_succ, hx, ← (partsTo_prefix.1 hp).2]
          have HSN := Aside0.mk hsn
          have HGO := Aside0.mk hgo
          have HTK := Aside0.mk htk
          have HPA := Aside0.mk hpa
          have hlen : (((pre ++ [(xa, xs)]).length : Nat) : Int) = (pre.length : Int) + 1 := by rw [List.length_append]; rfl
          have hlenN : (pre ++ [(xa, xs)]).length = pre.length + 1 := by rw [List.length_append]; rfl
          have KR := Aside0.mk (KeepsFrom.of_grownBy (B := Y.heap.size) (grownBy_setCell' W (w.heap.size + 1) (.bool false)) (fun j e => by cases e; omega))
          rw [e1, e3] at *
          have k1 : (pre.length : Int) < (l0.length : Int) := by omega
          have g1 : decide ((l0.length : Int) ≤ (pre.length : Int)) = false := decide_eq_false (by omega)
          have g2 : decide (l0.length ≤ pre.length) = false := decide_eq_false (by omega)
          have hk30 : (pre.length : Int) + 1 ≤ 30 := by omega
          obtain ⟨sk, hsk⟩ : ∃ sk, l0.getD pre.length ByteArray.empty = sk := ⟨_, rfl⟩
          obtain ⟨m, hm⟩ : ∃ m, sumS (l0.take pre.length) = m := ⟨_, rfl⟩
          rw [hsk] at cE cI hsum
          rw [hsk, hm] at HTK HPA
          rw [hm] at cs1 hsum h2
          have HH1 := Aside0.mk h1
          have HH2 := Aside0.mk h2
          have HH3 := Aside0.mk h3
          have HHS := Aside0.mk hS
          have HHB := Aside0.mk hB
          have HLN1 := Aside0.mk hlen
          have HLN2 := Aside0.mk hlenN
          have HYS := Aside0.mk hsY
          clear h1 h2 h3 hS hB hp hsn hgo htk hpa hlen hlenN hci hsk hm hle hd2 ha3 hlast hd1 hd3 ha1 ha2
          by_cases hxa : xa = (m : Int)
          · subst hxa
            by_cases hxs : xs = sk
            · subst hxs
              have KK := Aside0.mk ((KeepsFrom.of_grownBy (B := Y.heap.size) (grownBy_setCell' W s (.int .i64 ((pre.length : Int) + 1))) (fun j e => by cases e; have := HYS.out; omega)).trans (KeepsFrom.of_grownBy (B := Y.heap.size) (grownBy_setCell' (W.setCell ⟨s, 0, none⟩ (.int .i64 ((pre.length : Int) + 1))) (s + 1) (.int .i64 ((m : Int) + (xs.size : Int)))) (fun j e => by cases e; have := HYS.out; omega)))
              have cs1' := (HH2.out.other (B' := s) (by omega) (.int .i64 ((pre.length : Int) + 1))).cell
              have fs1' := (HH2.out.other (B' := s) (by omega) (.int .i64 ((pre.length : Int) + 1))).frozen
              have hms : (m : Int) + (xs.size : Int) ≤ 3000 := by omega
              clear hsY
              gi_wp2
              refine ⟨KK.out, ((Spare.refl (xP w.heap.size s) (s + 3) W).set (p := ⟨s, 0, none⟩) (show xP w.heap.size s s by unfold xP; omega) _).set (p := ⟨s + 1, 0, none⟩) (show xP w.heap.size s (s + 1) by unfold xP; omega) _, ⟨⟨⟨?_, ?_⟩, (HH3.out.other (by omega) _).other (by omega) _⟩, (HHS.out.set (p := ⟨s, 0, none⟩) (show xP w.heap.size s s by unfold xP; omega) _).set (p := ⟨s + 1, 0, none⟩) (show xP w.heap.size s (s + 1) by unfold xP; omega) _⟩, Below.setCell (p := ⟨s + 1, 0, none⟩) (Below.setCell (p := ⟨s, 0, none⟩) HHB.out (by show _ ≤ s; omega) _) (by show _ ≤ s + 1; omega) _, HGO.out HPA.out⟩
              · rw [HLN1.out]
                exact (HH1.out.set _).other (by omega) _
              · rw [HLN2.out, HTK.out, show (((m + xs.size : Nat)) : Int) = (m : Int) + (xs.size : Int) by omega]
                exact (HH2.out.other (by omega) _).set _
            · have e5 : (xs.toList == sk.toList) = false := by
                rw [beq_eq_false_iff_ne]
                intro e
                rw [ByteArray.toList_eq, ByteArray.toList_eq] at e
                exact hxs (by cases xs; cases sk; congr 1; exact Array.toList_inj.1 e)
              have HNO : Aside0 (¬ (pre ++ [((m : Int), xs)] <+: partsTo l0 l0.length)) := ⟨fun h => by
                obtain ⟨e, _⟩ := HSN.out h
                rw [HPA.out] at e
                injection e with _ e
                exact hxs e⟩
              clear hsY hxs
              gi_wp2
              exact ⟨KR.out, HNO.out⟩
          · have e4 : (xa == (m : Int)) = false := by rw [beq_eq_false_iff_ne]; exact hxa
            have HNO : Aside0 (¬ (pre ++ [(xa, xs)] <+: partsTo l0 l0.length)) := ⟨fun h => by
              obtain ⟨e, _⟩ := HSN.out h
              rw [HPA.out] at e
              injection e with e _
              exact hxa e⟩
            clear hsY
            gi_wp2
            exact ⟨KR.out, HNO.out⟩
        case done2 =>
          rintro D ys W hD rfl ⟨⟨⟨⟨h1, h2⟩, h3⟩, hS⟩, hB, hp⟩ hK
          rw [partsTo_length] at h1
          have cs := h1.cell
          have cL := (hS.boxed HLY.out (by omega) (by unfold xP; omega)).cell
          have HH3 := Aside0.mk h3
          have HHB := Aside0.mk hB
          have HHK := Aside0.mk hK
          have HHD := Aside0.mk (show s + 3 ≤ D by omega)
          clear h1 h2 h3 hS hB hp hK hD hsY hlast
          gi_wp2_with (refine ⟨trivial, ?_⟩; gi_at_call 13; refine (callsIn_wide.2 (awake_in _)).mono ?_; rintro e W9 ⟨rfl, hb⟩; have HR9 := Aside0.mk (show Boxed W9 (w.heap.size + 1) 4 (.bool false) from (hb.block _ HH3.out.lt).trans HH3.out); have cR9 := HR9.out.cell; have fR9 := HR9.out.frozen; have HK9 := Aside0.mk ((hb.block _ (Array.getElem?_eq_some_iff.1 HHK.out).1).trans HHK.out); have HB9 := Aside0.mk (below_step HHB.out hb); clear hb)
          have hd := HHD.out
          have HKS : (W9.setCell ⟨w.heap.size + 1, 0, none⟩ (.bool true)).heap[D]? = some (.deferred (some [])) := by
            rw [Below.heap_setCell _ _ _ D (by show D ≠ w.heap.size + 1; omega)]
            exact HK9.out
          have HBS : Below w.heap.size w (W9.setCell ⟨w.heap.size + 1, 0, none⟩ (.bool true)) := Below.setCell (p := ⟨w.heap.size + 1, 0, none⟩) HB9.out (by show _ ≤ w.heap.size + 1; omega) _
          refine ⟨by simp, .inl ⟨_, _, rfl, run_takeDeferred HKS, ?_⟩⟩
          have hput : ∀ (W : World) b t v, Boxed W b t v → b ≠ D → Boxed (W.putObj D (.deferred none)) b t v := fun W b t v hb hne => hb.kept (grownBy_putObj' W D _) (fun e => hne (by cases e; rfl))
          exact ⟨_, results_cell1 rfl rfl (loadVar_bool Try.underlying4 (hput _ _ _ _ (HR9.out.set _) (by omega)).cell), rfl, HBS.trans (belowK_b (w := w) (Nat.le_refl _) _ D _ _ (by omega) HKS rfl rfl)⟩
        case stop2 =>
          rintro D c pre W hD hpre hno hK
          exact absurd hpre hno
set_option maxHeartbeats 1000000 in
theorem juratlaw06_ChunkParts.calls (A0 : Option Addr) (c0 : Nat) (l0 : List ByteArray) (a1 : Int) (r : Bool) (w : World) (hr0 : Kd.C Kd.string w A0 l0.length l0) (hc0 : l0.length ≤ c0) (h : juratlaw06_ChunkParts.f l0 a1 = some r) :
    Calls Try.prog 4 #[.slice A0 l0.length c0, .int .i64 a1] w fun e w' => e = .returned (.bool r) ∧ Below w.heap.size w w' := by
  unfold juratlaw06_ChunkParts.f at h
  by_cases g : (-9223372036854775808 ≤ a1 ∧ a1 ≤ 9223372036854775807) ∧ l0.length * 16 ≤ 140737488351232
  rotate_left
  · rw [if_neg g] at h; cases h
  rw [if_pos g] at h
  obtain rfl := Option.some.inj h
  exact callsIn_wide.1 (parts_in A0 c0 l0 a1 w hr0 hc0 (by omega) g.1)

end Go.Proofs.Ytibckaogfdffpaa.P
