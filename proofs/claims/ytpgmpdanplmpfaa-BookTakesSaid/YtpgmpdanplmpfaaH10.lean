/- The set of patterns, or why there is none: the walk. The checks go over the texts; the object is written round by round; then it holds the texts in order. -/
import Derived.Test.YtpgmpdanplmpfaaP10
import Derived.Test.YtpgmpdanplmpfaaOb10
import Derived.Test.YtpgmpdanplmpfaaPx16
namespace Go.Proofs.Ytpgmpdanplmpfaa.P
open Go Go.RowKit Go.Proofs.YtpgmpdanplmpfaaW.PrintWords Go.Proofs.YtpgmpdanplmpfaaW.PrintMore Go.Proofs.Ytpgmpdanplmpfaa.Base
attribute [local go_sem] max2_int min2_int max_two min_two
set_option linter.unusedVariables false
set_option linter.unusedSimpArgs false

theorem check_is (s : ByteArray) : pats_check.f s = some (chkB s) := by
  unfold pats_check.f chkB
  by_cases h : s.size = 0
  · rw [if_pos (toList_nil.2 h), if_pos h]
  · rw [if_neg (fun e => h (toList_nil.1 e)), if_neg h]
    by_cases h2 : s.size > 65535
    · rw [if_pos (by omega), if_pos h2]
    · rw [if_neg (by omega), if_neg h2]
def pats_New.f (l0 : List ByteArray) : Option (Option SetD × Int) :=
  if l0.length = 0 then some (none, 14) else if l0.length > 65535 then some (none, 6) else
  if badB l0 ≠ 0 then some (none, badB l0) else
  if totalB 0 l0 > 16777216 then some (none, 13) else
  if twB [] l0 0 ≥ 0 then some (none, 8) else
  some (some ⟨sortB l0, (leastB (l0.getD 0 ByteArray.empty).size l0 : Nat), (mostB 0 l0 : Nat), (totalB 0 l0 : Nat)⟩, 0)

set_option maxHeartbeats 8000000 in
set_option maxRecDepth 100000 in
theorem pats_New.calls (A0 : Option Addr) (c0 : Nat) (l0 : List ByteArray) (r1 : Option SetD) (r2 : Int) (w : World) (hr0 : Kd.C Kd.string w A0 l0.length l0) (hc0 : l0.length ≤ c0) (h : pats_New.f l0 = some (r1, r2)) :
    Calls Try.prog 8 #[.slice A0 l0.length c0] w fun e w' => ∃ P0_ : Option Addr, e = .returned (.tuple #[.pointer P0_, .int .i64 r2]) ∧ OB K42 w' P0_ r1 ∧ Below w.heap.size w w' := by
  unfold pats_New.f at h
  by_cases g0 : l0.length = 0
  · rw [if_pos g0] at h
    obtain ⟨rfl, rfl⟩ := Prod.mk.inj (Option.some.inj h)
    rw [g0]
    clear h hr0 hc0 g0
    go_enter Try.func8, Try.ntmps8
    go_wp2
    go_ret2
    exact ⟨none, rfl, trivial, Below.refl _ _⟩
  rw [if_neg g0] at h
  by_cases g1 : l0.length > 65535
  · rw [if_pos g1] at h
    obtain ⟨rfl, rfl⟩ := Prod.mk.inj (Option.some.inj h)
    have c1 : ((l0.length : Int) == 0) = false := by rw [beq_eq_false_iff_ne]; omega
    have c2 : decide (65535 < (l0.length : Int)) = true := decide_eq_true (by omega)
    clear h hr0 hc0
    go_enter Try.func8, Try.ntmps8
    go_wp2
    go_ret2
    exact ⟨none, rfl, trivial, Below.refl _ _⟩
  rw [if_neg g1] at h
  have c1 : ((l0.length : Int) == 0) = false := by rw [beq_eq_false_iff_ne]; omega
  have c2 : decide (65535 < (l0.length : Int)) = false := decide_eq_false (by omega)
  have HC := Aside0.mk hr0
  have HC0 := Aside0.mk hc0
  have H := Aside0.mk h
  have g0' : 0 < l0.length := by omega
  have hle : l0.length ≤ 65535 := by omega
  clear h hr0 hc0 g0 g1
  have cell : ∀ (W : World) (k : Nat), Below w.heap.size w W → k < l0.length → ∃ ad, A0 = some ad ∧ W.cell? (ad.add k) = some (.string (l0.getD k ByteArray.empty)) := fun W k hb hk => by
    obtain ⟨ad, e, hc⟩ := Kd.at_string HC.out (k : Int) (by omega) (by omega)
    have hc' : w.cell? (ad.add k) = some (.string (l0.getD k ByteArray.empty)) := hc
    exact ⟨ad, e, (hb.cell (World.block_lt_of_cell? w _ hc')).trans hc'⟩
  have CELL := Aside0.mk cell
  clear cell
  go_enter Try.func8, Try.ntmps8
  go_wp2
  go_loopg [20] l0.length (fun kx i wr => ∃ k : Nat, i = .int .i64 k ∧ k ≤ l0.length ∧ l0.length - k ≤ kx ∧ Drawn0 w wr ∧ Aside0 (badB (l0.drop k) = badB l0))
  case atStart => exact ⟨0, rfl, Nat.zero_le _, by omega, Drawn0.refl _, ⟨rfl⟩⟩
  case round =>
    obtain ⟨k, rfl, hk, hkx, ⟨nq, rfl⟩, HBad⟩ := hrel
    by_cases hlt : k < l0.length
    · obtain ⟨ad, rfl, hx⟩ := CELL.out (w.drewN nq) k (pw_below_drewN (Below.refl _ _) _) hlt
      have hb := HBad.out
      rw [getD_drop l0 k ByteArray.empty hlt] at hb
      generalize l0.getD k ByteArray.empty = s at hx hb
      have hchk := fun W => pats_check.calls s (chkB s) W (check_is s)
      simp only [badB] at hb
      by_cases hz : chkB s = 0
      · rw [if_pos hz] at hb
        rw [hz] at hchk
        have HB2 := Aside0.mk hb
        clear hb hz HBad
        go_wp2_with (go_at_call 16; refine (hchk _).mono ?_; rintro e w' ⟨rfl, ⟨nd, rfl⟩⟩)
        go_roundg (l0.length - (k + 1))
        case measure => omega
        case rel => exact ⟨k + 1, by go_num, by omega, Nat.le_refl _, by repeat (first | exact Drawn0.refl _ | apply Drawn0.step), HB2⟩
      · rw [if_neg hz] at hb
        have h2 := H.out
        rw [if_pos (by rw [← hb]; exact hz), ← hb] at h2
        obtain ⟨cs, hcs⟩ : ∃ c, chkB s = c := ⟨_, rfl⟩
        rw [hcs] at h2 hchk hz
        obtain ⟨rfl, rfl⟩ := Prod.mk.inj (Option.some.inj h2)
        have cz : (cs != 0) = true := bne_iff_ne.2 hz
        have cz2 : (cs == 0) = false := beq_eq_false_iff_ne.2 hz
        clear h2 hb H HBad hz hcs
        go_wp2_with (go_at_call 16; refine (hchk _).mono ?_; rintro e w' ⟨rfl, ⟨nd, rfl⟩⟩)
        go_ret2
        exact ⟨none, rfl, trivial, by repeat (first | exact Below.refl _ _ | apply pw_below_drewN)⟩
    · obtain rfl : k = l0.length := by omega
      have hbad : badB l0 = 0 := by have := HBad.out; rw [List.drop_length] at this; exact this.symm
      have hsz := badB_size l0 hbad
      have h2 := H.out
      rw [if_neg (by rw [hbad]; simp)] at h2
      have H2 := Aside0.mk h2
      have SZ := Aside0.mk hsz
      have hS : sizedB l0 := ⟨by omega, fun s hs => by have := (hsz s hs).2; omega⟩
      have HS := Aside0.mk hS
      have hT := total_bound l0 0 (fun s hs => (hsz s hs).2)
      have hTB : (totalB 0 l0 : Nat) ≤ 65535 * 65535 := Nat.le_trans hT (by rw [Nat.zero_add]; exact Nat.mul_le_mul_right _ hle)
      have HTB := Aside0.mk hTB
      clear h2 hsz hbad H HBad hS hT hTB
      obtain ⟨ad, rfl, hx0⟩ := CELL.out (w.drewN nq) 0 (pw_below_drewN (Below.refl _ _) _) g0'
      have hB0 := Aside0.mk (pw_below_drewN (Below.refl w.heap.size w) nq)
      obtain ⟨f0, hf0⟩ : ∃ f, l0.getD 0 ByteArray.empty = f := ⟨_, rfl⟩
      rw [hf0] at hx0 H2
      have hx0' : (w.drewN nq).cell? ad = some (.string f0) := hx0
      have p0 : (0 < (l0.length : Int)) = True := eq_true (by omega)
      have hsize : (w.drewN nq).heap.size = w.heap.size := rfl
      go_wp2
      go_loopg [38] l0.length (fun kx i wr => ∃ (k : Nat), i = .int .i64 k ∧ k ≤ l0.length ∧ l0.length - k ≤ kx ∧
        Aside0 (wr.heap[w.heap.size]? = some (.cells #[.slice none 0 0, .int .i64 (leastB f0.size (l0.take k) : Nat), .int .i64 (mostB 0 (l0.take k) : Nat), .int .i64 (totalB 0 (l0.take k) : Nat)] 42 (0, 0))) ∧ Aside0 (Below w.heap.size w wr))
      case atStart => exact ⟨0, rfl, Nat.zero_le _, by omega, ⟨by rw [List.take_zero]; exact heap_alloc_new _ _⟩, ⟨hB0.out.alloc (Nat.le_refl _) _⟩⟩
      case round =>
        clear hx0 hx0' hB0 hsize p0 hf0
        obtain ⟨k, rfl, hk, hkx, HP, HB⟩ := hrel
        have hfz : ∀ j, wr.frozen? ⟨w.heap.size, j, none⟩ = false := fun j => by simp [World.frozen?, HP.out]
        by_cases hlt : k < l0.length
        · obtain ⟨ad2, e2, hx⟩ := CELL.out wr k HB.out hlt
          obtain rfl := Option.some.inj e2
          have hs := (SZ.out _ (getD_mem l0 k ByteArray.empty hlt)).2
          have f1 := fold_take (fun n s => min n s.size) f0.size l0 k hlt
          have f2 := fold_take (fun n s => max n s.size) 0 l0 k hlt
          have f3 := fold_take (fun n s => n + s.size) 0 l0 k hlt
          have hP := HP.out
          change leastB f0.size (l0.take (k + 1)) = min (leastB f0.size (l0.take k)) _ at f1
          change mostB 0 (l0.take (k + 1)) = max (mostB 0 (l0.take k)) _ at f2
          change totalB 0 (l0.take (k + 1)) = totalB 0 (l0.take k) + _ at f3
          have ht : totalB 0 (l0.take k) ≤ 0 + (l0.take k).length * 65535 := total_bound _ 0 (fun x hx => (SZ.out x (List.mem_of_mem_take hx)).2)
          have ht2 : totalB 0 (l0.take k) ≤ 4294836225 := by rw [List.length_take] at ht; omega
          clear ht e2 HP
          generalize l0.getD k ByteArray.empty = s at hx hs f1 f2 f3
          generalize leastB f0.size (l0.take k) = n1 at f1 hP
          generalize mostB 0 (l0.take k) = n2 at f2 hP
          generalize totalB 0 (l0.take k) = n3 at f3 hP ht2
          have F1 := Aside0.mk f1
          have F2 := Aside0.mk f2
          have F3 := Aside0.mk f3
          have hc1 : wr.cell? ⟨w.heap.size, 1, none⟩ = some (.int .i64 (n1 : Int)) := by simp [World.cell?, hP]
          have hc2 : wr.cell? ⟨w.heap.size, 2, none⟩ = some (.int .i64 (n2 : Int)) := by simp [World.cell?, hP]
          have hc3 : wr.cell? ⟨w.heap.size, 3, none⟩ = some (.int .i64 (n3 : Int)) := by simp [World.cell?, hP]
          have HP := Aside0.mk hP
          have hmin : (if s.size < n1 then (s.size : Int) else (n1 : Int)) = ((min n1 s.size : Nat) : Int) := by split <;> omega
          have hmax : (if n2 < s.size then (s.size : Int) else (n2 : Int)) = ((max n2 s.size : Nat) : Int) := by split <;> omega
          obtain ⟨m1, hm1⟩ : ∃ m, min n1 s.size = m := ⟨_, rfl⟩
          obtain ⟨m2, hm2⟩ : ∃ m, max n2 s.size = m := ⟨_, rfl⟩
          rw [hm1] at hmin F1
          rw [hm2] at hmax F2
          clear hP f1 f2 f3 hm1 hm2
          go_wp2
          go_roundg (l0.length - (k + 1))
          case measure => omega
          case rel =>
            refine ⟨k + 1, by go_num, by omega, Nat.le_refl _, ⟨?_⟩, ⟨?_⟩⟩
            · rw [F1.out, F2.out, F3.out]
              exact (heap_setCell_same _ _ _ _ _ _ (heap_setCell_same _ _ _ _ _ _ (heap_setCell_same _ _ _ _ _ _ HP.out))).trans rfl
            · exact ((HB.out.setCell (Nat.le_refl _) _).setCell (Nat.le_refl _) _).setCell (Nat.le_refl _) _
        · obtain rfl : k = l0.length := by omega
          have hP := HP.out
          rw [List.take_length] at hP
          have htb := HTB.out
          have h3 := H2.out
          have hTw := fun (W : World) (hb : Below w.heap.size w W) => affix_Twice.calls (some ad) c0 l0 (twB [] l0 0) W (Kd.C_below HC.out hb) HC0.out (by unfold affix_Twice.f; rw [if_pos HS.out])
          have hSo := fun (W : World) (hb : Below w.heap.size w W) => affix_Sorted.calls (some ad) c0 l0 (sortB l0) W (Kd.C_below HC.out hb) HC0.out (by unfold affix_Sorted.f; rw [if_pos HS.out])
          clear HP
          generalize leastB f0.size l0 = n1 at h3 hP
          generalize mostB 0 l0 = n2 at h3 hP
          generalize totalB 0 l0 = n3 at h3 hP htb
          generalize twB [] l0 0 = tw at h3 hTw
          have hBw : w.heap.size < wr.heap.size := (Array.getElem?_eq_some_iff.1 hP).1
          have hc3 : wr.cell? ⟨w.heap.size, 3, none⟩ = some (.int .i64 (n3 : Int)) := by simp [World.cell?, hP]
          have HP := Aside0.mk hP
          have HTw := Aside0.mk hTw
          have HSo := Aside0.mk hSo
          have HBw := Aside0.mk hBw
          clear hP hTw hSo hBw hfz H2 htb
          by_cases d1 : n3 > 16777216
          · rw [if_pos d1] at h3
            obtain ⟨rfl, rfl⟩ := Prod.mk.inj (Option.some.inj h3)
            have e1 : decide (16777216 < (n3 : Int)) = true := decide_eq_true (by omega)
            clear h3
            go_wp2
            go_ret2
            exact ⟨none, rfl, trivial, HB.out⟩
          rw [if_neg d1] at h3
          have e1 : decide (16777216 < (n3 : Int)) = false := decide_eq_false (by omega)
          clear d1
          by_cases d2 : tw ≥ 0
          · rw [if_pos d2] at h3
            obtain ⟨rfl, rfl⟩ := Prod.mk.inj (Option.some.inj h3)
            have e2 : decide (0 ≤ tw) = true := decide_eq_true d2
            clear h3 d2
            go_wp2_with (go_at_call 17; refine (HTw.out _ HB.out).mono ?_; rintro e w1 ⟨rfl, hb1⟩; have HB1 := Aside0.mk hb1; clear hb1)
            go_ret2
            exact ⟨none, rfl, trivial, HB.out.trans (HB1.out.mono (Nat.le_of_lt HBw.out))⟩
          rw [if_neg d2] at h3
          obtain ⟨rfl, rfl⟩ := Prod.mk.inj (Option.some.inj h3)
          have e2 : decide (0 ≤ tw) = false := decide_eq_false d2
          clear h3 d2
          go_wp2_with (first
            | (go_at_call 17; refine (HTw.out _ HB.out).mono ?_; rintro e w1 ⟨rfl, hb1⟩; have HP1 := Aside0.mk ((hb1.block _ HBw.out).trans HP.out); have HB1 := Aside0.mk (HB.out.trans (hb1.mono (Nat.le_of_lt HBw.out))); clear hb1)
            | (go_at_call 18; refine (HSo.out _ HB1.out).mono ?_; rintro e w2 ⟨v, rfl, hR, hb2⟩; obtain ⟨A2, c2, rfl⟩ := Kd.R_slice hR; have hlt1 : w.heap.size < w1.heap.size := (Array.getElem?_eq_some_iff.1 HP1.out).1; have hP2 := (hb2.block _ hlt1).trans HP1.out; have HB2 := Aside0.mk (HB1.out.trans (hb2.mono (Nat.le_of_lt hlt1))); have hfz2 : ∀ j, w2.frozen? ⟨w.heap.size, j, none⟩ = false := (fun j => by simp [World.frozen?, hP2]); have hc0 : w2.cell? ⟨w.heap.size, 0, none⟩ = some (.slice none 0 0) := (by simp [World.cell?, hP2]); have HP2 := Aside0.mk hP2; have HR := Aside0.mk hR; have HLT1 := Aside0.mk hlt1; clear hR hb2 hP2 hlt1)
            | go_in)
          go_ret2
          obtain ⟨_, hl2, hC2⟩ := Kd.R_reads' (R_beside HR.out HLT1.out (.slice A2 (sortB l0).length c2))
          have hq := heap_setCell_same _ _ 0 _ _ (.slice A2 (sortB l0).length c2) HP2.out
          exact ⟨_, rfl, OB.mk ⟨w.heap.size, A2, c2, rfl, by simp [World.cell?, hq], by simp [World.cell?, hq], by simp [World.cell?, hq], by simp [World.cell?, hq], hl2, hC2⟩, HB2.out.setCell (Nat.le_refl _) _⟩

end Go.Proofs.Ytpgmpdanplmpfaa.P
