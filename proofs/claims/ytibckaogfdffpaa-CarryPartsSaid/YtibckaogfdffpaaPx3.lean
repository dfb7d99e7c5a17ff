/- Layer 25's law that what is told hangs on the stream: the walk. -/
import Derived.Test.YtibckaogfdffpaaW25
import Derived.Test.YtibckaogfdffpaaH25g
namespace Go.Proofs.Ytibckaogfdffpaa.P
open Go Go.RowKit Go.Proofs.YtibckaogfdffpaaW.PrintWords Go.Proofs.YtibckaogfdffpaaW.PrintLast Go.Proofs.YtibckaogfdffpaaW.PrintMore Go.Proofs.Ytibckaogfdffpaa.Base
set_option linter.unusedVariables false
set_option linter.unusedSimpArgs false

def juratlaw25_CarryParts.f (a0 : Int) (a1 : ByteArray) (a2 : Int) : Option Bool := if -9223372036854775808 ≤ a2 ∧ a2 ≤ 9223372036854775807 ∧ -9223372036854775808 ≤ a0 ∧ a0 ≤ 9223372036854775807 then some true else none
/-- The bytes that came. -/
def upto (s : ByteArray) (keep i : Nat) : List Int := ((bytesOf s).take i).drop (i - keep)
theorem upto_next (s : ByteArray) (keep i : Nat) (hk : 1 ≤ keep) (hi : i < s.size) : (upto s keep i ++ bytesOf (s.extract i (i + 1))).drop (i + 1 - keep - (i - keep)) = upto s keep (i + 1) := by
  have hb : bytesOf (s.extract i (i + 1)) = [(bytesOf s).getD i 0] := by
    unfold bytesOf
    have h1 : (s.extract i (i + 1)).data.toList = [(LL s).getD i 0] := by
      show LL (s.extract i (i + 1)) = _
      rw [LL_extract, List.take_succ_eq_append_getElem (by rw [LL_length]; exact hi), List.drop_append_of_le_length (by rw [List.length_take, LL_length]; omega), List.drop_of_length_le (by rw [List.length_take]; omega), List.nil_append, List.getD_eq_getElem?_getD, List.getElem?_eq_getElem (by rw [LL_length]; exact hi)]
      rfl
    rw [h1, List.map_singleton, List.getD_eq_getElem?_getD, List.getD_eq_getElem?_getD, List.getElem?_map, List.getElem?_eq_getElem (by rw [LL_length]; exact hi)]
    rfl
  have hlen : (bytesOf s).length = s.size := bytesOf_length s
  unfold upto
  rw [hb, List.take_succ_eq_append_getElem (by omega), List.getD_eq_getElem?_getD, List.getElem?_eq_getElem (by omega)]
  show _ = List.drop (i + 1 - keep) (List.take i (bytesOf s) ++ [(bytesOf s)[i]])
  rw [← List.drop_append_of_le_length (by rw [List.length_take]; omega), List.drop_drop]
  congr 1
  omega
theorem upto_length (s : ByteArray) (keep i : Nat) (hi : i ≤ s.size) : (upto s keep i).length = i - (i - keep) := by
  unfold upto
  rw [List.length_drop, List.length_take, bytesOf_length]
  omega
set_option maxHeartbeats 8000000 in
set_option maxRecDepth 100000 in
theorem juratlaw25_CarryParts.calls (a0 : Int) (a1 : ByteArray) (a2 : Int) (r : Bool) (w : World) (h : juratlaw25_CarryParts.f a0 a1 a2 = some r) :
    Calls Try.prog 3 #[.int .i64 a0, .string a1, .int .i64 a2] w fun e w' => e = .returned (.bool r) ∧ Below w.heap.size w w' := by
  unfold juratlaw25_CarryParts.f at h
  by_cases hb : -9223372036854775808 ≤ a2 ∧ a2 ≤ 9223372036854775807 ∧ -9223372036854775808 ≤ a0 ∧ a0 ≤ 9223372036854775807
  rotate_left
  · rw [if_neg hb] at h; cases h
  rw [if_pos hb] at h
  obtain rfl := Option.some.inj h
  clear h
  by_cases g : 100 < a1.size ∨ a0 < 1 ∨ 200 < a0
  · have hor : (decide ((100 : Int) < (a1.size : Int)) || decide (a0 < 1) || decide ((200 : Int) < a0)) = true := by
      rcases g with g | g | g
      · rw [decide_eq_true (show (100 : Int) < (a1.size : Int) by omega)]; rfl
      · rw [decide_eq_true g, Bool.or_true, Bool.true_or]
      · rw [decide_eq_true g, Bool.or_true]
    by_cases g1 : 100 < a1.size
    · have c1 : decide ((100 : Int) < (a1.size : Int)) = true := decide_eq_true (by omega)
      clear hor g hb g1
      go_enter Try.func3, Try.ntmps3
      go_wp2_with (go_at_call 5; refine (juratlaw25_awake.calls _).mono ?_; rintro e w' ⟨rfl, hb⟩; have HB := Aside0.mk hb; clear hb)
      all_goals
        go_ret
        exact ⟨rfl, HB.out⟩
    have c1 : decide ((100 : Int) < (a1.size : Int)) = false := decide_eq_false (by omega)
    by_cases g2 : a0 < 1
    · have c2 : decide (a0 < 1) = true := decide_eq_true g2
      clear hor g hb g1 g2
      go_enter Try.func3, Try.ntmps3
      go_wp2_with (go_at_call 5; refine (juratlaw25_awake.calls _).mono ?_; rintro e w' ⟨rfl, hb⟩; have HB := Aside0.mk hb; clear hb)
      all_goals
        go_ret
        exact ⟨rfl, HB.out⟩
    have c2 : decide (a0 < 1) = false := decide_eq_false g2
    have c3 : decide (200 < a0) = true := decide_eq_true (by omega)
    clear hor g hb g1 g2
    go_enter Try.func3, Try.ntmps3
    go_wp2_with (go_at_call 5; refine (juratlaw25_awake.calls _).mono ?_; rintro e w' ⟨rfl, hb⟩; have HB := Aside0.mk hb; clear hb)
    all_goals
      go_ret
      exact ⟨rfl, HB.out⟩
  obtain ⟨keep, rfl⟩ : ∃ n : Nat, a0 = n := ⟨a0.toNat, by omega⟩
  have k1 : 1 ≤ keep := by omega
  have k2 : keep ≤ 200 := by omega
  have s1 : a1.size ≤ 100 := by omega
  have c1 : decide ((100 : Int) < (a1.size : Int)) = false := decide_eq_false (by omega)
  have c2 : decide ((keep : Int) < 1) = false := decide_eq_false (by omega)
  have c2' : decide (keep < 1) = false := decide_eq_false (by omega)
  have c3 : decide ((200 : Int) < (keep : Int)) = false := decide_eq_false (by omega)
  have c3' : decide (200 < keep) = false := decide_eq_false (by omega)
  have he : -9223372036854775808 ≤ a2 ∧ a2 ≤ 9223372036854775807 := ⟨hb.1, hb.2.1⟩
  clear g hb
  go_enter Try.func3, Try.ntmps3
  go_wp2_with (go_at_call 6; fail)
  refine Calls.mono (carry_NewG keep k1 (by omega) _) ?_
  rintro e W1 ⟨rfl, hc, hb, hl⟩
  have HA1 := Aside0.mk hc
  have HB1 := Aside0.mk hb
  have HL1 := Aside0.mk hl
  clear hc hb hl
  go_wp2_with (go_at_call 6; fail)
  refine Calls.mono (carry_NewG keep k1 (by omega) _) ?_
  rintro e W2 ⟨rfl, hc, hb, hl⟩
  have HA2 : Aside0 (CarryG W2 w.heap.size (keep : Int) (.slice none 0 0) 0 0) := ⟨(hb.block _ HL1.out).trans HA1.out⟩
  have HC2 := Aside0.mk hc
  have HB2 := Aside0.mk (HB1.out.trans (hb.mono (Nat.le_of_lt HL1.out)))
  have HL2 := Aside0.mk hl
  have hab : w.heap.size < W1.heap.size := HL1.out
  have hbs : W1.heap.size + 1 ≤ W2.heap.size := HL2.out
  clear hc hb hl HA1 HB1 HL1 HL2
  obtain ⟨ba, hba⟩ : ∃ ba, ba = w.heap.size := ⟨_, rfl⟩
  obtain ⟨bb, hbb⟩ : ∃ bb, bb = W1.heap.size := ⟨_, rfl⟩
  rw [← hba] at HA2 hab ⊢
  rw [← hbb] at HC2 hab hbs ⊢
  have HBA := Aside0.mk hba
  clear hbb hba
  go_wp2_with (go_at_call 7; fail)
  refine Calls.mono (carry_AddG a1 (keep : Int) 0 0 [] ba (bb + 1) w.heap.size (.slice none 0 0) w W2 HA2.out (Kd.R_nil _ _ _ _ _) (by omega) hbs (by simp; omega) HB2.out (by rw [HBA.out]; exact Nat.le_refl _)) ?_
  rintro e W3 ⟨rfl, va, hc, hr, hk, hb⟩
  have HA3 := Aside0.mk hc
  have HC3 := Aside0.mk (HC2.out.kept hk (fun h => by rcases h with h | h; exact absurd h (by omega); cases h))
  have HB3 := Aside0.mk hb
  have hN : bb + 1 ≤ W3.heap.size := Nat.le_trans hbs hk.1
  rw [List.nil_append] at hr
  have HRA := Aside0.mk (Kd.R_mono (ok' := fun k => bb < k ∧ k < W3.heap.size) (Kd.R_bound hr) (fun k h => ⟨h.2.1, h.2.2.1⟩))
  clear hc hr hk hb HA2 HC2 HB2 hbs
  obtain ⟨N, hNe⟩ : ∃ N, N = W3.heap.size := ⟨_, rfl⟩
  rw [← hNe] at hN HRA
  have HN := Aside0.mk hNe
  clear hNe
  go_wp2
  go_loopg [11] a1.size (fun kx v wr => ∃ (i : Nat) (vb : Value), v = .int .i64 i ∧ i ≤ a1.size ∧ a1.size - i ≤ kx ∧ N ≤ wr.heap.size ∧
    Aside0 (CarryG wr bb (keep : Int) vb ((i - keep : Nat) : Int) (i : Int)) ∧ Aside0 (RB wr N vb (upto a1 keep i)) ∧ Aside0 (CarryG wr ba (keep : Int) va 0 0) ∧ Aside0 ((Kd.int .u8).R 5 wr (bb + 1) (fun k => bb < k ∧ k < N) va (bytesOf a1)) ∧ Aside0 (Below w.heap.size w wr))
  case atStart => exact ⟨0, _, rfl, Nat.zero_le _, by omega, by rw [HN.out]; exact Nat.le_refl _, ⟨by rw [Nat.zero_sub]; exact HC3.out⟩, ⟨by show RB _ _ _ (List.drop (0 - keep) (List.take 0 (bytesOf a1))); rw [List.take_zero, List.drop_nil]; exact Kd.R_nil _ _ _ _ _⟩, HA3, HRA, HB3⟩
  case round =>
    clear HA3 HC3 HB3 HRA HN
    obtain ⟨i, vb, rfl, hi, hix, hNw, HC, HR, HA, HRA, HB⟩ := hrel
    by_cases hlt : i < a1.size
    · have hlt' : (i : Int) < (a1.size : Int) := by omega
      have hlen := upto_length a1 keep i hi
      have hex : (a1.extract i (i + 1)).size = 1 := by rw [ByteArray.size_extract]; omega
      have hadd := carry_AddG (a1.extract i (i + 1)) (keep : Int) ((i - keep : Nat) : Int) (i : Int) (upto a1 keep i) bb N w.heap.size vb w wr HC.out HR.out (by omega) hNw (by omega) HB.out (by rw [← HBA.out]; omega)
      have HADD := Aside0.mk hadd
      have HBAS := Aside0.mk (Kd.R_base HR.out)
      have hs1 : (i : Int) + 1 ≤ (a1.size : Int) := by omega
      have hs2 : (i : Int) ≤ (i : Int) + 1 := by omega
      have hs3 : ((i : Int) + 1).toNat = i + 1 := by omega
      have hs4 : i + 1 ≤ a1.size := by omega
      clear hadd
      go_wp2_with (go_at_call 7; fail)
      refine Calls.mono HADD.out ?_
      rintro e W4 ⟨rfl, v4, hc, hr, hk, hb⟩
      have HA4 : Aside0 (CarryG W4 ba (keep : Int) va 0 0) := ⟨HA.out.kept hk (fun h => by rcases h with h | h; exact absurd h (by omega); have := HBAS.out ba h.symm; omega)⟩
      have HRA4 : Aside0 ((Kd.int .u8).R 5 W4 (bb + 1) (fun k => bb < k ∧ k < N) va (bytesOf a1)) := ⟨Kd.R_kept HRA.out hk (fun k hok h => by rcases h with h | h; omega; have := HBAS.out k h.symm; omega)⟩
      have hN4 : N ≤ W4.heap.size := Nat.le_trans hNw hk.1
      have hlen4 : (upto a1 keep i ++ bytesOf (a1.extract i (i + 1))).length = i - (i - keep) + 1 := by rw [List.length_append, hlen, bytesOf_length, hex]
      have hpass := carry_PassG (B := w.heap.size) (f := i - keep) (d := i) (e := i + 1) (keep := keep) (w0 := w) hc hr (by omega) hN4 (by omega) k1 (by omega) (by omega) (by omega) hb (by rw [← HBA.out]; omega)
      rw [upto_next a1 keep i k1 hlt, show (i - keep) + (i + 1 - keep - (i - keep)) = i + 1 - keep by omega] at hpass
      have HPASS := Aside0.mk hpass
      clear hpass hc hr hk hb HC HR HA HRA HB HADD HBAS hlen4 hs3 hs4 hs2 hs1 hlt'
      go_wp2_with (go_at_call 8; fail)
      refine Calls.mono HPASS.out ?_
      rintro e W5 ⟨rfl, v5, hc, hr, hk, hb⟩
      have HA5 : Aside0 (CarryG W5 ba (keep : Int) va 0 0) := ⟨HA4.out.kept hk (by omega)⟩
      have HRA5 : Aside0 ((Kd.int .u8).R 5 W5 (bb + 1) (fun k => bb < k ∧ k < N) va (bytesOf a1)) := ⟨Kd.R_kept HRA4.out hk (fun k hok h => by omega)⟩
      have hN5 : N ≤ W5.heap.size := Nat.le_trans hN4 hk.1
      obtain ⟨A5, c5, rfl⟩ := Kd.R_slice hr
      have hl5 := upto_length a1 keep (i + 1) hlt
      have hle5 : decide ((keep : Int) < ((upto a1 keep (i + 1)).length : Int)) = false := decide_eq_false (by omega)
      have hle5' : decide (keep < (upto a1 keep (i + 1)).length) = false := decide_eq_false (by omega)
      have HC5 := Aside0.mk hc
      have HR5 := Aside0.mk hr
      have HB5 := Aside0.mk hb
      clear hc hr hk hb HPASS HA4 HRA4 hN4
      generalize hul : (upto a1 keep (i + 1)).length = ul at hle5 hle5' HC5 HR5
      have HUL := Aside0.mk hul
      clear hul hl5
      go_wp2_with (go_at_call 9; refine (carry_HeldG HC5.out).mono ?_; rintro e w' ⟨rfl, q, rfl⟩)
      go_roundg (a1.size - (i + 1))
      case measure => omega
      case rel =>
        refine ⟨i + 1, _, by go_num, by omega, Nat.le_refl _, hN5, HC5, ⟨?_⟩, HA5, ⟨Kd.R_drewN HRA5.out _⟩, ⟨pw_below_drewN HB5.out _⟩⟩
        exact Kd.R_drewN HR5.out _
    · obtain rfl : i = a1.size := by omega
      have hlt' : ¬ (a1.size : Int) < (a1.size : Int) := by omega
      have hpass := carry_PassG (B := w.heap.size) (f := 0) (d := 0) (e := a1.size) (keep := keep) (w0 := w) HA.out (Kd.R_mono HRA.out (fun _ _ => trivial)) (by omega) (by omega) (by rw [bytesOf_length]; omega) k1 (by omega) (by omega) (by rw [bytesOf_length]; omega) HB.out (by rw [← HBA.out]; omega)
      rw [show 0 + (a1.size - keep - 0) = a1.size - keep by omega, show a1.size - keep - 0 = a1.size - keep by omega, show (bytesOf a1).drop (a1.size - keep) = upto a1 keep a1.size by unfold upto; rw [List.take_of_length_le (by rw [bytesOf_length]; exact Nat.le_refl _)]] at hpass
      have HPASS := Aside0.mk hpass
      clear hpass hlt hix hi
      have HRB : Aside0 ((Kd.int .u8).R 5 wr N (fun k => N ≤ k) vb (upto a1 keep a1.size)) := ⟨Kd.R_mono (Kd.R_bound HR.out) (fun k h => h.2.1)⟩
      clear HR
      go_wp2_with (go_at_call 8; fail)
      refine Calls.mono HPASS.out ?_
      rintro e W4 ⟨rfl, v4, hc, hr, hk, hb⟩
      have HC4 : Aside0 (CarryG W4 bb (keep : Int) vb ((a1.size - keep : Nat) : Int) (a1.size : Int)) := ⟨HC.out.kept hk (by omega)⟩
      have HRB4 : Aside0 (RB W4 N vb (upto a1 keep a1.size)) := ⟨Kd.R_mono (Kd.R_kept HRB.out hk (fun k hok h => by omega)) (fun _ _ => trivial)⟩
      have hlu := upto_length a1 keep a1.size (Nat.le_refl _)
      have ta : ∀ q : Nat, Calls Try.prog 10 #[.pointer (some ⟨ba, 0, none⟩), .int .i64 a2] (W4.drewN q) fun e w' => e = .returned (.tuple #[.string (tailG keep (a1.size - keep) a1.size (upto a1 keep a1.size) a2).1, .bool (tailG keep (a1.size - keep) a1.size (upto a1 keep a1.size) a2).2]) ∧ ∃ n, w' = W4.drewN n := fun q =>
        (carry_TailG (w := W4.drewN q) a2 hc (Kd.R_drewN hr q) (by omega) (by omega) (Nat.le_refl _) he).mono fun e w' ⟨h1, n, h2⟩ => ⟨h1, q + n, by rw [h2, World.drewN_drewN]⟩
      have tb : ∀ q : Nat, Calls Try.prog 10 #[.pointer (some ⟨bb, 0, none⟩), .int .i64 a2] (W4.drewN q) fun e w' => e = .returned (.tuple #[.string (tailG keep (a1.size - keep) a1.size (upto a1 keep a1.size) a2).1, .bool (tailG keep (a1.size - keep) a1.size (upto a1 keep a1.size) a2).2]) ∧ ∃ n, w' = W4.drewN n := fun q =>
        (carry_TailG (w := W4.drewN q) a2 HC4.out (Kd.R_drewN HRB4.out q) (by omega) (by omega) (Nat.le_refl _) he).mono fun e w' ⟨h1, n, h2⟩ => ⟨h1, q + n, by rw [h2, World.drewN_drewN]⟩
      have ya : ∀ q : Nat, Calls Try.prog 11 #[.pointer (some ⟨ba, 0, none⟩), .int .i64 a2] (W4.drewN q) fun e w' => e = .returned (.tuple #[.int .u8 (byteG (a1.size - keep) (upto a1 keep a1.size) a2).1, .bool (byteG (a1.size - keep) (upto a1 keep a1.size) a2).2]) ∧ ∃ n, w' = W4.drewN n := fun q =>
        (carry_ByteG (w := W4.drewN q) a2 hc (Kd.R_drewN hr q) (by omega)).mono fun e w' ⟨h1, n, h2⟩ => ⟨h1, q + n, by rw [h2, World.drewN_drewN]⟩
      have yb : ∀ q : Nat, Calls Try.prog 11 #[.pointer (some ⟨bb, 0, none⟩), .int .i64 a2] (W4.drewN q) fun e w' => e = .returned (.tuple #[.int .u8 (byteG (a1.size - keep) (upto a1 keep a1.size) a2).1, .bool (byteG (a1.size - keep) (upto a1 keep a1.size) a2).2]) ∧ ∃ n, w' = W4.drewN n := fun q =>
        (carry_ByteG (w := W4.drewN q) a2 HC4.out (Kd.R_drewN HRB4.out q) (by omega)).mono fun e w' ⟨h1, n, h2⟩ => ⟨h1, q + n, by rw [h2, World.drewN_drewN]⟩
      obtain ⟨Aa, ca, rfl⟩ := Kd.R_slice hr
      obtain ⟨Ab, cb, rfl⟩ := Kd.R_slice HRB4.out
      have ha : ∀ q : Nat, Calls Try.prog 9 #[.pointer (some ⟨ba, 0, none⟩)] (W4.drewN q) fun e w' => e = .returned (.int .i64 ((upto a1 keep a1.size).length : Int)) ∧ ∃ n, w' = W4.drewN n := fun q =>
        (carry_HeldG (w := W4.drewN q) hc).mono fun e w' ⟨h1, n, h2⟩ => ⟨h1, q + n, by rw [h2, World.drewN_drewN]⟩
      have hb2 : ∀ q : Nat, Calls Try.prog 9 #[.pointer (some ⟨bb, 0, none⟩)] (W4.drewN q) fun e w' => e = .returned (.int .i64 ((upto a1 keep a1.size).length : Int)) ∧ ∃ n, w' = W4.drewN n := fun q =>
        (carry_HeldG (w := W4.drewN q) HC4.out).mono fun e w' ⟨h1, n, h2⟩ => ⟨h1, q + n, by rw [h2, World.drewN_drewN]⟩
      have hle5 : decide ((keep : Int) < ((upto a1 keep a1.size).length : Int)) = false := decide_eq_false (by omega)
      have hle5' : decide (keep < (upto a1 keep a1.size).length) = false := decide_eq_false (by omega)
      generalize tailG keep (a1.size - keep) a1.size (upto a1 keep a1.size) a2 = T at ta tb
      generalize byteG (a1.size - keep) (upto a1 keep a1.size) a2 = Y at ya yb
      generalize (upto a1 keep a1.size).length = ul at hle5 hle5' ha hb2
      obtain ⟨T1, T2⟩ := T
      obtain ⟨Y1, Y2⟩ := Y
      have TA := Aside0.mk ta
      have TB := Aside0.mk tb
      have YA := Aside0.mk ya
      have YB := Aside0.mk yb
      have HH := Aside0.mk ha
      have HH2 := Aside0.mk hb2
      have HB4 := Aside0.mk hb
      have HLU := Aside0.mk hlu
      clear hc hr hk hb ta tb ya yb ha hb2 HC4 HRB4 HPASS HC HA HRA HRB HB hlu
      go_wp2_with (go_at_call 9; fail)
      refine Calls.mono (HH.out 0) ?_
      rintro e w' ⟨rfl, q1, rfl⟩
      go_wp2_with (go_at_call 10; fail)
      refine Calls.mono (TA.out _) ?_
      rintro e w' ⟨rfl, q2, rfl⟩
      go_wp2_with (go_at_call 10; fail)
      refine Calls.mono (TB.out _) ?_
      rintro e w' ⟨rfl, q3, rfl⟩
      go_wp2_with (go_at_call 11; fail)
      refine Calls.mono (YA.out _) ?_
      rintro e w' ⟨rfl, q4, rfl⟩
      go_wp2_with (go_at_call 11; fail)
      refine Calls.mono (YB.out _) ?_
      rintro e w' ⟨rfl, q5, rfl⟩
      go_wp2_with (go_at_call 9; fail)
      refine Calls.mono (HH.out _) ?_
      rintro e w' ⟨rfl, q6, rfl⟩
      go_wp2_with (go_at_call 9; fail)
      refine Calls.mono (HH2.out _) ?_
      rintro e w' ⟨rfl, q7, rfl⟩
      go_wp2_with (go_at_call 5; refine (juratlaw25_awake.calls _).mono ?_; rintro e w' ⟨rfl, hb⟩; have HB := Aside0.mk hb; clear hb)
      go_ret
      exact ⟨rfl, below_step (pw_below_drewN HB4.out _) HB.out⟩

end Go.Proofs.Ytibckaogfdffpaa.P
