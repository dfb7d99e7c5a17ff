/- Proved here: the row of the law BookTakes, with texts that lead to it, merged by a program of this session (wip/merge.py), part 1 of 1; no condition beyond the statement's own. -/
import Derived.Test.YtpgmpdanplmpfaaPx0
import Derived.StillTailTactics
import Derived.WalkMore
import Derived.Test.YtpgmpdanplmpfaaOb
import Derived.Test.YtpgmpdanplmpfaaP02
import Derived.Test.YtpgmpdanplmpfaaN09
import Derived.Test.YtpgmpdanplmpfaaP10
import Derived.Test.YtpgmpdanplmpfaaPx9
import Derived.Test.YtpgmpdanplmpfaaProg
import Derived.Below
import Derived.Deep.Draws
import Derived.OwnWalk
import Derived.Tactics
import Derived.WalkKit
import Derived.KernelRfl
import Derived.RowKit3
import Derived.Deep.QuietTactic
import Derived.BigQuiet
import Derived.WideLaws
import Derived.Outline
import Derived.Test.YtpgmpdanplmpfaaOb10
import Derived.Test.YtpgmpdanplmpfaaH09p
import Derived.Test.YtpgmpdanplmpfaaH10
import Derived.Test.YtpgmpdanplmpfaaBits
import Derived.Shelf.Strings.BuilderK
import Derived.Test.YtpgmpdanplmpfaaShBld
import Derived.Test.YtpgmpdanplmpfaaBase
import Derived.Test.YtpgmpdanplmpfaaPx24
import Derived.Test.YtpgmpdanplmpfaaPx39
import Derived.Test.YtpgmpdanplmpfaaOrd
import Derived.Test.YtpgmpdanplmpfaaPx28
import Derived.Test.YtpgmpdanplmpfaaPx11
import Derived.Test.YtpgmpdanplmpfaaPx31
import Derived.Test.YtpgmpdanplmpfaaPx13
import Derived.Test.YtpgmpdanplmpfaaRows
import Derived.ProofKit
import Derived.OpenShut
import Derived.ShutString
import Derived.ChangeOld
import Derived.SizedLaws
/- Proved here: what Go functions of this seat compute, or a law of it; no condition beyond the statement's own. Written for this claim by a program of this session (wip/myprint.py) over the kit's print.py. -/
namespace Go.Proofs.Ytpgmpdanplmpfaa.P
open Go.RowKit Go.Proofs.YtpgmpdanplmpfaaW.PrintWords Go.Proofs.YtpgmpdanplmpfaaW.PrintLast Go.Proofs.YtpgmpdanplmpfaaW.PrintMore
attribute [local go_sem] max2_int min2_int max_two min_two max_three min_three max_four min_four   -- for this text's walks alone
set_option linter.unusedVariables false
set_option linter.unusedSimpArgs false

/-! ### juratref05_Same: function 14 -/
def juratref05_Same.l0 : Nat → List ByteArray → List ByteArray → Int → Option (Bool)
  | 0, _, _, _ => none
  | k + 1, x0, x1, x5 => if x5 < (x0.length : Int) then (if 0 ≤ x5 then (if x5 < (x1.length : Int) then (if (rdOf ByteArray.empty x0 x5).toList = (rdOf ByteArray.empty x1 x5).toList then (juratref05_Same.l0 k x0 x1 (wrap64 (x5 + 1))) else (some false)) else (none)) else (none)) else (some true)
def juratref05_Same.f (k : Nat) (l0 : List ByteArray) (l1 : List ByteArray) : Option (Bool) := if (l0.length : Int) = (l1.length : Int) then (juratref05_Same.l0 k l0 l1 0) else (some false)
theorem juratref05_Same.mono_l : ∀ k, (∀ y0 y1 y2, LeO (juratref05_Same.l0 k y0 y1 y2) (juratref05_Same.l0 (k + 1) y0 y1 y2))
  | 0 => fun _ _ _ r h => by simp [juratref05_Same.l0] at h
  | k + 1 => by
    have ih0 := juratref05_Same.mono_l k
    · intro y0 y1 y2
      unfold juratref05_Same.l0
      repeat' first
      | (with_reducible exact ih0 _ _ _)
      | (with_reducible exact LeO.refl _)
      | (with_reducible exact LeO.none _)
      | (with_reducible refine LeO.ite ?_ ?_)
      | (with_reducible refine LeO.bind ?_ (fun _ => ?_))
      | exact ih0 _ _ _
      | exact LeO.none _
      | refine LeO.ite ?_ ?_
      | refine LeO.bind ?_ (fun _ => ?_)
theorem juratref05_Same.mono : ∀ a0 a1 k, LeO (juratref05_Same.f k a0 a1) (juratref05_Same.f (k + 1) a0 a1) := by
  intro a0 a1 k
  have ih0 := juratref05_Same.mono_l k
  unfold juratref05_Same.f
  repeat' first
      | (with_reducible exact ih0 _ _ _)
      | (with_reducible exact LeO.refl _)
      | (with_reducible exact LeO.none _)
      | (with_reducible refine LeO.ite ?_ ?_)
      | (with_reducible refine LeO.bind ?_ (fun _ => ?_))
      | exact ih0 _ _ _
      | exact LeO.none _
      | refine LeO.ite ?_ ?_
      | refine LeO.bind ?_ (fun _ => ?_)
set_option maxHeartbeats 8000000 in
set_option maxRecDepth 100000 in
theorem juratref05_Same.calls (k : Nat) (A0 : Option Addr) (c0 : Nat) (l0 : List ByteArray) (A1 : Option Addr) (c1 : Nat) (l1 : List ByteArray) (r : Bool) (w : World) (hr0 : Kd.C Kd.string w A0 l0.length l0) (hc0 : l0.length ≤ c0) (hr1 : Kd.C Kd.string w A1 l1.length l1) (hc1 : l1.length ≤ c1) (h : juratref05_Same.f k l0 l1 = some r) :
    Calls Try.prog 14 #[.slice A0 l0.length c0, .slice A1 l1.length c1] w fun e w' => e = .returned (.bool r) ∧ Drawn0 w w' := by
  have HR0 := Aside0.mk hr0
  have HC0 := Aside0.mk hc0
  clear hr0 hc0
  have HR1 := Aside0.mk hr1
  have HC1 := Aside0.mk hc1
  clear hr1 hc1
  have H : (if (l0.length : Int) = (l1.length : Int) then (juratref05_Same.l0 k l0 l1 0) else (some false)) = some r := h
  clear h
  by_cases c3 : (l0.length : Int) = (l1.length : Int)
  · rw [if_pos c3] at H
    have c3b0 : ((l0.length : Int) == (l1.length : Int)) = true := beq_iff_eq.mpr c3
    have c3b1 : ((l0.length : Int) != (l1.length : Int)) = false := bne_eq_false_iff_eq.mpr c3
    have c3b2 : (l0.length == l1.length) = true := by first | simpa using c3 | (simp at c3 ⊢; omega)
    clear c3
    have H' := Aside0.mk H
    clear H
    go_enter Try.func14, Try.ntmps14
    go_wp2
    repeat (go_quiet (fail); try go_wp2)
    go_loopg [5] k (fun kq v5 w' => ∃ (x5_1 : Int), v5 = .int .i64 x5_1 ∧ Aside0 (juratref05_Same.l0 kq l0 l1 x5_1 = some r) ∧ Aside0 (kq ≤ k) ∧ Drawn0 w w')
    case atStart => exact ⟨(0), (by first | rfl | exact isE_ _ | exact isE2_ _ | (simp; done) | (simp [*]; done)), H', ⟨Nat.le_refl _⟩, by repeat (first | exact Drawn0.refl _ | apply Drawn0.step)⟩
    case round =>
      clear H'
      try clear c1
      try clear p2
      try clear c3
      try clear c3b0
      try clear c3b1
      try clear c3b2
      obtain ⟨x5_1, rfl, HA, HK1, ⟨m1, rfl⟩⟩ := hrel
      cases gk with
      | zero => exact absurd HA.out (by simp [juratref05_Same.l0])
      | succ k1 =>
        have H := HA.out
        clear HA
        simp only [juratref05_Same.l0] at H
        by_cases c4 : x5_1 < (l0.length : Int)
        · rw [if_pos c4] at H
          have c4b0 : decide (x5_1 < (l0.length : Int)) = true := decide_eq_true c4
          clear c4
          by_cases c5 : 0 ≤ x5_1
          · rw [if_pos c5] at H
            have c5b0 : decide (0 ≤ x5_1) = true := decide_eq_true c5
            clear c5
            by_cases c6 : x5_1 < (l1.length : Int)
            · rw [if_pos c6] at H
              have c6b0 : decide (x5_1 < (l1.length : Int)) = true := decide_eq_true c6
              clear c6
              by_cases c7 : (rdOf ByteArray.empty l0 x5_1).toList = (rdOf ByteArray.empty l1 x5_1).toList
              · rw [if_pos c7] at H
                have c7b0 : ((rdOf ByteArray.empty l0 x5_1).toList == (rdOf ByteArray.empty l1 x5_1).toList) = true := beq_iff_eq.mpr c7
                have c7b1 : ((rdOf ByteArray.empty l0 x5_1).toList != (rdOf ByteArray.empty l1 x5_1).toList) = false := bne_eq_false_iff_eq.mpr c7
                clear c7
                have H' := Aside0.mk H
                clear H
                have p235 : 0 ≤ (x5_1 : Int) := of_decide_eq_true (by first | (with_reducible assumption) | assumption)
                have q235 : x5_1 < (l0.length : Int) := of_decide_eq_true (by first | (with_reducible assumption) | assumption)
                obtain ⟨ad235, e235, hx235_0⟩ := Kd.at_string HR0.out x5_1 p235 q235
                cases e235
                replace p235 := eq_true p235
                replace q235 := eq_true q235
                have p236 : 0 ≤ (x5_1 : Int) := of_decide_eq_true (by first | (with_reducible assumption) | assumption)
                have q236 : x5_1 < (l1.length : Int) := of_decide_eq_true (by first | (with_reducible assumption) | assumption)
                obtain ⟨ad236, e236, hx236_0⟩ := Kd.at_string HR1.out x5_1 p236 q236
                cases e236
                replace p236 := eq_true p236
                replace q236 := eq_true q236
                go_wp2
                repeat (go_quiet (fail); try go_wp2)
                go_roundg k1
                case measure => have := HK1.out; omega
                case rel => exact ⟨(wrap64 (x5_1 + 1)), (by first | rfl | exact isE_ _ | exact isE2_ _ | (simp; done) | (simp [*]; done)), H', ⟨by have := HK1.out; omega⟩, by repeat (first | exact Drawn0.refl _ | apply Drawn0.step)⟩
              · rw [if_neg c7] at H
                have c7b0 : ((rdOf ByteArray.empty l0 x5_1).toList == (rdOf ByteArray.empty l1 x5_1).toList) = false := beq_eq_false_iff_ne.mpr c7
                have c7b1 : ((rdOf ByteArray.empty l0 x5_1).toList != (rdOf ByteArray.empty l1 x5_1).toList) = true := bne_iff_ne.mpr c7
                obtain rfl := Option.some.inj H
                have p235 : 0 ≤ (x5_1 : Int) := of_decide_eq_true (by first | (with_reducible assumption) | assumption)
                have q235 : x5_1 < (l0.length : Int) := of_decide_eq_true (by first | (with_reducible assumption) | assumption)
                obtain ⟨ad235, e235, hx235_0⟩ := Kd.at_string HR0.out x5_1 p235 q235
                cases e235
                replace p235 := eq_true p235
                replace q235 := eq_true q235
                have p236 : 0 ≤ (x5_1 : Int) := of_decide_eq_true (by first | (with_reducible assumption) | assumption)
                have q236 : x5_1 < (l1.length : Int) := of_decide_eq_true (by first | (with_reducible assumption) | assumption)
                obtain ⟨ad236, e236, hx236_0⟩ := Kd.at_string HR1.out x5_1 p236 q236
                cases e236
                replace p236 := eq_true p236
                replace q236 := eq_true q236
                go_wp2
                repeat (go_quiet (fail); try go_wp2)
                go_ret
                exact ⟨by first | rfl | (simp; done) | (simp [*]; done), by repeat (first | exact Drawn0.refl _ | apply Drawn0.step)⟩
            · rw [if_neg c6] at H
              exact absurd H (by simp)
          · rw [if_neg c5] at H
            exact absurd H (by simp)
        · rw [if_neg c4] at H
          have c4b0 : decide (x5_1 < (l0.length : Int)) = false := decide_eq_false c4
          clear c4
          obtain rfl := Option.some.inj H
          go_wp2
          repeat (go_quiet (fail); try go_wp2)
          go_ret
          exact ⟨by first | rfl | (simp; done) | (simp [*]; done), by repeat (first | exact Drawn0.refl _ | apply Drawn0.step)⟩
  · rw [if_neg c3] at H
    have c3b0 : ((l0.length : Int) == (l1.length : Int)) = false := beq_eq_false_iff_ne.mpr c3
    have c3b1 : ((l0.length : Int) != (l1.length : Int)) = true := bne_iff_ne.mpr c3
    have c3b2 : (l0.length == l1.length) = false := by first | simpa using c3 | (simp at c3 ⊢; omega)
    obtain rfl := Option.some.inj H
    go_enter Try.func14, Try.ntmps14
    go_wp2
    repeat (go_quiet (fail); try go_wp2)
    go_ret
    exact ⟨by first | rfl | (simp; done) | (simp [*]; done), by repeat (first | exact Drawn0.refl _ | apply Drawn0.step)⟩

end Go.Proofs.Ytpgmpdanplmpfaa.P

/- A row of bytes with room for nine, as make lays it; no condition. -/
namespace Go.Proofs.Ytpgmpdanplmpfaa.P
open Go Go.RowKit Go.Proofs.YtpgmpdanplmpfaaW.PrintWords Go.Proofs.YtpgmpdanplmpfaaW.PrintLast Go.Proofs.YtpgmpdanplmpfaaW.PrintMore Go.Proofs.Ytpgmpdanplmpfaa.Base
set_option linter.unusedVariables false
set_option linter.unusedSimpArgs false

theorem info02 : (Try.prog.info? 5).map (fun i => (i.zero, i.size, i.bytes)) = some (some (.int .u8 0), 1, 1) := by kernel_rfl
def Z02 : Obj := .cells (madeCells #[.int .u8 0] 9) 5
theorem mk02 (W : World) : (Instr.makeSlice 46 (.int .i64 0) (.int .i64 9)).run Try.prog W = .ok (.slice (some ⟨W.heap.size, 0, none⟩) 0 9) (W.alloc Z02) := by
  obtain ⟨i0, hi, hzz⟩ := Option.map_eq_some_iff.1 info02
  simp only [Prod.mk.injEq] at hzz
  obtain ⟨hz0, hz1, hz2⟩ := hzz
  have hr := run_make (P := Try.prog) (w := W) 46 5 i0 (.int .u8 0) Try.underlying46 hi hz0 .i64 .i64 0 9 (by omega) (by omega) (by rw [hz2]; decide) (by omega)
  rw [hz1] at hr
  exact hr
theorem R02 (W : World) (base : Nat) (hb : base ≤ W.heap.size) (ok : Nat → Prop) (hok : ok W.heap.size) : Kd.R (Kd.int .u8) 5 (W.alloc Z02) base ok (.slice (some ⟨W.heap.size, 0, none⟩) 0 9) [] :=
  Kd.R_of_own (enc := Value.int .u8) (h1 := fun _ => rfl) ⟨rfl, .inr ⟨W.heap.size, 9, _, rfl, hb, heap_alloc_new _ _, by decide, by decide, by simp [madeCells], by simp [madeCells, encs]⟩⟩ (fun k hk => by
    have : W.heap.size = k := by simpa [Value.ownBlock] using hk
    exact this ▸ hok)
end Go.Proofs.Ytpgmpdanplmpfaa.P

/- Varints: the bytes of a number, and of numbers behind each other; no condition beyond those in each statement. -/
namespace Go.Proofs.Ytpgmpdanplmpfaa.P
open Go Go.RowKit Go.Proofs.YtpgmpdanplmpfaaW.PrintWords Go.Proofs.YtpgmpdanplmpfaaW.PrintLast Go.Proofs.YtpgmpdanplmpfaaW.PrintMore Go.Proofs.Ytpgmpdanplmpfaa.Base
set_option linter.unusedVariables false
set_option linter.unusedSimpArgs false

def strU (l : List UInt8) : ByteArray := ⟨l.toArray⟩
def numsU (l : List UInt8) : List Int := l.map fun b => (b.toNat : Int)
theorem strU_nums (l : List UInt8) : strOfNums (numsU l) = strU l := by
  unfold strOfNums numsU strU
  rw [List.map_map]
  have : (fun n : Int => UInt8.ofNat n.toNat) ∘ (fun b : UInt8 => (b.toNat : Int)) = id := by
    funext b
    simp [Function.comp]
  rw [this, List.map_id]
def varint_Put.f (a0 : Int) : Option ByteArray := if a0 < 0 then some ByteArray.empty else if a0 ≤ 9223372036854775807 then some (strU (vputL a0.toNat)) else none
set_option maxHeartbeats 4000000 in
set_option maxRecDepth 100000 in
theorem varint_Put.calls (a0 : Int) (r : ByteArray) (w : World) (h : varint_Put.f a0 = some r) :
    Calls Try.prog 22 #[.int .i64 a0] w fun e w' => e = .returned (.string r) ∧ Below w.heap.size w w' := by
  unfold varint_Put.f at h
  by_cases h0 : a0 < 0
  · rw [if_pos h0] at h
    obtain rfl := Option.some.inj h
    have b1 : decide (a0 < 0) = true := decide_eq_true h0
    clear h h0
    go_enter Try.func22, Try.ntmps22
    go_wp2
    go_ret
    exact ⟨rfl, Below.refl _ _⟩
  · rw [if_neg h0] at h
    by_cases h1 : a0 ≤ 9223372036854775807
    rotate_left
    · rw [if_neg h1] at h; cases h
    rw [if_pos h1] at h
    obtain rfl := Option.some.inj h
    obtain ⟨n, rfl⟩ : ∃ n : Nat, a0 = n := ⟨a0.toNat, by omega⟩
    rw [Int.toNat_natCast]
    have hn : n < 9223372036854775808 := by omega
    have b1 : decide ((n : Int) < 0) = false := decide_eq_false h0
    obtain ⟨L, hL⟩ : ∃ L, vputL n = L := ⟨_, rfl⟩
    rw [hL]
    have HL := Aside0.mk hL
    have hmk := mk02
    clear h h0 h1 hL
    go_enter Try.func22, Try.ntmps22
    go_wp2
    go_loopg [0, 3] 9 (fun kx x0 x3 W => ∃ (m f : Nat) (out : List UInt8), x0 = .int .i64 m ∧ f ≤ kx ∧ m < 128 ^ (f + 1) ∧ m < 9223372036854775808 ∧ out.length + f ≤ 9 ∧ Aside0 (out ++ vputF f m = L) ∧ Aside0 (Kd.R (Kd.int .u8) 5 W w.heap.size (fun _ => True) x3 (numsU out)) ∧ Aside0 (Below w.heap.size w W))
    case atStart => exact ⟨n, 9, [], rfl, Nat.le_refl _, Nat.lt_of_lt_of_le hn (by decide), hn, by decide, ⟨by rw [List.nil_append]; exact HL.out⟩, ⟨R02 w _ (Nat.le_refl _) _ trivial⟩, ⟨(Below.refl _ _).alloc (Nat.le_refl _) _⟩⟩
    case round =>
      clear HL
      obtain ⟨m, f, out, rfl, hfk, hmf, hm, hol, HL, HR, HB⟩ := hrel
      have hlen : (numsU out).length = out.length := List.length_map ..
      have HLEN := Aside0.mk hlen
      have hln : out.length + 1 ≤ 11 := by omega
      by_cases hgt : 127 < m
      · have b2 : decide ((127 : Int) < (m : Int)) = true := decide_eq_true (by omega)
        have a1 := and127 m hm
        have hmod : m % 128 < 128 := Nat.mod_lt _ (by decide)
        clear hlen
        go_wp2_with ((with_reducible refine gate_builtin (b := .append) (xs := #[.tmp 11, .tmp 16]) rfl ?_); at_builtin; refine Kd.R_append (Kd.int .u8) (w0 := w) w.heap.size rfl (.tmp 11) (.tmp 16) 46 5 (.int .u8 0) 1 rfl Try.underlying46 info02 rfl (by decide) (by decide) u3 (numsU out) (Go.bits .or .i64 ((m : Int) % 128) 128 % 256) [.int .u8 (Go.bits .or .i64 ((m : Int) % 128) 128 % 256)] (fun _ => True) (fun _ => False) rfl rfl ?aP (fun _ hk => hk.elim) ?aF ?aO ?aB ?aS ?aL ?_; (case aP => exact rfl); (case aB => exact (by repeat (first | exact HB.out | (with_reducible apply pw_below_drewN) | (with_reducible apply below_drew)))); (case aF => exact (fun _ _ => trivial)); (case aO => exact (by (with_reducible repeat (first | apply Kd.R_alloc | apply Kd.R_drewN | apply Kd.R_drew)); exact HR.out)); (case aS => exact HB.out.size); (case aL => rw [HLEN.out]; omega); intro v1 w6 ho hb hg hat; have HB1 := Aside0.mk hb; have HR1 := Aside0.mk ho; clear ho hb hg hat)
        have hf1 : 0 < f := by
          rcases Nat.eq_zero_or_pos f with h | h
          · subst h
            have : m < 128 := by simpa using hmf
            omega
          · exact h
        go_roundg (f - 1)
        case measure => omega
        case rel =>
          obtain ⟨f, rfl⟩ : ∃ f', f = f' + 1 := ⟨f - 1, by omega⟩
          have eb : (UInt8.ofNat (m % 128 + 128)).toNat = m % 128 + 128 := by rw [UInt8.toNat_ofNat']; omega
          have e1 : numsU out ++ [Go.bits .or .i64 ((m : Int) % 128) 128 % 256] = numsU (out ++ [UInt8.ofNat (m % 128 + 128)]) := by
            unfold numsU
            rw [List.map_append, List.map_cons, List.map_nil, eb, show (m : Int) % 128 = ((m % 128 : Nat) : Int) from by omega, or128 _ hmod]
            congr 2
            omega
          refine ⟨m / 128, f, out ++ [UInt8.ofNat (m % 128 + 128)], by rw [show ((m / 128 : Nat) : Int) = (m : Int) / 128 from by omega], by omega, ?_, by omega, by rw [List.length_append, List.length_singleton]; omega, ⟨?_⟩, ⟨by rw [← e1]; exact HR1.out⟩, HB1⟩
          · rw [Nat.div_lt_iff_lt_mul (by decide)]
            rw [Nat.pow_succ] at hmf
            exact hmf
          · have e2 : vputF (f + 1) m = UInt8.ofNat (m % 128 + 128) :: vputF f (m / 128) := by
              show (if 127 < m then UInt8.ofNat (m % 128 + 128) :: vputF f (m / 128) else [UInt8.ofNat m]) = _
              rw [if_pos hgt]
            rw [List.append_assoc, List.singleton_append, ← e2]
            exact HL.out
      · have b2 : decide ((127 : Int) < (m : Int)) = false := decide_eq_false (by omega)
        clear hlen
        go_wp2_with ((with_reducible refine gate_builtin (b := .append) (xs := #[.tmp 18, .tmp 21]) rfl ?_); at_builtin; refine Kd.R_append (Kd.int .u8) (w0 := w) w.heap.size rfl (.tmp 18) (.tmp 21) 46 5 (.int .u8 0) 1 rfl Try.underlying46 info02 rfl (by decide) (by decide) u3 (numsU out) ((m : Int)) [.int .u8 (m : Int)] (fun _ => True) (fun _ => False) rfl rfl ?aP (fun _ hk => hk.elim) ?aF ?aO ?aB ?aS ?aL ?_; (case aP => exact rfl); (case aB => exact (by repeat (first | exact HB.out | (with_reducible apply pw_below_drewN) | (with_reducible apply below_drew)))); (case aF => exact (fun _ _ => trivial)); (case aO => exact (by (with_reducible repeat (first | apply Kd.R_alloc | apply Kd.R_drewN | apply Kd.R_drew)); exact HR.out)); (case aS => exact HB.out.size); (case aL => rw [HLEN.out]; omega); intro v1 w6 ho hb hg hat; have HB1 := Aside0.mk hb; have HR1 := Aside0.mk ho; obtain ⟨A1, cp1, hv1⟩ := Kd.R_slice ho; subst hv1; have hcs := Kd.C_string (P := Try.prog) (src := 46) (dst := 9) (c := cp1) Try.underlying46 Try.underlying5 Try.underlying9 (Kd.R_reads' ho).2.2; have HCS := Aside0.mk hcs; clear ho hb hg hat hcs)
        rw [show (numsU out).length + 1 = (numsU out ++ [(m : Int)]).length from by rw [List.length_append]; rfl, HCS.out]
        simp only [Result.andThen]
        rw [Oper.upon_value]
        go_wp2
        go_ret
        refine ⟨?_, HB1.out⟩
        have eb : (UInt8.ofNat m).toNat = m := by rw [UInt8.toNat_ofNat']; omega
        have e2 : vputF f m = [UInt8.ofNat m] := by
          cases f with
          | zero => rfl
          | succ f =>
            show (if 127 < m then UInt8.ofNat (m % 128 + 128) :: vputF f (m / 128) else [UInt8.ofNat m]) = _
            rw [if_neg hgt]
        have e1 : numsU out ++ [(m : Int)] = numsU L := by
          rw [← HL.out, e2]
          unfold numsU
          rw [List.map_append, List.map_cons, List.map_nil, eb]
        show Ending.returned (.string (strOfNums (numsU out ++ [(m : Int)]))) = _
        rw [e1, strU_nums]
/-- The bytes of numbers, one behind the other. -/
def putsL (l : List Int) : List UInt8 := l.flatMap fun n => if n < 0 then [] else vputL n.toNat
theorem vputL_len (n : Nat) : (vputL n).length ≤ 10 := (vputF_length 9 n).2
theorem puts_len (l : List Int) : (putsL l).length ≤ 10 * l.length := by
  induction l with
  | nil => exact Nat.le_refl _
  | cons n l ih =>
    have e : putsL (n :: l) = (if n < 0 then [] else vputL n.toNat) ++ putsL l := rfl
    have h1 : (if n < 0 then ([] : List UInt8) else vputL n.toNat).length ≤ 10 := by
      split
      · decide
      · exact vputL_len _
    rw [e, List.length_append, List.length_cons]
    omega
theorem puts_snoc (l : List Int) (n : Int) : putsL (l ++ [n]) = putsL l ++ (if n < 0 then [] else vputL n.toNat) := by
  unfold putsL
  rw [List.flatMap_append]
  simp
theorem bytesOf_strU (l : List UInt8) : bytesOf (strU l) = numsU l := by
  unfold bytesOf strU numsU
  simp
def varint_All.f (l : List Int) : Option ByteArray := if (∀ n ∈ l, n ≤ 9223372036854775807) ∧ l.length ≤ 1099511627776 then some (strU (putsL l)) else none
set_option maxHeartbeats 4000000 in
set_option maxRecDepth 100000 in
theorem varint_All.calls (A0 : Option Addr) (c0 : Nat) (l : List Int) (r : ByteArray) (w : World) (hr0 : Kd.C (Kd.int .i64) w A0 l.length l) (hc0 : l.length ≤ c0) (h : varint_All.f l = some r) :
    Calls Try.prog 25 #[.slice A0 l.length c0] w fun e w' => e = .returned (.string r) ∧ Below w.heap.size w w' := by
  unfold varint_All.f at h
  by_cases hs : (∀ n ∈ l, n ≤ 9223372036854775807) ∧ l.length ≤ 1099511627776
  rotate_left
  · rw [if_neg hs] at h; cases h
  rw [if_pos hs] at h
  obtain rfl := Option.some.inj h
  obtain ⟨hs1, hs2⟩ := hs
  obtain ⟨m, hm⟩ : ∃ m, l.length = m := ⟨_, rfl⟩
  rw [hm] at hr0 hc0 hs2 ⊢
  have HC := Aside0.mk hr0
  have HM := Aside0.mk hm
  have HS := Aside0.mk hs1
  clear h hr0 hm hs1
  go_enter Try.func25, Try.ntmps25
  go_wp2
  go_loopg [3, 5, 8] m (fun kx x3 x5 x8 W => ∃ (i : Nat), x8 = .int .i64 i ∧ i ≤ m ∧ m - i ≤ kx ∧ Aside0 (W.ownsRow w.heap.size 5 1 x3 (numsU (putsL (l.take i))).length (nums .u8 (numsU (putsL (l.take i))))) ∧ Aside0 (Below w.heap.size w W))
  case atStart => exact ⟨0, rfl, Nat.zero_le _, Nat.le_refl _, ⟨⟨rfl, .inl ⟨rfl, rfl⟩⟩⟩, ⟨Below.refl _ _⟩⟩
  case round =>
    obtain ⟨i, rfl, him, hik, HO, HB⟩ := hrel
    have hxl : (numsU (putsL (l.take i))).length ≤ 10995116277760 := by
      have h1 := puts_len (l.take i)
      have h2 : (l.take i).length ≤ m := by rw [List.length_take, HM.out]; omega
      unfold numsU
      rw [List.length_map]
      omega
    by_cases hlt : i < m
    · have hd : decide ((i : Int) < (m : Int)) = true := decide_eq_true (by omega)
      obtain ⟨ad, rfl, hat⟩ := Kd.at_int HC.out (i : Int) (by omega) (by omega)
      have hat2 := pw_cell_below HB.out hat
      rw [Int.toNat_natCast] at hat2
      obtain ⟨y, hy⟩ : ∃ y, rd l (i : Int) = y := ⟨_, rfl⟩
      rw [hy] at hat2
      have hyb : y ≤ 9223372036854775807 := by
        rw [← hy]
        show l.getD (i : Int).toNat 0 ≤ _
        rw [Int.toNat_natCast]
        exact HS.out _ (getD_mem l i 0 (by rw [HM.out]; exact hlt))
      obtain ⟨sy, hsy⟩ : ∃ sy, strU (if y < 0 then [] else vputL y.toNat) = sy := ⟨_, rfl⟩
      have hput : varint_Put.f y = some sy := by
        rw [← hsy]
        unfold varint_Put.f
        by_cases g : y < 0
        · rw [if_pos g, if_pos g]; rfl
        · rw [if_neg g, if_pos hyb, if_neg g]
      have hszy : sy.size ≤ 10 := by
        rw [← hsy]
        show (if y < 0 then ([] : List UInt8) else vputL y.toNat).toArray.size ≤ 10
        rw [List.size_toArray]
        split
        · decide
        · exact vputL_len _
      have hnext : numsU (putsL (l.take i)) ++ bytesOf sy = numsU (putsL (l.take (i + 1))) := by
        have e : l.take (i + 1) = l.take i ++ [y] := by
          have hl : i < l.length := by rw [HM.out]; exact hlt
          rw [List.take_add_one, List.getElem?_eq_getElem hl]
          have : l[i] = y := by
            rw [← hy]
            show _ = l.getD (i : Int).toNat 0
            rw [Int.toNat_natCast, List.getD_eq_getElem?_getD, List.getElem?_eq_getElem hl]
            rfl
          rw [this]
          rfl
        rw [e, puts_snoc, ← hsy, bytesOf_strU]
        unfold numsU
        rw [List.map_append]
      have HP := Aside0.mk hput
      have HNX := Aside0.mk hnext
      clear hat hy hput hsy hnext
      go_wp2_with (first
        | (go_at_call 22; refine (varint_Put.calls y sy _ HP.out).mono ?_; rintro e w2 ⟨rfl, hb⟩; have HO2 := Aside0.mk (pw_own_below HO.out hb); have HB2 := Aside0.mk (below_step HB.out hb); clear hb)
        | ((with_reducible refine gate_builtin (b := .append) (xs := #[.tmp 12, .tmp 14]) rfl ?_); at_builtin; refine print_append_str (w0 := w) w.heap.size rfl (.tmp 12) (.tmp 14) 46 9 5 rfl Try.underlying46 Try.underlying9 info02 _ (numsU (putsL (l.take i))) sy rfl rfl HO2.out HB2.out HB2.out.size (by omega) ?_; intro v1 w6 ho hb hg; rw [HNX.out] at ho; have HO3 := Aside0.mk ho; have HB3 := Aside0.mk hb; clear ho hb hg))
      go_roundg (m - (i + 1))
      case measure => omega
      case rel => exact ⟨i + 1, by go_num, by omega, Nat.le_refl _, HO3, HB3⟩
    · obtain rfl : i = m := by omega
      have hd : decide ((i : Int) < (i : Int)) = false := decide_eq_false (by omega)
      have ho := HO.out
      rw [List.take_of_length_le (by rw [HM.out]; exact Nat.le_refl _)] at ho
      obtain ⟨A', cp', rfl⟩ := own_slice ho
      have hcs := own_string (P := Try.prog) Try.underlying46 Try.underlying5 Try.underlying9 ho
      rw [strU_nums] at hcs
      generalize (numsU (putsL l)).length = nl at hcs
      clear ho
      go_wp2
      go_ret
      exact ⟨rfl, HB.out⟩
end Go.Proofs.Ytpgmpdanplmpfaa.P

/- What layer 10's reference makes of texts, as plain functions; no condition beyond the sizes that stand in each statement. -/
namespace Go.Proofs.Ytpgmpdanplmpfaa.Base
open Go Go.RowKit Go.Proofs.YtpgmpdanplmpfaaW.PrintWords Go.Proofs.YtpgmpdanplmpfaaW.PrintMore Go.Proofs.Ytpgmpdanplmpfaa.P
set_option linter.unusedVariables false

/-- The patterns in order, or the error. -/
def newB (l : List ByteArray) : List ByteArray × Int :=
  if l.length = 0 then ([], 14) else if l.length > 65535 then ([], 6) else if badB l ≠ 0 then ([], badB l) else if totalB 0 l > 16777216 then ([], 13) else if twB [] l 0 ≥ 0 then ([], 8) else (sortB l, 0)
theorem rnew_l0 (l : List ByteArray) (hl : l.length ≤ 65535) : ∀ (d i n : Nat), i + d = l.length → n ≤ i * 65535 →
    Ev (fun k => juratref10_New.l0 k l (n : Int) (i : Int)) (if badB (l.drop i) ≠ 0 then ([], badB (l.drop i)) else if totalB n (l.drop i) > 16777216 then ([], 13) else if twB [] l 0 ≥ 0 then ([], 8) else (sortB l, 0)) := by
  intro d
  induction d with
  | zero =>
    intro i n hi hn
    rw [List.drop_of_length_le (by omega), if_neg (by simp [badB])]
    have hn' : totalB n [] = n := rfl
    rw [hn']
    by_cases h1 : n > 16777216
    · rw [if_pos h1]
      refine Ev.ret fun k => ?_
      simp only [juratref10_New.l0]
      rw [if_neg (by omega), if_pos (by omega)]
    · rw [if_neg h1]
      refine Ev.step (f := fun k => (juratref09_Twice.f k l).bind fun t => if t ≥ 0 then some ([], 8) else (juratref09_Sorted.f k l).bind fun s => some (s, 0)) (fun k => ?_) ?_
      · simp only [juratref10_New.l0]
        rw [if_neg (by omega), if_neg (by omega)]
      refine Ev.bind (rtwice_ev l (by omega)) ?_
      by_cases h2 : twB [] l 0 ≥ 0
      · rw [if_pos h2]
        exact Ev.congr (fun k => if_pos h2) (Ev.now _)
      · rw [if_neg h2]
        exact Ev.congr (fun k => if_neg h2) (Ev.bind (rsorted_ev l (by omega)) (Ev.now _))
  | succ d ih =>
    intro i n hi hn
    have hd := getD_drop l i ByteArray.empty (by omega)
    have e : rdOf ByteArray.empty l (i : Int) = l.getD i ByteArray.empty := rfl
    rw [hd]
    generalize l.getD i ByteArray.empty = s at e
    by_cases h0 : s.size = 0
    · have hc : chkB s = 7 := by unfold chkB; rw [if_pos h0]
      have hb : badB (s :: l.drop (i + 1)) = chkB s := by show (if chkB s = 0 then _ else chkB s) = chkB s; rw [if_neg (by omega)]
      rw [hb, hc, if_pos (by omega)]
      refine Ev.ret fun k => ?_
      simp only [juratref10_New.l0]
      rw [if_pos (by omega), if_pos (by omega), e, if_pos (toList_nil.2 h0)]
    by_cases h1 : s.size > 65535
    · have hc : chkB s = 5 := by unfold chkB; rw [if_neg h0, if_pos h1]
      have hb : badB (s :: l.drop (i + 1)) = chkB s := by show (if chkB s = 0 then _ else chkB s) = chkB s; rw [if_neg (by omega)]
      rw [hb, hc, if_pos (by omega)]
      refine Ev.ret fun k => ?_
      simp only [juratref10_New.l0]
      rw [if_pos (by omega), if_pos (by omega), e, if_neg (fun x => h0 (toList_nil.1 x)), if_pos (by omega)]
    have hc : chkB s = 0 := by unfold chkB; rw [if_neg h0, if_neg h1]
    have hb : badB (s :: l.drop (i + 1)) = badB (l.drop (i + 1)) := if_pos hc
    rw [hb]
    have ht : totalB n (s :: l.drop (i + 1)) = totalB (n + s.size) (l.drop (i + 1)) := rfl
    rw [ht]
    refine Ev.step (f := fun k => juratref10_New.l0 k l ((n + s.size : Nat) : Int) ((i + 1 : Nat) : Int)) (fun k => ?_) (ih (i + 1) (n + s.size) (by omega) (by omega))
    simp only [juratref10_New.l0]
    rw [if_pos (by omega), if_pos (by omega), e, if_neg (fun x => h0 (toList_nil.1 x)), if_neg (by omega), wrap_id (by omega) (by omega), wrap_id (by omega) (by omega)]
    rfl
theorem rnew_ev (l : List ByteArray) : Ev (fun k => juratref10_New.f k l) (newB l) := by
  unfold newB
  by_cases h0 : l.length = 0
  · rw [if_pos h0]
    refine Ev.const fun k => ?_
    unfold juratref10_New.f
    rw [if_pos (by omega)]
  rw [if_neg h0]
  by_cases h1 : l.length > 65535
  · rw [if_pos h1]
    refine Ev.const fun k => ?_
    unfold juratref10_New.f
    rw [if_neg (by omega), if_pos (by omega)]
  rw [if_neg h1]
  have h := rnew_l0 l (by omega) l.length 0 0 (by omega) (by omega)
  rw [List.drop_zero] at h
  refine Ev.congr (fun k => ?_) h
  unfold juratref10_New.f
  rw [if_neg (by omega), if_neg (by omega)]
  rfl

/-- What the document tells of a list. -/
def minB (l : List ByteArray) : Nat := leastB (l.getD 0 ByteArray.empty).size l

end Go.Proofs.Ytpgmpdanplmpfaa.Base

/- What a set of patterns tells: its length, a pattern by its number, its three numbers; for every set, nil too. -/
namespace Go.Proofs.Ytpgmpdanplmpfaa.P
open Go Go.RowKit Go.Proofs.YtpgmpdanplmpfaaW.PrintWords

def pats_Set_Len.f (a0 : Option SetD) : Option Int := some (match a0 with | none => 0 | some d => (d.l.length : Int))
set_option maxHeartbeats 400000 in
theorem pats_Set_Len.calls (Pa0 : Option Addr) (a0 : Option SetD) (r : Int) (w : World) (ho : OB K42 w Pa0 a0) (h : pats_Set_Len.f a0 = some r) :
    Calls Try.prog 23 #[.pointer Pa0] w fun e w' => e = .returned (.int .i64 r) ∧ Drawn0 w w' := by
  obtain rfl := Option.some.inj h
  cases a0 with
  | none =>
    obtain rfl := OB.p_none ho
    clear ho h
    go_enter Try.func23, Try.ntmps23
    go_wp2
    go_ret
    exact ⟨rfl, Drawn0.refl _⟩
  | some d =>
    obtain ⟨a, rfl⟩ := OB.p_some ho
    obtain ⟨b, A, c, rfl, h0, h1, h2, h3, hl, hc⟩ := OB.at ho
    clear ho h
    go_enter Try.func23, Try.ntmps23
    go_wp2
    go_ret
    exact ⟨rfl, Drawn0.refl _⟩

def pats_Set_Least.f (a0 : Option SetD) : Option Int := some (match a0 with | none => 0 | some d => d.least)



end Go.Proofs.Ytpgmpdanplmpfaa.P

/- What a set of patterns tells: its list, and a pattern's number; for every set, nil too. -/
namespace Go.Proofs.Ytpgmpdanplmpfaa.P
open Go Go.RowKit Go.Proofs.YtpgmpdanplmpfaaW.PrintWords Go.Proofs.Ytpgmpdanplmpfaa.Base

def pats_Set_List.f (a0 : Option SetD) : Option (List ByteArray) := match a0 with | none => some [] | some d => if d.l.length ≤ 8796093022208 then some d.l else none
set_option maxHeartbeats 800000 in
theorem pats_Set_List.calls (Pa0 : Option Addr) (a0 : Option SetD) (r : List ByteArray) (w : World) (ho : OB K42 w Pa0 a0) (h : pats_Set_List.f a0 = some r) :
    Calls Try.prog 15 #[.pointer Pa0] w fun e w' => ∃ v0_ : Value, e = .returned v0_ ∧ Kd.R Kd.string 9 w' w.heap.size (fun _ => True) v0_ r ∧ Below w.heap.size w w' := by
  cases a0 with
  | none =>
    obtain rfl := OB.p_none ho
    obtain rfl := Option.some.inj h
    clear ho h
    go_enter Try.func15, Try.ntmps15
    go_wp2
    go_ret
    exact ⟨_, rfl, Kd.R_nil _ _ _ _ _, Below.refl _ _⟩
  | some d =>
    obtain ⟨a, rfl⟩ := OB.p_some ho
    obtain ⟨b, A, c, rfl, h0, h1, h2, h3, hl, hc⟩ := OB.at ho
    simp only [pats_Set_List.f] at h
    by_cases hs : d.l.length ≤ 8796093022208
    · rw [if_pos hs] at h
      obtain rfl := Option.some.inj h
      have hC := clone_row (c0 := c) hc hs
      clear ho h h1 h2 h3 hl hc hs
      go_enter Try.func15, Try.ntmps15
      go_wp2_with (go_at_call 34; refine hC.mono ?_; rintro e w1 ⟨v, rfl, hown, hb⟩; have hO := Aside0.mk hown; have hB := Aside0.mk hb; clear hown hb)
      go_ret
      exact ⟨v, rfl, Kd.R_of_own hO.out (fun _ _ => trivial), hB.out⟩
    · rw [if_neg hs] at h
      cases h

end Go.Proofs.Ytpgmpdanplmpfaa.P

/- What layer 10's reference computes, as plain functions on lists of texts, and that layer 10's set is it; no condition beyond the sizes that stand in each statement. -/
namespace Go.Proofs.Ytpgmpdanplmpfaa.Base
open Go Go.RowKit Go.Proofs.YtpgmpdanplmpfaaW.PrintWords Go.Proofs.YtpgmpdanplmpfaaW.PrintMore Go.Proofs.Ytpgmpdanplmpfaa.P
set_option linter.unusedVariables false

/-- Where a text stands first; -1: nowhere. -/
def findB (s : ByteArray) : List ByteArray → Nat → Int
  | [], _ => -1
  | x :: l, i => if x = s then (i : Int) else findB s l (i + 1)

end Go.Proofs.Ytpgmpdanplmpfaa.Base

/- What is told of a set of patterns, of the list in order and of the list as it came; layer 10's examples; no condition beyond the sizes that stand in each statement. -/
namespace Go.Proofs.Ytpgmpdanplmpfaa.Base
open Go Go.RowKit Go.Proofs.YtpgmpdanplmpfaaW.PrintWords Go.Proofs.YtpgmpdanplmpfaaW.PrintMore Go.Proofs.Ytpgmpdanplmpfaa.P
set_option linter.unusedVariables false

theorem findB_up (s : ByteArray) : ∀ (l : List ByteArray) (i : Nat), upB l → findB s l i = if inB s l = true then ((i + aheadB s l : Nat) : Int) else -1
  | [], i, _ => rfl
  | x :: l, i, h => by
    obtain ⟨h1, h2⟩ := List.pairwise_cons.1 h
    have ih := findB_up s l (i + 1) h2
    have ef : findB s (x :: l) i = if x = s then (i : Int) else findB s l (i + 1) := rfl
    rw [ef]
    by_cases hx : x = s
    · subst hx
      rw [if_pos rfl, if_pos (inB_iff.2 List.mem_cons_self), aheadB_none x (x :: l) (fun y hy => by
        rcases List.mem_cons.1 hy with rfl | hy
        · exact bl_irrefl _
        · exact h1 y hy)]
      rfl
    · rw [if_neg hx, inB_cons, decide_eq_false hx, Bool.false_or, ih]
      cases hb : Op.bytesLess (LL x) (LL s) with
      | true =>
        have e : aheadB s (x :: l) = aheadB s l + 1 := by unfold aheadB; rw [List.countP_cons_of_pos (by simpa using hb)]
        rw [e, show i + 1 + aheadB s l = i + (aheadB s l + 1) by omega]
      | false =>
        have hn : ¬ inB s l = true := fun hi => by
          rcases bl_tri (LL x) (LL s) with h' | h' | h'
          · exact hx (LL_inj h')
          · rw [hb] at h'; cases h'
          · rw [h1 s (inB_iff.1 hi)] at h'; cases h'
        rw [if_neg hn, if_neg hn]
theorem fold_perm {β : Type} (f : β → ByteArray → β) (hc : ∀ a x y, f (f a x) y = f (f a y) x) {l m : List ByteArray} (h : l.Perm m) : ∀ a, l.foldl f a = m.foldl f a := by
  induction h with
  | nil => intro a; rfl
  | cons x _ ih => intro a; exact ih _
  | swap x y l => intro a; simp only [List.foldl_cons]; rw [hc]
  | trans _ _ ih1 ih2 => intro a; rw [ih1, ih2]
theorem total_perm {l m : List ByteArray} (h : l.Perm m) : totalB 0 l = totalB 0 m := fold_perm _ (fun a x y => by omega) h 0
theorem most_perm {l m : List ByteArray} (h : l.Perm m) : mostB 0 l = mostB 0 m := fold_perm _ (fun a x y => by omega) h 0
theorem least_spec : ∀ (l : List ByteArray) (a : Nat), leastB a l ≤ a ∧ (∀ s ∈ l, leastB a l ≤ s.size) ∧ (leastB a l = a ∨ ∃ s ∈ l, leastB a l = s.size)
  | [], a => ⟨Nat.le_refl _, by simp, .inl rfl⟩
  | x :: l, a => by
    obtain ⟨h1, h2, h3⟩ := least_spec l (min a x.size)
    have e : leastB a (x :: l) = leastB (min a x.size) l := rfl
    rw [e]
    refine ⟨by omega, fun s hs => ?_, ?_⟩
    · rcases List.mem_cons.1 hs with rfl | hs
      · omega
      · exact h2 s hs
    · rcases h3 with h3 | ⟨s, hs, h3⟩
      · by_cases ha : a ≤ x.size
        · left; omega
        · right; exact ⟨x, List.mem_cons_self, by omega⟩
      · right; exact ⟨s, List.mem_cons_of_mem _ hs, h3⟩
theorem min_spec (l : List ByteArray) (h : 0 < l.length) : (∀ s ∈ l, minB l ≤ s.size) ∧ ∃ s ∈ l, minB l = s.size := by
  obtain ⟨h1, h2, h3⟩ := least_spec l (l.getD 0 ByteArray.empty).size
  refine ⟨h2, ?_⟩
  rcases h3 with h3 | h3
  · exact ⟨_, getD_mem l 0 ByteArray.empty h, h3⟩
  · exact h3
theorem min_perm {l m : List ByteArray} (h : l.Perm m) (h0 : 0 < l.length) : minB l = minB m := by
  obtain ⟨a1, s, hs, a2⟩ := min_spec l h0
  obtain ⟨b1, t, ht, b2⟩ := min_spec m (by rw [← h.length_eq]; exact h0)
  have := a1 t (h.mem_iff.2 ht)
  have := b1 s (h.mem_iff.1 hs)
  omega

/-- A set that is made of texts. -/
def setB (l : List ByteArray) : SetD := ⟨sortB l, (minB l : Nat), (mostB 0 l : Nat), (totalB 0 l : Nat)⟩
theorem new_cases (l : List ByteArray) :
    (∃ e, e ≠ 0 ∧ pats_New.f l = some (none, e) ∧ newB l = ([], e)) ∨
    (pats_New.f l = some (some (setB l), 0) ∧ newB l = (sortB l, 0) ∧ 0 < l.length ∧ l.length ≤ 65535 ∧ badB l = 0 ∧ totalB 0 l ≤ 16777216 ∧ twB [] l 0 < 0) := by
  unfold pats_New.f newB
  by_cases h0 : l.length = 0
  · exact .inl ⟨14, by decide, by rw [if_pos h0], by rw [if_pos h0]⟩
  by_cases h1 : l.length > 65535
  · exact .inl ⟨6, by decide, by rw [if_neg h0, if_pos h1], by rw [if_neg h0, if_pos h1]⟩
  by_cases h2 : badB l ≠ 0
  · exact .inl ⟨_, h2, by rw [if_neg h0, if_neg h1, if_pos h2], by rw [if_neg h0, if_neg h1, if_pos h2]⟩
  by_cases h3 : totalB 0 l > 16777216
  · exact .inl ⟨13, by decide, by rw [if_neg h0, if_neg h1, if_neg h2, if_pos h3], by rw [if_neg h0, if_neg h1, if_neg h2, if_pos h3]⟩
  by_cases h4 : twB [] l 0 ≥ 0
  · exact .inl ⟨8, by decide, by rw [if_neg h0, if_neg h1, if_neg h2, if_neg h3, if_pos h4], by rw [if_neg h0, if_neg h1, if_neg h2, if_neg h3, if_pos h4]⟩
  refine .inr ⟨by rw [if_neg h0, if_neg h1, if_neg h2, if_neg h3, if_neg h4]; rfl, by rw [if_neg h0, if_neg h1, if_neg h2, if_neg h3, if_neg h4], by omega, by omega, Classical.not_not.1 h2, by omega, by omega⟩


end Go.Proofs.Ytpgmpdanplmpfaa.Base

/- Sets of the same patterns are one, in whatever order these come; a pattern is found by its number; no condition beyond the sizes that stand in each statement. -/
namespace Go.Proofs.Ytpgmpdanplmpfaa.Base
open Go Go.RowKit Go.Proofs.YtpgmpdanplmpfaaW.PrintWords Go.Proofs.YtpgmpdanplmpfaaW.PrintLast Go.Proofs.YtpgmpdanplmpfaaW.PrintMore Go.Proofs.Ytpgmpdanplmpfaa.P
set_option linter.unusedVariables false

theorem twB_iff : ∀ (l seen : List ByteArray) (i : Nat), twB seen l i < 0 ↔ (l.Nodup ∧ ∀ x ∈ l, ¬ inB x seen = true)
  | [], seen, i => by simp [twB]
  | x :: l, seen, i => by
    simp only [twB]
    by_cases h : inB x seen = true
    · rw [if_pos h]
      constructor
      · intro h'; omega
      · rintro ⟨_, h'⟩; exact absurd h (h' x List.mem_cons_self)
    · rw [if_neg h, twB_iff l (seen ++ [x]) (i + 1), List.nodup_cons]
      constructor
      · rintro ⟨h1, h2⟩
        refine ⟨⟨fun hx => ?_, h1⟩, fun y hy => ?_⟩
        · have := h2 x hx
          rw [inB_snoc] at this
          simp at this
        · rcases List.mem_cons.1 hy with rfl | hy
          · exact h
          · have := h2 y hy
            rw [inB_snoc] at this
            intro h3
            rw [h3] at this
            simp at this
      · rintro ⟨⟨h1, h2⟩, h3⟩
        refine ⟨h2, fun y hy => ?_⟩
        rw [inB_snoc]
        intro h4
        rcases Bool.or_eq_true_iff.1 h4 with h4 | h4
        · exact h3 y (List.mem_cons_of_mem _ hy) h4
        · exact h1 (by rw [of_decide_eq_true h4]; exact hy)
theorem nodup_of_tw {l : List ByteArray} (h : twB [] l 0 < 0) : l.Nodup := ((twB_iff l [] 0).1 h).1
theorem tw_of_nodup {l : List ByteArray} (h : l.Nodup) : twB [] l 0 < 0 := (twB_iff l [] 0).2 ⟨h, fun x _ => by simp [inB]⟩
theorem badB_iff : ∀ (l : List ByteArray), badB l = 0 ↔ ∀ s ∈ l, chkB s = 0
  | [] => by simp [badB]
  | s :: l => by
    simp only [badB]
    by_cases h : chkB s = 0
    · rw [if_pos h, badB_iff l]
      simp [h]
    · rw [if_neg h]
      simp [h]
theorem setB_perm {l m : List ByteArray} (h : l.Perm m) (h0 : 0 < l.length) : setB l = setB m := by
  have e : sortB l = sortB m := sortB_of ((sortB_perm l).trans h) (sortB_up l)
  unfold setB
  rw [e, min_perm h h0, most_perm h, total_perm h]
/-- Texts that make a set make it in any order. -/
theorem new_perm {l m : List ByteArray} (h : l.Perm m) (hp : 0 < l.length) (h1 : l.length ≤ 65535) (h2 : badB l = 0) (h3 : totalB 0 l ≤ 16777216) (h4 : twB [] l 0 < 0) :
    pats_New.f m = some (some (setB l), 0) := by
  have e := h.length_eq
  rcases new_cases m with ⟨c, hc, hn, hw⟩ | ⟨hn, _⟩
  · exfalso
    unfold pats_New.f at hn
    have b2 : badB m = 0 := (badB_iff m).2 fun s hs => (badB_iff l).1 h2 s (h.mem_iff.2 hs)
    have b4 := tw_of_nodup ((h.nodup_iff).1 (nodup_of_tw h4))
    rw [if_neg (by omega), if_neg (by omega), if_neg (by rw [b2]; simp), if_neg (by rw [← total_perm h]; omega), if_neg (by omega)] at hn
    have := (Prod.mk.inj (Option.some.inj hn)).1
    cases this
  · rw [hn, setB_perm h hp]
theorem findB_mem (s : ByteArray) : ∀ (l : List ByteArray) (i : Nat), s ∈ l → ∃ n, findB s l i = ((i + n : Nat) : Int) ∧ n < l.length ∧ l.getD n ByteArray.empty = s
  | [], i, h => by cases h
  | x :: l, i, h => by
    have ef : findB s (x :: l) i = if x = s then (i : Int) else findB s l (i + 1) := rfl
    rw [ef]
    by_cases hx : x = s
    · rw [if_pos hx]
      exact ⟨0, rfl, by simp, by simpa using hx⟩
    · rw [if_neg hx]
      rcases List.mem_cons.1 h with rfl | h
      · exact absurd rfl hx
      · obtain ⟨n, h1, h2, h3⟩ := findB_mem s l (i + 1) h
        exact ⟨n + 1, by rw [h1]; congr 1; omega, by rw [List.length_cons]; omega, by rw [List.getD_cons_succ]; exact h3⟩
theorem list_is (l : List ByteArray) (h : l.length ≤ 65535) : pats_Set_List.f (some (setB l)) = some (sortB l) := by
  show (if (sortB l).length ≤ 8796093022208 then some (sortB l) else none) = _
  rw [if_pos (by rw [sortB_length]; omega)]
end Go.Proofs.Ytpgmpdanplmpfaa.Base

/- A set of texts and its list, made or not, told together; no condition beyond the sizes that stand in each statement. -/
namespace Go.Proofs.Ytpgmpdanplmpfaa.Base
open Go Go.RowKit Go.Proofs.YtpgmpdanplmpfaaW.PrintWords Go.Proofs.YtpgmpdanplmpfaaW.PrintMore Go.Proofs.Ytpgmpdanplmpfaa.P
set_option linter.unusedVariables false

/-- What is made of texts: a set or none, its list, why there is none. -/
structure SetOk (l : List ByteArray) (x : Option SetD) (w : List ByteArray) (e : Int) : Prop where
  hn : pats_New.f l = some (x, e)
  hw : newB l = (w, e)
  hL : setL x = w
  hM : setM x = minB w
  mem : ∀ s ∈ w, s ∈ l
  len : w.length ≤ l.length
  few : w.length ≤ 65535
  size : ∀ s ∈ w, s.size ≤ 65535
  up : upB w
  pos : ∀ s ∈ w, 0 < s.size
  nodup : w.Nodup
  kind : (e = 0 ∧ 0 < w.length ∧ x = some (setB l) ∧ w = sortB l ∧ w.length = l.length) ∨ (e ≠ 0 ∧ x = none ∧ w = [])
theorem chkB_pos {s : ByteArray} (h : chkB s = 0) : 0 < s.size ∧ s.size ≤ 65535 := by
  unfold chkB at h
  by_cases h1 : s.size = 0
  · rw [if_pos h1] at h; omega
  · rw [if_neg h1] at h
    by_cases h2 : s.size > 65535
    · rw [if_pos h2] at h; omega
    · omega
theorem set_ok (l : List ByteArray) : ∃ x w e, SetOk l x w e := by
  rcases new_cases l with ⟨e, he, hn, hw⟩ | ⟨hn, hw, hp, hl, hb, ht, hd⟩
  · exact ⟨none, [], e, hn, hw, rfl, rfl, by simp, by simp, by simp, by simp, List.Pairwise.nil, by simp, List.nodup_nil, .inr ⟨he, rfl, rfl⟩⟩
  · have hm := fun s => (sortB_perm l).mem_iff (a := s)
    have hlen := sortB_length l
    refine ⟨some (setB l), sortB l, 0, hn, hw, rfl, ?_, fun s hs => (hm s).1 hs, by omega, by omega, fun s hs => (chkB_pos ((badB_iff l).1 hb s ((hm s).1 hs))).2, sortB_up l, fun s hs => (chkB_pos ((badB_iff l).1 hb s ((hm s).1 hs))).1, ((sortB_perm l).nodup_iff).2 (nodup_of_tw hd), .inl ⟨rfl, by omega, rfl, rfl, by omega⟩⟩
    show ((minB l : Nat) : Int) = _
    rw [min_perm (sortB_perm l).symm hp]
theorem min_le {w : List ByteArray} : ∀ s ∈ w, minB w ≤ s.size := fun s hs => (min_spec w (List.length_pos_of_mem hs)).1 s hs
theorem list_ok {l w : List ByteArray} {x : Option SetD} {e : Int} (h : SetOk l x w e) : pats_Set_List.f x = some w := by
  rcases h.kind with ⟨_, _, rfl, rfl, _⟩ | ⟨_, rfl, rfl⟩
  · exact list_is l (by have := h.few; rw [sortB_length] at this; exact this)
  · rfl
theorem rnew_ok {l w : List ByteArray} {x : Option SetD} {e : Int} (h : SetOk l x w e) : Ev (fun k => juratref10_New.f k l) (w, e) := by
  have := rnew_ev l
  rw [h.hw] at this
  exact this

end Go.Proofs.Ytpgmpdanplmpfaa.Base

/- A book in plain Lean: patterns in order as bytes, each by what it has in common with the one ahead; what is put is taken again, and what is taken is what was put; no program in sight. -/
namespace Go.Proofs.Ytpgmpdanplmpfaa.Base
open Go Go.RowKit Go.Proofs.YtpgmpdanplmpfaaW.PrintWords Go.Proofs.YtpgmpdanplmpfaaW.PrintLast Go.Proofs.YtpgmpdanplmpfaaW.PrintMore Go.Proofs.Ytpgmpdanplmpfaa.P
set_option linter.unusedVariables false

theorem bl_iff : ∀ x y : List UInt8, Op.bytesLess x y = true ↔ pre x y < y.length ∧ (pre x y = x.length ∨ (pre x y < x.length ∧ (x.getD (pre x y) 0).toNat < (y.getD (pre x y) 0).toNat))
  | x, [] => by
    constructor
    · intro h; cases x <;> simp [Op.bytesLess] at h
    · rintro ⟨h, _⟩; simp at h
  | [], b :: y => by simp [Op.bytesLess, pre]
  | a :: x, b :: y => by
    have ih := bl_iff x y
    by_cases h : a = b
    · subst h
      have e : Op.bytesLess (a :: x) (a :: y) = Op.bytesLess x y := by simp [Op.bytesLess, UInt8.lt_irrefl]
      rw [e, ih]
      simp only [pre, if_true, List.length_cons, Nat.add_lt_add_iff_right, Nat.add_right_cancel_iff, List.getD_cons_succ]
    · simp only [pre, if_neg h, List.length_cons, List.getD_cons_zero]
      simp only [Op.bytesLess, Bool.or_eq_true, Bool.and_eq_true, decide_eq_true_eq, beq_iff_eq, h, false_and, or_false, UInt8.lt_iff_toNat_lt]
      constructor
      · intro g; exact ⟨by omega, .inr ⟨by omega, g⟩⟩
      · rintro ⟨_, g | g⟩
        · omega
        · exact g.2
theorem pre_take : ∀ x y : List UInt8, x.take (pre x y) = y.take (pre x y)
  | [], y => by simp [pre]
  | _ :: _, [] => by simp [pre]
  | a :: x, b :: y => by
    simp only [pre]
    split
    · rename_i h
      rw [List.take_succ_cons, List.take_succ_cons, h, pre_take x y]
    · rfl
theorem pre_is : ∀ (x y : List UInt8) (k : Nat), k ≤ x.length → x.take k = y.take k → k ≤ y.length → (k = x.length ∨ k = y.length ∨ (x.getD k 0) ≠ (y.getD k 0)) → pre x y = k
  | [], y, k, h1, _, _, _ => by simp at h1; subst h1; simp [pre]
  | a :: x, [], k, _, _, h3, _ => by simp at h3; subst h3; simp [pre]
  | a :: x, b :: y, 0, h1, h2, h3, h4 => by
    simp only [List.getD_cons_zero, List.length_cons] at h4
    rcases h4 with h | h | h
    · omega
    · omega
    · simp [pre, h]
  | a :: x, b :: y, k + 1, h1, h2, h3, h4 => by
    rw [List.take_succ_cons, List.take_succ_cons] at h2
    obtain ⟨e1, e2⟩ := List.cons.inj h2
    simp only [List.getD_cons_succ, List.length_cons, Nat.add_right_cancel_iff] at h4 h1 h3
    have := pre_is x y k (by omega) e2 (by omega) h4
    simp [pre, e1, this]
/-- One pattern, behind one. -/
def bkRow (a s : List UInt8) : List UInt8 := vputL (pre a s) ++ (vputL (s.length - pre a s) ++ s.drop (pre a s))
def bkRows : List UInt8 → List (List UInt8) → List UInt8
  | _, [] => []
  | a, s :: l => bkRow a s ++ bkRows s l
/-- What is wrong with both numbers of a pattern first. -/
def lenE (a b ahead total left : Int) : Int := if a > ahead then 3 else if b = 0 ∧ a = 0 then 7 else if b = 0 then 9 else if b > 65535 - a then 5 else if a + b > 16777216 - total then 13 else if b > left then 4 else 0
abbrev takeN (l : List UInt8) : Int × Int × Int := takeL 5 4 3 l
/-- The next pattern, or what is wrong; and what is left. -/
def tkRow (ahead : List UInt8) (total : Nat) (rest : List UInt8) : Int × List UInt8 × List UInt8 :=
  if (takeN rest).2.2 ≠ 0 then ((takeN rest).2.2, [], []) else
  if (takeN (rest.drop (takeN rest).2.1.toNat)).2.2 ≠ 0 then ((takeN (rest.drop (takeN rest).2.1.toNat)).2.2, [], []) else
  if lenE (takeN rest).1 (takeN (rest.drop (takeN rest).2.1.toNat)).1 ahead.length total ((rest.drop (takeN rest).2.1.toNat).drop (takeN (rest.drop (takeN rest).2.1.toNat)).2.1.toNat).length ≠ 0 then
    (lenE (takeN rest).1 (takeN (rest.drop (takeN rest).2.1.toNat)).1 ahead.length total ((rest.drop (takeN rest).2.1.toNat).drop (takeN (rest.drop (takeN rest).2.1.toNat)).2.1.toNat).length, [], []) else
  if (takeN rest).1.toNat < ahead.length ∧ ((rest.drop (takeN rest).2.1.toNat).drop (takeN (rest.drop (takeN rest).2.1.toNat)).2.1.toNat).getD 0 0 = ahead.getD (takeN rest).1.toNat 0 then (3, [], []) else
  if (takeN rest).1.toNat < ahead.length ∧ (((rest.drop (takeN rest).2.1.toNat).drop (takeN (rest.drop (takeN rest).2.1.toNat)).2.1.toNat).getD 0 0).toNat < (ahead.getD (takeN rest).1.toNat 0).toNat then (9, [], []) else
  (0, ahead.take (takeN rest).1.toNat ++ ((rest.drop (takeN rest).2.1.toNat).drop (takeN (rest.drop (takeN rest).2.1.toNat)).2.1.toNat).take (takeN (rest.drop (takeN rest).2.1.toNat)).1.toNat,
    ((rest.drop (takeN rest).2.1.toNat).drop (takeN (rest.drop (takeN rest).2.1.toNat)).2.1.toNat).drop (takeN (rest.drop (takeN rest).2.1.toNat)).1.toNat)
theorem tkRow_of {ahead rest r2 : List UInt8} {total a b i k : Nat} (h1 : takeN rest = ((a : Int), (i : Int), 0)) (h2 : takeN (rest.drop i) = ((b : Int), (k : Int), 0)) (h3 : (rest.drop i).drop k = r2) :
    tkRow ahead total rest = if lenE a b ahead.length total r2.length ≠ 0 then (lenE a b ahead.length total r2.length, [], []) else if a < ahead.length ∧ r2.getD 0 0 = ahead.getD a 0 then (3, [], []) else if a < ahead.length ∧ (r2.getD 0 0).toNat < (ahead.getD a 0).toNat then (9, [], []) else (0, ahead.take a ++ r2.take b, r2.drop b) := by
  unfold tkRow
  rw [h1]
  simp only [Int.toNat_natCast]
  rw [h2]
  simp only [Int.toNat_natCast, h3]
  rw [if_neg (by decide), if_neg (by decide)]
/-- What is put is taken. -/
theorem row_put (a s tail : List UInt8) (total : Nat) (h : Op.bytesLess a s = true) (hs : s.length ≤ 65535) (ht : total + s.length ≤ 16777216) : tkRow a total (bkRow a s ++ tail) = (0, s, tail) := by
  obtain ⟨g1, g2⟩ := (bl_iff a s).1 h
  obtain ⟨p1, p2⟩ := pre_le a s
  have hpt := pre_take a s
  unfold bkRow
  generalize pre a s = k at *
  obtain ⟨m, hm⟩ : ∃ m, s.length - k = m := ⟨_, rfl⟩
  rw [hm]
  have hk : k < 128 ^ 9 := Nat.lt_of_le_of_lt (Nat.le_trans p2 hs) (by decide)
  have hmb : m < 128 ^ 9 := Nat.lt_of_le_of_lt (show m ≤ 65535 by omega) (by decide)
  have h1 : takeN (vputL k ++ (vputL m ++ s.drop k) ++ tail) = ((k : Int), ((vputL k).length : Int), 0) := by rw [List.append_assoc]; exact take_vput 5 4 3 k hk _
  have d1 : (vputL k ++ (vputL m ++ s.drop k) ++ tail).drop (vputL k).length = vputL m ++ (s.drop k ++ tail) := by rw [List.append_assoc, List.drop_left, List.append_assoc]
  have h2 : takeN ((vputL k ++ (vputL m ++ s.drop k) ++ tail).drop (vputL k).length) = ((m : Int), ((vputL m).length : Int), 0) := by rw [d1]; exact take_vput 5 4 3 m hmb _
  have h3 : ((vputL k ++ (vputL m ++ s.drop k) ++ tail).drop (vputL k).length).drop (vputL m).length = s.drop k ++ tail := by rw [d1, List.drop_left]
  rw [tkRow_of h1 h2 h3]
  have hl : (s.drop k).length = m := by rw [List.length_drop]; exact hm
  have e0 : lenE (k : Int) (m : Int) (a.length : Int) (total : Int) ((s.drop k ++ tail).length : Int) = 0 := by
    unfold lenE
    rw [List.length_append, hl, if_neg (by omega), if_neg (by omega), if_neg (by omega), if_neg (by omega), if_neg (by omega), if_neg (by omega)]
  have e1 : (s.drop k ++ tail).getD 0 0 = s.getD k 0 := by
    rw [List.getD_eq_getElem?_getD, List.getElem?_append_left (by omega), List.getElem?_drop, Nat.add_zero, List.getD_eq_getElem?_getD]
  have hgt : k < a.length → (a.getD k 0).toNat < (s.getD k 0).toNat := fun h => by
    rcases g2 with g | g
    · omega
    · exact g.2
  rw [e0, if_neg (by decide), e1, if_neg (by rintro ⟨q1, q2⟩; have := hgt q1; rw [q2] at this; omega), if_neg (by rintro ⟨q1, q2⟩; have := hgt q1; omega)]
  rw [hpt, List.take_left' hl, List.drop_left' hl, List.take_append_drop]
theorem lenE_zero {a b ahead total left : Nat} (h : lenE a b ahead total left = 0) : a ≤ ahead ∧ 0 < b ∧ a + b ≤ 65535 ∧ total + (a + b) ≤ 16777216 ∧ b ≤ left := by
  unfold lenE at h
  split at h
  · cases h
  split at h
  · cases h
  split at h
  · cases h
  split at h
  · cases h
  split at h
  · cases h
  split at h
  · cases h
  omega
/-- What is taken was put so. -/
theorem take_row {a rest s r' : List UInt8} {total : Nat} (h : tkRow a total rest = (0, s, r')) : rest = bkRow a s ++ r' ∧ Op.bytesLess a s = true ∧ s.length ≤ 65535 ∧ total + s.length ≤ 16777216 ∧ 0 < s.length := by
  obtain ⟨⟨n1, k1, e1⟩, h1⟩ : ∃ q, takeN rest = q := ⟨_, rfl⟩
  by_cases he1 : e1 = 0
  rotate_left
  · unfold tkRow at h
    rw [h1] at h
    simp only at h
    rw [if_pos he1] at h
    exact absurd (Prod.mk.inj h).1 he1
  subst he1
  obtain ⟨x, i, rfl, rfl, i1, i2, i3, i4, i5⟩ := put_take 5 4 3 rest n1 k1 (by decide) h1
  obtain ⟨⟨n2, k2, e2⟩, h2⟩ : ∃ q, takeN (rest.drop i) = q := ⟨_, rfl⟩
  by_cases he2 : e2 = 0
  rotate_left
  · unfold tkRow at h
    rw [h1] at h
    simp only [Int.toNat_natCast] at h
    rw [h2] at h
    simp only at h
    rw [if_neg (by decide), if_pos he2] at h
    exact absurd (Prod.mk.inj h).1 he2
  subst he2
  obtain ⟨y, j, rfl, rfl, j1, j2, j3, j4, j5⟩ := put_take 5 4 3 (rest.drop i) n2 k2 (by decide) h2
  rw [tkRow_of h1 h2 rfl] at h
  obtain ⟨r2, hr2⟩ : ∃ r2, (rest.drop i).drop j = r2 := ⟨_, rfl⟩
  rw [hr2] at h
  by_cases hz : lenE (x : Int) (y : Int) (a.length : Int) (total : Int) (r2.length : Int) = 0
  rotate_left
  · rw [if_pos hz] at h
    exact absurd (Prod.mk.inj h).1 hz
  rw [if_neg (by rw [hz]; decide)] at h
  obtain ⟨z1, z2, z3, z4, z5⟩ := lenE_zero hz
  by_cases q1 : x < a.length ∧ r2.getD 0 0 = a.getD x 0
  · rw [if_pos q1] at h
    exact absurd (Prod.mk.inj h).1 (by decide)
  rw [if_neg q1] at h
  by_cases q2 : x < a.length ∧ (r2.getD 0 0).toNat < (a.getD x 0).toNat
  · rw [if_pos q2] at h
    exact absurd (Prod.mk.inj h).1 (by decide)
  rw [if_neg q2] at h
  obtain ⟨_, h⟩ := Prod.mk.inj h
  obtain ⟨hs, hr⟩ := Prod.mk.inj h
  have la : (a.take x).length = x := by rw [List.length_take]; omega
  have lb : (r2.take y).length = y := by rw [List.length_take]; omega
  have ls : s.length = x + y := by rw [← hs, List.length_append, la, lb]
  have hgx : s.getD x 0 = r2.getD 0 0 := by
    rw [← hs, List.getD_eq_getElem?_getD, List.getElem?_append_right (by omega), la, Nat.sub_self, List.getElem?_take, if_pos (by omega), List.getD_eq_getElem?_getD]
  have hst : s.take x = a.take x := by rw [← hs, List.take_left' la]
  have hsd : s.drop x = r2.take y := by rw [← hs, List.drop_left' la]
  have hne : x < a.length → (a.getD x 0).toNat < (s.getD x 0).toNat := fun hx => by
    rw [hgx]
    rcases Nat.lt_trichotomy (r2.getD 0 0).toNat (a.getD x 0).toNat with g | g | g
    · exact absurd ⟨hx, g⟩ q2
    · exact absurd ⟨hx, UInt8.toNat_inj.1 g⟩ q1
    · exact g
  have hp : pre a s = x := pre_is a s x z1 hst.symm (by omega) (by
    rcases Nat.lt_or_ge x a.length with g | g
    · right; right
      intro e
      have := hne g
      rw [e] at this
      omega
    · left; omega)
  refine ⟨?_, (bl_iff a s).2 (by rw [hp]; exact ⟨by omega, by
    rcases Nat.lt_or_ge x a.length with g | g
    · exact .inr ⟨g, hne g⟩
    · exact .inl (by omega)⟩), by omega, by omega, by omega⟩
  unfold bkRow
  rw [hp, ls, Nat.add_sub_cancel_left, hsd, ← hr, List.append_assoc, List.append_assoc, List.take_append_drop, ← i5, ← j5, ← hr2, List.take_append_drop, List.take_append_drop]
/-- So many patterns, or what is wrong. -/
def tkRows : Nat → List UInt8 → Nat → List UInt8 → Int × List (List UInt8) × List UInt8
  | 0, _, _, rest => (0, [], rest)
  | n + 1, a, total, rest =>
    if (tkRow a total rest).1 ≠ 0 then ((tkRow a total rest).1, [], []) else
    if (tkRows n (tkRow a total rest).2.1 (total + (tkRow a total rest).2.1.length) (tkRow a total rest).2.2).1 ≠ 0 then ((tkRows n (tkRow a total rest).2.1 (total + (tkRow a total rest).2.1.length) (tkRow a total rest).2.2).1, [], []) else
    (0, (tkRow a total rest).2.1 :: (tkRows n (tkRow a total rest).2.1 (total + (tkRow a total rest).2.1.length) (tkRow a total rest).2.2).2.1, (tkRows n (tkRow a total rest).2.1 (total + (tkRow a total rest).2.1.length) (tkRow a total rest).2.2).2.2)
/-- Texts that rise, are none of them too long, and not too much in all. -/
def riseL : List UInt8 → Nat → List (List UInt8) → Prop
  | _, _, [] => True
  | a, total, s :: l => Op.bytesLess a s = true ∧ s.length ≤ 65535 ∧ total + s.length ≤ 16777216 ∧ riseL s (total + s.length) l
theorem rows_put : ∀ (l : List (List UInt8)) (a : List UInt8) (total : Nat) (tail : List UInt8), riseL a total l → tkRows l.length a total (bkRows a l ++ tail) = (0, l, tail)
  | [], a, total, tail, _ => rfl
  | s :: l, a, total, tail, ⟨h1, h2, h3, h4⟩ => by
    have hr := row_put a s (bkRows s l ++ tail) total h1 h2 h3
    have ih := rows_put l s (total + s.length) tail h4
    have e : bkRows a (s :: l) ++ tail = bkRow a s ++ (bkRows s l ++ tail) := by simp only [bkRows]; rw [List.append_assoc]
    rw [e, List.length_cons]
    unfold tkRows
    rw [hr]
    simp only
    rw [ih, if_neg (fun h => h rfl), if_neg (fun h => h rfl)]
theorem take_rows : ∀ (n : Nat) (a : List UInt8) (total : Nat) (rest : List UInt8) (l : List (List UInt8)) (r' : List UInt8), tkRows n a total rest = (0, l, r') → rest = bkRows a l ++ r' ∧ l.length = n ∧ riseL a total l
  | 0, a, total, rest, l, r', h => by
    obtain ⟨_, h⟩ := Prod.mk.inj h
    obtain ⟨rfl, rfl⟩ := Prod.mk.inj h
    exact ⟨rfl, rfl, trivial⟩
  | n + 1, a, total, rest, l, r', h => by
    obtain ⟨⟨e1, s, r1⟩, h1⟩ : ∃ q, tkRow a total rest = q := ⟨_, rfl⟩
    unfold tkRows at h
    rw [h1] at h
    simp only at h
    by_cases he1 : e1 = 0
    rotate_left
    · rw [if_pos he1] at h
      exact absurd (Prod.mk.inj h).1 he1
    subst he1
    rw [if_neg (by decide)] at h
    obtain ⟨⟨e2, l2, r2⟩, h2⟩ : ∃ q, tkRows n s (total + s.length) r1 = q := ⟨_, rfl⟩
    rw [h2] at h
    simp only at h
    by_cases he2 : e2 = 0
    rotate_left
    · rw [if_pos he2] at h
      exact absurd (Prod.mk.inj h).1 he2
    subst he2
    rw [if_neg (by decide)] at h
    obtain ⟨_, h⟩ := Prod.mk.inj h
    obtain ⟨rfl, rfl⟩ := Prod.mk.inj h
    obtain ⟨g1, g2, g3, g4, g5⟩ := take_row h1
    obtain ⟨i1, i2, i3⟩ := take_rows n s (total + s.length) r1 l2 r2 h2
    refine ⟨?_, by rw [List.length_cons, i2], g2, g3, g4, i3⟩
    simp only [bkRows]
    rw [List.append_assoc, ← i1]
    exact g1
end Go.Proofs.Ytpgmpdanplmpfaa.Base

/- A book whole, in plain Lean: what is put is taken as the same patterns; what is taken was put so; what is cut off or longer is none; no program in sight. -/
namespace Go.Proofs.Ytpgmpdanplmpfaa.Base
open Go Go.RowKit Go.Proofs.YtpgmpdanplmpfaaW.PrintWords Go.Proofs.YtpgmpdanplmpfaaW.PrintLast Go.Proofs.YtpgmpdanplmpfaaW.PrintMore Go.Proofs.Ytpgmpdanplmpfaa.P
set_option linter.unusedVariables false

def headL : List UInt8 := [106, 117, 114, 97, 116, 1]
/-- The bytes of patterns in order. -/
def bkPut (l : List (List UInt8)) : List UInt8 := if l.length = 0 then [] else headL ++ (vputL l.length ++ bkRows [] l)
/-- The patterns of bytes, or what is wrong first. -/
def tkBook (s : List UInt8) : Int × List (List UInt8) :=
  if s.take 6 ≠ headL then (15, []) else
  if (takeN (s.drop 6)).2.2 ≠ 0 then ((takeN (s.drop 6)).2.2, []) else
  if (takeN (s.drop 6)).1 = 0 then (14, []) else
  if (takeN (s.drop 6)).1 > 65535 then (6, []) else
  if (tkRows (takeN (s.drop 6)).1.toNat [] 0 ((s.drop 6).drop (takeN (s.drop 6)).2.1.toNat)).1 ≠ 0 then ((tkRows (takeN (s.drop 6)).1.toNat [] 0 ((s.drop 6).drop (takeN (s.drop 6)).2.1.toNat)).1, []) else
  if (tkRows (takeN (s.drop 6)).1.toNat [] 0 ((s.drop 6).drop (takeN (s.drop 6)).2.1.toNat)).2.2 ≠ [] then (20, []) else
  (0, (tkRows (takeN (s.drop 6)).1.toNat [] 0 ((s.drop 6).drop (takeN (s.drop 6)).2.1.toNat)).2.1)
theorem tkBook_of {s : List UInt8} {n k : Nat} (h0 : s.take 6 = headL) (h1 : takeN (s.drop 6) = ((n : Int), (k : Int), 0)) :
    tkBook s = if n = 0 then (14, []) else if 65535 < n then (6, []) else if (tkRows n [] 0 ((s.drop 6).drop k)).1 ≠ 0 then ((tkRows n [] 0 ((s.drop 6).drop k)).1, []) else if (tkRows n [] 0 ((s.drop 6).drop k)).2.2 ≠ [] then (20, []) else (0, (tkRows n [] 0 ((s.drop 6).drop k)).2.1) := by
  unfold tkBook
  rw [if_neg (fun h => h h0), h1]
  simp only [Int.toNat_natCast]
  rw [if_neg (fun h => h rfl)]
  by_cases g : n = 0
  · rw [if_pos g, if_pos (by omega)]
  · rw [if_neg g, if_neg (by omega)]
    by_cases g2 : 65535 < n
    · rw [if_pos g2, if_pos (by omega)]
    · rw [if_neg g2, if_neg (by omega)]
theorem book_more {l : List (List UInt8)} (h : riseL [] 0 l) (h1 : 0 < l.length) (h2 : l.length ≤ 65535) (tail : List UInt8) : tkBook (bkPut l ++ tail) = if tail ≠ [] then (20, []) else (0, l) := by
  have e : bkPut l ++ tail = headL ++ (vputL l.length ++ (bkRows [] l ++ tail)) := by
    unfold bkPut
    rw [if_neg (by omega), List.append_assoc, List.append_assoc]
  have e0 : (bkPut l ++ tail).take 6 = headL := by rw [e]; exact List.take_left' rfl
  have e1 : (bkPut l ++ tail).drop 6 = vputL l.length ++ (bkRows [] l ++ tail) := by rw [e]; exact List.drop_left' rfl
  have ht : takeN ((bkPut l ++ tail).drop 6) = ((l.length : Int), ((vputL l.length).length : Int), 0) := by rw [e1]; exact take_vput 5 4 3 _ (Nat.lt_of_le_of_lt h2 (by decide)) _
  rw [tkBook_of e0 ht, if_neg (by omega), if_neg (by omega), e1, List.drop_left, rows_put l [] 0 tail h, if_neg (fun h => h rfl)]
theorem book_back {l : List (List UInt8)} (h : riseL [] 0 l) (h1 : 0 < l.length) (h2 : l.length ≤ 65535) : tkBook (bkPut l) = (0, l) := by
  have := book_more h h1 h2 []
  rw [List.append_nil, if_neg (fun h => h rfl)] at this
  exact this
theorem book_take {s : List UInt8} {l : List (List UInt8)} (h : tkBook s = (0, l)) : s = bkPut l ∧ riseL [] 0 l ∧ 0 < l.length ∧ l.length ≤ 65535 := by
  by_cases h0 : s.take 6 = headL
  rotate_left
  · unfold tkBook at h
    rw [if_pos h0] at h
    exact absurd (Prod.mk.inj h).1 (by decide)
  obtain ⟨⟨n, k, e⟩, h1⟩ : ∃ q, takeN (s.drop 6) = q := ⟨_, rfl⟩
  by_cases he : e = 0
  rotate_left
  · unfold tkBook at h
    rw [if_neg (fun g => g h0), h1] at h
    simp only at h
    rw [if_pos he] at h
    exact absurd (Prod.mk.inj h).1 he
  subst he
  obtain ⟨x, i, rfl, rfl, i1, i2, i3, i4, i5⟩ := put_take 5 4 3 (s.drop 6) n k (by decide) h1
  rw [tkBook_of h0 h1] at h
  by_cases g1 : x = 0
  · rw [if_pos g1] at h; exact absurd (Prod.mk.inj h).1 (by decide)
  rw [if_neg g1] at h
  by_cases g2 : 65535 < x
  · rw [if_pos g2] at h; exact absurd (Prod.mk.inj h).1 (by decide)
  rw [if_neg g2] at h
  obtain ⟨⟨e2, l2, r2⟩, h2⟩ : ∃ q, tkRows x [] 0 ((s.drop 6).drop i) = q := ⟨_, rfl⟩
  rw [h2] at h
  simp only at h
  by_cases he2 : e2 = 0
  rotate_left
  · rw [if_pos he2] at h; exact absurd (Prod.mk.inj h).1 he2
  subst he2
  rw [if_neg (fun g => g rfl)] at h
  by_cases hr : r2 = []
  rotate_left
  · rw [if_pos hr] at h; exact absurd (Prod.mk.inj h).1 (by decide)
  subst hr
  rw [if_neg (fun g => g rfl)] at h
  obtain ⟨_, rfl⟩ := Prod.mk.inj h
  obtain ⟨j1, j2, j3⟩ := take_rows x [] 0 _ l2 [] h2
  rw [List.append_nil] at j1
  refine ⟨?_, j3, by omega, by omega⟩
  unfold bkPut
  rw [if_neg (by omega), j2, ← i5, ← j1, List.take_append_drop, ← h0, List.take_append_drop]
/-- What is cut off: a number without its end is short. -/
theorem hiL_cut : ∀ (a : List UInt8) (c : Nat), hiL a + 1 = a.length → c < a.length → hiL (a.take c) = c
  | [], c, h, _ => by simp at h
  | b :: a, 0, h, _ => rfl
  | b :: a, c + 1, h, hc => by
    rw [List.length_cons] at h hc
    by_cases hb : 128 ≤ b.toNat
    · have e : hiL (b :: a) = hiL a + 1 := by simp only [hiL]; rw [if_pos hb]
      rw [e] at h
      rw [List.take_succ_cons]
      simp only [hiL]
      rw [if_pos hb, hiL_cut a c (by omega) (by omega)]
    · have e : hiL (b :: a) = 0 := by simp only [hiL]; rw [if_neg hb]
      rw [e] at h
      omega
theorem take_cut (n c : Nat) (h : n < 128 ^ 9) (hc : c < (vputL n).length) : takeN ((vputL n).take c) = (0, 0, 4) := by
  have hl := vputL_length n h
  have hv := (valL_vput 8 n h).2
  rw [← vputL_eq n h] at hv
  have e := hiL_cut (vputL n) c hv hc
  unfold takeN takeL
  rw [e, if_neg (by omega), if_pos (by rw [List.length_take]; omega)]
theorem take_cut_app (n c : Nat) (t : List UInt8) (h : n < 128 ^ 9) : (c < (vputL n).length ∧ takeN ((vputL n ++ t).take c) = (0, 0, 4)) ∨ ((vputL n).length ≤ c ∧ (vputL n ++ t).take c = vputL n ++ t.take (c - (vputL n).length)) := by
  rcases Nat.lt_or_ge c (vputL n).length with g | g
  · left
    refine ⟨g, ?_⟩
    rw [List.take_append_of_le_length (by omega)]
    exact take_cut n c h g
  · right
    refine ⟨g, ?_⟩
    rw [List.take_append, List.take_of_length_le g]
theorem row_cut (a s tail : List UInt8) (total c : Nat) (h : Op.bytesLess a s = true) (hs : s.length ≤ 65535) (ht : total + s.length ≤ 16777216) (hc : c < (bkRow a s).length) : tkRow a total ((bkRow a s ++ tail).take c) = (4, [], []) := by
  obtain ⟨g1, g2⟩ := (bl_iff a s).1 h
  obtain ⟨p1, p2⟩ := pre_le a s
  unfold bkRow at hc ⊢
  generalize pre a s = k at *
  obtain ⟨m, hm⟩ : ∃ m, s.length - k = m := ⟨_, rfl⟩
  rw [hm] at hc ⊢
  have hk : k < 128 ^ 9 := Nat.lt_of_le_of_lt (Nat.le_trans p2 hs) (by decide)
  have hmb : m < 128 ^ 9 := Nat.lt_of_le_of_lt (show m ≤ 65535 by omega) (by decide)
  have hl : (s.drop k).length = m := by rw [List.length_drop]; exact hm
  rw [List.length_append, List.length_append, hl] at hc
  have e0 : vputL k ++ (vputL m ++ s.drop k) ++ tail = vputL k ++ (vputL m ++ (s.drop k ++ tail)) := by rw [List.append_assoc, List.append_assoc]
  rw [e0]
  rcases take_cut_app k c (vputL m ++ (s.drop k ++ tail)) hk with ⟨_, q⟩ | ⟨q0, q⟩
  · unfold tkRow
    rw [q, if_pos (by decide)]
  · rw [q]
    have h1 : takeN (vputL k ++ (vputL m ++ (s.drop k ++ tail)).take (c - (vputL k).length)) = ((k : Int), ((vputL k).length : Int), 0) := take_vput 5 4 3 k hk _
    rcases take_cut_app m (c - (vputL k).length) (s.drop k ++ tail) hmb with ⟨_, r⟩ | ⟨r0, r⟩
    · unfold tkRow
      rw [h1]
      simp only [Int.toNat_natCast]
      rw [List.drop_left, r, if_neg (by decide), if_pos (by decide)]
    · have d1 : (vputL k ++ (vputL m ++ (s.drop k ++ tail)).take (c - (vputL k).length)).drop (vputL k).length = vputL m ++ (s.drop k ++ tail).take (c - (vputL k).length - (vputL m).length) := by rw [List.drop_left, r]
      have h2 : takeN ((vputL k ++ (vputL m ++ (s.drop k ++ tail)).take (c - (vputL k).length)).drop (vputL k).length) = ((m : Int), ((vputL m).length : Int), 0) := by rw [d1]; exact take_vput 5 4 3 m hmb _
      have h3 : ((vputL k ++ (vputL m ++ (s.drop k ++ tail)).take (c - (vputL k).length)).drop (vputL k).length).drop (vputL m).length = (s.drop k ++ tail).take (c - (vputL k).length - (vputL m).length) := by rw [d1, List.drop_left]
      rw [tkRow_of h1 h2 h3]
      have e1 : lenE (k : Int) (m : Int) (a.length : Int) (total : Int) ((((s.drop k ++ tail).take (c - (vputL k).length - (vputL m).length)).length : Nat) : Int) = 4 := by
        unfold lenE
        rw [if_neg (by omega), if_neg (by omega), if_neg (by omega), if_neg (by omega), if_neg (by omega), if_pos (by rw [List.length_take, List.length_append, hl]; omega)]
      rw [e1, if_pos (by decide)]
theorem rows_cut : ∀ (l : List (List UInt8)) (a : List UInt8) (total c : Nat), riseL a total l → c < (bkRows a l).length → tkRows l.length a total ((bkRows a l).take c) = (4, [], [])
  | [], a, total, c, _, hc => by simp [bkRows] at hc
  | s :: l, a, total, c, ⟨h1, h2, h3, h4⟩, hc => by
    simp only [bkRows] at hc ⊢
    rcases Nat.lt_or_ge c (bkRow a s).length with g | g
    · have hr := row_cut a s (bkRows s l) total c h1 h2 h3 g
      rw [List.length_cons]
      unfold tkRows
      rw [hr, if_pos (by decide)]
    · have e : (bkRow a s ++ bkRows s l).take c = bkRow a s ++ (bkRows s l).take (c - (bkRow a s).length) := by rw [List.take_append, List.take_of_length_le g]
      have hr := row_put a s ((bkRows s l).take (c - (bkRow a s).length)) total h1 h2 h3
      have ih := rows_cut l s (total + s.length) (c - (bkRow a s).length) h4 (by rw [List.length_append] at hc; omega)
      rw [e, List.length_cons]
      unfold tkRows
      rw [hr]
      simp only
      rw [ih, if_neg (fun h => h rfl), if_pos (by decide)]
theorem book_cut {l : List (List UInt8)} (h : riseL [] 0 l) (h1 : 0 < l.length) (h2 : l.length ≤ 65535) {c : Nat} (hc : c < (bkPut l).length) : tkBook ((bkPut l).take c) = (15, []) ∨ tkBook ((bkPut l).take c) = (4, []) := by
  have e : bkPut l = headL ++ (vputL l.length ++ bkRows [] l) := by unfold bkPut; rw [if_neg (by omega)]
  have hn : l.length < 128 ^ 9 := Nat.lt_of_le_of_lt h2 (by decide)
  have hh : headL.length = 6 := rfl
  rw [e] at hc ⊢
  rw [List.length_append, List.length_append, hh] at hc
  rcases Nat.lt_or_ge c 6 with g | g
  · left
    unfold tkBook
    rw [if_pos]
    intro q
    have := congrArg List.length q
    rw [List.length_take, List.length_take, hh] at this
    omega
  · right
    have e1 : (headL ++ (vputL l.length ++ bkRows [] l)).take c = headL ++ (vputL l.length ++ bkRows [] l).take (c - 6) := by rw [List.take_append, List.take_of_length_le (by rw [hh]; exact g), hh]
    rw [e1]
    have t0 : (headL ++ (vputL l.length ++ bkRows [] l).take (c - 6)).take 6 = headL := List.take_left' rfl
    have t1 : (headL ++ (vputL l.length ++ bkRows [] l).take (c - 6)).drop 6 = (vputL l.length ++ bkRows [] l).take (c - 6) := List.drop_left' rfl
    rcases take_cut_app l.length (c - 6) (bkRows [] l) hn with ⟨_, q⟩ | ⟨q0, q⟩
    · unfold tkBook
      rw [t0, t1, q, if_neg (fun h => h rfl), if_pos (by decide)]
    · rw [q] at t1 t0 ⊢
      have ht : takeN ((headL ++ (vputL l.length ++ (bkRows [] l).take (c - 6 - (vputL l.length).length))).drop 6) = ((l.length : Int), ((vputL l.length).length : Int), 0) := by rw [t1]; exact take_vput 5 4 3 _ hn _
      rw [tkBook_of t0 ht, if_neg (by omega), if_neg (by omega), t1, List.drop_left, rows_cut l [] 0 _ h (by omega), if_pos (by decide)]
end Go.Proofs.Ytpgmpdanplmpfaa.Base

/- A book's patterns and sets: a set's list rises, and patterns that rise make a set; no condition beyond the sizes that stand in each statement. -/
namespace Go.Proofs.Ytpgmpdanplmpfaa.Base
open Go Go.RowKit Go.Proofs.YtpgmpdanplmpfaaW.PrintWords Go.Proofs.YtpgmpdanplmpfaaW.PrintLast Go.Proofs.YtpgmpdanplmpfaaW.PrintMore Go.Proofs.Ytpgmpdanplmpfaa.P
set_option linter.unusedVariables false

def sumL : List (List UInt8) → Nat
  | [] => 0
  | s :: l => s.length + sumL l
theorem total_sum : ∀ (l : List ByteArray) (a : Nat), totalB a l = a + sumL (l.map LL)
  | [], a => rfl
  | s :: l, a => by
    have e : totalB a (s :: l) = totalB (a + s.size) l := rfl
    rw [e, total_sum l, List.map_cons]
    simp only [sumL]
    rw [LL_length]
    omega
theorem rise_of : ∀ (l : List (List UInt8)) (a : List UInt8) (total : Nat), (∀ s ∈ l, Op.bytesLess a s = true) → l.Pairwise (fun x y => Op.bytesLess x y = true) → (∀ s ∈ l, s.length ≤ 65535) → total + sumL l ≤ 16777216 → riseL a total l
  | [], a, total, _, _, _, _ => trivial
  | s :: l, a, total, h1, h2, h3, h4 => by
    simp only [sumL] at h4
    rw [List.pairwise_cons] at h2
    exact ⟨h1 s List.mem_cons_self, h3 s List.mem_cons_self, by omega, rise_of l s (total + s.length) h2.1 h2.2 (fun x hx => h3 x (List.mem_cons_of_mem _ hx)) (by omega)⟩
theorem of_rise : ∀ (l : List (List UInt8)) (a : List UInt8) (total : Nat), riseL a total l → (∀ s ∈ l, Op.bytesLess a s = true) ∧ l.Pairwise (fun x y => Op.bytesLess x y = true) ∧ (∀ s ∈ l, 0 < s.length ∧ s.length ≤ 65535) ∧ (l ≠ [] → total + sumL l ≤ 16777216)
  | [], a, total, _ => ⟨by simp, List.Pairwise.nil, by simp, fun h => absurd rfl h⟩
  | s :: l, a, total, ⟨h1, h2, h3, h4⟩ => by
    obtain ⟨i1, i2, i3, i4⟩ := of_rise l s (total + s.length) h4
    have hs : 0 < s.length := by have := ((bl_iff a s).1 h1).1; omega
    refine ⟨fun x hx => ?_, List.pairwise_cons.2 ⟨i1, i2⟩, fun x hx => ?_, fun _ => ?_⟩
    · rcases List.mem_cons.1 hx with rfl | hx
      · exact h1
      · exact bl_trans a s x h1 (i1 x hx)
    · rcases List.mem_cons.1 hx with rfl | hx
      · exact ⟨hs, h2⟩
      · exact i3 x hx
    · simp only [sumL]
      cases l with
      | nil => simp only [sumL]; omega
      | cons y l => have := i4 (by simp); omega
theorem bl_nil {s : List UInt8} (h : 0 < s.length) : Op.bytesLess [] s = true := by
  cases s with
  | nil => simp at h
  | cons c s => rfl
/-- A set's list rises. -/
theorem set_rise {l w : List ByteArray} {x : Option SetD} {e : Int} (h : SetOk l x w e) (he : e = 0) : riseL [] 0 (w.map LL) ∧ 0 < w.length := by
  rcases h.kind with ⟨_, h1, h2, h3, h4⟩ | ⟨h1, _⟩
  rotate_left
  · exact absurd he h1
  have ht : totalB 0 w ≤ 16777216 := by
    rcases new_cases l with ⟨e', he', hn, hw⟩ | ⟨hn, hw, hp, hl, hb, ht, hd⟩
    · rw [h.hn] at hn
      obtain ⟨_, q⟩ := Prod.mk.inj (Option.some.inj hn)
      exact absurd (q.symm.trans he) he'
    · rw [h3, total_perm (sortB_perm l)]
      exact ht
  rw [total_sum, Nat.zero_add] at ht
  refine ⟨rise_of _ _ _ (fun s hs => ?_) ?_ (fun s hs => ?_) (by omega), h1⟩
  · obtain ⟨t, ht, rfl⟩ := List.mem_map.1 hs
    exact bl_nil (by rw [LL_length]; exact h.pos t ht)
  · rw [List.pairwise_map]
    have hu := h.up
    have hn := h.nodup
    rw [List.nodup_iff_pairwise_ne] at hn
    refine (List.Pairwise.and hu hn).imp ?_
    rintro a b ⟨h1, h2⟩
    rcases bl_tri (LL a) (LL b) with g | g | g
    · exact absurd (LL_inj g) h2
    · exact g
    · rw [g] at h1; cases h1
  · obtain ⟨t, ht, rfl⟩ := List.mem_map.1 hs
    rw [LL_length]
    exact h.size t ht
/-- Patterns that rise make a set, with themselves as its list. -/
theorem rise_set {l : List ByteArray} (h : riseL [] 0 (l.map LL)) (h1 : 0 < l.length) (h2 : l.length ≤ 65535) : SetOk l (some (setB l)) l 0 := by
  obtain ⟨_, g2, g3, g4⟩ := of_rise _ _ _ h
  have ht := g4 (by intro e; rw [List.map_eq_nil_iff] at e; subst e; simp at h1)
  rw [List.pairwise_map] at g2
  have hup : upB l := g2.imp (fun h => bl_asym h)
  have hso : l = sortB l := sortB_of (List.Perm.refl _) hup
  have hnd : l.Nodup := by
    rw [List.nodup_iff_pairwise_ne]
    refine g2.imp ?_
    intro a b hab e
    exact bl_ne hab (by rw [e])
  have hb : badB l = 0 := (badB_iff l).2 (fun s hs => by
    have := g3 (LL s) (List.mem_map.2 ⟨s, hs, rfl⟩)
    rw [LL_length] at this
    unfold chkB
    rw [if_neg (by omega), if_neg (by omega)])
  have htw := tw_of_nodup hnd
  have htot : totalB 0 l ≤ 16777216 := by rw [total_sum]; omega
  have hw : newB l = (l, 0) := by
    unfold newB
    rw [if_neg (by omega), if_neg (by omega), if_neg (by rw [hb]; decide), if_neg (by omega), if_neg (by omega), ← hso]
  obtain ⟨x, w, e, hok⟩ := set_ok l
  have e1 := hok.hw
  rw [hw] at e1
  obtain ⟨rfl, rfl⟩ := Prod.mk.inj e1
  rcases hok.kind with ⟨_, _, rfl, _, _⟩ | ⟨q, _⟩
  · exact hok
  · exact absurd rfl q
end Go.Proofs.Ytpgmpdanplmpfaa.Base

/- A strings.Builder: WriteByte, and String, at this translation (after the kit's Derived/Shelf/Strings/BuilderK); no condition beyond those in each statement. -/
namespace Go.Proofs.Ytpgmpdanplmpfaa.P
open Go Go.RowKit Go.Proofs Go.Shelf Go.Proofs.YtpgmpdanplmpfaaW.PrintWords
set_option linter.unusedVariables false
set_option linter.unusedSimpArgs false

abbrev IsB (B b : Nat) (bs : List Value) (w : World) : Prop := Lib.IsBuilderF 48 5 B b bs w
theorem bld_size : (Try.prog.info? 48).map (·.size) = some 2 := by kernel_rfl
theorem bld_lies : liesAt Try.prog Try.prog.depth 48 (2 / Try.prog.cellsOf 48) 0 48 1 = true := by kernel_rfl
theorem bld_byte : (Try.prog.info? 5).map (fun i => (i.zero, i.size, i.bytes)) = some (some (.int .u8 0), 1, 1) := by kernel_rfl
set_option maxHeartbeats 1000000 in
set_option maxRecDepth 100000 in
theorem bld_check_used (b : Nat) (w : World) (h0 : w.cell? ⟨b, 0, none⟩ = some (.pointer (some ⟨b, 0, none⟩))) :
    Calls Try.prog 37 #[.pointer (some ⟨b, 0, none⟩)] w fun e w' => e = .returned (.tuple #[]) ∧ w' = w := by
  obtain ⟨j, hj, _⟩ := Option.map_eq_some_iff.1 bld_size
  go_enter Try.func37, Try.ntmps37
  go_wp2
  rw [Lib.run_neq_ptr_same w _ Try.underlying45 hj]
  go_wp2
  go_end0
  exact ⟨rfl, rfl⟩
set_option maxHeartbeats 1000000 in
set_option maxRecDepth 100000 in
theorem bld_check_fresh (b : Nat) (w : World) (h0 : w.cell? ⟨b, 0, none⟩ = some (.pointer none)) (hsh : w.shape? b = some (48, 2)) (hfz : w.frozen? ⟨b, 0, none⟩ = false) :
    Calls Try.prog 37 #[.pointer (some ⟨b, 0, none⟩)] w fun e w' => e = .returned (.tuple #[]) ∧ w' = w.setCell ⟨b, 0, none⟩ (.pointer (some ⟨b, 0, none⟩)) := by
  obtain ⟨j, hj, hjs⟩ := Option.map_eq_some_iff.1 bld_size
  go_enter Try.func37, Try.ntmps37
  go_wp2
  rw [Lib.run_to_unsafe w ⟨b, 0, none⟩ Try.underlying45 Try.underlying77 hj (by rw [hjs]; decide) hsh (Nat.zero_lt_succ 1)]
  simp only [Result.andThen]
  rw [Oper.upon_value]
  go_wp2
  rw [run_callFunc_extern Try.func43 (by kernel_rfl) (by kernel_rfl) (by kernel_rfl) (e := Extern.AbiNoEscape.same) (by kernel_rfl)]
  rw [Lib.run_noEscape]
  simp only [Result.andThen]
  rw [Oper.upon_value]
  go_wp2
  rw [Lib.run_from_unsafe w ⟨b, 0, none⟩ Try.underlying77 Try.underlying45 hj hsh bld_lies]
  simp only [Result.andThen]
  rw [Oper.upon_value]
  go_wp2
  go_end0
  exact ⟨rfl, rfl⟩
theorem bld_check (B b : Nat) (bs : List Value) (w : World) (h : IsB B b bs w) :
    Calls Try.prog 37 #[.pointer (some ⟨b, 0, none⟩)] w fun e w' => e = .returned (.tuple #[]) ∧ (Lib.BuilderAtF 48 5 B b (.pointer (some ⟨b, 0, none⟩)) bs w' ∧ Below B w w' ∧ Lib.OthersKept 5 (some b) w w') := by
  rcases h with h | h
  · refine (bld_check_fresh b w h.cell0 h.shape h.frozen0).mono ?_
    rintro e w' ⟨rfl, rfl⟩
    exact ⟨rfl, h.used _, (Below.refl B w).setCell (p := ⟨b, 0, none⟩) h.1 _, (Lib.OthersKept.refl _ _ w).setCell ⟨b, 0, none⟩ rfl _⟩
  · refine (bld_check_used b w h.cell0).mono ?_
    rintro e w' ⟨rfl, rfl⟩
    exact ⟨rfl, h, Below.refl B _, Lib.OthersKept.refl _ _ _⟩
set_option maxHeartbeats 2000000 in
set_option maxRecDepth 100000 in
theorem bld_str_k (B b : Nat) (bs : List Value) (s : ByteArray) (w : World) (h : IsB B b bs w) (hlen : bs.length + s.size ≤ 140737488355328) (hBw : B ≤ w.heap.size) :
    Calls Try.prog 21 #[.pointer (some ⟨b, 0, none⟩), .string s] w fun e w' => e = .returned (.tuple #[.int .i64 s.size, .nilIface]) ∧ (IsB B b (bs ++ Lib.strCells s) w' ∧ Below B w w' ∧ Lib.OthersKept 5 (some b) w w') := by
  obtain ⟨i0, hi, hz0, hz1, hz2⟩ := info_parts bld_byte
  go_enter Try.func21, Try.ntmps21
  go_wp2_with (go_at_call 37; refine (bld_check B b bs _ h).mono ?_)
  rintro e w1 ⟨rfl, h1, hb1, hk1⟩
  obtain ⟨hB, v, hbk, hown, hne⟩ := h1
  have c0 : w1.cell? ⟨b, 0, none⟩ = some (.pointer (some ⟨b, 0, none⟩)) := by rw [Lib.cell_of_heap hbk]; rfl
  have c1 : w1.cell? ⟨b, 1, none⟩ = some v := by rw [Lib.cell_of_heap hbk]; rfl
  go_wp2_with (at_builtin; refine Lib.wpList_append_own_stringF _ rfl _ _ 46 9 rfl B 5 i0 Try.underlying46 Try.underlying9 hi hz0 hz1 hz2 _ _ _ rfl hown s rfl ?c3 ?c4 ?c5 ?_)
  case c3 => unfold maxLen; omega
  case c4 => omega
  case c5 => have := hb1.size; omega
  intro v' w2 hown' hgrow _
  have hlt : b < w1.heap.size := by
    rcases Nat.lt_or_ge b w1.heap.size with h' | h'
    · exact h'
    · simp [Array.getElem?_eq_none h'] at hbk
  have hb2 : w2.heap[b]? = some (.cells #[.pointer (some ⟨b, 0, none⟩), v] 48 (0, 0)) := by
    rw [hgrow.block b hlt (fun e => hne e.symm)]
    exact hbk
  have d0 : w2.cell? ⟨b, 0, none⟩ = some (.pointer (some ⟨b, 0, none⟩)) := by rw [Lib.cell_of_heap hb2]; rfl
  have d1 : w2.cell? ⟨b, 1, none⟩ = some v := by rw [Lib.cell_of_heap hb2]; rfl
  have f1 : w2.frozen? ⟨b, 1, none⟩ = false := Lib.frozen_of_heap hb2 1
  obtain ⟨ao, n', cap, rfl⟩ : ∃ ao n' cap, v' = .slice ao n' cap := by
    rcases hown'.2 with ⟨hv, _⟩ | ⟨g, cap, cur, fz, hv, _⟩
    · exact ⟨_, _, _, hv⟩
    · exact ⟨_, _, _, hv⟩
  go_wp2
  go_ret2
  refine ⟨rfl, .inr ?_, ?_, (hk1.grown hgrow (Lib.ownsRowF_kind hown)).setCell ⟨b, 1, none⟩ rfl _⟩
  · exact Lib.BuilderAtF.put (T := 48) (e := 5) hB hb2 (bs' := bs ++ Lib.strCells s) (by simpa [Lib.strCells_length] using hown') (by decide)
  · exact (hb1.grown hgrow (by have := hb1.size; omega) (fun k hk => (hown.lt k hk).1)).setCell (p := ⟨b, 1, none⟩) hB _
theorem bld_string (B b : Nat) (l : List UInt8) (w : World) (h : IsB B b (Lib.byteCells l) w) (hBw : B ≤ w.heap.size) :
    Calls Try.prog 26 #[.pointer (some ⟨b, 0, none⟩)] w fun e w' => e = .returned (.string ⟨l.toArray⟩) ∧ (IsB B b (Lib.byteCells l) w' ∧ Below B w w' ∧ Lib.OthersKept 5 (some b) w w') := Try.Builder_String_any_k B b l w h hBw

theorem IsB.fresh {B : Nat} (w : World) (hB : B ≤ w.heap.size) : IsB B w.heap.size [] (w.alloc (.cells #[.pointer none, .slice none 0 0] 48 (0, 0))) :=
  .inl ⟨hB, .slice none 0 0, heap_alloc_new _ _, ⟨rfl, .inl ⟨rfl, rfl⟩⟩, by simp [Value.ownBlock]⟩
theorem IsB.below {B b : Nat} {bs : List Value} {w w1 : World} (h : IsB B b bs w) (hb : Below w.heap.size w w1) : IsB B b bs w1 := by
  have key : ∀ p, Lib.BuilderAtF 48 5 B b p bs w → Lib.BuilderAtF 48 5 B b p bs w1 := by
    rintro p ⟨h1, v, h2, ⟨h3, h4⟩, h5⟩
    refine ⟨h1, v, (hb.block _ (Array.getElem?_eq_some_iff.1 h2).1).trans h2, ⟨h3, ?_⟩, h5⟩
    rcases h4 with h4 | ⟨g, cap, cur, fz, e, hg, hh, r⟩
    · exact .inl h4
    · exact .inr ⟨g, cap, cur, fz, e, hg, (hb.block _ (Array.getElem?_eq_some_iff.1 hh).1).trans hh, r⟩
  exact h.elim (fun x => .inl (key _ x)) (fun x => .inr (key _ x))
theorem IsB.lt {B b : Nat} {bs : List Value} {w : World} (h : IsB B b bs w) : B ≤ b ∧ b < w.heap.size := by
  rcases h with h | h
  · exact ⟨h.1, h.lt⟩
  · exact ⟨h.1, h.lt⟩
/-- Another block, that is no row of bytes, is written. -/
theorem IsB.far {B b : Nat} {bs : List Value} {w : World} (h : IsB B b bs w) {p : Addr} (hp : p.block ≠ b) (ht : ∀ c fz, w.heap[p.block]? ≠ some (.cells c 5 fz)) (u : Value) : IsB B b bs (w.setCell p u) := by
  have key : ∀ q, Lib.BuilderAtF 48 5 B b q bs w → Lib.BuilderAtF 48 5 B b q bs (w.setCell p u) := by
    rintro q ⟨h1, v, h2, ⟨h3, h4⟩, h5⟩
    refine ⟨h1, v, (Below.heap_setCell w p u b (fun e => hp e.symm)).trans h2, ⟨h3, ?_⟩, h5⟩
    rcases h4 with h4 | ⟨g, cap, cur, fz, e, hg, hh, r⟩
    · exact .inl h4
    · refine .inr ⟨g, cap, cur, fz, e, hg, (Below.heap_setCell w p u g (fun e => ?_)).trans hh, r⟩
      rw [e] at hh
      exact ht _ _ hh
  exact h.elim (fun x => .inl (key _ x)) (fun x => .inr (key _ x))
theorem IsB.drewN {B b : Nat} {bs : List Value} {w : World} (h : IsB B b bs w) (n : Nat) : IsB B b bs (w.drewN n) := IsB.below h (pw_below_drewN (Below.refl _ _) n)
end Go.Proofs.Ytpgmpdanplmpfaa.P

/- A set's bytes: the walk of Put. -/
namespace Go.Proofs.Ytpgmpdanplmpfaa.P
open Go Go.RowKit Go.Proofs.YtpgmpdanplmpfaaW.PrintWords Go.Proofs.YtpgmpdanplmpfaaW.PrintLast Go.Proofs.YtpgmpdanplmpfaaW.PrintMore Go.Proofs.Ytpgmpdanplmpfaa.Base
set_option linter.unusedVariables false
set_option linter.unusedSimpArgs false

theorem strCells_strU (l : List UInt8) : Lib.strCells (strU l) = Lib.byteCells l := by
  unfold Lib.strCells Lib.byteCells strU
  simp
theorem byteCells_append (a b : List UInt8) : Lib.byteCells (a ++ b) = Lib.byteCells a ++ Lib.byteCells b := by
  unfold Lib.byteCells
  simp
/-- The one ahead of the next one. -/
def aheadL (l : List (List UInt8)) (i : Nat) : List UInt8 := if i = 0 then [] else l.getD (i - 1) []
theorem bkRows_snoc : ∀ (l : List (List UInt8)) (a s : List UInt8), bkRows a (l ++ [s]) = bkRows a l ++ bkRow ((a :: l).getLast (by simp)) s
  | [], a, s => by simp [bkRows]
  | x :: l, a, s => by
    rw [List.cons_append]
    simp only [bkRows]
    rw [bkRows_snoc l x s, List.append_assoc]
    rfl
theorem bkRows_take (l : List (List UInt8)) (i : Nat) (hi : i < l.length) : bkRows [] (l.take (i + 1)) = bkRows [] (l.take i) ++ bkRow (aheadL l i) (l.getD i []) := by
  rw [List.take_add_one, List.getElem?_eq_getElem hi]
  show bkRows [] (l.take i ++ [l[i]]) = _
  rw [bkRows_snoc]
  have e1 : l[i] = l.getD i [] := by rw [List.getD_eq_getElem?_getD, List.getElem?_eq_getElem hi]; rfl
  have e2 : (([] : List UInt8) :: l.take i).getLast (by simp) = aheadL l i := by
    unfold aheadL
    cases i with
    | zero => rfl
    | succ i =>
      rw [if_neg (by omega), Nat.add_sub_cancel]
      have hil : i < l.length := by omega
      have ht : (([] : List UInt8) :: l.take (i + 1)) = (([] : List UInt8) :: l.take i) ++ [l[i]] := by
        rw [List.take_add_one, List.getElem?_eq_getElem hil]
        rfl
      have hg : ∀ (x y : List (List UInt8)) (h : x ≠ []) (e : x = y), x.getLast h = y.getLast (e ▸ h) := by
        rintro x _ h rfl
        rfl
      rw [hg _ _ _ ht]
      rw [List.getLast_append_of_ne_nil (by simp) (by simp)]
      rw [List.getD_eq_getElem?_getD, List.getElem?_eq_getElem hil]
      rfl
  rw [e2, e1]
theorem bkRow_len (a s : List UInt8) : (bkRow a s).length ≤ 20 + s.length := by
  have h1 := vputL_len (pre a s)
  have h2 := vputL_len (s.length - pre a s)
  unfold bkRow
  rw [List.length_append, List.length_append, List.length_drop]
  omega
theorem bkRows_len : ∀ (l : List (List UInt8)) (a : List UInt8), (∀ s ∈ l, s.length ≤ 65535) → (bkRows a l).length ≤ l.length * 65555
  | [], a, _ => Nat.zero_le _
  | s :: l, a, h => by
    have h1 := bkRows_len l s (fun x hx => h x (List.mem_cons_of_mem _ hx))
    have h2 := bkRow_len a s
    have h3 := h s List.mem_cons_self
    simp only [bkRows]
    rw [List.length_append, List.length_cons, Nat.succ_mul]
    omega
theorem lit2 (W : World) (a b : Int) : Kd.C (Kd.int .i64) (W.alloc (.cells #[.int .i64 a, .int .i64 b] 3 (0, 0))) (some ⟨W.heap.size, 0, none⟩) 2 [a, b] :=
  (Kd.R_reads' (show (Kd.int .i64).R 3 (W.alloc (.cells #[.int .i64 a, .int .i64 b] 3 (0, 0))) W.heap.size (fun _ => True) (.slice (some ⟨W.heap.size, 0, none⟩) 2 2) [a, b] from Kd.R_of_own (enc := Value.int .i64) (h1 := fun _ => rfl) ⟨rfl, .inr ⟨W.heap.size, 2, _, rfl, Nat.le_refl _, heap_alloc_new _ _, Nat.le_refl _, by decide, rfl, rfl⟩⟩ (fun _ _ => trivial))).2.2
theorem R_str_others {l : List ByteArray} {v : Value} {B b base : Nat} {ok : Nat → Prop} {bs : List Value} {w w' : World} (h : Kd.R Kd.string 9 w base ok v l) (hB : IsB B b bs w) (hk : Lib.OthersKept 5 (some b) w w') : Kd.R Kd.string 9 w' base ok v l := by
  obtain ⟨cs, hc⟩ : ∃ cs, w.heap[b]? = some (.cells cs 48 (0, 0)) := by
    rcases hB with h | h
    · obtain ⟨_, u, h2, _⟩ := h
      exact ⟨_, h2⟩
    · obtain ⟨_, u, h2, _⟩ := h
      exact ⟨_, h2⟩
  have h1 := Kd.R_bound (Kd.R_types h hc (by decide))
  refine Kd.R_mono (Kd.R_step h1 (fun k hk1 hlt => ?_)) (fun k hk => hk.1.1)
  obtain ⟨⟨_, hne⟩, _, _, q, hq, cells, hc2⟩ := hk1
  rw [hc2]
  refine hk k _ hc2 (fun e => hne (Option.some.inj e)) (fun c fz e => ?_)
  injection e with _ e2
  subst e2
  exact absurd hq (by decide)
def book_Put.f (a0 : Option SetD) : Option ByteArray := match a0 with
  | none => some ByteArray.empty
  | some d => if 0 < d.l.length ∧ d.l.length ≤ 65535 ∧ ∀ s ∈ d.l, s.size ≤ 65535 then some (strU (bkPut (d.l.map LL))) else none
set_option maxHeartbeats 4000000 in
set_option maxRecDepth 100000 in
theorem book_Put.calls (Pa0 : Option Addr) (a0 : Option SetD) (r : ByteArray) (w : World) (ho : OB K42 w Pa0 a0) (h : book_Put.f a0 = some r) :
    Calls Try.prog 10 #[.pointer Pa0] w fun e w' => e = .returned (.string r) ∧ Below w.heap.size w w' := by
  cases a0 with
  | none =>
    obtain rfl := Option.some.inj h
    obtain rfl := OB.p_none ho
    clear h ho
    go_enter Try.func10, Try.ntmps10
    go_wp2
    go_ret
    exact ⟨rfl, Below.refl _ _⟩
  | some d =>
    simp only [book_Put.f] at h
    by_cases hs : 0 < d.l.length ∧ d.l.length ≤ 65535 ∧ ∀ s ∈ d.l, s.size ≤ 65535
    rotate_left
    · rw [if_neg hs] at h; cases h
    rw [if_pos hs] at h
    obtain rfl := Option.some.inj h
    obtain ⟨hs0, hs1, hs2⟩ := hs
    obtain ⟨a, rfl⟩ := OB.p_some ho
    obtain ⟨n, hn⟩ : ∃ n, d.l.length = n := ⟨_, rfl⟩
    obtain ⟨sp, hsp⟩ : ∃ sp, strU (vputL n) = sp := ⟨_, rfl⟩
    have hspz : sp.size ≤ 10 := by
      rw [← hsp]
      show (vputL n).toArray.size ≤ 10
      rw [List.size_toArray]
      exact vputL_len n
    have hput : varint_Put.f (n : Int) = some sp := by
      rw [← hsp]
      unfold varint_Put.f
      rw [if_neg (by omega), if_pos (by omega), Int.toNat_natCast]
    have hLen : ∀ W, Below w.heap.size w W → Calls Try.prog 23 #[.pointer (some a)] W fun e w' => e = .returned (.int .i64 (n : Int)) ∧ Drawn0 W w' := fun W g => pats_Set_Len.calls (some a) (some d) (n : Int) W (OB.below g ho) (by rw [← hn]; rfl)
    have hList : ∀ W, Below w.heap.size w W → _ := fun W (g : Below w.heap.size w W) => pats_Set_List.calls (some a) (some d) d.l W (OB.below g ho) (by show (if d.l.length ≤ 8796093022208 then some d.l else none) = _; rw [if_pos (by omega)])
    have hB0 : Below w.heap.size w (w.alloc (.cells #[.pointer none, .slice none 0 0] 48 (0, 0))) := (Below.refl _ _).alloc (Nat.le_refl _) _
    have HB0 := Aside0.mk hB0
    have HI0 := Aside0.mk (IsB.fresh (B := w.heap.size) w (Nat.le_refl _))
    have HLEN := Aside0.mk hLen
    have HLIST := Aside0.mk hList
    have HS2 := Aside0.mk hs2
    have HN := Aside0.mk hn
    have HSP := Aside0.mk hsp
    have HPUT := Aside0.mk hput
    have hw1 : ([] : List Value).length + ((⟨#[106, 117, 114, 97, 116, 1]⟩ : ByteArray) ++ sp).size ≤ 140737488355328 := by
      rw [ByteArray.size_append]
      show 0 + (6 + sp.size) ≤ _
      omega
    have HW1 := Aside0.mk hw1
    rw [hn] at hs0 hs1
    clear h ho hs2 hLen hList hB0 hn hsp hput hw1
    go_enter Try.func10, Try.ntmps10
    go_wp2_with (first
      | (go_at_call 23; refine (HLEN.out _ HB0.out).mono ?_; rintro e wq ⟨rfl, ⟨q, rfl⟩⟩; have HB1 := Aside0.mk (pw_below_drewN HB0.out q); have HI1 := Aside0.mk (IsB.drewN HI0.out q))
      | (go_at_call 22; refine (varint_Put.calls (n : Int) sp _ HPUT.out).mono ?_; rintro e w2 ⟨rfl, hb⟩; have HB2 := Aside0.mk (below_step HB1.out hb); have HI2 := Aside0.mk (IsB.below HI1.out hb); clear hb)
      | (go_at_call 21; refine (bld_str_k w.heap.size w.heap.size [] _ _ HI2.out HW1.out HB2.out.size).mono ?_; rintro e w3 ⟨rfl, hI, hb, hk⟩; have HI3 := Aside0.mk hI; have HB3 := Aside0.mk (HB2.out.trans hb); clear hI hb hk))
    go_wp2_with (go_at_call 15; refine (HLIST.out _ HB3.out).mono ?_; rintro e w4 ⟨vl, rfl, hR, hb⟩; have HB4 := Aside0.mk (below_step HB3.out hb); have HI4 := Aside0.mk (IsB.below HI3.out hb); obtain ⟨A1, c1, rfl⟩ := Kd.R_slice hR; obtain ⟨_, hc1, hC1⟩ := Kd.R_reads' hR; have HR4 := Aside0.mk hR; clear hR hb hC1)
    rw [HN.out]
    go_loopg [4, 6, 7, 18] n (fun kx x4 x6 x7 x18 W => ∃ (i : Nat) (sa : ByteArray), x18 = .int .i64 i ∧ x4 = .string sa ∧ i ≤ n ∧ n - i ≤ kx ∧ sa.size ≤ 65535 ∧ Aside0 (LL sa = aheadL (d.l.map LL) i) ∧ Aside0 (IsB w.heap.size w.heap.size (Lib.byteCells (headL ++ (vputL n ++ bkRows [] ((d.l.map LL).take i)))) W) ∧ Aside0 (Below w.heap.size w W) ∧ Aside0 (Kd.R Kd.string 9 W w3.heap.size (fun _ => True) (.slice A1 d.l.length c1) d.l))
    case atStart =>
      refine ⟨0, ⟨#[]⟩, rfl, rfl, Nat.zero_le _, Nat.le_refl _, by decide, ⟨by unfold aheadL; rw [if_pos rfl]⟩, ⟨?_⟩, HB4, HR4⟩
      have e : ([] : List Value) ++ Lib.strCells ((⟨#[106, 117, 114, 97, 116, 1]⟩ : ByteArray) ++ sp) = Lib.byteCells (headL ++ (vputL n ++ bkRows [] ((d.l.map LL).take 0))) := by
        have e2 : (⟨#[106, 117, 114, 97, 116, 1]⟩ : ByteArray) ++ sp = strU (headL ++ vputL n) := LL_inj (by
          rw [LL_append, ← HSP.out]
          simp [LL, strU, headL])
        rw [e2, strCells_strU, List.nil_append, List.take_zero]
        simp [bkRows]
      rw [← e]
      exact HI4.out
    case round =>
      clear HI4 HI3 HI2 HI1 HI0
      obtain ⟨i, sa, rfl, rfl, hin, hik, hsaz, HSA, HI, HB, HR⟩ := hrel
      have hbl : (headL ++ (vputL n ++ bkRows [] ((d.l.map LL).take i))).length ≤ 4297000000 := by
        have h1 := vputL_len n
        have h2 := bkRows_len ((d.l.map LL).take i) [] (fun s hs => by
          obtain ⟨t, ht, rfl⟩ := List.mem_map.1 (List.mem_of_mem_take hs)
          rw [LL_length]
          exact HS2.out t ht)
        have h3 : ((d.l.map LL).take i).length ≤ 65535 := by rw [List.length_take, List.length_map]; omega
        have h4 := Nat.mul_le_mul_right 65555 h3
        rw [List.length_append, List.length_append]
        show 6 + _ ≤ _
        omega
      by_cases hlt : i < n
      · have hd : decide ((i : Int) < (n : Int)) = true := decide_eq_true (by omega)
        have hil : i < d.l.length := by rw [HN.out]; exact hlt
        have hlc := (Kd.R_reads' HR.out).2.2
        obtain ⟨ad, rfl, hat⟩ := Kd.at_string hlc (i : Int) (by omega) (by omega)
        have hat2 := hat
        rw [Int.toNat_natCast] at hat2
        obtain ⟨s, hs⟩ : ∃ s, d.l.getD i ByteArray.empty = s := ⟨_, rfl⟩
        change wr.cell? (ad.add i) = some (.string (d.l.getD i ByteArray.empty)) at hat2
        rw [hs] at hat2
        have hsz : s.size ≤ 65535 := by rw [← hs]; exact HS2.out _ (getD_mem d.l i _ hil)
        obtain ⟨k, hk⟩ : ∃ k, pre (LL sa) (LL s) = k := ⟨_, rfl⟩
        have hks : k ≤ s.size := by
          have := (pre_le (LL sa) (LL s)).2
          rw [hk, LL_length] at this
          exact this
        obtain ⟨kp, hkp⟩ := Ev.all (prefix_ev sa s (by omega))
        rw [hk] at hkp
        obtain ⟨sq, hsq⟩ : ∃ sq, strU (vputL k ++ vputL (s.size - k)) = sq := ⟨_, rfl⟩
        have hall : varint_All.f [(k : Int), (s.size : Int) - (k : Int)] = some sq := by
          rw [← hsq]
          unfold varint_All.f
          rw [if_pos ⟨fun x hx => by
            simp only [List.mem_cons, List.not_mem_nil, or_false] at hx
            rcases hx with rfl | rfl <;> omega, by simp⟩]
          unfold putsL
          simp only [List.flatMap_cons, List.flatMap_nil, List.append_nil]
          rw [if_neg (by omega), if_neg (by omega), show ((s.size : Int) - (k : Int)).toNat = s.size - k by omega, Int.toNat_natCast]
        have hsqz : sq.size ≤ 20 := by
          rw [← hsq]
          show (vputL k ++ vputL (s.size - k)).toArray.size ≤ 20
          rw [List.size_toArray, List.length_append]
          have := vputL_len k
          have := vputL_len (s.size - k)
          omega
        obtain ⟨st, hst⟩ : ∃ st, s.extract k s.size = st := ⟨_, rfl⟩
        have hstL : LL st = (LL s).drop k := by
          rw [← hst, LL_extract, List.take_of_length_le (by rw [LL_length]; exact Nat.le_refl _)]
        have hstz : st.size ≤ 65535 := by rw [← LL_length, hstL, List.length_drop, LL_length]; omega
        obtain ⟨acc, hacc⟩ : ∃ acc, headL ++ (vputL n ++ bkRows [] ((d.l.map LL).take i)) = acc := ⟨_, rfl⟩
        rw [hacc] at hbl
        have HI := Aside0.mk (show IsB w.heap.size w.heap.size (Lib.byteCells acc) wr by rw [← hacc]; exact HI.out)
        have hnext : headL ++ (vputL n ++ bkRows [] ((d.l.map LL).take (i + 1))) = acc ++ (vputL k ++ vputL (s.size - k)) ++ LL st := by
          have e1 : (d.l.map LL).getD i [] = LL s := by
            rw [← hs, List.getD_eq_getElem?_getD, List.getElem?_map, List.getD_eq_getElem?_getD, List.getElem?_eq_getElem hil]
            rfl
          rw [bkRows_take _ _ (by rw [List.length_map]; exact hil), ← HSA.out, e1, ← hacc, hstL]
          unfold bkRow
          rw [hk, LL_length]
          simp only [List.append_assoc]
        have hnsa : LL s = aheadL (d.l.map LL) (i + 1) := by
          unfold aheadL
          rw [if_neg (by omega), Nat.add_sub_cancel, ← hs, List.getD_eq_getElem?_getD, List.getD_eq_getElem?_getD, List.getElem?_map, List.getElem?_eq_getElem hil]
          rfl
        have hacl : (Lib.byteCells acc).length = acc.length := Lib.byteCells_length _
        have hwa : (Lib.byteCells acc).length + sq.size ≤ 140737488355328 := by rw [hacl]; omega
        have hwb : (Lib.byteCells acc ++ Lib.strCells sq).length + st.size ≤ 140737488355328 := by rw [List.length_append, hacl, Lib.strCells_length]; omega
        have hall2 : ∀ q5 : Nat, Calls Try.prog 25 #[.slice (some ⟨wr.heap.size, 0, none⟩) 2 2] ((wr.drewN q5).alloc (.cells #[.int .i64 (k : Int), .int .i64 ((s.size : Int) - (k : Int))] 3 (0, 0))) fun e w' => e = .returned (.string sq) ∧ Below ((wr.drewN q5).alloc (.cells #[.int .i64 (k : Int), .int .i64 ((s.size : Int) - (k : Int))] 3 (0, 0))).heap.size ((wr.drewN q5).alloc (.cells #[.int .i64 (k : Int), .int .i64 ((s.size : Int) - (k : Int))] 3 (0, 0))) w' := by
          intro q5
          have hl2 := lit2 (wr.drewN q5) (k : Int) ((s.size : Int) - (k : Int))
          exact varint_All.calls (some ⟨(wr.drewN q5).heap.size, 0, none⟩) 2 [(k : Int), (s.size : Int) - (k : Int)] sq _ hl2 (Nat.le_refl _) hall
        have HALL2 := Aside0.mk hall2
        clear hall2
        have HWA := Aside0.mk hwa
        have HWB := Aside0.mk hwb
        have HKP := Aside0.mk hkp
        have HALL := Aside0.mk hall
        have HSQ := Aside0.mk hsq
        have HST := Aside0.mk hst
        have HNEXT := Aside0.mk hnext
        have HNSA := Aside0.mk hnsa
        have HBW := HB
        have hin2 : (i : Int) < (n : Int) := by omega
        have hks2 : (k : Int) ≤ (s.size : Int) := by omega
        clear hlc hat hs hk hkp hsq hall hst hstL hacc hnext hnsa hacl hwa hwb hbl
        go_wp2_with (go_at_call 24; refine (affix_Prefix.calls kp sa s (k : Int) _ HKP.out).mono ?_; rintro e wq ⟨rfl, ⟨q5, rfl⟩⟩; have HB5 := Aside0.mk (pw_below_drewN HB.out q5); have HI5 := Aside0.mk (IsB.drewN HI.out q5); have HR5 := Aside0.mk (Kd.R_drewN HR.out q5))
        refine (HALL2.out q5).mono ?_
        rintro e w6 ⟨rfl, hb⟩
        have hb6 : Below (wr.drewN q5).heap.size (wr.drewN q5) w6 := ((Below.refl (wr.drewN q5).heap.size (wr.drewN q5)).alloc (Nat.le_refl _) _).trans (hb.mono (by show _ ≤ ((wr.drewN q5).heap.push _).size; rw [Array.size_push]; exact Nat.le_succ _))
        have HB6 := Aside0.mk (below_step HB5.out hb6)
        have HI6 := Aside0.mk (IsB.below HI5.out hb6)
        have HR6 := Aside0.mk (Kd.R_below HR5.out hb6)
        clear hb hb6
        dsimp only
        go_wp2_with fail
        refine (bld_str_k w.heap.size w.heap.size (Lib.byteCells acc) sq w6 HI6.out HWA.out HB6.out.size).mono ?_
        rintro e w7 ⟨rfl, hI, hb, hk⟩
        have HI7 := Aside0.mk hI
        have HB7 := Aside0.mk (HB6.out.trans hb)
        have HR7 := Aside0.mk (R_str_others HR6.out HI6.out hk)
        clear hI hb hk
        dsimp only
        go_wp2_with fail
        rw [HST.out]
        refine (bld_str_k w.heap.size w.heap.size _ st w7 HI7.out HWB.out HB7.out.size).mono ?_
        rintro e w8 ⟨rfl, hI, hb, hk⟩
        have HI8 := Aside0.mk hI
        have HB8 := Aside0.mk (HB7.out.trans hb)
        have HR8 := Aside0.mk (R_str_others HR7.out HI7.out hk)
        clear hI hb hk
        dsimp only
        go_wp2_with fail
        go_roundg (n - (i + 1))
        case measure => omega
        case rel =>
          refine ⟨i + 1, s, by go_num, rfl, by omega, Nat.le_refl _, hsz, HNSA, ⟨?_⟩, HB8, HR8⟩
          have e8 : Lib.byteCells acc ++ Lib.strCells sq ++ Lib.strCells st = Lib.byteCells (headL ++ (vputL n ++ bkRows [] ((d.l.map LL).take (i + 1)))) := by
            rw [HNEXT.out, byteCells_append, byteCells_append, ← HSQ.out, strCells_strU]
            have e9 : Lib.strCells st = Lib.byteCells (LL st) := by
              rw [← strCells_strU]
              congr 1
            rw [e9]
          rw [← e8]
          exact HI8.out
      · obtain rfl : i = n := by omega
        have hd : decide ((i : Int) < (i : Int)) = false := decide_eq_false (by omega)
        have hI := HI.out
        rw [List.take_of_length_le (by rw [List.length_map, HN.out]; exact Nat.le_refl _)] at hI
        have HI9 := Aside0.mk hI
        have HBW := HB
        clear hI hbl
        go_wp2_with (go_at_call 26; refine (bld_string w.heap.size w.heap.size _ _ HI9.out HBW.out.size).mono ?_; rintro e w9 ⟨rfl, hI, hb, hk⟩; have HB9 := Aside0.mk (HBW.out.trans hb); clear hI hb hk)
        go_ret
        refine ⟨?_, HB9.out⟩
        have e : bkPut (d.l.map LL) = headL ++ (vputL i ++ bkRows [] (d.l.map LL)) := by
          unfold bkPut
          rw [if_neg (by rw [List.length_map, HN.out]; omega), List.length_map, HN.out]
        rw [e]
        rfl
end Go.Proofs.Ytpgmpdanplmpfaa.P

/- Proved here: what Go functions of this seat compute, or a law of it; no condition beyond the statement's own. Written for this claim by a program of this session (wip/myprint.py) over the kit's print.py. -/
namespace Go.Proofs.Ytpgmpdanplmpfaa.P
open Go.RowKit Go.Proofs.YtpgmpdanplmpfaaW.PrintWords Go.Proofs.YtpgmpdanplmpfaaW.PrintLast Go.Proofs.YtpgmpdanplmpfaaW.PrintMore
attribute [local go_sem] max2_int min2_int max_two min_two max_three min_three max_four min_four   -- for this text's walks alone
set_option linter.unusedVariables false
set_option linter.unusedSimpArgs false

/-! ### juratlaw11_awake: function 7 -/
def juratlaw11_awake.f  : Option (Bool) := (pats_New.f (([(⟨#[97, 98]⟩ : ByteArray), (⟨#[97]⟩ : ByteArray)] : List ByteArray))).bind fun bt106 => (if bt106.2 = 0 then ((book_Put.f bt106.1).bind fun t109 => (if t109.toList = ([106, 117, 114, 97, 116, 1, 2, 0, 1, 97, 1, 1, 98] : List UInt8) then ((book_Put.f none).bind fun t110 => (some (t110.toList == ([] : List UInt8)))) else (some false))) else (some false))
set_option maxHeartbeats 8000000 in
set_option maxRecDepth 100000 in
theorem juratlaw11_awake.calls  (r : Bool) (w : World) (h : juratlaw11_awake.f  = some r) :
    Calls Try.prog 7 #[] w fun e w' => e = .returned (.bool r) ∧ Below w.heap.size w w' := by
  have HB := Aside0.mk (Below.refl w.heap.size w)
  have H : ((pats_New.f (([(⟨#[97, 98]⟩ : ByteArray), (⟨#[97]⟩ : ByteArray)] : List ByteArray))).bind fun bt106 => (if bt106.2 = 0 then ((book_Put.f bt106.1).bind fun t109 => (if t109.toList = ([106, 117, 114, 97, 116, 1, 2, 0, 1, 97, 1, 1, 98] : List UInt8) then ((book_Put.f none).bind fun t110 => (some (t110.toList == ([] : List UInt8)))) else (some false))) else (some false))) = some r := h
  clear h
  obtain ⟨y103, hy103⟩ : ∃ y_ : List ByteArray, y_ = (([(⟨#[97, 98]⟩ : ByteArray), (⟨#[97]⟩ : ByteArray)] : List ByteArray)) := ⟨_, rfl⟩
  replace H : ((pats_New.f y103).bind fun bt106 => (if bt106.2 = 0 then ((book_Put.f bt106.1).bind fun t109 => (if t109.toList = ([106, 117, 114, 97, 116, 1, 2, 0, 1, 97, 1, 1, 98] : List UInt8) then ((book_Put.f none).bind fun t110 => (some (t110.toList == ([] : List UInt8)))) else (some false))) else (some false))) = some r := by first | (rw [hy103]; with_reducible exact H) | (have H2_ := (Option.bind_some _ _).symm.trans H; rw [hy103]; with_reducible exact H2_) | (have H2_ := (Option.bind_some _ _).symm.trans H; with_reducible exact H2_) | with_reducible exact H | (rw [hy103]; exact H) | exact H
  have Ny103 := Aside0.mk hy103
  clear hy103
  replace H := Option.bind_eq_some_iff.mp H
  obtain ⟨⟨t106, t107⟩, A10, H⟩ := H
  replace H : (if t107 = 0 then ((book_Put.f t106).bind fun t109 => (if t109.toList = ([106, 117, 114, 97, 116, 1, 2, 0, 1, 97, 1, 1, 98] : List UInt8) then ((book_Put.f none).bind fun t110 => (some (t110.toList == ([] : List UInt8)))) else (some false))) else (some false)) = some r := H
  have A1 := Aside0.mk A10
  clear A10
  by_cases c2 : t107 = 0
  · rw [if_pos c2] at H
    have c2b0 : (t107 == 0) = true := beq_iff_eq.mpr c2
    have c2b1 : (t107 != 0) = false := bne_eq_false_iff_eq.mpr c2
    clear c2
    replace H := Option.bind_eq_some_iff.mp H
    obtain ⟨t109, A30, H⟩ := H
    replace H : (if t109.toList = ([106, 117, 114, 97, 116, 1, 2, 0, 1, 97, 1, 1, 98] : List UInt8) then ((book_Put.f none).bind fun t110 => (some (t110.toList == ([] : List UInt8)))) else (some false)) = some r := H
    have A3 := Aside0.mk A30
    clear A30
    by_cases c4 : t109.toList = ([106, 117, 114, 97, 116, 1, 2, 0, 1, 97, 1, 1, 98] : List UInt8)
    · rw [if_pos c4] at H
      have c4b0 : (t109.toList == ([106, 117, 114, 97, 116, 1, 2, 0, 1, 97, 1, 1, 98] : List UInt8)) = true := beq_iff_eq.mpr c4
      have c4b1 : (t109.toList != ([106, 117, 114, 97, 116, 1, 2, 0, 1, 97, 1, 1, 98] : List UInt8)) = false := bne_eq_false_iff_eq.mpr c4
      clear c4
      replace H := Option.bind_eq_some_iff.mp H
      obtain ⟨t110, A50, H⟩ := H
      replace H : (some (t110.toList == ([] : List UInt8))) = some r := H
      have A5 := Aside0.mk A50
      clear A50
      obtain rfl := Option.some.inj H
      go_enter Try.func7, Try.ntmps7
      go_wp2_with (first | ((with_reducible refine gate_dst (N := 4) rfl ?_); refine Kd.R_lit Kd.string _ 9 ?hg (N := 4) ?hd (xs := ([(⟨#[97, 98]⟩ : ByteArray), (⟨#[97]⟩ : ByteArray)] : List ByteArray)) (inner := [.string (⟨#[97, 98]⟩ : ByteArray), .string (⟨#[97]⟩ : ByteArray)]) (ok := fun _ => True) (okp := fun _ => True) ?hr ?hp (fun _ hk => hk) trivial (Below.refl _ _) (Nat.le_refl _) (by simp) ?_; (case hd => rfl); (case hg => rfl); (case hr => first | (go_simp; done) | (go_simp; rfl)); (case hp => exact (Reps.one (show Kd.M Kd.string _ _ _ (⟨#[97, 98]⟩ : ByteArray) [.string (⟨#[97, 98]⟩ : ByteArray)] from rfl) (Reps.one (show Kd.M Kd.string _ _ _ (⟨#[97]⟩ : ByteArray) [.string (⟨#[97]⟩ : ByteArray)] from rfl) (Reps.none _ _)))); intro v104 w6 ho7 hb hg_ hnew_; clear hg_ hnew_; (first | rw [← Ny103.out] at ho7 | (simp only [Int.reduceToNat] at ho7; rw [← Ny103.out] at ho7)); have n0_ := Aside0.mk (Kd.R_lower ho7 (below_size (by repeat (first | (with_reducible first | exact HB.out | apply below_alloc | apply pw_below_drewN | apply below_drew1) | exact HB.out)))); have n1_ := Aside0.mk (below_step (by repeat (first | (with_reducible first | exact HB.out | apply below_alloc | apply pw_below_drewN | apply below_drew1) | exact HB.out)) hb); clear HB; have HO105 := n0_; have HB := n1_; clear n0_ n1_; clear hb ho7; obtain ⟨Ao8, co8, eo8⟩ := Kd.R_slice HO105.out; subst eo8) | ((with_reducible refine gate_callee (f := 8) rfl ?_); refine goesL_ (some 5) rfl rfl Try.func8 (by kernel_rfl) rfl #[.slice Ao8 y103.length co8] rfl (by (try simp only [List.map_toArray, List.map_cons, List.map_nil]); first | done | rfl | (simp only [List.length_drop, List.length_take]; rfl)) ?_; (with_reducible refine (pats_New.calls _ _ y103 t106 t107 _ ?side1 ?side2 A1.out).mono ?_); (case side1 => repeat (first | exact (Kd.R_reads' HO105.out).2.2 | (with_reducible refine Kd.C_alloc ?_ _) | (with_reducible refine Kd.C_drewN ?_ _) | (with_reducible refine Kd.C_drew ?_))); (case side2 => exact (Kd.R_reads' HO105.out).2.1); rintro e w9 ⟨Pt106, rfl, hob0, hb⟩; refine ⟨_, rfl, ?_⟩; have hbw_ := below_step (by repeat (first | (with_reducible first | exact HB.out | apply below_alloc | apply pw_below_drewN | apply below_drew1) | exact HB.out)) hb; obtain ⟨Ab108, cb108, eb108_, lb108_, gb108_⟩ := Kd.R_reads (Kd.R_below (by (with_reducible repeat (first | apply Kd.R_alloc | apply Kd.R_drewN | apply Kd.R_drew)); exact HO105.out) hb); (first | subst eb108_ | (injection eb108_ with f1_ f2_ f3_; have f4_ := f1_.symm; have f5_ := f3_.symm; clear f1_ f2_ f3_; subst f4_; subst f5_)); have HRb108 := Aside0.mk gb108_; have HCb108 := Aside0.mk lb108_; clear gb108_ lb108_; (try clear HO105); (first | (have n_ := Aside0.mk (HB00.out.trans (hbw_.mono HB00.out.size)); clear HB00; have HB00 := n_; clear n_) | have HB00 := Aside0.mk hbw_); clear HB hb hbw_; have HO_t106 := Aside0.mk hob0; clear hob0; obtain ⟨w, rfl⟩ : ∃ w_ : World, w_ = w9 := ⟨_, rfl⟩; have HB := Aside0.mk (Below.refl w.heap.size w)) | (go_at_call 10; (with_reducible refine (book_Put.calls _ t106 t109 _ ?side1 A3.out).mono ?_); (case side1 => first | exact HO_t106.out | exact OB.drewN HO_t106.out _ | exact OB.below (by repeat (first | (with_reducible first | exact HB.out | apply below_alloc | apply pw_below_drewN | apply below_drew1) | exact HB.out)) HO_t106.out); rintro e w10 ⟨rfl, hb⟩; have n0_ := Aside0.mk (below_step (by repeat (first | (with_reducible first | exact HB.out | apply below_alloc | apply pw_below_drewN | apply below_drew1) | exact HB.out)) hb); clear HB; have HB := n0_; clear n0_; (try clear hb); (try clear hb2); (try clear hk); (try clear hi)) | (go_at_call 10; (with_reducible refine (book_Put.calls _ none t110 _ ?side1 A5.out).mono ?_); (case side1 => exact OB.nil _ _); rintro e w11 ⟨rfl, hb⟩; have n0_ := Aside0.mk (below_step (by repeat (first | (with_reducible first | exact HB.out | apply below_alloc | apply pw_below_drewN | apply below_drew1) | exact HB.out)) hb); clear HB; have HB := n0_; clear n0_; (try clear hb); (try clear hb2); (try clear hk); (try clear hi)))
      go_ret
      exact ⟨by first | rfl | (simp [errW_none, errW_some] <;> rfl) | (simp [*, errW_none, errW_some] <;> rfl), by first | (refine HB00.out.trans (Below.mono ?_ HB00.out.size); (repeat (first | (with_reducible first | exact HB.out | apply below_alloc | apply pw_below_drewN | apply below_drew1) | exact HB.out))) | (repeat (first | (with_reducible first | exact HB.out | apply below_alloc | apply pw_below_drewN | apply below_drew1) | exact HB.out))⟩
    · rw [if_neg c4] at H
      have c4b0 : (t109.toList == ([106, 117, 114, 97, 116, 1, 2, 0, 1, 97, 1, 1, 98] : List UInt8)) = false := beq_eq_false_iff_ne.mpr c4
      have c4b1 : (t109.toList != ([106, 117, 114, 97, 116, 1, 2, 0, 1, 97, 1, 1, 98] : List UInt8)) = true := bne_iff_ne.mpr c4
      obtain rfl := Option.some.inj H
      go_enter Try.func7, Try.ntmps7
      go_wp2_with (first | ((with_reducible refine gate_dst (N := 4) rfl ?_); refine Kd.R_lit Kd.string _ 9 ?hg (N := 4) ?hd (xs := ([(⟨#[97, 98]⟩ : ByteArray), (⟨#[97]⟩ : ByteArray)] : List ByteArray)) (inner := [.string (⟨#[97, 98]⟩ : ByteArray), .string (⟨#[97]⟩ : ByteArray)]) (ok := fun _ => True) (okp := fun _ => True) ?hr ?hp (fun _ hk => hk) trivial (Below.refl _ _) (Nat.le_refl _) (by simp) ?_; (case hd => rfl); (case hg => rfl); (case hr => first | (go_simp; done) | (go_simp; rfl)); (case hp => exact (Reps.one (show Kd.M Kd.string _ _ _ (⟨#[97, 98]⟩ : ByteArray) [.string (⟨#[97, 98]⟩ : ByteArray)] from rfl) (Reps.one (show Kd.M Kd.string _ _ _ (⟨#[97]⟩ : ByteArray) [.string (⟨#[97]⟩ : ByteArray)] from rfl) (Reps.none _ _)))); intro v104 w12 ho13 hb hg_ hnew_; clear hg_ hnew_; (first | rw [← Ny103.out] at ho13 | (simp only [Int.reduceToNat] at ho13; rw [← Ny103.out] at ho13)); have n0_ := Aside0.mk (Kd.R_lower ho13 (below_size (by repeat (first | (with_reducible first | exact HB.out | apply below_alloc | apply pw_below_drewN | apply below_drew1) | exact HB.out)))); have n1_ := Aside0.mk (below_step (by repeat (first | (with_reducible first | exact HB.out | apply below_alloc | apply pw_below_drewN | apply below_drew1) | exact HB.out)) hb); clear HB; have HO105 := n0_; have HB := n1_; clear n0_ n1_; clear hb ho13; obtain ⟨Ao14, co14, eo14⟩ := Kd.R_slice HO105.out; subst eo14) | ((with_reducible refine gate_callee (f := 8) rfl ?_); refine goesL_ (some 5) rfl rfl Try.func8 (by kernel_rfl) rfl #[.slice Ao14 y103.length co14] rfl (by (try simp only [List.map_toArray, List.map_cons, List.map_nil]); first | done | rfl | (simp only [List.length_drop, List.length_take]; rfl)) ?_; (with_reducible refine (pats_New.calls _ _ y103 t106 t107 _ ?side1 ?side2 A1.out).mono ?_); (case side1 => repeat (first | exact (Kd.R_reads' HO105.out).2.2 | (with_reducible refine Kd.C_alloc ?_ _) | (with_reducible refine Kd.C_drewN ?_ _) | (with_reducible refine Kd.C_drew ?_))); (case side2 => exact (Kd.R_reads' HO105.out).2.1); rintro e w15 ⟨Pt106, rfl, hob0, hb⟩; refine ⟨_, rfl, ?_⟩; have hbw_ := below_step (by repeat (first | (with_reducible first | exact HB.out | apply below_alloc | apply pw_below_drewN | apply below_drew1) | exact HB.out)) hb; obtain ⟨Ab108, cb108, eb108_, lb108_, gb108_⟩ := Kd.R_reads (Kd.R_below (by (with_reducible repeat (first | apply Kd.R_alloc | apply Kd.R_drewN | apply Kd.R_drew)); exact HO105.out) hb); (first | subst eb108_ | (injection eb108_ with f1_ f2_ f3_; have f4_ := f1_.symm; have f5_ := f3_.symm; clear f1_ f2_ f3_; subst f4_; subst f5_)); have HRb108 := Aside0.mk gb108_; have HCb108 := Aside0.mk lb108_; clear gb108_ lb108_; (try clear HO105); (try (have n_ := Aside0.mk (Kd.C_below HRb108.out hbw_); clear HRb108; have HRb108 := n_; clear n_)); (try (have n_ := Aside0.mk (OB.below hbw_ HO_t106.out); clear HO_t106; have HO_t106 := n_; clear n_)); (first | (have n_ := Aside0.mk (HB00.out.trans (hbw_.mono HB00.out.size)); clear HB00; have HB00 := n_; clear n_) | have HB00 := Aside0.mk hbw_); clear HB hb hbw_; have HO_t106 := Aside0.mk hob0; clear hob0; obtain ⟨w, rfl⟩ : ∃ w_ : World, w_ = w15 := ⟨_, rfl⟩; have HB := Aside0.mk (Below.refl w.heap.size w)) | (go_at_call 10; (with_reducible refine (book_Put.calls _ t106 t109 _ ?side1 A3.out).mono ?_); (case side1 => first | exact HO_t106.out | exact OB.drewN HO_t106.out _ | exact OB.below (by repeat (first | (with_reducible first | exact HB.out | apply below_alloc | apply pw_below_drewN | apply below_drew1) | exact HB.out)) HO_t106.out); rintro e w16 ⟨rfl, hb⟩; have n0_ := Aside0.mk (below_step (by repeat (first | (with_reducible first | exact HB.out | apply below_alloc | apply pw_below_drewN | apply below_drew1) | exact HB.out)) hb); clear HB; have HB := n0_; clear n0_; (try clear hb); (try clear hb2); (try clear hk); (try clear hi)))
      go_ret
      exact ⟨by first | rfl | (simp [errW_none, errW_some] <;> rfl) | (simp [*, errW_none, errW_some] <;> rfl), by first | (refine HB00.out.trans (Below.mono ?_ HB00.out.size); (repeat (first | (with_reducible first | exact HB.out | apply below_alloc | apply pw_below_drewN | apply below_drew1) | exact HB.out))) | (repeat (first | (with_reducible first | exact HB.out | apply below_alloc | apply pw_below_drewN | apply below_drew1) | exact HB.out))⟩
  · rw [if_neg c2] at H
    have c2b0 : (t107 == 0) = false := beq_eq_false_iff_ne.mpr c2
    have c2b1 : (t107 != 0) = true := bne_iff_ne.mpr c2
    obtain rfl := Option.some.inj H
    go_enter Try.func7, Try.ntmps7
    go_wp2_with (first | ((with_reducible refine gate_dst (N := 4) rfl ?_); refine Kd.R_lit Kd.string _ 9 ?hg (N := 4) ?hd (xs := ([(⟨#[97, 98]⟩ : ByteArray), (⟨#[97]⟩ : ByteArray)] : List ByteArray)) (inner := [.string (⟨#[97, 98]⟩ : ByteArray), .string (⟨#[97]⟩ : ByteArray)]) (ok := fun _ => True) (okp := fun _ => True) ?hr ?hp (fun _ hk => hk) trivial (Below.refl _ _) (Nat.le_refl _) (by simp) ?_; (case hd => rfl); (case hg => rfl); (case hr => first | (go_simp; done) | (go_simp; rfl)); (case hp => exact (Reps.one (show Kd.M Kd.string _ _ _ (⟨#[97, 98]⟩ : ByteArray) [.string (⟨#[97, 98]⟩ : ByteArray)] from rfl) (Reps.one (show Kd.M Kd.string _ _ _ (⟨#[97]⟩ : ByteArray) [.string (⟨#[97]⟩ : ByteArray)] from rfl) (Reps.none _ _)))); intro v104 w17 ho18 hb hg_ hnew_; clear hg_ hnew_; (first | rw [← Ny103.out] at ho18 | (simp only [Int.reduceToNat] at ho18; rw [← Ny103.out] at ho18)); have n0_ := Aside0.mk (Kd.R_lower ho18 (below_size (by repeat (first | (with_reducible first | exact HB.out | apply below_alloc | apply pw_below_drewN | apply below_drew1) | exact HB.out)))); have n1_ := Aside0.mk (below_step (by repeat (first | (with_reducible first | exact HB.out | apply below_alloc | apply pw_below_drewN | apply below_drew1) | exact HB.out)) hb); clear HB; have HO105 := n0_; have HB := n1_; clear n0_ n1_; clear hb ho18; obtain ⟨Ao19, co19, eo19⟩ := Kd.R_slice HO105.out; subst eo19) | ((with_reducible refine gate_callee (f := 8) rfl ?_); refine goesL_ (some 5) rfl rfl Try.func8 (by kernel_rfl) rfl #[.slice Ao19 y103.length co19] rfl (by (try simp only [List.map_toArray, List.map_cons, List.map_nil]); first | done | rfl | (simp only [List.length_drop, List.length_take]; rfl)) ?_; (with_reducible refine (pats_New.calls _ _ y103 t106 t107 _ ?side1 ?side2 A1.out).mono ?_); (case side1 => repeat (first | exact (Kd.R_reads' HO105.out).2.2 | (with_reducible refine Kd.C_alloc ?_ _) | (with_reducible refine Kd.C_drewN ?_ _) | (with_reducible refine Kd.C_drew ?_))); (case side2 => exact (Kd.R_reads' HO105.out).2.1); rintro e w20 ⟨Pt106, rfl, hob0, hb⟩; refine ⟨_, rfl, ?_⟩; have hbw_ := below_step (by repeat (first | (with_reducible first | exact HB.out | apply below_alloc | apply pw_below_drewN | apply below_drew1) | exact HB.out)) hb; obtain ⟨Ab108, cb108, eb108_, lb108_, gb108_⟩ := Kd.R_reads (Kd.R_below (by (with_reducible repeat (first | apply Kd.R_alloc | apply Kd.R_drewN | apply Kd.R_drew)); exact HO105.out) hb); (first | subst eb108_ | (injection eb108_ with f1_ f2_ f3_; have f4_ := f1_.symm; have f5_ := f3_.symm; clear f1_ f2_ f3_; subst f4_; subst f5_)); have HRb108 := Aside0.mk gb108_; have HCb108 := Aside0.mk lb108_; clear gb108_ lb108_; (try clear HO105); (try (have n_ := Aside0.mk (Kd.C_below HRb108.out hbw_); clear HRb108; have HRb108 := n_; clear n_)); (try (have n_ := Aside0.mk (OB.below hbw_ HO_t106.out); clear HO_t106; have HO_t106 := n_; clear n_)); (first | (have n_ := Aside0.mk (HB00.out.trans (hbw_.mono HB00.out.size)); clear HB00; have HB00 := n_; clear n_) | have HB00 := Aside0.mk hbw_); clear HB hb hbw_; have HO_t106 := Aside0.mk hob0; clear hob0; obtain ⟨w, rfl⟩ : ∃ w_ : World, w_ = w20 := ⟨_, rfl⟩; have HB := Aside0.mk (Below.refl w.heap.size w)))
    go_ret
    exact ⟨by first | rfl | (simp [errW_none, errW_some] <;> rfl) | (simp [*, errW_none, errW_some] <;> rfl), by first | (refine HB00.out.trans (Below.mono ?_ HB00.out.size); (repeat (first | (with_reducible first | exact HB.out | apply below_alloc | apply pw_below_drewN | apply below_drew1) | exact HB.out))) | (repeat (first | (with_reducible first | exact HB.out | apply below_alloc | apply pw_below_drewN | apply below_drew1) | exact HB.out))⟩

end Go.Proofs.Ytpgmpdanplmpfaa.P

/- varint.Take is takeL; no condition beyond the sizes that stand in each statement. -/
namespace Go.Proofs.Ytpgmpdanplmpfaa.Base
open Go Go.RowKit Go.Proofs.YtpgmpdanplmpfaaW.PrintWords Go.Proofs.YtpgmpdanplmpfaaW.PrintLast Go.Proofs.YtpgmpdanplmpfaaW.PrintMore Go.Proofs.Ytpgmpdanplmpfaa.P
set_option linter.unusedVariables false

theorem and127u (c : Nat) (h : c < 256) : Go.bits .and .u8 (c : Int) 127 = ((c % 128 : Nat) : Int) := by
  have e : Go.bits .and .u8 (c : Int) 127 = IntKind.u8.wrap (((BitVec.ofInt 8 (c : Int) &&& BitVec.ofInt 8 127).toNat : Int)) := rfl
  have e2 : (BitVec.ofInt 8 (c : Int) &&& BitVec.ofInt 8 127).toNat = c % 128 := by
    rw [BitVec.toNat_and, BitVec.toNat_ofInt, BitVec.toNat_ofInt]
    rw [show ((c : Int) % ((2 ^ 8 : Nat) : Int)).toNat = c by omega, show ((127 : Int) % ((2 ^ 8 : Nat) : Int)).toNat = 127 by decide]
    exact Nat.and_two_pow_sub_one_eq_mod c 7
  rw [e, e2]
  have key : ∀ x : Fin 128, IntKind.u8.wrap ((x.val : Nat) : Int) = (x.val : Int) := by decide
  exact key ⟨c % 128, Nat.mod_lt _ (by decide)⟩
theorem shl7 (m i : Nat) (hi : i ≤ 8) (hm : m < 128) : shl .i64 (m : Int) ((7 * i : Nat) : Int) = ((m * 2 ^ (7 * i) : Nat) : Int) := by
  have h1 : 2 ^ (7 * i) ≤ 2 ^ 56 := Nat.pow_le_pow_right (by decide) (by omega)
  have h2 : m * 2 ^ (7 * i) ≤ 127 * 2 ^ 56 := Nat.mul_le_mul (by omega) h1
  have h3 : m * 2 ^ (7 * i) < 9223372036854775808 := Nat.lt_of_le_of_lt h2 (by decide)
  unfold shl
  rw [Int.toNat_natCast, Nat.min_eq_left (show 7 * i ≤ IntKind.i64.bits by show 7 * i ≤ 64; omega)]
  have e : (m : Int) * 2 ^ (7 * i) = ((m * 2 ^ (7 * i) : Nat) : Int) := by rw [Int.natCast_mul, Int.natCast_pow]; rfl
  rw [e]
  generalize m * 2 ^ (7 * i) = y at h3
  rw [i64_w, wrap_id (by omega) (by omega)]
theorem hiL_is : ∀ (l : List UInt8) (i : Nat), i ≤ hiL l → i < l.length → (l.getD i 0).toNat < 128 → hiL l = i
  | [], i, _, h, _ => by simp at h
  | c :: l, 0, _, _, h => by
    rw [List.getD_cons_zero] at h
    simp only [hiL]
    rw [if_neg (by omega)]
  | c :: l, i + 1, h1, h2, h3 => by
    rw [List.getD_cons_succ] at h3
    simp only [hiL] at h1 ⊢
    by_cases hc : 128 ≤ c.toNat
    · rw [if_pos hc] at h1 ⊢
      rw [hiL_is l i (by omega) (by rw [List.length_cons] at h2; omega) h3]
    · rw [if_neg hc] at h1; omega
theorem hiL_up : ∀ (l : List UInt8) (i : Nat), i ≤ hiL l → i < l.length → ¬ (l.getD i 0).toNat < 128 → i + 1 ≤ hiL l
  | [], i, _, h, _ => by simp at h
  | c :: l, 0, _, _, h => by
    rw [List.getD_cons_zero] at h
    simp only [hiL]
    rw [if_pos (by omega)]
    omega
  | c :: l, i + 1, h1, h2, h3 => by
    rw [List.getD_cons_succ] at h3
    simp only [hiL] at h1 ⊢
    by_cases hc : 128 ≤ c.toNat
    · rw [if_pos hc] at h1 ⊢
      have := hiL_up l i (by omega) (by rw [List.length_cons] at h2; omega) h3
      omega
    · rw [if_neg hc] at h1; omega
theorem valL_more (l : List UInt8) (i : Nat) (hi : i < l.length) (h8 : i ≤ 8) : Go.bits .or .i64 ((valL (l.take i) : Nat) : Int) (shl .i64 (wrap64 (Go.bits .and .u8 ((l.getD i 0).toNat : Int) 127)) (wrap64 (7 * (i : Int)))) = ((valL (l.take (i + 1)) : Nat) : Int) := by
  have hc := UInt8.toNat_lt (l.getD i 0)
  obtain ⟨c, hcc⟩ : ∃ c, l.getD i 0 = c := ⟨_, rfl⟩
  rw [hcc] at hc ⊢
  have hm : c.toNat % 128 < 128 := Nat.mod_lt _ (by decide)
  rw [and127u c.toNat hc, wrap_id (by omega) (by omega), show wrap64 (7 * (i : Int)) = ((7 * i : Nat) : Int) by rw [wrap_id (by omega) (by omega)]; omega, shl7 (c.toNat % 128) i h8 hm]
  have hl : (l.take i).length = i := by rw [List.length_take]; omega
  have hv := valL_lt (l.take i)
  rw [hl] at hv
  have hp : 128 ^ i = 2 ^ (7 * i) := by rw [show (128 : Nat) = 2 ^ 7 by decide, ← Nat.pow_mul]
  rw [hp] at hv
  have h1 : 2 ^ (7 * i) ≤ 2 ^ 56 := Nat.pow_le_pow_right (by decide) (by omega)
  have h2 : (c.toNat % 128) * 2 ^ (7 * i) ≤ 127 * 2 ^ 56 := Nat.mul_le_mul (by omega) h1
  have h3 : (c.toNat % 128) * 2 ^ (7 * i) < 9223372036854775808 := Nat.lt_of_le_of_lt h2 (by decide)
  have h4 : (c.toNat % 128) * 2 ^ (7 * i) + 2 ^ (7 * i) ≤ 128 * 2 ^ 56 := by
    have : (c.toNat % 128 + 1) * 2 ^ (7 * i) ≤ 128 * 2 ^ 56 := Nat.mul_le_mul (by omega) h1
    rw [Nat.add_mul, Nat.one_mul] at this
    exact this
  have h5 : 128 * 2 ^ 56 = 9223372036854775808 := by decide
  have h6 : (2 : Nat) ^ 56 = 72057594037927936 := by decide
  rw [orAdd _ _ _ hv h3 (by omega) (by omega)]
  have e : l.take (i + 1) = l.take i ++ [c] := by
    rw [List.take_add_one, List.getElem?_eq_getElem hi, ← hcc, List.getD_eq_getElem?_getD, List.getElem?_eq_getElem hi]
    rfl
  rw [e, valL_append, hl, hp]
  have e1 : valL [c] = c.toNat % 128 := by show c.toNat % 128 + 128 * 0 = _; omega
  rw [e1, Nat.mul_comm]
theorem vtake_l0 (s : ByteArray) (hs : s.size ≤ 4611686018427387904) : ∀ (d i : Nat), i + d = 9 → i ≤ hiL (LL s) → Ev (fun k => varint_Take.l0 k s ((valL ((LL s).take i) : Nat) : Int) (i : Int)) (takeN (LL s))
  | 0, i, hi, hh => by
    obtain rfl : i = 9 := by omega
    refine Ev.ret fun k => ?_
    simp only [varint_Take.l0]
    rw [if_neg (by decide)]
    unfold takeN takeL
    rw [if_pos hh]
  | d + 1, i, hi, hh => by
    have hle := hiL_le (LL s)
    have hlen := LL_length s
    by_cases h1 : i = s.size
    · refine Ev.ret fun k => ?_
      simp only [varint_Take.l0]
      rw [if_pos (by omega), if_pos (by omega)]
      unfold takeN takeL
      rw [if_neg (by omega), if_pos (by omega)]
    have hil : i < (LL s).length := by omega
    have hbt := bt_eq s (i : Int)
    rw [Int.toNat_natCast] at hbt
    have hv := valL_more (LL s) i hil (by omega)
    rw [← hbt] at hv
    have hv := Aside0.mk hv
    have hw0 : Aside0 ((0 : Int) ≤ wrap64 (7 * (i : Int))) := ⟨by rw [wrap_id (by omega) (by omega)]; omega⟩
    have hw1 : Aside0 (wrap64 ((i : Int) + 1) = ((i + 1 : Nat) : Int)) := ⟨by rw [wrap_id (by omega) (by omega)]; omega⟩
    by_cases h2 : ((LL s).getD i 0).toNat < 128
    · have he := hiL_is (LL s) i hh hil h2
      have hr : takeN (LL s) = if ((LL s).getD i 0).toNat = 0 ∧ 0 < i then (0, 0, 3) else (((valL ((LL s).take (i + 1)) : Nat) : Int), ((i + 1 : Nat) : Int), 0) := by
        unfold takeN takeL
        rw [he, if_neg (by omega), if_neg (by omega)]
      refine Ev.ret fun k => ?_
      simp only [varint_Take.l0]
      rw [if_pos (by omega), if_neg (by omega), if_pos (by omega), if_pos (by omega), if_pos hw0.out, if_pos (by rw [hbt]; omega), hv.out, hw1.out]
      by_cases h3 : ((LL s).getD i 0).toNat = 0
      · rw [if_pos (by rw [hbt]; omega)]
        by_cases h4 : 0 < i
        · rw [if_pos (by omega), hr, if_pos ⟨h3, h4⟩]
        · rw [if_neg (by omega), hr, if_neg (fun h => h4 h.2)]
      · rw [if_neg (by rw [hbt]; omega), hr, if_neg (fun h => h3 h.1)]
    · have he := hiL_up (LL s) i hh hil h2
      refine Ev.step (f := fun k => varint_Take.l0 k s ((valL ((LL s).take (i + 1)) : Nat) : Int) ((i + 1 : Nat) : Int)) (fun k => ?_) (vtake_l0 s hs d (i + 1) (by omega) he)
      simp only [varint_Take.l0]
      rw [if_pos (by omega), if_neg (by omega), if_pos (by omega), if_pos (by omega), if_pos hw0.out, if_neg (by rw [hbt]; omega), hv.out, hw1.out]
theorem vtake_ev (s : ByteArray) (hs : s.size ≤ 4611686018427387904) : Ev (fun k => varint_Take.f k s) (takeN (LL s)) := vtake_l0 s hs 9 0 rfl (Nat.zero_le _)
end Go.Proofs.Ytpgmpdanplmpfaa.Base

/- The reference's common beginning of two texts. -/
namespace Go.Proofs.Ytpgmpdanplmpfaa.Base
open Go Go.RowKit Go.Proofs.YtpgmpdanplmpfaaW.PrintWords Go.Proofs.YtpgmpdanplmpfaaW.PrintLast Go.Proofs.YtpgmpdanplmpfaaW.PrintMore Go.Proofs.Ytpgmpdanplmpfaa.P
set_option linter.unusedVariables false

theorem rprefix_l0 (a b : ByteArray) (ha : a.size < 4611686018427387904) : ∀ (d i : Nat), i + d = min a.size b.size →
    Ev (fun k => juratref09_Prefix.l0 k a b (i : Int)) (((i + pre ((LL a).drop i) ((LL b).drop i) : Nat)) : Int) := by
  intro d
  induction d with
  | zero =>
    intro i hi
    refine Ev.ret fun k => ?_
    have : pre ((LL a).drop i) ((LL b).drop i) = 0 := by
      have h := pre_le ((LL a).drop i) ((LL b).drop i)
      rw [List.length_drop, List.length_drop, LL_length, LL_length] at h
      omega
    rw [this]
    simp only [juratref09_Prefix.l0]
    by_cases h : i < a.size
    · rw [if_pos (by omega), if_neg (by omega)]; rfl
    · rw [if_neg (by omega)]; rfl
  | succ d ih =>
    intro i hi
    have h1 : i < (LL a).length := by rw [LL_length]; omega
    have h2 : i < (LL b).length := by rw [LL_length]; omega
    rw [getD_drop (LL a) i 0 h1, getD_drop (LL b) i 0 h2]
    by_cases h : bt a i = bt b i
    · have h' : (LL a).getD i 0 = (LL b).getD i 0 := by
        rw [bt_eq, bt_eq, Int.toNat_natCast] at h
        exact UInt8.toNat_inj.1 (by omega)
      refine Ev.step (f := fun k => juratref09_Prefix.l0 k a b ((i + 1 : Nat) : Int)) (fun k => ?_) ?_
      · simp only [juratref09_Prefix.l0]
        rw [if_pos (by omega), if_pos (by omega), if_pos (by omega), if_pos h, wrap_id (by omega) (by omega)]
        rfl
      · have := ih (i + 1) (by omega)
        simp only [pre, if_pos h']
        rw [show i + (pre ((LL a).drop (i + 1)) ((LL b).drop (i + 1)) + 1) = i + 1 + pre ((LL a).drop (i + 1)) ((LL b).drop (i + 1)) by omega]
        exact this
    · have h' : ¬ (LL a).getD i 0 = (LL b).getD i 0 := fun e => h (by rw [bt_eq, bt_eq, Int.toNat_natCast, e])
      refine Ev.ret fun k => ?_
      simp only [juratref09_Prefix.l0]
      rw [if_pos (by omega), if_pos (by omega), if_pos (by omega), if_neg h]
      simp only [pre, if_neg h']
      rfl
theorem rprefix_ev (a b : ByteArray) (ha : a.size < 4611686018427387904) : Ev (fun k => juratref09_Prefix.f k a b) (pre (LL a) (LL b) : Int) := by
  have h := rprefix_l0 a b ha (min a.size b.size) 0 (by omega)
  rw [List.drop_zero, List.drop_zero, Nat.zero_add] at h
  exact h
end Go.Proofs.Ytpgmpdanplmpfaa.Base

/- A book whole: what the reference puts is what is put; the layer's example; no condition beyond the sizes that stand in each statement. -/
namespace Go.Proofs.Ytpgmpdanplmpfaa.Base
open Go Go.RowKit Go.Proofs.YtpgmpdanplmpfaaW.PrintWords Go.Proofs.YtpgmpdanplmpfaaW.PrintLast Go.Proofs.YtpgmpdanplmpfaaW.PrintMore Go.Proofs.Ytpgmpdanplmpfaa.P
set_option linter.unusedVariables false

theorem LL_strU (l : List UInt8) : LL (strU l) = l := by simp [LL, strU]
theorem strU_size (l : List UInt8) : (strU l).size = l.length := by rw [← LL_length, LL_strU]
theorem num_str (n : Nat) : strOfNums [((n : Int)) % 256] = strU [UInt8.ofNat n] := by
  apply LL_inj
  rw [LL_strU]
  unfold strOfNums LL
  simp only [List.map_cons, List.map_nil]
  show [UInt8.ofNat (((n : Int) % 256).toNat)] = [UInt8.ofNat n]
  rw [show ((n : Int) % 256).toNat = n % 256 by omega]
  congr 1
  exact UInt8.toNat_inj.1 (by rw [UInt8.toNat_ofNat', UInt8.toNat_ofNat']; omega)
theorem rput02_f : ∀ (f n : Nat), n < 128 ^ (f + 1) → n ≤ 9223372036854775807 → f ≤ 20 → Ev (fun k => juratref02_Put.f k (n : Int)) (strU (vputF f n))
  | 0, n, h, hn, hf => by
    refine Ev.ret fun k => ?_
    simp only [juratref02_Put.f]
    rw [if_neg (by omega), if_pos (by have : n < 128 := by simpa using h
                                      omega), num_str]
    rfl
  | f + 1, n, h, hn, hf => by
    by_cases h1 : 127 < n
    · have ih := rput02_f f (n / 128) (by rw [Nat.div_lt_iff_lt_mul (by decide)]; rw [Nat.pow_succ] at h; exact h) (by omega) (by omega)
      have e1 : wrap64 (Int.tmod (n : Int) 128 + 128) = ((n % 128 + 128 : Nat) : Int) := by
        rw [Int.tmod_eq_emod_of_nonneg (by omega), wrap_id (by omega) (by omega)]
        omega
      have e2 : wrap64 (Int.tdiv (n : Int) 128) = ((n / 128 : Nat) : Int) := by
        rw [Int.tdiv_eq_ediv_of_nonneg (by omega), wrap_id (by omega) (by omega)]
        omega
      refine Ev.step (f := fun k => (juratref02_Put.f k ((n / 128 : Nat) : Int)).bind fun t173 => (if (strU [UInt8.ofNat (n % 128 + 128)]).size + t173.size ≤ 9223372036854775807 then (some (strU [UInt8.ofNat (n % 128 + 128)] ++ t173)) else (none))) (fun k => ?_) ?_
      · simp only [juratref02_Put.f]
        rw [if_neg (by omega), if_neg (by omega), e1, e2]
        simp only [Option.bind_some]
        rw [num_str]
      · refine Ev.bind ih (Ev.const fun k => ?_)
        have hz := (vputF_length f (n / 128)).2
        rw [if_pos (by rw [strU_size, strU_size, List.length_singleton]; omega)]
        congr 1
        apply LL_inj
        rw [LL_append, LL_strU, LL_strU, LL_strU]
        show _ = (if 127 < n then UInt8.ofNat (n % 128 + 128) :: vputF f (n / 128) else [UInt8.ofNat n])
        rw [if_pos h1]
        rfl
    · refine Ev.ret fun k => ?_
      simp only [juratref02_Put.f]
      rw [if_neg (by omega), if_pos (by omega), num_str]
      show _ = some (strU (if 127 < n then UInt8.ofNat (n % 128 + 128) :: vputF f (n / 128) else [UInt8.ofNat n]))
      rw [if_neg h1]
theorem rput02_ev (n : Nat) (h : n ≤ 9223372036854775807) : Ev (fun k => juratref02_Put.f k (n : Int)) (strU (vputL n)) := by
  have h9 : n < 128 ^ 9 := Nat.lt_of_le_of_lt h (by decide)
  rw [vputL_eq n h9]
  exact rput02_f 8 n h9 h (by omega)
/-- One pattern more. -/
theorem rput11_one (l : List ByteArray) (acc s : ByteArray) (kk : Nat) (i1 : Int) (r : ByteArray) (ha : acc.size ≤ 4297000000) (hs : s.size ≤ 65535) (hk : kk ≤ s.size)
    (h : ∀ acc' : ByteArray, LL acc' = LL acc ++ (vputL kk ++ (vputL (s.size - kk) ++ (LL s).drop kk)) → Ev (fun k => juratref11_Put.l0 k l acc' i1) r) :
    Ev (fun k => (juratref02_Put.f k (kk : Int)).bind fun t178 => (if acc.size + t178.size ≤ 9223372036854775807 then ((juratref02_Put.f k ((s.size - kk : Nat) : Int)).bind fun t180 => (if (acc ++ t178).size + t180.size ≤ 9223372036854775807 then (if ((acc ++ t178) ++ t180).size + (s.extract kk s.size).size ≤ 9223372036854775807 then (juratref11_Put.l0 k l (((acc ++ t178) ++ t180) ++ (s.extract kk s.size)) i1) else (none)) else (none))) else (none))) r := by
  have z1 : (strU (vputL kk)).size ≤ 10 := by rw [strU_size]; exact vputL_len kk
  have z2 : (strU (vputL (s.size - kk))).size ≤ 10 := by rw [strU_size]; exact vputL_len _
  refine Ev.bind (rput02_ev kk (by omega)) ?_
  refine Ev.congr (fun k => if_pos (by omega)) ?_
  refine Ev.bind (rput02_ev (s.size - kk) (by omega)) ?_
  refine Ev.congr (fun k => if_pos (by rw [ByteArray.size_append]; omega)) ?_
  refine Ev.congr (fun k => if_pos (by rw [ByteArray.size_append, ByteArray.size_append, ByteArray.size_extract]; omega)) ?_
  refine h _ ?_
  rw [LL_append, LL_append, LL_append, LL_strU, LL_strU, LL_extract, List.take_of_length_le (by rw [LL_length]; exact Nat.le_refl _), List.append_assoc, List.append_assoc]
theorem rput11_l0 (l : List ByteArray) (h0 : 0 < l.length) (hl : l.length ≤ 65535) (hs : ∀ s ∈ l, s.size ≤ 65535) : ∀ (d i : Nat) (acc : ByteArray), i + d = l.length →
    LL acc = headL ++ (vputL l.length ++ bkRows [] ((l.map LL).take i)) → Ev (fun k => juratref11_Put.l0 k l acc (i : Int)) (strU (bkPut (l.map LL)))
  | 0, i, acc, hi, ha => by
    refine Ev.ret fun k => ?_
    simp only [juratref11_Put.l0]
    rw [if_neg (by omega)]
    congr 1
    apply LL_inj
    rw [LL_strU, ha, List.take_of_length_le (by rw [List.length_map]; omega)]
    unfold bkPut
    rw [if_neg (by rw [List.length_map]; omega), List.length_map]
  | d + 1, i, acc, hi, ha => by
    have hil : i < l.length := by omega
    obtain ⟨s, hsi⟩ : ∃ s, l.getD i ByteArray.empty = s := ⟨_, rfl⟩
    have hsz : s.size ≤ 65535 := by rw [← hsi]; exact hs _ (getD_mem l i _ hil)
    have hsL : (l.map LL).getD i [] = LL s := by
      rw [← hsi, List.getD_eq_getElem?_getD, List.getElem?_map, List.getD_eq_getElem?_getD, List.getElem?_eq_getElem hil]
      rfl
    have hal : acc.size ≤ 4297000000 := by
      have h1 := vputL_len l.length
      have h2 := bkRows_len ((l.map LL).take i) [] (fun s hs' => by
        obtain ⟨t, ht, rfl⟩ := List.mem_map.1 (List.mem_of_mem_take hs')
        rw [LL_length]
        exact hs t ht)
      have h3 : ((l.map LL).take i).length ≤ 65535 := by rw [List.length_take, List.length_map]; omega
      have h4 := Nat.mul_le_mul_right 65555 h3
      rw [← LL_length, ha, List.length_append, List.length_append]
      show 6 + _ ≤ _
      omega
    have hx : rdOf ByteArray.empty l (i : Int) = s := by unfold rdOf; rw [Int.toNat_natCast]; exact hsi
    have hnext : ∀ kk, kk = pre (aheadL (l.map LL) i) (LL s) → ∀ acc' : ByteArray, LL acc' = LL acc ++ (vputL kk ++ (vputL (s.size - kk) ++ (LL s).drop kk)) → Ev (fun k => juratref11_Put.l0 k l acc' ((i + 1 : Nat) : Int)) (strU (bkPut (l.map LL))) := by
      rintro kk rfl acc' ha'
      refine rput11_l0 l h0 hl hs d (i + 1) acc' (by omega) ?_
      rw [ha', ha, bkRows_take _ _ (by rw [List.length_map]; exact hil), hsL]
      unfold bkRow
      rw [LL_length]
      simp only [List.append_assoc]
    have hw1 : wrap64 ((i : Int) + 1) = ((i + 1 : Nat) : Int) := by rw [wrap_id (by omega) (by omega)]; omega
    by_cases hz : i = 0
    · have hpre : 0 = pre (aheadL (l.map LL) i) (LL s) := by
        unfold aheadL
        rw [if_pos hz]
        cases LL s <;> rfl
      refine Ev.step (f := fun k => (juratref02_Put.f k ((0 : Nat) : Int)).bind fun t178 => (if acc.size + t178.size ≤ 9223372036854775807 then ((juratref02_Put.f k ((s.size - 0 : Nat) : Int)).bind fun t180 => (if (acc ++ t178).size + t180.size ≤ 9223372036854775807 then (if ((acc ++ t178) ++ t180).size + (s.extract 0 s.size).size ≤ 9223372036854775807 then (juratref11_Put.l0 k l (((acc ++ t178) ++ t180) ++ (s.extract 0 s.size)) ((i + 1 : Nat) : Int)) else (none)) else (none))) else (none))) (fun k => ?_) (rput11_one l acc s 0 _ _ hal hsz (Nat.zero_le _) (hnext 0 hpre))
      simp only [juratref11_Put.l0]
      rw [if_pos (by omega), if_neg (by omega), hx, hw1, wrap_id (show -9223372036854775808 ≤ ((s.size : Nat) : Int) by omega) (by omega)]
      simp only [if_pos (show (0 : Int) ≤ (i : Int) by omega), if_pos (show (0 : Int) ≤ ((s.size : Nat) : Int) by omega)]
      rfl
    · obtain ⟨sa, hsa⟩ : ∃ sa, l.getD (i - 1) ByteArray.empty = sa := ⟨_, rfl⟩
      have hsaz : sa.size ≤ 65535 := by rw [← hsa]; exact hs _ (getD_mem l (i - 1) _ (by omega))
      have hsaL : aheadL (l.map LL) i = LL sa := by
        unfold aheadL
        rw [if_neg hz, ← hsa, List.getD_eq_getElem?_getD, List.getElem?_map, List.getD_eq_getElem?_getD, List.getElem?_eq_getElem (show i - 1 < l.length by omega)]
        rfl
      obtain ⟨kk, hkk⟩ : ∃ kk, pre (LL sa) (LL s) = kk := ⟨_, rfl⟩
      have hks : kk ≤ s.size := by
        have := (pre_le (LL sa) (LL s)).2
        rw [hkk, LL_length] at this
        exact this
      have hpf := rprefix_ev sa s (by omega)
      rw [hkk] at hpf
      have hx1 : rdOf ByteArray.empty l ((i - 1 : Nat) : Int) = sa := by unfold rdOf; rw [Int.toNat_natCast]; exact hsa
      have hw0 : wrap64 ((i : Int) - 1) = ((i - 1 : Nat) : Int) := by rw [wrap_id (by omega) (by omega)]; omega
      refine Ev.step (f := fun k => (juratref09_Prefix.f k sa s).bind fun t177 => ((juratref02_Put.f k t177).bind fun t178 => (if acc.size + t178.size ≤ 9223372036854775807 then ((juratref02_Put.f k (wrap64 ((s.size : Int) - t177))).bind fun t180 => (if (acc ++ t178).size + t180.size ≤ 9223372036854775807 then (if 0 ≤ t177 then (if t177 ≤ (s.size : Int) then (if ((acc ++ t178) ++ t180).size + (s.extract (t177 : Int).toNat s.size).size ≤ 9223372036854775807 then (juratref11_Put.l0 k l (((acc ++ t178) ++ t180) ++ (s.extract (t177 : Int).toNat s.size)) ((i + 1 : Nat) : Int)) else (none)) else (none)) else (none)) else (none))) else (none)))) (fun k => ?_) (Ev.bind hpf (Ev.congr (fun k => ?_) (rput11_one l acc s kk _ _ hal hsz hks (hnext kk (by rw [hsaL, hkk])))))
      · simp only [juratref11_Put.l0]
        rw [if_pos (by omega), if_pos (by omega), hw0, if_pos (by omega), if_pos (by omega), if_pos (by omega), hx, hx1, hw1]
      · have e1 : wrap64 ((s.size : Int) - (kk : Int)) = ((s.size - kk : Nat) : Int) := by rw [wrap_id (by omega) (by omega)]; omega
        simp only [e1, Int.toNat_natCast, if_pos (show (0 : Int) ≤ (kk : Int) by omega), if_pos (show (kk : Int) ≤ (s.size : Int) by omega)]
theorem rput11_ev (l : List ByteArray) (hl : l.length ≤ 65535) (hs : ∀ s ∈ l, s.size ≤ 65535) : Ev (fun k => juratref11_Put.f k l) (strU (bkPut (l.map LL))) := by
  by_cases h0 : l.length = 0
  · refine Ev.const fun k => ?_
    unfold juratref11_Put.f
    rw [if_pos (by omega)]
    obtain rfl := List.eq_nil_of_length_eq_zero h0
    rfl
  · have hp := rput02_ev l.length (by omega)
    refine Ev.congr (f := fun k => (juratref02_Put.f k (l.length : Int)).bind fun t174 => (if 6 + t174.size ≤ 9223372036854775807 then (juratref11_Put.l0 k l ((⟨#[106, 117, 114, 97, 116, 1]⟩ : ByteArray) ++ t174) 0) else (none))) (fun k => ?_) (Ev.bind hp ?_)
    · show juratref11_Put.f k l = _
      unfold juratref11_Put.f
      rw [if_neg (by omega)]
    · have hz : (strU (vputL l.length)).size ≤ 10 := by rw [strU_size]; exact vputL_len _
      refine Ev.congr (fun k => if_pos (by omega)) ?_
      refine rput11_l0 l (by omega) hl hs l.length 0 _ (by omega) ?_
      rw [LL_append, LL_strU, List.take_zero]
      show headL ++ vputL l.length = headL ++ (vputL l.length ++ [])
      rw [List.append_nil]
/-- What is put of a set. -/
theorem put_ok {l w : List ByteArray} {x : Option SetD} {e : Int} (h : SetOk l x w e) : book_Put.f x = some (strU (bkPut (w.map LL))) := by
  rcases h.kind with ⟨_, h1, rfl, rfl, h4⟩ | ⟨_, rfl, rfl⟩
  · show (if 0 < (sortB l).length ∧ (sortB l).length ≤ 65535 ∧ ∀ s ∈ sortB l, s.size ≤ 65535 then some (strU (bkPut ((sortB l).map LL))) else none) = _
    rw [if_pos ⟨h1, h.few, h.size⟩]
  · rfl
theorem awake11 : juratlaw11_awake.f = some true := by
  have n1 : pats_New.f [(⟨#[97, 98]⟩ : ByteArray), (⟨#[97]⟩ : ByteArray)] = some (some ⟨[(⟨#[97]⟩ : ByteArray), (⟨#[97, 98]⟩ : ByteArray)], 1, 2, 3⟩, 0) := by
    have hs : sortB [(⟨#[97, 98]⟩ : ByteArray), (⟨#[97]⟩ : ByteArray)] = [(⟨#[97]⟩ : ByteArray), (⟨#[97, 98]⟩ : ByteArray)] := by
      refine (sortB_of ?_ ?_).symm
      · exact (show ([0, 1] : List Nat).Perm [1, 0] by decide).map (fun i => ([⟨#[97]⟩, ⟨#[97, 98]⟩] : List ByteArray).getD i ByteArray.empty)
      · decide
    unfold pats_New.f
    rw [hs]
    rfl
  have p1 : book_Put.f (some ⟨[(⟨#[97]⟩ : ByteArray), (⟨#[97, 98]⟩ : ByteArray)], 1, 2, 3⟩) = some (strU [106, 117, 114, 97, 116, 1, 2, 0, 1, 97, 1, 1, 98]) := by
    simp only [book_Put.f]
    rw [if_pos ⟨by decide, by decide, by intro s hs; simp only [List.mem_cons, List.not_mem_nil, or_false] at hs; rcases hs with rfl | rfl <;> decide⟩]
    have : bkPut ([(⟨#[97]⟩ : ByteArray), (⟨#[97, 98]⟩ : ByteArray)].map LL) = [106, 117, 114, 97, 116, 1, 2, 0, 1, 97, 1, 1, 98] := by decide
    rw [this]
  have t1 : (strU [106, 117, 114, 97, 116, 1, 2, 0, 1, 97, 1, 1, 98]).toList = [106, 117, 114, 97, 116, 1, 2, 0, 1, 97, 1, 1, 98] := by rw [ByteArray.toList_eq]; rfl
  have t2 : (ByteArray.empty).toList = ([] : List UInt8) := by rw [ByteArray.toList_eq]; rfl
  unfold juratlaw11_awake.f
  rw [n1]
  simp only [Option.bind_some]
  rw [if_pos trivial, p1]
  simp only [Option.bind_some]
  rw [if_pos t1]
  show some (ByteArray.empty.toList == []) = _
  rw [t2]
  rfl
end Go.Proofs.Ytpgmpdanplmpfaa.Base

/- What the reader of a book computes is tkRow; no condition beyond the sizes that stand in each statement. -/
namespace Go.Proofs.Ytpgmpdanplmpfaa.Base
open Go Go.RowKit Go.Proofs.YtpgmpdanplmpfaaW.PrintWords Go.Proofs.YtpgmpdanplmpfaaW.PrintLast Go.Proofs.YtpgmpdanplmpfaaW.PrintMore Go.Proofs.Ytpgmpdanplmpfaa.P
set_option linter.unusedVariables false

theorem takeN_err {l : List UInt8} (h : (takeN l).2.2 ≠ 0) : takeN l = (0, 0, (takeN l).2.2) := by
  unfold takeN takeL at h ⊢
  split
  · rfl
  · split
    · rfl
    · split
      · rfl
      · rename_i h1 h2 h3
        rw [if_neg h1, if_neg h2, if_neg h3] at h
        exact absurd rfl h
theorem takeN_ok {l : List UInt8} (h : (takeN l).2.2 = 0) : ∃ m j : Nat, takeN l = ((m : Int), (j : Int), 0) ∧ j ≤ l.length ∧ 1 ≤ j ∧ j ≤ 9 ∧ m ≤ 9223372036854775807 := by
  obtain ⟨⟨n, k, e⟩, hq⟩ : ∃ q, takeN l = q := ⟨_, rfl⟩
  rw [hq] at h
  simp only at h
  subst h
  obtain ⟨m, j, rfl, rfl, h1, h2, h3, h4, h5⟩ := put_take 5 4 3 l n k (by decide) hq
  have : (128 : Nat) ^ 9 = 9223372036854775808 := by decide
  exact ⟨m, j, hq, h1, h2, h3, by omega⟩
theorem num_err {s a : ByteArray} {t : Int} (hs : s.size ≤ 4611686018427387904) (h : (takeN (LL s)).2.2 ≠ 0) : Ev (fun k => book_reader_num.f k s a t) (0, (takeN (LL s)).2.2, s, a, t) := by
  have hv := vtake_ev s hs
  rw [takeN_err h] at hv
  refine Ev.bind hv (Ev.const fun k => ?_)
  simp only
  rw [if_pos (by decide), if_pos (by omega)]
  show some (0, (takeN (LL s)).2.2, s.extract 0 s.size, a, t) = _
  rw [extract_full]
theorem num_ok {s a : ByteArray} {t : Int} {m j : Nat} (hs : s.size ≤ 4611686018427387904) (h : takeN (LL s) = ((m : Int), (j : Int), 0)) (hj : j ≤ s.size) : Ev (fun k => book_reader_num.f k s a t) ((m : Int), 0, s.extract j s.size, a, t) := by
  have hv := vtake_ev s hs
  rw [h] at hv
  refine Ev.bind hv (Ev.const fun k => ?_)
  simp only
  rw [if_pos (by omega), if_pos (by omega), Int.toNat_natCast]
theorem LL_tail (s : ByteArray) (j : Nat) : LL (s.extract j s.size) = (LL s).drop j := by
  rw [LL_extract, List.take_of_length_le (by rw [LL_length]; exact Nat.le_refl _)]
theorem lengths_err1 {s a : ByteArray} {t : Int} (hs : s.size ≤ 4611686018427387904) (h : (takeN (LL s)).2.2 ≠ 0) : Ev (fun k => book_reader_lengths.f k s a t) (0, 0, (takeN (LL s)).2.2, s, a, t) := by
  refine Ev.bind (num_err hs h) (Ev.const fun k => ?_)
  simp only
  rw [if_neg h]
theorem lengths_err2 {s a : ByteArray} {t : Int} {m j : Nat} (hs : s.size ≤ 4611686018427387904) (h1 : takeN (LL s) = ((m : Int), (j : Int), 0)) (hj : j ≤ s.size) (h : (takeN ((LL s).drop j)).2.2 ≠ 0) :
    Ev (fun k => book_reader_lengths.f k s a t) (0, 0, (takeN ((LL s).drop j)).2.2, s.extract j s.size, a, t) := by
  have hz : (s.extract j s.size).size ≤ 4611686018427387904 := by rw [ByteArray.size_extract]; omega
  rw [← LL_tail] at h ⊢
  refine Ev.bind (num_ok hs h1 hj) ?_
  refine Ev.congr (fun k => if_pos rfl) ?_
  refine Ev.bind (num_err hz h) (Ev.const fun k => ?_)
  simp only
  rw [if_neg h]
theorem lengths_ok {s a s2 : ByteArray} {t m j b q : Nat} (hs : s.size ≤ 4611686018427387904) (h1 : takeN (LL s) = ((m : Int), (j : Int), 0)) (hj : j ≤ s.size) (h2 : takeN ((LL s).drop j) = ((b : Int), (q : Int), 0)) (hq : q ≤ s.size - j)
    (hs2 : s2 = (s.extract j s.size).extract q (s.extract j s.size).size) (ha : a.size ≤ 65535) (ht : t ≤ 16777216) (hb : b ≤ 9223372036854775807) :
    Ev (fun k => book_reader_lengths.f k s a (t : Int)) ((m : Int), (b : Int), lenE m b a.size t s2.size, s2, a, (t : Int)) := by
  have hz : (s.extract j s.size).size = s.size - j := by rw [ByteArray.size_extract]; omega
  rw [← LL_tail] at h2
  refine Ev.bind (num_ok hs h1 hj) ?_
  refine Ev.congr (fun k => if_pos rfl) ?_
  have hz5 : (s.extract j s.size).size ≤ 4611686018427387904 := by omega
  have hq5 : q ≤ (s.extract j s.size).size := by omega
  refine Ev.bind (num_ok hz5 h2 hq5) ?_
  refine Ev.congr (fun k => if_pos rfl) ?_
  rw [← hs2]
  simp only
  unfold lenE
  by_cases g1 : (m : Int) > (a.size : Int)
  · rw [if_pos g1]
    exact Ev.congr (fun k => if_pos g1) (Ev.const fun k => rfl)
  rw [if_neg g1]
  refine Ev.congr (fun k => if_neg g1) ?_
  by_cases g2 : (b : Int) = 0
  · refine Ev.congr (fun k => if_pos g2) (Ev.ret fun k => ?_)
    simp only [book_reader_lengths.j0]
    by_cases g3 : (m : Int) = 0
    · rw [if_pos (by rw [g3]; rfl), if_pos ⟨g2, g3⟩]
    · rw [if_neg (by simpa using (fun h : m = 0 => g3 (by omega))), if_pos g2, if_neg (fun h => g3 h.2), if_pos g2]
  · refine Ev.congr (fun k => if_neg g2) (Ev.ret fun k => ?_)
    simp only [book_reader_lengths.j0]
    rw [if_neg (by simp), if_neg g2, wrap_id (show -9223372036854775808 ≤ 65535 - (m : Int) by omega) (by omega)]
    rw [if_neg (fun h : (b : Int) = 0 ∧ (m : Int) = 0 => g2 h.1), if_neg g2]
    by_cases g4 : (b : Int) > 65535 - (m : Int)
    · rw [if_pos g4, if_pos g4]
    rw [if_neg g4, if_neg g4, wrap_id (show -9223372036854775808 ≤ (m : Int) + (b : Int) by omega) (by omega), wrap_id (show -9223372036854775808 ≤ 16777216 - (t : Int) by omega) (by omega)]
    by_cases g5 : (m : Int) + (b : Int) > 16777216 - (t : Int)
    · rw [if_pos g5, if_pos g5]
    rw [if_neg g5, if_neg g5]
    by_cases g6 : (b : Int) > (s2.size : Int)
    · rw [if_pos g6, if_pos g6]
    · rw [if_neg g6, if_neg g6]
theorem bt_nat (s : ByteArray) (i : Nat) : bt s (i : Int) = (((LL s).getD i 0).toNat : Int) := by rw [bt_eq, Int.toNat_natCast]
/-- The next pattern. -/
theorem pattern_ev (s a : ByteArray) (t : Nat) (hs : s.size ≤ 1073741824) (ha : a.size ≤ 65535) (ht : t ≤ 16777216) :
    (∃ s' a' t', (tkRow (LL a) t (LL s)).1 ≠ 0 ∧ Ev (fun k => book_reader_pattern.f k s a (t : Int)) (ByteArray.empty, (tkRow (LL a) t (LL s)).1, s', a', t')) ∨
    ((tkRow (LL a) t (LL s)).1 = 0 ∧ Ev (fun k => book_reader_pattern.f k s a (t : Int)) (strU (tkRow (LL a) t (LL s)).2.1, 0, strU (tkRow (LL a) t (LL s)).2.2, strU (tkRow (LL a) t (LL s)).2.1, ((t + (tkRow (LL a) t (LL s)).2.1.length : Nat) : Int))) := by
  have hLs := LL_length s
  have hLa := LL_length a
  by_cases e1 : (takeN (LL s)).2.2 = 0
  rotate_left
  · left
    have e : tkRow (LL a) t (LL s) = ((takeN (LL s)).2.2, [], []) := by unfold tkRow; rw [if_pos e1]
    rw [e]
    refine ⟨s, a, (t : Int), e1, ?_⟩
    refine Ev.bind (lengths_err1 (by omega) e1) (Ev.const fun k => ?_)
    simp only
    rw [if_neg e1]
    rfl
  obtain ⟨m, j, h1, hj, _, _, hm⟩ := takeN_ok e1
  by_cases e2 : (takeN ((LL s).drop j)).2.2 = 0
  rotate_left
  · left
    have e : tkRow (LL a) t (LL s) = ((takeN ((LL s).drop j)).2.2, [], []) := by
      unfold tkRow
      rw [h1]
      simp only [Int.toNat_natCast]
      rw [if_neg (by decide), if_pos e2]
    rw [e]
    refine ⟨s.extract j s.size, a, (t : Int), e2, Ev.bind (lengths_err2 (by omega) h1 (by omega) e2) (Ev.const fun k => ?_)⟩
    simp only
    rw [if_neg e2]
    rfl
  obtain ⟨b, q, h2, hq, _, _, hb⟩ := takeN_ok e2
  rw [List.length_drop, hLs] at hq
  obtain ⟨s2, hs2⟩ : ∃ s2, (s.extract j s.size).extract q (s.extract j s.size).size = s2 := ⟨_, rfl⟩
  have hL2 : ((LL s).drop j).drop q = LL s2 := by rw [← hs2, LL_tail, LL_tail]
  have hlen := lengths_ok (a := a) (t := t) (show s.size ≤ 4611686018427387904 by omega) h1 (by omega) h2 hq hs2.symm ha ht hb
  have htk := tkRow_of (ahead := LL a) (total := t) h1 h2 hL2
  have hL2l := LL_length s2
  rw [hLa, hL2l] at htk
  have hz2 : s2.size ≤ s.size := by
    rw [← hs2, ByteArray.size_extract, ByteArray.size_extract]
    omega
  by_cases g : lenE (m : Int) (b : Int) (a.size : Int) (t : Int) (s2.size : Int) = 0
  rotate_left
  · left
    rw [if_pos g] at htk
    rw [htk]
    refine ⟨s2, a, (t : Int), g, Ev.bind hlen (Ev.const fun k => ?_)⟩
    simp only
    rw [if_neg g]
    rfl
  rw [if_neg (fun h => h g)] at htk
  obtain ⟨z1, z2, z3, z4, z5⟩ := lenE_zero g
  have hgo : ∀ f : Bool, f = false → Ev (fun k => book_reader_pattern.j0 k (m : Int) (b : Int) f s2 a (t : Int)) (strU ((LL a).take m ++ (LL s2).take b), 0, strU ((LL s2).drop b), strU ((LL a).take m ++ (LL s2).take b), ((t + ((LL a).take m ++ (LL s2).take b).length : Nat) : Int)) := by
    rintro f rfl
    refine Ev.ret fun k => ?_
    simp only [book_reader_pattern.j0]
    rw [if_neg (by simp), if_pos (by omega), if_pos (by omega), if_pos (by omega), if_pos (by omega), if_pos (by rw [ByteArray.size_extract, ByteArray.size_extract]; omega)]
    simp only [Int.toNat_natCast]
    have x1 : a.extract 0 m ++ s2.extract 0 b = strU ((LL a).take m ++ (LL s2).take b) := LL_inj (by
      rw [LL_append, LL_extract, LL_extract, LL_strU, List.drop_zero, List.drop_zero])
    have x2 : s2.extract b s2.size = strU ((LL s2).drop b) := LL_inj (by rw [LL_tail, LL_strU])
    have x3 : wrap64 ((t : Int) + ((strU ((LL a).take m ++ (LL s2).take b)).size : Int)) = ((t + ((LL a).take m ++ (LL s2).take b).length : Nat) : Int) := by
      rw [strU_size, wrap_id (by omega) (by rw [List.length_append, List.length_take, List.length_take]; omega)]
      omega
    rw [x1, x2, x3]
  by_cases g3 : m < a.size
  · have hs20 : 0 < s2.size := by omega
    have hbt0 := bt_nat s2 0
    have hbtm := bt_nat a m
    by_cases g4 : (LL s2).getD 0 0 = (LL a).getD m 0
    · left
      rw [if_pos ⟨g3, g4⟩] at htk
      rw [htk]
      refine ⟨s2, a, (t : Int), by decide, Ev.bind hlen ?_⟩
      refine Ev.congr (fun k => if_pos g) ?_
      refine Ev.congr (fun k => if_pos (show (m : Int) < (a.size : Int) by omega)) ?_
      refine Ev.congr (fun k => if_pos (show (0 : Int) < (s2.size : Int) by omega)) ?_
      refine Ev.congr (fun k => if_pos (show (0 : Int) ≤ (m : Int) by omega)) (Ev.ret fun k => ?_)
      simp only [book_reader_pattern.j0]
      have hb0 : bt s2 0 = bt a (m : Int) := by
        rw [hbtm, ← g4]
        exact hbt0
      rw [if_pos (by rw [hb0]; exact decide_eq_true (Int.le_refl _)), if_pos (by omega), if_pos (by omega), if_pos (by omega), if_pos hb0]
      rfl
    · by_cases g5 : ((LL s2).getD 0 0).toNat < ((LL a).getD m 0).toNat
      · left
        rw [if_neg (fun h => g4 h.2), if_pos ⟨g3, g5⟩] at htk
        rw [htk]
        refine ⟨s2, a, (t : Int), by decide, Ev.bind hlen ?_⟩
        refine Ev.congr (fun k => if_pos g) ?_
        refine Ev.congr (fun k => if_pos (show (m : Int) < (a.size : Int) by omega)) ?_
        refine Ev.congr (fun k => if_pos (show (0 : Int) < (s2.size : Int) by omega)) ?_
        refine Ev.congr (fun k => if_pos (show (0 : Int) ≤ (m : Int) by omega)) (Ev.ret fun k => ?_)
        simp only [book_reader_pattern.j0]
        have hb0 : bt s2 0 < bt a (m : Int) := by
          rw [hbtm]
          have : bt s2 0 = (((LL s2).getD 0 0).toNat : Int) := hbt0
          omega
        rw [if_pos (decide_eq_true (by omega)), if_pos (by omega), if_pos (by omega), if_pos (by omega), if_neg (by omega)]
        rfl
      · right
        rw [if_neg (fun h => g4 h.2), if_neg (fun h => g5 h.2)] at htk
        rw [htk]
        refine ⟨rfl, Ev.bind hlen ?_⟩
        refine Ev.congr (fun k => if_pos g) ?_
        refine Ev.congr (fun k => if_pos (show (m : Int) < (a.size : Int) by omega)) ?_
        refine Ev.congr (fun k => if_pos (show (0 : Int) < (s2.size : Int) by omega)) ?_
        refine Ev.congr (fun k => if_pos (show (0 : Int) ≤ (m : Int) by omega)) ?_
        refine hgo _ (decide_eq_false ?_)
        have h8 : bt s2 0 = (((LL s2).getD 0 0).toNat : Int) := hbt0
        have h9 : ((LL s2).getD 0 0).toNat ≠ ((LL a).getD m 0).toNat := fun h => g4 (UInt8.toNat_inj.1 h)
        show ¬ (bt s2 0 ≤ bt a (m : Int))
        omega
  · right
    rw [if_neg (fun h => g3 h.1), if_neg (fun h => g3 h.1)] at htk
    rw [htk]
    refine ⟨rfl, Ev.bind hlen ?_⟩
    refine Ev.congr (fun k => if_pos g) ?_
    refine Ev.congr (fun k => if_neg (show ¬ (m : Int) < (a.size : Int) by omega)) ?_
    exact hgo _ rfl
end Go.Proofs.Ytpgmpdanplmpfaa.Base

/- A set of bytes: the walk of Take. -/
namespace Go.Proofs.Ytpgmpdanplmpfaa.P
open Go Go.RowKit Go.Proofs.YtpgmpdanplmpfaaW.PrintWords Go.Proofs.YtpgmpdanplmpfaaW.PrintLast Go.Proofs.YtpgmpdanplmpfaaW.PrintMore Go.Proofs.Ytpgmpdanplmpfaa.Base
set_option linter.unusedVariables false
set_option linter.unusedSimpArgs false

theorem info11 : (Try.prog.info? 9).map (fun i => (i.zero, i.size, i.bytes)) = some (some (.string ⟨#[]⟩), 1, 16) := by kernel_rfl
theorem begins_lite (s p : ByteArray) (w : World) : Calls Try.prog 38 #[.string s, .string p] w fun e w' => e = .returned (.bool (decide (p.size ≤ s.size ∧ s.extract 0 p.size = p))) ∧ Drawn0 w w' := by
  by_cases h : p.size ≤ s.size
  · have c1 : decide ((p.size : Int) ≤ (s.size : Int)) = true := decide_eq_true (by omega)
    have c2 : (p.size : Int) ≤ (s.size : Int) := by omega
    go_enter Try.func38, Try.ntmps38
    go_wp2
    go_ret
    refine ⟨?_, ⟨0, rfl⟩⟩
    show Ending.returned (.bool _) = _
    congr 2
    by_cases g : s.extract 0 p.size = p
    · rw [decide_eq_true (show p.size ≤ s.size ∧ s.extract 0 p.size = p from ⟨h, g⟩), g]
      simp
    · rw [decide_eq_false (show ¬ (p.size ≤ s.size ∧ s.extract 0 p.size = p) from fun h => g h.2)]
      rw [beq_eq_false_iff_ne]
      exact fun h => g (toList_iff.1 h)
  · have c1 : decide ((p.size : Int) ≤ (s.size : Int)) = false := decide_eq_false (by omega)
    go_enter Try.func38, Try.ntmps38
    go_wp2
    go_ret
    refine ⟨?_, ⟨0, rfl⟩⟩
    rw [decide_eq_false (show ¬ (p.size ≤ s.size ∧ s.extract 0 p.size = p) from fun h' => h h'.1)]
    rfl
theorem begins_calls (s p : ByteArray) (w : World) : Calls Try.prog 29 #[.string s, .string p] w fun e w' => e = .returned (.bool (decide (p.size ≤ s.size ∧ s.extract 0 p.size = p))) ∧ Drawn0 w w' := by
  go_enter Try.func29, Try.ntmps29
  go_wp2_with (go_at_call 38; refine (begins_lite s p _).mono ?_; rintro e wq ⟨rfl, ⟨q, rfl⟩⟩; have HQ := Aside0.mk (rfl : w.drewN q = w.drewN q))
  go_ret
  exact ⟨by rw [Bool.decide_and]; rfl, ⟨q, rfl⟩⟩
/-- Patterns behind those that are there. -/
def comb (acc : List (List UInt8)) (q : Int × List (List UInt8) × List UInt8) : Int × List (List UInt8) × List UInt8 := if q.1 ≠ 0 then (q.1, [], []) else (0, acc ++ q.2.1, q.2.2)
theorem comb_err {acc : List (List UInt8)} {e : Int} (h : e ≠ 0) (x : List (List UInt8)) (y : List UInt8) : comb acc (e, x, y) = (e, [], []) := by unfold comb; rw [if_pos h]
theorem comb_comb (acc : List (List UInt8)) (p : List UInt8) (q : Int × List (List UInt8) × List UInt8) : comb acc (comb [p] q) = comb (acc ++ [p]) q := by
  by_cases h : q.1 = 0
  · have e1 : comb [p] q = (0, [p] ++ q.2.1, q.2.2) := by unfold comb; rw [if_neg (fun g => g h)]
    have e2 : comb (acc ++ [p]) q = (0, acc ++ [p] ++ q.2.1, q.2.2) := by unfold comb; rw [if_neg (fun g => g h)]
    rw [e1, e2]
    unfold comb
    rw [if_neg (fun g => g rfl), List.append_assoc]
  · have e1 : comb [p] q = (q.1, [], []) := by unfold comb; rw [if_pos h]
    have e2 : comb (acc ++ [p]) q = (q.1, [], []) := by unfold comb; rw [if_pos h]
    rw [e1, e2, comb_err h]
theorem rows_ok {a s p r' : List UInt8} {t m : Nat} (h : tkRow a t s = (0, p, r')) : tkRows (m + 1) a t s = comb [p] (tkRows m p (t + p.length) r') := by
  show (if (tkRow a t s).1 ≠ 0 then ((tkRow a t s).1, [], []) else _) = _
  rw [h]
  simp only
  rw [if_neg (fun g => g rfl)]
  rfl
theorem rows_err {a s : List UInt8} {t m : Nat} (h : (tkRow a t s).1 ≠ 0) : tkRows (m + 1) a t s = ((tkRow a t s).1, [], []) := by
  show (if (tkRow a t s).1 ≠ 0 then ((tkRow a t s).1, [], []) else _) = _
  rw [if_pos h]
theorem rows_form : ∀ (n : Nat) (a : List UInt8) (t : Nat) (s : List UInt8), (tkRows n a t s).1 ≠ 0 → tkRows n a t s = ((tkRows n a t s).1, [], [])
  | 0, a, t, s, h => absurd rfl h
  | n + 1, a, t, s, h => by
    by_cases h1 : (tkRow a t s).1 = 0
    · obtain ⟨⟨e, p, r'⟩, hq⟩ : ∃ q, tkRow a t s = q := ⟨_, rfl⟩
      rw [hq] at h1
      simp only at h1
      subst h1
      rw [rows_ok hq] at h ⊢
      unfold comb at h ⊢
      by_cases h2 : (tkRows n p (t + p.length) r').1 = 0
      · rw [if_neg (fun g => g h2)] at h
        exact absurd rfl h
      · rw [if_pos h2]
    · rw [rows_err h1]
theorem comb_nil (n : Nat) (a : List UInt8) (t : Nat) (s : List UInt8) : comb [] (tkRows n a t s) = tkRows n a t s := by
  by_cases h : (tkRows n a t s).1 = 0
  · unfold comb
    rw [if_neg (fun g => g h), List.nil_append]
    exact Prod.ext h.symm rfl
  · rw [rows_form n a t s h, comb_err h]
theorem map_back (l : List ByteArray) : (l.map LL).map strU = l := by
  rw [List.map_map]
  have : ∀ x : ByteArray, (strU ∘ LL) x = x := fun x => LL_inj (by rw [Function.comp, LL_strU])
  rw [List.map_congr_left (fun x _ => this x), List.map_id']
def book_Take.f (a0 : ByteArray) : Option (Option SetD × Int) :=
  if a0.size ≤ 1073741824 then (if (tkBook (LL a0)).1 = 0 then pats_New.f ((tkBook (LL a0)).2.map strU) else some (none, (tkBook (LL a0)).1)) else none
set_option maxHeartbeats 4000000 in
set_option maxRecDepth 100000 in
theorem book_Take.calls (a0 : ByteArray) (r1 : Option SetD) (r2 : Int) (w : World) (h : book_Take.f a0 = some (r1, r2)) :
    Calls Try.prog 12 #[.string a0] w fun e w' => ∃ P0_ : Option Addr, e = .returned (.tuple #[.pointer P0_, .int .i64 r2]) ∧ OB K42 w' P0_ r1 ∧ Below w.heap.size w w' := by
  unfold book_Take.f at h
  by_cases hz : a0.size ≤ 1073741824
  rotate_left
  · rw [if_neg hz] at h; cases h
  rw [if_pos hz] at h
  obtain ⟨hd6, hhd⟩ : ∃ hd6 : ByteArray, (⟨#[106, 117, 114, 97, 116, 1]⟩ : ByteArray) = hd6 := ⟨_, rfl⟩
  have hdL : LL hd6 = headL := by rw [← hhd]; rfl
  have hdz : hd6.size = 6 := by rw [← hhd]; rfl
  have HZ := Aside0.mk hz
  by_cases hp : hd6.size ≤ a0.size ∧ a0.extract 0 hd6.size = hd6
  rotate_left
  · have htk : tkBook (LL a0) = (15, []) := by
      unfold tkBook
      rw [if_pos]
      intro g
      refine hp ?_
      have hl : (LL a0).length = a0.size := LL_length a0
      have h6 : 6 ≤ a0.size := by
        have := congrArg List.length g
        rw [List.length_take, hl] at this
        have h6 : headL.length = 6 := rfl
        omega
      refine ⟨by omega, LL_inj ?_⟩
      rw [LL_extract, hdz, List.drop_zero, g, hdL]
    rw [htk] at h
    rw [if_neg (show ¬ (15 : Int) = 0 by decide)] at h
    obtain ⟨rfl, rfl⟩ := Prod.mk.inj (Option.some.inj h)
    have HP := Aside0.mk hp
    have hcal : ∀ W, Calls Try.prog 29 #[.string a0, .string ⟨#[106, 117, 114, 97, 116, 1]⟩] W fun e w' => e = .returned (.bool false) ∧ Drawn0 W w' := fun W => by
      rw [hhd]
      have := begins_calls a0 hd6 W
      rw [decide_eq_false hp] at this
      exact this
    have HC := Aside0.mk hcal
    clear h htk hp hcal hhd hdL hdz
    go_enter Try.func12, Try.ntmps12
    go_wp2_with (go_at_call 29; refine (HC.out _).mono ?_; rintro e wq ⟨rfl, ⟨q, rfl⟩⟩; have HQ := Aside0.mk (pw_below_drewN (Below.refl w.heap.size w) q))
    go_ret2
    exact ⟨none, rfl, trivial, HQ.out⟩
  have hcal : ∀ W, Calls Try.prog 29 #[.string a0, .string ⟨#[106, 117, 114, 97, 116, 1]⟩] W fun e w' => e = .returned (.bool true) ∧ Drawn0 W w' := fun W => by
    rw [hhd]
    have := begins_calls a0 hd6 W
    rw [decide_eq_true hp] at this
    exact this
  obtain ⟨s0, hs0⟩ : ∃ s0, a0.extract 6 a0.size = s0 := ⟨_, rfl⟩
  have hs0L : (LL a0).drop 6 = LL s0 := by rw [← hs0, LL_tail]
  have h6 : (LL a0).take 6 = headL := by rw [← hdL, ← hp.2, LL_extract, hdz, List.drop_zero]
  have hs0z : s0.size ≤ 1073741824 := by rw [← hs0, ByteArray.size_extract]; omega
  have h6z : 6 ≤ a0.size := by omega
  have h6i : (6 : Int) ≤ (a0.size : Int) := by omega
  have HC := Aside0.mk hcal
  have HS0 := Aside0.mk hs0
  clear hcal hhd hdL hp hs0
  by_cases e1 : (takeN (LL s0)).2.2 = 0
  rotate_left
  · have htk : tkBook (LL a0) = ((takeN (LL s0)).2.2, []) := by
      unfold tkBook
      rw [if_neg (fun g => g h6), hs0L, if_pos e1]
    rw [htk] at h
    rw [if_neg e1] at h
    obtain ⟨rfl, rfl⟩ := Prod.mk.inj (Option.some.inj h)
    obtain ⟨kn, hkn⟩ := Ev.all (num_err (a := (⟨#[]⟩ : ByteArray)) (t := 0) (show s0.size ≤ 4611686018427387904 by omega) e1)
    obtain ⟨ee, hee⟩ : ∃ ee, (takeN (LL s0)).2.2 = ee := ⟨_, rfl⟩
    rw [hee] at hkn e1 ⊢
    have hc1 : (ee != 0) = true := bne_iff_ne.2 e1
    have HKN := Aside0.mk hkn
    clear h htk hkn h6 hs0L hee
    go_enter Try.func12, Try.ntmps12
    go_wp2_with (go_at_call 29; refine (HC.out _).mono ?_; rintro e wq ⟨rfl, ⟨q, rfl⟩⟩; have HQ := Aside0.mk (pw_below_drewN (Below.refl w.heap.size w) q))
    rw [HS0.out]
    have HB1 := Aside0.mk (below_alloc HQ.out (.cells #[.string s0, .string ⟨#[]⟩, .int .i64 0] 61))
    have HI1 := Aside0.mk (IsS61.new w (w.drewN q) s0 ⟨#[]⟩ 0 HQ.out)
    refine (book_reader_num.calls kn w.heap.size s0 ⟨#[]⟩ 0 0 ee s0 ⟨#[]⟩ 0 w _ HI1.out HB1.out HKN.out).mono ?_
    rintro e w2 ⟨rfl, hI, hb, hk⟩
    have HI2 := Aside0.mk hI
    have HB2 := Aside0.mk hb
    clear hI hb hk
    dsimp only
    go_wp2_with fail
    go_ret2
    exact ⟨none, rfl, trivial, HB2.out⟩
  obtain ⟨n, j, hnj, hj, _, _, hn⟩ := takeN_ok e1
  rw [LL_length] at hj
  obtain ⟨s1, hs1⟩ : ∃ s1, s0.extract j s0.size = s1 := ⟨_, rfl⟩
  obtain ⟨kn, hkn⟩ := Ev.all (num_ok (a := (⟨#[]⟩ : ByteArray)) (t := 0) (show s0.size ≤ 4611686018427387904 by omega) hnj hj)
  rw [hs1] at hkn
  have hs1L : ((LL a0).drop 6).drop j = LL s1 := by rw [hs0L, ← hs1, LL_tail]
  have hs1z : s1.size ≤ 1073741824 := by rw [← hs1, ByteArray.size_extract]; omega
  have htk := tkBook_of h6 (by rw [hs0L]; exact hnj : takeN ((LL a0).drop 6) = ((n : Int), (j : Int), 0))
  rw [hs1L] at htk
  have HKN := Aside0.mk hkn
  clear hkn h6 hs0L hs1L hnj e1 hs1 hj
  by_cases g1 : n = 0
  · rw [if_pos g1] at htk
    rw [htk] at h
    rw [if_neg (show ¬ (14 : Int) = 0 by decide)] at h
    obtain ⟨rfl, rfl⟩ := Prod.mk.inj (Option.some.inj h)
    have hc1 : ((n : Int) == 0) = true := beq_iff_eq.2 (by omega)
    clear h htk g1
    go_enter Try.func12, Try.ntmps12
    go_wp2_with (go_at_call 29; refine (HC.out _).mono ?_; rintro e wq ⟨rfl, ⟨q, rfl⟩⟩; have HQ := Aside0.mk (pw_below_drewN (Below.refl w.heap.size w) q))
    rw [HS0.out]
    have HB1 := Aside0.mk (below_alloc HQ.out (.cells #[.string s0, .string ⟨#[]⟩, .int .i64 0] 61))
    have HI1 := Aside0.mk (IsS61.new w (w.drewN q) s0 ⟨#[]⟩ 0 HQ.out)
    refine (book_reader_num.calls kn w.heap.size s0 ⟨#[]⟩ 0 (n : Int) 0 s1 ⟨#[]⟩ 0 w _ HI1.out HB1.out HKN.out).mono ?_
    rintro e w2 ⟨rfl, hI, hb, hk⟩
    have HI2 := Aside0.mk hI
    have HB2 := Aside0.mk hb
    clear hI hb hk
    dsimp only
    go_wp2_with fail
    go_ret2
    exact ⟨none, rfl, trivial, HB2.out⟩
  rw [if_neg g1] at htk
  have hc1 : ((n : Int) == 0) = false := beq_eq_false_iff_ne.2 (by omega)
  by_cases g2 : 65535 < n
  · rw [if_pos g2] at htk
    rw [htk] at h
    rw [if_neg (show ¬ (6 : Int) = 0 by decide)] at h
    obtain ⟨rfl, rfl⟩ := Prod.mk.inj (Option.some.inj h)
    have hc2 : decide (65535 < (n : Int)) = true := decide_eq_true (by omega)
    clear h htk g1 g2
    go_enter Try.func12, Try.ntmps12
    go_wp2_with (go_at_call 29; refine (HC.out _).mono ?_; rintro e wq ⟨rfl, ⟨q, rfl⟩⟩; have HQ := Aside0.mk (pw_below_drewN (Below.refl w.heap.size w) q))
    rw [HS0.out]
    have HB1 := Aside0.mk (below_alloc HQ.out (.cells #[.string s0, .string ⟨#[]⟩, .int .i64 0] 61))
    have HI1 := Aside0.mk (IsS61.new w (w.drewN q) s0 ⟨#[]⟩ 0 HQ.out)
    refine (book_reader_num.calls kn w.heap.size s0 ⟨#[]⟩ 0 (n : Int) 0 s1 ⟨#[]⟩ 0 w _ HI1.out HB1.out HKN.out).mono ?_
    rintro e w2 ⟨rfl, hI, hb, hk⟩
    have HI2 := Aside0.mk hI
    have HB2 := Aside0.mk hb
    clear hI hb hk
    dsimp only
    go_wp2_with fail
    go_ret2
    exact ⟨none, rfl, trivial, HB2.out⟩
  rw [if_neg g2] at htk
  have hc2 : decide (65535 < (n : Int)) = false := decide_eq_false (by omega)
  have HTK := Aside0.mk htk
  have H := Aside0.mk h
  have hn5 : n ≤ 65535 := by omega
  clear h htk g1 g2 hn
  go_enter Try.func12, Try.ntmps12
  go_wp2_with (go_at_call 29; refine (HC.out _).mono ?_; rintro e wq ⟨rfl, ⟨q, rfl⟩⟩; have HQ := Aside0.mk (pw_below_drewN (Below.refl w.heap.size w) q))
  rw [HS0.out]
  have HB1 := Aside0.mk (below_alloc HQ.out (.cells #[.string s0, .string ⟨#[]⟩, .int .i64 0] 61))
  have HI1 := Aside0.mk (IsS61.new w (w.drewN q) s0 ⟨#[]⟩ 0 HQ.out)
  refine (book_reader_num.calls kn w.heap.size s0 ⟨#[]⟩ 0 (n : Int) 0 s1 ⟨#[]⟩ 0 w _ HI1.out HB1.out HKN.out).mono ?_
  rintro e w2 ⟨rfl, hI, hb, hk⟩
  have HI2 := Aside0.mk hI
  have HB2 := Aside0.mk hb
  clear hI hb hk
  dsimp only
  go_wp2_with fail
  go_loopg [7, 8, 9, 33] n (fun kx x7 x8 x9 x33 W => ∃ (i t : Nat) (s a : ByteArray) (acc : List ByteArray), x33 = .int .i64 i ∧ i ≤ n ∧ n - i ≤ kx ∧ acc.length = i ∧ s.size ≤ 1073741824 ∧ a.size ≤ 65535 ∧ t ≤ 16777216 ∧
    Aside0 (tkRows n [] 0 (LL s1) = comb (acc.map LL) (tkRows (n - i) (LL a) t (LL s))) ∧ Aside0 (IsS61 w W w.heap.size s a t) ∧ Aside0 (Below w.heap.size w W) ∧ Aside0 (Kd.R Kd.string 9 W w.heap.size (fun k => k ≠ w.heap.size) x7 acc))
  case atStart =>
    refine ⟨0, 0, s1, ⟨#[]⟩, [], rfl, Nat.zero_le _, Nat.le_refl _, rfl, hs1z, by decide, by decide, ⟨?_⟩, HI2, HB2, ⟨Kd.R_nil _ _ _ _ _⟩⟩
    show tkRows n [] 0 (LL s1) = comb [] (tkRows n [] 0 (LL s1))
    rw [comb_nil]
  case round =>
    obtain ⟨i, t, s, a, acc, rfl, hin, hik, hacc, hsz, haz, htz, HR, HI, HB, HO⟩ := hrel
    by_cases hlt : i < n
    · have hd : decide ((i : Int) < (n : Int)) = true := decide_eq_true (by omega)
      obtain ⟨m, hm⟩ : ∃ m, n - i = m + 1 := ⟨n - i - 1, by omega⟩
      have hm1 : n - (i + 1) = m := by omega
      have hR := HR.out
      rw [hm] at hR
      rcases pattern_ev s a t hsz haz htz with ⟨s', a', t', he, hev⟩ | ⟨he, hev⟩
      · obtain ⟨kp, hkp⟩ := Ev.all hev
        rw [rows_err he] at hR
        obtain ⟨ee, hee⟩ : ∃ ee, (tkRow (LL a) t (LL s)).1 = ee := ⟨_, rfl⟩
        rw [hee] at hR he hkp
        rw [comb_err he] at hR
        have htk := HTK.out
        rw [hR, if_pos he] at htk
        have h := H.out
        rw [htk, if_neg he] at h
        obtain ⟨rfl, rfl⟩ := Prod.mk.inj (Option.some.inj h)
        have hc3 : (ee != 0) = true := bne_iff_ne.2 he
        have HKP := Aside0.mk hkp
        clear h htk hR hkp hev HTK H HR hee
        go_wp2_with fail
        refine (book_reader_pattern.calls kp w.heap.size s a t ByteArray.empty ee s' a' t' w wr HI.out HB.out HKP.out).mono ?_
        rintro e w3 ⟨rfl, hI, hb, hk⟩
        have HB3 := Aside0.mk hb
        clear hI hb hk
        dsimp only
        go_wp2_with fail
        go_ret2
        exact ⟨none, rfl, trivial, HB3.out⟩
      · obtain ⟨⟨e0, p, r'⟩, hq⟩ : ∃ q, tkRow (LL a) t (LL s) = q := ⟨_, rfl⟩
        rw [hq] at he hev
        simp only at he hev
        subst he
        obtain ⟨g1, g2, g3, g4, g5⟩ := take_row hq
        obtain ⟨kp, hkp⟩ := Ev.all hev
        rw [rows_ok hq, comb_comb] at hR
        obtain ⟨sp, hsp⟩ : ∃ sp, strU p = sp := ⟨_, rfl⟩
        obtain ⟨sr, hsr⟩ : ∃ sr, strU r' = sr := ⟨_, rfl⟩
        have hspL : LL sp = p := by rw [← hsp, LL_strU]
        have hsrL : LL sr = r' := by rw [← hsr, LL_strU]
        rw [hsp, hsr] at hkp
        have hpz : sp.size ≤ 65535 := by rw [← LL_length, hspL]; exact g3
        have hrz : sr.size ≤ 1073741824 := by
          rw [← LL_length, hsrL]
          have := congrArg List.length g1
          rw [LL_length, List.length_append] at this
          omega
        have hR2 : tkRows n [] 0 (LL s1) = comb ((acc ++ [sp]).map LL) (tkRows (n - (i + 1)) (LL sp) (t + p.length) (LL sr)) := by
          rw [hR, hm1, hspL, hsrL, List.map_append, List.map_cons, List.map_nil, hspL]
        have HR2 := Aside0.mk hR2
        have HKP := Aside0.mk hkp
        have hal : acc.length ≤ 65535 := by omega
        clear hR hR2 hkp hev hq g1 g2 hspL hsrL hsp hsr HR
        go_wp2_with fail
        refine (book_reader_pattern.calls kp w.heap.size s a t sp 0 sr sp ((t + p.length : Nat) : Int) w wr HI.out HB.out HKP.out).mono ?_
        rintro e w3 ⟨rfl, hI, hb, hk⟩
        have HI3 := Aside0.mk hI
        have HB3 := Aside0.mk hb
        have HO3 := Aside0.mk (Kd.R_keep HO.out hk (fun _ h => h))
        clear hI hb hk
        dsimp only
        go_wp2_with ((with_reducible refine gate_builtin (b := .append) (xs := #[.tmp 43, .tmp 45]) rfl ?_); at_builtin; refine Kd.R_append Kd.string (w0 := w) w.heap.size rfl (.tmp 43) (.tmp 45) 22 9 (.string ⟨#[]⟩) 16 rfl Try.underlying22 info11 rfl (by decide) (by omega) u7 acc sp [.string sp] (fun k => k ≠ w.heap.size) (fun _ => False) rfl rfl ?aP (fun _ hk => hk.elim) ?aF ?aO ?aB ?aS ?aL ?_; (case aP => exact rfl); (case aB => exact HB3.out); (case aF => exact (fun k hk => by have := IsS61.lt HI3.out; omega)); (case aO => exact HO3.out); (case aS => exact HB3.out.size); (case aL => omega); intro v1 w6 ho hb hg hat; have HB4 := Aside0.mk hb; have HI4 := Aside0.mk (IsS61.grown HI3.out hg (IsS61.own_ne HI3.out HO3.out (by decide))); have HO4 := Aside0.mk ho; clear ho hb hg hat)
        go_roundg (n - (i + 1))
        case measure => omega
        case rel => exact ⟨i + 1, t + p.length, sr, sp, acc ++ [sp], by go_num, by omega, Nat.le_refl _, by rw [List.length_append, List.length_singleton, hacc], hrz, hpz, by omega, HR2, HI4, HB4, HO4⟩
    · obtain rfl : i = n := by omega
      have hd : decide ((i : Int) < (i : Int)) = false := decide_eq_false (by omega)
      have hR := HR.out
      rw [Nat.sub_self] at hR
      have hR0 : tkRows i [] 0 (LL s1) = (0, acc.map LL, LL s) := by
        rw [hR]
        show (if (0 : Int) ≠ 0 then _ else ((0 : Int), acc.map LL ++ [], LL s)) = _
        rw [if_neg (fun g => g rfl), List.append_nil]
      have htk := HTK.out
      rw [hR0, if_neg (fun g => g rfl)] at htk
      have h := H.out
      obtain ⟨HGz, hgz⟩ := HI.out
      have hcz := cellS61_0 HGz
      clear HGz hgz
      by_cases hs : s.size = 0
      · have hls : LL s = [] := List.eq_nil_of_length_eq_zero (by rw [LL_length]; exact hs)
        have hse : s.toList.isEmpty = true := by rw [List.isEmpty_iff]; exact toList_nil.2 hs
        rw [if_neg (fun g => g hls)] at htk
        rw [htk, if_pos rfl] at h
        simp only at h
        rw [map_back] at h
        obtain ⟨A1, c1, rfl⟩ := Kd.R_slice HO.out
        obtain ⟨_, hc1, hC1⟩ := Kd.R_reads' HO.out
        have HC1 := Aside0.mk hC1
        have HC2 := Aside0.mk hc1
        have HN := Aside0.mk h
        clear h htk hR hR0 HTK H HR hls hC1 hc1
        go_wp2_with fail
        have hcall := pats_New.calls A1 c1 acc r1 r2 wr HC1.out HC2.out HN.out
        rw [hacc] at hcall
        refine hcall.mono ?_
        clear hcall
        rintro e w3 ⟨P0, rfl, hob, hb⟩
        have HP := Aside0.mk hob
        have HB3 := Aside0.mk (below_step HB.out hb)
        clear hob hb
        dsimp only
        go_wp2_with fail
        go_ret2
        exact ⟨P0, rfl, HP.out, HB3.out⟩
      · have hls : LL s ≠ [] := fun g => hs (by rw [← LL_length, g]; rfl)
        have hse : s.toList.isEmpty = false := by
          rw [List.isEmpty_eq_false_iff]
          exact fun g => hs (toList_nil.1 g)
        rw [if_pos hls] at htk
        rw [htk, if_neg (show ¬ (20 : Int) = 0 by decide)] at h
        obtain ⟨rfl, rfl⟩ := Prod.mk.inj (Option.some.inj h)
        clear h htk hR hR0 HTK H HR hls
        go_wp2_with fail
        go_ret2
        exact ⟨none, rfl, trivial, HB.out⟩
end Go.Proofs.Ytpgmpdanplmpfaa.P

/- Proved here: what Go functions of this seat compute, or a law of it; no condition beyond the statement's own. Written for this claim by a program of this session (wip/myprint.py) over the kit's print.py. -/
namespace Go.Proofs.Ytpgmpdanplmpfaa.P
open Go.RowKit Go.Proofs.YtpgmpdanplmpfaaW.PrintWords Go.Proofs.YtpgmpdanplmpfaaW.PrintLast Go.Proofs.YtpgmpdanplmpfaaW.PrintMore
attribute [local go_sem] max2_int min2_int max_two min_two max_three min_three max_four min_four   -- for this text's walks alone
set_option linter.unusedVariables false
set_option linter.unusedSimpArgs false

/-! ### juratlaw11_BookTakes: function 4 -/
def juratlaw11_BookTakes.f (k : Nat) (a0 : ByteArray) : Option (Bool) := if (a0.size : Int) > 1000 then ((juratlaw11_awake.f).bind fun t237 => (some t237)) else ((book_Take.f a0).bind fun bt238 => ((juratref11_Take.f k a0).bind fun bt240 => (if bt238.2 = bt240.2 then (if bt238.1.isNone = true then (if (false == (bt238.2 == 0)) = true then ((pats_Set_List.f none).bind fun t245 => ((juratref05_Same.f k t245 bt240.1).bind fun t248 => (if t248 = true then ((juratlaw11_awake.f).bind fun t249 => (some t249)) else (some false)))) else (some false)) else (if (true == (bt238.2 == 0)) = true then ((pats_Set_List.f (some (bt238.1.get!))).bind fun t250 => ((juratref05_Same.f k t250 bt240.1).bind fun t253 => (if t253 = true then ((juratlaw11_awake.f).bind fun t254 => (some t254)) else (some false)))) else (some false))) else (some false))))
theorem juratlaw11_BookTakes.mono : ∀ a0 k, LeO (juratlaw11_BookTakes.f k a0) (juratlaw11_BookTakes.f (k + 1) a0) := by
  intro a0 k
  unfold juratlaw11_BookTakes.f
  repeat' first
      | (with_reducible exact juratref05_Same.mono _ _ _)
      | (with_reducible exact juratref11_Take.mono _ _)
      | (with_reducible exact LeO.refl _)
      | (with_reducible exact LeO.none _)
      | (with_reducible refine LeO.ite ?_ ?_)
      | (with_reducible refine LeO.bind ?_ (fun _ => ?_))
      | exact juratref05_Same.mono _ _ _
      | exact juratref11_Take.mono _ _
      | exact LeO.none _
      | refine LeO.ite ?_ ?_
      | refine LeO.bind ?_ (fun _ => ?_)
set_option maxHeartbeats 8000000 in
set_option maxRecDepth 100000 in
theorem juratlaw11_BookTakes.calls (k : Nat) (a0 : ByteArray) (r : Bool) (w : World) (h : juratlaw11_BookTakes.f k a0 = some r) :
    Calls Try.prog 4 #[.string a0] w fun e w' => e = .returned (.bool r) ∧ Below w.heap.size w w' := by
  have HB := Aside0.mk (Below.refl w.heap.size w)
  have H : (if (a0.size : Int) > 1000 then ((juratlaw11_awake.f).bind fun t237 => (some t237)) else ((book_Take.f a0).bind fun bt238 => ((juratref11_Take.f k a0).bind fun bt240 => (if bt238.2 = bt240.2 then (if bt238.1.isNone = true then (if (false == (bt238.2 == 0)) = true then ((pats_Set_List.f none).bind fun t245 => ((juratref05_Same.f k t245 bt240.1).bind fun t248 => (if t248 = true then ((juratlaw11_awake.f).bind fun t249 => (some t249)) else (some false)))) else (some false)) else (if (true == (bt238.2 == 0)) = true then ((pats_Set_List.f (some (bt238.1.get!))).bind fun t250 => ((juratref05_Same.f k t250 bt240.1).bind fun t253 => (if t253 = true then ((juratlaw11_awake.f).bind fun t254 => (some t254)) else (some false)))) else (some false))) else (some false))))) = some r := h
  clear h
  by_cases c2 : (a0.size : Int) > 1000
  · rw [if_pos c2] at H
    have c2b0 : decide (1000 < (a0.size : Int)) = true := decide_eq_true c2
    have c2b1 : decide (1000 < a0.size) = true := decide_eq_true (by omega)
    clear c2
    replace H := Option.bind_eq_some_iff.mp H
    obtain ⟨t237, A30, H⟩ := H
    replace H : (some t237) = some r := H
    have A3 := Aside0.mk A30
    clear A30
    obtain rfl := Option.some.inj H
    go_enter Try.func4, Try.ntmps4
    go_wp2_with (first | ((with_reducible refine gate_callee (f := 7) rfl ?_); refine goesL_ (some 10) rfl rfl Try.func7 (by kernel_rfl) rfl #[] rfl (by (try simp only [List.map_toArray, List.map_cons, List.map_nil]); first | done | rfl | (simp only [List.length_drop, List.length_take]; rfl)) ?_; (with_reducible refine (juratlaw11_awake.calls  t237 _ A3.out).mono ?_); rintro e w4 ⟨rfl, hb⟩; refine ⟨_, rfl, ?_⟩; have n0_ := Aside0.mk (below_step (by repeat (first | (with_reducible first | exact HB.out | apply below_alloc | apply pw_below_drewN | apply below_drew1) | exact HB.out)) hb); clear HB; have HB := n0_; clear n0_; (try clear hb); (try clear hb2); (try clear hk); (try clear hi)))
    go_ret
    exact ⟨by first | rfl | (simp [errW_none, errW_some] <;> rfl) | (simp [*, errW_none, errW_some] <;> rfl), by first | (refine HB00.out.trans (Below.mono ?_ HB00.out.size); (repeat (first | (with_reducible first | exact HB.out | apply below_alloc | apply pw_below_drewN | apply below_drew1) | exact HB.out))) | (repeat (first | (with_reducible first | exact HB.out | apply below_alloc | apply pw_below_drewN | apply below_drew1) | exact HB.out))⟩
  · rw [if_neg c2] at H
    have c2b0 : decide (1000 < (a0.size : Int)) = false := decide_eq_false c2
    have c2b1 : decide (1000 < a0.size) = false := decide_eq_false (by omega)
    clear c2
    replace H := Option.bind_eq_some_iff.mp H
    obtain ⟨⟨t238, t239⟩, A50, H⟩ := H
    replace H : ((juratref11_Take.f k a0).bind fun bt240 => (if t239 = bt240.2 then (if t238.isNone = true then (if (false == (t239 == 0)) = true then ((pats_Set_List.f none).bind fun t245 => ((juratref05_Same.f k t245 bt240.1).bind fun t248 => (if t248 = true then ((juratlaw11_awake.f).bind fun t249 => (some t249)) else (some false)))) else (some false)) else (if (true == (t239 == 0)) = true then ((pats_Set_List.f (some (t238.get!))).bind fun t250 => ((juratref05_Same.f k t250 bt240.1).bind fun t253 => (if t253 = true then ((juratlaw11_awake.f).bind fun t254 => (some t254)) else (some false)))) else (some false))) else (some false))) = some r := H
    have A5 := Aside0.mk A50
    clear A50
    replace H := Option.bind_eq_some_iff.mp H
    obtain ⟨⟨t240, t241⟩, A60, H⟩ := H
    replace H : (if t239 = t241 then (if t238.isNone = true then (if (false == (t239 == 0)) = true then ((pats_Set_List.f none).bind fun t245 => ((juratref05_Same.f k t245 t240).bind fun t248 => (if t248 = true then ((juratlaw11_awake.f).bind fun t249 => (some t249)) else (some false)))) else (some false)) else (if (true == (t239 == 0)) = true then ((pats_Set_List.f (some (t238.get!))).bind fun t250 => ((juratref05_Same.f k t250 t240).bind fun t253 => (if t253 = true then ((juratlaw11_awake.f).bind fun t254 => (some t254)) else (some false)))) else (some false))) else (some false)) = some r := H
    have A6 := Aside0.mk A60
    clear A60
    by_cases c7 : t239 = t241
    · rw [if_pos c7] at H
      have c7b0 : (t239 == t241) = true := beq_iff_eq.mpr c7
      have c7b1 : (t239 != t241) = false := bne_eq_false_iff_eq.mpr c7
      clear c7
      rcases t238 with _ | qo244
      · have H1 : (if (false == (t239 == 0)) = true then ((pats_Set_List.f none).bind fun t245 => ((juratref05_Same.f k t245 t240).bind fun t248 => (if t248 = true then ((juratlaw11_awake.f).bind fun t249 => (some t249)) else (some false)))) else (some false)) = some r := by rw [if_pos (show (none : Option _).isNone = true by rfl)] at H; exact H
        clear H
        have H := H1
        clear H1
        by_cases c8 : (false == (t239 == 0)) = true
        · rw [if_pos c8] at H
          have c8b0 : (false == (t239 == 0)) = true := c8
          (try (have c8b1 : decide (false = (t239 == 0)) = true := by simpa using c8))
          (try (have c8b2 : (false == (t239 == 0)) = true := by simpa using c8))
          clear c8
          replace H := Option.bind_eq_some_iff.mp H
          obtain ⟨t245, A90, H⟩ := H
          replace H : ((juratref05_Same.f k t245 t240).bind fun t248 => (if t248 = true then ((juratlaw11_awake.f).bind fun t249 => (some t249)) else (some false))) = some r := H
          have A9 := Aside0.mk A90
          clear A90
          replace H := Option.bind_eq_some_iff.mp H
          obtain ⟨t248, A100, H⟩ := H
          replace H : (if t248 = true then ((juratlaw11_awake.f).bind fun t249 => (some t249)) else (some false)) = some r := H
          have A10 := Aside0.mk A100
          clear A100
          by_cases c11 : t248 = true
          · subst c11
            have H1 : ((juratlaw11_awake.f).bind fun t249 => (some t249)) = some r := by rw [if_pos rfl] at H; exact H
            clear H
            have H := H1
            clear H1
            replace H := Option.bind_eq_some_iff.mp H
            obtain ⟨t249, A120, H⟩ := H
            replace H : (some t249) = some r := H
            have A12 := Aside0.mk A120
            clear A120
            obtain rfl := Option.some.inj H
            go_enter Try.func4, Try.ntmps4
            go_wp2_with (first | ((with_reducible refine gate_callee (f := 12) rfl ?_); refine goesL_ (some 13) rfl rfl Try.func12 (by kernel_rfl) rfl #[.string a0] rfl (by (try simp only [List.map_toArray, List.map_cons, List.map_nil]); first | done | rfl | (simp only [List.length_drop, List.length_take]; rfl)) ?_; (with_reducible refine (book_Take.calls a0 none t239 _ A5.out).mono ?_); rintro e w13 ⟨Pn0_, rfl, hob0, hb⟩; refine ⟨_, rfl, ?_⟩; have hbw_ := below_step (by repeat (first | (with_reducible first | exact HB.out | apply below_alloc | apply pw_below_drewN | apply below_drew1) | exact HB.out)) hb; (first | (have n_ := Aside0.mk (HB00.out.trans (hbw_.mono HB00.out.size)); clear HB00; have HB00 := n_; clear n_) | have HB00 := Aside0.mk hbw_); clear HB hb hbw_; obtain rfl := OB.p_none hob0; clear hob0; obtain ⟨w, rfl⟩ : ∃ w_ : World, w_ = w13 := ⟨_, rfl⟩; have HB := Aside0.mk (Below.refl w.heap.size w)) | ((with_reducible refine gate_callee (f := 13) rfl ?_); refine goesL_ (some 18) rfl rfl Try.func13 (by kernel_rfl) rfl #[.string a0] rfl (by (try simp only [List.map_toArray, List.map_cons, List.map_nil]); first | done | rfl | (simp only [List.length_drop, List.length_take]; rfl)) ?_; (with_reducible refine (juratref11_Take.calls k a0 t240 t241 _ A6.out).mono ?_); rintro e w14 ⟨v242, rfl, ho0, hb⟩; refine ⟨_, rfl, ?_⟩; have n0_ := Aside0.mk (Kd.R_lower ho0 (below_size (by repeat (first | (with_reducible first | exact HB.out | apply below_alloc | apply pw_below_drewN | apply below_drew1) | exact HB.out)))); have n1_ := Aside0.mk (below_step (by repeat (first | (with_reducible first | exact HB.out | apply below_alloc | apply pw_below_drewN | apply below_drew1) | exact HB.out)) hb); clear HB; have HO243 := n0_; have HB := n1_; clear n0_ n1_; (try clear hb); (try clear hb2); (try clear hk); (try clear hi); (try clear ho0)) | (go_at_call 15; (with_reducible refine (pats_Set_List.calls _ none t245 _ ?side1 A9.out).mono ?_); (case side1 => exact OB.nil _ _); rintro e w15 ⟨v246, rfl, ho0, hb⟩; have n0_ := Aside0.mk (Kd.R_elder' (by (with_reducible repeat (first | apply Kd.R_alloc | apply Kd.R_drewN | apply Kd.R_drew)); exact HO243.out) (Kd.R_base ho0) hb); have n1_ := Aside0.mk (Kd.R_lower (Kd.R_new' ho0 (Kd.R_lt (by (with_reducible repeat (first | apply Kd.R_alloc | apply Kd.R_drewN | apply Kd.R_drew)); exact HO243.out))) (below_size (by repeat (first | (with_reducible first | exact HB.out | apply below_alloc | apply pw_below_drewN | apply below_drew1) | exact HB.out)))); have n2_ := Aside0.mk (below_step (by repeat (first | (with_reducible first | exact HB.out | apply below_alloc | apply pw_below_drewN | apply below_drew1) | exact HB.out)) hb); clear HO243; clear HB; have HO243 := n0_; have HO247 := n1_; have HB := n2_; clear n0_ n1_ n2_; (try clear hb); (try clear hb2); (try clear hk); (try clear hi); (try clear ho0); obtain ⟨Ao16, co16, eo16⟩ := Kd.R_slice HO247.out; subst eo16; obtain ⟨Ao17, co17, eo17⟩ := Kd.R_slice HO243.out; subst eo17) | (go_at_call 14; (with_reducible refine (juratref05_Same.calls k _ _ t245 _ _ t240 true _ ?side1 ?side2 ?side3 ?side4 A10.out).mono ?_); (case side1 => repeat (first | exact (Kd.R_reads' HO247.out).2.2 | (with_reducible refine Kd.C_alloc ?_ _) | (with_reducible refine Kd.C_drewN ?_ _) | (with_reducible refine Kd.C_drew ?_))); (case side2 => exact (Kd.R_reads' HO247.out).2.1); (case side3 => repeat (first | exact (Kd.R_reads' HO243.out).2.2 | (with_reducible refine Kd.C_alloc ?_ _) | (with_reducible refine Kd.C_drewN ?_ _) | (with_reducible refine Kd.C_drew ?_))); (case side4 => exact (Kd.R_reads' HO243.out).2.1); rintro e w' ⟨rfl, ⟨nd, rfl⟩⟩) | (go_at_call 7; (with_reducible refine (juratlaw11_awake.calls  t249 _ A12.out).mono ?_); rintro e w18 ⟨rfl, hb⟩; have n0_ := Aside0.mk (Kd.R_below (by (with_reducible repeat (first | apply Kd.R_alloc | apply Kd.R_drewN | apply Kd.R_drew)); exact HO243.out) hb); have n1_ := Aside0.mk (Kd.R_below (by (with_reducible repeat (first | apply Kd.R_alloc | apply Kd.R_drewN | apply Kd.R_drew)); exact HO247.out) hb); have n2_ := Aside0.mk (below_step (by repeat (first | (with_reducible first | exact HB.out | apply below_alloc | apply pw_below_drewN | apply below_drew1) | exact HB.out)) hb); clear HO243; clear HO247; clear HB; have HO243 := n0_; have HO247 := n1_; have HB := n2_; clear n0_ n1_ n2_; (try clear hb); (try clear hb2); (try clear hk); (try clear hi)))
            go_ret
            exact ⟨by first | rfl | (simp [errW_none, errW_some] <;> rfl) | (simp [*, errW_none, errW_some] <;> rfl), by first | (refine HB00.out.trans (Below.mono ?_ HB00.out.size); (repeat (first | (with_reducible first | exact HB.out | apply below_alloc | apply pw_below_drewN | apply below_drew1) | exact HB.out))) | (repeat (first | (with_reducible first | exact HB.out | apply below_alloc | apply pw_below_drewN | apply below_drew1) | exact HB.out))⟩
          · replace c11 := Bool.eq_false_iff.mpr c11
            subst c11
            have H1 : (some false) = some r := by rw [if_neg (show ¬ (false = true) by decide)] at H; exact H
            clear H
            have H := H1
            clear H1
            obtain rfl := Option.some.inj H
            go_enter Try.func4, Try.ntmps4
            go_wp2_with (first | ((with_reducible refine gate_callee (f := 12) rfl ?_); refine goesL_ (some 13) rfl rfl Try.func12 (by kernel_rfl) rfl #[.string a0] rfl (by (try simp only [List.map_toArray, List.map_cons, List.map_nil]); first | done | rfl | (simp only [List.length_drop, List.length_take]; rfl)) ?_; (with_reducible refine (book_Take.calls a0 none t239 _ A5.out).mono ?_); rintro e w19 ⟨Pn0_, rfl, hob0, hb⟩; refine ⟨_, rfl, ?_⟩; have hbw_ := below_step (by repeat (first | (with_reducible first | exact HB.out | apply below_alloc | apply pw_below_drewN | apply below_drew1) | exact HB.out)) hb; (first | (have n_ := Aside0.mk (HB00.out.trans (hbw_.mono HB00.out.size)); clear HB00; have HB00 := n_; clear n_) | have HB00 := Aside0.mk hbw_); clear HB hb hbw_; obtain rfl := OB.p_none hob0; clear hob0; obtain ⟨w, rfl⟩ : ∃ w_ : World, w_ = w19 := ⟨_, rfl⟩; have HB := Aside0.mk (Below.refl w.heap.size w)) | ((with_reducible refine gate_callee (f := 13) rfl ?_); refine goesL_ (some 18) rfl rfl Try.func13 (by kernel_rfl) rfl #[.string a0] rfl (by (try simp only [List.map_toArray, List.map_cons, List.map_nil]); first | done | rfl | (simp only [List.length_drop, List.length_take]; rfl)) ?_; (with_reducible refine (juratref11_Take.calls k a0 t240 t241 _ A6.out).mono ?_); rintro e w20 ⟨v242, rfl, ho0, hb⟩; refine ⟨_, rfl, ?_⟩; have n0_ := Aside0.mk (Kd.R_lower ho0 (below_size (by repeat (first | (with_reducible first | exact HB.out | apply below_alloc | apply pw_below_drewN | apply below_drew1) | exact HB.out)))); have n1_ := Aside0.mk (below_step (by repeat (first | (with_reducible first | exact HB.out | apply below_alloc | apply pw_below_drewN | apply below_drew1) | exact HB.out)) hb); clear HB; have HO243 := n0_; have HB := n1_; clear n0_ n1_; (try clear hb); (try clear hb2); (try clear hk); (try clear hi); (try clear ho0)) | (go_at_call 15; (with_reducible refine (pats_Set_List.calls _ none t245 _ ?side1 A9.out).mono ?_); (case side1 => exact OB.nil _ _); rintro e w21 ⟨v246, rfl, ho0, hb⟩; have n0_ := Aside0.mk (Kd.R_elder' (by (with_reducible repeat (first | apply Kd.R_alloc | apply Kd.R_drewN | apply Kd.R_drew)); exact HO243.out) (Kd.R_base ho0) hb); have n1_ := Aside0.mk (Kd.R_lower (Kd.R_new' ho0 (Kd.R_lt (by (with_reducible repeat (first | apply Kd.R_alloc | apply Kd.R_drewN | apply Kd.R_drew)); exact HO243.out))) (below_size (by repeat (first | (with_reducible first | exact HB.out | apply below_alloc | apply pw_below_drewN | apply below_drew1) | exact HB.out)))); have n2_ := Aside0.mk (below_step (by repeat (first | (with_reducible first | exact HB.out | apply below_alloc | apply pw_below_drewN | apply below_drew1) | exact HB.out)) hb); clear HO243; clear HB; have HO243 := n0_; have HO247 := n1_; have HB := n2_; clear n0_ n1_ n2_; (try clear hb); (try clear hb2); (try clear hk); (try clear hi); (try clear ho0); obtain ⟨Ao22, co22, eo22⟩ := Kd.R_slice HO247.out; subst eo22; obtain ⟨Ao23, co23, eo23⟩ := Kd.R_slice HO243.out; subst eo23) | (go_at_call 14; (with_reducible refine (juratref05_Same.calls k _ _ t245 _ _ t240 false _ ?side1 ?side2 ?side3 ?side4 A10.out).mono ?_); (case side1 => repeat (first | exact (Kd.R_reads' HO247.out).2.2 | (with_reducible refine Kd.C_alloc ?_ _) | (with_reducible refine Kd.C_drewN ?_ _) | (with_reducible refine Kd.C_drew ?_))); (case side2 => exact (Kd.R_reads' HO247.out).2.1); (case side3 => repeat (first | exact (Kd.R_reads' HO243.out).2.2 | (with_reducible refine Kd.C_alloc ?_ _) | (with_reducible refine Kd.C_drewN ?_ _) | (with_reducible refine Kd.C_drew ?_))); (case side4 => exact (Kd.R_reads' HO243.out).2.1); rintro e w' ⟨rfl, ⟨nd, rfl⟩⟩))
            go_ret
            exact ⟨by first | rfl | (simp [errW_none, errW_some] <;> rfl) | (simp [*, errW_none, errW_some] <;> rfl), by first | (refine HB00.out.trans (Below.mono ?_ HB00.out.size); (repeat (first | (with_reducible first | exact HB.out | apply below_alloc | apply pw_below_drewN | apply below_drew1) | exact HB.out))) | (repeat (first | (with_reducible first | exact HB.out | apply below_alloc | apply pw_below_drewN | apply below_drew1) | exact HB.out))⟩
        · rw [if_neg c8] at H
          have c8b0 : (false == (t239 == 0)) = false := by simpa using c8
          (try (have c8b1 : decide (false = (t239 == 0)) = false := by simpa using c8))
          (try (have c8b2 : (false == (t239 == 0)) = false := by simpa using c8))
          (try (have c8b3 : ¬ (false = (t239 == 0)) := by simpa using c8))
          clear c8
          obtain rfl := Option.some.inj H
          go_enter Try.func4, Try.ntmps4
          go_wp2_with (first | ((with_reducible refine gate_callee (f := 12) rfl ?_); refine goesL_ (some 13) rfl rfl Try.func12 (by kernel_rfl) rfl #[.string a0] rfl (by (try simp only [List.map_toArray, List.map_cons, List.map_nil]); first | done | rfl | (simp only [List.length_drop, List.length_take]; rfl)) ?_; (with_reducible refine (book_Take.calls a0 none t239 _ A5.out).mono ?_); rintro e w24 ⟨Pn0_, rfl, hob0, hb⟩; refine ⟨_, rfl, ?_⟩; have hbw_ := below_step (by repeat (first | (with_reducible first | exact HB.out | apply below_alloc | apply pw_below_drewN | apply below_drew1) | exact HB.out)) hb; (first | (have n_ := Aside0.mk (HB00.out.trans (hbw_.mono HB00.out.size)); clear HB00; have HB00 := n_; clear n_) | have HB00 := Aside0.mk hbw_); clear HB hb hbw_; obtain rfl := OB.p_none hob0; clear hob0; obtain ⟨w, rfl⟩ : ∃ w_ : World, w_ = w24 := ⟨_, rfl⟩; have HB := Aside0.mk (Below.refl w.heap.size w)) | ((with_reducible refine gate_callee (f := 13) rfl ?_); refine goesL_ (some 18) rfl rfl Try.func13 (by kernel_rfl) rfl #[.string a0] rfl (by (try simp only [List.map_toArray, List.map_cons, List.map_nil]); first | done | rfl | (simp only [List.length_drop, List.length_take]; rfl)) ?_; (with_reducible refine (juratref11_Take.calls k a0 t240 t241 _ A6.out).mono ?_); rintro e w25 ⟨v242, rfl, ho0, hb⟩; refine ⟨_, rfl, ?_⟩; have n0_ := Aside0.mk (Kd.R_lower ho0 (below_size (by repeat (first | (with_reducible first | exact HB.out | apply below_alloc | apply pw_below_drewN | apply below_drew1) | exact HB.out)))); have n1_ := Aside0.mk (below_step (by repeat (first | (with_reducible first | exact HB.out | apply below_alloc | apply pw_below_drewN | apply below_drew1) | exact HB.out)) hb); clear HB; have HO243 := n0_; have HB := n1_; clear n0_ n1_; (try clear hb); (try clear hb2); (try clear hk); (try clear hi); (try clear ho0)))
          go_ret
          exact ⟨by first | rfl | (simp [errW_none, errW_some] <;> rfl) | (simp [*, errW_none, errW_some] <;> rfl), by first | (refine HB00.out.trans (Below.mono ?_ HB00.out.size); (repeat (first | (with_reducible first | exact HB.out | apply below_alloc | apply pw_below_drewN | apply below_drew1) | exact HB.out))) | (repeat (first | (with_reducible first | exact HB.out | apply below_alloc | apply pw_below_drewN | apply below_drew1) | exact HB.out))⟩
      · have H1 : (if (true == (t239 == 0)) = true then ((pats_Set_List.f (some qo244)).bind fun t250 => ((juratref05_Same.f k t250 t240).bind fun t253 => (if t253 = true then ((juratlaw11_awake.f).bind fun t254 => (some t254)) else (some false)))) else (some false)) = some r := by rw [if_neg (show ¬ (some qo244).isNone = true by simp)] at H; exact H
        clear H
        have H := H1
        clear H1
        by_cases c26 : (true == (t239 == 0)) = true
        · rw [if_pos c26] at H
          have c26b0 : (true == (t239 == 0)) = true := c26
          (try (have c26b1 : decide (true = (t239 == 0)) = true := by simpa using c26))
          (try (have c26b2 : (true == (t239 == 0)) = true := by simpa using c26))
          clear c26
          replace H := Option.bind_eq_some_iff.mp H
          obtain ⟨t250, A270, H⟩ := H
          replace H : ((juratref05_Same.f k t250 t240).bind fun t253 => (if t253 = true then ((juratlaw11_awake.f).bind fun t254 => (some t254)) else (some false))) = some r := H
          have A27 := Aside0.mk A270
          clear A270
          replace H := Option.bind_eq_some_iff.mp H
          obtain ⟨t253, A280, H⟩ := H
          replace H : (if t253 = true then ((juratlaw11_awake.f).bind fun t254 => (some t254)) else (some false)) = some r := H
          have A28 := Aside0.mk A280
          clear A280
          by_cases c29 : t253 = true
          · subst c29
            have H1 : ((juratlaw11_awake.f).bind fun t254 => (some t254)) = some r := by rw [if_pos rfl] at H; exact H
            clear H
            have H := H1
            clear H1
            replace H := Option.bind_eq_some_iff.mp H
            obtain ⟨t254, A300, H⟩ := H
            replace H : (some t254) = some r := H
            have A30 := Aside0.mk A300
            clear A300
            obtain rfl := Option.some.inj H
            go_enter Try.func4, Try.ntmps4
            go_wp2_with (first | ((with_reducible refine gate_callee (f := 12) rfl ?_); refine goesL_ (some 13) rfl rfl Try.func12 (by kernel_rfl) rfl #[.string a0] rfl (by (try simp only [List.map_toArray, List.map_cons, List.map_nil]); first | done | rfl | (simp only [List.length_drop, List.length_take]; rfl)) ?_; (with_reducible refine (book_Take.calls a0 (some qo244) t239 _ A5.out).mono ?_); rintro e w31 ⟨Pn0_, rfl, hob0, hb⟩; refine ⟨_, rfl, ?_⟩; have hbw_ := below_step (by repeat (first | (with_reducible first | exact HB.out | apply below_alloc | apply pw_below_drewN | apply below_drew1) | exact HB.out)) hb; (first | (have n_ := Aside0.mk (HB00.out.trans (hbw_.mono HB00.out.size)); clear HB00; have HB00 := n_; clear n_) | have HB00 := Aside0.mk hbw_); clear HB hb hbw_; obtain ⟨Pqo244, rfl⟩ := OB.p_some hob0; have HO_qo244 := Aside0.mk hob0; clear hob0; obtain ⟨w, rfl⟩ : ∃ w_ : World, w_ = w31 := ⟨_, rfl⟩; have HB := Aside0.mk (Below.refl w.heap.size w)) | ((with_reducible refine gate_callee (f := 13) rfl ?_); refine goesL_ (some 18) rfl rfl Try.func13 (by kernel_rfl) rfl #[.string a0] rfl (by (try simp only [List.map_toArray, List.map_cons, List.map_nil]); first | done | rfl | (simp only [List.length_drop, List.length_take]; rfl)) ?_; (with_reducible refine (juratref11_Take.calls k a0 t240 t241 _ A6.out).mono ?_); rintro e w32 ⟨v242, rfl, ho0, hb⟩; refine ⟨_, rfl, ?_⟩; have n0_ := Aside0.mk (Kd.R_lower ho0 (below_size (by repeat (first | (with_reducible first | exact HB.out | apply below_alloc | apply pw_below_drewN | apply below_drew1) | exact HB.out)))); have n1_ := Aside0.mk (below_step (by repeat (first | (with_reducible first | exact HB.out | apply below_alloc | apply pw_below_drewN | apply below_drew1) | exact HB.out)) hb); clear HB; have HO243 := n0_; have HB := n1_; clear n0_ n1_; (try clear hb); (try clear hb2); (try clear hk); (try clear hi); (try clear ho0)) | (go_at_call 15; (with_reducible refine (pats_Set_List.calls _ (some qo244) t250 _ ?side1 A27.out).mono ?_); (case side1 => first | exact HO_qo244.out | exact OB.drewN HO_qo244.out _ | exact OB.below (by repeat (first | (with_reducible first | exact HB.out | apply below_alloc | apply pw_below_drewN | apply below_drew1) | exact HB.out)) HO_qo244.out); rintro e w33 ⟨v251, rfl, ho0, hb⟩; have n0_ := Aside0.mk (Kd.R_elder' (by (with_reducible repeat (first | apply Kd.R_alloc | apply Kd.R_drewN | apply Kd.R_drew)); exact HO243.out) (Kd.R_base ho0) hb); have n1_ := Aside0.mk (Kd.R_lower (Kd.R_new' ho0 (Kd.R_lt (by (with_reducible repeat (first | apply Kd.R_alloc | apply Kd.R_drewN | apply Kd.R_drew)); exact HO243.out))) (below_size (by repeat (first | (with_reducible first | exact HB.out | apply below_alloc | apply pw_below_drewN | apply below_drew1) | exact HB.out)))); have n2_ := Aside0.mk (below_step (by repeat (first | (with_reducible first | exact HB.out | apply below_alloc | apply pw_below_drewN | apply below_drew1) | exact HB.out)) hb); clear HO243; clear HB; have HO243 := n0_; have HO252 := n1_; have HB := n2_; clear n0_ n1_ n2_; (try clear hb); (try clear hb2); (try clear hk); (try clear hi); (try clear ho0); obtain ⟨Ao34, co34, eo34⟩ := Kd.R_slice HO252.out; subst eo34; obtain ⟨Ao35, co35, eo35⟩ := Kd.R_slice HO243.out; subst eo35) | (go_at_call 14; (with_reducible refine (juratref05_Same.calls k _ _ t250 _ _ t240 true _ ?side1 ?side2 ?side3 ?side4 A28.out).mono ?_); (case side1 => repeat (first | exact (Kd.R_reads' HO252.out).2.2 | (with_reducible refine Kd.C_alloc ?_ _) | (with_reducible refine Kd.C_drewN ?_ _) | (with_reducible refine Kd.C_drew ?_))); (case side2 => exact (Kd.R_reads' HO252.out).2.1); (case side3 => repeat (first | exact (Kd.R_reads' HO243.out).2.2 | (with_reducible refine Kd.C_alloc ?_ _) | (with_reducible refine Kd.C_drewN ?_ _) | (with_reducible refine Kd.C_drew ?_))); (case side4 => exact (Kd.R_reads' HO243.out).2.1); rintro e w' ⟨rfl, ⟨nd, rfl⟩⟩) | (go_at_call 7; (with_reducible refine (juratlaw11_awake.calls  t254 _ A30.out).mono ?_); rintro e w36 ⟨rfl, hb⟩; have n0_ := Aside0.mk (Kd.R_below (by (with_reducible repeat (first | apply Kd.R_alloc | apply Kd.R_drewN | apply Kd.R_drew)); exact HO243.out) hb); have n1_ := Aside0.mk (Kd.R_below (by (with_reducible repeat (first | apply Kd.R_alloc | apply Kd.R_drewN | apply Kd.R_drew)); exact HO252.out) hb); have n2_ := Aside0.mk (below_step (by repeat (first | (with_reducible first | exact HB.out | apply below_alloc | apply pw_below_drewN | apply below_drew1) | exact HB.out)) hb); clear HO243; clear HO252; clear HB; have HO243 := n0_; have HO252 := n1_; have HB := n2_; clear n0_ n1_ n2_; (try clear hb); (try clear hb2); (try clear hk); (try clear hi)))
            go_ret
            exact ⟨by first | rfl | (simp [errW_none, errW_some] <;> rfl) | (simp [*, errW_none, errW_some] <;> rfl), by first | (refine HB00.out.trans (Below.mono ?_ HB00.out.size); (repeat (first | (with_reducible first | exact HB.out | apply below_alloc | apply pw_below_drewN | apply below_drew1) | exact HB.out))) | (repeat (first | (with_reducible first | exact HB.out | apply below_alloc | apply pw_below_drewN | apply below_drew1) | exact HB.out))⟩
          · replace c29 := Bool.eq_false_iff.mpr c29
            subst c29
            have H1 : (some false) = some r := by rw [if_neg (show ¬ (false = true) by decide)] at H; exact H
            clear H
            have H := H1
            clear H1
            obtain rfl := Option.some.inj H
            go_enter Try.func4, Try.ntmps4
            go_wp2_with (first | ((with_reducible refine gate_callee (f := 12) rfl ?_); refine goesL_ (some 13) rfl rfl Try.func12 (by kernel_rfl) rfl #[.string a0] rfl (by (try simp only [List.map_toArray, List.map_cons, List.map_nil]); first | done | rfl | (simp only [List.length_drop, List.length_take]; rfl)) ?_; (with_reducible refine (book_Take.calls a0 (some qo244) t239 _ A5.out).mono ?_); rintro e w37 ⟨Pn0_, rfl, hob0, hb⟩; refine ⟨_, rfl, ?_⟩; have hbw_ := below_step (by repeat (first | (with_reducible first | exact HB.out | apply below_alloc | apply pw_below_drewN | apply below_drew1) | exact HB.out)) hb; (try (have n_ := Aside0.mk (OB.below hbw_ HO_qo244.out); clear HO_qo244; have HO_qo244 := n_; clear n_)); (first | (have n_ := Aside0.mk (HB00.out.trans (hbw_.mono HB00.out.size)); clear HB00; have HB00 := n_; clear n_) | have HB00 := Aside0.mk hbw_); clear HB hb hbw_; obtain ⟨Pqo244, rfl⟩ := OB.p_some hob0; have HO_qo244 := Aside0.mk hob0; clear hob0; obtain ⟨w, rfl⟩ : ∃ w_ : World, w_ = w37 := ⟨_, rfl⟩; have HB := Aside0.mk (Below.refl w.heap.size w)) | ((with_reducible refine gate_callee (f := 13) rfl ?_); refine goesL_ (some 18) rfl rfl Try.func13 (by kernel_rfl) rfl #[.string a0] rfl (by (try simp only [List.map_toArray, List.map_cons, List.map_nil]); first | done | rfl | (simp only [List.length_drop, List.length_take]; rfl)) ?_; (with_reducible refine (juratref11_Take.calls k a0 t240 t241 _ A6.out).mono ?_); rintro e w38 ⟨v242, rfl, ho0, hb⟩; refine ⟨_, rfl, ?_⟩; have n0_ := Aside0.mk (Kd.R_lower ho0 (below_size (by repeat (first | (with_reducible first | exact HB.out | apply below_alloc | apply pw_below_drewN | apply below_drew1) | exact HB.out)))); have n1_ := Aside0.mk (below_step (by repeat (first | (with_reducible first | exact HB.out | apply below_alloc | apply pw_below_drewN | apply below_drew1) | exact HB.out)) hb); clear HB; have HO243 := n0_; have HB := n1_; clear n0_ n1_; (try clear hb); (try clear hb2); (try clear hk); (try clear hi); (try clear ho0)) | (go_at_call 15; (with_reducible refine (pats_Set_List.calls _ (some qo244) t250 _ ?side1 A27.out).mono ?_); (case side1 => first | exact HO_qo244.out | exact OB.drewN HO_qo244.out _ | exact OB.below (by repeat (first | (with_reducible first | exact HB.out | apply below_alloc | apply pw_below_drewN | apply below_drew1) | exact HB.out)) HO_qo244.out); rintro e w39 ⟨v251, rfl, ho0, hb⟩; have n0_ := Aside0.mk (Kd.R_elder' (by (with_reducible repeat (first | apply Kd.R_alloc | apply Kd.R_drewN | apply Kd.R_drew)); exact HO243.out) (Kd.R_base ho0) hb); have n1_ := Aside0.mk (Kd.R_lower (Kd.R_new' ho0 (Kd.R_lt (by (with_reducible repeat (first | apply Kd.R_alloc | apply Kd.R_drewN | apply Kd.R_drew)); exact HO243.out))) (below_size (by repeat (first | (with_reducible first | exact HB.out | apply below_alloc | apply pw_below_drewN | apply below_drew1) | exact HB.out)))); have n2_ := Aside0.mk (below_step (by repeat (first | (with_reducible first | exact HB.out | apply below_alloc | apply pw_below_drewN | apply below_drew1) | exact HB.out)) hb); clear HO243; clear HB; have HO243 := n0_; have HO252 := n1_; have HB := n2_; clear n0_ n1_ n2_; (try clear hb); (try clear hb2); (try clear hk); (try clear hi); (try clear ho0); obtain ⟨Ao40, co40, eo40⟩ := Kd.R_slice HO252.out; subst eo40; obtain ⟨Ao41, co41, eo41⟩ := Kd.R_slice HO243.out; subst eo41) | (go_at_call 14; (with_reducible refine (juratref05_Same.calls k _ _ t250 _ _ t240 false _ ?side1 ?side2 ?side3 ?side4 A28.out).mono ?_); (case side1 => repeat (first | exact (Kd.R_reads' HO252.out).2.2 | (with_reducible refine Kd.C_alloc ?_ _) | (with_reducible refine Kd.C_drewN ?_ _) | (with_reducible refine Kd.C_drew ?_))); (case side2 => exact (Kd.R_reads' HO252.out).2.1); (case side3 => repeat (first | exact (Kd.R_reads' HO243.out).2.2 | (with_reducible refine Kd.C_alloc ?_ _) | (with_reducible refine Kd.C_drewN ?_ _) | (with_reducible refine Kd.C_drew ?_))); (case side4 => exact (Kd.R_reads' HO243.out).2.1); rintro e w' ⟨rfl, ⟨nd, rfl⟩⟩))
            go_ret
            exact ⟨by first | rfl | (simp [errW_none, errW_some] <;> rfl) | (simp [*, errW_none, errW_some] <;> rfl), by first | (refine HB00.out.trans (Below.mono ?_ HB00.out.size); (repeat (first | (with_reducible first | exact HB.out | apply below_alloc | apply pw_below_drewN | apply below_drew1) | exact HB.out))) | (repeat (first | (with_reducible first | exact HB.out | apply below_alloc | apply pw_below_drewN | apply below_drew1) | exact HB.out))⟩
        · rw [if_neg c26] at H
          have c26b0 : (true == (t239 == 0)) = false := by simpa using c26
          (try (have c26b1 : decide (true = (t239 == 0)) = false := by simpa using c26))
          (try (have c26b2 : (true == (t239 == 0)) = false := by simpa using c26))
          (try (have c26b3 : ¬ (true = (t239 == 0)) := by simpa using c26))
          clear c26
          obtain rfl := Option.some.inj H
          go_enter Try.func4, Try.ntmps4
          go_wp2_with (first | ((with_reducible refine gate_callee (f := 12) rfl ?_); refine goesL_ (some 13) rfl rfl Try.func12 (by kernel_rfl) rfl #[.string a0] rfl (by (try simp only [List.map_toArray, List.map_cons, List.map_nil]); first | done | rfl | (simp only [List.length_drop, List.length_take]; rfl)) ?_; (with_reducible refine (book_Take.calls a0 (some qo244) t239 _ A5.out).mono ?_); rintro e w42 ⟨Pn0_, rfl, hob0, hb⟩; refine ⟨_, rfl, ?_⟩; have hbw_ := below_step (by repeat (first | (with_reducible first | exact HB.out | apply below_alloc | apply pw_below_drewN | apply below_drew1) | exact HB.out)) hb; (try (have n_ := Aside0.mk (OB.below hbw_ HO_qo244.out); clear HO_qo244; have HO_qo244 := n_; clear n_)); (first | (have n_ := Aside0.mk (HB00.out.trans (hbw_.mono HB00.out.size)); clear HB00; have HB00 := n_; clear n_) | have HB00 := Aside0.mk hbw_); clear HB hb hbw_; obtain ⟨Pqo244, rfl⟩ := OB.p_some hob0; have HO_qo244 := Aside0.mk hob0; clear hob0; obtain ⟨w, rfl⟩ : ∃ w_ : World, w_ = w42 := ⟨_, rfl⟩; have HB := Aside0.mk (Below.refl w.heap.size w)) | ((with_reducible refine gate_callee (f := 13) rfl ?_); refine goesL_ (some 18) rfl rfl Try.func13 (by kernel_rfl) rfl #[.string a0] rfl (by (try simp only [List.map_toArray, List.map_cons, List.map_nil]); first | done | rfl | (simp only [List.length_drop, List.length_take]; rfl)) ?_; (with_reducible refine (juratref11_Take.calls k a0 t240 t241 _ A6.out).mono ?_); rintro e w43 ⟨v242, rfl, ho0, hb⟩; refine ⟨_, rfl, ?_⟩; have n0_ := Aside0.mk (Kd.R_lower ho0 (below_size (by repeat (first | (with_reducible first | exact HB.out | apply below_alloc | apply pw_below_drewN | apply below_drew1) | exact HB.out)))); have n1_ := Aside0.mk (below_step (by repeat (first | (with_reducible first | exact HB.out | apply below_alloc | apply pw_below_drewN | apply below_drew1) | exact HB.out)) hb); clear HB; have HO243 := n0_; have HB := n1_; clear n0_ n1_; (try clear hb); (try clear hb2); (try clear hk); (try clear hi); (try clear ho0)))
          go_ret
          exact ⟨by first | rfl | (simp [errW_none, errW_some] <;> rfl) | (simp [*, errW_none, errW_some] <;> rfl), by first | (refine HB00.out.trans (Below.mono ?_ HB00.out.size); (repeat (first | (with_reducible first | exact HB.out | apply below_alloc | apply pw_below_drewN | apply below_drew1) | exact HB.out))) | (repeat (first | (with_reducible first | exact HB.out | apply below_alloc | apply pw_below_drewN | apply below_drew1) | exact HB.out))⟩
    · rw [if_neg c7] at H
      have c7b0 : (t239 == t241) = false := beq_eq_false_iff_ne.mpr c7
      have c7b1 : (t239 != t241) = true := bne_iff_ne.mpr c7
      obtain rfl := Option.some.inj H
      go_enter Try.func4, Try.ntmps4
      go_wp2_with (first | ((with_reducible refine gate_callee (f := 12) rfl ?_); refine goesL_ (some 13) rfl rfl Try.func12 (by kernel_rfl) rfl #[.string a0] rfl (by (try simp only [List.map_toArray, List.map_cons, List.map_nil]); first | done | rfl | (simp only [List.length_drop, List.length_take]; rfl)) ?_; (with_reducible refine (book_Take.calls a0 t238 t239 _ A5.out).mono ?_); rintro e w44 ⟨Pt238, rfl, hob0, hb⟩; refine ⟨_, rfl, ?_⟩; have hbw_ := below_step (by repeat (first | (with_reducible first | exact HB.out | apply below_alloc | apply pw_below_drewN | apply below_drew1) | exact HB.out)) hb; (try (have n_ := Aside0.mk (OB.below hbw_ HO_qo244.out); clear HO_qo244; have HO_qo244 := n_; clear n_)); (first | (have n_ := Aside0.mk (HB00.out.trans (hbw_.mono HB00.out.size)); clear HB00; have HB00 := n_; clear n_) | have HB00 := Aside0.mk hbw_); clear HB hb hbw_; have HO_t238 := Aside0.mk hob0; clear hob0; obtain ⟨w, rfl⟩ : ∃ w_ : World, w_ = w44 := ⟨_, rfl⟩; have HB := Aside0.mk (Below.refl w.heap.size w)) | ((with_reducible refine gate_callee (f := 13) rfl ?_); refine goesL_ (some 18) rfl rfl Try.func13 (by kernel_rfl) rfl #[.string a0] rfl (by (try simp only [List.map_toArray, List.map_cons, List.map_nil]); first | done | rfl | (simp only [List.length_drop, List.length_take]; rfl)) ?_; (with_reducible refine (juratref11_Take.calls k a0 t240 t241 _ A6.out).mono ?_); rintro e w45 ⟨v242, rfl, ho0, hb⟩; refine ⟨_, rfl, ?_⟩; have n0_ := Aside0.mk (Kd.R_lower ho0 (below_size (by repeat (first | (with_reducible first | exact HB.out | apply below_alloc | apply pw_below_drewN | apply below_drew1) | exact HB.out)))); have n1_ := Aside0.mk (below_step (by repeat (first | (with_reducible first | exact HB.out | apply below_alloc | apply pw_below_drewN | apply below_drew1) | exact HB.out)) hb); clear HB; have HO243 := n0_; have HB := n1_; clear n0_ n1_; (try clear hb); (try clear hb2); (try clear hk); (try clear hi); (try clear ho0)))
      go_ret
      exact ⟨by first | rfl | (simp [errW_none, errW_some] <;> rfl) | (simp [*, errW_none, errW_some] <;> rfl), by first | (refine HB00.out.trans (Below.mono ?_ HB00.out.size); (repeat (first | (with_reducible first | exact HB.out | apply below_alloc | apply pw_below_drewN | apply below_drew1) | exact HB.out))) | (repeat (first | (with_reducible first | exact HB.out | apply below_alloc | apply pw_below_drewN | apply below_drew1) | exact HB.out))⟩

/-- THE ONE PURE STATEMENT of juratlaw11_BookTakes: yours. -/
def juratlaw11_BookTakes.Pure : Prop := ∀ (a0 : ByteArray), a0.size ≤ 140737488351232 → ∃ k, juratlaw11_BookTakes.f k a0 = some true
theorem juratlaw11_BookTakes.walk (P : juratlaw11_BookTakes.Pure) (a0 : ByteArray) (w : World) (w0 : a0.size ≤ 140737488351232) :
    Calls Try.prog 4 #[.string a0] w fun e w' => e = .returned (.bool true) ∧ Below w.heap.size w w' := by
  obtain ⟨k, h⟩ := P a0 w0
  refine (juratlaw11_BookTakes.calls k a0 true w h).mono ?_
  rintro e w' ⟨rfl, hd⟩
  exact ⟨rfl, hd⟩

end Go.Proofs.Ytpgmpdanplmpfaa.P

/- What book.Take tells, with what book.Put tells; no condition beyond the sizes that stand in each statement. -/
namespace Go.Proofs.Ytpgmpdanplmpfaa.Base
open Go Go.RowKit Go.Proofs.YtpgmpdanplmpfaaW.PrintWords Go.Proofs.YtpgmpdanplmpfaaW.PrintLast Go.Proofs.YtpgmpdanplmpfaaW.PrintMore Go.Proofs.Ytpgmpdanplmpfaa.P
set_option linter.unusedVariables false

theorem map_forth (l : List (List UInt8)) : (l.map strU).map LL = l := by
  rw [List.map_map]
  have : ∀ x : List UInt8, (LL ∘ strU) x = x := fun x => by rw [Function.comp, LL_strU]
  rw [List.map_congr_left (fun x _ => this x), List.map_id']
theorem take_no {s : ByteArray} (hs : s.size ≤ 1073741824) {e : Int} {m : List (List UInt8)} (h : tkBook (LL s) = (e, m)) (he : e ≠ 0) : book_Take.f s = some (none, e) := by
  unfold book_Take.f
  rw [if_pos hs, h, if_neg he]
theorem take_yes {s : ByteArray} (hs : s.size ≤ 1073741824) {m : List ByteArray} (h : tkBook (LL s) = (0, m.map LL)) : book_Take.f s = some (some (setB m), 0) ∧ SetOk m (some (setB m)) m 0 ∧ strU (bkPut (m.map LL)) = s := by
  obtain ⟨h1, h2, h3, h4⟩ := book_take h
  rw [List.length_map] at h3 h4
  have hok := rise_set h2 h3 h4
  refine ⟨?_, hok, LL_inj (by rw [LL_strU, ← h1])⟩
  unfold book_Take.f
  rw [if_pos hs, h, if_pos rfl]
  simp only
  rw [map_back]
  exact hok.hn
theorem take_cases (s : ByteArray) (hs : s.size ≤ 1073741824) : (∃ e m, e ≠ 0 ∧ tkBook (LL s) = (e, m) ∧ book_Take.f s = some (none, e)) ∨ (∃ m : List ByteArray, tkBook (LL s) = (0, m.map LL) ∧ book_Take.f s = some (some (setB m), 0) ∧ SetOk m (some (setB m)) m 0 ∧ strU (bkPut (m.map LL)) = s) := by
  obtain ⟨⟨e, m⟩, hq⟩ : ∃ q, tkBook (LL s) = q := ⟨_, rfl⟩
  by_cases he : e = 0
  · right
    subst he
    have hq2 : tkBook (LL s) = (0, (m.map strU).map LL) := by rw [map_forth]; exact hq
    obtain ⟨a, b, c⟩ := take_yes hs hq2
    exact ⟨_, hq2, a, b, c⟩
  · left
    exact ⟨e, m, he, hq, take_no hs hq he⟩
end Go.Proofs.Ytpgmpdanplmpfaa.Base

/- What the reference takes of bytes is tkBook; no condition beyond the sizes that stand in each statement. -/
namespace Go.Proofs.Ytpgmpdanplmpfaa.Base
open Go Go.RowKit Go.Proofs.YtpgmpdanplmpfaaW.PrintWords Go.Proofs.YtpgmpdanplmpfaaW.PrintLast Go.Proofs.YtpgmpdanplmpfaaW.PrintMore Go.Proofs.Ytpgmpdanplmpfaa.P
set_option linter.unusedVariables false

theorem Ev.succ' {α : Type} {g : Nat → Option α} {r : α} (h : Ev (fun k => g (k + 1)) r) : Ev g r := Ev.step (f := fun k => g (k + 1)) (fun _ => rfl) h
theorem rtake02_l1 (s : ByteArray) (last : Nat) (hl : last < s.size) (h9 : last < 9) : ∀ (i : Nat), i ≤ last + 1 →
    Ev (fun k => juratref02_Take.l1 k s (last : Int) ((valL (((LL s).take (last + 1)).drop i) : Nat) : Int) ((i : Int) - 1)) (((valL ((LL s).take (last + 1)) : Nat) : Int), ((last + 1 : Nat) : Int), 0)
  | 0, hi => by
    refine Ev.ret fun k => ?_
    simp only [juratref02_Take.l1]
    rw [if_neg (by omega), List.drop_zero, wrap_id (by omega) (by omega)]
    rfl
  | i + 1, hi => by
    have ih := rtake02_l1 s last hl h9 i (by omega)
    have hlen : ((LL s).take (last + 1)).length = last + 1 := by rw [List.length_take, LL_length]; omega
    have hd : ((LL s).take (last + 1)).drop i = ((LL s).getD i 0) :: ((LL s).take (last + 1)).drop (i + 1) := by
      rw [List.drop_eq_getElem_cons (by omega)]
      congr 1
      rw [List.getElem_take, List.getD_eq_getElem?_getD, List.getElem?_eq_getElem (by rw [LL_length]; omega)]
      rfl
    have hv1 := valL_lt (((LL s).take (last + 1)).drop i)
    have hv2 := valL_lt (((LL s).take (last + 1)).drop (i + 1))
    have hp : 128 ^ (((LL s).take (last + 1)).drop i).length ≤ 128 ^ 9 := Nat.pow_le_pow_right (by decide) (by rw [List.length_drop, hlen]; omega)
    have hp9 : (128 : Nat) ^ 9 = 9223372036854775808 := by decide
    have hc := UInt8.toNat_lt ((LL s).getD i 0)
    have hb := bt_nat s i
    have ev : valL (((LL s).take (last + 1)).drop i) = ((LL s).getD i 0).toNat % 128 + 128 * valL (((LL s).take (last + 1)).drop (i + 1)) := by rw [hd]; rfl
    have hx : ((i + 1 : Nat) : Int) - 1 = (i : Int) := by omega
    rw [hx]
    generalize valL (((LL s).take (last + 1)).drop (i + 1)) = x at ev hv2 ⊢
    generalize valL (((LL s).take (last + 1)).drop i) = y at ev hv1 ih
    generalize ((LL s).getD i 0).toNat = c at *
    refine Ev.step (f := fun k => juratref02_Take.l1 k s (last : Int) (y : Int) ((i : Int) - 1)) (fun k => ?_) ih
    simp only [juratref02_Take.l1]
    have e1 : wrap64 ((x : Int) * 128) = ((128 * x : Nat) : Int) := by rw [wrap_id (by omega) (by omega)]; omega
    have e2 : Int.tmod (wrap64 (bt s (i : Int))) 128 = ((c % 128 : Nat) : Int) := by
      rw [hb, wrap_id (by omega) (by omega), Int.tmod_eq_emod_of_nonneg (by omega)]
      omega
    have e3 : wrap64 (((128 * x : Nat) : Int) + ((c % 128 : Nat) : Int)) = (y : Int) := by rw [wrap_id (by omega) (by omega)]; omega
    have e4 : wrap64 ((i : Int) - 1) = (i : Int) - 1 := wrap_id (by omega) (by omega)
    have hi2 : (i : Int) < (s.size : Int) := by omega
    have hi1 : (0 : Int) ≤ (i : Int) := by omega
    rw [if_pos (show (i : Int) ≥ 0 from hi1), if_pos hi1, if_pos hi2, e1, e2, e3, e4]
theorem rtake02_l0 (s : ByteArray) (hs : s.size ≤ 4611686018427387904) : ∀ (d i : Nat), i + d = hiL (LL s) → Ev (fun k => juratref02_Take.l0 k s (i : Int)) (takeN (LL s))
  | 0, i, hi => by
    have hle := hiL_le (LL s)
    have hlen := LL_length s
    have hj1 : Ev (fun k => juratref02_Take.j1 k s (i : Int)) (takeN (LL s)) := by
      refine Ev.succ' ?_
      simp only [juratref02_Take.j1]
      by_cases h9 : 9 ≤ i
      · have er : takeN (LL s) = (0, 0, 5) := by unfold takeN takeL; rw [if_pos (by omega)]
        rw [er]
        exact Ev.congr (fun k => if_pos (by omega)) (Ev.const fun _ => rfl)
      refine Ev.congr (fun k => if_neg (by omega)) ?_
      by_cases hz : i = s.size
      · have er : takeN (LL s) = (0, 0, 4) := by unfold takeN takeL; rw [if_neg (by omega), if_pos (by omega)]
        rw [er]
        exact Ev.congr (fun k => if_pos (by omega)) (Ev.const fun _ => rfl)
      refine Ev.congr (fun k => if_neg (by omega)) (Ev.congr (fun k => if_pos (by omega)) (Ev.congr (fun k => if_pos (by omega)) ?_))
      have hb := bt_nat s i
      have er : takeN (LL s) = if ((LL s).getD i 0).toNat = 0 ∧ 0 < i then (0, 0, 3) else (((valL ((LL s).take (i + 1)) : Nat) : Int), ((i + 1 : Nat) : Int), 0) := by
        have e : hiL (LL s) = i := by omega
        unfold takeN takeL
        rw [e, if_neg (by omega), if_neg (by omega)]
      have hval : ¬ (((LL s).getD i 0).toNat = 0 ∧ 0 < i) → Ev (fun k => juratref02_Take.j2 k s (i : Int) false) (takeN (LL s)) := fun hn => by
        rw [er, if_neg hn]
        have hl1 := rtake02_l1 s i (by omega) (by omega) (i + 1) (Nat.le_refl _)
        have hd0 : ((LL s).take (i + 1)).drop (i + 1) = [] := List.drop_eq_nil_of_le (by rw [List.length_take]; omega)
        rw [hd0, show ((i + 1 : Nat) : Int) - 1 = (i : Int) by omega] at hl1
        refine Ev.step (f := fun k => juratref02_Take.l1 k s (i : Int) 0 (i : Int)) (fun k => ?_) hl1
        simp only [juratref02_Take.j2]
        rw [if_neg (by simp)]
      by_cases h0 : bt s (i : Int) = 0
      · refine Ev.congr (fun k => if_pos h0) ?_
        by_cases hp : (i : Int) > 0
        · rw [decide_eq_true hp, er, if_pos ⟨by omega, by omega⟩]
          refine Ev.ret fun k => ?_
          simp only [juratref02_Take.j2]
          rw [if_pos trivial]
        · rw [decide_eq_false hp]
          exact hval (fun h => by omega)
      · refine Ev.congr (fun k => if_neg h0) ?_
        exact hval (fun h => by omega)
    refine Ev.succ' ?_
    simp only [juratref02_Take.l0]
    by_cases hz : i = s.size
    · exact Ev.congr (fun k => if_neg (by omega)) hj1
    · refine Ev.congr (fun k => if_pos (by omega)) (Ev.congr (fun k => if_pos (by omega)) (Ev.congr (fun k => if_neg ?_) hj1))
      rw [bt_nat]
      intro h
      have := hiL_up (LL s) i (by omega) (by omega) (by omega)
      omega
  | d + 1, i, hi => by
    have hle := hiL_le (LL s)
    have hlen := LL_length s
    have ih := rtake02_l0 s hs d (i + 1) (by omega)
    refine Ev.succ' ?_
    simp only [juratref02_Take.l0]
    have hb : bt s (i : Int) ≥ 128 := by
      rw [bt_nat]
      rcases Nat.lt_or_ge ((LL s).getD i 0).toNat 128 with h | h
      · have := hiL_is (LL s) i (by omega) (by omega) h
        omega
      · omega
    refine Ev.congr (fun k => if_pos (by omega)) (Ev.congr (fun k => if_pos (by omega)) (Ev.congr (fun k => if_pos hb) ?_))
    have hw : wrap64 ((i : Int) + 1) = ((i + 1 : Nat) : Int) := by rw [wrap_id (by omega) (by omega)]; omega
    rw [hw]
    exact ih
theorem rtake02_ev (s : ByteArray) (hs : s.size ≤ 4611686018427387904) : Ev (fun k => juratref02_Take.f k s) (takeN (LL s)) := rtake02_l0 s hs (hiL (LL s)) 0 (by omega)
theorem rlen_ev (a : ByteArray) (m b t left : Nat) (ha : a.size ≤ 65535) (ht : t ≤ 16777216) (hb : b ≤ 9223372036854775807) : Ev (fun k => juratref11_lengths.f k (m : Int) (b : Int) a (t : Int) (left : Int)) (lenE m b a.size t left) := by
  unfold juratref11_lengths.f lenE
  by_cases g1 : (m : Int) > (a.size : Int)
  · rw [if_pos g1]
    exact Ev.congr (fun k => if_pos g1) (Ev.const fun k => rfl)
  rw [if_neg g1]
  refine Ev.congr (fun k => if_neg g1) ?_
  by_cases g2 : (b : Int) = 0
  · refine Ev.congr (fun k => if_pos g2) (Ev.ret fun k => ?_)
    simp only [juratref11_lengths.j0]
    by_cases g3 : (m : Int) = 0
    · rw [if_pos (by rw [g3]; rfl), if_pos ⟨g2, g3⟩]
    · rw [if_neg (by simpa using (fun h : m = 0 => g3 (by omega))), if_pos g2, if_neg (fun h => g3 h.2), if_pos g2]
  · refine Ev.congr (fun k => if_neg g2) (Ev.ret fun k => ?_)
    simp only [juratref11_lengths.j0]
    rw [if_neg (by simp), if_neg g2, wrap_id (show -9223372036854775808 ≤ 65535 - (m : Int) by omega) (by omega)]
    rw [if_neg (fun h : (b : Int) = 0 ∧ (m : Int) = 0 => g2 h.1), if_neg g2]
    by_cases g4 : (b : Int) > 65535 - (m : Int)
    · rw [if_pos g4, if_pos g4]
    rw [if_neg g4, if_neg g4, wrap_id (show -9223372036854775808 ≤ (m : Int) + (b : Int) by omega) (by omega), wrap_id (show -9223372036854775808 ≤ 16777216 - (t : Int) by omega) (by omega)]
    by_cases g5 : (m : Int) + (b : Int) > 16777216 - (t : Int)
    · rw [if_pos g5, if_pos g5]
    rw [if_neg g5, if_neg g5]
    by_cases g6 : (b : Int) > (left : Int)
    · rw [if_pos g6, if_pos g6]
    · rw [if_neg g6, if_neg g6]
end Go.Proofs.Ytpgmpdanplmpfaa.Base

/- What the reference takes of bytes is tkBook: the patterns; no condition beyond the sizes that stand in each statement. -/
namespace Go.Proofs.Ytpgmpdanplmpfaa.Base
open Go Go.RowKit Go.Proofs.YtpgmpdanplmpfaaW.PrintWords Go.Proofs.YtpgmpdanplmpfaaW.PrintLast Go.Proofs.YtpgmpdanplmpfaaW.PrintMore Go.Proofs.Ytpgmpdanplmpfaa.P
set_option linter.unusedVariables false

/-- What is told of patterns behind those that are there. -/
def endR (out : List ByteArray) (q : Int × List (List UInt8) × List UInt8) : List ByteArray × Int := if q.1 ≠ 0 then ([], q.1) else if q.2.2 ≠ [] then ([], 20) else (out ++ q.2.1.map strU, 0)
theorem endR_comb (out : List ByteArray) (p : List UInt8) (q : Int × List (List UInt8) × List UInt8) : endR out (comb [p] q) = endR (out ++ [strU p]) q := by
  by_cases h : q.1 = 0
  · have e1 : comb [p] q = (0, [p] ++ q.2.1, q.2.2) := by unfold comb; rw [if_neg (fun g => g h)]
    have e2 : endR (out ++ [strU p]) q = if q.2.2 ≠ [] then ([], 20) else (out ++ [strU p] ++ q.2.1.map strU, 0) := by unfold endR; rw [if_neg (fun g => g h)]
    have e3 : endR out (0, [p] ++ q.2.1, q.2.2) = if q.2.2 ≠ [] then ([], 20) else (out ++ ([p] ++ q.2.1).map strU, 0) := by unfold endR; rw [if_neg (fun g => g rfl)]
    rw [e1, e2, e3]
    simp only [List.map_append, List.map_cons, List.map_nil, List.append_assoc]
  · have e1 : comb [p] q = (q.1, [], []) := by unfold comb; rw [if_pos h]
    rw [e1]
    unfold endR
    rw [if_pos h, if_pos h]
theorem endR_err (out : List ByteArray) {e : Int} (h : e ≠ 0) (x : List (List UInt8)) (y : List UInt8) : endR out (e, x, y) = ([], e) := by unfold endR; rw [if_pos h]
set_option maxHeartbeats 1000000 in
theorem rtake11_l0 (s : ByteArray) (n : Nat) (hs : s.size ≤ 1073741824) (hn : n ≤ 65535) : ∀ (m ps : Nat) (out : List ByteArray) (a : ByteArray) (t : Nat), out.length + m = n → ps ≤ s.size → a.size ≤ 65535 → t ≤ 16777216 →
    Ev (fun k => juratref11_Take.l0 k s (n : Int) (ps : Int) out a (t : Int)) (endR out (tkRows m (LL a) t ((LL s).drop ps)))
  | 0, ps, out, a, t, hm, hps, ha, ht => by
    refine Ev.ret fun k => ?_
    simp only [juratref11_Take.l0]
    rw [if_neg (by omega)]
    have e3 : endR out (tkRows 0 (LL a) t ((LL s).drop ps)) = if (LL s).drop ps ≠ [] then ([], 20) else (out ++ [], 0) := by
      show endR out (0, [], (LL s).drop ps) = _
      unfold endR
      rw [if_neg (fun g => g rfl)]
      rfl
    rw [e3]
    by_cases h : ps < s.size
    · have hne : (LL s).drop ps ≠ [] := fun g => by
        have := congrArg List.length g
        rw [List.length_drop, LL_length, List.length_nil] at this
        omega
      rw [if_pos (show (ps : Int) < (s.size : Int) by omega), if_pos hne]
    · have hem : (LL s).drop ps = [] := List.drop_eq_nil_of_le (by rw [LL_length]; omega)
      rw [if_neg (show ¬ (ps : Int) < (s.size : Int) by omega), if_neg (fun g => g hem), List.append_nil]
  | m + 1, ps, out, a, t, hm, hps, ha, ht => by
    have hLs := LL_length s
    have hLa := LL_length a
    have hsz1 : (s.extract ps s.size).size ≤ 4611686018427387904 := by rw [ByteArray.size_extract]; omega
    have hL1 : LL (s.extract ps s.size) = (LL s).drop ps := LL_tail s ps
    have ht1 := rtake02_ev (s.extract ps s.size) hsz1
    rw [hL1] at ht1
    refine Ev.succ' ?_
    simp only [juratref11_Take.l0]
    refine Ev.congr (fun k => if_pos (by omega)) (Ev.congr (fun k => if_pos (by omega)) (Ev.congr (fun k => if_pos (by omega)) ?_))
    rw [Int.toNat_natCast]
    refine Ev.bind ht1 ?_
    by_cases e1 : (takeN ((LL s).drop ps)).2.2 = 0
    rotate_left
    · have e : tkRow (LL a) t ((LL s).drop ps) = ((takeN ((LL s).drop ps)).2.2, [], []) := by unfold tkRow; rw [if_pos e1]
      rw [rows_err (by rw [e]; exact e1), e, endR_err _ e1]
      exact Ev.congr (fun k => if_neg e1) (Ev.const fun _ => rfl)
    obtain ⟨x, j, h1, hj, _, _, hx⟩ := takeN_ok e1
    rw [List.length_drop, hLs] at hj
    refine Ev.congr (fun k => if_pos e1) ?_
    rw [h1]
    have hw1 := Aside0.mk (show wrap64 ((ps : Int) + (j : Int)) = ((ps + j : Nat) : Int) by rw [wrap_id (by omega) (by omega)]; omega)
    simp only [hw1.out]
    refine Ev.congr (fun k => if_pos (by omega)) (Ev.congr (fun k => if_pos (by omega)) ?_)
    rw [Int.toNat_natCast]
    have hsz2 : (s.extract (ps + j) s.size).size ≤ 4611686018427387904 := by rw [ByteArray.size_extract]; omega
    have hL2 : LL (s.extract (ps + j) s.size) = ((LL s).drop ps).drop j := by rw [LL_tail, List.drop_drop]
    have ht2 := rtake02_ev (s.extract (ps + j) s.size) hsz2
    rw [hL2] at ht2
    refine Ev.bind ht2 ?_
    by_cases e2 : (takeN (((LL s).drop ps).drop j)).2.2 = 0
    rotate_left
    · have e : tkRow (LL a) t ((LL s).drop ps) = ((takeN (((LL s).drop ps).drop j)).2.2, [], []) := by
        unfold tkRow
        rw [h1]
        simp only [Int.toNat_natCast]
        rw [if_neg (by decide), if_pos e2]
      rw [rows_err (by rw [e]; exact e2), e, endR_err _ e2]
      exact Ev.congr (fun k => if_neg e2) (Ev.const fun _ => rfl)
    obtain ⟨b, q, h2, hq, _, _, hb⟩ := takeN_ok e2
    rw [List.length_drop, List.length_drop, hLs] at hq
    refine Ev.congr (fun k => if_pos e2) ?_
    rw [h2]
    have hw2 := Aside0.mk (show wrap64 (((ps + j : Nat) : Int) + (q : Int)) = ((ps + j + q : Nat) : Int) by rw [wrap_id (by omega) (by omega)]; omega)
    have hw3 := Aside0.mk (show wrap64 ((s.size : Int) - ((ps + j + q : Nat) : Int)) = ((s.size - (ps + j + q) : Nat) : Int) by rw [wrap_id (by omega) (by omega)]; omega)
    simp only [hw2.out, hw3.out]
    refine Ev.bind (rlen_ev a x b t (s.size - (ps + j + q)) ha ht hb) ?_
    obtain ⟨s2, hs2⟩ : ∃ s2, (LL s).drop (ps + j + q) = s2 := ⟨_, rfl⟩
    have hs2e : (((LL s).drop ps).drop j).drop q = s2 := by rw [← hs2, List.drop_drop, List.drop_drop, Nat.add_assoc]
    have hs2l : s2.length = s.size - (ps + j + q) := by rw [← hs2, List.length_drop, hLs]
    have htk := tkRow_of (ahead := LL a) (total := t) h1 h2 hs2e
    rw [hLa, hs2l] at htk
    by_cases g : lenE (x : Int) (b : Int) (a.size : Int) (t : Int) ((s.size - (ps + j + q) : Nat) : Int) = 0
    rotate_left
    · rw [if_pos g] at htk
      rw [rows_err (by rw [htk]; exact g), htk, endR_err _ g]
      exact Ev.congr (fun k => if_neg g) (Ev.const fun _ => rfl)
    rw [if_neg (fun h => h g)] at htk
    refine Ev.congr (fun k => if_pos g) ?_
    obtain ⟨z1, z2, z3, z4, z5⟩ := lenE_zero g
    have hg0 : s2.getD 0 0 = (LL s).getD (ps + j + q) 0 := by
      rw [← hs2, List.getD_eq_getElem?_getD, List.getElem?_drop, Nat.add_zero, List.getD_eq_getElem?_getD]
    have hbs := bt_nat s (ps + j + q)
    have hba := bt_nat a x
    rw [← hg0] at hbs
    have hw4 := Aside0.mk (show wrap64 (((ps + j + q : Nat) : Int) + (b : Int)) = ((ps + j + q + b : Nat) : Int) by rw [wrap_id (by omega) (by omega)]; omega)
    obtain ⟨np, hnp⟩ : ∃ np : ByteArray, a.extract 0 x ++ s.extract (ps + j + q) (ps + j + q + b) = np := ⟨_, rfl⟩
    have hnpL : LL np = (LL a).take x ++ s2.take b := by
      rw [← hnp, LL_append, LL_extract, LL_extract, List.drop_zero, ← hs2, List.take_drop]
    have hnpz : np.size = x + b := by rw [← LL_length, hnpL, List.length_append, List.length_take, List.length_take, hLa, hs2l]; omega
    have hw5 := Aside0.mk (show wrap64 ((t : Int) + (np.size : Int)) = ((t + np.size : Nat) : Int) by rw [wrap_id (by omega) (by omega)]; omega)
    have hgo : tkRow (LL a) t ((LL s).drop ps) = (0, LL np, (LL s).drop (ps + j + q + b)) → ∀ f : Bool, f = false → (x < a.size → ¬ bt s ((ps + j + q : Nat) : Int) < bt a (x : Int)) →
        Ev (fun k => juratref11_Take.j2 k s (n : Int) ((ps + j + q : Nat) : Int) out a (t : Int) (x : Int) (b : Int) f) (endR out (tkRows (m + 1) (LL a) t ((LL s).drop ps))) := by
      rintro hrow f rfl hlt
      have ih := rtake11_l0 s n hs hn m (ps + j + q + b) (out ++ [np]) np (t + np.size) (by rw [List.length_append, List.length_singleton]; omega) (by omega) (by omega) (by omega)
      have er : endR out (tkRows (m + 1) (LL a) t ((LL s).drop ps)) = endR (out ++ [np]) (tkRows m (LL np) (t + np.size) ((LL s).drop (ps + j + q + b))) := by
        rw [rows_ok hrow, endR_comb, show strU (LL np) = np from LL_inj (LL_strU _), LL_length]
      rw [er]
      refine Ev.succ' ?_
      simp only [juratref11_Take.j2, hw4.out, Int.toNat_natCast, hnp, hw5.out]
      refine Ev.congr (fun k => if_neg (by simp)) ?_
      have hrest : Ev (fun k => if (x : Int) ≤ (a.size : Int) then (if ((ps + j + q : Nat) : Int) ≤ ((ps + j + q + b : Nat) : Int) then (if ((ps + j + q + b : Nat) : Int) ≤ (s.size : Int) then (if (a.extract 0 x).size + (s.extract (ps + j + q) (ps + j + q + b)).size ≤ 9223372036854775807 then (if out.length < 8796093022208 then juratref11_Take.l0 k s (n : Int) ((ps + j + q + b : Nat) : Int) (out ++ [np]) np ((t + np.size : Nat) : Int) else none) else none) else none) else none) else none) (endR (out ++ [np]) (tkRows m (LL np) (t + np.size) ((LL s).drop (ps + j + q + b)))) := by
        refine Ev.congr (fun k => if_pos (by omega)) (Ev.congr (fun k => if_pos (by omega)) (Ev.congr (fun k => if_pos (by omega)) (Ev.congr (fun k => if_pos (by rw [ByteArray.size_extract, ByteArray.size_extract]; omega)) (Ev.congr (fun k => if_pos (by omega)) ih))))
      by_cases hxa : x < a.size
      · refine Ev.congr (fun k => if_pos (by omega)) (Ev.congr (fun k => if_pos (by omega)) (Ev.congr (fun k => if_pos (by omega)) (Ev.congr (fun k => if_pos (by omega)) (Ev.congr (fun k => if_neg (hlt hxa)) hrest))))
      · refine Ev.congr (fun k => if_neg (by omega)) (Ev.congr (fun k => if_pos (by omega)) ?_)
        refine Ev.congr (fun k => if_pos (by omega)) (Ev.congr (fun k => if_pos (by omega)) (Ev.congr (fun k => if_pos (by omega)) (Ev.congr (fun k => if_pos (by omega)) (Ev.congr (fun k => if_pos (by rw [ByteArray.size_extract, ByteArray.size_extract]; omega)) (Ev.congr (fun k => if_pos (by omega)) ih)))))
    have hdd : s2.drop b = (LL s).drop (ps + j + q + b) := by rw [← hs2, List.drop_drop]
    by_cases g3 : x < a.size
    · refine Ev.congr (fun k => if_pos (by omega)) (Ev.congr (fun k => if_pos (by omega)) (Ev.congr (fun k => if_pos (by omega)) (Ev.congr (fun k => if_pos (by omega)) ?_)))
      by_cases g4 : s2.getD 0 0 = (LL a).getD x 0
      · rw [if_pos ⟨g3, g4⟩] at htk
        rw [rows_err (by rw [htk]; decide), htk, endR_err _ (by decide)]
        refine Ev.ret fun k => ?_
        simp only [juratref11_Take.j2]
        rw [if_pos (by rw [hbs, hba, g4]; simp)]
      · have hf : (bt s ((ps + j + q : Nat) : Int) == bt a (x : Int)) = false := by
          rw [hbs, hba, beq_eq_false_iff_ne]
          intro h
          exact g4 (UInt8.toNat_inj.1 (by omega))
        by_cases g5 : (s2.getD 0 0).toNat < ((LL a).getD x 0).toNat
        · rw [if_neg (fun h => g4 h.2), if_pos ⟨g3, g5⟩] at htk
          rw [rows_err (by rw [htk]; decide), htk, endR_err _ (by decide)]
          refine Ev.ret fun k => ?_
          simp only [juratref11_Take.j2]
          rw [hf, if_neg (by simp), if_pos (by omega), if_pos (by omega), if_pos (by omega), if_pos (by omega), if_pos (by omega)]
        · rw [if_neg (fun h => g4 h.2), if_neg (fun h => g5 h.2), ← hnpL, hdd] at htk
          exact hgo htk _ hf (fun _ => by omega)
    · rw [if_neg (fun h => g3 h.1), if_neg (fun h => g3 h.1), ← hnpL, hdd] at htk
      refine Ev.congr (fun k => if_neg (by omega)) ?_
      exact hgo htk _ rfl (fun h => absurd h g3)
/-- The reference's answer for a book. -/
theorem rtake11_ev (s : ByteArray) (hs : s.size ≤ 1073741824) : Ev (fun k => juratref11_Take.f k s) ((tkBook (LL s)).2.map strU, (tkBook (LL s)).1) := by
  have hLs := LL_length s
  have hno : ∀ f : Bool, f = true → (LL s).take 6 ≠ headL → Ev (fun k => juratref11_Take.j0 k s f) ((tkBook (LL s)).2.map strU, (tkBook (LL s)).1) := by
    rintro f rfl hh
    have e : tkBook (LL s) = (15, []) := by unfold tkBook; rw [if_pos hh]
    rw [e]
    refine Ev.ret fun k => ?_
    simp only [juratref11_Take.j0]
    rw [if_pos trivial]
    rfl
  unfold juratref11_Take.f
  by_cases h6 : (s.size : Int) < 6
  · refine Ev.congr (fun k => if_pos h6) (hno _ rfl ?_)
    intro h
    have := congrArg List.length h
    rw [List.length_take, hLs] at this
    have h7 : headL.length = 6 := rfl
    omega
  refine Ev.congr (fun k => if_neg h6) (Ev.congr (fun k => if_pos (by decide)) (Ev.congr (fun k => if_pos (by omega)) ?_))
  have hxl : (s.extract 0 6).toList = (LL s).take 6 := by
    rw [ByteArray.toList_eq]
    show LL (s.extract 0 6) = _
    rw [LL_extract, List.drop_zero]
  rw [hxl]
  by_cases hh : (LL s).take 6 = headL
  rotate_left
  · exact hno _ (bne_iff_ne.2 hh) hh
  have hf : ((LL s).take 6 != ([106, 117, 114, 97, 116, 1] : List UInt8)) = false := by rw [hh]; decide
  rw [hf]
  have hL0 : LL (s.extract 6 s.size) = (LL s).drop 6 := LL_tail s 6
  have ht1 := rtake02_ev (s.extract 6 s.size) (by rw [ByteArray.size_extract]; omega)
  rw [hL0] at ht1
  refine Ev.succ' ?_
  simp only [juratref11_Take.j0]
  refine Ev.congr (fun k => if_neg (by simp)) (Ev.congr (fun k => if_pos (by omega)) (Ev.bind ht1 ?_))
  by_cases e1 : (takeN ((LL s).drop 6)).2.2 = 0
  rotate_left
  · have e : tkBook (LL s) = ((takeN ((LL s).drop 6)).2.2, []) := by unfold tkBook; rw [if_neg (fun g => g hh), if_pos e1]
    rw [e]
    exact Ev.congr (fun k => if_neg e1) (Ev.const fun _ => rfl)
  obtain ⟨n, j, h1, hj, _, _, hn⟩ := takeN_ok e1
  rw [List.length_drop, hLs] at hj
  have htk := tkBook_of hh h1
  refine Ev.congr (fun k => if_pos e1) ?_
  rw [h1]
  have hw := Aside0.mk (show wrap64 ((j : Int) + 6) = ((6 + j : Nat) : Int) by rw [wrap_id (by omega) (by omega)]; omega)
  simp only [hw.out]
  by_cases g1 : n = 0
  · rw [if_pos g1] at htk
    rw [htk]
    exact Ev.congr (fun k => if_pos (by omega)) (Ev.const fun _ => rfl)
  rw [if_neg g1] at htk
  refine Ev.congr (fun k => if_neg (by omega)) ?_
  by_cases g2 : 65535 < n
  · rw [if_pos g2] at htk
    rw [htk]
    exact Ev.congr (fun k => if_pos (by omega)) (Ev.const fun _ => rfl)
  rw [if_neg g2] at htk
  refine Ev.congr (fun k => if_neg (by omega)) ?_
  have hl := rtake11_l0 s n hs (by omega) n (6 + j) [] (⟨#[]⟩ : ByteArray) 0 (by rw [List.length_nil]; omega) (by omega) (by decide) (by decide)
  have er : endR [] (tkRows n (LL (⟨#[]⟩ : ByteArray)) 0 ((LL s).drop (6 + j))) = ((tkBook (LL s)).2.map strU, (tkBook (LL s)).1) := by
    rw [htk, List.drop_drop]
    show endR [] (tkRows n [] 0 ((LL s).drop (6 + j))) = _
    unfold endR
    obtain ⟨⟨q1, q2, q3⟩, hq⟩ : ∃ q, tkRows n [] 0 ((LL s).drop (6 + j)) = q := ⟨_, rfl⟩
    rw [hq]
    simp only
    by_cases g3 : q1 = 0
    · subst g3
      by_cases g4 : q3 = []
      · subst g4
        simp
      · simp [g4]
    · simp [g3]
  rw [er] at hl
  exact hl
end Go.Proofs.Ytpgmpdanplmpfaa.Base

/- Whether two lists of texts are the same; no condition beyond the sizes that stand in each statement. -/
namespace Go.Proofs.Ytpgmpdanplmpfaa.Base
open Go Go.RowKit Go.Proofs.YtpgmpdanplmpfaaW.PrintWords Go.Proofs.YtpgmpdanplmpfaaW.PrintMore Go.Proofs.Ytpgmpdanplmpfaa.P

/-! the same texts -/
theorem same5_l0 (a b : List ByteArray) (he : a.length = b.length) (hm : a.length ≤ 9223372036854775807) : ∀ (d i : Nat), i + d = a.length →
    Ev (fun k => juratref05_Same.l0 k a b (i : Int)) (decide (a.drop i = b.drop i)) := by
  intro d
  induction d with
  | zero =>
    intro i hi
    refine Ev.ret fun k => ?_
    simp only [juratref05_Same.l0]
    rw [if_neg (by omega), List.drop_of_length_le (by omega), List.drop_of_length_le (by omega)]
    rfl
  | succ d ih =>
    intro i hi
    by_cases h : (rdOf ByteArray.empty a i).toList = (rdOf ByteArray.empty b i).toList
    · refine Ev.step (f := fun k => juratref05_Same.l0 k a b ((i + 1 : Nat) : Int)) (fun k => ?_) ?_
      · simp only [juratref05_Same.l0]
        rw [if_pos (by omega), if_pos (by omega), if_pos (by omega), if_pos h, wrap_id (by omega) (by omega)]
        rfl
      · have e : decide (a.drop i = b.drop i) = decide (a.drop (i + 1) = b.drop (i + 1)) := by
          rw [getD_drop a i ByteArray.empty (by omega), getD_drop b i ByteArray.empty (by omega)]
          have h' := toList_iff.1 h
          unfold rdOf at h'
          rw [Int.toNat_natCast] at h'
          rw [h']
          simp
        rw [e]
        exact ih (i + 1) (by omega)
    · refine Ev.ret fun k => ?_
      simp only [juratref05_Same.l0]
      rw [if_pos (by omega), if_pos (by omega), if_pos (by omega), if_neg h]
      rw [getD_drop a i ByteArray.empty (by omega), getD_drop b i ByteArray.empty (by omega)]
      have h' : ¬ a.getD i ByteArray.empty = b.getD i ByteArray.empty := fun e => h (by unfold rdOf; rw [Int.toNat_natCast, e])
      rw [decide_eq_false (fun e => h' (List.cons.inj e).1)]
theorem same5 (a b : List ByteArray) (hm : a.length ≤ 9223372036854775807) : Ev (fun k => juratref05_Same.f k a b) (decide (a = b)) := by
  by_cases he : a.length = b.length
  · have h := same5_l0 a b he hm a.length 0 (by omega)
    rw [List.drop_zero, List.drop_zero] at h
    refine Ev.congr (fun k => ?_) h
    unfold juratref05_Same.f
    rw [if_pos (by omega)]
    rfl
  · have : decide (a = b) = false := decide_eq_false fun e => he (by rw [e])
    rw [this]
    refine Ev.const fun k => ?_
    unfold juratref05_Same.f
    rw [if_neg (by omega)]

end Go.Proofs.Ytpgmpdanplmpfaa.Base

/- Proved: for every text the law BookTakes of layer 11 answers true. No condition beyond the statement's own. -/
namespace Go.Proofs.Ytpgmpdanplmpfaa.Pure
open Go Go.RowKit Go.Proofs.Ytpgmpdanplmpfaa.P Go.Proofs.YtpgmpdanplmpfaaW.PrintWords Go.Proofs.YtpgmpdanplmpfaaW.PrintLast Go.Proofs.Ytpgmpdanplmpfaa.Base
set_option linter.unusedVariables false

theorem BookTakes : juratlaw11_BookTakes.Pure := by
  intro s hs
  refine Ev.rounds ?_
  unfold juratlaw11_BookTakes.f
  by_cases h1 : (s.size : Int) > 1000
  · refine Ev.congr (fun k => if_pos h1) (Ev.const fun k => ?_)
    rw [awake11]
    rfl
  refine Ev.congr (fun k => if_neg h1) ?_
  have hr := rtake11_ev s (by omega)
  rcases take_cases s (by omega) with ⟨e, m, he, htk, ht⟩ | ⟨m, htk, ht, hok, _⟩
  · rw [htk] at hr
    have hm : m = [] := by
      have h2 : (tkBook (LL s)).2 = [] := by
        have h3 : (tkBook (LL s)).1 ≠ 0 := by rw [htk]; exact he
        revert h3
        unfold tkBook
        repeat' split
        all_goals first | (intro _; rfl) | (intro h; exact absurd rfl h)
      rw [htk] at h2
      exact h2
    subst hm
    refine Ev.bind (Ev.const fun _ => ht) (Ev.bind hr ?_)
    have hsame := same5 [] [] (by decide)
    rw [decide_eq_true rfl] at hsame
    refine Ev.congr (fun k => if_pos rfl) (Ev.congr (fun k => if_pos rfl) (Ev.congr (fun k => if_pos ?_) (Ev.bind (Ev.const fun _ => rfl) (Ev.bind hsame (Ev.congr (fun k => if_pos rfl) (Ev.const fun _ => ?_))))))
    · show (false == (e == 0)) = true
      rw [beq_eq_false_iff_ne.2 he]
      rfl
    · rw [awake11]
      rfl
  · rw [htk] at hr
    refine Ev.bind (Ev.const fun _ => ht) (Ev.bind hr ?_)
    have hsame := same5 m m (by have := hok.few; omega)
    rw [decide_eq_true rfl] at hsame
    have hmb : (m.map LL).map strU = m := map_back m
    rw [hmb]
    refine Ev.congr (fun k => if_pos rfl) (Ev.congr (fun k => if_neg (by simp)) (Ev.congr (fun k => if_pos (by rfl)) (Ev.bind (Ev.const fun _ => list_ok hok) (Ev.bind hsame (Ev.congr (fun k => if_pos rfl) (Ev.const fun _ => ?_))))))
    rw [awake11]
    rfl
end Go.Proofs.Ytpgmpdanplmpfaa.Pure

/- Proved here: what Go functions of this seat compute, or a law of it; no condition beyond the statement's own. Written for this claim by a program of this session (wip/myprint.py) over the kit's print.py. -/
namespace Go.Proofs.Ytpgmpdanplmpfaa.bookTakes
open Go.ChangeShapes Go.WideShapes Go.ChangeAt Go.RowKit
open Go.ChangeMaps (open_string shut_string)
set_option linter.unusedVariables false
theorem own : ownKnob Try.prog.godebug = none := by kernel_rfl
set_option maxRecDepth 100000 in
theorem lifted (os : Os) (started : os.Started) (H : Type) (enc : TypeId × Value → H) :
    ReturnsInHanded {} Try.checked os 4 .any (Rows.bookTakesSpec.pre6 enc Try.prog Try.f4 Rows.bookTakesRow.domain false) (Rows.bookTakesSpec.post enc Try.prog Try.f4 false true false false) := by
  refine returnsInHanded_of_change_sized (C := Try.checked) own started (by kernel_rfl) Try.func4
    (ChangeSpec.witness6 (enc := enc) (C := Try.checked) false ⟨#[], #[.string ByteArray.empty], []⟩ 8 (by kernel_rfl) (by kernel_rfl) (by kernel_rfl) (by kernel_rfl)) ?_
  intro W base args ds gs before hval0 hW hcnd hsz0 _
  have hsz : (DataW.weightsEach Try.prog (Try.f4.params.toList ++ Rows.bookTakesSpec.plain.varTypes Try.prog) (ds ++ gs)).all (· ≤ reachBytes) = true := hsz0
  have hval : ∀ (j : Nat) t v, Try.f4.params[j]? = some t → args[j]? = some v → Value.okWide Try.prog W .any base t v := hval0
  have hW' := hW
  obtain ⟨p, q, hA0, hV, rfl, hfz, hnd⟩ := hW
  have hA : DataW.TrodAll enc Try.prog W 0 (fun _ => true) true Try.f4.params.toList args.toList ds p := hA0
  rw [Try.params4] at hA hval hsz
  obtain ⟨v0, vs0, d0, ds0, p0, q0, hargs, rfl, rfl, h0, r0⟩ := trodAll_cons hA
  obtain ⟨rfl, rfl, rfl⟩ := trodAll_nil r0
  obtain rfl : args = #[v0] := by cases args; simp_all
  obtain ⟨rfl, rfl⟩ := trodVars_none hV
  obtain ⟨a0, rfl, rfl, rfl, y0⟩ := open_string Try.underlying9 (hval 0 9 v0 rfl rfl) h0
  have w0 : a0.size ≤ 140737488351232 := by
    have z := sized_string hsz (j := 0) (t := 9) rfl rfl
    rw [Array.length_toList] at z
    exact z
  clear hA0 hval0 hsz0 hsz
  refine (P.juratlaw11_BookTakes.walk Pure.BookTakes a0 W w0).mono fun e W' ⟨he, bel⟩ => ?_
  subst he
  exact ⟨_, rfl, _, _, _, [], _, [], hW', trodAll_mk1 (shut_bool Try.underlying4 _), (trodAll_cons_mk (shut_string Try.underlying9 y0) trodAll_mk0), rfl, bel.frame _, fun h => by cases h⟩
theorem over : Rows.bookTakesRow.holds Try.pinned (OpenSpec.ofChange Rows.bookTakesSpec) :=
  OpenClaim.holds_of_wide 4 Try.f4 rfl rfl rfl rfl rfl rfl rfl ⟨rfl, rfl, rfl, rfl, rfl⟩ rfl rfl rfl rfl rfl (by kernel_rfl) Try.func4 (by kernel_rfl)
    (of_decide_eq_true (by kernel_rfl)) (by unfold Func.isWrapper; first | (rw [if_pos (by decide +kernel)]; kernel_rfl) | (rw [if_neg (by decide +kernel)]; exact ⟨rfl, rfl⟩))
    (fun os started H enc _ => lifted os started H enc)
theorem proved : Rows.BookTakesSaid := over
#print axioms proved
end Go.Proofs.Ytpgmpdanplmpfaa.bookTakes
namespace Go.Proofs.Ytpgmpdanplmpfaa
/-- The row, under a short name, for the claim. -/
theorem bookTakes_holds : Rows.BookTakesSaid := bookTakes.proved
end Go.Proofs.Ytpgmpdanplmpfaa
