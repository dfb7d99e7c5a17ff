/- What the buckets tell: the least lengths and the bytes; for all buckets, nil too. -/
import Derived.Below
import Derived.Deep.Draws
import Derived.OwnWalk
import Derived.Tactics
import Derived.WalkKit
import Derived.KernelRfl
import Derived.RowKit3
import Derived.Deep.LoopGhost
import Derived.Deep.QuietTactic
import Derived.BigQuiet
import Derived.WideLaws
import Derived.Outline
import Derived.StillTailTactics
import Derived.Test.YtnpkbnfiadkgnaaOb12
import Derived.Test.YtnpkbnfiadkgnaaBase
import Derived.Test.YtnpkbnfiadkgnaaPx0
namespace Go.Proofs.Ytnpkbnfiadkgnaa.P
open Go Go.RowKit Go.Proofs.YtnpkbnfiadkgnaaW.PrintWords Go.Proofs.Ytnpkbnfiadkgnaa.Base
set_option linter.unusedVariables false
set_option linter.unusedSimpArgs false

def bucket_Buckets_Least.f (a0 : Option BucketD) (a1 : Int) : Option Int := match a0 with | none => some 0 | some d => if 0 ≤ a1 ∧ a1 ≤ 255 then some (d.least a1.toNat) else none
set_option maxHeartbeats 400000 in
theorem bucket_Buckets_Least.calls (Pa0 : Option Addr) (a0 : Option BucketD) (a1 : Int) (r : Int) (w : World) (ho : OB K81 w Pa0 a0) (h : bucket_Buckets_Least.f a0 a1 = some r) :
    Calls Try.prog 18 #[.pointer Pa0, .int .u8 a1] w fun e w' => e = .returned (.int .i64 r) ∧ Drawn0 w w' := by
  cases a0 with
  | none =>
    obtain rfl := Option.some.inj h
    obtain rfl := OB.p_none ho
    clear ho h
    go_enter Try.func18, Try.ntmps18
    go_wp2
    go_ret
    exact ⟨rfl, Drawn0.refl _⟩
  | some d =>
    obtain ⟨a, rfl⟩ := OB.p_some ho
    obtain ⟨b, v, rfl, hb, hr⟩ := OB.at ho
    simp only [bucket_Buckets_Least.f] at h
    by_cases hw2 : 0 ≤ a1 ∧ a1 ≤ 255
    rotate_left
    · rw [if_neg hw2] at h; cases h
    rw [if_pos hw2] at h
    obtain rfl := Option.some.inj h
    obtain ⟨w0, w1⟩ := hw2
    obtain ⟨c, rfl⟩ : ∃ c : Nat, a1 = c := ⟨a1.toNat, by omega⟩
    have hc : w.cell? ⟨b, 256 + c, none⟩ = some (.int .i64 (d.least c)) := (blk_cell hb (256 + c)).trans (bkCells_least (by omega))
    rw [Int.toNat_natCast]
    generalize d.least c = z at hc ⊢
    clear ho h hb hr
    go_enter Try.func18, Try.ntmps18
    go_wp2
    go_ret
    exact ⟨rfl, Drawn0.refl _⟩

theorem info12 : (Try.prog.info? 5).map (fun i => (i.zero, i.size, i.bytes)) = some (some (.int .u8 0), 1, 1) := by kernel_rfl
/-- The bytes below one whose buckets are not empty. -/
def bkB (d : BucketD) : Nat → List Int
  | 0 => []
  | k + 1 => if (d.ids k).length > 0 then bkB d k ++ [(k : Int)] else bkB d k
theorem bkB_length (d : BucketD) : ∀ k, (bkB d k).length ≤ k
  | 0 => Nat.le_refl _
  | k + 1 => by
    have := bkB_length d k
    simp only [bkB]
    split
    · simp; omega
    · omega
def bucket_Buckets_Bytes.f (a0 : Option BucketD) : Option ByteArray := match a0 with | none => some ⟨#[]⟩ | some d => some (strOfNums (bkB d 256))
set_option maxHeartbeats 4000000 in
set_option maxRecDepth 100000 in
theorem bucket_Buckets_Bytes.calls (Pa0 : Option Addr) (a0 : Option BucketD) (r : ByteArray) (w : World) (ho : OB K81 w Pa0 a0) (h : bucket_Buckets_Bytes.f a0 = some r) :
    Calls Try.prog 20 #[.pointer Pa0] w fun e w' => e = .returned (.string r) ∧ Below w.heap.size w w' := by
  cases a0 with
  | none =>
    obtain rfl := Option.some.inj h
    obtain rfl := OB.p_none ho
    clear ho h
    go_enter Try.func20, Try.ntmps20
    go_wp2
    go_ret
    exact ⟨rfl, Below.refl _ _⟩
  | some d =>
    obtain ⟨a, rfl⟩ := OB.p_some ho
    obtain ⟨b, v, rfl, hb, hr⟩ := OB.at ho
    obtain rfl := Option.some.inj h
    have HB0 := Aside0.mk hb
    have HR := Aside0.mk hr
    have HLT := Aside0.mk (blk_lt hb)
    obtain ⟨BB, hBB⟩ : ∃ BB, bkB d 256 = BB := ⟨_, rfl⟩
    rw [hBB]
    have HBB := Aside0.mk hBB
    clear ho h hb hr hBB
    go_enter Try.func20, Try.ntmps20
    go_wp2
    go_loopg [3, 7] 256 (fun kx v i wr => ∃ (k : Nat), i = .int .i64 k ∧ k ≤ 256 ∧ 256 - k ≤ kx ∧ Aside0 (Kd.R (Kd.int .u8) 5 wr w.heap.size (fun _ => True) v (bkB d k)) ∧ Aside0 (Below w.heap.size w wr))
    case atStart => exact ⟨0, rfl, by omega, by omega, ⟨Kd.R_nil _ _ _ _ _⟩, ⟨Below.refl _ _⟩⟩
    case round =>
      obtain ⟨k, rfl, hk, hkx, HO, HB⟩ := hrel
      by_cases hlt : k < 256
      · obtain ⟨A, m, hv, hm, hC⟩ := HR.out k hlt
        have hc := (HB.out.cell (p := ⟨b, k, none⟩) HLT.out).trans ((blk_cell HB0.out k).trans (bkCells_ids hlt))
        rw [hv] at hc
        have hkl := bkB_length d k
        have hki : (k : Int) < 256 := by omega
        clear hv hm hC
        by_cases hp : (d.ids k).length > 0
        · have HE := Aside0.mk (show bkB d (k + 1) = bkB d k ++ [(k : Int)] from if_pos hp)
          have hp' : decide (0 < ((d.ids k).length : Int)) = true := decide_eq_true (by omega)
          have hp'' : decide (0 < (d.ids k).length) = true := decide_eq_true hp
          obtain ⟨A2, c2, rfl⟩ := Kd.R_slice HO.out
          have hu1 : (0 : Int) ≤ (k : Int) := by omega
          have hu2 : (k : Int) ≤ 255 := by omega
          generalize (d.ids k).length = n at hc hp' hp'' hp
          generalize bkB d k = Bs at HO HE hkl
          clear hp
          go_wp2_with ((with_reducible refine gate_builtin (b := .append) (xs := #[.tmp 18, .tmp 21]) rfl ?_); at_builtin; refine Kd.R_append (Kd.int .u8) (w0 := w) w.heap.size rfl (.tmp 18) (.tmp 21) 66 5 (.int .u8 0) 1 rfl Try.underlying66 info12 rfl (by decide) (by omega) (.slice A2 Bs.length c2) Bs (k : Int) [.int .u8 (k : Int)] (fun _ => True) (fun _ => False) rfl rfl ?aP (fun _ hk => hk.elim) ?aF ?aO ?aB ?aS ?aL ?_; (case aP => exact rfl); (case aB => exact HB.out); (case aF => exact (fun _ _ => trivial)); (case aO => exact HO.out); (case aS => exact HB.out.size); (case aL => omega); intro v1 w6 ho hb hg hat; have HO1 := Aside0.mk ho; have HB1 := Aside0.mk hb; clear ho hb hg hat)
          go_roundg (256 - (k + 1))
          case measure => omega
          case rel => exact ⟨k + 1, by go_num, by omega, Nat.le_refl _, ⟨by rw [HE.out]; exact HO1.out⟩, HB1⟩
        · have HE := Aside0.mk (show bkB d (k + 1) = bkB d k from if_neg hp)
          have hp' : decide (0 < ((d.ids k).length : Int)) = false := decide_eq_false (by omega)
          have hp'' : decide (0 < (d.ids k).length) = false := decide_eq_false hp
          have hp3 : d.ids k = [] := List.length_eq_zero_iff.1 (by omega)
          clear hp
          go_wp2
          go_roundg (256 - (k + 1))
          case measure => omega
          case rel => exact ⟨k + 1, by go_num, by omega, Nat.le_refl _, ⟨by rw [HE.out]; exact HO.out⟩, HB⟩
      · obtain rfl : k = 256 := by omega
        rw [HBB.out] at HO
        obtain ⟨A2, c2, rfl⟩ := Kd.R_slice HO.out
        have hcv := fun (W : World) (h : Below wr.heap.size wr W) => Kd.C_string (P := Try.prog) (src := 66) (dst := 9) (c := c2) Try.underlying66 Try.underlying5 Try.underlying9 (Kd.C_below (Kd.R_reads' HO.out).2.2 h)
        have hcv0 := hcv wr (Below.refl _ _)
        clear hcv
        go_wp2
        go_ret
        exact ⟨rfl, HB.out⟩

end Go.Proofs.Ytnpkbnfiadkgnaa.P
