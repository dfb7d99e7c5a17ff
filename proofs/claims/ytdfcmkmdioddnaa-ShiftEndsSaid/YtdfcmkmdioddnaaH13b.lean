/- Whether a byte is foreign, and the ends that a table of shifts tells of a text; for every table, nil too. -/
import Derived.Test.YtdfcmkmdioddnaaH13a
namespace Go.Proofs.Ytdfcmkmdioddnaa.P
open Go Go.RowKit Go.Proofs.YtdfcmkmdioddnaaW.PrintWords Go.Proofs.YtdfcmkmdioddnaaW.PrintLast Go.Proofs.YtdfcmkmdioddnaaW.PrintMore Go.Proofs.Ytdfcmkmdioddnaa.Base
set_option linter.unusedVariables false
set_option linter.unusedSimpArgs false

def shift_Table_Foreign.f (a0 : Option ShiftD) (a1 : Int) : Option Bool := match a0 with | none => some false | some d => if 0 ≤ a1 ∧ a1 ≤ 255 then some (decide (0 < d.least) && decide (d.first.getD a1.toNat 0 = d.least)) else none
set_option maxHeartbeats 1600000 in
theorem shift_Table_Foreign.calls (Pa0 : Option Addr) (a0 : Option ShiftD) (a1 : Int) (r : Bool) (w : World) (ho : OB K77 w Pa0 a0) (h : shift_Table_Foreign.f a0 a1 = some r) :
    Calls Try.prog 24 #[.pointer Pa0, .int .u8 a1] w fun e w' => e = .returned (.bool r) ∧ Drawn0 w w' := by
  obtain ⟨m, n, hm, hn, hr⟩ : ∃ m n, shift_Table_Least.f a0 = some m ∧ shift_Table_First.f a0 a1 = some n ∧ r = (decide (0 < m) && decide (n = m)) := by
    cases a0 with
    | none => exact ⟨0, 0, rfl, rfl, (Option.some.inj h).symm⟩
    | some d =>
      simp only [shift_Table_Foreign.f] at h
      by_cases hw2 : 0 ≤ a1 ∧ a1 ≤ 255
      rotate_left
      · rw [if_neg hw2] at h; cases h
      rw [if_pos hw2] at h
      exact ⟨d.least, d.first.getD a1.toNat 0, rfl, by simp only [shift_Table_First.f]; rw [if_pos hw2], (Option.some.inj h).symm⟩
  have HL := Aside0.mk (fun W (g : OB K77 W Pa0 a0) => shift_Table_Least.calls Pa0 a0 m W g hm)
  have HF := Aside0.mk (fun W (g : OB K77 W Pa0 a0) => shift_Table_First.calls Pa0 a0 a1 n W g hn)
  subst hr
  have HO := Aside0.mk ho
  clear h ho hm hn
  by_cases h0 : 0 < m
  · have c0 : decide (0 < m) = true := decide_eq_true h0
    rw [c0, Bool.true_and]
    clear h0
    go_enter Try.func24, Try.ntmps24
    go_wp2_with (first
      | (go_at_call 23; refine (HL.out _ (by first | exact HO.out | exact OB.drewN HO.out _)).mono ?_; rintro e w' ⟨rfl, ⟨nd, rfl⟩⟩)
      | (go_at_call 20; refine (HF.out _ (by first | exact HO.out | exact OB.drewN HO.out _)).mono ?_; rintro e w' ⟨rfl, ⟨nd, rfl⟩⟩))
    go_ret
    exact ⟨by congr 2, by repeat (first | exact Drawn0.refl _ | apply Drawn0.step)⟩
  · have c0 : decide (0 < m) = false := decide_eq_false h0
    rw [c0, Bool.false_and]
    clear h0
    go_enter Try.func24, Try.ntmps24
    go_wp2_with (go_at_call 23; refine (HL.out _ (by first | exact HO.out | exact OB.drewN HO.out _)).mono ?_; rintro e w' ⟨rfl, ⟨nd, rfl⟩⟩)
    go_ret
    exact ⟨rfl, by repeat (first | exact Drawn0.refl _ | apply Drawn0.step)⟩
theorem info13b : (Try.prog.info? 3).map (fun i => (i.zero, i.size, i.bytes)) = some (some (.int .i64 0), 1, 8) := by kernel_rfl
/-- The shift of the byte ahead of an end. -/
def shAt (T : List Int) (s : ByteArray) (e : Nat) : Nat := (T.getD ((LL s).getD (e - 1) 0).toNat 0).toNat
/-- The ends that are told, from one on. -/
def endsB (T : List Int) (s : ByteArray) : Nat → Nat → List Int
  | 0, _ => []
  | f + 1, e => if e ≤ s.size then if shAt T s e = 0 then (e : Int) :: endsB T s f (e + 1) else endsB T s f (e + shAt T s e) else []
def shift_Table_Ends.f (a0 : Option ShiftD) (a1 : ByteArray) : Option (List Int) := match a0 with
  | none => some []
  | some d => if d.least = 0 then some [] else if 0 < d.least ∧ d.least ≤ 1099511627776 ∧ (∀ n ∈ d.first, 0 ≤ n ∧ n ≤ 1099511627776) ∧ a1.size ≤ 1099511627776 then some (endsB d.first a1 (a1.size + 1) d.least.toNat) else none
set_option maxHeartbeats 4000000 in
set_option maxRecDepth 100000 in
theorem shift_Table_Ends.calls (Pa0 : Option Addr) (a0 : Option ShiftD) (s : ByteArray) (r : List Int) (w : World) (ho : OB K77 w Pa0 a0) (h : shift_Table_Ends.f a0 s = some r) :
    Calls Try.prog 16 #[.pointer Pa0, .string s] w fun e w' => ∃ v0_ : Value, e = .returned v0_ ∧ Kd.R (Kd.int .i64) 3 w' w.heap.size (fun _ => True) v0_ r ∧ Below w.heap.size w w' := by
  obtain ⟨m, hm⟩ : ∃ m, shift_Table_Least.f a0 = some m := ⟨_, rfl⟩
  have HL := Aside0.mk (fun W (g : OB K77 W Pa0 a0) => shift_Table_Least.calls Pa0 a0 m W g hm)
  have HO := Aside0.mk ho
  by_cases hm0 : m = 0
  · obtain rfl : r = [] := by
      cases a0 with
      | none => exact (Option.some.inj h).symm
      | some d =>
        have : d.least = 0 := (Option.some.inj hm).trans hm0
        simp only [shift_Table_Ends.f] at h
        rw [if_pos this] at h
        exact (Option.some.inj h).symm
    subst hm0
    clear h ho hm
    go_enter Try.func16, Try.ntmps16
    go_wp2_with (go_at_call 23; refine (HL.out _ HO.out).mono ?_; rintro e w' ⟨rfl, ⟨nd, rfl⟩⟩)
    go_ret
    exact ⟨_, rfl, Kd.R_nil _ _ _ _ _, by repeat (first | exact Below.refl _ _ | apply pw_below_drewN)⟩
  · cases a0 with
    | none => exact absurd (Option.some.inj hm).symm hm0
    | some d =>
      have hdm : d.least = m := Option.some.inj hm
      simp only [shift_Table_Ends.f] at h
      rw [if_neg (by rw [hdm]; exact hm0)] at h
      by_cases hs : 0 < d.least ∧ d.least ≤ 1099511627776 ∧ (∀ n ∈ d.first, 0 ≤ n ∧ n ≤ 1099511627776) ∧ s.size ≤ 1099511627776
      rotate_left
      · rw [if_neg hs] at h; cases h
      rw [if_pos hs] at h
      have HE := Aside0.mk (Option.some.inj h)
      obtain ⟨g0, g1, g2, g3⟩ := hs
      obtain ⟨a, rfl⟩ := OB.p_some ho
      obtain ⟨b, rfl, hl, hb⟩ := OB.at ho
      have HBL := Aside0.mk (blk_lt hb)
      have HP := Aside0.mk hb
      have HLN := Aside0.mk hl
      have HG := Aside0.mk g2
      have hc := (blk_cell hb 256).trans (shCells_last hl)
      rw [hdm] at hc g0 g1 HE
      have hb1 : ((m : Int) == 0) = false := by rw [beq_eq_false_iff_ne]; exact hm0
      obtain ⟨mn, rfl⟩ : ∃ n : Nat, m = n := ⟨m.toNat, by omega⟩
      rw [Int.toNat_natCast] at HE
      clear h ho hm hdm hm0 hl hb g2
      go_enter Try.func16, Try.ntmps16
      go_wp2_with (go_at_call 23; refine (HL.out _ HO.out).mono ?_; rintro e w' ⟨rfl, ⟨nd, rfl⟩⟩)
      go_loopg [5, 6] (s.size + 1) (fun kx v i wr => ∃ (e : Nat) (out : List Int), i = .int .i64 e ∧ 0 < e ∧ e ≤ 2199023255552 ∧ s.size + 1 - e ≤ kx ∧ out.length ≤ e ∧
        Aside0 (out ++ endsB d.first s kx e = r) ∧ Aside0 (Kd.R (Kd.int .i64) 3 wr w.heap.size (fun _ => True) v out) ∧ Aside0 (Below w.heap.size w wr))
      case atStart => exact ⟨mn, [], rfl, by omega, by omega, by omega, by simp, ⟨by rw [List.nil_append]; exact HE.out⟩, ⟨Kd.R_nil _ _ _ _ _⟩, ⟨by repeat (first | exact Below.refl _ _ | apply pw_below_drewN)⟩⟩
      case round =>
        clear HE hc
        obtain ⟨e, out, rfl, he0, he1, hkx, hol, HE, HR, HB⟩ := hrel
        by_cases hle : e ≤ s.size
        · have hle' : (e : Int) ≤ s.size := by omega
          cases gk with
          | zero => omega
          | succ kn =>
          have hE := HE.out
          simp only [endsB] at hE
          rw [if_pos hle] at hE
          obtain ⟨cc, hcc⟩ : ∃ cc : Nat, (s[e - 1]'(by omega)).toNat = cc := ⟨_, rfl⟩
          have hcl : cc < 256 := by rw [← hcc]; exact UInt8.toNat_lt _
          have hbe : ((LL s).getD (e - 1) 0).toNat = cc := by
            rw [List.getD_eq_getElem?_getD, List.getElem?_eq_getElem (by rw [LL_length]; omega), ← hcc]
            rfl
          have hn := HG.out _ (getD_mem d.first cc 0 (by rw [HLN.out]; exact hcl))
          have hck := (HB.out.cell (p := ⟨b, cc, none⟩) HBL.out).trans ((blk_cell HP.out cc).trans (shCells_at HLN.out hcl))
          have hsh : shAt d.first s e = (d.first.getD cc 0).toNat := by unfold shAt; rw [hbe]
          rw [hsh] at hE
          obtain ⟨n, hnn⟩ : ∃ n : Nat, d.first.getD cc 0 = n := ⟨(d.first.getD cc 0).toNat, by omega⟩
          rw [hnn] at hE hck hn
          rw [Int.toNat_natCast] at hE
          have hci : (cc : Int) < 256 := by omega
          have HC := Aside0.mk hcc
          have HE1 := Aside0.mk hE
          obtain ⟨hn1, hn2⟩ := hn
          clear hcc hbe hsh hnn hE HE
          by_cases hz : n = 0
          · subst hz
            have hE := HE1.out
            rw [if_pos rfl] at hE
            have HE2 := Aside0.mk hE
            clear hE HE1
            have w1 : IntKind.i64.wrap ((e : Int) - 1) = (e : Int) - 1 := by rw [i64_w, wrap_id (by omega) (by omega)]
            have w2 : 0 ≤ (e : Int) - 1 := by omega
            have w3 : ((e : Int) - 1).toNat = e - 1 := by omega
            have w4 : (e : Int) - 1 < s.size := by omega
            have w5 : ∀ h : e - 1 < s.size, (s[e - 1]'h).toNat = cc := fun _ => HC.out
            go_wp2
            go_quiet (fail)
            clear w1 w3 w5
            have hln : out.length + 1 ≤ 2199023255553 := by omega
            go_wp2_with ((with_reducible refine gate_builtin (b := .append) (xs := #[.tmp 30, .tmp 32]) rfl ?_); at_builtin; refine Kd.R_append (Kd.int .i64) (w0 := w) w.heap.size rfl (.tmp 30) (.tmp 32) 33 3 (.int .i64 0) 8 rfl Try.underlying33 info13b rfl (by decide) (by omega) u5 out (e : Int) [.int .i64 (e : Int)] (fun _ => True) (fun _ => False) rfl rfl ?aP (fun _ hk => hk.elim) ?aF ?aO ?aB ?aS ?aL ?_; (case aP => exact rfl); (case aB => exact (by repeat (first | exact HB.out | (with_reducible apply pw_below_drewN) | (with_reducible apply below_drew)))); (case aF => exact (fun _ _ => trivial)); (case aO => exact (by (with_reducible repeat (first | apply Kd.R_alloc | apply Kd.R_drewN | apply Kd.R_drew)); exact HR.out)); (case aS => exact HB.out.size); (case aL => omega); intro v1 w6 ho hb hg hat; have HB1 := Aside0.mk hb; have HR1 := Aside0.mk ho; clear ho hb hg hat)
            go_roundg kn
            case measure => omega
            case rel => exact ⟨e + 1, out ++ [(e : Int)], by go_num, by omega, by omega, by omega, by simp; omega, ⟨by rw [List.append_assoc]; exact HE2.out⟩, HR1, HB1⟩
          · have hE := HE1.out
            rw [if_neg hz] at hE
            have HE2 := Aside0.mk hE
            have hz1 : ((n : Int) == 0) = false := by rw [beq_eq_false_iff_ne]; omega
            clear hE HE1
            have w1 : IntKind.i64.wrap ((e : Int) - 1) = (e : Int) - 1 := by rw [i64_w, wrap_id (by omega) (by omega)]
            have w2 : 0 ≤ (e : Int) - 1 := by omega
            have w3 : ((e : Int) - 1).toNat = e - 1 := by omega
            have w4 : (e : Int) - 1 < s.size := by omega
            have w5 : ∀ h : e - 1 < s.size, (s[e - 1]'h).toNat = cc := fun _ => HC.out
            go_wp2
            go_quiet (fail)
            clear w1 w3 w5
            go_wp2
            go_roundg kn
            case measure => omega
            case rel => exact ⟨e + n, out, by go_num, by omega, by omega, by omega, by omega, HE2, ⟨by (with_reducible repeat (first | apply Kd.R_drewN | apply Kd.R_drew)); exact HR.out⟩, ⟨by repeat (first | exact HB.out | (with_reducible apply pw_below_drewN) | (with_reducible apply below_drew))⟩⟩
        · have hE := HE.out
          have hn : endsB d.first s gk e = [] := by
            cases gk with
            | zero => rfl
            | succ k => simp only [endsB]; rw [if_neg hle]
          rw [hn, List.append_nil] at hE
          subst hE
          have hle' : ¬ (e : Int) ≤ s.size := by omega
          clear HE hn
          go_wp2
          go_ret
          exact ⟨_, rfl, HR.out, HB.out⟩

end Go.Proofs.Ytdfcmkmdioddnaa.P
