/- The table of shifts of a set: the walk. -/
import Derived.Test.YtdfcmkmdioddnaaH13a
import Derived.Test.YtdfcmkmdioddnaaH10b
namespace Go.Proofs.Ytdfcmkmdioddnaa.P
open Go Go.RowKit Go.Proofs.YtdfcmkmdioddnaaW.PrintWords Go.Proofs.YtdfcmkmdioddnaaW.PrintMore Go.Proofs.Ytdfcmkmdioddnaa.Base
attribute [local go_sem] max2_int min2_int max_two min_two
set_option linter.unusedVariables false
set_option linter.unusedSimpArgs false

/-- One byte's shift, as a pattern's byte at a distance tells it. -/
def shPut (s : ByteArray) (T : List Int) (d : Nat) : List Int := T.set ((LL s).getD (s.size - 1 - d) 0).toNat (min (T.getD ((LL s).getD (s.size - 1 - d) 0).toNat 0) (d : Int))
def shRow (m : Nat) (T : List Int) (s : ByteArray) : List Int := (List.range m).foldl (shPut s) T
def shTab (m : Nat) (l : List ByteArray) : List Int := l.foldl (shRow m) (List.replicate 256 (m : Int))
def shift_New.f (a0 : Option SetD) : Option (Option ShiftD) :=
  if 0 ≤ setM a0 ∧ (setL a0).length ≤ 8796093022208 ∧ ∀ s ∈ setL a0, setM a0 ≤ s.size ∧ s.size ≤ 4611686018427387904 then some (some ⟨shTab (setM a0).toNat (setL a0), setM a0⟩) else none
theorem shPut_length (s : ByteArray) (T : List Int) (d : Nat) : (shPut s T d).length = T.length := List.length_set ..
theorem shPut_eq {s : ByteArray} {T : List Int} {d cc : Nat} (h : ((LL s).getD (s.size - 1 - d) 0).toNat = cc) : shPut s T d = T.set cc (min (T.getD cc 0) (d : Int)) := by unfold shPut; rw [h]
theorem shRow_length (s : ByteArray) (m : Nat) (T : List Int) : (shRow m T s).length = T.length := by
  unfold shRow
  induction m with
  | zero => rfl
  | succ m ih => rw [List.range_succ, List.foldl_append, List.foldl_cons, List.foldl_nil, shPut_length, ih]
theorem shFold_length (m : Nat) : ∀ (l : List ByteArray) (T : List Int), (l.foldl (shRow m) T).length = T.length
  | [], T => rfl
  | s :: l, T => by rw [List.foldl_cons, shFold_length m l, shRow_length]
theorem shTab_length (m : Nat) (l : List ByteArray) : (shTab m l).length = 256 := by
  unfold shTab
  rw [shFold_length, List.length_replicate]

theorem sh_next (k : Nat) (m : Int) (h : k < 256) : List.replicate (k + 1) m ++ List.replicate (256 - (k + 1)) 0 = (List.replicate k m ++ List.replicate (256 - k) 0).set k m := by
  rw [List.set_append_right _ _ (by simp), List.length_replicate, Nat.sub_self, show 256 - k = (256 - (k + 1)) + 1 by omega, List.replicate_succ (n := 256 - (k + 1)), List.set_cons_zero, List.replicate_succ', List.append_assoc]
  rfl
set_option maxHeartbeats 8000000 in
set_option maxRecDepth 100000 in
theorem shift_New.calls (Pa0 : Option Addr) (a0 : Option SetD) (r : Option ShiftD) (w : World) (ho : OB K73 w Pa0 a0) (h : shift_New.f a0 = some r) :
    Calls Try.prog 15 #[.pointer Pa0] w fun e w' => ∃ P0_ : Option Addr, e = .returned (.pointer P0_) ∧ OB K77 w' P0_ r ∧ Below w.heap.size w w' := by
  unfold shift_New.f at h
  by_cases hs : 0 ≤ setM a0 ∧ (setL a0).length ≤ 8796093022208 ∧ ∀ s ∈ setL a0, setM a0 ≤ s.size ∧ s.size ≤ 4611686018427387904
  rotate_left
  · rw [if_neg hs] at h; cases h
  rw [if_pos hs] at h
  have HO := Aside0.mk ho
  have hLe := fun W (g : OB K73 W Pa0 a0) => pats_Set_Least.calls Pa0 a0 (setM a0) W g (by cases a0 <;> rfl)
  have hLi := fun W (g : OB K73 W Pa0 a0) => pats_Set_List.calls Pa0 a0 (setL a0) W g (by
    cases a0 with
    | none => rfl
    | some d => show (if d.l.length ≤ 8796093022208 then some d.l else none) = _; rw [if_pos (show d.l.length ≤ 8796093022208 from hs.2.1)]; rfl)
  generalize setL a0 = l at h hs hLi
  generalize setM a0 = mi at h hs hLe
  obtain ⟨h0, h1, h2⟩ := hs
  obtain ⟨m, rfl⟩ : ∃ m : Nat, mi = m := ⟨mi.toNat, by omega⟩
  obtain rfl := Option.some.inj h
  rw [Int.toNat_natCast]
  have HLE := Aside0.mk hLe
  have HLI := Aside0.mk hLi
  have H1 := Aside0.mk h1
  have H2 := Aside0.mk h2
  clear h ho hLe hLi h1 h2 h0
  go_enter Try.func15, Try.ntmps15
  go_wp2_with (go_at_call 54; refine (HLE.out _ HO.out).mono ?_; rintro e w' ⟨rfl, ⟨nd, rfl⟩⟩)
  have hz : Try.zeroCells77.setIfInBounds 256 (Value.int IntKind.i64 (m : Int)) = shCells (List.replicate 0 (m : Int) ++ List.replicate 256 0) m := by
    have : Try.zeroCells77 = shCells (List.replicate 256 0) 0 := by kernel_rfl
    rw [this]
    exact shCells_setlast (by simp) _
  rw [hz]
  clear hz
  go_loopg [13] 256 (fun kx i wr => ∃ (k : Nat), i = .int .i64 k ∧ k ≤ 256 ∧ 256 - k ≤ kx ∧
    Aside0 (wr.heap[w.heap.size]? = some (.cells (shCells (List.replicate k (m : Int) ++ List.replicate (256 - k) 0) m) 77 (0, 0))) ∧ Aside0 (Below w.heap.size w wr))
  case atStart => exact ⟨0, rfl, by omega, by omega, ⟨heap_alloc_new _ _⟩, ⟨(pw_below_drewN (Below.refl _ _) _).alloc (Nat.le_refl _) _⟩⟩
  case round =>
    obtain ⟨k, rfl, hk, hkx, HP, HB⟩ := hrel
    have hlen : (List.replicate k (m : Int) ++ List.replicate (256 - k) 0).length = 256 := by simp; omega
    by_cases hlt : k < 256
    · have hc0 := (blk_cell HP.out 256).trans (shCells_last hlen)
      have hck := (blk_cell HP.out k).trans (shCells_at hlen hlt)
      have hfk := blk_frozen HP.out k
      have HL := Aside0.mk hlen
      clear hlen
      generalize List.getD _ k 0 = z at hck
      go_wp2
      go_still_tail 9, (by kernel_rfl)
      go_wp2
      go_roundg (256 - (k + 1))
      case measure => omega
      case rel =>
        refine ⟨k + 1, by go_num, by omega, Nat.le_refl _, ⟨?_⟩, ⟨?_⟩⟩
        · rw [show List.replicate (k + 1) (m : Int) ++ List.replicate (256 - (k + 1)) 0 = (List.replicate k (m : Int) ++ List.replicate (256 - k) 0).set k m from sh_next k m hlt]
          exact (blk_set HP.out k _).trans (by rw [shCells_set HL.out hlt])
        · repeat (first | exact HB.out | (with_reducible apply below_drew) | (with_reducible apply pw_below_drewN) | exact Below.setCell HB.out (Nat.le_refl _) _)
    · obtain rfl : k = 256 := by omega
      have hB := HB.out
      have hP := HP.out
      simp only [Nat.sub_self, List.replicate_zero, List.append_nil] at hP
      clear hlen HP
      obtain ⟨W0, rfl⟩ : ∃ W0 : World, W0 = wr := ⟨_, rfl⟩
      have HBw := Aside0.mk (show w.heap.size < W0.heap.size from blk_lt hP)
      have HP := Aside0.mk hP
      have HB := Aside0.mk hB
      clear hP hB
      go_wp2_with (go_at_call 55; refine (HLI.out _ (OB.below HB.out HO.out)).mono ?_; rintro e W1 ⟨v, rfl, hR, hb⟩; have HP1 := Aside0.mk ((hb.block _ HBw.out).trans HP.out); have HB1 := Aside0.mk (HB.out.trans (hb.mono (Nat.le_of_lt HBw.out))); obtain ⟨A, c, rfl⟩ := Kd.R_slice hR; have HR := Aside0.mk hR; clear hb hR)
      have HBW := Aside0.mk (blk_lt HP1.out)
      go_loopg [29] l.length (fun kx i wr => ∃ (j : Nat), i = .int .i64 j ∧ j ≤ l.length ∧ l.length - j ≤ kx ∧
        Aside0 (wr.heap[w.heap.size]? = some (.cells (shCells ((l.take j).foldl (shRow m) (List.replicate 256 (m : Int))) m) 77 (0, 0))) ∧ Aside0 (Below w.heap.size w wr) ∧ Aside0 (Kd.R Kd.string 9 wr W0.heap.size (fun _ => True) (.slice A l.length c) l))
      case atStart => exact ⟨0, rfl, Nat.zero_le _, by omega, ⟨by rw [List.take_zero]; exact HP1.out⟩, HB1, HR⟩
      case round =>
        clear HP1 HB1 HR HP HB
        obtain ⟨j, rfl, hj, hjx, HP, HB, HR⟩ := hrel
        have hTl := shFold_length m (l.take j) (List.replicate 256 (m : Int))
        rw [List.length_replicate] at hTl
        by_cases hlt : j < l.length
        · have ht := fold_take (shRow m) (List.replicate 256 (m : Int)) l j hlt
          obtain ⟨ad, hA, hx⟩ := Kd.at_string (Kd.R_reads' HR.out).2.2 (j : Int) (by omega) (by omega)
          obtain rfl : A = some ad := hA
          have hx' : wr.cell? (ad.add j) = some (.string (l.getD j ByteArray.empty)) := hx
          have hs2 := H2.out _ (getD_mem l j ByteArray.empty hlt)
          have hm0 := (blk_cell HP.out 256).trans (shCells_last hTl)
          have HTL := Aside0.mk hTl
          clear hx hTl
          generalize l.getD j ByteArray.empty = s at hx' hs2 ht
          generalize (l.take j).foldl (shRow m) (List.replicate 256 (m : Int)) = T at HP ht HTL
          obtain ⟨T1, hT1⟩ : ∃ T1, (l.take (j + 1)).foldl (shRow m) (List.replicate 256 (m : Int)) = T1 := ⟨_, rfl⟩
          rw [hT1] at ht
          have HT := Aside0.mk ht
          have HT1 := Aside0.mk hT1
          clear ht hT1
          obtain ⟨hs3, hs4⟩ := hs2
          have hl8 := H1.out
          go_wp2
          obtain ⟨Wj, rfl⟩ : ∃ Wj : World, Wj = wr := ⟨_, rfl⟩
          go_loopg [37] m (fun kx i wr => ∃ (d : Nat), i = .int .i64 d ∧ d ≤ m ∧ m - d ≤ kx ∧
            Aside0 (wr.heap[w.heap.size]? = some (.cells (shCells ((List.range d).foldl (shPut s) T) m) 77 (0, 0))) ∧ Aside0 (Below w.heap.size w wr) ∧ Aside0 (Kd.R Kd.string 9 wr W0.heap.size (fun _ => True) (.slice (some ad) l.length c) l))
          case atStart => exact ⟨0, rfl, Nat.zero_le _, by omega, HP, HB, HR⟩
          case round =>
            clear hx' HP HB HR hm0
            obtain ⟨d, rfl, hd, hdx, HP, HB, HR⟩ := hrel
            have hTd : ((List.range d).foldl (shPut s) T).length = 256 := (shRow_length s d T).trans HTL.out
            by_cases hdl : d < m
            · have hm0 := (blk_cell HP.out 256).trans (shCells_last hTd)
              go_wp2
              have hr : (List.range (d + 1)).foldl (shPut s) T = shPut s ((List.range d).foldl (shPut s) T) d := by rw [List.range_succ, List.foldl_append]; rfl
              obtain ⟨cc, hcc⟩ : ∃ cc : Nat, (s[s.size - 1 - d]'(by omega)).toNat = cc := ⟨_, rfl⟩
              have hcl : cc < 256 := by rw [← hcc]; exact UInt8.toNat_lt _
              have hbe : ((LL s).getD (s.size - 1 - d) 0).toNat = cc := by
                rw [List.getD_eq_getElem?_getD, List.getElem?_eq_getElem (by rw [LL_length]; omega), ← hcc]
                rfl
              rw [hcc]
              rw [shPut_eq hbe] at hr
              have HRR := Aside0.mk hr
              have hck := (blk_cell HP.out cc).trans (shCells_at hTd hcl)
              have hfk := blk_frozen HP.out cc
              have HTd := Aside0.mk hTd
              clear hcc hbe hr hTd
              generalize (List.range d).foldl (shPut s) T = Td at HP HTd HRR hck
              have HCK := Aside0.mk hck
              generalize hz : Td.getD cc 0 = z at hck
              have HZ := Aside0.mk hz
              clear hz
              have hci : (cc : Int) < 256 := by omega
              go_still_tail 13, (by kernel_rfl)
              go_wp2
              all_goals
                go_roundg (m - (d + 1))
                case measure => omega
                case rel =>
                  refine ⟨d + 1, by go_num, by omega, Nat.le_refl _, ⟨?_⟩, ⟨?_⟩, ⟨?_⟩⟩
                  · rw [HRR.out, HZ.out]
                    first
                      | (rw [show min z (d : Int) = (d : Int) by omega]; exact (blk_set HP.out cc _).trans (by rw [shCells_set HTd.out hcl]))
                      | (rw [show min z (d : Int) = z by omega]; exact (blk_set HP.out cc _).trans (by rw [shCells_set HTd.out hcl]))
                  · repeat (first | exact HB.out | (with_reducible apply below_drew) | (with_reducible apply pw_below_drewN) | exact Below.setCell HB.out (Nat.le_refl _) _)
                  · exact Kd.R_drew (R_beside HR.out HBw.out _)
            · obtain rfl : m = d := by omega
              go_wp2
              go_roundg (l.length - (j + 1))
              case measure => omega
              case rel =>
                refine ⟨j + 1, by go_num, by omega, Nat.le_refl _, ⟨?_⟩, HB, HR⟩
                rw [HT1.out, HT.out]
                exact HP.out
        · obtain rfl : j = l.length := by omega
          have hP := HP.out
          rw [List.take_length] at hP
          go_wp2
          go_ret
          exact ⟨_, rfl, OB.mk ⟨w.heap.size, rfl, shTab_length m l, hP⟩, HB.out⟩

end Go.Proofs.Ytdfcmkmdioddnaa.P
