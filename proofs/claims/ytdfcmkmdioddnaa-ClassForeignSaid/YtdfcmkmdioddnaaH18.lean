/- The classes of a set: the walk. The bytes are marked, then each marked one gets its class. -/
import Derived.Test.YtdfcmkmdioddnaaH18a
import Derived.Test.YtdfcmkmdioddnaaH10b
namespace Go.Proofs.Ytdfcmkmdioddnaa.P
open Go Go.RowKit Go.Proofs.YtdfcmkmdioddnaaW.PrintWords Go.Proofs.YtdfcmkmdioddnaaW.PrintLast Go.Proofs.YtdfcmkmdioddnaaW.PrintMore Go.Proofs.Ytdfcmkmdioddnaa.Base
set_option linter.unusedVariables false
set_option linter.unusedSimpArgs false

def clPut (T : List Int) (c : UInt8) : List Int := T.set c.toNat 1
def clRow (T : List Int) (s : ByteArray) : List Int := (LL s).foldl clPut T
/-- The bytes that stand in patterns are marked. -/
def clMarks (l : List ByteArray) : List Int := l.foldl clRow (List.replicate 256 0)
/-- Each marked byte, up to one, gets its class. -/
def clEnd (M : List Int) : Nat → List Int × List Int
  | 0 => (M, [])
  | k + 1 => if M.getD k 0 > 0 then ((clEnd M k).1.set k ((clEnd M k).2.length + 1), (clEnd M k).2 ++ [(k : Int)]) else clEnd M k
def class_New.f (a0 : Option SetD) : Option (Option ClassD) :=
  if (setL a0).length ≤ 8796093022208 ∧ ∀ s ∈ setL a0, s.size ≤ 4611686018427387904 then some (some ⟨(clEnd (clMarks (setL a0)) 256).1, (clEnd (clMarks (setL a0)) 256).2⟩) else none
theorem clFold_length : ∀ (l : List UInt8) (T : List Int), (l.foldl clPut T).length = T.length
  | [], T => rfl
  | c :: l, T => by rw [List.foldl_cons, clFold_length l]; exact List.length_set ..
theorem clRows_length : ∀ (l : List ByteArray) (T : List Int), (l.foldl clRow T).length = T.length
  | [], T => rfl
  | s :: l, T => by rw [List.foldl_cons, clRows_length l]; exact clFold_length _ _
theorem clMarks_length (l : List ByteArray) : (clMarks l).length = 256 := by unfold clMarks; rw [clRows_length, List.length_replicate]
theorem clFold_01 : ∀ (l : List UInt8) (T : List Int), (∀ x ∈ T, x = 0 ∨ x = 1) → ∀ x ∈ l.foldl clPut T, x = 0 ∨ x = 1
  | [], T, h => h
  | c :: l, T, h => clFold_01 l (clPut T c) (fun x hx => by
    rcases List.mem_or_eq_of_mem_set hx with hx | hx
    · exact h x hx
    · exact .inr hx)
theorem clRows_01 : ∀ (l : List ByteArray) (T : List Int), (∀ x ∈ T, x = 0 ∨ x = 1) → ∀ x ∈ l.foldl clRow T, x = 0 ∨ x = 1
  | [], T, h => h
  | s :: l, T, h => clRows_01 l (clRow T s) (clFold_01 _ _ h)
theorem clMarks_01 (l : List ByteArray) : ∀ x ∈ clMarks l, x = 0 ∨ x = 1 := clRows_01 l _ (fun x hx => .inl (List.eq_of_mem_replicate hx))
theorem clEnd_length (M : List Int) : ∀ k, (clEnd M k).1.length = M.length ∧ (clEnd M k).2.length ≤ k
  | 0 => ⟨rfl, Nat.le_refl _⟩
  | k + 1 => by
    have := clEnd_length M k
    simp only [clEnd]
    split
    · exact ⟨by rw [List.length_set]; exact this.1, by simp; omega⟩
    · exact ⟨this.1, by omega⟩
theorem info18 : (Try.prog.info? 5).map (fun i => (i.zero, i.size, i.bytes)) = some (some (.int .u8 0), 1, 1) := by kernel_rfl

set_option maxHeartbeats 16000000 in
set_option maxRecDepth 100000 in
theorem class_New.calls (Pa0 : Option Addr) (a0 : Option SetD) (r : Option ClassD) (w : World) (ho : OB K73 w Pa0 a0) (h : class_New.f a0 = some r) :
    Calls Try.prog 26 #[.pointer Pa0] w fun e w' => ∃ P0_ : Option Addr, e = .returned (.pointer P0_) ∧ OB K84 w' P0_ r ∧ Below w.heap.size w w' := by
  unfold class_New.f at h
  by_cases hs : (setL a0).length ≤ 8796093022208 ∧ ∀ s ∈ setL a0, s.size ≤ 4611686018427387904
  rotate_left
  · rw [if_neg hs] at h; cases h
  rw [if_pos hs] at h
  have HO := Aside0.mk ho
  have hLi := fun W (g : OB K73 W Pa0 a0) => pats_Set_List.calls Pa0 a0 (setL a0) W g (by
    cases a0 with
    | none => rfl
    | some d => show (if d.l.length ≤ 8796093022208 then some d.l else none) = _; rw [if_pos (show d.l.length ≤ 8796093022208 from hs.1)]; rfl)
  generalize setL a0 = l at h hs hLi
  obtain ⟨h1, h2⟩ := hs
  obtain rfl := Option.some.inj h
  have HLI := Aside0.mk hLi
  have H1 := Aside0.mk h1
  have H2 := Aside0.mk h2
  have H01 := Aside0.mk (clMarks_01 l)
  have HML := Aside0.mk (clMarks_length l)
  obtain ⟨M, hM⟩ : ∃ M, clMarks l = M := ⟨_, rfl⟩
  rw [hM] at H01 HML ⊢
  have HMK := Aside0.mk hM
  clear h ho hLi h1 h2 hM
  go_enter Try.func26, Try.ntmps26
  go_wp2_with (go_at_call 55; refine (HLI.out _ (OB.below ((Below.refl _ _).alloc (Nat.le_refl _) _) HO.out)).mono ?_; rintro e W1 ⟨v, rfl, hR, hb⟩; have hlt := hb.size; have HB0 := Aside0.mk hb; obtain ⟨A, c, rfl⟩ := Kd.R_slice hR; have HR := Aside0.mk hR; clear hb hR)
  have hz : Try.zeroCells84 = arCells .u16 (List.replicate 256 0) (.slice none 0 0) := by kernel_rfl
  rw [hz] at HB0 HR hlt
  clear hz
  have hbw : w.heap.size < (w.alloc (.cells (arCells .u16 (List.replicate 256 0) (.slice none 0 0)) 84 (0, 0))).heap.size := blk_lt (heap_alloc_new _ _)
  have HP0 := Aside0.mk ((HB0.out.block _ hbw).trans (heap_alloc_new _ _))
  have HB1 := Aside0.mk (((Below.refl w.heap.size w).alloc (Nat.le_refl _) _).trans (HB0.out.mono (Nat.le_of_lt hbw)))
  have HBW := Aside0.mk hbw
  clear HB0 hbw hlt
  generalize (w.alloc (.cells (arCells .u16 (List.replicate 256 0) (.slice none 0 0)) 84 (0, 0))).heap.size = base at HR HBW
  go_loopg [14] l.length (fun kx i wr => ∃ (j : Nat), i = .int .i64 j ∧ j ≤ l.length ∧ l.length - j ≤ kx ∧
    Aside0 (wr.heap[w.heap.size]? = some (.cells (arCells .u16 ((l.take j).foldl clRow (List.replicate 256 0)) (.slice none 0 0)) 84 (0, 0))) ∧ Aside0 (Below w.heap.size w wr) ∧ Aside0 (Kd.R Kd.string 9 wr base (fun _ => True) (.slice A l.length c) l))
  case atStart => exact ⟨0, rfl, Nat.zero_le _, by omega, ⟨by rw [List.take_zero]; exact HP0.out⟩, HB1, HR⟩
  case round =>
    clear HP0 HB1 HR
    obtain ⟨j, rfl, hj, hjx, HP, HB, HR⟩ := hrel
    have hTl := clRows_length (l.take j) (List.replicate 256 0)
    rw [List.length_replicate] at hTl
    by_cases hlt : j < l.length
    · have ht := fold_take clRow (List.replicate 256 0) l j hlt
      obtain ⟨ad, hA, hx⟩ := Kd.at_string (Kd.R_reads' HR.out).2.2 (j : Int) (by omega) (by omega)
      obtain rfl : A = some ad := hA
      have hx' : wr.cell? (ad.add j) = some (.string (l.getD j ByteArray.empty)) := hx
      have hs2 := H2.out _ (getD_mem l j ByteArray.empty hlt)
      have HTL := Aside0.mk hTl
      clear hx hTl
      generalize l.getD j ByteArray.empty = s at hx' hs2 ht
      generalize (l.take j).foldl clRow (List.replicate 256 0) = T at HP ht HTL
      obtain ⟨T1, hT1⟩ : ∃ T1, (l.take (j + 1)).foldl clRow (List.replicate 256 0) = T1 := ⟨_, rfl⟩
      rw [hT1] at ht
      have HT := Aside0.mk ht
      have HT1 := Aside0.mk hT1
      clear ht hT1
      have hl8 := H1.out
      go_wp2
      obtain ⟨Wj, rfl⟩ : ∃ Wj : World, Wj = wr := ⟨_, rfl⟩
      go_loopg [20] s.size (fun kx i wr => ∃ (d : Nat), i = .int .i64 d ∧ d ≤ s.size ∧ s.size - d ≤ kx ∧
        Aside0 (wr.heap[w.heap.size]? = some (.cells (arCells .u16 (((LL s).take d).foldl clPut T) (.slice none 0 0)) 84 (0, 0))) ∧ Aside0 (Below w.heap.size w wr) ∧ Aside0 (Kd.R Kd.string 9 wr base (fun _ => True) (.slice (some ad) l.length c) l))
      case atStart => exact ⟨0, rfl, Nat.zero_le _, by omega, ⟨by rw [List.take_zero]; exact HP.out⟩, HB, HR⟩
      case round =>
        clear hx' HP HB HR
        obtain ⟨d, rfl, hd, hdx, HP, HB, HR⟩ := hrel
        have hTd : (((LL s).take d).foldl clPut T).length = 256 := (clFold_length _ T).trans HTL.out
        by_cases hdl : d < s.size
        · have hr : ((LL s).take (d + 1)).foldl clPut T = clPut (((LL s).take d).foldl clPut T) s[d] := by
            rw [List.take_succ_eq_append_getElem (by rw [LL_length]; exact hdl), List.foldl_append]; rfl
          obtain ⟨cc, hcc⟩ : ∃ cc : Nat, s[d].toNat = cc := ⟨_, rfl⟩
          have hcl : cc < 256 := by rw [← hcc]; exact UInt8.toNat_lt _
          unfold clPut at hr
          rw [hcc] at hr
          have HRR := Aside0.mk hr
          have hck := (blk_cell HP.out cc).trans (arCells_at hTd hcl)
          have hfk := blk_frozen HP.out cc
          have HTd := Aside0.mk hTd
          have hci : (cc : Int) < 256 := by omega
          have w5 : ∀ h : d < s.size, (s[d]'h).toNat = cc := fun _ => hcc
          clear hr hTd hcc
          generalize List.getD _ cc 0 = z at hck
          go_wp2
          go_still_tail 7, (by kernel_rfl)
          clear w5
          go_wp2
          go_roundg (s.size - (d + 1))
          case measure => omega
          case rel =>
            refine ⟨d + 1, by go_num, by omega, Nat.le_refl _, ⟨?_⟩, ⟨?_⟩, ⟨?_⟩⟩
            · have e := HRR.out
              show _ = some (Obj.cells (arCells .u16 (((LL s).take (d + 1)).foldl clPut T) _) _ _)
              rw [show ((LL s).take (d + 1)).foldl clPut T = (((LL s).take d).foldl clPut T).set cc 1 from e]
              exact (blk_set HP.out cc _).trans (by rw [arCells_set HTd.out hcl])
            · repeat (first | exact HB.out | (with_reducible apply below_drew) | (with_reducible apply pw_below_drewN) | exact Below.setCell HB.out (Nat.le_refl _) _)
            · exact Kd.R_drew (R_beside HR.out HBW.out _)
        · obtain rfl : d = s.size := by omega
          have hP := HP.out
          rw [List.take_of_length_le (by rw [LL_length]; exact Nat.le_refl _)] at hP
          have HP2 := Aside0.mk hP
          clear hP HP
          go_wp2
          go_roundg (l.length - (j + 1))
          case measure => omega
          case rel =>
            refine ⟨j + 1, by go_num, by omega, Nat.le_refl _, ⟨?_⟩, HB, HR⟩
            rw [HT1.out, HT.out]
            exact HP2.out
    · obtain rfl : j = l.length := by omega
      have hP := HP.out
      rw [List.take_length] at hP
      have hP : wr.heap[w.heap.size]? = some (.cells (arCells .u16 (clMarks l) (.slice none 0 0)) 84 (0, 0)) := hP
      rw [HMK.out] at hP
      clear HP HR hTl
      have HPM := Aside0.mk hP
      have HBL := Aside0.mk (blk_lt hP)
      clear hP
      obtain ⟨CS, hCS⟩ : ∃ CS, (M.map (Value.int .u16)).toArray = CS := ⟨_, rfl⟩
      have hg : ∀ (j : Nat) v, CS[j]? = some v → wr.cell? ⟨w.heap.size, j, none⟩ = some v := fun j v hv => by
        rw [blk_cell HPM.out j]
        rw [← hCS] at hv
        unfold arCells
        rw [List.getElem?_toArray] at hv ⊢
        rw [List.getElem?_append_left (by obtain ⟨h, _⟩ := List.getElem?_eq_some_iff.1 hv; exact h)]
        exact hv
      have hi : (Try.prog.info? 81).map (·.size) = some CS.size := by
        rw [← hCS, List.size_toArray, List.length_map, HML.out]; kernel_rfl
      have HG := Aside0.mk hg
      have HI := Aside0.mk hi
      have HCS := Aside0.mk hCS
      clear hg hi hCS
      go_wp2_with (refine wpList_load_part rfl 81 (.tmp 34) rfl w.heap.size rfl CS _ HG.out Try.underlying81 rfl HI.out ?_)
      have hbw2 := blk_lt HPM.out
      go_loopg [36] 256 (fun kx i W => ∃ (k : Nat) (v : Value), i = .int .i64 k ∧ k ≤ 256 ∧ 256 - k ≤ kx ∧
        Aside0 (W.heap[w.heap.size]? = some (.cells (arCells .u16 (clEnd M k).1 v) 84 (0, 0))) ∧ Aside0 (Below w.heap.size w W) ∧ Aside0 (Kd.R (Kd.int .u8) 5 W (w.heap.size + 1) (fun _ => True) v (clEnd M k).2))
      case atStart => exact ⟨0, _, rfl, by omega, by omega, HPM, HB, ⟨Kd.R_nil _ _ _ _ _⟩⟩
      case round =>
        clear HPM HB HG HI
        obtain ⟨k, v, rfl, hk, hkx, HP, HB, HR⟩ := hrel
        have hlen := clEnd_length M k
        rw [HML.out] at hlen
        by_cases hlt : k < 256
        · have hM := H01.out _ (getD_mem M k 0 (by rw [HML.out]; exact hlt))
          have hidx := fun W => run_index_agg (P := Try.prog) Try.underlying81 Try.isAgg80 Try.sizeOf80 (cs := CS) (k := k) (v := .int .u16 (M.getD k 0)) hlt (by rw [← HCS.out, List.getElem?_toArray, List.getElem?_map, List.getD_eq_getElem?_getD, List.getElem?_eq_getElem (by rw [HML.out]; exact hlt)]; rfl) W
          have he1 : (clEnd M (k + 1)).1 = if M.getD k 0 > 0 then (clEnd M k).1.set k (((clEnd M k).2.length : Int) + 1) else (clEnd M k).1 := by simp only [clEnd]; split <;> rfl
          have he2 : (clEnd M (k + 1)).2 = if M.getD k 0 > 0 then (clEnd M k).2 ++ [(k : Int)] else (clEnd M k).2 := by simp only [clEnd]; split <;> rfl
          generalize M.getD k 0 = z at hM hidx he1 he2
          obtain ⟨hl1, hl2⟩ := hlen
          generalize (clEnd M k).1 = O at HP he1 hl1
          generalize (clEnd M k).2 = B at HR he1 he2 hl2
          obtain ⟨A2, c2, rfl⟩ := Kd.R_slice HR.out
          have hB256 : (B.length : Int) ≤ 256 := by omega
          have hkk : (k : Int) < 256 := by omega
          have hc256 := (blk_cell HP.out 256).trans (arCells_last hl1)
          have hf256 := blk_frozen HP.out 256
          rcases hM with rfl | rfl
          · rw [if_neg (by omega)] at he1 he2
            have HE1 := Aside0.mk he1
            have HE2 := Aside0.mk he2
            clear he1 he2
            go_wp2
            go_roundg (256 - (k + 1))
            case measure => omega
            case rel => exact ⟨k + 1, _, by go_num, by omega, Nat.le_refl _, ⟨by rw [HE1.out]; exact HP.out⟩, HB, ⟨by rw [HE2.out]; exact HR.out⟩⟩
          · rw [if_pos (by omega)] at he1 he2
            have HE1 := Aside0.mk he1
            have HE2 := Aside0.mk he2
            have HL1 := Aside0.mk hl1
            clear he1 he2 hl1
            obtain ⟨W0, rfl⟩ : ∃ W0 : World, W0 = wr := ⟨_, rfl⟩
            have hsz : w.heap.size + 1 ≤ W0.heap.size := blk_lt HP.out
            have HS := Aside0.mk hsz
            clear hsz
            go_wp2_with ((with_reducible refine gate_builtin (b := .append) (xs := #[.tmp 46, .tmp 49]) rfl ?_); at_builtin; refine Kd.R_append (Kd.int .u8) (w0 := W0) (w.heap.size + 1) rfl (.tmp 46) (.tmp 49) 82 5 (.int .u8 0) 1 rfl Try.underlying82 info18 rfl (by decide) (by omega) (.slice A2 B.length c2) B (k : Int) [.int .u8 (k : Int)] (fun _ => True) (fun _ => False) rfl rfl ?aP (fun _ hk => hk.elim) ?aF ?aO ?aB ?aS ?aL ?_; (case aP => exact rfl); (case aB => exact Below.refl _ _); (case aF => exact (fun _ _ => trivial)); (case aO => exact HR.out); (case aS => exact HS.out); (case aL => omega); intro v1 w6 ho hb hg hat; have hp1 := blk_grown HP.out hg (fun e => by have := Kd.R_base HR.out _ e.symm; omega); have hb1 := HB.out.grown hg HB.out.size (fun j hj => Nat.le_of_succ_le (Kd.R_base HR.out _ hj)); obtain ⟨A3, c3, rfl⟩ := Kd.R_slice ho; rw [show (B ++ [(k : Int)]).length = B.length + 1 from List.length_append] at ho; have hc6 := (blk_cell hp1 256).trans (arCells_last HL1.out); have hf6 := blk_frozen hp1 256; have HP1 := Aside0.mk hp1; have HB1 := Aside0.mk hb1; have HR1 := Aside0.mk ho; clear ho hb hg hat hp1 hb1)
            have hp2 := (blk_set HP1.out 256 (.slice A3 (B.length + 1) c3)).trans (by rw [arCells_setlast HL1.out])
            have hR2 := R_beside (b := w.heap.size) (off := 256) HR1.out (Nat.lt_succ_self _) (.slice A3 (B.length + 1) c3)
            have hB2 := Below.setCell (p := ⟨w.heap.size, 256, none⟩) HB1.out (Nat.le_refl _) (.slice A3 (B.length + 1) c3)
            have HP2 := Aside0.mk hp2
            have HR2 := Aside0.mk hR2
            have HB2 := Aside0.mk hB2
            clear hp2 hR2 hB2
            generalize w6.setCell ⟨w.heap.size, 256, none⟩ (.slice A3 (B.length + 1) c3) = w7 at HP2 HR2 HB2 ⊢
            clear hc6 hf6
            have hc6 := (blk_cell HP2.out 256).trans (arCells_last HL1.out)
            have hck := (blk_cell HP2.out k).trans (arCells_at HL1.out hlt)
            have hfk := blk_frozen HP2.out k
            have hu1 : (0 : Int) ≤ (B.length : Int) + 1 := by omega
            have hu2 : (B.length : Int) + 1 ≤ 65535 := by omega
            generalize List.getD O k 0 = z at hck
            go_still_tail 11, (by kernel_rfl)
            go_wp2
            go_roundg (256 - (k + 1))
            case measure => omega
            case rel =>
              refine ⟨k + 1, .slice A3 (B.length + 1) c3, by go_num, by omega, Nat.le_refl _, ⟨?_⟩, ⟨?_⟩, ⟨?_⟩⟩
              rotate_left
              · repeat (first | exact HB2.out | (with_reducible apply below_drew) | (with_reducible apply pw_below_drewN) | exact Below.setCell HB2.out (Nat.le_refl _) _)
              · rw [HE2.out]
                exact Kd.R_drew (R_beside HR2.out (Nat.lt_succ_self _) _)
              · rw [HE1.out]
                exact (blk_set HP2.out k _).trans (by rw [arCells_set HL1.out hlt])
        · obtain rfl : k = 256 := by omega
          obtain ⟨A2, c2, rfl⟩ := Kd.R_slice HR.out
          obtain ⟨_, hl2, hC2⟩ := Kd.R_reads' HR.out
          have hl1 := hlen.1
          clear hlen
          go_wp2
          go_ret
          exact ⟨_, rfl, OB.mk ⟨w.heap.size, A2, c2, rfl, hl1, HP.out, hl2, hC2⟩, HB.out⟩

end Go.Proofs.Ytdfcmkmdioddnaa.P
