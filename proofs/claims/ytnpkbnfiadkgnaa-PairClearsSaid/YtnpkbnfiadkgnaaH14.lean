/- The table of pairs of a set: the walk, over the map that the call makes. -/
import Derived.BigRegion
import Derived.Test.YtnpkbnfiadkgnaaH14a
import Derived.Test.YtnpkbnfiadkgnaaH10b
import Derived.Test.YtnpkbnfiadkgnaaWLast
namespace Go.Proofs.Ytnpkbnfiadkgnaa.P
open Go Go.RowKit Go.Maps Go.WideMaps Go.Proofs.YtnpkbnfiadkgnaaW.PrintWords Go.Proofs.YtnpkbnfiadkgnaaW.PrintLast Go.Proofs.YtnpkbnfiadkgnaaW.PrintMore Go.Proofs.Ytnpkbnfiadkgnaa.Base
attribute [local go_sem] max2_int min2_int max_two min_two
set_option linter.unusedVariables false
set_option linter.unusedSimpArgs false

def pair_New.f (a0 : Option SetD) : Option (Option PairD) :=
  if 0 ≤ setM a0 ∧ setM a0 ≤ 65535 ∧ (setL a0).length ≤ 65535 ∧ ∀ s ∈ setL a0, setM a0 ≤ s.size ∧ s.size ≤ 65535 then some (some ⟨prTab ((setM a0).toNat - 1) (setL a0), (((setM a0).toNat - 1 : Nat) : Int)⟩) else none
theorem prPut_eq (s : ByteArray) (D : DataW Unit) (d : Nat) : prPut s D d = if Maps.has D (prK s d) = true ∧ prV D (prK s d) ≤ (d : Int) then D else D.put (prK s d) (.lit (.int .i64 (d : Int))) := rfl
theorem pB_at {s : ByteArray} {d i : Nat} (h : i < s.size) (e : s.size - 1 - d = i) : pB s d = s[i]'h := by
  unfold pB
  rw [e, List.getD_eq_getElem?_getD, List.getElem?_eq_getElem (by rw [LL_length]; exact h)]
  rfl
theorem prPut_at {s : ByteArray} {x y : UInt8} {d : Nat} (hx : pB s (d + 1) = x) (hy : pB s d = y) : prK s d = key2 (x.toNat : Int) (y.toNat : Int) := by unfold prK; rw [hx, hy]
set_option maxHeartbeats 8000000 in
set_option maxRecDepth 100000 in
theorem pair_New.calls (Pa0 : Option Addr) (a0 : Option SetD) (r : Option PairD) (w : World) (ho : OB K77 w Pa0 a0) (h : pair_New.f a0 = some r) :
    Calls Try.prog 26 #[.pointer Pa0] w fun e w' => ∃ P0_ : Option Addr, e = .returned (.pointer P0_) ∧ OB K86 w' P0_ r ∧ Below w.heap.size w w' := by
  unfold pair_New.f at h
  by_cases hs : 0 ≤ setM a0 ∧ setM a0 ≤ 65535 ∧ (setL a0).length ≤ 65535 ∧ ∀ s ∈ setL a0, setM a0 ≤ s.size ∧ s.size ≤ 65535
  rotate_left
  · rw [if_neg hs] at h; cases h
  rw [if_pos hs] at h
  have HO := Aside0.mk ho
  have hLe := fun W (g : OB K77 W Pa0 a0) => pats_Set_Least.calls Pa0 a0 (setM a0) W g (by cases a0 <;> rfl)
  have hLi := fun W (g : OB K77 W Pa0 a0) => pats_Set_List.calls Pa0 a0 (setL a0) W g (by
    cases a0 with
    | none => rfl
    | some d => show (if d.l.length ≤ 8796093022208 then some d.l else none) = _; rw [if_pos (show d.l.length ≤ 8796093022208 from by have := hs.2.2.1; simp only [setL] at this; omega)]; rfl)
  generalize setL a0 = l at h hs hLi
  generalize setM a0 = mi at h hs hLe
  obtain ⟨h0, h0', h1, h2⟩ := hs
  obtain ⟨m0, rfl⟩ : ∃ m : Nat, mi = m := ⟨mi.toNat, by omega⟩
  obtain rfl := Option.some.inj h
  rw [Int.toNat_natCast]
  obtain ⟨m, hm⟩ : ∃ m : Nat, m0 - 1 = m := ⟨_, rfl⟩
  rw [hm]
  have hmm := @run_makeMap Try.prog
  have hf : (if 0 < wrap64 ((m0 : Int) - 1) then wrap64 ((m0 : Int) - 1) else 0) = (m : Int) := by rw [wrap_id (by omega) (by omega)]; split <;> omega
  have H2 := Aside0.mk (show ∀ s ∈ l, m < s.size ∨ m = 0 from fun s hs => by have := h2 s hs; omega)
  have H3 := Aside0.mk (show ∀ s ∈ l, s.size ≤ 65535 from fun s hs => (h2 s hs).2)
  have hm16 : m ≤ 65535 := by omega
  have HLE := Aside0.mk hLe
  have HLI := Aside0.mk hLi
  have H1 := Aside0.mk h1
  clear h ho hLe hLi h1 h2 h0 hm h0'
  go_enter Try.func26, Try.ntmps26
  go_wp2_with (go_at_call 59; refine (HLE.out _ (by first | exact HO.out | exact OB.below ((Below.refl _ _).alloc (Nat.le_refl _) _) HO.out | exact OB.below (((Below.refl _ _).alloc (Nat.le_refl _) _).alloc (Nat.le_succ _) _) HO.out)).mono ?_; rintro e w' ⟨rfl, ⟨nd, rfl⟩⟩)
  have hB0 : Below w.heap.size w (((w.alloc (Obj.map #[] 0)).drewN nd).alloc (Obj.cells #[Value.map (some w.heap.size), Value.int IntKind.i64 (m : Int)] 86)) := (pw_below_drewN ((Below.refl _ _).alloc (Nat.le_refl _) _) nd).alloc (by simp) _
  have hP0 : (((w.alloc (Obj.map #[] 0)).drewN nd).alloc (Obj.cells #[Value.map (some w.heap.size), Value.int IntKind.i64 (m : Int)] 86)).heap[w.heap.size + 1]? = some (.cells #[Value.map (some w.heap.size), Value.int IntKind.i64 (m : Int)] 86 (0, 0)) := by
    have h := heap_alloc_new ((w.alloc (Obj.map #[] 0)).drewN nd) (.cells #[Value.map (some w.heap.size), Value.int IntKind.i64 (m : Int)] 86 (0, 0))
    have e : ((w.alloc (Obj.map #[] 0)).drewN nd).heap.size = w.heap.size + 1 := World.size_alloc _ _
    rw [e] at h
    exact h
  have hO0 : ownsP (((w.alloc (Obj.map #[] 0)).drewN nd).alloc (Obj.cells #[Value.map (some w.heap.size), Value.int IntKind.i64 (m : Int)] 86)) w.heap.size 0 (.map []) := ownsP_below (ownsP_below (World.ownsMap_made _ _ _ _) (pw_below_drewN (Below.refl _ _) nd)) ((Below.refl _ _).alloc (Nat.le_refl _) _)
  have HB0 := Aside0.mk hB0
  have HP0 := Aside0.mk hP0
  have HO0 := Aside0.mk hO0
  clear hB0 hP0 hO0
  generalize ((w.alloc (Obj.map #[] 0)).drewN nd).alloc (Obj.cells #[Value.map (some w.heap.size), Value.int IntKind.i64 (m : Int)] 86) = W0 at HB0 HP0 HO0 ⊢
  refine Calls.mono (HLI.out _ (OB.below HB0.out HO.out)) ?_
  rintro e W1 ⟨v, rfl, hR, hb⟩
  have HP1 := Aside0.mk ((hb.block _ (blk_lt HP0.out)).trans HP0.out)
  have HO1 := Aside0.mk (ownsP_below HO0.out hb)
  have HB1 := Aside0.mk (HB0.out.trans (hb.mono HB0.out.size))
  have HBW := Aside0.mk (blk_lt HP0.out)
  obtain ⟨A, c, rfl⟩ := Kd.R_slice hR
  have HR := Aside0.mk hR
  clear hR hb HP0 HO0 HB0
  have hl1 := H1.out
  go_wp2
  go_loopg [20] l.length (fun kx i wr => ∃ (j : Nat), i = .int .i64 j ∧ j ≤ l.length ∧ l.length - j ≤ kx ∧
    Aside0 (wr.heap[w.heap.size + 1]? = some (.cells #[Value.map (some w.heap.size), Value.int IntKind.i64 (m : Int)] 86 (0, 0))) ∧ Aside0 (ownsP wr w.heap.size (j * m) ((l.take j).foldl (prRow m) (.map []))) ∧ Aside0 (Below w.heap.size w wr) ∧ Aside0 (Kd.R Kd.string 9 wr W0.heap.size (fun _ => True) (.slice A l.length c) l))
  case atStart => exact ⟨0, rfl, Nat.zero_le _, by omega, HP1, ⟨by rw [List.take_zero, Nat.zero_mul]; exact HO1.out⟩, HB1, HR⟩
  case round =>
    clear HP1 HO1 HB1 HR
    obtain ⟨j, rfl, hj, hjx, HP, HM, HB, HR⟩ := hrel
    by_cases hlt : j < l.length
    · have ht := fold_take (prRow m) (.map []) l j hlt
      obtain ⟨ad, hA, hx⟩ := Kd.at_string (Kd.R_reads' HR.out).2.2 (j : Int) (by omega) (by omega)
      obtain rfl : A = some ad := hA
      have hx' : wr.cell? (ad.add j) = some (.string (l.getD j ByteArray.empty)) := hx
      have hs2 := H2.out _ (getD_mem l j ByteArray.empty hlt)
      have hs3 := H3.out _ (getD_mem l j ByteArray.empty hlt)
      have hc1 := (blk_cell HP.out 1).trans (rfl : #[Value.map (some w.heap.size), Value.int IntKind.i64 (m : Int)][1]? = some (Value.int IntKind.i64 (m : Int)))
      have hmap := prFold_map m (l.take j) _ isMap_empty
      clear hx
      generalize l.getD j ByteArray.empty = s at hx' hs2 hs3 ht
      generalize (l.take j).foldl (prRow m) (.map []) = T at HM ht hmap
      obtain ⟨T1, hT1⟩ : ∃ T1, (l.take (j + 1)).foldl (prRow m) (.map []) = T1 := ⟨_, rfl⟩
      rw [hT1] at ht
      have HT := Aside0.mk ht
      have HT1 := Aside0.mk hT1
      have HMP := Aside0.mk hmap
      clear ht hT1 hmap
      go_wp2
      obtain ⟨Wj, rfl⟩ : ∃ Wj : World, Wj = wr := ⟨_, rfl⟩
      go_loopg [28] m (fun kx i wr => ∃ (d : Nat), i = .int .i64 d ∧ d ≤ m ∧ m - d ≤ kx ∧
        Aside0 (wr.heap[w.heap.size + 1]? = some (.cells #[Value.map (some w.heap.size), Value.int IntKind.i64 (m : Int)] 86 (0, 0))) ∧ Aside0 (ownsP wr w.heap.size (j * m + d) ((List.range d).foldl (prPut s) T)) ∧ Aside0 (Below w.heap.size w wr) ∧ Aside0 (Kd.R Kd.string 9 wr W0.heap.size (fun _ => True) (.slice (some ad) l.length c) l))
      case atStart => exact ⟨0, rfl, Nat.zero_le _, by omega, HP, HM, HB, HR⟩
      case round =>
        clear hx' HP HM HB HR hc1
        obtain ⟨d, rfl, hd, hdx, HP, HM, HB, HR⟩ := hrel
        have hmp := prRow_map s HMP.out d
        by_cases hdl : d < m
        · have hms : m < s.size := by omega
          have hc0 := (blk_cell HP.out 0).trans (rfl : #[Value.map (some w.heap.size), Value.int IntKind.i64 (m : Int)][0]? = some (Value.map (some w.heap.size)))
          have hr : (List.range (d + 1)).foldl (prPut s) T = prPut s ((List.range d).foldl (prPut s) T) d := by rw [List.range_succ, List.foldl_append]; rfl
          have hn : j * m + d < maxLen := by
            have : j * m ≤ 65535 * 65535 := Nat.mul_le_mul (by omega) hm16
            unfold maxLen
            omega
          generalize (List.range d).foldl (prPut s) T = Td at HM hr hmp
          have HMt := Aside0.mk hmp
          have HRR := Aside0.mk hr
          have HN := Aside0.mk hn
          clear hmp hr hn
          have w1 : IntKind.i64.wrap ((s.size : Int) - 2) = (s.size : Int) - 2 := by rw [i64_w, wrap_id (by omega) (by omega)]
          have w2 : IntKind.i64.wrap ((s.size : Int) - 2 - (d : Int)) = (s.size : Int) - 2 - (d : Int) := by rw [i64_w, wrap_id (by omega) (by omega)]
          have w3 : IntKind.i64.wrap ((s.size : Int) - 1) = (s.size : Int) - 1 := by rw [i64_w, wrap_id (by omega) (by omega)]
          have w4 : IntKind.i64.wrap ((s.size : Int) - 1 - (d : Int)) = (s.size : Int) - 1 - (d : Int) := by rw [i64_w, wrap_id (by omega) (by omega)]
          have w5 : 0 ≤ (s.size : Int) - 2 - (d : Int) := by omega
          have w6 : 0 ≤ (s.size : Int) - 1 - (d : Int) := by omega
          have w7 : (s.size : Int) - 2 - (d : Int) < (s.size : Int) := by omega
          have w8 : (s.size : Int) - 1 - (d : Int) < (s.size : Int) := by omega
          have w9 : ((s.size : Int) - 2 - (d : Int)).toNat = s.size - 2 - d := by omega
          have w10 : ((s.size : Int) - 1 - (d : Int)).toNat = s.size - 1 - d := by omega
          obtain ⟨x, hx⟩ : ∃ x : UInt8, s[s.size - 2 - d]'(by omega) = x := ⟨_, rfl⟩
          obtain ⟨y, hy⟩ : ∃ y : UInt8, s[s.size - 1 - d]'(by omega) = y := ⟨_, rfl⟩
          go_wp2
          go_region
          have hkx : prK s d = key2 (x.toNat : Int) (y.toNat : Int) := prPut_at ((pB_at (by omega) (by omega)).trans hx) ((pB_at (by omega) rfl).trans hy)
          have hr2 := HRR.out
          rw [prPut_eq, hkx] at hr2
          have HRR2 := Aside0.mk hr2
          have hk0 : ((wr.alloc (Obj.cells #[Value.int IntKind.u8 (x.toNat : Int), Value.int IntKind.u8 (y.toNat : Int)] 87)).drew).heap[wr.heap.size]? = some (.cells #[Value.int IntKind.u8 (x.toNat : Int), Value.int IntKind.u8 (y.toNat : Int)] 87 (0, 0)) := heap_alloc_new wr _
          have hst : Below wr.heap.size wr ((wr.alloc (Obj.cells #[Value.int IntKind.u8 (x.toNat : Int), Value.int IntKind.u8 (y.toNat : Int)] 87)).drew) := below_drew ((Below.refl _ _).alloc (Nat.le_refl _) _)
          have HP6 := Aside0.mk ((hst.block _ (blk_lt HP.out)).trans HP.out)
          have HM6 := Aside0.mk (ownsP_below HM.out hst)
          have HB6 := Aside0.mk (HB.out.trans (hst.mono HB.out.size))
          have HR6 := Aside0.mk (Kd.R_below HR.out hst)
          have hb0 := (blk_cell hk0 0).trans (rfl : #[Value.int IntKind.u8 (x.toNat : Int), Value.int IntKind.u8 (y.toNat : Int)][0]? = some (Value.int IntKind.u8 (x.toNat : Int)))
          have hb1 := (blk_cell hk0 1).trans (rfl : #[Value.int IntKind.u8 (x.toNat : Int), Value.int IntKind.u8 (y.toNat : Int)][1]? = some (Value.int IntKind.u8 (y.toNat : Int)))
          clear hr2 hk0 hst HP HM HB HR HRR hkx hx hy w1 w2 w3 w4 w5 w6 w7 w8 w9 w10 hc0
          generalize (wr.alloc (Obj.cells #[Value.int IntKind.u8 (x.toNat : Int), Value.int IntKind.u8 (y.toNat : Int)] 87)).drew = W6 at HP6 HM6 HB6 HR6 hb0 hb1 ⊢
          have hc0 := (blk_cell HP6.out 0).trans (rfl : #[Value.map (some w.heap.size), Value.int IntKind.i64 (m : Int)][0]? = some (Value.map (some w.heap.size)))
          generalize wr.heap.size = bk at hb0 hb1 ⊢
          have hV : ∀ c : Int, Td.atKey (key2 (x.toNat : Int) (y.toNat : Int)) (.lit (.int .i64 0)) = .lit (.int .i64 c) → c = prV Td (key2 (x.toNat : Int) (y.toNat : Int)) := fun c h => (prV_of h).symm
          have HV := Aside0.mk hV
          clear hV
          obtain ⟨hh, hhe⟩ : ∃ b, Maps.has Td (key2 (x.toNat : Int) (y.toNat : Int)) = b := ⟨_, rfl⟩
          obtain ⟨vv, hve⟩ : ∃ z, prV Td (key2 (x.toNat : Int) (y.toNat : Int)) = z := ⟨_, rfl⟩
          have hrr := HRR2.out
          rw [hhe, hve] at hrr
          have HRR3 := Aside0.mk hrr
          rw [hve] at HV
          have HHE := Aside0.mk hhe
          clear hhe hve HRR2 hrr
          have hlook : ∀ n : Nat, (Instr.lookup 84 (.map (some w.heap.size)) (.agg #[.int .u8 (x.toNat : Int), .int .u8 (y.toNat : Int)]) true).run Try.prog (W6.drewN n) = .ok (.tuple #[.int .i64 vv, .bool hh]) (W6.drewN n) := fun n => by
            obtain ⟨v, ps, h1, h2⟩ := World.ownsMap.look_ok (w := W6.drewN n) (ownsP_below HM6.out (pw_below_drewN (Below.refl _ _) n)) law14 Try.underlying84 (zero14 _) (plainElem_int Try.underlying3 (by decide)) (key14 x y)
            obtain ⟨c, rfl, hc, _⟩ := plainElem_int_inv Try.underlying3 h2
            obtain rfl := HV.out _ (congrArg Prod.fst hc)
            rw [HHE.out] at h1
            exact h1
          have hlook0 := hlook 0
          go_wp2
          go_quiet (fail)
          have HP7 : Aside0 ((W6.drewN nq).heap[w.heap.size + 1]? = some (.cells #[Value.map (some w.heap.size), Value.int IntKind.i64 (m : Int)] 86 (0, 0))) := HP6
          have HM7 : Aside0 (ownsP (W6.drewN nq) w.heap.size (j * m + d) Td) := ⟨ownsP_below HM6.out (pw_below_drewN (Below.refl _ _) nq)⟩
          have HB7 : Aside0 (Below w.heap.size w (W6.drewN nq)) := ⟨pw_below_drewN HB6.out nq⟩
          have HR7 : Aside0 (Kd.R Kd.string 9 (W6.drewN nq) W0.heap.size (fun _ => True) (.slice (some ad) l.length c) l) := ⟨Kd.R_drewN HR6.out nq⟩
          have hb0' : (W6.drewN nq).cell? ⟨bk, 0, none⟩ = some (Value.int IntKind.u8 (x.toNat : Int)) := hb0
          have hb1' : (W6.drewN nq).cell? ⟨bk, 1, none⟩ = some (Value.int IntKind.u8 (y.toNat : Int)) := hb1
          have hc0' : (W6.drewN nq).cell? ⟨w.heap.size + 1, 0, none⟩ = some (Value.map (some w.heap.size)) := hc0
          clear HP6 HM6 HB6 HR6 hb0 hb1 hc0 hlook hlook0
          generalize W6.drewN nq = W7 at HP7 HM7 HB7 HR7 hb0' hb1' hc0' ⊢
          by_cases hq : hh = true ∧ vv ≤ (d : Int)
          · obtain ⟨rfl, hq2⟩ := hq
            have HE := Aside0.mk (HRR3.out.trans (if_pos ⟨rfl, hq2⟩))
            have hd1 : decide ((d : Int) < vv) = false := decide_eq_false (Int.not_lt.2 hq2)
            clear HRR3 hq2
            go_wp2
            go_roundg (m - (d + 1))
            case measure => omega
            case rel => exact ⟨d + 1, by go_num, by omega, Nat.le_refl _, HP7, ⟨by rw [HE.out]; exact HM7.out.mono (by omega)⟩, HB7, HR7⟩
          · have HE := Aside0.mk (HRR3.out.trans (if_neg hq))
            have hor : (!hh || decide ((d : Int) < vv)) = true := by
              cases hh
              · rfl
              · rw [decide_eq_true (Classical.byContradiction fun hn => hq ⟨rfl, Int.not_lt.1 hn⟩)]; rfl
            clear HRR3 hq
            have hw : (Lit.int .i64 (d : Int)).wf = true := WalkArith.wf_i64 (by omega)
            have HWF := Aside0.mk hw
            clear hw
            cases hh
            rotate_left
            have hd1 : decide ((d : Int) < vv) = true := by simpa using hor
            all_goals
              go_wp2
              go_still_tail 6, (by kernel_rfl)
              go_wp2_with (at_mapUpdate; refine wpList_mapUpdate_own _ rfl _ _ _ 84 rfl 87 3 law14 Try.underlying84 _ w.heap.size (j * m + d) _ rfl (by first | exact HM7.out | exact ownsP_below HM7.out (below_drew (Below.refl _ _))) HN.out _ _ _ rfl rfl (key14 x y) _ [] (plainElem_int Try.underlying3 HWF.out) ?_; intro w1 hown1 hgrow1; have HM8 := Aside0.mk hown1; have HG8 := Aside0.mk hgrow1; clear hown1 hgrow1)
              go_roundg (m - (d + 1))
              case measure => omega
              case rel =>
                refine ⟨d + 1, by go_num, by omega, Nat.le_refl _, ⟨?_⟩, ⟨by rw [HE.out]; exact HM8.out⟩, ⟨?_⟩, ⟨?_⟩⟩
                · exact blk_grown (by first | exact HP7.out | exact (show W7.drew.heap[w.heap.size + 1]? = _ from HP7.out)) HG8.out (fun e => by injection e with e; omega)
                · exact Below.grown (by first | exact HB7.out | exact below_drew HB7.out) HG8.out HB7.out.size (fun j hj => by cases hj; exact Nat.le_refl _)
                · exact Kd.R_mono (Kd.R_grown (ok := fun k => W0.heap.size ≤ k) (Kd.R_mono (Kd.R_bound (by first | exact HR7.out | exact Kd.R_drew HR7.out)) (fun k hk => hk.2.1)) HG8.out (fun k hk e => by cases e; have := HBW.out; omega)) (fun _ _ => trivial)
        · obtain rfl : m = d := by omega
          go_wp2
          go_roundg (l.length - (j + 1))
          case measure => omega
          case rel =>
            refine ⟨j + 1, by go_num, by omega, Nat.le_refl _, HP, ⟨?_⟩, HB, HR⟩
            rw [HT1.out, HT.out, Nat.succ_mul]
            exact HM.out
    · obtain rfl : j = l.length := by omega
      have hM := HM.out
      rw [List.take_length] at hM
      have hc0 := (blk_cell HP.out 0).trans (rfl : #[Value.map (some w.heap.size), Value.int IntKind.i64 (m : Int)][0]? = some (Value.map (some w.heap.size)))
      have hc1 := (blk_cell HP.out 1).trans (rfl : #[Value.map (some w.heap.size), Value.int IntKind.i64 (m : Int)][1]? = some (Value.int IntKind.i64 (m : Int)))
      go_wp2
      go_ret
      exact ⟨_, rfl, OB.mk ⟨w.heap.size + 1, w.heap.size, _, rfl, hc0, hc1, hM⟩, HB.out⟩

end Go.Proofs.Ytnpkbnfiadkgnaa.P
