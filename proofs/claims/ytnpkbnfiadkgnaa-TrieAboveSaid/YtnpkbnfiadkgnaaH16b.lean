/- A trie's Find, Path and Bytes: for all tries, nil too, and all numbers and texts. -/
import Derived.Test.YtnpkbnfiadkgnaaH16a
import Derived.StillTailTactics
import Derived.Test.YtnpkbnfiadkgnaaBld
namespace Go.Proofs.Ytnpkbnfiadkgnaa.P
open Go Go.RowKit Go.Proofs.YtnpkbnfiadkgnaaW.PrintWords Go.Proofs.YtnpkbnfiadkgnaaW.PrintLast Go.Proofs.Ytnpkbnfiadkgnaa.Base
set_option linter.unusedVariables false
set_option linter.unusedSimpArgs false

/-- Where bytes lead from a state; none: that is not told; some none: to no state. -/
def fndL (a0 : Option TrieD) : List UInt8 → Int → Option (Option Int)
  | [], s => some (some s)
  | c :: l, s => match trie_Trie_Next.f a0 s (c.toNat : Int) with
    | none => none
    | some (n, ok) => if ok = true then fndL a0 l n else some none
def fndR (a0 : Option TrieD) : Option (Option Int) → Option (Int × Bool)
  | none => none
  | some none => some (0, false)
  | some (some s) => some (s, trIs a0 s)
def trie_Trie_Find.f (a0 : Option TrieD) (a1 : ByteArray) : Option (Int × Bool) := if a1.size ≤ 4611686018427387904 then fndR a0 (fndL a0 (LL a1) 0) else none
set_option maxHeartbeats 4000000 in
theorem trie_Trie_Find.calls (Pa0 : Option Addr) (a0 : Option TrieD) (a1 : ByteArray) (r1 : Int) (r2 : Bool) (w : World) (ho : OB K93 w Pa0 a0) (h : trie_Trie_Find.f a0 a1 = some (r1, r2)) :
    Calls Try.prog 50 #[.pointer Pa0, .string a1] w fun e w' => e = .returned (.tuple #[.int .i64 r1, .bool r2]) ∧ Drawn0 w w' := by
  have hNx := fun s c n ok W g hh => trie_Trie_Next.calls Pa0 a0 s c n ok W g hh
  have hIs := fun s W g => trie_Trie_is.calls Pa0 a0 s (trIs a0 s) W g rfl
  have HNX := Aside0.mk hNx
  have HIS := Aside0.mk hIs
  have HO := Aside0.mk ho
  unfold trie_Trie_Find.f at h
  by_cases hsz : a1.size ≤ 4611686018427387904
  rotate_left
  · rw [if_neg hsz] at h; cases h
  rw [if_pos hsz] at h
  have H := Aside0.mk h
  clear hNx hIs ho h
  go_enter Try.func50, Try.ntmps50
  go_wp2
  go_loopg [6, 12] a1.size (fun kx s i W => ∃ (j : Nat) (x : Int), s = .int .i64 x ∧ i = .int .i64 j ∧ j ≤ a1.size ∧ a1.size - j ≤ kx ∧ Aside0 (fndL a0 (LL a1) 0 = fndL a0 ((LL a1).drop j) x) ∧ Aside0 (Drawn0 w W))
  case atStart => exact ⟨0, 0, rfl, rfl, Nat.zero_le _, by omega, ⟨rfl⟩, ⟨Drawn0.refl _⟩⟩
  case round =>
    obtain ⟨j, x, rfl, rfl, hj, hjx, HF, HD⟩ := hrel
    by_cases hlt : j < a1.size
    · obtain ⟨cc, hcc⟩ : ∃ cc : Nat, (a1[j]'hlt).toNat = cc := ⟨_, rfl⟩
      have hd : (LL a1).drop j = (a1[j]'hlt) :: (LL a1).drop (j + 1) := List.drop_eq_getElem_cons (by rw [LL_length]; exact hlt)
      have hF := HF.out
      rw [hd] at hF
      simp only [fndL] at hF
      rw [hcc] at hF
      have HF2 := Aside0.mk hF
      have w5 : ∀ h : j < a1.size, (a1[j]'h).toNat = cc := fun _ => hcc
      cases hn : trie_Trie_Next.f a0 x (cc : Int) with
      | none =>
        exfalso
        have h := H.out
        rw [hF, hn] at h
        cases h
      | some q =>
        obtain ⟨n, ok⟩ := q
        have hC := fun W g => HNX.out x (cc : Int) n ok W g hn
        have HC := Aside0.mk hC
        rw [hn] at hF
        simp only at hF
        clear hd HF HF2 hcc hn hC HNX
        cases ok with
        | true =>
          rw [if_pos rfl] at hF
          have HF := Aside0.mk hF
          clear hF
          go_wp2_with (go_at_call 41; refine (HC.out _ (by obtain ⟨q, rfl⟩ := HD.out; exact OB.drewN HO.out q)).mono ?_; rintro e w1 ⟨rfl, hd1⟩; have HD1 := Aside0.mk hd1; clear hd1)
          go_roundg (a1.size - (j + 1))
          case measure => omega
          case rel => exact ⟨j + 1, n, rfl, by go_num, by omega, Nat.le_refl _, HF, ⟨by obtain ⟨q1, h1⟩ := HD.out; obtain ⟨q2, h2⟩ := HD1.out; exact ⟨q1 + q2, by rw [h2, h1, World.drewN_drewN]⟩⟩⟩
        | false =>
          rw [if_neg (by simp)] at hF
          have h := H.out
          rw [hF] at h
          obtain ⟨rfl, rfl⟩ := Prod.mk.inj (Option.some.inj h)
          clear hF h H
          go_wp2_with (go_at_call 41; refine (HC.out _ (by obtain ⟨q, rfl⟩ := HD.out; exact OB.drewN HO.out q)).mono ?_; rintro e w1 ⟨rfl, hd1⟩; have HD1 := Aside0.mk hd1; clear hd1)
          go_ret2
          exact ⟨rfl, by obtain ⟨q1, h1⟩ := HD.out; obtain ⟨q2, h2⟩ := HD1.out; exact ⟨q1 + q2, by rw [h2, h1, World.drewN_drewN]⟩⟩
    · obtain rfl : j = a1.size := by omega
      have hF := HF.out
      rw [List.drop_of_length_le (by rw [LL_length]; exact Nat.le_refl _)] at hF
      have h := H.out
      rw [hF] at h
      obtain ⟨rfl, rfl⟩ := Prod.mk.inj (Option.some.inj h)
      clear hF h H HF
      go_wp2_with (go_at_call 64; refine (HIS.out _ _ (by obtain ⟨q, rfl⟩ := HD.out; exact OB.drewN HO.out q)).mono ?_; rintro e w1 ⟨rfl, hd1⟩; have HD1 := Aside0.mk hd1; clear hd1)
      go_ret2
      exact ⟨rfl, by obtain ⟨q1, h1⟩ := HD.out; obtain ⟨q2, h2⟩ := HD1.out; exact ⟨q1 + q2, by rw [h2, h1, World.drewN_drewN]⟩⟩

/-- A state's path, as long as is said, by the states above. -/
def upP (a0 : Option TrieD) : Nat → Int → List Int
  | 0, _ => []
  | n + 1, s => match trie_Trie_Above.f a0 s with
    | none => []
    | some (a, c, _) => upP a0 n a ++ [c]
theorem above_some (a0 : Option TrieD) (s : Int) : ∃ a c ok, trie_Trie_Above.f a0 s = some (a, c, ok) := by
  unfold trie_Trie_Above.f
  split <;> exact ⟨_, _, _, rfl⟩
theorem upP_length (a0 : Option TrieD) : ∀ n s, (upP a0 n s).length = n
  | 0, s => rfl
  | n + 1, s => by
    obtain ⟨a, c, ok, h⟩ := above_some a0 s
    simp only [upP, h]
    rw [List.length_append, upP_length a0 n a]
    rfl
def trDep (a0 : Option TrieD) (s : Int) : Int := if trIs a0 s = true then (trAt a0 s).depth else 0
def trie_Trie_Path.f (a0 : Option TrieD) (a1 : Int) : Option ByteArray := if 0 ≤ trDep a0 a1 ∧ trDep a0 a1 ≤ 1073741824 then some (strOfNums (upP a0 (trDep a0 a1).toNat a1)) else none
theorem rep_set (t : Nat) (c : Int) (L : List Int) : (List.replicate (t + 1) (0 : Int) ++ L).set t c = List.replicate t 0 ++ c :: L := by
  rw [List.replicate_succ', List.append_assoc, List.set_append_right _ _ (by simp)]
  simp
theorem info16 : (Try.prog.info? 5).map (fun i => (i.zero, i.size, i.bytes)) = some (some (.int .u8 0), 1, 1) := by kernel_rfl
set_option maxHeartbeats 4000000 in
theorem trie_Trie_Path.calls (Pa0 : Option Addr) (a0 : Option TrieD) (a1 : Int) (r : ByteArray) (w : World) (ho : OB K93 w Pa0 a0) (h : trie_Trie_Path.f a0 a1 = some r) :
    Calls Try.prog 43 #[.pointer Pa0, .int .i64 a1] w fun e w' => e = .returned (.string r) ∧ Below w.heap.size w w' := by
  have hDp := fun W g => trie_Trie_Depth.calls Pa0 a0 a1 (trDep a0 a1) W g rfl
  have hAb := fun s a c ok W g hh => trie_Trie_Above.calls Pa0 a0 s a c ok W g hh
  have HAB := Aside0.mk hAb
  have HO := Aside0.mk ho
  unfold trie_Trie_Path.f at h
  obtain ⟨dp, hdp⟩ : ∃ x, trDep a0 a1 = x := ⟨_, rfl⟩
  rw [hdp] at h hDp
  by_cases hs : 0 ≤ dp ∧ dp ≤ 1073741824
  rotate_left
  · rw [if_neg hs] at h; cases h
  rw [if_pos hs] at h
  obtain rfl := Option.some.inj h
  obtain ⟨n, rfl⟩ : ∃ n : Nat, dp = n := ⟨dp.toNat, by omega⟩
  rw [Int.toNat_natCast]
  have HDP := Aside0.mk hDp
  have hn : n ≤ 1073741824 := by omega
  have hn0 : (0 : Int) ≤ n := by omega
  have hn1 : (n : Int) ≤ 1073741824 := by omega
  obtain ⟨RR, hRR⟩ : ∃ RR, upP a0 n a1 = RR := ⟨_, rfl⟩
  rw [hRR]
  have HRR := Aside0.mk hRR
  clear hDp hAb ho h hs hdp hRR
  go_enter Try.func43, Try.ntmps43
  go_wp2_with (first
    | (go_at_call 42; refine (HDP.out _ HO.out).mono ?_; rintro e w1 ⟨rfl, ⟨q, rfl⟩⟩)
    | (refine Kd.R_make (Kd.int .u8) (w0 := w) w.heap.size 5 rfl (N := 13) rfl 66 (.tmp 12) (.tmp 12) rfl (n : Int) rfl rfl Try.underlying66 (.int .u8 0) 1 info16 rfl (by decide) (by decide) (0 : Int) (ok := fun _ => True) (okp := fun _ => True) ?hz (fun _ h => h) trivial ?h0 ?hl ?hB ?hs ?_; (case hz => rfl); (case h0 => omega); (case hl => omega); (case hB => repeat (first | exact Below.refl _ _ | (with_reducible apply pw_below_drewN))); (case hs => exact Nat.le_refl _)))
  intro v1 w2 hR2 hb2 hg2 bb hbb1 hbb2
  have HR2 := Aside0.mk hR2
  have HB2 := Aside0.mk hb2
  obtain ⟨A, c, rfl⟩ := Kd.R_slice hR2
  have hc0 := (Kd.R_reads' hR2).2.1
  have hll : (List.replicate n (0 : Int)).length = n := List.length_replicate
  have HN := Aside0.mk hll
  clear hR2 hb2 hg2 hbb1 hbb2
  rw [hll] at hc0 HR2 ⊢
  clear hll
  go_wp2
  go_loopg [1, 6] n (fun kx s i W => ∃ (t : Nat) (x : Int) (L : List Int), s = .int .i64 x ∧ i = .int .i64 ((t : Int) - 1) ∧ t ≤ n ∧ t ≤ kx ∧ Aside0 (upP a0 t x ++ L = RR) ∧ Aside0 (Kd.R (Kd.int .u8) 5 W w.heap.size (fun _ => True) (.slice A n c) (List.replicate t 0 ++ L)) ∧ Aside0 (Below w.heap.size w W))
  case atStart => exact ⟨n, a1, [], rfl, by go_num, Nat.le_refl _, Nat.le_refl _, ⟨by rw [List.append_nil]; exact HRR.out⟩, ⟨by rw [List.append_nil]; exact HR2.out⟩, HB2⟩
  case round =>
    clear HR2 HB2
    obtain ⟨t, x, L, rfl, rfl, ht, htx, HP, HR, HB⟩ := hrel
    cases t with
    | zero =>
      have hL : L = RR := HP.out
      have hR := HR.out
      rw [List.replicate_zero, List.nil_append, hL] at hR
      have hcv := fun (W : World) (h : Below wr.heap.size wr W) => Kd.C_string (P := Try.prog) (src := 66) (dst := 9) (c := c) Try.underlying66 Try.underlying5 Try.underlying9 (Kd.C_below (Kd.R_reads' hR).2.2 h)
      have hcv0 := hcv wr (Below.refl _ _)
      have hlen := (Kd.R_reads' hR).1
      rw [← hlen] at hcv0
      clear hcv hR hL hlen
      go_wp2
      go_ret
      exact ⟨rfl, HB.out⟩
    | succ t =>
      obtain ⟨a, c1, ok, hab⟩ := above_some a0 x
      have hC := fun W g => HAB.out x a c1 ok W g hab
      have HC := Aside0.mk hC
      have hP := HP.out
      simp only [upP, hab] at hP
      rw [List.append_assoc] at hP
      have HP2 := Aside0.mk hP
      have hrep : (List.replicate (t + 1) (0 : Int) ++ L).length = n := ((Kd.R_reads' HR.out).1).symm
      obtain ⟨g, cap, hv, hbg, hlg, _⟩ := Kd.R_form HR.out (by rw [hrep]; omega)
      injection hv with e1 e2 e3
      subst e1
      subst e3
      have ht1 : ((t + 1 : Nat) : Int) - 1 = (t : Int) := by omega
      rw [ht1]
      have hti : (t : Int) < (n : Int) := by omega
      have htp : (0 : Int) ≤ (t : Int) := by omega
      clear hC hP hab HP e2 hrep ht1
      go_wp2_with (go_at_call 40; refine (HC.out _ (OB.below HB.out HO.out)).mono ?_; rintro e w1 ⟨rfl, hd1⟩; have n1_ := Aside0.mk (hd1.below); have n2_ := Aside0.mk (Below.trans HB.out (hd1.below.mono HB.out.size)); have HR1 := Aside0.mk (Kd.R_below HR.out hd1.below); clear HR HB hd1; have HB1 := n2_; clear n1_ n2_; have hcl := Kd.R_celln 0 HR1.out (t : Int) (by omega) (by omega); obtain ⟨hc1, hf1⟩ := hcl; rw [Int.toNat_natCast] at hc1 hf1)
      go_roundg t
      case measure => omega
      case rel =>
        have hput := Kd.R_putg HR1.out (t : Int) c1
        rw [Int.toNat_natCast, rep_set] at hput
        exact ⟨t, a, c1 :: L, rfl, rfl, by omega, Nat.le_refl _, HP2, ⟨hput.1⟩, ⟨Below.setCell (p := ⟨g, t, none⟩) HB1.out hbg _⟩⟩
/-- The bytes by which a state leads on. -/
def trBy (d : TrieD) (x : StD) : List Int := (List.range x.many.toNat).map fun o => (d.getD (x.first.toNat + o) default).by_
def trie_Trie_Bytes.f (a0 : Option TrieD) (a1 : Int) : Option ByteArray := match a0 with
  | none => some ⟨#[]⟩
  | some d => if trIs (some d) a1 = true then (if stOk d (d.getD a1.toNat default) ∧ (d.getD a1.toNat default).many ≤ 1073741824 ∧ (trBy d (d.getD a1.toNat default)).all (fun c => decide (0 ≤ c ∧ c < 256)) = true then some (strOfNums (trBy d (d.getD a1.toNat default))) else none) else some ⟨#[]⟩
theorem cells_of (L : List Int) (h : L.all (fun c => decide (0 ≤ c ∧ c < 256)) = true) : Lib.byteCells (L.map fun n => UInt8.ofNat n.toNat) = L.map (Value.int .u8) := by
  unfold Lib.byteCells
  rw [List.map_map]
  refine List.map_congr_left fun c hc => ?_
  have := of_decide_eq_true (List.all_eq_true.1 h c hc)
  simp only [Function.comp]
  congr 1
  rw [UInt8.toNat_ofNat']
  omega
theorem trBy_take (d : TrieD) (x : StD) (o : Nat) (h : o < x.many.toNat) : (trBy d x).take (o + 1) = (trBy d x).take o ++ [(d.getD (x.first.toNat + o) default).by_] := by
  unfold trBy
  rw [List.take_succ_eq_append_getElem (by simpa using h)]
  simp
set_option maxHeartbeats 4000000 in
set_option maxRecDepth 100000 in
theorem trie_Trie_Bytes.calls (Pa0 : Option Addr) (a0 : Option TrieD) (a1 : Int) (r : ByteArray) (w : World) (ho : OB K93 w Pa0 a0) (h : trie_Trie_Bytes.f a0 a1 = some r) :
    Calls Try.prog 48 #[.pointer Pa0, .int .i64 a1] w fun e w' => e = .returned (.string r) ∧ Below w.heap.size w w' := by
  have hL := fun W g => trie_Trie_is.calls Pa0 a0 a1 (trIs a0 a1) W g rfl
  have HL := Aside0.mk hL
  have HO := Aside0.mk ho
  clear hL
  rcases tr_cases a0 a1 with ht | ⟨ht, d, k, rfl, rfl, hk⟩
  · have h : some (⟨#[]⟩ : ByteArray) = some r := by
      rw [← h]
      cases a0 with
      | none => rfl
      | some d => simp only [trie_Trie_Bytes.f]; rw [ht, if_neg (by simp)]
    obtain rfl := Option.some.inj h
    rw [ht] at HL
    clear ht ho h
    go_enter Try.func48, Try.ntmps48
    go_wp2_with (go_at_call 64; refine (HL.out _ HO.out).mono ?_; rintro e w1 ⟨rfl, ⟨q, rfl⟩⟩)
    go_ret
    exact ⟨rfl, by repeat (first | exact Below.refl _ _ | (with_reducible apply pw_below_drewN))⟩
  · obtain ⟨a, rfl⟩ := OB.p_some ho
    have hK := OB.at ho
    simp only [trie_Trie_Bytes.f] at h
    rw [ht, if_pos rfl, Int.toNat_natCast] at h
    rw [ht] at HL
    by_cases hs : stOk d (d.getD k default) ∧ (d.getD k default).many ≤ 1073741824 ∧ (trBy d (d.getD k default)).all (fun c => decide (0 ≤ c ∧ c < 256)) = true
    rotate_left
    · rw [if_neg hs] at h; cases h
    rw [if_pos hs] at h
    obtain rfl := Option.some.inj h
    obtain ⟨⟨s0, s1, s2, s3⟩, s4, s5⟩ := hs
    obtain ⟨LB, hLB⟩ : ∃ L, trBy d (d.getD k default) = L := ⟨_, rfl⟩
    have htk := trBy_take d (d.getD k default)
    rw [hLB] at s5 htk ⊢
    obtain ⟨b, ad, c, rfl, _⟩ := tr_cells hK k hk
    have hKB := fun W (hb : Below w.heap.size w W) => K93.below hb hK
    have hKk := fun W (hb : Below w.heap.size w W) => tr_cells (hKB W hb) k hk
    obtain ⟨st, hst⟩ : ∃ st, d.getD k default = st := ⟨_, rfl⟩
    rw [hst] at s0 s1 s2 s4 htk hLB hKk
    have hlen : LB.length = st.many.toNat := by rw [← hLB]; unfold trBy; simp
    obtain ⟨lo, hlo⟩ : ∃ n : Nat, st.first = n := ⟨st.first.toNat, by omega⟩
    obtain ⟨m, hm⟩ : ∃ n : Nat, st.many = n := ⟨st.many.toNat, by omega⟩
    rw [hlo, hm] at s2 hKk
    rw [hm] at s4
    rw [hlo, hm, Int.toNat_natCast, Int.toNat_natCast] at htk
    rw [hm, Int.toNat_natCast] at hlen
    have HKK := Aside0.mk hKk
    have HK := Aside0.mk (fun W (hb : Below w.heap.size w W) (j : Nat) (hj : j < d.length) => tr_cells (hKB W hb) j hj)
    have HTK := Aside0.mk htk
    have HLN := Aside0.mk hlen
    have HS := Aside0.mk s5
    have HS2 := Aside0.mk s2
    have hki : (k : Int) < (d.length : Int) := by omega
    clear ht ho s0 s1 hlo hK hKB hKk htk hlen s5 hLB hm s2 hst
    obtain ⟨n, hn⟩ : ∃ n, d.length = n := ⟨_, rfl⟩
    rw [hn] at hk hki s3 HS2 HK HKK
    clear hn
    have hB1 := fun q => Below.alloc (pw_below_drewN (Below.refl w.heap.size w) q) (Nat.le_refl _) (Obj.cells #[Value.pointer none, Value.slice none 0 0] 100)
    have hT1 := fun q => HKK.out _ (hB1 q)
    have HB1 := Aside0.mk hB1
    have HT1 := Aside0.mk hT1
    clear hB1 hT1
    go_enter Try.func48, Try.ntmps48
    go_wp2_with (go_at_call 64; refine (HL.out _ HO.out).mono ?_; rintro e w1 ⟨rfl, ⟨q, rfl⟩⟩; obtain ⟨b2, ad2, c2, e2, g0, y0, y1, y2, y3, y4, y5⟩ := HT1.out q; injection e2 with e2; subst e2)
    have HB2 := Aside0.mk (HB1.out q)
    have HI2 := Aside0.mk (IsB.fresh (B := w.heap.size) (w.drewN q) (Nat.le_refl _))
    clear g0 y0 y1 y2 y3 y4 y5 HB1 HT1
    go_loopg [19] m (fun kx i W => ∃ (o : Nat), i = .int .i64 o ∧ o ≤ m ∧ m - o ≤ kx ∧ Aside0 (IsB w.heap.size w.heap.size ((LB.take o).map (Value.int .u8)) W) ∧ Aside0 (Below w.heap.size w W))
    case atStart => exact ⟨0, rfl, Nat.zero_le _, by omega, HI2, HB2⟩
    case round =>
      clear HI2 HB2
      obtain ⟨o, rfl, ho, hox, HI, HB⟩ := hrel
      by_cases hlt : o < m
      · obtain ⟨b2, ad2, c2, e2, g0, y0, y1, y2, y3, y4, y5⟩ := HKK.out _ HB.out
        injection e2 with e2
        subst e2
        have hs2 := HS2.out
        obtain ⟨b3, ad3, c3, e3, g03, z0, z1, z2, z3, z4, z5⟩ := HK.out _ HB.out (lo + o) (by omega)
        injection e3 with e3
        subst e3
        obtain rfl : ad3 = ad2 := by rw [g0] at g03; injection g03 with e; injection e with e; injection e with e; exact e.symm
        have htk := HTK.out o hlt
        generalize (d.getD (lo + o) default).by_ = y at z1 htk
        have HT := Aside0.mk htk
        have hi0 : (0 : Int) ≤ (lo : Int) + (o : Int) := by omega
        have hi1 : (lo : Int) + (o : Int) < (n : Int) := by omega
        have hi2 : ((lo : Int) + (o : Int)).toNat = lo + o := by omega
        have hi3 : IntKind.i64.wrap ((lo : Int) + (o : Int)) = (lo : Int) + (o : Int) := by rw [i64_w, wrap_id (by omega) (by omega)]
        have hll : ((LB.take o).map (Value.int .u8)).length = o := by rw [List.length_map, List.length_take, HLN.out]; omega
        have HLL := Aside0.mk hll
        have hm9 : m ≤ 1073741824 := by omega
        clear y0 y1 y2 y3 y5 z0 z2 z3 z4 z5 g03 hs2 htk hll
        go_wp2
        go_still_tail 17, (by kernel_rfl)
        go_wp2_with (go_at_call 65; refine (bld_byte_k w.heap.size w.heap.size ((LB.take o).map (Value.int .u8)) y _ (IsB.below HI.out (below_drew (Below.refl _ _))) (by rw [HLL.out]; omega) HB.out.size).mono ?_; rintro e w' ⟨rfl, hi, hb, _⟩; have HI1 := Aside0.mk hi; have HB1 := Aside0.mk ((below_drew HB.out).trans hb); clear hi hb)
        go_roundg (m - (o + 1))
        case measure => omega
        case rel => exact ⟨o + 1, by go_num, by omega, Nat.le_refl _, ⟨by rw [HT.out, List.map_append]; exact HI1.out⟩, HB1⟩
      · obtain rfl : o = m := by omega
        have hI := HI.out
        rw [List.take_of_length_le (by rw [HLN.out]; exact Nat.le_refl _), ← cells_of LB HS.out] at hI
        have HI2 := Aside0.mk hI
        clear HI hI
        go_wp2_with (go_at_call 66; refine (bld_string w.heap.size w.heap.size (LB.map fun n => UInt8.ofNat n.toNat) _ HI2.out HB.out.size).mono ?_; rintro e w' ⟨rfl, hi, hb, _⟩; have HB1 := Aside0.mk (HB.out.trans hb); clear hi hb)
        go_ret
        exact ⟨rfl, HB1.out⟩
end Go.Proofs.Ytnpkbnfiadkgnaa.P
