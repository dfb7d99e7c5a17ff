/- All hits of a set's patterns in a text, in order: the walk of layer 15's All. -/
import Derived.Test.YtekdmkdidnnpbaaH15s
import Derived.Test.YtekdmkdidnnpbaaH10b
import Derived.Test.YtekdmkdidnnpbaaL08
namespace Go.Proofs.Ytekdmkdidnnpbaa.P
open Go Go.RowKit Go.Proofs.YtekdmkdidnnpbaaW.PrintWords Go.Proofs.YtekdmkdidnnpbaaW.PrintLast Go.Proofs.YtekdmkdidnnpbaaW.PrintMore Go.Proofs.Ytekdmkdidnnpbaa.Base
set_option linter.unusedVariables false
set_option linter.unusedSimpArgs false

def hitAt (p : ByteArray) (i : Nat) (q : Int) : HitS := ⟨wrap64 (q + (p.size : Int)), (i : Int)⟩
/-- The hits, pattern by pattern. -/
def rawF (s : ByteArray) : List ByteArray → Nat → List HitS
  | [], _ => []
  | p :: l, i => (findS s p).map (hitAt p i) ++ rawF s l (i + 1)
theorem rawF_append (s : ByteArray) : ∀ (a b : List ByteArray) (i : Nat), rawF s (a ++ b) i = rawF s a i ++ rawF s b (i + a.length)
  | [], b, i => rfl
  | p :: a, b, i => by
    simp only [List.cons_append, rawF, List.length_cons]
    rw [rawF_append s a b (i + 1), List.append_assoc, show i + 1 + a.length = i + (a.length + 1) by omega]
theorem rawF_take (s : ByteArray) (l : List ByteArray) (j : Nat) (h : j < l.length) : rawF s (l.take (j + 1)) 0 = rawF s (l.take j) 0 ++ (findS s (l.getD j ByteArray.empty)).map (hitAt (l.getD j ByteArray.empty) j) := by
  rw [List.take_succ_eq_append_getElem h, rawF_append, List.length_take, Nat.min_eq_left (Nat.le_of_lt h), Nat.zero_add, List.getD_eq_getElem?_getD, List.getElem?_eq_getElem h]
  simp only [rawF, Option.getD_some, List.append_nil]
theorem find_len (s t : ByteArray) : (findS s t).length ≤ s.size + 1 := by
  unfold findS
  split
  · simp
  · rw [List.length_map]
    refine Nat.le_trans (List.length_filter_le _ _) ?_
    rw [List.length_range]
    exact Nat.le_refl _
theorem rawF_length (s : ByteArray) : ∀ (l : List ByteArray) (i : Nat), (rawF s l i).length ≤ l.length * (s.size + 1)
  | [], _ => by simp [rawF]
  | p :: l, i => by
    have h1 := rawF_length s l (i + 1)
    have h2 := find_len s p
    simp only [rawF, List.length_append, List.length_map, List.length_cons, Nat.succ_mul]
    omega
abbrev smallAll (l : List ByteArray) (s : ByteArray) : Prop := l.length ≤ 65535 ∧ s.size ≤ 1048575 ∧ ∀ t ∈ l, t.size ≤ 8796093022200
def occ_All.f (a0 : Option SetD) (a1 : ByteArray) : Option (List HitS) := if smallAll (setL a0) a1 then some (sortH (rawF a1 (setL a0) 0)) else none
theorem find_calls (s t : ByteArray) (hs : s.size ≤ 8796093022200) (ht : t.size ≤ 8796093022200) (w : World) :
    Calls Try.prog 64 #[.string s, .string t] w fun e w' => ∃ v0_ : Value, e = .returned v0_ ∧ Kd.R (Kd.int .i64) 3 w' w.heap.size (fun _ => True) v0_ (findS s t) ∧ Below w.heap.size w w' := by
  obtain ⟨k, hk⟩ := Ev.all (find s t hs ht)
  exact border_Find.calls k s t _ w hk

set_option maxHeartbeats 16000000 in
set_option maxRecDepth 100000 in
theorem occ_All.calls (Pa0 : Option Addr) (a0 : Option SetD) (a1 : ByteArray) (r : List HitS) (w : World) (ho : OB K90 w Pa0 a0) (h : occ_All.f a0 a1 = some r) :
    Calls Try.prog 20 #[.pointer Pa0, .string a1] w fun e w' => ∃ v0_ : Value, e = .returned v0_ ∧ Kd.R k23 23 w' w.heap.size (fun _ => True) v0_ r ∧ Below w.heap.size w w' := by
  unfold occ_All.f at h
  by_cases hs : smallAll (setL a0) a1
  rotate_left
  · rw [if_neg hs] at h; cases h
  rw [if_pos hs] at h
  have HO := Aside0.mk ho
  have hLi := fun W (g : OB K90 W Pa0 a0) => pats_Set_List.calls Pa0 a0 (setL a0) W g (by
    cases a0 with
    | none => rfl
    | some d => show (if d.l.length ≤ 8796093022208 then some d.l else none) = _; rw [if_pos (show d.l.length ≤ 8796093022208 from Nat.le_trans hs.1 (by decide))]; rfl)
  generalize setL a0 = l at h hs hLi
  obtain ⟨h1, h2, h3⟩ := hs
  obtain rfl := Option.some.inj h
  have HLI := Aside0.mk hLi
  have H1 := Aside0.mk h1
  have H2 := Aside0.mk h2
  have H3 := Aside0.mk h3
  clear h ho hLi h1 h2 h3
  obtain ⟨XA, hXA⟩ : ∃ X, rawF a1 l 0 = X := ⟨_, rfl⟩
  rw [hXA]
  have HXA := Aside0.mk hXA
  clear hXA
  go_enter Try.func20, Try.ntmps20
  go_wp2_with (go_at_call 22; refine (HLI.out _ HO.out).mono ?_; rintro e W1 ⟨v, rfl, hR, hb⟩; have HB0 := Aside0.mk hb; obtain ⟨A, c, rfl⟩ := Kd.R_slice hR; have HR := Aside0.mk hR; clear hb hR)
  go_loopg [5, 13] l.length (fun kx v i wr => ∃ (j : Nat), i = .int .i64 j ∧ j ≤ l.length ∧ l.length - j ≤ kx ∧
    Aside0 (Kd.R k23 23 wr w.heap.size (fun _ => True) v (rawF a1 (l.take j) 0)) ∧ Aside0 (Below w.heap.size w wr) ∧ Aside0 (Kd.R Kd.string 9 wr w.heap.size (fun _ => True) (.slice A l.length c) l))
  case atStart => exact ⟨0, rfl, Nat.zero_le _, by omega, ⟨by rw [List.take_zero]; exact Kd.R_nil _ _ _ _ _⟩, HB0, HR⟩
  case round =>
    clear HB0 HR
    obtain ⟨j, rfl, hj, hjx, HP, HB, HR⟩ := hrel
    by_cases hlt : j < l.length
    · have ht := rawF_take a1 l j hlt
      obtain ⟨ad, hA, hx⟩ := Kd.at_string (Kd.R_reads' HR.out).2.2 (j : Int) (by omega) (by omega)
      obtain rfl : A = some ad := hA
      have hx' : wr.cell? (ad.add j) = some (.string (l.getD j ByteArray.empty)) := hx
      have hs2 := H3.out _ (getD_mem l j ByteArray.empty hlt)
      have hXl : (rawF a1 (l.take j) 0).length ≤ j * 1048576 := by
        refine Nat.le_trans (rawF_length a1 (l.take j) 0) ?_
        rw [List.length_take, Nat.min_eq_left hj]
        exact Nat.mul_le_mul (Nat.le_refl _) (by have := H2.out; omega)
      have hj6 : j < 65535 := Nat.lt_of_lt_of_le hlt H1.out
      clear hx
      generalize l.getD j ByteArray.empty = p at hx' hs2 ht
      obtain ⟨X1, hX1⟩ : ∃ X1, rawF a1 (l.take (j + 1)) 0 = X1 := ⟨_, rfl⟩
      generalize rawF a1 (l.take j) 0 = X at HP ht hXl
      rw [hX1] at ht
      have HT := Aside0.mk ht
      have HX1 := Aside0.mk hX1
      have HXL := Aside0.mk hXl
      have HFL := Aside0.mk (find_len a1 p)
      have HF := fun W => find_calls a1 p (by have := H2.out; omega) hs2 W
      have HFC := Aside0.mk HF
      obtain ⟨ps, hps⟩ : ∃ ps : Int, (p.size : Int) = ps := ⟨_, rfl⟩
      have HPS := Aside0.mk hps
      clear ht hX1 hXl HF hps hs2
      generalize findS a1 p = F at HT HFL HFC
      go_wp2_with (go_at_call 64; refine (HFC.out _).mono ?_; rintro e W2 ⟨v2, rfl, hR2, hb2⟩; have n0_ := Aside0.mk (Kd.R_below HP.out hb2); have n1_ := Aside0.mk (Kd.R_below HR.out hb2); have n2_ := Aside0.mk (Kd.R_lower hR2 HB.out.size); have n3_ := Aside0.mk (below_step HB.out hb2); obtain ⟨A2, c2, rfl⟩ := Kd.R_slice hR2; clear HP HR HB hR2 hb2 hx'; have HP := n0_; have HR := n1_; have HQ := n2_; have HB := n3_; clear n0_ n1_ n2_ n3_)
      go_loopg [5, 22] F.length (fun kx v i wr => ∃ (d : Nat), i = .int .i64 d ∧ d ≤ F.length ∧ F.length - d ≤ kx ∧
        Aside0 (Kd.R k23 23 wr w.heap.size (fun _ => True) v (X ++ (F.take d).map (hitAt p j))) ∧ Aside0 (Below w.heap.size w wr) ∧ Aside0 (Kd.R Kd.string 9 wr w.heap.size (fun _ => True) (.slice (some ad) l.length c) l) ∧ Aside0 (Kd.R (Kd.int .i64) 3 wr w.heap.size (fun _ => True) (.slice A2 F.length c2) F))
      case atStart => exact ⟨0, rfl, Nat.zero_le _, by omega, ⟨by rw [List.take_zero, List.map_nil, List.append_nil]; exact HP.out⟩, HB, HR, HQ⟩
      case round =>
        clear HP HB HR HQ
        obtain ⟨d, rfl, hd, hdx, HP, HB, HR, HQ⟩ := hrel
        by_cases hdl : d < F.length
        · obtain ⟨ad2, hA2, hx2⟩ := Kd.at_int (Kd.R_reads' HQ.out).2.2 (d : Int) (by omega) (by omega)
          obtain rfl : A2 = some ad2 := hA2
          have hx2' : wr.cell? (ad2.add d) = some (.int .i64 (F.getD d 0)) := hx2
          have hn : X ++ (F.take (d + 1)).map (hitAt p j) = (X ++ (F.take d).map (hitAt p j)) ++ [hitAt p j (F.getD d 0)] := by
            rw [List.take_succ_eq_append_getElem hdl, List.map_append, List.getD_eq_getElem?_getD, List.getElem?_eq_getElem hdl, List.append_assoc]
            rfl
          have hYl : (X ++ (F.take d).map (hitAt p j)).length ≤ 65535 * 1048576 + 1048576 := by
            rw [List.length_append, List.length_map, List.length_take]
            have := HXL.out
            have := HFL.out
            have := H2.out
            have : j * 1048576 ≤ 65535 * 1048576 := Nat.mul_le_mul_right _ (Nat.le_of_lt hj6)
            omega
          have hF6 : F.length ≤ 1048576 := Nat.le_trans HFL.out (by have := H2.out; omega)
          clear hx2
          generalize F.getD d 0 = z at hx2' hn
          obtain ⟨zz, hzz⟩ : ∃ zz, wrap64 (z + (p.size : Int)) = zz := ⟨_, rfl⟩
          rw [show hitAt p j z = (⟨zz, (j : Int)⟩ : HitS) by unfold hitAt; rw [hzz]] at hn
          have hzw : IntKind.i64.wrap (z + (p.size : Int)) = zz := (i64_w _).trans hzz
          clear hzz
          generalize X ++ (F.take d).map (hitAt p j) = Y at HP hn hYl
          have HN := Aside0.mk hn
          have HYL := Aside0.mk hYl
          clear hn hYl
          obtain ⟨W0, rfl⟩ : ∃ W0 : World, W0 = wr := ⟨_, rfl⟩
          go_wp2_with ((with_reducible refine gate_builtin (b := .append) (xs := #[.tmp 26, .tmp 33]) rfl ?_); at_builtin; refine Kd.R_append k23 (w0 := W0) w.heap.size rfl (.tmp 26) (.tmp 33) 24 23 (.agg #[(.int .i64 0), (.int .i64 0)]) 16 rfl Try.underlying24 info23 rfl (by decide) (by omega) u5 Y (⟨zz, (j : Int)⟩ : HitS) [.int .i64 zz, .int .i64 (j : Int)] (fun _ => True) (fun _ => False) rfl rfl ?aP (fun _ hk => hk.elim) ?aF ?aO ?aB ?aS ?aL ?_; (case aP => exact k23_mkM _ _ _ (⟨zz, (j : Int)⟩ : HitS)); (case aB => exact Below.refl _ _); (case aF => exact (fun _ _ => trivial)); (case aO => exact HP.out); (case aS => exact HB.out.size); (case aL => have := HYL.out; omega); intro v1 w6 ho hb hg hat; have n0_ := Aside0.mk ho; have n1_ := Aside0.mk (HB.out.grown hg HB.out.size (fun k hk => Kd.R_base HP.out k hk)); have n2_ := Aside0.mk (Kd.R_over HR.out HP.out (fun q hq => by rw [show q = 9 from List.mem_singleton.1 hq]; decide) hg); have n3_ := Aside0.mk (Kd.R_over HQ.out HP.out (fun q hq => by rw [show q = 3 from List.mem_singleton.1 hq]; decide) hg); clear HP HB HR HQ ho hb hg hat hx2' hzw; have HP := n0_; have HB := n1_; have HR := n2_; have HQ := n3_; clear n0_ n1_ n2_ n3_)
          go_roundg (F.length - (d + 1))
          case measure => omega
          case rel => exact ⟨d + 1, by go_num, by omega, Nat.le_refl _, ⟨by rw [HN.out]; exact HP.out⟩, HB, HR, HQ⟩
        · obtain rfl : d = F.length := by omega
          have hP := HP.out
          rw [List.take_length] at hP
          have HP2 := Aside0.mk hP
          clear hP HP
          go_wp2
          go_roundg (l.length - (j + 1))
          case measure => omega
          case rel =>
            refine ⟨j + 1, by go_num, by omega, Nat.le_refl _, ⟨?_⟩, HB, HR⟩
            rw [HX1.out, HT.out]
            exact HP2.out
    · obtain rfl : j = l.length := by omega
      have hP := HP.out
      rw [List.take_length, HXA.out] at hP
      have HPM := Aside0.mk hP
      have hl : XA.length ≤ 8796093022208 := by
        rw [← HXA.out]
        refine Nat.le_trans (rawF_length a1 l 0) ?_
        refine Nat.le_trans (Nat.mul_le_mul H1.out (show a1.size + 1 ≤ 1048576 by have := H2.out; omega)) (by decide)
      have HL := Aside0.mk hl
      clear hP HP HR hl
      go_wp2_with (go_at_call 65; refine (sort_hits HPM.out HL.out).mono ?_; rintro e W3 ⟨rfl, hR, hg⟩; have HS := Aside0.mk hR; have HG := Aside0.mk hg; clear hR hg)
      go_wp2
      go_ret
      exact ⟨_, rfl, HS.out, HB.out.grown HG.out HB.out.size (fun k hk => Kd.R_base HPM.out k hk)⟩

end Go.Proofs.Ytekdmkdidnnpbaa.P
