/- Whether a pattern of a set stands in a text: the walk of layer 15's Any, over slices.ContainsFunc with the layer's own literal. -/
import Derived.Test.YtekdmkdidnnpbaaH15
namespace Go.Proofs.Ytekdmkdidnnpbaa.P
open Go Go.RowKit Go.Proofs.YtekdmkdidnnpbaaW.PrintWords Go.Proofs.YtekdmkdidnnpbaaW.PrintLast Go.Proofs.YtekdmkdidnnpbaaW.PrintMore Go.Proofs.Ytekdmkdidnnpbaa.Base
set_option linter.unusedVariables false
set_option linter.unusedSimpArgs false

/-- Does a pattern stand in a text? -/
def hasB (s p : ByteArray) : Bool := decide (0 < (findS s p).length)
set_option maxHeartbeats 4000000 in
theorem any_one (s p : ByteArray) (hs : s.size ≤ 8796093022200) (hp : p.size ≤ 8796093022200) (w : World) (a : Addr) (ha : w.cell? a = some (.string s)) :
    Calls Try.prog 73 #[.string p, .pointer (some a)] w fun e w' => e = .returned (.bool (hasB s p)) ∧ Below w.heap.size w w' := by
  have hf := find_calls s p hs hp
  have HF := Aside0.mk hf
  unfold hasB
  generalize findS s p = F at HF ⊢
  clear hf
  go_enter Try.func73, Try.ntmps73
  go_wp2_with (go_at_call 64; refine (HF.out _).mono ?_; rintro e W2 ⟨v, rfl, hR, hb⟩; have HB := Aside0.mk hb; obtain ⟨A, c, rfl⟩ := Kd.R_slice hR; have HLn := Aside0.mk (Kd.R_reads' hR).2.2.1; clear hR hb)
  all_goals
    go_ret
    exact ⟨by simp, HB.out⟩
/-- From one place on: the first pattern that stands in a text. -/
def idxF (s : ByteArray) : List ByteArray → Nat → Int
  | [], _ => -1
  | p :: l, i => if hasB s p = true then (i : Int) else idxF s l (i + 1)
theorem idxF_drop (s : ByteArray) (l : List ByteArray) (i : Nat) (h : i < l.length) : idxF s (l.drop i) i = if hasB s (l.getD i ByteArray.empty) = true then (i : Int) else idxF s (l.drop (i + 1)) (i + 1) := by
  rw [getD_drop l i ByteArray.empty h]
  rfl
theorem idxF_range (s : ByteArray) : ∀ (l : List ByteArray) (i : Nat), idxF s l i = -1 ∨ 0 ≤ idxF s l i
  | [], _ => .inl rfl
  | p :: l, i => by
    simp only [idxF]
    split
    · exact .inr (by omega)
    · exact idxF_range s l (i + 1)
theorem idxF_any (s : ByteArray) : ∀ (l : List ByteArray) (i : Nat), (0 ≤ idxF s l i) ↔ l.any (hasB s) = true
  | [], _ => by simp [idxF]
  | p :: l, i => by
    simp only [idxF, List.any_cons]
    by_cases h : hasB s p = true
    · rw [if_pos h, h]; simp
    · rw [if_neg h, Bool.eq_false_iff.2 h, Bool.false_or]
      exact idxF_any s l (i + 1)
set_option maxHeartbeats 16000000 in
set_option maxRecDepth 100000 in
theorem index_any (s : ByteArray) (hs : s.size ≤ 8796093022200) (A : Option Addr) (c : Nat) (l : List ByteArray) (hl : l.length ≤ 8796093022208) (hz : ∀ t ∈ l, t.size ≤ 8796093022200) (w : World) (a : Addr) (ha : w.cell? a = some (.string s)) (hr : Kd.C Kd.string w A l.length l) :
    Calls Try.prog 106 #[.slice A l.length c, .func (.func 73) #[] #[.pointer (some a)]] w fun e w' => e = .returned (.int .i64 (idxF s l 0)) ∧ Below w.heap.size w w' := by
  have HS := Aside0.mk hs
  have HZ := Aside0.mk hz
  have HA := Aside0.mk ha
  have HR := Aside0.mk hr
  have HB0 := Aside0.mk (Below.refl w.heap.size w)
  obtain ⟨r, hr0⟩ : ∃ r, idxF s l 0 = r := ⟨_, rfl⟩
  have HR0 := Aside0.mk hr0
  rw [hr0]
  clear hs hz ha hr hr0
  go_enter Try.func106, Try.ntmps106
  go_wp2
  go_loopg [8] l.length (fun kx i wr => ∃ (j : Nat), i = .int .i64 j ∧ j ≤ l.length ∧ l.length - j ≤ kx ∧ Aside0 (idxF s (l.drop j) j = r) ∧ Aside0 (Below w.heap.size w wr))
  case atStart => exact ⟨0, rfl, Nat.zero_le _, by omega, ⟨by rw [List.drop_zero]; exact HR0.out⟩, HB0⟩
  case round =>
    clear HB0
    obtain ⟨j, rfl, hj, hjx, HI, HB⟩ := hrel
    by_cases hlt : j < l.length
    · have hi := HI.out
      rw [idxF_drop s l j hlt] at hi
      obtain ⟨ad, hAd, hx⟩ := Kd.at_string HR.out (j : Int) (by omega) (by omega)
      obtain rfl : A = some ad := hAd
      have hx' : w.cell? (ad.add j) = some (.string (l.getD j ByteArray.empty)) := hx
      replace hx' := (HB.out.cell (World.block_lt_of_cell? w _ hx')).trans hx'
      have ha' := (HB.out.cell (World.block_lt_of_cell? w _ HA.out)).trans HA.out
      have hz1 := HZ.out _ (getD_mem l j ByteArray.empty hlt)
      clear hx HI
      generalize l.getD j ByteArray.empty = p at hx' hz1 hi
      have hc := any_one s p HS.out hz1 wr a ha'
      have HI := Aside0.mk hi
      clear hi ha' hz1
      cases hh : hasB s p with
      | true =>
        rw [hh] at hc
        have HI2 := HI.out
        rw [if_pos hh] at HI2
        have HC := Aside0.mk hc
        subst HI2
        clear hc hh HI
        go_wp2_with (refine Calls.mono HC.out ?_; rintro e W2 ⟨rfl, hb⟩; have HB2 := Aside0.mk (below_step HB.out hb); clear hb)
        go_ret
        exact ⟨rfl, HB2.out⟩
      | false =>
        rw [hh] at hc
        have HI2 := HI.out
        rw [if_neg (by rw [hh]; decide)] at HI2
        have HC := Aside0.mk hc
        have HI3 := Aside0.mk HI2
        clear hc hh HI HI2
        go_wp2_with (refine Calls.mono HC.out ?_; rintro e W2 ⟨rfl, hb⟩; have HB2 := Aside0.mk (below_step HB.out hb); clear hb hx')
        go_roundg (l.length - (j + 1))
        case measure => omega
        case rel => exact ⟨j + 1, by go_num, by omega, Nat.le_refl _, HI3, HB2⟩
    · obtain rfl : j = l.length := by omega
      have hi := HI.out
      rw [List.drop_of_length_le (Nat.le_refl _)] at hi
      have hi : (-1 : Int) = r := hi
      subst hi
      go_wp2
      go_ret
      exact ⟨rfl, HB.out⟩
abbrev smallAny (l : List ByteArray) (s : ByteArray) : Prop := l.length ≤ 8796093022208 ∧ s.size ≤ 8796093022200 ∧ ∀ t ∈ l, t.size ≤ 8796093022200
def occ_Any.f (a0 : Option SetD) (a1 : ByteArray) : Option Bool := if smallAny (setL a0) a1 then some ((setL a0).any (hasB a1)) else none
set_option maxHeartbeats 4000000 in
set_option maxRecDepth 100000 in
theorem contains_any (s : ByteArray) (hs : s.size ≤ 8796093022200) (A : Option Addr) (c : Nat) (l : List ByteArray) (hl : l.length ≤ 8796093022208) (hz : ∀ t ∈ l, t.size ≤ 8796093022200) (w : World) (a : Addr) (ha : w.cell? a = some (.string s)) (hr : Kd.C Kd.string w A l.length l) :
    Calls Try.prog 72 #[.slice A l.length c, .func (.func 73) #[] #[.pointer (some a)]] w fun e w' => e = .returned (.bool (l.any (hasB s))) ∧ Below w.heap.size w w' := by
  have HC := Aside0.mk (index_any s hs A c l hl hz w a ha hr)
  have h1 := idxF_any s l 0
  have h2 := idxF_range s l 0
  clear hs hl hz ha hr
  generalize l.any (hasB s) = b at h1 ⊢
  generalize idxF s l 0 = r at HC h1 h2
  have hb : decide (0 ≤ r) = b := by
    cases b
    · exact decide_eq_false (fun h => by simpa using h1.1 h)
    · exact decide_eq_true (h1.2 rfl)
  subst hb
  clear h1
  go_enter Try.func72, Try.ntmps72
  go_wp2_with (go_at_call 106; refine HC.out.mono ?_; rintro e W2 ⟨rfl, hb⟩; have HB := Aside0.mk hb; clear hb)
  all_goals
    go_ret
    exact ⟨by simp, HB.out⟩
set_option maxHeartbeats 4000000 in
set_option maxRecDepth 100000 in
theorem occ_Any.calls (Pa0 : Option Addr) (a0 : Option SetD) (a1 : ByteArray) (r : Bool) (w : World) (ho : OB K90 w Pa0 a0) (h : occ_Any.f a0 a1 = some r) :
    Calls Try.prog 29 #[.pointer Pa0, .string a1] w fun e w' => e = .returned (.bool r) ∧ Below w.heap.size w w' := by
  unfold occ_Any.f at h
  by_cases hs : smallAny (setL a0) a1
  rotate_left
  · rw [if_neg hs] at h; cases h
  rw [if_pos hs] at h
  have HO := Aside0.mk ho
  have hLi := fun W (g : OB K90 W Pa0 a0) => pats_Set_List.calls Pa0 a0 (setL a0) W g (by
    cases a0 with
    | none => rfl
    | some d => show (if d.l.length ≤ 8796093022208 then some d.l else none) = _; rw [if_pos (show d.l.length ≤ 8796093022208 from hs.1)]; rfl)
  generalize setL a0 = l at h hs hLi
  obtain ⟨h1, h2, h3⟩ := hs
  obtain rfl := Option.some.inj h
  have HLI := Aside0.mk hLi
  have H1 := Aside0.mk h1
  have H2 := Aside0.mk h2
  have H3 := Aside0.mk h3
  clear h ho hLi h1 h2 h3
  obtain ⟨b, hb⟩ : ∃ b, l.any (hasB a1) = b := ⟨_, rfl⟩
  rw [hb]
  have HBb := Aside0.mk hb
  clear hb
  have hc0 : (w.alloc (.cells #[.string a1] 9 (0, 0))).cell? ⟨w.heap.size, 0, none⟩ = some (.string a1) := by go_simp
  have HC0 := Aside0.mk hc0
  have HB0 := Aside0.mk ((Below.refl w.heap.size w).alloc (Nat.le_refl _) (.cells #[.string a1] 9 (0, 0)))
  have HO0 := Aside0.mk (OB.below ((Below.refl w.heap.size w).alloc (Nat.le_refl _) (.cells #[.string a1] 9 (0, 0))) HO.out)
  clear hc0
  go_enter Try.func29, Try.ntmps29
  go_wp2_with (first | (go_at_call 22; refine (HLI.out _ HO0.out).mono ?_; rintro e W1 ⟨v, rfl, hR, hb⟩; have HB1 := Aside0.mk hb; obtain ⟨A, c, rfl⟩ := Kd.R_slice hR; have HR := Aside0.mk hR; have HCC := Aside0.mk ((hb.cell (World.block_lt_of_cell? _ _ HC0.out)).trans HC0.out); clear hb hR) | (go_at_call 72; refine (contains_any a1 H2.out A c l H1.out H3.out _ _ HCC.out (Kd.R_reads' HR.out).2.2).mono ?_; rw [HBb.out]; rintro e W2 ⟨rfl, hb⟩; have HB2 := Aside0.mk hb; clear hb))
  go_ret
  exact ⟨rfl, (HB0.out.trans (HB1.out.mono (Nat.le_of_lt (by simp)))).trans (HB2.out.mono (Nat.le_trans (Nat.le_of_lt (by simp)) HB1.out.size))⟩

end Go.Proofs.Ytekdmkdidnnpbaa.P
