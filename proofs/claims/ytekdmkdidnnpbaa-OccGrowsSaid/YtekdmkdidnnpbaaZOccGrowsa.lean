/- Proved here: the row of the law OccGrows, with texts that lead to it, merged by a program of this session (wip/merge.py), part 1 of 2; no condition beyond the statement's own. -/
import Derived.Test.YtekdmkdidnnpbaaH15
import Derived.Test.YtekdmkdidnnpbaaPx0
import Derived.Test.YtekdmkdidnnpbaaPx21
import Derived.Test.YtekdmkdidnnpbaaH10
import Derived.Test.YtekdmkdidnnpbaaPx16
import Derived.Test.YtekdmkdidnnpbaaH10b
import Derived.Test.YtekdmkdidnnpbaaOb10
import Derived.Test.YtekdmkdidnnpbaaBase
import Derived.Test.YtekdmkdidnnpbaaL08
import Derived.Test.YtekdmkdidnnpbaaH09t
import Derived.Test.YtekdmkdidnnpbaaPx68
import Derived.Test.YtekdmkdidnnpbaaP10
import Derived.Test.YtekdmkdidnnpbaaWLast
import Derived.Laws.BitsLemmas
/- Whether a pattern of a set stands in a text: the walk of layer 15's Any, over slices.ContainsFunc with the layer's own literal. -/
namespace Go.Proofs.Ytekdmkdidnnpbaa.P
open Go Go.RowKit Go.Proofs.YtekdmkdidnnpbaaW.PrintWords Go.Proofs.YtekdmkdidnnpbaaW.PrintLast Go.Proofs.YtekdmkdidnnpbaaW.PrintMore Go.Proofs.Ytekdmkdidnnpbaa.Base
set_option linter.unusedVariables false
set_option linter.unusedSimpArgs false

/-- Does a pattern stand in a text? -/
def hasB (s p : ByteArray) : Bool := decide (0 < (findS s p).length)
set_option maxHeartbeats 4000000 in
theorem any_one (s p : ByteArray) (hs : s.size ≤ 8796093022200) (hp : p.size ≤ 8796093022200) (w : World) (a : Addr) (ha : w.cell? a = some (.string s)) :
    Calls Try.prog 73 #[.string p, .pointer (some a)] w fun e w' => e = .returned (.bool (hasB s p)) ∧ Below w.heap.size w w' := by
  have hf := find_calls s p hs hp
  have HF := Aside0.mk hf
  unfold hasB
  generalize findS s p = F at HF ⊢
  clear hf
  go_enter Try.func73, Try.ntmps73
  go_wp2_with (go_at_call 64; refine (HF.out _).mono ?_; rintro e W2 ⟨v, rfl, hR, hb⟩; have HB := Aside0.mk hb; obtain ⟨A, c, rfl⟩ := Kd.R_slice hR; have HLn := Aside0.mk (Kd.R_reads' hR).2.2.1; clear hR hb)
  all_goals
    go_ret
    exact ⟨by simp, HB.out⟩
/-- From one place on: the first pattern that stands in a text. -/
def idxF (s : ByteArray) : List ByteArray → Nat → Int
  | [], _ => -1
  | p :: l, i => if hasB s p = true then (i : Int) else idxF s l (i + 1)
theorem idxF_drop (s : ByteArray) (l : List ByteArray) (i : Nat) (h : i < l.length) : idxF s (l.drop i) i = if hasB s (l.getD i ByteArray.empty) = true then (i : Int) else idxF s (l.drop (i + 1)) (i + 1) := by
  rw [getD_drop l i ByteArray.empty h]
  rfl
theorem idxF_range (s : ByteArray) : ∀ (l : List ByteArray) (i : Nat), idxF s l i = -1 ∨ 0 ≤ idxF s l i
  | [], _ => .inl rfl
  | p :: l, i => by
    simp only [idxF]
    split
    · exact .inr (by omega)
    · exact idxF_range s l (i + 1)
theorem idxF_any (s : ByteArray) : ∀ (l : List ByteArray) (i : Nat), (0 ≤ idxF s l i) ↔ l.any (hasB s) = true
  | [], _ => by simp [idxF]
  | p :: l, i => by
    simp only [idxF, List.any_cons]
    by_cases h : hasB s p = true
    · rw [if_pos h, h]; simp
    · rw [if_neg h, Bool.eq_false_iff.2 h, Bool.false_or]
      exact idxF_any s l (i + 1)
set_option maxHeartbeats 16000000 in
set_option maxRecDepth 100000 in
theorem index_any (s : ByteArray) (hs : s.size ≤ 8796093022200) (A : Option Addr) (c : Nat) (l : List ByteArray) (hl : l.length ≤ 8796093022208) (hz : ∀ t ∈ l, t.size ≤ 8796093022200) (w : World) (a : Addr) (ha : w.cell? a = some (.string s)) (hr : Kd.C Kd.string w A l.length l) :
    Calls Try.prog 106 #[.slice A l.length c, .func (.func 73) #[] #[.pointer (some a)]] w fun e w' => e = .returned (.int .i64 (idxF s l 0)) ∧ Below w.heap.size w w' := by
  have HS := Aside0.mk hs
  have HZ := Aside0.mk hz
  have HA := Aside0.mk ha
  have HR := Aside0.mk hr
  have HB0 := Aside0.mk (Below.refl w.heap.size w)
  obtain ⟨r, hr0⟩ : ∃ r, idxF s l 0 = r := ⟨_, rfl⟩
  have HR0 := Aside0.mk hr0
  rw [hr0]
  clear hs hz ha hr hr0
  go_enter Try.func106, Try.ntmps106
  go_wp2
  go_loopg [8] l.length (fun kx i wr => ∃ (j : Nat), i = .int .i64 j ∧ j ≤ l.length ∧ l.length - j ≤ kx ∧ Aside0 (idxF s (l.drop j) j = r) ∧ Aside0 (Below w.heap.size w wr))
  case atStart => exact ⟨0, rfl, Nat.zero_le _, by omega, ⟨by rw [List.drop_zero]; exact HR0.out⟩, HB0⟩
  case round =>
    clear HB0
    obtain ⟨j, rfl, hj, hjx, HI, HB⟩ := hrel
    by_cases hlt : j < l.length
    · have hi := HI.out
      rw [idxF_drop s l j hlt] at hi
      obtain ⟨ad, hAd, hx⟩ := Kd.at_string HR.out (j : Int) (by omega) (by omega)
      obtain rfl : A = some ad := hAd
      have hx' : w.cell? (ad.add j) = some (.string (l.getD j ByteArray.empty)) := hx
      replace hx' := (HB.out.cell (World.block_lt_of_cell? w _ hx')).trans hx'
      have ha' := (HB.out.cell (World.block_lt_of_cell? w _ HA.out)).trans HA.out
      have hz1 := HZ.out _ (getD_mem l j ByteArray.empty hlt)
      clear hx HI
      generalize l.getD j ByteArray.empty = p at hx' hz1 hi
      have hc := any_one s p HS.out hz1 wr a ha'
      have HI := Aside0.mk hi
      clear hi ha' hz1
      cases hh : hasB s p with
      | true =>
        rw [hh] at hc
        have HI2 := HI.out
        rw [if_pos hh] at HI2
        have HC := Aside0.mk hc
        subst HI2
        clear hc hh HI
        go_wp2_with (refine Calls.mono HC.out ?_; rintro e W2 ⟨rfl, hb⟩; have HB2 := Aside0.mk (below_step HB.out hb); clear hb)
        go_ret
        exact ⟨rfl, HB2.out⟩
      | false =>
        rw [hh] at hc
        have HI2 := HI.out
        rw [if_neg (by rw [hh]; decide)] at HI2
        have HC := Aside0.mk hc
        have HI3 := Aside0.mk HI2
        clear hc hh HI HI2
        go_wp2_with (refine Calls.mono HC.out ?_; rintro e W2 ⟨rfl, hb⟩; have HB2 := Aside0.mk (below_step HB.out hb); clear hb hx')
        go_roundg (l.length - (j + 1))
        case measure => omega
        case rel => exact ⟨j + 1, by go_num, by omega, Nat.le_refl _, HI3, HB2⟩
    · obtain rfl : j = l.length := by omega
      have hi := HI.out
      rw [List.drop_of_length_le (Nat.le_refl _)] at hi
      have hi : (-1 : Int) = r := hi
      subst hi
      go_wp2
      go_ret
      exact ⟨rfl, HB.out⟩
abbrev smallAny (l : List ByteArray) (s : ByteArray) : Prop := l.length ≤ 8796093022208 ∧ s.size ≤ 8796093022200 ∧ ∀ t ∈ l, t.size ≤ 8796093022200
def occ_Any.f (a0 : Option SetD) (a1 : ByteArray) : Option Bool := if smallAny (setL a0) a1 then some ((setL a0).any (hasB a1)) else none
set_option maxHeartbeats 4000000 in
set_option maxRecDepth 100000 in
theorem contains_any (s : ByteArray) (hs : s.size ≤ 8796093022200) (A : Option Addr) (c : Nat) (l : List ByteArray) (hl : l.length ≤ 8796093022208) (hz : ∀ t ∈ l, t.size ≤ 8796093022200) (w : World) (a : Addr) (ha : w.cell? a = some (.string s)) (hr : Kd.C Kd.string w A l.length l) :
    Calls Try.prog 72 #[.slice A l.length c, .func (.func 73) #[] #[.pointer (some a)]] w fun e w' => e = .returned (.bool (l.any (hasB s))) ∧ Below w.heap.size w w' := by
  have HC := Aside0.mk (index_any s hs A c l hl hz w a ha hr)
  have h1 := idxF_any s l 0
  have h2 := idxF_range s l 0
  clear hs hl hz ha hr
  generalize l.any (hasB s) = b at h1 ⊢
  generalize idxF s l 0 = r at HC h1 h2
  have hb : decide (0 ≤ r) = b := by
    cases b
    · exact decide_eq_false (fun h => by simpa using h1.1 h)
    · exact decide_eq_true (h1.2 rfl)
  subst hb
  clear h1
  go_enter Try.func72, Try.ntmps72
  go_wp2_with (go_at_call 106; refine HC.out.mono ?_; rintro e W2 ⟨rfl, hb⟩; have HB := Aside0.mk hb; clear hb)
  all_goals
    go_ret
    exact ⟨by simp, HB.out⟩
set_option maxHeartbeats 4000000 in
set_option maxRecDepth 100000 in
theorem occ_Any.calls (Pa0 : Option Addr) (a0 : Option SetD) (a1 : ByteArray) (r : Bool) (w : World) (ho : OB K90 w Pa0 a0) (h : occ_Any.f a0 a1 = some r) :
    Calls Try.prog 29 #[.pointer Pa0, .string a1] w fun e w' => e = .returned (.bool r) ∧ Below w.heap.size w w' := by
  unfold occ_Any.f at h
  by_cases hs : smallAny (setL a0) a1
  rotate_left
  · rw [if_neg hs] at h; cases h
  rw [if_pos hs] at h
  have HO := Aside0.mk ho
  have hLi := fun W (g : OB K90 W Pa0 a0) => pats_Set_List.calls Pa0 a0 (setL a0) W g (by
    cases a0 with
    | none => rfl
    | some d => show (if d.l.length ≤ 8796093022208 then some d.l else none) = _; rw [if_pos (show d.l.length ≤ 8796093022208 from hs.1)]; rfl)
  generalize setL a0 = l at h hs hLi
  obtain ⟨h1, h2, h3⟩ := hs
  obtain rfl := Option.some.inj h
  have HLI := Aside0.mk hLi
  have H1 := Aside0.mk h1
  have H2 := Aside0.mk h2
  have H3 := Aside0.mk h3
  clear h ho hLi h1 h2 h3
  obtain ⟨b, hb⟩ : ∃ b, l.any (hasB a1) = b := ⟨_, rfl⟩
  rw [hb]
  have HBb := Aside0.mk hb
  clear hb
  have hc0 : (w.alloc (.cells #[.string a1] 9 (0, 0))).cell? ⟨w.heap.size, 0, none⟩ = some (.string a1) := by go_simp
  have HC0 := Aside0.mk hc0
  have HB0 := Aside0.mk ((Below.refl w.heap.size w).alloc (Nat.le_refl _) (.cells #[.string a1] 9 (0, 0)))
  have HO0 := Aside0.mk (OB.below ((Below.refl w.heap.size w).alloc (Nat.le_refl _) (.cells #[.string a1] 9 (0, 0))) HO.out)
  clear hc0
  go_enter Try.func29, Try.ntmps29
  go_wp2_with (first | (go_at_call 22; refine (HLI.out _ HO0.out).mono ?_; rintro e W1 ⟨v, rfl, hR, hb⟩; have HB1 := Aside0.mk hb; obtain ⟨A, c, rfl⟩ := Kd.R_slice hR; have HR := Aside0.mk hR; have HCC := Aside0.mk ((hb.cell (World.block_lt_of_cell? _ _ HC0.out)).trans HC0.out); clear hb hR) | (go_at_call 72; refine (contains_any a1 H2.out A c l H1.out H3.out _ _ HCC.out (Kd.R_reads' HR.out).2.2).mono ?_; rw [HBb.out]; rintro e W2 ⟨rfl, hb⟩; have HB2 := Aside0.mk hb; clear hb))
  go_ret
  exact ⟨rfl, (HB0.out.trans (HB1.out.mono (Nat.le_of_lt (by simp)))).trans (HB2.out.mono (Nat.le_trans (Nat.le_of_lt (by simp)) HB1.out.size))⟩

end Go.Proofs.Ytekdmkdidnnpbaa.P

/- Proved here: what Go functions of this seat compute, or a law of it; no condition beyond the statement's own. Written for this claim by a program of this session (wip/myprint.py) over the kit's print.py. -/
namespace Go.Proofs.Ytekdmkdidnnpbaa.P
open Go.RowKit Go.Proofs.YtekdmkdidnnpbaaW.PrintWords Go.Proofs.YtekdmkdidnnpbaaW.PrintLast Go.Proofs.YtekdmkdidnnpbaaW.PrintMore
attribute [local go_sem] max2_int min2_int max_two min_two max_three min_three max_four min_four   -- for this text's walks alone
set_option linter.unusedVariables false
set_option linter.unusedSimpArgs false

/-! ### juratlaw15_awake: function 13 -/
def juratlaw15_awake.f (k : Nat)  : Option (Bool) := (pats_New.f (([(⟨#[97]⟩ : ByteArray), (⟨#[97, 98, 97]⟩ : ByteArray)] : List ByteArray))).bind fun bt125 => (if bt125.2 = 0 then ((occ_All.f bt125.1 (⟨#[97, 98, 97, 98, 97]⟩ : ByteArray)).bind fun t128 => ((juratref15_Same.f k t128 (([(⟨1, 0⟩ : S23), (⟨3, 0⟩ : S23), (⟨3, 1⟩ : S23), (⟨5, 0⟩ : S23), (⟨5, 1⟩ : S23)] : List (S23)))).bind fun t134 => (if t134 = true then ((occ_Any.f bt125.1 (⟨#[120, 97]⟩ : ByteArray)).bind fun t135 => (some t135)) else (some false)))) else (some false))
theorem juratlaw15_awake.mono : ∀ k, LeO (juratlaw15_awake.f k ) (juratlaw15_awake.f (k + 1) ) := by
  intro  k
  unfold juratlaw15_awake.f
  repeat' first
      | (with_reducible exact juratref15_Same.mono _ _ _)
      | (with_reducible exact LeO.refl _)
      | (with_reducible exact LeO.none _)
      | (with_reducible refine LeO.ite ?_ ?_)
      | (with_reducible refine LeO.bind ?_ (fun _ => ?_))
      | exact juratref15_Same.mono _ _ _
      | exact LeO.none _
      | refine LeO.ite ?_ ?_
      | refine LeO.bind ?_ (fun _ => ?_)
set_option maxHeartbeats 8000000 in
set_option maxRecDepth 100000 in
theorem juratlaw15_awake.calls (k : Nat)  (r : Bool) (w : World) (h : juratlaw15_awake.f k  = some r) :
    Calls Try.prog 13 #[] w fun e w' => e = .returned (.bool r) ∧ Below w.heap.size w w' := by
  have hu23 := Try.underlying23
  have HB := Aside0.mk (Below.refl w.heap.size w)
  have H : ((pats_New.f (([(⟨#[97]⟩ : ByteArray), (⟨#[97, 98, 97]⟩ : ByteArray)] : List ByteArray))).bind fun bt125 => (if bt125.2 = 0 then ((occ_All.f bt125.1 (⟨#[97, 98, 97, 98, 97]⟩ : ByteArray)).bind fun t128 => ((juratref15_Same.f k t128 (([(⟨1, 0⟩ : S23), (⟨3, 0⟩ : S23), (⟨3, 1⟩ : S23), (⟨5, 0⟩ : S23), (⟨5, 1⟩ : S23)] : List (S23)))).bind fun t134 => (if t134 = true then ((occ_Any.f bt125.1 (⟨#[120, 97]⟩ : ByteArray)).bind fun t135 => (some t135)) else (some false)))) else (some false))) = some r := h
  clear h
  obtain ⟨y122, hy122⟩ : ∃ y_ : List ByteArray, y_ = (([(⟨#[97]⟩ : ByteArray), (⟨#[97, 98, 97]⟩ : ByteArray)] : List ByteArray)) := ⟨_, rfl⟩
  replace H : ((pats_New.f y122).bind fun bt125 => (if bt125.2 = 0 then ((occ_All.f bt125.1 (⟨#[97, 98, 97, 98, 97]⟩ : ByteArray)).bind fun t128 => ((juratref15_Same.f k t128 (([(⟨1, 0⟩ : S23), (⟨3, 0⟩ : S23), (⟨3, 1⟩ : S23), (⟨5, 0⟩ : S23), (⟨5, 1⟩ : S23)] : List (S23)))).bind fun t134 => (if t134 = true then ((occ_Any.f bt125.1 (⟨#[120, 97]⟩ : ByteArray)).bind fun t135 => (some t135)) else (some false)))) else (some false))) = some r := by first | (rw [hy122]; with_reducible exact H) | (have H2_ := (Option.bind_some _ _).symm.trans H; rw [hy122]; with_reducible exact H2_) | (have H2_ := (Option.bind_some _ _).symm.trans H; with_reducible exact H2_) | with_reducible exact H | (rw [hy122]; exact H) | exact H
  have Ny122 := Aside0.mk hy122
  clear hy122
  replace H := Option.bind_eq_some_iff.mp H
  obtain ⟨⟨t125, t126⟩, A10, H⟩ := H
  replace H : (if t126 = 0 then ((occ_All.f t125 (⟨#[97, 98, 97, 98, 97]⟩ : ByteArray)).bind fun t128 => ((juratref15_Same.f k t128 (([(⟨1, 0⟩ : S23), (⟨3, 0⟩ : S23), (⟨3, 1⟩ : S23), (⟨5, 0⟩ : S23), (⟨5, 1⟩ : S23)] : List (S23)))).bind fun t134 => (if t134 = true then ((occ_Any.f t125 (⟨#[120, 97]⟩ : ByteArray)).bind fun t135 => (some t135)) else (some false)))) else (some false)) = some r := H
  have A1 := Aside0.mk A10
  clear A10
  by_cases c2 : t126 = 0
  · rw [if_pos c2] at H
    have c2b0 : (t126 == 0) = true := beq_iff_eq.mpr c2
    have c2b1 : (t126 != 0) = false := bne_eq_false_iff_eq.mpr c2
    clear c2
    replace H := Option.bind_eq_some_iff.mp H
    obtain ⟨t128, A30, H⟩ := H
    replace H : ((juratref15_Same.f k t128 (([(⟨1, 0⟩ : S23), (⟨3, 0⟩ : S23), (⟨3, 1⟩ : S23), (⟨5, 0⟩ : S23), (⟨5, 1⟩ : S23)] : List (S23)))).bind fun t134 => (if t134 = true then ((occ_Any.f t125 (⟨#[120, 97]⟩ : ByteArray)).bind fun t135 => (some t135)) else (some false))) = some r := H
    have A3 := Aside0.mk A30
    clear A30
    obtain ⟨y131, hy131⟩ : ∃ y_ : List (S23), y_ = (([(⟨1, 0⟩ : S23), (⟨3, 0⟩ : S23), (⟨3, 1⟩ : S23), (⟨5, 0⟩ : S23), (⟨5, 1⟩ : S23)] : List (S23))) := ⟨_, rfl⟩
    replace H : ((juratref15_Same.f k t128 y131).bind fun t134 => (if t134 = true then ((occ_Any.f t125 (⟨#[120, 97]⟩ : ByteArray)).bind fun t135 => (some t135)) else (some false))) = some r := by first | (rw [hy131]; with_reducible exact H) | (have H2_ := (Option.bind_some _ _).symm.trans H; rw [hy131]; with_reducible exact H2_) | (have H2_ := (Option.bind_some _ _).symm.trans H; with_reducible exact H2_) | with_reducible exact H | (rw [hy131]; exact H) | exact H
    have Ny131 := Aside0.mk hy131
    clear hy131
    replace H := Option.bind_eq_some_iff.mp H
    obtain ⟨t134, A40, H⟩ := H
    replace H : (if t134 = true then ((occ_Any.f t125 (⟨#[120, 97]⟩ : ByteArray)).bind fun t135 => (some t135)) else (some false)) = some r := H
    have A4 := Aside0.mk A40
    clear A40
    by_cases c5 : t134 = true
    · subst c5
      have H1 : ((occ_Any.f t125 (⟨#[120, 97]⟩ : ByteArray)).bind fun t135 => (some t135)) = some r := by rw [if_pos rfl] at H; exact H
      clear H
      have H := H1
      clear H1
      replace H := Option.bind_eq_some_iff.mp H
      obtain ⟨t135, A60, H⟩ := H
      replace H : (some t135) = some r := H
      have A6 := Aside0.mk A60
      clear A60
      obtain rfl := Option.some.inj H
      go_enter Try.func13, Try.ntmps13
      go_wp2_with (first | ((with_reducible refine gate_dst (N := 4) rfl ?_); (try (refine gate_guard (by rfl) ?_; dsimp only)); refine Kd.R_lit Kd.string _ 9 ?hg (N := 4) ?hd (xs := ([(⟨#[97]⟩ : ByteArray), (⟨#[97, 98, 97]⟩ : ByteArray)] : List ByteArray)) (inner := [.string (⟨#[97]⟩ : ByteArray), .string (⟨#[97, 98, 97]⟩ : ByteArray)]) (ok := fun _ => True) (okp := fun _ => True) ?hr ?hp (fun _ hk => hk) trivial (Below.refl _ _) (Nat.le_refl _) (by simp) ?_; (case hd => rfl); (case hg => rfl); (case hr => first | (go_simp; done) | (go_simp; rfl)); (case hp => exact (Reps.one (show Kd.M Kd.string _ _ _ (⟨#[97]⟩ : ByteArray) [.string (⟨#[97]⟩ : ByteArray)] from rfl) (Reps.one (show Kd.M Kd.string _ _ _ (⟨#[97, 98, 97]⟩ : ByteArray) [.string (⟨#[97, 98, 97]⟩ : ByteArray)] from rfl) (Reps.none _ _)))); intro v123 w7 ho8 hb hg_ hnew_; clear hg_ hnew_; (first | rw [← Ny122.out] at ho8 | (simp only [Int.reduceToNat] at ho8; rw [← Ny122.out] at ho8)); have n0_ := Aside0.mk (Kd.R_lower ho8 (below_size (by repeat (first | (with_reducible first | exact HB.out | apply below_alloc | apply pw_below_drewN | apply below_drew1) | exact HB.out)))); have n1_ := Aside0.mk (below_step (by repeat (first | (with_reducible first | exact HB.out | apply below_alloc | apply pw_below_drewN | apply below_drew1) | exact HB.out)) hb); clear HB; have HO124 := n0_; have HB := n1_; clear n0_ n1_; clear hb ho8; obtain ⟨Ao9, co9, eo9⟩ := Kd.R_slice HO124.out; subst eo9) | ((with_reducible refine gate_callee (f := 19) rfl ?_); refine goesL_ (some 5) rfl rfl Try.func19 (by kernel_rfl) rfl #[.slice Ao9 y122.length co9] rfl (by (try simp only [List.map_toArray, List.map_cons, List.map_nil]); first | done | rfl | (simp only [List.length_drop, List.length_take]; rfl)) ?_; (with_reducible refine (pats_New.calls _ _ y122 t125 t126 _ ?side1 ?side2 A1.out).mono ?_); (case side1 => repeat (first | exact (Kd.R_reads' HO124.out).2.2 | (with_reducible refine Kd.C_alloc ?_ _) | (with_reducible refine Kd.C_drewN ?_ _) | (with_reducible refine Kd.C_drew ?_))); (case side2 => exact (Kd.R_reads' HO124.out).2.1); rintro e w10 ⟨Pt125, rfl, hob0, hb⟩; refine ⟨_, rfl, ?_⟩; have hbw_ := below_step (by repeat (first | (with_reducible first | exact HB.out | apply below_alloc | apply pw_below_drewN | apply below_drew1) | exact HB.out)) hb; obtain ⟨Ab127, cb127, eb127_, lb127_, gb127_⟩ := Kd.R_reads (Kd.R_below (by (with_reducible repeat (first | apply Kd.R_alloc | apply Kd.R_drewN | apply Kd.R_drew)); exact HO124.out) hb); (first | subst eb127_ | (injection eb127_ with f1_ f2_ f3_; have f4_ := f1_.symm; have f5_ := f3_.symm; clear f1_ f2_ f3_; subst f4_; subst f5_)); have HRb127 := Aside0.mk gb127_; have HCb127 := Aside0.mk lb127_; clear gb127_ lb127_; (try clear HO124); (first | (have n_ := Aside0.mk (HB00.out.trans (hbw_.mono HB00.out.size)); clear HB00; have HB00 := n_; clear n_) | have HB00 := Aside0.mk hbw_); clear HB hb hbw_; have HO_t125 := Aside0.mk hob0; clear hob0; obtain ⟨w, rfl⟩ : ∃ w_ : World, w_ = w10 := ⟨_, rfl⟩; have HB := Aside0.mk (Below.refl w.heap.size w)) | (go_at_call 20; (with_reducible refine (occ_All.calls _ t125 (⟨#[97, 98, 97, 98, 97]⟩ : ByteArray) t128 _ ?side1 A3.out).mono ?_); (case side1 => first | exact HO_t125.out | exact OB.drewN HO_t125.out _ | exact OB.below (by repeat (first | (with_reducible first | exact HB.out | apply below_alloc | apply pw_below_drewN | apply below_drew1) | exact HB.out)) HO_t125.out); rintro e w11 ⟨v129, rfl, ho0, hb⟩; have n0_ := Aside0.mk (Kd.R_lower ho0 (below_size (by repeat (first | (with_reducible first | exact HB.out | apply below_alloc | apply pw_below_drewN | apply below_drew1) | exact HB.out)))); have n1_ := Aside0.mk (below_step (by repeat (first | (with_reducible first | exact HB.out | apply below_alloc | apply pw_below_drewN | apply below_drew1) | exact HB.out)) hb); clear HB; have HO130 := n0_; have HB := n1_; clear n0_ n1_; (try clear hb); (try clear hb2); (try clear hk); (try clear hi); (try clear ho0)) | ((with_reducible refine gate_dst (N := 18) rfl ?_); (try (refine gate_guard (by rfl) ?_; dsimp only)); refine Kd.R_lit k23 _ 23 ?hg (N := 18) ?hd (xs := ([(⟨1, 0⟩ : S23), (⟨3, 0⟩ : S23), (⟨3, 1⟩ : S23), (⟨5, 0⟩ : S23), (⟨5, 1⟩ : S23)] : List (S23))) (inner := [.int .i64 1, .int .i64 0, .int .i64 3, .int .i64 0, .int .i64 3, .int .i64 1, .int .i64 5, .int .i64 0, .int .i64 5, .int .i64 1]) (ok := fun _ => True) (okp := fun _ => True) ?hr ?hp (fun _ hk => hk) trivial (Below.refl _ _) (Nat.le_refl _) (by simp) ?_; (case hd => rfl); (case hg => rfl); (case hr => first | (go_simp; done) | (go_simp; rfl)); (case hp => exact (Reps.c2 (show Kd.M k23 _ _ _ (⟨1, 0⟩ : S23) [.int .i64 1, .int .i64 0] from (k23_mkM _ _ _ (⟨1, 0⟩ : S23) )) (Reps.c2 (show Kd.M k23 _ _ _ (⟨3, 0⟩ : S23) [.int .i64 3, .int .i64 0] from (k23_mkM _ _ _ (⟨3, 0⟩ : S23) )) (Reps.c2 (show Kd.M k23 _ _ _ (⟨3, 1⟩ : S23) [.int .i64 3, .int .i64 1] from (k23_mkM _ _ _ (⟨3, 1⟩ : S23) )) (Reps.c2 (show Kd.M k23 _ _ _ (⟨5, 0⟩ : S23) [.int .i64 5, .int .i64 0] from (k23_mkM _ _ _ (⟨5, 0⟩ : S23) )) (Reps.c2 (show Kd.M k23 _ _ _ (⟨5, 1⟩ : S23) [.int .i64 5, .int .i64 1] from (k23_mkM _ _ _ (⟨5, 1⟩ : S23) )) (Reps.none _ _))))))); intro v132 w12 ho13 hb hg_ hnew_; clear hg_ hnew_; (first | rw [← Ny131.out] at ho13 | (simp only [Int.reduceToNat] at ho13; rw [← Ny131.out] at ho13)); have n0_ := Aside0.mk (Kd.R_elder' (by (with_reducible repeat (first | apply Kd.R_alloc | apply Kd.R_drewN | apply Kd.R_drew)); exact HO130.out) (Kd.R_base ho13) hb); have n1_ := Aside0.mk (Kd.R_lower (Kd.R_new' ho13 (Kd.R_lt (by (with_reducible repeat (first | apply Kd.R_alloc | apply Kd.R_drewN | apply Kd.R_drew)); exact HO130.out))) (below_size (by repeat (first | (with_reducible first | exact HB.out | apply below_alloc | apply pw_below_drewN | apply below_drew1) | exact HB.out)))); have n2_ := Aside0.mk (below_step (by repeat (first | (with_reducible first | exact HB.out | apply below_alloc | apply pw_below_drewN | apply below_drew1) | exact HB.out)) hb); clear HO130; clear HB; have HO130 := n0_; have HO133 := n1_; have HB := n2_; clear n0_ n1_ n2_; clear hb ho13; obtain ⟨Ao14, co14, eo14⟩ := Kd.R_slice HO130.out; subst eo14; obtain ⟨Ao15, co15, eo15⟩ := Kd.R_slice HO133.out; subst eo15) | (go_at_call 21; (with_reducible refine (juratref15_Same.calls k _ _ t128 _ _ y131 true _ ?side1 ?side2 ?side3 ?side4 A4.out).mono ?_); (case side1 => repeat (first | exact (Kd.R_reads' HO130.out).2.2 | (with_reducible refine Kd.C_alloc ?_ _) | (with_reducible refine Kd.C_drewN ?_ _) | (with_reducible refine Kd.C_drew ?_))); (case side2 => exact (Kd.R_reads' HO130.out).2.1); (case side3 => repeat (first | exact (Kd.R_reads' HO133.out).2.2 | (with_reducible refine Kd.C_alloc ?_ _) | (with_reducible refine Kd.C_drewN ?_ _) | (with_reducible refine Kd.C_drew ?_))); (case side4 => exact (Kd.R_reads' HO133.out).2.1); rintro e w' ⟨rfl, ⟨nd, rfl⟩⟩) | (go_at_call 29; (with_reducible refine (occ_Any.calls _ t125 (⟨#[120, 97]⟩ : ByteArray) t135 _ ?side1 A6.out).mono ?_); (case side1 => first | exact HO_t125.out | exact OB.drewN HO_t125.out _ | exact OB.below (by repeat (first | (with_reducible first | exact HB.out | apply below_alloc | apply pw_below_drewN | apply below_drew1) | exact HB.out)) HO_t125.out); rintro e w16 ⟨rfl, hb⟩; have n0_ := Aside0.mk (Kd.R_below (by (with_reducible repeat (first | apply Kd.R_alloc | apply Kd.R_drewN | apply Kd.R_drew)); exact HO130.out) hb); have n1_ := Aside0.mk (Kd.R_below (by (with_reducible repeat (first | apply Kd.R_alloc | apply Kd.R_drewN | apply Kd.R_drew)); exact HO133.out) hb); have n2_ := Aside0.mk (below_step (by repeat (first | (with_reducible first | exact HB.out | apply below_alloc | apply pw_below_drewN | apply below_drew1) | exact HB.out)) hb); clear HO130; clear HO133; clear HB; have HO130 := n0_; have HO133 := n1_; have HB := n2_; clear n0_ n1_ n2_; (try clear hb); (try clear hb2); (try clear hk); (try clear hi)))
      go_ret
      exact ⟨by first | rfl | (simp [errW_none, errW_some] <;> rfl) | (simp [*, errW_none, errW_some] <;> rfl), by first | (refine HB00.out.trans (Below.mono ?_ HB00.out.size); (repeat (first | (with_reducible first | exact HB.out | apply below_alloc | apply pw_below_drewN | apply below_drew1) | exact HB.out))) | (repeat (first | (with_reducible first | exact HB.out | apply below_alloc | apply pw_below_drewN | apply below_drew1) | exact HB.out))⟩
    · replace c5 := Bool.eq_false_iff.mpr c5
      subst c5
      have H1 : (some false) = some r := by rw [if_neg (show ¬ (false = true) by decide)] at H; exact H
      clear H
      have H := H1
      clear H1
      obtain rfl := Option.some.inj H
      go_enter Try.func13, Try.ntmps13
      go_wp2_with (first | ((with_reducible refine gate_dst (N := 4) rfl ?_); (try (refine gate_guard (by rfl) ?_; dsimp only)); refine Kd.R_lit Kd.string _ 9 ?hg (N := 4) ?hd (xs := ([(⟨#[97]⟩ : ByteArray), (⟨#[97, 98, 97]⟩ : ByteArray)] : List ByteArray)) (inner := [.string (⟨#[97]⟩ : ByteArray), .string (⟨#[97, 98, 97]⟩ : ByteArray)]) (ok := fun _ => True) (okp := fun _ => True) ?hr ?hp (fun _ hk => hk) trivial (Below.refl _ _) (Nat.le_refl _) (by simp) ?_; (case hd => rfl); (case hg => rfl); (case hr => first | (go_simp; done) | (go_simp; rfl)); (case hp => exact (Reps.one (show Kd.M Kd.string _ _ _ (⟨#[97]⟩ : ByteArray) [.string (⟨#[97]⟩ : ByteArray)] from rfl) (Reps.one (show Kd.M Kd.string _ _ _ (⟨#[97, 98, 97]⟩ : ByteArray) [.string (⟨#[97, 98, 97]⟩ : ByteArray)] from rfl) (Reps.none _ _)))); intro v123 w17 ho18 hb hg_ hnew_; clear hg_ hnew_; (first | rw [← Ny122.out] at ho18 | (simp only [Int.reduceToNat] at ho18; rw [← Ny122.out] at ho18)); have n0_ := Aside0.mk (Kd.R_lower ho18 (below_size (by repeat (first | (with_reducible first | exact HB.out | apply below_alloc | apply pw_below_drewN | apply below_drew1) | exact HB.out)))); have n1_ := Aside0.mk (below_step (by repeat (first | (with_reducible first | exact HB.out | apply below_alloc | apply pw_below_drewN | apply below_drew1) | exact HB.out)) hb); clear HB; have HO124 := n0_; have HB := n1_; clear n0_ n1_; clear hb ho18; obtain ⟨Ao19, co19, eo19⟩ := Kd.R_slice HO124.out; subst eo19) | ((with_reducible refine gate_callee (f := 19) rfl ?_); refine goesL_ (some 5) rfl rfl Try.func19 (by kernel_rfl) rfl #[.slice Ao19 y122.length co19] rfl (by (try simp only [List.map_toArray, List.map_cons, List.map_nil]); first | done | rfl | (simp only [List.length_drop, List.length_take]; rfl)) ?_; (with_reducible refine (pats_New.calls _ _ y122 t125 t126 _ ?side1 ?side2 A1.out).mono ?_); (case side1 => repeat (first | exact (Kd.R_reads' HO124.out).2.2 | (with_reducible refine Kd.C_alloc ?_ _) | (with_reducible refine Kd.C_drewN ?_ _) | (with_reducible refine Kd.C_drew ?_))); (case side2 => exact (Kd.R_reads' HO124.out).2.1); rintro e w20 ⟨Pt125, rfl, hob0, hb⟩; refine ⟨_, rfl, ?_⟩; have hbw_ := below_step (by repeat (first | (with_reducible first | exact HB.out | apply below_alloc | apply pw_below_drewN | apply below_drew1) | exact HB.out)) hb; obtain ⟨Ab127, cb127, eb127_, lb127_, gb127_⟩ := Kd.R_reads (Kd.R_below (by (with_reducible repeat (first | apply Kd.R_alloc | apply Kd.R_drewN | apply Kd.R_drew)); exact HO124.out) hb); (first | subst eb127_ | (injection eb127_ with f1_ f2_ f3_; have f4_ := f1_.symm; have f5_ := f3_.symm; clear f1_ f2_ f3_; subst f4_; subst f5_)); have HRb127 := Aside0.mk gb127_; have HCb127 := Aside0.mk lb127_; clear gb127_ lb127_; (try clear HO124); (try (have n_ := Aside0.mk (Kd.C_below HRb127.out hbw_); clear HRb127; have HRb127 := n_; clear n_)); (try (have n_ := Aside0.mk (OB.below hbw_ HO_t125.out); clear HO_t125; have HO_t125 := n_; clear n_)); (first | (have n_ := Aside0.mk (HB00.out.trans (hbw_.mono HB00.out.size)); clear HB00; have HB00 := n_; clear n_) | have HB00 := Aside0.mk hbw_); clear HB hb hbw_; have HO_t125 := Aside0.mk hob0; clear hob0; obtain ⟨w, rfl⟩ : ∃ w_ : World, w_ = w20 := ⟨_, rfl⟩; have HB := Aside0.mk (Below.refl w.heap.size w)) | (go_at_call 20; (with_reducible refine (occ_All.calls _ t125 (⟨#[97, 98, 97, 98, 97]⟩ : ByteArray) t128 _ ?side1 A3.out).mono ?_); (case side1 => first | exact HO_t125.out | exact OB.drewN HO_t125.out _ | exact OB.below (by repeat (first | (with_reducible first | exact HB.out | apply below_alloc | apply pw_below_drewN | apply below_drew1) | exact HB.out)) HO_t125.out); rintro e w21 ⟨v129, rfl, ho0, hb⟩; have n0_ := Aside0.mk (Kd.R_lower ho0 (below_size (by repeat (first | (with_reducible first | exact HB.out | apply below_alloc | apply pw_below_drewN | apply below_drew1) | exact HB.out)))); have n1_ := Aside0.mk (below_step (by repeat (first | (with_reducible first | exact HB.out | apply below_alloc | apply pw_below_drewN | apply below_drew1) | exact HB.out)) hb); clear HB; have HO130 := n0_; have HB := n1_; clear n0_ n1_; (try clear hb); (try clear hb2); (try clear hk); (try clear hi); (try clear ho0)) | ((with_reducible refine gate_dst (N := 18) rfl ?_); (try (refine gate_guard (by rfl) ?_; dsimp only)); refine Kd.R_lit k23 _ 23 ?hg (N := 18) ?hd (xs := ([(⟨1, 0⟩ : S23), (⟨3, 0⟩ : S23), (⟨3, 1⟩ : S23), (⟨5, 0⟩ : S23), (⟨5, 1⟩ : S23)] : List (S23))) (inner := [.int .i64 1, .int .i64 0, .int .i64 3, .int .i64 0, .int .i64 3, .int .i64 1, .int .i64 5, .int .i64 0, .int .i64 5, .int .i64 1]) (ok := fun _ => True) (okp := fun _ => True) ?hr ?hp (fun _ hk => hk) trivial (Below.refl _ _) (Nat.le_refl _) (by simp) ?_; (case hd => rfl); (case hg => rfl); (case hr => first | (go_simp; done) | (go_simp; rfl)); (case hp => exact (Reps.c2 (show Kd.M k23 _ _ _ (⟨1, 0⟩ : S23) [.int .i64 1, .int .i64 0] from (k23_mkM _ _ _ (⟨1, 0⟩ : S23) )) (Reps.c2 (show Kd.M k23 _ _ _ (⟨3, 0⟩ : S23) [.int .i64 3, .int .i64 0] from (k23_mkM _ _ _ (⟨3, 0⟩ : S23) )) (Reps.c2 (show Kd.M k23 _ _ _ (⟨3, 1⟩ : S23) [.int .i64 3, .int .i64 1] from (k23_mkM _ _ _ (⟨3, 1⟩ : S23) )) (Reps.c2 (show Kd.M k23 _ _ _ (⟨5, 0⟩ : S23) [.int .i64 5, .int .i64 0] from (k23_mkM _ _ _ (⟨5, 0⟩ : S23) )) (Reps.c2 (show Kd.M k23 _ _ _ (⟨5, 1⟩ : S23) [.int .i64 5, .int .i64 1] from (k23_mkM _ _ _ (⟨5, 1⟩ : S23) )) (Reps.none _ _))))))); intro v132 w22 ho23 hb hg_ hnew_; clear hg_ hnew_; (first | rw [← Ny131.out] at ho23 | (simp only [Int.reduceToNat] at ho23; rw [← Ny131.out] at ho23)); have n0_ := Aside0.mk (Kd.R_elder' (by (with_reducible repeat (first | apply Kd.R_alloc | apply Kd.R_drewN | apply Kd.R_drew)); exact HO130.out) (Kd.R_base ho23) hb); have n1_ := Aside0.mk (Kd.R_lower (Kd.R_new' ho23 (Kd.R_lt (by (with_reducible repeat (first | apply Kd.R_alloc | apply Kd.R_drewN | apply Kd.R_drew)); exact HO130.out))) (below_size (by repeat (first | (with_reducible first | exact HB.out | apply below_alloc | apply pw_below_drewN | apply below_drew1) | exact HB.out)))); have n2_ := Aside0.mk (below_step (by repeat (first | (with_reducible first | exact HB.out | apply below_alloc | apply pw_below_drewN | apply below_drew1) | exact HB.out)) hb); clear HO130; clear HB; have HO130 := n0_; have HO133 := n1_; have HB := n2_; clear n0_ n1_ n2_; clear hb ho23; obtain ⟨Ao24, co24, eo24⟩ := Kd.R_slice HO130.out; subst eo24; obtain ⟨Ao25, co25, eo25⟩ := Kd.R_slice HO133.out; subst eo25) | (go_at_call 21; (with_reducible refine (juratref15_Same.calls k _ _ t128 _ _ y131 false _ ?side1 ?side2 ?side3 ?side4 A4.out).mono ?_); (case side1 => repeat (first | exact (Kd.R_reads' HO130.out).2.2 | (with_reducible refine Kd.C_alloc ?_ _) | (with_reducible refine Kd.C_drewN ?_ _) | (with_reducible refine Kd.C_drew ?_))); (case side2 => exact (Kd.R_reads' HO130.out).2.1); (case side3 => repeat (first | exact (Kd.R_reads' HO133.out).2.2 | (with_reducible refine Kd.C_alloc ?_ _) | (with_reducible refine Kd.C_drewN ?_ _) | (with_reducible refine Kd.C_drew ?_))); (case side4 => exact (Kd.R_reads' HO133.out).2.1); rintro e w' ⟨rfl, ⟨nd, rfl⟩⟩))
      go_ret
      exact ⟨by first | rfl | (simp [errW_none, errW_some] <;> rfl) | (simp [*, errW_none, errW_some] <;> rfl), by first | (refine HB00.out.trans (Below.mono ?_ HB00.out.size); (repeat (first | (with_reducible first | exact HB.out | apply below_alloc | apply pw_below_drewN | apply below_drew1) | exact HB.out))) | (repeat (first | (with_reducible first | exact HB.out | apply below_alloc | apply pw_below_drewN | apply below_drew1) | exact HB.out))⟩
  · rw [if_neg c2] at H
    have c2b0 : (t126 == 0) = false := beq_eq_false_iff_ne.mpr c2
    have c2b1 : (t126 != 0) = true := bne_iff_ne.mpr c2
    obtain rfl := Option.some.inj H
    go_enter Try.func13, Try.ntmps13
    go_wp2_with (first | ((with_reducible refine gate_dst (N := 4) rfl ?_); (try (refine gate_guard (by rfl) ?_; dsimp only)); refine Kd.R_lit Kd.string _ 9 ?hg (N := 4) ?hd (xs := ([(⟨#[97]⟩ : ByteArray), (⟨#[97, 98, 97]⟩ : ByteArray)] : List ByteArray)) (inner := [.string (⟨#[97]⟩ : ByteArray), .string (⟨#[97, 98, 97]⟩ : ByteArray)]) (ok := fun _ => True) (okp := fun _ => True) ?hr ?hp (fun _ hk => hk) trivial (Below.refl _ _) (Nat.le_refl _) (by simp) ?_; (case hd => rfl); (case hg => rfl); (case hr => first | (go_simp; done) | (go_simp; rfl)); (case hp => exact (Reps.one (show Kd.M Kd.string _ _ _ (⟨#[97]⟩ : ByteArray) [.string (⟨#[97]⟩ : ByteArray)] from rfl) (Reps.one (show Kd.M Kd.string _ _ _ (⟨#[97, 98, 97]⟩ : ByteArray) [.string (⟨#[97, 98, 97]⟩ : ByteArray)] from rfl) (Reps.none _ _)))); intro v123 w26 ho27 hb hg_ hnew_; clear hg_ hnew_; (first | rw [← Ny122.out] at ho27 | (simp only [Int.reduceToNat] at ho27; rw [← Ny122.out] at ho27)); have n0_ := Aside0.mk (Kd.R_lower ho27 (below_size (by repeat (first | (with_reducible first | exact HB.out | apply below_alloc | apply pw_below_drewN | apply below_drew1) | exact HB.out)))); have n1_ := Aside0.mk (below_step (by repeat (first | (with_reducible first | exact HB.out | apply below_alloc | apply pw_below_drewN | apply below_drew1) | exact HB.out)) hb); clear HB; have HO124 := n0_; have HB := n1_; clear n0_ n1_; clear hb ho27; obtain ⟨Ao28, co28, eo28⟩ := Kd.R_slice HO124.out; subst eo28) | ((with_reducible refine gate_callee (f := 19) rfl ?_); refine goesL_ (some 5) rfl rfl Try.func19 (by kernel_rfl) rfl #[.slice Ao28 y122.length co28] rfl (by (try simp only [List.map_toArray, List.map_cons, List.map_nil]); first | done | rfl | (simp only [List.length_drop, List.length_take]; rfl)) ?_; (with_reducible refine (pats_New.calls _ _ y122 t125 t126 _ ?side1 ?side2 A1.out).mono ?_); (case side1 => repeat (first | exact (Kd.R_reads' HO124.out).2.2 | (with_reducible refine Kd.C_alloc ?_ _) | (with_reducible refine Kd.C_drewN ?_ _) | (with_reducible refine Kd.C_drew ?_))); (case side2 => exact (Kd.R_reads' HO124.out).2.1); rintro e w29 ⟨Pt125, rfl, hob0, hb⟩; refine ⟨_, rfl, ?_⟩; have hbw_ := below_step (by repeat (first | (with_reducible first | exact HB.out | apply below_alloc | apply pw_below_drewN | apply below_drew1) | exact HB.out)) hb; obtain ⟨Ab127, cb127, eb127_, lb127_, gb127_⟩ := Kd.R_reads (Kd.R_below (by (with_reducible repeat (first | apply Kd.R_alloc | apply Kd.R_drewN | apply Kd.R_drew)); exact HO124.out) hb); (first | subst eb127_ | (injection eb127_ with f1_ f2_ f3_; have f4_ := f1_.symm; have f5_ := f3_.symm; clear f1_ f2_ f3_; subst f4_; subst f5_)); have HRb127 := Aside0.mk gb127_; have HCb127 := Aside0.mk lb127_; clear gb127_ lb127_; (try clear HO124); (try (have n_ := Aside0.mk (Kd.C_below HRb127.out hbw_); clear HRb127; have HRb127 := n_; clear n_)); (try (have n_ := Aside0.mk (OB.below hbw_ HO_t125.out); clear HO_t125; have HO_t125 := n_; clear n_)); (first | (have n_ := Aside0.mk (HB00.out.trans (hbw_.mono HB00.out.size)); clear HB00; have HB00 := n_; clear n_) | have HB00 := Aside0.mk hbw_); clear HB hb hbw_; have HO_t125 := Aside0.mk hob0; clear hob0; obtain ⟨w, rfl⟩ : ∃ w_ : World, w_ = w29 := ⟨_, rfl⟩; have HB := Aside0.mk (Below.refl w.heap.size w)))
    go_ret
    exact ⟨by first | rfl | (simp [errW_none, errW_some] <;> rfl) | (simp [*, errW_none, errW_some] <;> rfl), by first | (refine HB00.out.trans (Below.mono ?_ HB00.out.size); (repeat (first | (with_reducible first | exact HB.out | apply below_alloc | apply pw_below_drewN | apply below_drew1) | exact HB.out))) | (repeat (first | (with_reducible first | exact HB.out | apply below_alloc | apply pw_below_drewN | apply below_drew1) | exact HB.out))⟩

end Go.Proofs.Ytekdmkdidnnpbaa.P

/- Proved here: what Go functions of this seat compute, or a law of it; no condition beyond the statement's own. Written for this claim by a program of this session (wip/myprint.py) over the kit's print.py. -/
namespace Go.Proofs.Ytekdmkdidnnpbaa.P
open Go.RowKit Go.Proofs.YtekdmkdidnnpbaaW.PrintWords Go.Proofs.YtekdmkdidnnpbaaW.PrintLast Go.Proofs.YtekdmkdidnnpbaaW.PrintMore
attribute [local go_sem] max2_int min2_int max_two min_two max_three min_three max_four min_four   -- for this text's walks alone
set_option linter.unusedVariables false
set_option linter.unusedSimpArgs false

/-! ### juratref09_Few: function 18 -/
def juratref09_Few.l0 : Nat → List ByteArray → Int → Int → Option (Bool)
  | 0, _, _, _ => none
  | k + 1, x0, x2, x7 => if x7 < (x0.length : Int) then (if 0 ≤ x7 then (if ((rdOf ByteArray.empty x0 x7).size : Int) > x2 then (some false) else (juratref09_Few.l0 k x0 x2 (wrap64 (x7 + 1)))) else (none)) else (some true)
def juratref09_Few.f (k : Nat) (l0 : List ByteArray) (a1 : Int) (a2 : Int) : Option (Bool) := if (l0.length : Int) > a1 then (some false) else (juratref09_Few.l0 k l0 a2 0)
theorem juratref09_Few.mono_l : ∀ k, (∀ y0 y1 y2, LeO (juratref09_Few.l0 k y0 y1 y2) (juratref09_Few.l0 (k + 1) y0 y1 y2))
  | 0 => fun _ _ _ r h => by simp [juratref09_Few.l0] at h
  | k + 1 => by
    have ih0 := juratref09_Few.mono_l k
    · intro y0 y1 y2
      unfold juratref09_Few.l0
      repeat' first
      | (with_reducible exact ih0 _ _ _)
      | (with_reducible exact LeO.refl _)
      | (with_reducible exact LeO.none _)
      | (with_reducible refine LeO.ite ?_ ?_)
      | (with_reducible refine LeO.bind ?_ (fun _ => ?_))
      | exact ih0 _ _ _
      | exact LeO.none _
      | refine LeO.ite ?_ ?_
      | refine LeO.bind ?_ (fun _ => ?_)
theorem juratref09_Few.mono : ∀ a0 a1 a2 k, LeO (juratref09_Few.f k a0 a1 a2) (juratref09_Few.f (k + 1) a0 a1 a2) := by
  intro a0 a1 a2 k
  have ih0 := juratref09_Few.mono_l k
  unfold juratref09_Few.f
  repeat' first
      | (with_reducible exact ih0 _ _ _)
      | (with_reducible exact LeO.refl _)
      | (with_reducible exact LeO.none _)
      | (with_reducible refine LeO.ite ?_ ?_)
      | (with_reducible refine LeO.bind ?_ (fun _ => ?_))
      | exact ih0 _ _ _
      | exact LeO.none _
      | refine LeO.ite ?_ ?_
      | refine LeO.bind ?_ (fun _ => ?_)
set_option maxHeartbeats 8000000 in
set_option maxRecDepth 100000 in
theorem juratref09_Few.calls (k : Nat) (A0 : Option Addr) (c0 : Nat) (l0 : List ByteArray) (a1 : Int) (a2 : Int) (r : Bool) (w : World) (hr0 : Kd.C Kd.string w A0 l0.length l0) (hc0 : l0.length ≤ c0) (h : juratref09_Few.f k l0 a1 a2 = some r) :
    Calls Try.prog 18 #[.slice A0 l0.length c0, .int .i64 a1, .int .i64 a2] w fun e w' => e = .returned (.bool r) ∧ Drawn0 w w' := by
  have HR0 := Aside0.mk hr0
  have HC0 := Aside0.mk hc0
  clear hr0 hc0
  have H : (if (l0.length : Int) > a1 then (some false) else (juratref09_Few.l0 k l0 a2 0)) = some r := h
  clear h
  by_cases c4 : (l0.length : Int) > a1
  · rw [if_pos c4] at H
    have c4b0 : decide (a1 < (l0.length : Int)) = true := decide_eq_true c4
    clear c4
    obtain rfl := Option.some.inj H
    go_enter Try.func18, Try.ntmps18
    go_wp2
    go_ret
    exact ⟨by first | rfl | (simp; done) | (simp [*]; done), by repeat (first | exact Drawn0.refl _ | apply Drawn0.step)⟩
  · rw [if_neg c4] at H
    have c4b0 : decide (a1 < (l0.length : Int)) = false := decide_eq_false c4
    clear c4
    have H' := Aside0.mk H
    clear H
    go_enter Try.func18, Try.ntmps18
    go_wp2
    go_loopg [7] k (fun kq v7 w' => ∃ (x7_1 : Int), v7 = .int .i64 x7_1 ∧ Aside0 (juratref09_Few.l0 kq l0 a2 x7_1 = some r) ∧ Aside0 (kq ≤ k) ∧ Drawn0 w w')
    case atStart => exact ⟨(0), (by first | rfl | exact isE_ _ | exact isE2_ _ | (simp; done) | (simp [*]; done)), H', ⟨Nat.le_refl _⟩, by repeat (first | exact Drawn0.refl _ | apply Drawn0.step)⟩
    case round =>
      clear H'
      try clear c1
      try clear p2
      try clear c4
      try clear c4b0
      obtain ⟨x7_1, rfl, HA, HK1, ⟨m1, rfl⟩⟩ := hrel
      cases gk with
      | zero => exact absurd HA.out (by simp [juratref09_Few.l0])
      | succ k1 =>
        have H := HA.out
        clear HA
        simp only [juratref09_Few.l0] at H
        by_cases c5 : x7_1 < (l0.length : Int)
        · rw [if_pos c5] at H
          have c5b0 : decide (x7_1 < (l0.length : Int)) = true := decide_eq_true c5
          clear c5
          by_cases c6 : 0 ≤ x7_1
          · rw [if_pos c6] at H
            have c6b0 : decide (0 ≤ x7_1) = true := decide_eq_true c6
            clear c6
            by_cases c7 : ((rdOf ByteArray.empty l0 x7_1).size : Int) > a2
            · rw [if_pos c7] at H
              have c7b0 : decide (a2 < ((rdOf ByteArray.empty l0 x7_1).size : Int)) = true := decide_eq_true c7
              clear c7
              obtain rfl := Option.some.inj H
              have p152 : 0 ≤ (x7_1 : Int) := of_decide_eq_true (by first | (with_reducible assumption) | assumption)
              have q152 : x7_1 < (l0.length : Int) := of_decide_eq_true (by first | (with_reducible assumption) | assumption)
              obtain ⟨ad152, e152, hx152_0⟩ := Kd.at_string HR0.out x7_1 p152 q152
              cases e152
              replace p152 := eq_true p152
              replace q152 := eq_true q152
              go_wp2
              go_ret
              exact ⟨by first | rfl | (simp; done) | (simp [*]; done), by repeat (first | exact Drawn0.refl _ | apply Drawn0.step)⟩
            · rw [if_neg c7] at H
              have c7b0 : decide (a2 < ((rdOf ByteArray.empty l0 x7_1).size : Int)) = false := decide_eq_false c7
              clear c7
              have H' := Aside0.mk H
              clear H
              have p152 : 0 ≤ (x7_1 : Int) := of_decide_eq_true (by first | (with_reducible assumption) | assumption)
              have q152 : x7_1 < (l0.length : Int) := of_decide_eq_true (by first | (with_reducible assumption) | assumption)
              obtain ⟨ad152, e152, hx152_0⟩ := Kd.at_string HR0.out x7_1 p152 q152
              cases e152
              replace p152 := eq_true p152
              replace q152 := eq_true q152
              go_wp2
              go_roundg k1
              case measure => have := HK1.out; omega
              case rel => exact ⟨(wrap64 (x7_1 + 1)), (by first | rfl | exact isE_ _ | exact isE2_ _ | (simp; done) | (simp [*]; done)), H', ⟨by have := HK1.out; omega⟩, by repeat (first | exact Drawn0.refl _ | apply Drawn0.step)⟩
          · rw [if_neg c6] at H
            exact absurd H (by simp)
        · rw [if_neg c5] at H
          have c5b0 : decide (x7_1 < (l0.length : Int)) = false := decide_eq_false c5
          clear c5
          obtain rfl := Option.some.inj H
          go_wp2
          go_ret
          exact ⟨by first | rfl | (simp; done) | (simp [*]; done), by repeat (first | exact Drawn0.refl _ | apply Drawn0.step)⟩

end Go.Proofs.Ytekdmkdidnnpbaa.P

/- Proved here: what Go functions of this seat compute, or a law of it; no condition beyond the statement's own. Written for this claim by a program of this session (wip/myprint.py) over the kit's print.py. -/
namespace Go.Proofs.Ytekdmkdidnnpbaa.P
open Go.RowKit Go.Proofs.YtekdmkdidnnpbaaW.PrintWords Go.Proofs.YtekdmkdidnnpbaaW.PrintLast Go.Proofs.YtekdmkdidnnpbaaW.PrintMore
attribute [local go_sem] max2_int min2_int max_two min_two max_three min_three max_four min_four   -- for this text's walks alone
set_option linter.unusedVariables false
set_option linter.unusedSimpArgs false

/-! ### juratlaw15_OccGrows: function 4 -/
mutual
def juratlaw15_OccGrows.j0 : Nat → List ByteArray → ByteArray → ByteArray → Bool → Option (Bool)
  | 0, _, _, _, _ => none
  | k + 1, x0, x1, x2, x28 => if x28 = true then ((juratlaw15_awake.f k).bind fun t154 => (some t154)) else ((pats_New.f x0).bind fun bt155 => ((occ_All.f bt155.1 x1).bind fun t157 => (if x1.size + x2.size ≤ 9223372036854775807 then ((occ_All.f bt155.1 (x1 ++ x2)).bind fun t160 => (if (t157.length : Int) > (t160.length : Int) then (juratlaw15_OccGrows.j1 k x1 bt155.1 t157 true) else (if 0 ≤ (t157.length : Int) then (if (t157.length : Int) ≤ (t160.length : Int) then ((juratref15_Same.f k t157 (t160.take ((t157.length : Int) : Int).toNat)).bind fun t167 => (if t167 = true then ((occ_Rising.f k t160).bind fun t168 => (if t168 = true then (if (t160.length : Int) > (t157.length : Int) then (if (t157.length : Int) < (t160.length : Int) then (juratlaw15_OccGrows.j1 k x1 bt155.1 t157 (decide (((rd_T23 t160 (t157.length : Int)).f0) ≤ (x1.size : Int)))) else (none)) else (juratlaw15_OccGrows.j1 k x1 bt155.1 t157 false)) else (juratlaw15_OccGrows.j1 k x1 bt155.1 t157 true))) else (juratlaw15_OccGrows.j1 k x1 bt155.1 t157 true))) else (none)) else (none)))) else (none))))
def juratlaw15_OccGrows.j1 : Nat → ByteArray → Option D90 → List (S23) → Bool → Option (Bool)
  | 0, _, _, _, _ => none
  | k + 1, x1, x7, x9, x79 => if x79 = true then (some false) else ((pats_Set_List.f x7).bind fun t170 => (if (t170.length : Int) < 2 then ((juratlaw15_awake.f k).bind fun t173 => (some t173)) else (if 0 ≤ (wrap64 ((t170.length : Int) - 1)) then (if (wrap64 ((t170.length : Int) - 1)) ≤ (t170.length : Int) then ((pats_New.f (t170.take ((wrap64 ((t170.length : Int) - 1)) : Int).toNat)).bind fun bt178 => (juratlaw15_OccGrows.l0 k x1 x9 t170 bt178.1 bt178.2 ([] : List (S23)) 0)) else (none)) else (none))))
def juratlaw15_OccGrows.l0 : Nat → ByteArray → List (S23) → List ByteArray → Option D90 → Int → List (S23) → Int → Option (Bool)
  | 0, _, _, _, _, _, _, _ => none
  | k + 1, x1, x9, x11, x12, x13, x14, x15 => if x15 < (x9.length : Int) then (if 0 ≤ x15 then (if ((rd_T23 x9 x15).f1) < (wrap64 ((x11.length : Int) - 1)) then (if x14.length < 8796093022208 then (juratlaw15_OccGrows.l0 k x1 x9 x11 x12 x13 (x14 ++ [(⟨(rd_T23 x9 x15).f0, (rd_T23 x9 x15).f1⟩ : S23)]) (wrap64 (x15 + 1))) else (none)) else (juratlaw15_OccGrows.l0 k x1 x9 x11 x12 x13 x14 (wrap64 (x15 + 1)))) else (none)) else (if x13 = 0 then ((occ_All.f x12 x1).bind fun t192 => ((juratref15_Same.f k t192 x14).bind fun t195 => (if t195 = true then ((juratlaw15_awake.f k).bind fun t196 => (some t196)) else (some false)))) else (some false))
end
def juratlaw15_OccGrows.f (k : Nat) (l0 : List ByteArray) (a1 : ByteArray) (a2 : ByteArray) : Option (Bool) := (juratref09_Few.f k l0 12 20).bind fun t153 => (if t153 = true then (if (a1.size : Int) > 100 then (juratlaw15_OccGrows.j0 k l0 a1 a2 true) else (juratlaw15_OccGrows.j0 k l0 a1 a2 (decide ((a2.size : Int) > 100)))) else (juratlaw15_OccGrows.j0 k l0 a1 a2 true))
theorem juratlaw15_OccGrows.mono_l : ∀ k, (∀ y0 y1 y2 y3, LeO (juratlaw15_OccGrows.j0 k y0 y1 y2 y3) (juratlaw15_OccGrows.j0 (k + 1) y0 y1 y2 y3)) ∧ (∀ y0 y1 y2 y3, LeO (juratlaw15_OccGrows.j1 k y0 y1 y2 y3) (juratlaw15_OccGrows.j1 (k + 1) y0 y1 y2 y3)) ∧ (∀ y0 y1 y2 y3 y4 y5 y6, LeO (juratlaw15_OccGrows.l0 k y0 y1 y2 y3 y4 y5 y6) (juratlaw15_OccGrows.l0 (k + 1) y0 y1 y2 y3 y4 y5 y6))
  | 0 => ⟨fun _ _ _ _ r h => by simp [juratlaw15_OccGrows.j0] at h, fun _ _ _ _ r h => by simp [juratlaw15_OccGrows.j1] at h, fun _ _ _ _ _ _ _ r h => by simp [juratlaw15_OccGrows.l0] at h⟩
  | k + 1 => by
    obtain ⟨ih0, ih1, ih2⟩ := juratlaw15_OccGrows.mono_l k
    refine ⟨?_, ?_, ?_⟩
    · intro y0 y1 y2 y3
      unfold juratlaw15_OccGrows.j0
      repeat' first
      | (with_reducible exact ih0 _ _ _ _)
      | (with_reducible exact ih1 _ _ _ _)
      | (with_reducible exact ih2 _ _ _ _ _ _ _)
      | (with_reducible exact juratlaw15_awake.mono _)
      | (with_reducible exact juratref09_Few.mono _ _ _ _)
      | (with_reducible exact juratref15_Same.mono _ _ _)
      | (with_reducible exact occ_Rising.mono _ _)
      | (with_reducible exact LeO.refl _)
      | (with_reducible exact LeO.none _)
      | (with_reducible refine LeO.ite ?_ ?_)
      | (with_reducible refine LeO.bind ?_ (fun _ => ?_))
      | exact ih0 _ _ _ _
      | exact ih1 _ _ _ _
      | exact ih2 _ _ _ _ _ _ _
      | exact juratlaw15_awake.mono _
      | exact juratref09_Few.mono _ _ _ _
      | exact juratref15_Same.mono _ _ _
      | exact occ_Rising.mono _ _
      | exact LeO.none _
      | refine LeO.ite ?_ ?_
      | refine LeO.bind ?_ (fun _ => ?_)
    · intro y0 y1 y2 y3
      unfold juratlaw15_OccGrows.j1
      repeat' first
      | (with_reducible exact ih0 _ _ _ _)
      | (with_reducible exact ih1 _ _ _ _)
      | (with_reducible exact ih2 _ _ _ _ _ _ _)
      | (with_reducible exact juratlaw15_awake.mono _)
      | (with_reducible exact juratref09_Few.mono _ _ _ _)
      | (with_reducible exact juratref15_Same.mono _ _ _)
      | (with_reducible exact occ_Rising.mono _ _)
      | (with_reducible exact LeO.refl _)
      | (with_reducible exact LeO.none _)
      | (with_reducible refine LeO.ite ?_ ?_)
      | (with_reducible refine LeO.bind ?_ (fun _ => ?_))
      | exact ih0 _ _ _ _
      | exact ih1 _ _ _ _
      | exact ih2 _ _ _ _ _ _ _
      | exact juratlaw15_awake.mono _
      | exact juratref09_Few.mono _ _ _ _
      | exact juratref15_Same.mono _ _ _
      | exact occ_Rising.mono _ _
      | exact LeO.none _
      | refine LeO.ite ?_ ?_
      | refine LeO.bind ?_ (fun _ => ?_)
    · intro y0 y1 y2 y3 y4 y5 y6
      unfold juratlaw15_OccGrows.l0
      repeat' first
      | (with_reducible exact ih0 _ _ _ _)
      | (with_reducible exact ih1 _ _ _ _)
      | (with_reducible exact ih2 _ _ _ _ _ _ _)
      | (with_reducible exact juratlaw15_awake.mono _)
      | (with_reducible exact juratref09_Few.mono _ _ _ _)
      | (with_reducible exact juratref15_Same.mono _ _ _)
      | (with_reducible exact occ_Rising.mono _ _)
      | (with_reducible exact LeO.refl _)
      | (with_reducible exact LeO.none _)
      | (with_reducible refine LeO.ite ?_ ?_)
      | (with_reducible refine LeO.bind ?_ (fun _ => ?_))
      | exact ih0 _ _ _ _
      | exact ih1 _ _ _ _
      | exact ih2 _ _ _ _ _ _ _
      | exact juratlaw15_awake.mono _
      | exact juratref09_Few.mono _ _ _ _
      | exact juratref15_Same.mono _ _ _
      | exact occ_Rising.mono _ _
      | exact LeO.none _
      | refine LeO.ite ?_ ?_
      | refine LeO.bind ?_ (fun _ => ?_)
theorem juratlaw15_OccGrows.mono : ∀ a0 a1 a2 k, LeO (juratlaw15_OccGrows.f k a0 a1 a2) (juratlaw15_OccGrows.f (k + 1) a0 a1 a2) := by
  intro a0 a1 a2 k
  obtain ⟨ih0, ih1, ih2⟩ := juratlaw15_OccGrows.mono_l k
  unfold juratlaw15_OccGrows.f
  repeat' first
      | (with_reducible exact ih0 _ _ _ _)
      | (with_reducible exact ih1 _ _ _ _)
      | (with_reducible exact ih2 _ _ _ _ _ _ _)
      | (with_reducible exact juratlaw15_awake.mono _)
      | (with_reducible exact juratref09_Few.mono _ _ _ _)
      | (with_reducible exact juratref15_Same.mono _ _ _)
      | (with_reducible exact occ_Rising.mono _ _)
      | (with_reducible exact LeO.refl _)
      | (with_reducible exact LeO.none _)
      | (with_reducible refine LeO.ite ?_ ?_)
      | (with_reducible refine LeO.bind ?_ (fun _ => ?_))
      | exact ih0 _ _ _ _
      | exact ih1 _ _ _ _
      | exact ih2 _ _ _ _ _ _ _
      | exact juratlaw15_awake.mono _
      | exact juratref09_Few.mono _ _ _ _
      | exact juratref15_Same.mono _ _ _
      | exact occ_Rising.mono _ _
      | exact LeO.none _
      | refine LeO.ite ?_ ?_
      | refine LeO.bind ?_ (fun _ => ?_)
set_option maxHeartbeats 8000000 in
set_option maxRecDepth 100000 in
theorem juratlaw15_OccGrows.calls (k : Nat) (A0 : Option Addr) (c0 : Nat) (l0 : List ByteArray) (a1 : ByteArray) (a2 : ByteArray) (r : Bool) (w : World) (hr0 : Kd.C Kd.string w A0 l0.length l0) (hc0 : l0.length ≤ c0) (h : juratlaw15_OccGrows.f k l0 a1 a2 = some r) :
    Calls Try.prog 4 #[.slice A0 l0.length c0, .string a1, .string a2] w fun e w' => e = .returned (.bool r) ∧ Below w.heap.size w w' := by
  have hu23 := Try.underlying23
  have HR0 := Aside0.mk hr0
  have HC0 := Aside0.mk hc0
  clear hr0 hc0
  have HB := Aside0.mk (Below.refl w.heap.size w)
  have H : ((juratref09_Few.f k l0 12 20).bind fun t153 => (if t153 = true then (if (a1.size : Int) > 100 then (juratlaw15_OccGrows.j0 k l0 a1 a2 true) else (juratlaw15_OccGrows.j0 k l0 a1 a2 (decide ((a2.size : Int) > 100)))) else (juratlaw15_OccGrows.j0 k l0 a1 a2 true))) = some r := h
  clear h
  have HC4 := Aside0.mk H
  clear H
  go_enter Try.func4, Try.ntmps4
  go_upto_region 1 with (fail)
  go_cut [28] (fun v28 wc => ∃ (kq : Nat) (x28_3 : Bool), v28 = .bool x28_3 ∧ Aside0 (juratlaw15_OccGrows.j0 kq l0 a1 a2 x28_3 = some r) ∧ Aside0 (kq ≤ k) ∧ Aside0 (Below w.heap.size w wc))
  case first =>
    have H := HC4.out
    clear HC4
    replace H := Option.bind_eq_some_iff.mp H
    obtain ⟨t153, A50, H⟩ := H
    replace H : (if t153 = true then (if (a1.size : Int) > 100 then (juratlaw15_OccGrows.j0 k l0 a1 a2 true) else (juratlaw15_OccGrows.j0 k l0 a1 a2 (decide ((a2.size : Int) > 100)))) else (juratlaw15_OccGrows.j0 k l0 a1 a2 true)) = some r := H
    have A5 := Aside0.mk A50
    clear A50
    by_cases c6 : t153 = true
    · subst c6
      have H1 : (if (a1.size : Int) > 100 then (juratlaw15_OccGrows.j0 k l0 a1 a2 true) else (juratlaw15_OccGrows.j0 k l0 a1 a2 (decide ((a2.size : Int) > 100)))) = some r := by rw [if_pos rfl] at H; exact H
      clear H
      have H := H1
      clear H1
      by_cases c7 : (a1.size : Int) > 100
      · rw [if_pos c7] at H
        have c7b0 : decide (100 < (a1.size : Int)) = true := decide_eq_true c7
        have c7b1 : decide (100 < a1.size) = true := decide_eq_true (by omega)
        clear c7
        (first | rw [c7b0] | rw [c7b1] | (simp only [i64_w, i32_w]; rw [c7b0]) | skip)
        have H' := Aside0.mk H
        clear H
        go_wp2_with (first | ((with_reducible refine gate_callee (f := 18) rfl ?_); refine goesL_ (some 17) rfl rfl Try.func18 (by kernel_rfl) rfl #[.slice A0 l0.length c0, .int .i64 12, .int .i64 20] rfl (by (try simp only [List.map_toArray, List.map_cons, List.map_nil]); first | done | rfl | (simp only [List.length_drop, List.length_take]; rfl)) ?_; (with_reducible refine (juratref09_Few.calls k _ _ l0 12 20 true _ ?side1 ?side2 A5.out).mono ?_); (case side1 => repeat (first | exact (Kd.C_below HR0.out HB.out) | (with_reducible refine Kd.C_alloc ?_ _) | (with_reducible refine Kd.C_drewN ?_ _) | (with_reducible refine Kd.C_drew ?_))); (case side2 => exact HC0.out); rintro e w' ⟨rfl, ⟨nd, rfl⟩⟩; refine ⟨_, rfl, ?_⟩))
        go_meet
        case rel => exact ⟨_, (true), (by first | rfl | exact isE_ _ | exact isE2_ _ | (simp; done) | (simp [*]; done)), H', ⟨by first | omega | exact Nat.le_refl _⟩, ⟨by repeat (first | (with_reducible first | exact HB.out | apply below_alloc | apply pw_below_drewN | apply below_drew1) | exact HB.out)⟩⟩
      · rw [if_neg c7] at H
        have c7b0 : decide (100 < (a1.size : Int)) = false := decide_eq_false c7
        have c7b1 : decide (100 < a1.size) = false := decide_eq_false (by omega)
        clear c7
        (first | rw [c7b0] | rw [c7b1] | (simp only [i64_w, i32_w]; rw [c7b0]) | skip)
        have H' := Aside0.mk H
        clear H
        go_wp2_with (first | ((with_reducible refine gate_callee (f := 18) rfl ?_); refine goesL_ (some 17) rfl rfl Try.func18 (by kernel_rfl) rfl #[.slice A0 l0.length c0, .int .i64 12, .int .i64 20] rfl (by (try simp only [List.map_toArray, List.map_cons, List.map_nil]); first | done | rfl | (simp only [List.length_drop, List.length_take]; rfl)) ?_; (with_reducible refine (juratref09_Few.calls k _ _ l0 12 20 true _ ?side1 ?side2 A5.out).mono ?_); (case side1 => repeat (first | exact (Kd.C_below HR0.out HB.out) | (with_reducible refine Kd.C_alloc ?_ _) | (with_reducible refine Kd.C_drewN ?_ _) | (with_reducible refine Kd.C_drew ?_))); (case side2 => exact HC0.out); rintro e w' ⟨rfl, ⟨nd, rfl⟩⟩; refine ⟨_, rfl, ?_⟩))
        go_meet
        case rel => exact ⟨_, (decide ((a2.size : Int) > 100)), (by first | rfl | exact isE_ _ | exact isE2_ _ | (simp; done) | (simp [*]; done)), H', ⟨by first | omega | exact Nat.le_refl _⟩, ⟨by repeat (first | (with_reducible first | exact HB.out | apply below_alloc | apply pw_below_drewN | apply below_drew1) | exact HB.out)⟩⟩
    · replace c6 := Bool.eq_false_iff.mpr c6
      subst c6
      have H1 : (juratlaw15_OccGrows.j0 k l0 a1 a2 true) = some r := by rw [if_neg (show ¬ (false = true) by decide)] at H; exact H
      clear H
      have H := H1
      clear H1
      have H' := Aside0.mk H
      clear H
      go_wp2_with (first | ((with_reducible refine gate_callee (f := 18) rfl ?_); refine goesL_ (some 17) rfl rfl Try.func18 (by kernel_rfl) rfl #[.slice A0 l0.length c0, .int .i64 12, .int .i64 20] rfl (by (try simp only [List.map_toArray, List.map_cons, List.map_nil]); first | done | rfl | (simp only [List.length_drop, List.length_take]; rfl)) ?_; (with_reducible refine (juratref09_Few.calls k _ _ l0 12 20 false _ ?side1 ?side2 A5.out).mono ?_); (case side1 => repeat (first | exact (Kd.C_below HR0.out HB.out) | (with_reducible refine Kd.C_alloc ?_ _) | (with_reducible refine Kd.C_drewN ?_ _) | (with_reducible refine Kd.C_drew ?_))); (case side2 => exact HC0.out); rintro e w' ⟨rfl, ⟨nd, rfl⟩⟩; refine ⟨_, rfl, ?_⟩))
      go_meet
      case rel => exact ⟨_, (true), (by first | rfl | exact isE_ _ | exact isE2_ _ | (simp; done) | (simp [*]; done)), H', ⟨by first | omega | exact Nat.le_refl _⟩, ⟨by repeat (first | (with_reducible first | exact HB.out | apply below_alloc | apply pw_below_drewN | apply below_drew1) | exact HB.out)⟩⟩
  case rest =>
    clear HC4
    try clear c1
    try clear p2
    try clear c4
    try clear c6
    try clear c7
    try clear c7b0
    try clear c7b1
    obtain ⟨kq, x28_3, rfl, HA, HJ3, HB⟩ := hcut
    cases kq with
    | zero => exact absurd HA.out (by simp [juratlaw15_OccGrows.j0])
    | succ kj3 =>
      have H := HA.out
      clear HA
      simp only [juratlaw15_OccGrows.j0] at H
      by_cases c8 : x28_3 = true
      · subst c8
        have H1 : ((juratlaw15_awake.f kj3).bind fun t154 => (some t154)) = some r := by rw [if_pos rfl] at H; exact H
        clear H
        have H := H1
        clear H1
        replace H := Option.bind_eq_some_iff.mp H
        obtain ⟨t154, A90, H⟩ := H
        replace H : (some t154) = some r := H
        have A9 := Aside0.mk A90
        clear A90
        obtain rfl := Option.some.inj H
        go_wp2_with (first | ((with_reducible refine gate_callee (f := 13) rfl ?_); refine goesL_ (some 29) rfl rfl Try.func13 (by kernel_rfl) rfl #[] rfl (by (try simp only [List.map_toArray, List.map_cons, List.map_nil]); first | done | rfl | (simp only [List.length_drop, List.length_take]; rfl)) ?_; (with_reducible refine (juratlaw15_awake.calls kj3  t154 _ A9.out).mono ?_); rintro e w10 ⟨rfl, hb⟩; refine ⟨_, rfl, ?_⟩; have n0_ := Aside0.mk (below_step (by repeat (first | (with_reducible first | exact HB.out | apply below_alloc | apply pw_below_drewN | apply below_drew1) | exact HB.out)) hb); clear HB; have HB := n0_; clear n0_; (try clear hb); (try clear hb2); (try clear hk); (try clear hi)))
        go_ret
        exact ⟨by first | rfl | (simp [errW_none, errW_some] <;> rfl) | (simp [*, errW_none, errW_some] <;> rfl), by first | (refine HB00.out.trans (Below.mono ?_ HB00.out.size); (repeat (first | (with_reducible first | exact HB.out | apply below_alloc | apply pw_below_drewN | apply below_drew1) | exact HB.out))) | (repeat (first | (with_reducible first | exact HB.out | apply below_alloc | apply pw_below_drewN | apply below_drew1) | exact HB.out))⟩
      · replace c8 := Bool.eq_false_iff.mpr c8
        subst c8
        have H1 : ((pats_New.f l0).bind fun bt155 => ((occ_All.f bt155.1 a1).bind fun t157 => (if a1.size + a2.size ≤ 9223372036854775807 then ((occ_All.f bt155.1 (a1 ++ a2)).bind fun t160 => (if (t157.length : Int) > (t160.length : Int) then (juratlaw15_OccGrows.j1 kj3 a1 bt155.1 t157 true) else (if 0 ≤ (t157.length : Int) then (if (t157.length : Int) ≤ (t160.length : Int) then ((juratref15_Same.f kj3 t157 (t160.take ((t157.length : Int) : Int).toNat)).bind fun t167 => (if t167 = true then ((occ_Rising.f kj3 t160).bind fun t168 => (if t168 = true then (if (t160.length : Int) > (t157.length : Int) then (if (t157.length : Int) < (t160.length : Int) then (juratlaw15_OccGrows.j1 kj3 a1 bt155.1 t157 (decide (((rd_T23 t160 (t157.length : Int)).f0) ≤ (a1.size : Int)))) else (none)) else (juratlaw15_OccGrows.j1 kj3 a1 bt155.1 t157 false)) else (juratlaw15_OccGrows.j1 kj3 a1 bt155.1 t157 true))) else (juratlaw15_OccGrows.j1 kj3 a1 bt155.1 t157 true))) else (none)) else (none)))) else (none)))) = some r := by rw [if_neg (show ¬ (false = true) by decide)] at H; exact H
        clear H
        have H := H1
        clear H1
        replace H := Option.bind_eq_some_iff.mp H
        obtain ⟨⟨t155, t156⟩, A110, H⟩ := H
        replace H : ((occ_All.f t155 a1).bind fun t157 => (if a1.size + a2.size ≤ 9223372036854775807 then ((occ_All.f t155 (a1 ++ a2)).bind fun t160 => (if (t157.length : Int) > (t160.length : Int) then (juratlaw15_OccGrows.j1 kj3 a1 t155 t157 true) else (if 0 ≤ (t157.length : Int) then (if (t157.length : Int) ≤ (t160.length : Int) then ((juratref15_Same.f kj3 t157 (t160.take ((t157.length : Int) : Int).toNat)).bind fun t167 => (if t167 = true then ((occ_Rising.f kj3 t160).bind fun t168 => (if t168 = true then (if (t160.length : Int) > (t157.length : Int) then (if (t157.length : Int) < (t160.length : Int) then (juratlaw15_OccGrows.j1 kj3 a1 t155 t157 (decide (((rd_T23 t160 (t157.length : Int)).f0) ≤ (a1.size : Int)))) else (none)) else (juratlaw15_OccGrows.j1 kj3 a1 t155 t157 false)) else (juratlaw15_OccGrows.j1 kj3 a1 t155 t157 true))) else (juratlaw15_OccGrows.j1 kj3 a1 t155 t157 true))) else (none)) else (none)))) else (none))) = some r := H
        have A11 := Aside0.mk A110
        clear A110
        replace H := Option.bind_eq_some_iff.mp H
        obtain ⟨t157, A120, H⟩ := H
        replace H : (if a1.size + a2.size ≤ 9223372036854775807 then ((occ_All.f t155 (a1 ++ a2)).bind fun t160 => (if (t157.length : Int) > (t160.length : Int) then (juratlaw15_OccGrows.j1 kj3 a1 t155 t157 true) else (if 0 ≤ (t157.length : Int) then (if (t157.length : Int) ≤ (t160.length : Int) then ((juratref15_Same.f kj3 t157 (t160.take ((t157.length : Int) : Int).toNat)).bind fun t167 => (if t167 = true then ((occ_Rising.f kj3 t160).bind fun t168 => (if t168 = true then (if (t160.length : Int) > (t157.length : Int) then (if (t157.length : Int) < (t160.length : Int) then (juratlaw15_OccGrows.j1 kj3 a1 t155 t157 (decide (((rd_T23 t160 (t157.length : Int)).f0) ≤ (a1.size : Int)))) else (none)) else (juratlaw15_OccGrows.j1 kj3 a1 t155 t157 false)) else (juratlaw15_OccGrows.j1 kj3 a1 t155 t157 true))) else (juratlaw15_OccGrows.j1 kj3 a1 t155 t157 true))) else (none)) else (none)))) else (none)) = some r := H
        have A12 := Aside0.mk A120
        clear A120
        by_cases c13 : a1.size + a2.size ≤ 9223372036854775807
        · rw [if_pos c13] at H
          have c13b0 := eq_true c13
          have c13b1 : decide (a1.size + a2.size ≤ 9223372036854775807) = true := decide_eq_true c13
          try have c13b2 : (9223372036854775807 < a1.size + a2.size) = False := eq_false (Nat.not_lt.2 c13)
          replace H := Option.bind_eq_some_iff.mp H
          obtain ⟨t160, A140, H⟩ := H
          replace H : (if (t157.length : Int) > (t160.length : Int) then (juratlaw15_OccGrows.j1 kj3 a1 t155 t157 true) else (if 0 ≤ (t157.length : Int) then (if (t157.length : Int) ≤ (t160.length : Int) then ((juratref15_Same.f kj3 t157 (t160.take ((t157.length : Int) : Int).toNat)).bind fun t167 => (if t167 = true then ((occ_Rising.f kj3 t160).bind fun t168 => (if t168 = true then (if (t160.length : Int) > (t157.length : Int) then (if (t157.length : Int) < (t160.length : Int) then (juratlaw15_OccGrows.j1 kj3 a1 t155 t157 (decide (((rd_T23 t160 (t157.length : Int)).f0) ≤ (a1.size : Int)))) else (none)) else (juratlaw15_OccGrows.j1 kj3 a1 t155 t157 false)) else (juratlaw15_OccGrows.j1 kj3 a1 t155 t157 true))) else (juratlaw15_OccGrows.j1 kj3 a1 t155 t157 true))) else (none)) else (none))) = some r := H
          have A14 := Aside0.mk A140
          clear A140
          have HC15 := Aside0.mk H
          clear H
          go_upto_region 5 with (first | ((with_reducible refine gate_callee (f := 19) rfl ?_); refine goesL_ (some 32) rfl rfl Try.func19 (by kernel_rfl) rfl #[.slice A0 l0.length c0] rfl (by (try simp only [List.map_toArray, List.map_cons, List.map_nil]); first | done | rfl | (simp only [List.length_drop, List.length_take]; rfl)) ?_; (with_reducible refine (pats_New.calls _ _ l0 t155 t156 _ ?side1 ?side2 A11.out).mono ?_); (case side1 => repeat (first | exact (Kd.C_below HR0.out HB.out) | (with_reducible refine Kd.C_alloc ?_ _) | (with_reducible refine Kd.C_drewN ?_ _) | (with_reducible refine Kd.C_drew ?_))); (case side2 => exact HC0.out); rintro e w16 ⟨Pt155, rfl, hob0, hb⟩; refine ⟨_, rfl, ?_⟩; have hbw_ := below_step (by repeat (first | (with_reducible first | exact HB.out | apply below_alloc | apply pw_below_drewN | apply below_drew1) | exact HB.out)) hb; (try (have n_ := Aside0.mk (Kd.C_below HR0.out hbw_); clear HR0; have HR0 := n_; clear n_)); (first | (have n_ := Aside0.mk (HB00.out.trans (hbw_.mono HB00.out.size)); clear HB00; have HB00 := n_; clear n_) | have HB00 := Aside0.mk hbw_); clear HB hb hbw_; have HO_t155 := Aside0.mk hob0; clear hob0; obtain ⟨w, rfl⟩ : ∃ w_ : World, w_ = w16 := ⟨_, rfl⟩; have HB := Aside0.mk (Below.refl w.heap.size w)) | ((with_reducible refine gate_callee (f := 20) rfl ?_); refine goesL_ (some 37) rfl rfl Try.func20 (by kernel_rfl) rfl #[.pointer Pt155, .string a1] rfl (by (try simp only [List.map_toArray, List.map_cons, List.map_nil]); first | done | rfl | (simp only [List.length_drop, List.length_take]; rfl)) ?_; (with_reducible refine (occ_All.calls _ t155 a1 t157 _ ?side1 A12.out).mono ?_); (case side1 => first | exact HO_t155.out | exact OB.drewN HO_t155.out _ | exact OB.below (by repeat (first | (with_reducible first | exact HB.out | apply below_alloc | apply pw_below_drewN | apply below_drew1) | exact HB.out)) HO_t155.out); rintro e w17 ⟨v158, rfl, ho0, hb⟩; refine ⟨_, rfl, ?_⟩; have n0_ := Aside0.mk (Kd.R_lower ho0 (below_size (by repeat (first | (with_reducible first | exact HB.out | apply below_alloc | apply pw_below_drewN | apply below_drew1) | exact HB.out)))); have n1_ := Aside0.mk (below_step (by repeat (first | (with_reducible first | exact HB.out | apply below_alloc | apply pw_below_drewN | apply below_drew1) | exact HB.out)) hb); clear HB; have HO159 := n0_; have HB := n1_; clear n0_ n1_; (try clear hb); (try clear hb2); (try clear hk); (try clear hi); (try clear ho0)) | ((with_reducible refine gate_callee (f := 20) rfl ?_); refine goesL_ (some 42) rfl rfl Try.func20 (by kernel_rfl) rfl #[.pointer Pt155, .string (a1 ++ a2)] rfl (by (try simp only [List.map_toArray, List.map_cons, List.map_nil]); first | done | rfl | (simp only [List.length_drop, List.length_take]; rfl)) ?_; (with_reducible refine (occ_All.calls _ t155 (a1 ++ a2) t160 _ ?side1 A14.out).mono ?_); (case side1 => first | exact HO_t155.out | exact OB.drewN HO_t155.out _ | exact OB.below (by repeat (first | (with_reducible first | exact HB.out | apply below_alloc | apply pw_below_drewN | apply below_drew1) | exact HB.out)) HO_t155.out); rintro e w18 ⟨v161, rfl, ho0, hb⟩; refine ⟨_, rfl, ?_⟩; have n0_ := Aside0.mk (Kd.R_elder' (by (with_reducible repeat (first | apply Kd.R_alloc | apply Kd.R_drewN | apply Kd.R_drew)); exact HO159.out) (Kd.R_base ho0) hb); have n1_ := Aside0.mk (Kd.R_lower (Kd.R_new' ho0 (Kd.R_lt (by (with_reducible repeat (first | apply Kd.R_alloc | apply Kd.R_drewN | apply Kd.R_drew)); exact HO159.out))) (below_size (by repeat (first | (with_reducible first | exact HB.out | apply below_alloc | apply pw_below_drewN | apply below_drew1) | exact HB.out)))); have n2_ := Aside0.mk (below_step (by repeat (first | (with_reducible first | exact HB.out | apply below_alloc | apply pw_below_drewN | apply below_drew1) | exact HB.out)) hb); clear HO159; clear HB; have HO159 := n0_; have HO162 := n1_; have HB := n2_; clear n0_ n1_ n2_; (try clear hb); (try clear hb2); (try clear hk); (try clear hi); (try clear ho0)))
          (try simp only [Act.put, List.setIfInBounds_toArray, List.set_cons_zero, List.set_cons_succ])
          go_cut [79] (fun v79 wc => ∃ (kq : Nat) (x79_14 : Bool), v79 = .bool x79_14 ∧ Aside0 (juratlaw15_OccGrows.j1 kq a1 t155 t157 x79_14 = some r) ∧ Aside0 (kq ≤ kj3) ∧ Aside0 (Kd.R k23 23 wc w.heap.size (fun _ => True) v158 t157) ∧ Aside0 (Below w.heap.size w wc))
          case first =>
            have H := HC15.out
            clear HC15
            by_cases c19 : (t157.length : Int) > (t160.length : Int)
            · rw [if_pos c19] at H
              have c19b0 : decide ((t160.length : Int) < (t157.length : Int)) = true := decide_eq_true c19
              have c19b1 : decide (t160.length < t157.length) = true := decide_eq_true (Int.ofNat_lt.mp c19)
              clear c19
              (first | rw [c19b0] | rw [c19b1] | (simp only [i64_w, i32_w]; rw [c19b0]) | skip)
              have H' := Aside0.mk H
              clear H
              obtain ⟨Ao20, co20, eo20⟩ := Kd.R_slice HO159.out
              subst eo20
              obtain ⟨Ao21, co21, eo21⟩ := Kd.R_slice HO162.out
              subst eo21
              go_wp2
              go_meet
              case rel => exact ⟨_, (true), (by first | rfl | exact isE_ _ | exact isE2_ _ | (simp; done) | (simp [*]; done)), H', ⟨by have := HJ3.out; first | omega | exact Nat.le_refl _⟩, ⟨by (with_reducible repeat (first | apply Kd.R_alloc | apply Kd.R_drewN | apply Kd.R_drew)); exact Kd.R_mono HO159.out (fun _ hk => trivial)⟩, ⟨by repeat (first | (with_reducible first | exact HB.out | apply below_alloc | apply pw_below_drewN | apply below_drew1) | exact HB.out)⟩⟩
            · rw [if_neg c19] at H
              have c19b0 : decide ((t160.length : Int) < (t157.length : Int)) = false := decide_eq_false c19
              have c19b1 : decide (t160.length < t157.length) = false := decide_eq_false (fun h => c19 (Int.ofNat_lt.mpr h))
              clear c19
              (first | rw [c19b0] | rw [c19b1] | (simp only [i64_w, i32_w]; rw [c19b0]) | skip)
              by_cases c22 : 0 ≤ (t157.length : Int)
              · rw [if_pos c22] at H
                have c22b0 := eq_true c22
                have c22b1 : decide (0 ≤ (t157.length : Int)) = true := decide_eq_true c22
                clear c22
                by_cases c23 : (t157.length : Int) ≤ (t160.length : Int)
                · rw [if_pos c23] at H
                  have c23b0 := eq_true c23
                  have c23b1 : decide ((t157.length : Int) ≤ (t160.length : Int)) = true := decide_eq_true c23
                  clear c23
                  obtain ⟨y163, hy163⟩ : ∃ y_ : List (S23), y_ = (t160.take ((t157.length : Int) : Int).toNat) := ⟨_, rfl⟩
                  replace H : ((juratref15_Same.f kj3 t157 y163).bind fun t167 => (if t167 = true then ((occ_Rising.f kj3 t160).bind fun t168 => (if t168 = true then (if (t160.length : Int) > (t157.length : Int) then (if (t157.length : Int) < (t160.length : Int) then (juratlaw15_OccGrows.j1 kj3 a1 t155 t157 (decide (((rd_T23 t160 (t157.length : Int)).f0) ≤ (a1.size : Int)))) else (none)) else (juratlaw15_OccGrows.j1 kj3 a1 t155 t157 false)) else (juratlaw15_OccGrows.j1 kj3 a1 t155 t157 true))) else (juratlaw15_OccGrows.j1 kj3 a1 t155 t157 true))) = some r := by first | (rw [hy163]; with_reducible exact H) | (have H2_ := (Option.bind_some _ _).symm.trans H; rw [hy163]; with_reducible exact H2_) | (have H2_ := (Option.bind_some _ _).symm.trans H; with_reducible exact H2_) | with_reducible exact H | (rw [hy163]; exact H) | exact H
                  have Ny163 := Aside0.mk hy163
                  clear hy163
                  replace H := Option.bind_eq_some_iff.mp H
                  obtain ⟨t167, A240, H⟩ := H
                  replace H : (if t167 = true then ((occ_Rising.f kj3 t160).bind fun t168 => (if t168 = true then (if (t160.length : Int) > (t157.length : Int) then (if (t157.length : Int) < (t160.length : Int) then (juratlaw15_OccGrows.j1 kj3 a1 t155 t157 (decide (((rd_T23 t160 (t157.length : Int)).f0) ≤ (a1.size : Int)))) else (none)) else (juratlaw15_OccGrows.j1 kj3 a1 t155 t157 false)) else (juratlaw15_OccGrows.j1 kj3 a1 t155 t157 true))) else (juratlaw15_OccGrows.j1 kj3 a1 t155 t157 true)) = some r := H
                  have A24 := Aside0.mk A240
                  clear A240
                  by_cases c25 : t167 = true
                  · subst c25
                    have H1 : ((occ_Rising.f kj3 t160).bind fun t168 => (if t168 = true then (if (t160.length : Int) > (t157.length : Int) then (if (t157.length : Int) < (t160.length : Int) then (juratlaw15_OccGrows.j1 kj3 a1 t155 t157 (decide (((rd_T23 t160 (t157.length : Int)).f0) ≤ (a1.size : Int)))) else (none)) else (juratlaw15_OccGrows.j1 kj3 a1 t155 t157 false)) else (juratlaw15_OccGrows.j1 kj3 a1 t155 t157 true))) = some r := by rw [if_pos rfl] at H; exact H
                    clear H
                    have H := H1
                    clear H1
                    replace H := Option.bind_eq_some_iff.mp H
                    obtain ⟨t168, A260, H⟩ := H
                    replace H : (if t168 = true then (if (t160.length : Int) > (t157.length : Int) then (if (t157.length : Int) < (t160.length : Int) then (juratlaw15_OccGrows.j1 kj3 a1 t155 t157 (decide (((rd_T23 t160 (t157.length : Int)).f0) ≤ (a1.size : Int)))) else (none)) else (juratlaw15_OccGrows.j1 kj3 a1 t155 t157 false)) else (juratlaw15_OccGrows.j1 kj3 a1 t155 t157 true)) = some r := H
                    have A26 := Aside0.mk A260
                    clear A260
                    by_cases c27 : t168 = true
                    · subst c27
                      have H1 : (if (t160.length : Int) > (t157.length : Int) then (if (t157.length : Int) < (t160.length : Int) then (juratlaw15_OccGrows.j1 kj3 a1 t155 t157 (decide (((rd_T23 t160 (t157.length : Int)).f0) ≤ (a1.size : Int)))) else (none)) else (juratlaw15_OccGrows.j1 kj3 a1 t155 t157 false)) = some r := by rw [if_pos rfl] at H; exact H
                      clear H
                      have H := H1
                      clear H1
                      by_cases c28 : (t160.length : Int) > (t157.length : Int)
                      · rw [if_pos c28] at H
                        have c28b0 : decide ((t157.length : Int) < (t160.length : Int)) = true := decide_eq_true c28
                        have c28b1 : decide (t157.length < t160.length) = true := decide_eq_true (Int.ofNat_lt.mp c28)
                        clear c28
                        by_cases c29 : (t157.length : Int) < (t160.length : Int)
                        · rw [if_pos c29] at H
                          have c29b0 : decide ((t157.length : Int) < (t160.length : Int)) = true := decide_eq_true c29
                          have c29b1 : decide (t157.length < t160.length) = true := decide_eq_true (Int.ofNat_lt.mp c29)
                          clear c29
                          have H' := Aside0.mk H
                          clear H
                          obtain ⟨Ao30, co30, eo30⟩ := Kd.R_slice HO159.out
                          subst eo30
                          obtain ⟨Ao31, co31, eo31⟩ := Kd.R_slice HO162.out
                          subst eo31
                          have q32 : ((t157.length : Int) : Int) ≤ ((t160.length : Int) : Int) := of_decide_eq_true (by first | (with_reducible assumption) | assumption)
                          obtain ⟨i032, hi032, _, hsz32, _⟩ := info_parts info23
                          have hroom32 : t160.length ≤ co31 := (Kd.R_reads' HO162.out).2.1
                          have hC32 : Kd.C k23 _ Ao31 t160.length t160 := (Kd.R_reads' HO162.out).2.2
                          have hcut32 := cut_to (P := Try.prog) 24 23 .i64 Try.underlying24 hi032 Ao31 t160.length co31 (t157.length : Int) (of_decide_eq_true (by first | (with_reducible assumption) | assumption)) q32 hroom32
                          have hr32 := Kd.C_take (m := ((t157.length : Int) : Int).toNat) hC32 (by omega)
                          have hy32 : y163.length = ((t157.length : Int) : Int).toNat := (by rw [Ny163.out, List.length_take]; omega)
                          rw [← Ny163.out] at hr32
                          rw [← hy32] at hcut32
                          have HR166 := Aside0.mk hr32
                          have HC166 := Aside0.mk (show y163.length ≤ co31 from by omega)
                          clear hr32 hC32 hroom32 hi032 hsz32
                          have KY32 := Aside0.mk hy32
                          clear hy32
                          have KL32 := Aside0.mk (show ((t157.length : Int) : Int).toNat ≤ t160.length from by omega)
                          replace q32 := eq_true q32
                          go_wp2_with (first | (go_at_call 21; (with_reducible refine (juratref15_Same.calls kj3 _ _ t157 _ _ y163 true _ ?side1 ?side2 ?side3 ?side4 A24.out).mono ?_); (case side1 => repeat (first | exact (Kd.R_reads' HO159.out).2.2 | (with_reducible refine Kd.C_alloc ?_ _) | (with_reducible refine Kd.C_drewN ?_ _) | (with_reducible refine Kd.C_drew ?_))); (case side2 => exact (Kd.R_reads' HO159.out).2.1); (case side3 => repeat (first | exact (by repeat (first | (with_reducible exact HR166.out) | (with_reducible refine Kd.C_alloc ?_ _) | (with_reducible refine Kd.C_drewN ?_ _) | (with_reducible refine Kd.C_drew ?_) | exact HR166.out)) | (with_reducible refine Kd.C_alloc ?_ _) | (with_reducible refine Kd.C_drewN ?_ _) | (with_reducible refine Kd.C_drew ?_))); (case side4 => exact HC166.out); rintro e w' ⟨rfl, ⟨nd, rfl⟩⟩) | (go_at_call 16; (with_reducible refine (occ_Rising.calls kj3 _ _ t160 true _ ?side1 ?side2 A26.out).mono ?_); (case side1 => repeat (first | exact (Kd.R_reads' HO162.out).2.2 | (with_reducible refine Kd.C_alloc ?_ _) | (with_reducible refine Kd.C_drewN ?_ _) | (with_reducible refine Kd.C_drew ?_))); (case side2 => exact (Kd.R_reads' HO162.out).2.1); rintro e w33 ⟨rfl, hb⟩; have n0_ := Aside0.mk (Kd.R_below (by (with_reducible repeat (first | apply Kd.R_alloc | apply Kd.R_drewN | apply Kd.R_drew)); exact HO159.out) hb); have n1_ := Aside0.mk (Kd.R_below (by (with_reducible repeat (first | apply Kd.R_alloc | apply Kd.R_drewN | apply Kd.R_drew)); exact HO162.out) hb); have n2_ := Aside0.mk (Kd.C_below (by repeat (first | (with_reducible exact HR166.out) | (with_reducible refine Kd.C_alloc ?_ _) | (with_reducible refine Kd.C_drewN ?_ _) | (with_reducible refine Kd.C_drew ?_) | exact HR166.out)) hb); have n3_ := Aside0.mk (below_step (by repeat (first | (with_reducible first | exact HB.out | apply below_alloc | apply pw_below_drewN | apply below_drew1) | exact HB.out)) hb); clear HO159; clear HO162; clear HR166; clear HB; have HO159 := n0_; have HO162 := n1_; have HR166 := n2_; have HB := n3_; clear n0_ n1_ n2_ n3_; (try clear hb); (try clear hb2); (try clear hk); (try clear hi); have p169 : 0 ≤ ((t157.length : Int) : Int) := of_decide_eq_true (by first | (with_reducible assumption) | assumption); have q169 : (t157.length : Int) < (t160.length : Int) := of_decide_eq_true (by first | (with_reducible assumption) | assumption); obtain ⟨ad169, e169, hx169_0, hx169_1⟩ := at_T23 (Kd.R_reads' HO162.out).2.2 (t157.length : Int) p169 q169; cases e169; (try simp only [Int.toNat_natCast] at hx169_0); (try simp only [Go.IntWalk.toNatUp] at hx169_0); (try simp only [Go.IntWalk.toNatUp] at hx169_1); replace p169 := eq_true p169; replace q169 := eq_true q169))
                          go_meet
                          case rel => exact ⟨_, (decide (((rd_T23 t160 (t157.length : Int)).f0) ≤ (a1.size : Int))), (by first | rfl | exact isE_ _ | exact isE2_ _ | (simp; done) | (simp [*]; done)), H', ⟨by have := HJ3.out; first | omega | exact Nat.le_refl _⟩, ⟨by (with_reducible repeat (first | apply Kd.R_alloc | apply Kd.R_drewN | apply Kd.R_drew)); exact Kd.R_mono HO159.out (fun _ hk => trivial)⟩, ⟨by repeat (first | (with_reducible first | exact HB.out | apply below_alloc | apply pw_below_drewN | apply below_drew1) | exact HB.out)⟩⟩
                        · rw [if_neg c29] at H
                          exact absurd H (by simp)
                      · rw [if_neg c28] at H
                        have c28b0 : decide ((t157.length : Int) < (t160.length : Int)) = false := decide_eq_false c28
                        have c28b1 : decide (t157.length < t160.length) = false := decide_eq_false (fun h => c28 (Int.ofNat_lt.mpr h))
                        clear c28
                        have H' := Aside0.mk H
                        clear H
                        obtain ⟨Ao34, co34, eo34⟩ := Kd.R_slice HO159.out
                        subst eo34
                        obtain ⟨Ao35, co35, eo35⟩ := Kd.R_slice HO162.out
                        subst eo35
                        have q36 : ((t157.length : Int) : Int) ≤ ((t160.length : Int) : Int) := of_decide_eq_true (by first | (with_reducible assumption) | assumption)
                        obtain ⟨i036, hi036, _, hsz36, _⟩ := info_parts info23
                        have hroom36 : t160.length ≤ co35 := (Kd.R_reads' HO162.out).2.1
                        have hC36 : Kd.C k23 _ Ao35 t160.length t160 := (Kd.R_reads' HO162.out).2.2
                        have hcut36 := cut_to (P := Try.prog) 24 23 .i64 Try.underlying24 hi036 Ao35 t160.length co35 (t157.length : Int) (of_decide_eq_true (by first | (with_reducible assumption) | assumption)) q36 hroom36
                        have hr36 := Kd.C_take (m := ((t157.length : Int) : Int).toNat) hC36 (by omega)
                        have hy36 : y163.length = ((t157.length : Int) : Int).toNat := (by rw [Ny163.out, List.length_take]; omega)
                        rw [← Ny163.out] at hr36
                        rw [← hy36] at hcut36
                        have HR166 := Aside0.mk hr36
                        have HC166 := Aside0.mk (show y163.length ≤ co35 from by omega)
                        clear hr36 hC36 hroom36 hi036 hsz36
                        have KY36 := Aside0.mk hy36
                        clear hy36
                        have KL36 := Aside0.mk (show ((t157.length : Int) : Int).toNat ≤ t160.length from by omega)
                        replace q36 := eq_true q36
                        go_wp2_with (first | (go_at_call 21; (with_reducible refine (juratref15_Same.calls kj3 _ _ t157 _ _ y163 true _ ?side1 ?side2 ?side3 ?side4 A24.out).mono ?_); (case side1 => repeat (first | exact (Kd.R_reads' HO159.out).2.2 | (with_reducible refine Kd.C_alloc ?_ _) | (with_reducible refine Kd.C_drewN ?_ _) | (with_reducible refine Kd.C_drew ?_))); (case side2 => exact (Kd.R_reads' HO159.out).2.1); (case side3 => repeat (first | exact (by repeat (first | (with_reducible exact HR166.out) | (with_reducible refine Kd.C_alloc ?_ _) | (with_reducible refine Kd.C_drewN ?_ _) | (with_reducible refine Kd.C_drew ?_) | exact HR166.out)) | (with_reducible refine Kd.C_alloc ?_ _) | (with_reducible refine Kd.C_drewN ?_ _) | (with_reducible refine Kd.C_drew ?_))); (case side4 => exact HC166.out); rintro e w' ⟨rfl, ⟨nd, rfl⟩⟩) | (go_at_call 16; (with_reducible refine (occ_Rising.calls kj3 _ _ t160 true _ ?side1 ?side2 A26.out).mono ?_); (case side1 => repeat (first | exact (Kd.R_reads' HO162.out).2.2 | (with_reducible refine Kd.C_alloc ?_ _) | (with_reducible refine Kd.C_drewN ?_ _) | (with_reducible refine Kd.C_drew ?_))); (case side2 => exact (Kd.R_reads' HO162.out).2.1); rintro e w37 ⟨rfl, hb⟩; have n0_ := Aside0.mk (Kd.R_below (by (with_reducible repeat (first | apply Kd.R_alloc | apply Kd.R_drewN | apply Kd.R_drew)); exact HO159.out) hb); have n1_ := Aside0.mk (Kd.R_below (by (with_reducible repeat (first | apply Kd.R_alloc | apply Kd.R_drewN | apply Kd.R_drew)); exact HO162.out) hb); have n2_ := Aside0.mk (Kd.C_below (by repeat (first | (with_reducible exact HR166.out) | (with_reducible refine Kd.C_alloc ?_ _) | (with_reducible refine Kd.C_drewN ?_ _) | (with_reducible refine Kd.C_drew ?_) | exact HR166.out)) hb); have n3_ := Aside0.mk (below_step (by repeat (first | (with_reducible first | exact HB.out | apply below_alloc | apply pw_below_drewN | apply below_drew1) | exact HB.out)) hb); clear HO159; clear HO162; clear HR166; clear HB; have HO159 := n0_; have HO162 := n1_; have HR166 := n2_; have HB := n3_; clear n0_ n1_ n2_ n3_; (try clear hb); (try clear hb2); (try clear hk); (try clear hi)))
                        go_meet
                        case rel => exact ⟨_, (false), (by first | rfl | exact isE_ _ | exact isE2_ _ | (simp; done) | (simp [*]; done)), H', ⟨by have := HJ3.out; first | omega | exact Nat.le_refl _⟩, ⟨by (with_reducible repeat (first | apply Kd.R_alloc | apply Kd.R_drewN | apply Kd.R_drew)); exact Kd.R_mono HO159.out (fun _ hk => trivial)⟩, ⟨by repeat (first | (with_reducible first | exact HB.out | apply below_alloc | apply pw_below_drewN | apply below_drew1) | exact HB.out)⟩⟩
                    · replace c27 := Bool.eq_false_iff.mpr c27
                      subst c27
                      have H1 : (juratlaw15_OccGrows.j1 kj3 a1 t155 t157 true) = some r := by rw [if_neg (show ¬ (false = true) by decide)] at H; exact H
                      clear H
                      have H := H1
                      clear H1
                      have H' := Aside0.mk H
                      clear H
                      obtain ⟨Ao38, co38, eo38⟩ := Kd.R_slice HO159.out
                      subst eo38
                      obtain ⟨Ao39, co39, eo39⟩ := Kd.R_slice HO162.out
                      subst eo39
                      have q40 : ((t157.length : Int) : Int) ≤ ((t160.length : Int) : Int) := of_decide_eq_true (by first | (with_reducible assumption) | assumption)
                      obtain ⟨i040, hi040, _, hsz40, _⟩ := info_parts info23
                      have hroom40 : t160.length ≤ co39 := (Kd.R_reads' HO162.out).2.1
                      have hC40 : Kd.C k23 _ Ao39 t160.length t160 := (Kd.R_reads' HO162.out).2.2
                      have hcut40 := cut_to (P := Try.prog) 24 23 .i64 Try.underlying24 hi040 Ao39 t160.length co39 (t157.length : Int) (of_decide_eq_true (by first | (with_reducible assumption) | assumption)) q40 hroom40
                      have hr40 := Kd.C_take (m := ((t157.length : Int) : Int).toNat) hC40 (by omega)
                      have hy40 : y163.length = ((t157.length : Int) : Int).toNat := (by rw [Ny163.out, List.length_take]; omega)
                      rw [← Ny163.out] at hr40
                      rw [← hy40] at hcut40
                      have HR166 := Aside0.mk hr40
                      have HC166 := Aside0.mk (show y163.length ≤ co39 from by omega)
                      clear hr40 hC40 hroom40 hi040 hsz40
                      have KY40 := Aside0.mk hy40
                      clear hy40
                      have KL40 := Aside0.mk (show ((t157.length : Int) : Int).toNat ≤ t160.length from by omega)
                      replace q40 := eq_true q40
                      go_wp2_with (first | (go_at_call 21; (with_reducible refine (juratref15_Same.calls kj3 _ _ t157 _ _ y163 true _ ?side1 ?side2 ?side3 ?side4 A24.out).mono ?_); (case side1 => repeat (first | exact (Kd.R_reads' HO159.out).2.2 | (with_reducible refine Kd.C_alloc ?_ _) | (with_reducible refine Kd.C_drewN ?_ _) | (with_reducible refine Kd.C_drew ?_))); (case side2 => exact (Kd.R_reads' HO159.out).2.1); (case side3 => repeat (first | exact (by repeat (first | (with_reducible exact HR166.out) | (with_reducible refine Kd.C_alloc ?_ _) | (with_reducible refine Kd.C_drewN ?_ _) | (with_reducible refine Kd.C_drew ?_) | exact HR166.out)) | (with_reducible refine Kd.C_alloc ?_ _) | (with_reducible refine Kd.C_drewN ?_ _) | (with_reducible refine Kd.C_drew ?_))); (case side4 => exact HC166.out); rintro e w' ⟨rfl, ⟨nd, rfl⟩⟩) | (go_at_call 16; (with_reducible refine (occ_Rising.calls kj3 _ _ t160 false _ ?side1 ?side2 A26.out).mono ?_); (case side1 => repeat (first | exact (Kd.R_reads' HO162.out).2.2 | (with_reducible refine Kd.C_alloc ?_ _) | (with_reducible refine Kd.C_drewN ?_ _) | (with_reducible refine Kd.C_drew ?_))); (case side2 => exact (Kd.R_reads' HO162.out).2.1); rintro e w41 ⟨rfl, hb⟩; have n0_ := Aside0.mk (Kd.R_below (by (with_reducible repeat (first | apply Kd.R_alloc | apply Kd.R_drewN | apply Kd.R_drew)); exact HO159.out) hb); have n1_ := Aside0.mk (Kd.R_below (by (with_reducible repeat (first | apply Kd.R_alloc | apply Kd.R_drewN | apply Kd.R_drew)); exact HO162.out) hb); have n2_ := Aside0.mk (Kd.C_below (by repeat (first | (with_reducible exact HR166.out) | (with_reducible refine Kd.C_alloc ?_ _) | (with_reducible refine Kd.C_drewN ?_ _) | (with_reducible refine Kd.C_drew ?_) | exact HR166.out)) hb); have n3_ := Aside0.mk (below_step (by repeat (first | (with_reducible first | exact HB.out | apply below_alloc | apply pw_below_drewN | apply below_drew1) | exact HB.out)) hb); clear HO159; clear HO162; clear HR166; clear HB; have HO159 := n0_; have HO162 := n1_; have HR166 := n2_; have HB := n3_; clear n0_ n1_ n2_ n3_; (try clear hb); (try clear hb2); (try clear hk); (try clear hi)))
                      go_meet
                      case rel => exact ⟨_, (true), (by first | rfl | exact isE_ _ | exact isE2_ _ | (simp; done) | (simp [*]; done)), H', ⟨by have := HJ3.out; first | omega | exact Nat.le_refl _⟩, ⟨by (with_reducible repeat (first | apply Kd.R_alloc | apply Kd.R_drewN | apply Kd.R_drew)); exact Kd.R_mono HO159.out (fun _ hk => trivial)⟩, ⟨by repeat (first | (with_reducible first | exact HB.out | apply below_alloc | apply pw_below_drewN | apply below_drew1) | exact HB.out)⟩⟩
                  · replace c25 := Bool.eq_false_iff.mpr c25
                    subst c25
                    have H1 : (juratlaw15_OccGrows.j1 kj3 a1 t155 t157 true) = some r := by rw [if_neg (show ¬ (false = true) by decide)] at H; exact H
                    clear H
                    have H := H1
                    clear H1
                    have H' := Aside0.mk H
                    clear H
                    obtain ⟨Ao42, co42, eo42⟩ := Kd.R_slice HO159.out
                    subst eo42
                    obtain ⟨Ao43, co43, eo43⟩ := Kd.R_slice HO162.out
                    subst eo43
                    have q44 : ((t157.length : Int) : Int) ≤ ((t160.length : Int) : Int) := of_decide_eq_true (by first | (with_reducible assumption) | assumption)
                    obtain ⟨i044, hi044, _, hsz44, _⟩ := info_parts info23
                    have hroom44 : t160.length ≤ co43 := (Kd.R_reads' HO162.out).2.1
                    have hC44 : Kd.C k23 _ Ao43 t160.length t160 := (Kd.R_reads' HO162.out).2.2
                    have hcut44 := cut_to (P := Try.prog) 24 23 .i64 Try.underlying24 hi044 Ao43 t160.length co43 (t157.length : Int) (of_decide_eq_true (by first | (with_reducible assumption) | assumption)) q44 hroom44
                    have hr44 := Kd.C_take (m := ((t157.length : Int) : Int).toNat) hC44 (by omega)
                    have hy44 : y163.length = ((t157.length : Int) : Int).toNat := (by rw [Ny163.out, List.length_take]; omega)
                    rw [← Ny163.out] at hr44
                    rw [← hy44] at hcut44
                    have HR166 := Aside0.mk hr44
                    have HC166 := Aside0.mk (show y163.length ≤ co43 from by omega)
                    clear hr44 hC44 hroom44 hi044 hsz44
                    have KY44 := Aside0.mk hy44
                    clear hy44
                    have KL44 := Aside0.mk (show ((t157.length : Int) : Int).toNat ≤ t160.length from by omega)
                    replace q44 := eq_true q44
                    go_wp2_with (first | (go_at_call 21; (with_reducible refine (juratref15_Same.calls kj3 _ _ t157 _ _ y163 false _ ?side1 ?side2 ?side3 ?side4 A24.out).mono ?_); (case side1 => repeat (first | exact (Kd.R_reads' HO159.out).2.2 | (with_reducible refine Kd.C_alloc ?_ _) | (with_reducible refine Kd.C_drewN ?_ _) | (with_reducible refine Kd.C_drew ?_))); (case side2 => exact (Kd.R_reads' HO159.out).2.1); (case side3 => repeat (first | exact (by repeat (first | (with_reducible exact HR166.out) | (with_reducible refine Kd.C_alloc ?_ _) | (with_reducible refine Kd.C_drewN ?_ _) | (with_reducible refine Kd.C_drew ?_) | exact HR166.out)) | (with_reducible refine Kd.C_alloc ?_ _) | (with_reducible refine Kd.C_drewN ?_ _) | (with_reducible refine Kd.C_drew ?_))); (case side4 => exact HC166.out); rintro e w' ⟨rfl, ⟨nd, rfl⟩⟩))
                    go_meet
                    case rel => exact ⟨_, (true), (by first | rfl | exact isE_ _ | exact isE2_ _ | (simp; done) | (simp [*]; done)), H', ⟨by have := HJ3.out; first | omega | exact Nat.le_refl _⟩, ⟨by (with_reducible repeat (first | apply Kd.R_alloc | apply Kd.R_drewN | apply Kd.R_drew)); exact Kd.R_mono HO159.out (fun _ hk => trivial)⟩, ⟨by repeat (first | (with_reducible first | exact HB.out | apply below_alloc | apply pw_below_drewN | apply below_drew1) | exact HB.out)⟩⟩
                · rw [if_neg c23] at H
                  exact absurd H (by simp)
              · rw [if_neg c22] at H
                exact absurd H (by simp)
          case rest =>
            clear HC15
            try clear c1
            try clear p1
            try clear q1
            try clear hx1
            try clear c2
            try clear p2
            try clear q3
            try clear c4
            try clear q4
            try clear c6
            try clear c7
            try clear c7b0
            try clear c7b1
            try clear c8
            try clear c13
            try clear c13b0
            try clear c13b1
            try clear c13b2
            try clear p16
            try clear q16
            try clear hx16
            try clear c18
            try clear c19
            try clear c19b0
            try clear c19b1
            try clear c20
            try clear c22
            try clear c22b0
            try clear c22b1
            try clear c23
            try clear c23b0
            try clear c23b1
            try clear c25
            try clear c27
            try clear c28
            try clear c28b0
            try clear c28b1
            try clear c29
            try clear c29b0
            try clear c29b1
            try clear q32
            try clear q36
            try clear q40
            try clear q44
            try clear hx169_0
            try clear hx169_1
            try clear p169
            try clear p2
            try clear q169
            try clear q32
            try clear q36
            try clear q40
            try clear q44
            obtain ⟨kq, x79_14, rfl, HA, HJ14, HO_9, HB⟩ := hcut
            cases kq with
            | zero => exact absurd HA.out (by simp [juratlaw15_OccGrows.j1])
            | succ kj14 =>
              have H := HA.out
              clear HA
              simp only [juratlaw15_OccGrows.j1] at H
              by_cases c45 : x79_14 = true
              · subst c45
                have H1 : (some false) = some r := by rw [if_pos rfl] at H; exact H
                clear H
                have H := H1
                clear H1
                obtain rfl := Option.some.inj H
                go_wp2
                go_ret
                exact ⟨by first | rfl | (simp [errW_none, errW_some] <;> rfl) | (simp [*, errW_none, errW_some] <;> rfl), by first | (refine HB00.out.trans (Below.mono ?_ HB00.out.size); (repeat (first | (with_reducible first | exact HB.out | apply below_alloc | apply pw_below_drewN | apply below_drew1) | exact HB.out))) | (repeat (first | (with_reducible first | exact HB.out | apply below_alloc | apply pw_below_drewN | apply below_drew1) | exact HB.out))⟩
              · replace c45 := Bool.eq_false_iff.mpr c45
                subst c45
                have H1 : ((pats_Set_List.f t155).bind fun t170 => (if (t170.length : Int) < 2 then ((juratlaw15_awake.f kj14).bind fun t173 => (some t173)) else (if 0 ≤ (wrap64 ((t170.length : Int) - 1)) then (if (wrap64 ((t170.length : Int) - 1)) ≤ (t170.length : Int) then ((pats_New.f (t170.take ((wrap64 ((t170.length : Int) - 1)) : Int).toNat)).bind fun bt178 => (juratlaw15_OccGrows.l0 kj14 a1 t157 t170 bt178.1 bt178.2 ([] : List (S23)) 0)) else (none)) else (none)))) = some r := by rw [if_neg (show ¬ (false = true) by decide)] at H; exact H
                clear H
                have H := H1
                clear H1
                replace H := Option.bind_eq_some_iff.mp H
                obtain ⟨t170, A460, H⟩ := H
                replace H : (if (t170.length : Int) < 2 then ((juratlaw15_awake.f kj14).bind fun t173 => (some t173)) else (if 0 ≤ (wrap64 ((t170.length : Int) - 1)) then (if (wrap64 ((t170.length : Int) - 1)) ≤ (t170.length : Int) then ((pats_New.f (t170.take ((wrap64 ((t170.length : Int) - 1)) : Int).toNat)).bind fun bt178 => (juratlaw15_OccGrows.l0 kj14 a1 t157 t170 bt178.1 bt178.2 ([] : List (S23)) 0)) else (none)) else (none))) = some r := H
                have A46 := Aside0.mk A460
                clear A460
                by_cases c47 : (t170.length : Int) < 2
                · rw [if_pos c47] at H
                  have c47b0 : decide ((t170.length : Int) < 2) = true := decide_eq_true c47
                  have c47b1 : decide (t170.length < 2) = true := decide_eq_true (by omega)
                  clear c47
                  replace H := Option.bind_eq_some_iff.mp H
                  obtain ⟨t173, A480, H⟩ := H
                  replace H : (some t173) = some r := H
                  have A48 := Aside0.mk A480
                  clear A480
                  obtain rfl := Option.some.inj H
                  go_wp2_with (first | ((with_reducible refine gate_callee (f := 22) rfl ?_); refine goesL_ (some 81) rfl rfl Try.func22 (by kernel_rfl) rfl #[.pointer Pt155] rfl (by (try simp only [List.map_toArray, List.map_cons, List.map_nil]); first | done | rfl | (simp only [List.length_drop, List.length_take]; rfl)) ?_; (with_reducible refine (pats_Set_List.calls _ t155 t170 _ ?side1 A46.out).mono ?_); (case side1 => first | exact HO_t155.out | exact OB.drewN HO_t155.out _ | exact OB.below (by repeat (first | (with_reducible first | exact HB.out | apply below_alloc | apply pw_below_drewN | apply below_drew1) | exact HB.out)) HO_t155.out); rintro e w49 ⟨v171, rfl, ho0, hb⟩; refine ⟨_, rfl, ?_⟩; have n0_ := Aside0.mk (Kd.R_below (by (with_reducible repeat (first | apply Kd.R_alloc | apply Kd.R_drewN | apply Kd.R_drew)); exact HO_9.out) hb); have n1_ := Aside0.mk (Kd.R_lower ho0 (below_size (by repeat (first | (with_reducible first | exact HB.out | apply below_alloc | apply pw_below_drewN | apply below_drew1) | exact HB.out)))); have n2_ := Aside0.mk (below_step (by repeat (first | (with_reducible first | exact HB.out | apply below_alloc | apply pw_below_drewN | apply below_drew1) | exact HB.out)) hb); clear HO_9; clear HB; have HO_9 := n0_; have HO172 := n1_; have HB := n2_; clear n0_ n1_ n2_; (try clear hb); (try clear hb2); (try clear hk); (try clear hi); (try clear ho0); obtain ⟨Ao50, co50, eo50⟩ := Kd.R_slice HO172.out; subst eo50) | ((with_reducible refine gate_callee (f := 13) rfl ?_); refine goesL_ (some 85) rfl rfl Try.func13 (by kernel_rfl) rfl #[] rfl (by (try simp only [List.map_toArray, List.map_cons, List.map_nil]); first | done | rfl | (simp only [List.length_drop, List.length_take]; rfl)) ?_; (with_reducible refine (juratlaw15_awake.calls kj14  t173 _ A48.out).mono ?_); rintro e w51 ⟨rfl, hb⟩; refine ⟨_, rfl, ?_⟩; have n0_ := Aside0.mk (Kd.R_below (by (with_reducible repeat (first | apply Kd.R_alloc | apply Kd.R_drewN | apply Kd.R_drew)); exact HO_9.out) hb); have n1_ := Aside0.mk (Kd.R_below (by (with_reducible repeat (first | apply Kd.R_alloc | apply Kd.R_drewN | apply Kd.R_drew)); exact HO172.out) hb); have n2_ := Aside0.mk (below_step (by repeat (first | (with_reducible first | exact HB.out | apply below_alloc | apply pw_below_drewN | apply below_drew1) | exact HB.out)) hb); clear HO_9; clear HO172; clear HB; have HO_9 := n0_; have HO172 := n1_; have HB := n2_; clear n0_ n1_ n2_; (try clear hb); (try clear hb2); (try clear hk); (try clear hi)))
                  go_ret
                  exact ⟨by first | rfl | (simp [errW_none, errW_some] <;> rfl) | (simp [*, errW_none, errW_some] <;> rfl), by first | (refine HB00.out.trans (Below.mono ?_ HB00.out.size); (repeat (first | (with_reducible first | exact HB.out | apply below_alloc | apply pw_below_drewN | apply below_drew1) | exact HB.out))) | (repeat (first | (with_reducible first | exact HB.out | apply below_alloc | apply pw_below_drewN | apply below_drew1) | exact HB.out))⟩
                · rw [if_neg c47] at H
                  have c47b0 : decide ((t170.length : Int) < 2) = false := decide_eq_false c47
                  have c47b1 : decide (t170.length < 2) = false := decide_eq_false (by omega)
                  clear c47
                  obtain ⟨ji52, hji52⟩ : ∃ j_ : Int, (wrap64 ((t170.length : Int) - 1)) = j_ := ⟨_, rfl⟩
                  replace H : (if 0 ≤ (ji52) then (if (ji52) ≤ (t170.length : Int) then ((pats_New.f (t170.take ((ji52) : Int).toNat)).bind fun bt178 => (juratlaw15_OccGrows.l0 kj14 a1 t157 t170 bt178.1 bt178.2 ([] : List (S23)) 0)) else (none)) else (none)) = some r := by first | (rw [hji52] at H; exact H) | (simp only [hji52] at H ⊢; exact H)
                  (try rw [hji52] at A46)
                  have hji52w : (IntKind.i64.wrap ((t170.length : Int) - 1)) = ji52 := (i64_w _).trans hji52
                  by_cases c53 : 0 ≤ (ji52)
                  · rw [if_pos c53] at H
                    have c53b0 := eq_true c53
                    have c53b1 : decide (0 ≤ (ji52)) = true := decide_eq_true c53
                    clear c53
                    by_cases c54 : (ji52) ≤ (t170.length : Int)
                    · rw [if_pos c54] at H
                      have c54b0 := eq_true c54
                      have c54b1 : decide ((ji52) ≤ (t170.length : Int)) = true := decide_eq_true c54
                      clear c54
                      obtain ⟨y174, hy174⟩ : ∃ y_ : List ByteArray, y_ = (t170.take ((ji52) : Int).toNat) := ⟨_, rfl⟩
                      replace H : ((pats_New.f y174).bind fun bt178 => (juratlaw15_OccGrows.l0 kj14 a1 t157 t170 bt178.1 bt178.2 ([] : List (S23)) 0)) = some r := by first | (rw [hy174]; with_reducible exact H) | (have H2_ := (Option.bind_some _ _).symm.trans H; rw [hy174]; with_reducible exact H2_) | (have H2_ := (Option.bind_some _ _).symm.trans H; with_reducible exact H2_) | with_reducible exact H | (rw [hy174]; exact H) | exact H
                      have Ny174 := Aside0.mk hy174
                      clear hy174
                      replace H := Option.bind_eq_some_iff.mp H
                      obtain ⟨⟨t178, t179⟩, A550, H⟩ := H
                      replace H : (juratlaw15_OccGrows.l0 kj14 a1 t157 t170 t178 t179 ([] : List (S23)) 0) = some r := H
                      have A55 := Aside0.mk A550
                      clear A550
                      have H' := Aside0.mk H
                      clear H
                      go_wp2_with (first | ((with_reducible refine gate_callee (f := 22) rfl ?_); refine goesL_ (some 81) rfl rfl Try.func22 (by kernel_rfl) rfl #[.pointer Pt155] rfl (by (try simp only [List.map_toArray, List.map_cons, List.map_nil]); first | done | rfl | (simp only [List.length_drop, List.length_take]; rfl)) ?_; (with_reducible refine (pats_Set_List.calls _ t155 t170 _ ?side1 A46.out).mono ?_); (case side1 => first | exact HO_t155.out | exact OB.drewN HO_t155.out _ | exact OB.below (by repeat (first | (with_reducible first | exact HB.out | apply below_alloc | apply pw_below_drewN | apply below_drew1) | exact HB.out)) HO_t155.out); rintro e w56 ⟨v171, rfl, ho0, hb⟩; refine ⟨_, rfl, ?_⟩; have n0_ := Aside0.mk (Kd.R_below (by (with_reducible repeat (first | apply Kd.R_alloc | apply Kd.R_drewN | apply Kd.R_drew)); exact HO_9.out) hb); have n1_ := Aside0.mk (Kd.R_lower ho0 (below_size (by repeat (first | (with_reducible first | exact HB.out | apply below_alloc | apply pw_below_drewN | apply below_drew1) | exact HB.out)))); have n2_ := Aside0.mk (below_step (by repeat (first | (with_reducible first | exact HB.out | apply below_alloc | apply pw_below_drewN | apply below_drew1) | exact HB.out)) hb); clear HO_9; clear HB; have HO_9 := n0_; have HO172 := n1_; have HB := n2_; clear n0_ n1_ n2_; (try clear hb); (try clear hb2); (try clear hk); (try clear hi); (try clear ho0); obtain ⟨Ao57, co57, eo57⟩ := Kd.R_slice HO172.out; subst eo57; have q58 : ((ji52) : Int) ≤ ((t170.length : Int) : Int) := of_decide_eq_true (by first | (with_reducible assumption) | assumption); obtain ⟨i058, hi058, _, hsz58, _⟩ := info_parts info9; have hroom58 : t170.length ≤ co57 := (Kd.R_reads' HO172.out).2.1; have hC58 : Kd.C Kd.string _ Ao57 t170.length t170 := (Kd.R_reads' HO172.out).2.2; have hcut58 := cut_to (P := Try.prog) 30 9 .i64 Try.underlying30 hi058 Ao57 t170.length co57 (ji52) (of_decide_eq_true (by first | (with_reducible assumption) | assumption)) q58 hroom58; have hr58 := Kd.C_take (m := ((ji52) : Int).toNat) hC58 (by omega); have hy58 : y174.length = ((ji52) : Int).toNat := (by rw [Ny174.out, List.length_take]; omega); rw [← Ny174.out] at hr58; rw [← hy58] at hcut58; have HR177 := Aside0.mk hr58; have HC177 := Aside0.mk (show y174.length ≤ co57 from by omega); clear hr58 hC58 hroom58 hi058 hsz58; have KY58 := Aside0.mk hy58; clear hy58; have KL58 := Aside0.mk (show ((ji52) : Int).toNat ≤ t170.length from by omega); replace q58 := eq_true q58) | ((with_reducible refine gate_callee (f := 19) rfl ?_); refine goesL_ (some 92) rfl rfl Try.func19 (by kernel_rfl) rfl #[.slice Ao57 y174.length co57] rfl (by (try simp only [List.map_toArray, List.map_cons, List.map_nil]); first | done | rfl | (simp only [List.length_drop, List.length_take]; rfl)) ?_; (with_reducible refine (pats_New.calls _ _ y174 t178 t179 _ ?side1 ?side2 A55.out).mono ?_); (case side1 => repeat (first | exact (by repeat (first | (with_reducible exact HR177.out) | (with_reducible refine Kd.C_alloc ?_ _) | (with_reducible refine Kd.C_drewN ?_ _) | (with_reducible refine Kd.C_drew ?_) | exact HR177.out)) | (with_reducible refine Kd.C_alloc ?_ _) | (with_reducible refine Kd.C_drewN ?_ _) | (with_reducible refine Kd.C_drew ?_))); (case side2 => exact HC177.out); rintro e w59 ⟨Pt178, rfl, hob0, hb⟩; refine ⟨_, rfl, ?_⟩; have hbw_ := below_step (by repeat (first | (with_reducible first | exact HB.out | apply below_alloc | apply pw_below_drewN | apply below_drew1) | exact HB.out)) hb; obtain ⟨Ab180, cb180, eb180_, lb180_, gb180_⟩ := Kd.R_reads (Kd.R_below (by (with_reducible repeat (first | apply Kd.R_alloc | apply Kd.R_drewN | apply Kd.R_drew)); exact HO_9.out) hb); (first | subst eb180_ | (injection eb180_ with f1_ f2_ f3_; have f4_ := f1_.symm; have f5_ := f3_.symm; clear f1_ f2_ f3_; subst f4_; subst f5_)); have HRb180 := Aside0.mk gb180_; have HCb180 := Aside0.mk lb180_; clear gb180_ lb180_; obtain ⟨Ab186, cb186, eb186_, lb186_, gb186_⟩ := Kd.R_reads (Kd.R_below (by (with_reducible repeat (first | apply Kd.R_alloc | apply Kd.R_drewN | apply Kd.R_drew)); exact HO172.out) hb); (first | subst eb186_ | (injection eb186_ with f1_ f2_ f3_; have f4_ := f1_.symm; have f5_ := f3_.symm; clear f1_ f2_ f3_; subst f4_; subst f5_)); have HRb186 := Aside0.mk gb186_; have HCb186 := Aside0.mk lb186_; clear gb186_ lb186_; (try clear HO_9); (try clear HO172); (try clear HR177); (try (have n_ := Aside0.mk (Kd.C_below HR0.out hbw_); clear HR0; have HR0 := n_; clear n_)); (try (have n_ := Aside0.mk (OB.below hbw_ HO_t155.out); clear HO_t155; have HO_t155 := n_; clear n_)); (first | (have n_ := Aside0.mk (HB00.out.trans (hbw_.mono HB00.out.size)); clear HB00; have HB00 := n_; clear n_) | have HB00 := Aside0.mk hbw_); clear HB hb hbw_; have HO_t178 := Aside0.mk hob0; clear hob0; obtain ⟨w, rfl⟩ : ∃ w_ : World, w_ = w59 := ⟨_, rfl⟩; have HB := Aside0.mk (Below.refl w.heap.size w)))
                      go_loopg [14, 15] kj14 (fun kq v14 v15 w' => ∃ (x14_3 : List (S23)) (x15_3 : Int), v15 = .int .i64 x15_3 ∧ Aside0 (juratlaw15_OccGrows.l0 kq a1 t157 t170 t178 t179 x14_3 x15_3 = some r) ∧ Aside0 (kq ≤ kj14) ∧ Aside0 (Kd.R k23 23 w' w.heap.size (fun _ => True) v14 x14_3) ∧ Aside0 (Below w.heap.size w w'))
                      case atStart => exact ⟨(([] : List (S23))), (0), (by first | rfl | exact isE_ _ | exact isE2_ _ | (simp; done) | (simp [*]; done)), H', ⟨Nat.le_refl _⟩, ⟨by first | exact Kd.R_nil _ _ _ _ _ | exact Kd.N_nil _ _ _ _ _ | exact Kd.V_nil _ _ _ _ _ | exact Kd.Q_nil _ _ _ _ _ | exact Kd.S_nil _ _ _ _ _⟩, ⟨by repeat (first | (with_reducible first | exact HB.out | apply below_alloc | apply pw_below_drewN | apply below_drew1) | exact HB.out)⟩⟩
                      case round =>
                        clear H'
                        try clear c1
                        try clear p1
                        try clear q1
                        try clear hx1
                        try clear c2
                        try clear p2
                        try clear q3
                        try clear c4
                        try clear q4
                        try clear c5
                        try clear q5
                        try clear c6
                        try clear p6
                        try clear c7
                        try clear c7b0
                        try clear c7b1
                        try clear c8
                        try clear c13
                        try clear c13b0
                        try clear c13b1
                        try clear c13b2
                        try clear p16
                        try clear q16
                        try clear hx16
                        try clear c18
                        try clear c19
                        try clear c19b0
                        try clear c19b1
                        try clear c20
                        try clear c22
                        try clear c22b0
                        try clear c22b1
                        try clear c23
                        try clear c23b0
                        try clear c23b1
                        try clear c25
                        try clear c27
                        try clear c28
                        try clear c28b0
                        try clear c28b1
                        try clear c29
                        try clear c29b0
                        try clear c29b1
                        try clear q32
                        try clear q36
                        try clear q40
                        try clear q44
                        try clear c45
                        try clear c47
                        try clear c47b0
                        try clear c47b1
                        try clear c53
                        try clear c53b0
                        try clear c53b1
                        try clear c54
                        try clear c54b0
                        try clear c54b1
                        try clear q58
                        try clear hx169_0
                        try clear hx169_1
                        try clear p1
                        try clear p16
                        try clear p169
                        try clear p2
                        try clear q1
                        try clear q16
                        try clear q169
                        try clear q3
                        try clear q32
                        try clear q36
                        try clear q4
                        try clear q40
                        try clear q44
                        try clear q58
                        obtain ⟨x14_3, x15_3, rfl, HA, HK3, HO_14, HB⟩ := hrel
                        cases gk with
                        | zero => exact absurd HA.out (by simp [juratlaw15_OccGrows.l0])
                        | succ k3 =>
                          have H := HA.out
                          clear HA
                          simp only [juratlaw15_OccGrows.l0] at H
                          by_cases c60 : x15_3 < (t157.length : Int)
                          · rw [if_pos c60] at H
                            have c60b0 : decide (x15_3 < (t157.length : Int)) = true := decide_eq_true c60
                            clear c60
                            by_cases c61 : 0 ≤ x15_3
                            · rw [if_pos c61] at H
                              have c61b0 : decide (0 ≤ x15_3) = true := decide_eq_true c61
                              clear c61
                              by_cases c62 : ((rd_T23 t157 x15_3).f1) < (wrap64 ((t170.length : Int) - 1))
                              · rw [if_pos c62] at H
                                have c62b0 : decide (((rd_T23 t157 x15_3).f1) < (wrap64 ((t170.length : Int) - 1))) = true := decide_eq_true c62
                                have c62b9 : decide (((rd_T23 t157 x15_3).f1) < ji52) = true := by first | (rw [← hji52w, i64_w]; exact c62b0) | (rw [← hji52]; exact c62b0)
                                clear c62
                                by_cases c63 : x14_3.length < 8796093022208
                                · rw [if_pos c63] at H
                                  have LMc63 := Aside0.mk c63
                                  clear c63
                                  obtain ⟨y189, hy189⟩ : ∃ y_ : List (S23), y_ = (x14_3 ++ [(⟨(rd_T23 t157 x15_3).f0, (rd_T23 t157 x15_3).f1⟩ : S23)]) := ⟨_, rfl⟩
                                  replace H : (juratlaw15_OccGrows.l0 k3 a1 t157 t170 t178 t179 y189 (wrap64 (x15_3 + 1))) = some r := by first | (rw [hy189]; with_reducible exact H) | (have H2_ := (Option.bind_some _ _).symm.trans H; rw [hy189]; with_reducible exact H2_) | (have H2_ := (Option.bind_some _ _).symm.trans H; with_reducible exact H2_) | with_reducible exact H | (rw [hy189]; exact H) | exact H
                                  have Ny189 := Aside0.mk hy189
                                  clear hy189
                                  have H' := Aside0.mk H
                                  clear H
                                  have p187 : 0 ≤ (x15_3 : Int) := of_decide_eq_true (by first | (with_reducible assumption) | assumption)
                                  have q187 : x15_3 < (t157.length : Int) := of_decide_eq_true (by first | (with_reducible assumption) | assumption)
                                  obtain ⟨ad187, e187, hx187_0, hx187_1⟩ := at_T23 HRb180.out x15_3 p187 q187
                                  cases e187
                                  replace hx187_0 := (HB.out.cell (World.block_lt_of_cell? w _ hx187_0)).trans hx187_0
                                  replace hx187_1 := (HB.out.cell (World.block_lt_of_cell? w _ hx187_1)).trans hx187_1
                                  replace p187 := eq_true p187
                                  replace q187 := eq_true q187
                                  have p188 : 0 ≤ (x15_3 : Int) := of_decide_eq_true (by first | (with_reducible assumption) | assumption)
                                  have q188 : x15_3 < (t157.length : Int) := of_decide_eq_true (by first | (with_reducible assumption) | assumption)
                                  obtain ⟨ad188, e188, hx188_0, hx188_1⟩ := at_T23 HRb180.out x15_3 p188 q188
                                  obtain rfl : ad187 = ad188 := (by injection e188)
                                  replace hx188_0 := (HB.out.cell (World.block_lt_of_cell? w _ hx188_0)).trans hx188_0
                                  replace hx188_1 := (HB.out.cell (World.block_lt_of_cell? w _ hx188_1)).trans hx188_1
                                  replace p188 := eq_true p188
                                  replace q188 := eq_true q188
                                  go_wp2_with (first | ((with_reducible refine gate_builtin (b := .append) (xs := #[.tmp 110, .tmp 115]) rfl ?_); (try (refine gate_guard (by rfl) ?_; dsimp only)); at_builtin; refine Kd.R_append k23 (w0 := w) w.heap.size rfl (.tmp 110) (.tmp 115) 24 23 (.agg #[(.int .i64 0), (.int .i64 0)]) 16 rfl Try.underlying24 info23 rfl (by decide) (by omega) u14 x14_3 (⟨(rd_T23 t157 x15_3).f0, (rd_T23 t157 x15_3).f1⟩ : S23) [.int .i64 ((rd_T23 t157 x15_3).f0), .int .i64 ((rd_T23 t157 x15_3).f1)] (fun _ => True) (fun _ => False) rfl rfl ?aP (fun _ hk => hk.elim) ?aF ?aO ?aB ?aS ?aL ?_; (case aP => exact k23_mkM _ _ _ (⟨(rd_T23 t157 x15_3).f0, (rd_T23 t157 x15_3).f1⟩ : S23)); (case aB => exact (by repeat (first | (with_reducible first | exact HB.out | apply below_alloc | apply pw_below_drewN | apply below_drew1) | exact HB.out))); (case aF => exact (fun _ _ => trivial)); (case aO => exact (by (with_reducible repeat (first | apply Kd.R_alloc | apply Kd.R_drewN | apply Kd.R_drew)); exact HO_14.out)); (case aS => exact (below_size (by repeat (first | (with_reducible first | exact HB.out | apply below_alloc | apply pw_below_drewN | apply below_drew1) | exact HB.out)))); (case aL => have := LMc63.out; omega); intro v190 w64 ho hb hg hat; rw [← Ny189.out] at ho; have n0_ := Aside0.mk (hb); have n1_ := Aside0.mk (ho); clear HB; clear HO_14; have HB := n0_; have HO191 := n1_; clear n0_ n1_; clear ho hb hg hat))
                                  go_roundg k3
                                  case measure => have := HJ3.out; have := HJ14.out; have := HK3.out; omega
                                  case rel => exact ⟨(y189), (wrap64 (x15_3 + 1)), (by first | rfl | exact isE_ _ | exact isE2_ _ | (simp; done) | (simp [*]; done)), H', ⟨by have := HJ3.out; have := HJ14.out; have := HK3.out; omega⟩, ⟨by (with_reducible repeat (first | apply Kd.R_alloc | apply Kd.R_drewN | apply Kd.R_drew)); exact HO191.out⟩, ⟨by repeat (first | (with_reducible first | exact HB.out | apply below_alloc | apply pw_below_drewN | apply below_drew1) | exact HB.out)⟩⟩
                                · rw [if_neg c63] at H
                                  exact absurd H (by simp)
                              · rw [if_neg c62] at H
                                have c62b0 : decide (((rd_T23 t157 x15_3).f1) < (wrap64 ((t170.length : Int) - 1))) = false := decide_eq_false c62
                                have c62b9 : decide (((rd_T23 t157 x15_3).f1) < ji52) = false := by first | (rw [← hji52w, i64_w]; exact c62b0) | (rw [← hji52]; exact c62b0)
                                clear c62
                                have H' := Aside0.mk H
                                clear H
                                have p187 : 0 ≤ (x15_3 : Int) := of_decide_eq_true (by first | (with_reducible assumption) | assumption)
                                have q187 : x15_3 < (t157.length : Int) := of_decide_eq_true (by first | (with_reducible assumption) | assumption)
                                obtain ⟨ad187, e187, hx187_0, hx187_1⟩ := at_T23 HRb180.out x15_3 p187 q187
                                cases e187
                                replace hx187_0 := (HB.out.cell (World.block_lt_of_cell? w _ hx187_0)).trans hx187_0
                                replace hx187_1 := (HB.out.cell (World.block_lt_of_cell? w _ hx187_1)).trans hx187_1
                                replace p187 := eq_true p187
                                replace q187 := eq_true q187
                                go_wp2
                                go_roundg k3
                                case measure => have := HJ3.out; have := HJ14.out; have := HK3.out; omega
                                case rel => exact ⟨(x14_3), (wrap64 (x15_3 + 1)), (by first | rfl | exact isE_ _ | exact isE2_ _ | (simp; done) | (simp [*]; done)), H', ⟨by have := HJ3.out; have := HJ14.out; have := HK3.out; omega⟩, ⟨by (with_reducible repeat (first | apply Kd.R_alloc | apply Kd.R_drewN | apply Kd.R_drew)); exact HO_14.out⟩, ⟨by repeat (first | (with_reducible first | exact HB.out | apply below_alloc | apply pw_below_drewN | apply below_drew1) | exact HB.out)⟩⟩
                            · rw [if_neg c61] at H
                              exact absurd H (by simp)
                          · rw [if_neg c60] at H
                            have c60b0 : decide (x15_3 < (t157.length : Int)) = false := decide_eq_false c60
                            clear c60
                            by_cases c65 : t179 = 0
                            · rw [if_pos c65] at H
                              have c65b0 : (t179 == 0) = true := beq_iff_eq.mpr c65
                              have c65b1 : (t179 != 0) = false := bne_eq_false_iff_eq.mpr c65
                              clear c65
                              replace H := Option.bind_eq_some_iff.mp H
                              obtain ⟨t192, A660, H⟩ := H
                              replace H : ((juratref15_Same.f k3 t192 x14_3).bind fun t195 => (if t195 = true then ((juratlaw15_awake.f k3).bind fun t196 => (some t196)) else (some false))) = some r := H
                              have A66 := Aside0.mk A660
                              clear A660
                              replace H := Option.bind_eq_some_iff.mp H
                              obtain ⟨t195, A670, H⟩ := H
                              replace H : (if t195 = true then ((juratlaw15_awake.f k3).bind fun t196 => (some t196)) else (some false)) = some r := H
                              have A67 := Aside0.mk A670
                              clear A670
                              by_cases c68 : t195 = true
                              · subst c68
                                have H1 : ((juratlaw15_awake.f k3).bind fun t196 => (some t196)) = some r := by rw [if_pos rfl] at H; exact H
                                clear H
                                have H := H1
                                clear H1
                                replace H := Option.bind_eq_some_iff.mp H
                                obtain ⟨t196, A690, H⟩ := H
                                replace H : (some t196) = some r := H
                                have A69 := Aside0.mk A690
                                clear A690
                                obtain rfl := Option.some.inj H
                                go_wp2_with (first | (go_at_call 20; (with_reducible refine (occ_All.calls _ t178 a1 t192 _ ?side1 A66.out).mono ?_); (case side1 => first | exact HO_t178.out | exact OB.drewN HO_t178.out _ | exact OB.below (by repeat (first | (with_reducible first | exact HB.out | apply below_alloc | apply pw_below_drewN | apply below_drew1) | exact HB.out)) HO_t178.out); rintro e w70 ⟨v193, rfl, ho0, hb⟩; have n0_ := Aside0.mk (Kd.R_elder' (by (with_reducible repeat (first | apply Kd.R_alloc | apply Kd.R_drewN | apply Kd.R_drew)); exact HO_14.out) (Kd.R_base ho0) hb); have n1_ := Aside0.mk (Kd.R_lower (Kd.R_new' ho0 (Kd.R_lt (by (with_reducible repeat (first | apply Kd.R_alloc | apply Kd.R_drewN | apply Kd.R_drew)); exact HO_14.out))) (below_size (by repeat (first | (with_reducible first | exact HB.out | apply below_alloc | apply pw_below_drewN | apply below_drew1) | exact HB.out)))); have n2_ := Aside0.mk (below_step (by repeat (first | (with_reducible first | exact HB.out | apply below_alloc | apply pw_below_drewN | apply below_drew1) | exact HB.out)) hb); clear HO_14; clear HB; have HO_14 := n0_; have HO194 := n1_; have HB := n2_; clear n0_ n1_ n2_; (try clear hb); (try clear hb2); (try clear hk); (try clear hi); (try clear ho0); obtain ⟨Ao71, co71, eo71⟩ := Kd.R_slice HO194.out; subst eo71; obtain ⟨Ao72, co72, eo72⟩ := Kd.R_slice HO_14.out; subst eo72) | (go_at_call 21; (with_reducible refine (juratref15_Same.calls k3 _ _ t192 _ _ x14_3 true _ ?side1 ?side2 ?side3 ?side4 A67.out).mono ?_); (case side1 => repeat (first | exact (Kd.R_reads' HO194.out).2.2 | (with_reducible refine Kd.C_alloc ?_ _) | (with_reducible refine Kd.C_drewN ?_ _) | (with_reducible refine Kd.C_drew ?_))); (case side2 => exact (Kd.R_reads' HO194.out).2.1); (case side3 => repeat (first | exact (Kd.R_reads' HO_14.out).2.2 | (with_reducible refine Kd.C_alloc ?_ _) | (with_reducible refine Kd.C_drewN ?_ _) | (with_reducible refine Kd.C_drew ?_))); (case side4 => exact (Kd.R_reads' HO_14.out).2.1); rintro e w' ⟨rfl, ⟨nd, rfl⟩⟩) | (go_at_call 13; (with_reducible refine (juratlaw15_awake.calls k3  t196 _ A69.out).mono ?_); rintro e w73 ⟨rfl, hb⟩; have n0_ := Aside0.mk (Kd.R_below (by (with_reducible repeat (first | apply Kd.R_alloc | apply Kd.R_drewN | apply Kd.R_drew)); exact HO_14.out) hb); have n1_ := Aside0.mk (Kd.R_below (by (with_reducible repeat (first | apply Kd.R_alloc | apply Kd.R_drewN | apply Kd.R_drew)); exact HO194.out) hb); have n2_ := Aside0.mk (below_step (by repeat (first | (with_reducible first | exact HB.out | apply below_alloc | apply pw_below_drewN | apply below_drew1) | exact HB.out)) hb); clear HO_14; clear HO194; clear HB; have HO_14 := n0_; have HO194 := n1_; have HB := n2_; clear n0_ n1_ n2_; (try clear hb); (try clear hb2); (try clear hk); (try clear hi)))
                                go_ret
                                exact ⟨by first | rfl | (simp [errW_none, errW_some] <;> rfl) | (simp only [← hji52]; first | rfl | (simp [errW_none, errW_some] <;> rfl)) | (simp [*, errW_none, errW_some] <;> rfl), by first | (refine HB00.out.trans (Below.mono ?_ HB00.out.size); (repeat (first | (with_reducible first | exact HB.out | apply below_alloc | apply pw_below_drewN | apply below_drew1) | exact HB.out))) | (repeat (first | (with_reducible first | exact HB.out | apply below_alloc | apply pw_below_drewN | apply below_drew1) | exact HB.out))⟩
                              · replace c68 := Bool.eq_false_iff.mpr c68
                                subst c68
                                have H1 : (some false) = some r := by rw [if_neg (show ¬ (false = true) by decide)] at H; exact H
                                clear H
                                have H := H1
                                clear H1
                                obtain rfl := Option.some.inj H
                                go_wp2_with (first | (go_at_call 20; (with_reducible refine (occ_All.calls _ t178 a1 t192 _ ?side1 A66.out).mono ?_); (case side1 => first | exact HO_t178.out | exact OB.drewN HO_t178.out _ | exact OB.below (by repeat (first | (with_reducible first | exact HB.out | apply below_alloc | apply pw_below_drewN | apply below_drew1) | exact HB.out)) HO_t178.out); rintro e w74 ⟨v193, rfl, ho0, hb⟩; have n0_ := Aside0.mk (Kd.R_elder' (by (with_reducible repeat (first | apply Kd.R_alloc | apply Kd.R_drewN | apply Kd.R_drew)); exact HO_14.out) (Kd.R_base ho0) hb); have n1_ := Aside0.mk (Kd.R_lower (Kd.R_new' ho0 (Kd.R_lt (by (with_reducible repeat (first | apply Kd.R_alloc | apply Kd.R_drewN | apply Kd.R_drew)); exact HO_14.out))) (below_size (by repeat (first | (with_reducible first | exact HB.out | apply below_alloc | apply pw_below_drewN | apply below_drew1) | exact HB.out)))); have n2_ := Aside0.mk (below_step (by repeat (first | (with_reducible first | exact HB.out | apply below_alloc | apply pw_below_drewN | apply below_drew1) | exact HB.out)) hb); clear HO_14; clear HB; have HO_14 := n0_; have HO194 := n1_; have HB := n2_; clear n0_ n1_ n2_; (try clear hb); (try clear hb2); (try clear hk); (try clear hi); (try clear ho0); obtain ⟨Ao75, co75, eo75⟩ := Kd.R_slice HO194.out; subst eo75; obtain ⟨Ao76, co76, eo76⟩ := Kd.R_slice HO_14.out; subst eo76) | (go_at_call 21; (with_reducible refine (juratref15_Same.calls k3 _ _ t192 _ _ x14_3 false _ ?side1 ?side2 ?side3 ?side4 A67.out).mono ?_); (case side1 => repeat (first | exact (Kd.R_reads' HO194.out).2.2 | (with_reducible refine Kd.C_alloc ?_ _) | (with_reducible refine Kd.C_drewN ?_ _) | (with_reducible refine Kd.C_drew ?_))); (case side2 => exact (Kd.R_reads' HO194.out).2.1); (case side3 => repeat (first | exact (Kd.R_reads' HO_14.out).2.2 | (with_reducible refine Kd.C_alloc ?_ _) | (with_reducible refine Kd.C_drewN ?_ _) | (with_reducible refine Kd.C_drew ?_))); (case side4 => exact (Kd.R_reads' HO_14.out).2.1); rintro e w' ⟨rfl, ⟨nd, rfl⟩⟩))
                                go_ret
                                exact ⟨by first | rfl | (simp [errW_none, errW_some] <;> rfl) | (simp only [← hji52]; first | rfl | (simp [errW_none, errW_some] <;> rfl)) | (simp [*, errW_none, errW_some] <;> rfl), by first | (refine HB00.out.trans (Below.mono ?_ HB00.out.size); (repeat (first | (with_reducible first | exact HB.out | apply below_alloc | apply pw_below_drewN | apply below_drew1) | exact HB.out))) | (repeat (first | (with_reducible first | exact HB.out | apply below_alloc | apply pw_below_drewN | apply below_drew1) | exact HB.out))⟩
                            · rw [if_neg c65] at H
                              have c65b0 : (t179 == 0) = false := beq_eq_false_iff_ne.mpr c65
                              have c65b1 : (t179 != 0) = true := bne_iff_ne.mpr c65
                              obtain rfl := Option.some.inj H
                              go_wp2
                              go_ret
                              exact ⟨by first | rfl | (simp [errW_none, errW_some] <;> rfl) | (simp only [← hji52]; first | rfl | (simp [errW_none, errW_some] <;> rfl)) | (simp [*, errW_none, errW_some] <;> rfl), by first | (refine HB00.out.trans (Below.mono ?_ HB00.out.size); (repeat (first | (with_reducible first | exact HB.out | apply below_alloc | apply pw_below_drewN | apply below_drew1) | exact HB.out))) | (repeat (first | (with_reducible first | exact HB.out | apply below_alloc | apply pw_below_drewN | apply below_drew1) | exact HB.out))⟩
                    · rw [if_neg c54] at H
                      exact absurd H (by simp)
                  · rw [if_neg c53] at H
                    exact absurd H (by simp)
        · rw [if_neg c13] at H
          exact absurd H (by simp)

end Go.Proofs.Ytekdmkdidnnpbaa.P

/- Where a text stands in another one, as layer 8's reference finds it; no condition beyond the sizes that stand in each statement. -/
namespace Go.Proofs.Ytekdmkdidnnpbaa.Base
open Go Go.RowKit Go.Proofs.YtekdmkdidnnpbaaW.PrintWords Go.Proofs.YtekdmkdidnnpbaaW.PrintMore Go.Proofs.Ytekdmkdidnnpbaa.P
set_option linter.unusedVariables false

/-- Does a text stand at a place? -/
def stands (s t : ByteArray) (p : Nat) : Prop := p + t.size ≤ s.size ∧ ((LL s).drop p).take t.size = LL t
instance (s t : ByteArray) (p : Nat) : Decidable (stands s t p) := inferInstanceAs (Decidable (_ ∧ _))
/-- The places from one on. -/
def occF (s t : ByteArray) : Nat → Nat → List Int
  | 0, _ => []
  | d + 1, i => if i + t.size ≤ s.size ∧ t.size ≠ 0 then (if stands s t i then (i : Int) :: occF s t d (i + 1) else occF s t d (i + 1)) else []
def occB (s t : ByteArray) : List Int := occF s t (s.size + 2) 0
theorem stands_extract {s t : ByteArray} {i : Nat} (h : i + t.size ≤ s.size) : (s.extract i (i + t.size)).toList = t.toList ↔ stands s t i := by
  rw [toList_iff, LL_iff, LL_extract, List.drop_take, Nat.add_sub_cancel_left]
  exact ⟨fun e => ⟨h, e⟩, fun e => e.2⟩
theorem occF_length (s t : ByteArray) : ∀ d i, (occF s t d i).length ≤ d
  | 0, _ => Nat.le_refl _
  | d + 1, i => by
    have := occF_length s t d (i + 1)
    simp only [occF]
    split
    · split
      · rw [List.length_cons]; omega
      · omega
    · simp
theorem occF_mem (s t : ByteArray) (q : Int) : ∀ d i, s.size < i + d → (q ∈ occF s t d i ↔ ∃ p : Nat, q = p ∧ i ≤ p ∧ t.size ≠ 0 ∧ stands s t p)
  | 0, i, h => by
    simp only [occF, List.not_mem_nil, false_iff]
    rintro ⟨p, _, h1, _, h2, _⟩
    omega
  | d + 1, i, h => by
    have ih := occF_mem s t q d (i + 1) (by omega)
    simp only [occF]
    by_cases h1 : i + t.size ≤ s.size ∧ t.size ≠ 0
    · rw [if_pos h1]
      by_cases h2 : stands s t i
      · rw [if_pos h2, List.mem_cons, ih]
        constructor
        · rintro (rfl | ⟨p, rfl, h3, h4, h5⟩)
          · exact ⟨i, rfl, Nat.le_refl _, h1.2, h2⟩
          · exact ⟨p, rfl, by omega, h4, h5⟩
        · rintro ⟨p, rfl, h3, h4, h5⟩
          by_cases h6 : p = i
          · exact .inl (by rw [h6])
          · exact .inr ⟨p, rfl, by omega, h4, h5⟩
      · rw [if_neg h2, ih]
        constructor
        · rintro ⟨p, rfl, h3, h4, h5⟩
          exact ⟨p, rfl, by omega, h4, h5⟩
        · rintro ⟨p, rfl, h3, h4, h5⟩
          refine ⟨p, rfl, ?_, h4, h5⟩
          by_cases h6 : p = i
          · subst h6; exact absurd h5 h2
          · omega
    · rw [if_neg h1]
      simp only [List.not_mem_nil, false_iff]
      rintro ⟨p, _, h3, h4, h5, _⟩
      exact h1 ⟨by omega, h4⟩
theorem occB_mem (s t : ByteArray) (q : Int) : q ∈ occB s t ↔ ∃ p : Nat, q = p ∧ t.size ≠ 0 ∧ stands s t p := by
  unfold occB
  rw [occF_mem s t q _ 0 (by omega)]
  exact ⟨fun ⟨p, h1, _, h2⟩ => ⟨p, h1, h2⟩, fun ⟨p, h1, h2⟩ => ⟨p, h1, Nat.zero_le _, h2⟩⟩
theorem occB_length (s t : ByteArray) : (occB s t).length ≤ s.size + 2 := occF_length s t _ _

end Go.Proofs.Ytekdmkdidnnpbaa.Base

/- Proved here: what Go functions of this seat compute, or a law of it; no condition beyond the statement's own. Written for this claim by a program of this session (wip/myprint.py) over the kit's print.py. -/
namespace Go.Proofs.Ytekdmkdidnnpbaa.P
open Go.RowKit Go.Proofs.YtekdmkdidnnpbaaW.PrintWords Go.Proofs.YtekdmkdidnnpbaaW.PrintLast Go.Proofs.YtekdmkdidnnpbaaW.PrintMore
attribute [local go_sem] max2_int min2_int max_two min_two max_three min_three max_four min_four   -- for this text's walks alone
set_option linter.unusedVariables false
set_option linter.unusedSimpArgs false

/-! ### juratref15_Stands: function 69 -/
def juratref15_Stands.f (a0 : ByteArray) (a1 : ByteArray) (a2 : Int) : Option (Bool) := if a2 ≥ (a0.size : Int) then (if a2 ≤ (a1.size : Int) then (if 0 ≤ (wrap64 (a2 - (a0.size : Int))) then (if (wrap64 (a2 - (a0.size : Int))) ≤ a2 then (some ((a1.extract ((wrap64 (a2 - (a0.size : Int))) : Int).toNat (a2 : Int).toNat).toList == a0.toList)) else (none)) else (none)) else (some false)) else (some false)
set_option maxHeartbeats 8000000 in
set_option maxRecDepth 100000 in
theorem juratref15_Stands.calls (a0 : ByteArray) (a1 : ByteArray) (a2 : Int) (r : Bool) (w : World) (h : juratref15_Stands.f a0 a1 a2 = some r) :
    Calls Try.prog 69 #[.string a0, .string a1, .int .i64 a2] w fun e w' => e = .returned (.bool r) ∧ Drawn0 w w' := by
  have H : (if a2 ≥ (a0.size : Int) then (if a2 ≤ (a1.size : Int) then (if 0 ≤ (wrap64 (a2 - (a0.size : Int))) then (if (wrap64 (a2 - (a0.size : Int))) ≤ a2 then (some ((a1.extract ((wrap64 (a2 - (a0.size : Int))) : Int).toNat (a2 : Int).toNat).toList == a0.toList)) else (none)) else (none)) else (some false)) else (some false)) = some r := h
  clear h
  by_cases c4 : a2 ≥ (a0.size : Int)
  · rw [if_pos c4] at H
    have c4b0 : decide ((a0.size : Int) ≤ a2) = true := decide_eq_true c4
    clear c4
    by_cases c5 : a2 ≤ (a1.size : Int)
    · rw [if_pos c5] at H
      have c5b0 : decide (a2 ≤ (a1.size : Int)) = true := decide_eq_true c5
      clear c5
      obtain ⟨ji6, hji6⟩ : ∃ j_ : Int, (wrap64 (a2 - (a0.size : Int))) = j_ := ⟨_, rfl⟩
      replace H : (if 0 ≤ (ji6) then (if (ji6) ≤ a2 then (some ((a1.extract ((ji6) : Int).toNat (a2 : Int).toNat).toList == a0.toList)) else (none)) else (none)) = some r := by first | (rw [hji6] at H; exact H) | (simp only [hji6] at H ⊢; exact H)
      have hji6w : (IntKind.i64.wrap (a2 - (a0.size : Int))) = ji6 := (i64_w _).trans hji6
      by_cases c7 : 0 ≤ (ji6)
      · rw [if_pos c7] at H
        have c7b0 := eq_true c7
        have c7b1 : decide (0 ≤ (ji6)) = true := decide_eq_true c7
        clear c7
        by_cases c8 : (ji6) ≤ a2
        · rw [if_pos c8] at H
          have c8b0 := eq_true c8
          have c8b1 : decide ((ji6) ≤ a2) = true := decide_eq_true c8
          clear c8
          have c9b0 := eq_true (of_decide_eq_true (by first | (with_reducible assumption) | assumption) : a2 ≤ (a1.size : Int))
          obtain rfl := Option.some.inj H
          go_enter Try.func69, Try.ntmps69
          go_wp2
          go_ret
          exact ⟨by first | rfl | (simp; done) | (simp only [← hji6] <;> (first | rfl | simp)) | (simp [*]; done), by repeat (first | exact Drawn0.refl _ | apply Drawn0.step)⟩
        · rw [if_neg c8] at H
          exact absurd H (by simp)
      · rw [if_neg c7] at H
        exact absurd H (by simp)
    · rw [if_neg c5] at H
      have c5b0 : decide (a2 ≤ (a1.size : Int)) = false := decide_eq_false c5
      clear c5
      obtain rfl := Option.some.inj H
      go_enter Try.func69, Try.ntmps69
      go_wp2
      go_ret
      exact ⟨by first | rfl | (simp; done) | (simp [*]; done), by repeat (first | exact Drawn0.refl _ | apply Drawn0.step)⟩
  · rw [if_neg c4] at H
    have c4b0 : decide ((a0.size : Int) ≤ a2) = false := decide_eq_false c4
    clear c4
    obtain rfl := Option.some.inj H
    go_enter Try.func69, Try.ntmps69
    go_wp2
    go_ret
    exact ⟨by first | rfl | (simp; done) | (simp [*]; done), by repeat (first | exact Drawn0.refl _ | apply Drawn0.step)⟩

end Go.Proofs.Ytekdmkdidnnpbaa.P

/- Proved here: what Go functions of this seat compute, or a law of it; no condition beyond the statement's own. Written for this claim by a program of this session (wip/myprint.py) over the kit's print.py. -/
namespace Go.Proofs.Ytekdmkdidnnpbaa.P
open Go.RowKit Go.Proofs.YtekdmkdidnnpbaaW.PrintWords Go.Proofs.YtekdmkdidnnpbaaW.PrintLast Go.Proofs.YtekdmkdidnnpbaaW.PrintMore
attribute [local go_sem] max2_int min2_int max_two min_two max_three min_three max_four min_four   -- for this text's walks alone
set_option linter.unusedVariables false
set_option linter.unusedSimpArgs false

/-! ### juratref15_All: function 24 -/
mutual
def juratref15_All.l0 : Nat → List ByteArray → ByteArray → List (S23) → Int → Option ((List (S23)))
  | 0, _, _, _, _ => none
  | k + 1, x0, x1, x5, x6 => if x6 ≤ (x1.size : Int) then (juratref15_All.l1 k x0 x1 x5 x6 0) else (some x5)
def juratref15_All.l1 : Nat → List ByteArray → ByteArray → List (S23) → Int → Int → Option ((List (S23)))
  | 0, _, _, _, _, _ => none
  | k + 1, x0, x1, x5, x6, x7 => if x7 < (x0.length : Int) then (if 0 ≤ x7 then ((juratref15_Stands.f (rdOf ByteArray.empty x0 x7) x1 x6).bind fun t257 => (if t257 = true then (if x5.length < 8796093022208 then (juratref15_All.l1 k x0 x1 (x5 ++ [(⟨x6, x7⟩ : S23)]) x6 (wrap64 (x7 + 1))) else (none)) else (juratref15_All.l1 k x0 x1 x5 x6 (wrap64 (x7 + 1))))) else (none)) else (juratref15_All.l0 k x0 x1 x5 (wrap64 (x6 + 1)))
end
def juratref15_All.f (k : Nat) (l0 : List ByteArray) (a1 : ByteArray) : Option ((List (S23))) := juratref15_All.l0 k l0 a1 (([] : List (S23))) 0
theorem juratref15_All.mono_l : ∀ k, (∀ y0 y1 y2 y3, LeO (juratref15_All.l0 k y0 y1 y2 y3) (juratref15_All.l0 (k + 1) y0 y1 y2 y3)) ∧ (∀ y0 y1 y2 y3 y4, LeO (juratref15_All.l1 k y0 y1 y2 y3 y4) (juratref15_All.l1 (k + 1) y0 y1 y2 y3 y4))
  | 0 => ⟨fun _ _ _ _ r h => by simp [juratref15_All.l0] at h, fun _ _ _ _ _ r h => by simp [juratref15_All.l1] at h⟩
  | k + 1 => by
    obtain ⟨ih0, ih1⟩ := juratref15_All.mono_l k
    refine ⟨?_, ?_⟩
    · intro y0 y1 y2 y3
      unfold juratref15_All.l0
      repeat' first
      | (with_reducible exact ih0 _ _ _ _)
      | (with_reducible exact ih1 _ _ _ _ _)
      | (with_reducible exact LeO.refl _)
      | (with_reducible exact LeO.none _)
      | (with_reducible refine LeO.ite ?_ ?_)
      | (with_reducible refine LeO.bind ?_ (fun _ => ?_))
      | exact ih0 _ _ _ _
      | exact ih1 _ _ _ _ _
      | exact LeO.none _
      | refine LeO.ite ?_ ?_
      | refine LeO.bind ?_ (fun _ => ?_)
    · intro y0 y1 y2 y3 y4
      unfold juratref15_All.l1
      repeat' first
      | (with_reducible exact ih0 _ _ _ _)
      | (with_reducible exact ih1 _ _ _ _ _)
      | (with_reducible exact LeO.refl _)
      | (with_reducible exact LeO.none _)
      | (with_reducible refine LeO.ite ?_ ?_)
      | (with_reducible refine LeO.bind ?_ (fun _ => ?_))
      | exact ih0 _ _ _ _
      | exact ih1 _ _ _ _ _
      | exact LeO.none _
      | refine LeO.ite ?_ ?_
      | refine LeO.bind ?_ (fun _ => ?_)
theorem juratref15_All.mono : ∀ a0 a1 k, LeO (juratref15_All.f k a0 a1) (juratref15_All.f (k + 1) a0 a1) := by
  intro a0 a1 k
  obtain ⟨ih0, ih1⟩ := juratref15_All.mono_l k
  unfold juratref15_All.f
  repeat' first
      | (with_reducible exact ih0 _ _ _ _)
      | (with_reducible exact ih1 _ _ _ _ _)
      | (with_reducible exact LeO.refl _)
      | (with_reducible exact LeO.none _)
      | (with_reducible refine LeO.ite ?_ ?_)
      | (with_reducible refine LeO.bind ?_ (fun _ => ?_))
      | exact ih0 _ _ _ _
      | exact ih1 _ _ _ _ _
      | exact LeO.none _
      | refine LeO.ite ?_ ?_
      | refine LeO.bind ?_ (fun _ => ?_)
set_option maxHeartbeats 8000000 in
set_option maxRecDepth 100000 in
theorem juratref15_All.calls (k : Nat) (A0 : Option Addr) (c0 : Nat) (l0 : List ByteArray) (a1 : ByteArray) (r : List (S23)) (w : World) (hr0 : Kd.C Kd.string w A0 l0.length l0) (hc0 : l0.length ≤ c0) (h : juratref15_All.f k l0 a1 = some r) :
    Calls Try.prog 24 #[.slice A0 l0.length c0, .string a1] w fun e w' => ∃ v0_ : Value, e = .returned (v0_) ∧ Kd.R k23 23 w' w.heap.size (fun _ => True) v0_ r ∧ Below w.heap.size w w' := by
  have hu23 := Try.underlying23
  have HR0 := Aside0.mk hr0
  have HC0 := Aside0.mk hc0
  clear hr0 hc0
  have HB := Aside0.mk (Below.refl w.heap.size w)
  have H : (juratref15_All.l0 k l0 a1 (([] : List (S23))) 0) = some r := h
  clear h
  obtain ⟨y253, hy253⟩ : ∃ y_ : List (S23), y_ = (([] : List (S23))) := ⟨_, rfl⟩
  replace H : (juratref15_All.l0 k l0 a1 y253 0) = some r := by first | (rw [hy253]; with_reducible exact H) | (have H2_ := (Option.bind_some _ _).symm.trans H; rw [hy253]; with_reducible exact H2_) | (have H2_ := (Option.bind_some _ _).symm.trans H; with_reducible exact H2_) | with_reducible exact H | (rw [hy253]; exact H) | exact H
  have Ny253 := Aside0.mk hy253
  clear hy253
  have H' := Aside0.mk H
  clear H
  go_enter Try.func24, Try.ntmps24
  go_wp2_with (first | ((with_reducible refine gate_dst (N := 8) rfl ?_); refine Kd.R_lit k23 _ 23 ?hg (N := 8) ?hd (xs := ([] : List (S23))) (inner := []) (ok := fun _ => True) (okp := fun _ => True) ?hr ?hp (fun _ hk => hk) trivial (Below.refl _ _) (Nat.le_refl _) (by simp) ?_; (case hd => rfl); (case hg => rfl); (case hr => first | (go_simp; done) | (go_simp; rfl)); (case hp => exact (Reps.none _ _)); intro v254 w3 ho4 hb hg_ hnew_; clear hg_ hnew_; (first | rw [← Ny253.out] at ho4 | (simp only [Int.reduceToNat] at ho4; rw [← Ny253.out] at ho4)); have n0_ := Aside0.mk (Kd.R_lower ho4 (below_size (by repeat (first | (with_reducible first | exact HB.out | apply below_alloc | apply pw_below_drewN | apply below_drew1) | exact HB.out)))); have n1_ := Aside0.mk (below_step (by repeat (first | (with_reducible first | exact HB.out | apply below_alloc | apply pw_below_drewN | apply below_drew1) | exact HB.out)) hb); clear HB; have HO255 := n0_; have HB := n1_; clear n0_ n1_; clear hb ho4))
  go_loopg [5, 6] k (fun kq v5 v6 w' => ∃ (x5_1 : List (S23)) (x6_1 : Int), v6 = .int .i64 x6_1 ∧ Aside0 (juratref15_All.l0 kq l0 a1 x5_1 x6_1 = some r) ∧ Aside0 (kq ≤ k) ∧ Aside0 (Kd.R k23 23 w' w.heap.size (fun _ => True) v5 x5_1) ∧ Aside0 (Below w.heap.size w w'))
  case atStart => exact ⟨(y253), (0), (by first | rfl | exact isE_ _ | exact isE2_ _ | (simp; done) | (simp [*]; done)), H', ⟨Nat.le_refl _⟩, ⟨by (with_reducible repeat (first | apply Kd.R_alloc | apply Kd.R_drewN | apply Kd.R_drew)); exact HO255.out⟩, ⟨by repeat (first | (with_reducible first | exact HB.out | apply below_alloc | apply pw_below_drewN | apply below_drew1) | exact HB.out)⟩⟩
  case round =>
    clear H'
    try clear c2
    try clear p2
    obtain ⟨x5_1, x6_1, rfl, HA, HK1, HO_5, HB⟩ := hrel
    cases gk with
    | zero => exact absurd HA.out (by simp [juratref15_All.l0])
    | succ k1 =>
      have H := HA.out
      clear HA
      simp only [juratref15_All.l0] at H
      by_cases c5 : x6_1 ≤ (a1.size : Int)
      · rw [if_pos c5] at H
        have c5b0 : decide (x6_1 ≤ (a1.size : Int)) = true := decide_eq_true c5
        clear c5
        have H' := Aside0.mk H
        clear H
        go_wp2
        go_loopg [5, 7] k1 (fun kq v5 v7 w' => ∃ (x5_2 : List (S23)) (x7_2 : Int), v7 = .int .i64 x7_2 ∧ Aside0 (juratref15_All.l1 kq l0 a1 x5_2 x6_1 x7_2 = some r) ∧ Aside0 (kq ≤ k1) ∧ Aside0 (Kd.R k23 23 w' w.heap.size (fun _ => True) v5 x5_2) ∧ Aside0 (Below w.heap.size w w'))
        case atStart => exact ⟨(x5_1), (0), (by first | rfl | exact isE_ _ | exact isE2_ _ | (simp; done) | (simp [*]; done)), H', ⟨Nat.le_refl _⟩, ⟨by (with_reducible repeat (first | apply Kd.R_alloc | apply Kd.R_drewN | apply Kd.R_drew)); exact HO_5.out⟩, ⟨by repeat (first | (with_reducible first | exact HB.out | apply below_alloc | apply pw_below_drewN | apply below_drew1) | exact HB.out)⟩⟩
        case round =>
          clear H'
          try clear c2
          try clear p2
          try clear c5
          try clear c5b0
          try clear p2
          obtain ⟨x5_2, x7_2, rfl, HA, HK2, HO_5, HB⟩ := hrel
          cases gk with
          | zero => exact absurd HA.out (by simp [juratref15_All.l1])
          | succ k2 =>
            have H := HA.out
            clear HA
            simp only [juratref15_All.l1] at H
            by_cases c6 : x7_2 < (l0.length : Int)
            · rw [if_pos c6] at H
              have c6b0 : decide (x7_2 < (l0.length : Int)) = true := decide_eq_true c6
              clear c6
              by_cases c7 : 0 ≤ x7_2
              · rw [if_pos c7] at H
                have c7b0 : decide (0 ≤ x7_2) = true := decide_eq_true c7
                clear c7
                replace H := Option.bind_eq_some_iff.mp H
                obtain ⟨t257, A80, H⟩ := H
                replace H : (if t257 = true then (if x5_2.length < 8796093022208 then (juratref15_All.l1 k2 l0 a1 (x5_2 ++ [(⟨x6_1, x7_2⟩ : S23)]) x6_1 (wrap64 (x7_2 + 1))) else (none)) else (juratref15_All.l1 k2 l0 a1 x5_2 x6_1 (wrap64 (x7_2 + 1)))) = some r := H
                have A8 := Aside0.mk A80
                clear A80
                by_cases c9 : t257 = true
                · subst c9
                  have H1 : (if x5_2.length < 8796093022208 then (juratref15_All.l1 k2 l0 a1 (x5_2 ++ [(⟨x6_1, x7_2⟩ : S23)]) x6_1 (wrap64 (x7_2 + 1))) else (none)) = some r := by rw [if_pos rfl] at H; exact H
                  clear H
                  have H := H1
                  clear H1
                  by_cases c10 : x5_2.length < 8796093022208
                  · rw [if_pos c10] at H
                    have LMc10 := Aside0.mk c10
                    clear c10
                    obtain ⟨y258, hy258⟩ : ∃ y_ : List (S23), y_ = (x5_2 ++ [(⟨x6_1, x7_2⟩ : S23)]) := ⟨_, rfl⟩
                    replace H : (juratref15_All.l1 k2 l0 a1 y258 x6_1 (wrap64 (x7_2 + 1))) = some r := by first | (rw [hy258]; with_reducible exact H) | (have H2_ := (Option.bind_some _ _).symm.trans H; rw [hy258]; with_reducible exact H2_) | (have H2_ := (Option.bind_some _ _).symm.trans H; with_reducible exact H2_) | with_reducible exact H | (rw [hy258]; exact H) | exact H
                    have Ny258 := Aside0.mk hy258
                    clear hy258
                    have H' := Aside0.mk H
                    clear H
                    have p256 : 0 ≤ (x7_2 : Int) := of_decide_eq_true (by first | (with_reducible assumption) | assumption)
                    have q256 : x7_2 < (l0.length : Int) := of_decide_eq_true (by first | (with_reducible assumption) | assumption)
                    obtain ⟨ad256, e256, hx256_0⟩ := Kd.at_string HR0.out x7_2 p256 q256
                    cases e256
                    replace hx256_0 := (HB.out.cell (World.block_lt_of_cell? w _ hx256_0)).trans hx256_0
                    replace p256 := eq_true p256
                    replace q256 := eq_true q256
                    go_wp2_with (first | ((with_reducible refine gate_callee (f := 69) rfl ?_); refine goesL_ (some 27) rfl rfl Try.func69 (by kernel_rfl) rfl #[.string (rdOf ByteArray.empty l0 x7_2), .string a1, .int .i64 x6_1] rfl (by (try simp only [List.map_toArray, List.map_cons, List.map_nil]); first | done | rfl | (simp only [List.length_drop, List.length_take]; rfl)) ?_; (with_reducible refine (juratref15_Stands.calls (rdOf ByteArray.empty l0 x7_2) a1 x6_1 true _ A8.out).mono ?_); rintro e w' ⟨rfl, ⟨nd, rfl⟩⟩; refine ⟨_, rfl, ?_⟩) | ((with_reducible refine gate_builtin (b := .append) (xs := #[.tmp 28, .tmp 32]) rfl ?_); at_builtin; refine Kd.R_append k23 (w0 := w) w.heap.size rfl (.tmp 28) (.tmp 32) 24 23 (.agg #[(.int .i64 0), (.int .i64 0)]) 16 rfl Try.underlying24 info23 rfl (by decide) (by omega) u5 x5_2 (⟨x6_1, x7_2⟩ : S23) [.int .i64 x6_1, .int .i64 x7_2] (fun _ => True) (fun _ => False) rfl rfl ?aP (fun _ hk => hk.elim) ?aF ?aO ?aB ?aS ?aL ?_; (case aP => exact k23_mkM _ _ _ (⟨x6_1, x7_2⟩ : S23)); (case aB => exact (by repeat (first | (with_reducible first | exact HB.out | apply below_alloc | apply pw_below_drewN | apply below_drew1) | exact HB.out))); (case aF => exact (fun _ _ => trivial)); (case aO => exact (by (with_reducible repeat (first | apply Kd.R_alloc | apply Kd.R_drewN | apply Kd.R_drew)); exact HO_5.out)); (case aS => exact (below_size (by repeat (first | (with_reducible first | exact HB.out | apply below_alloc | apply pw_below_drewN | apply below_drew1) | exact HB.out)))); (case aL => have := LMc10.out; omega); intro v259 w11 ho hb hg hat; rw [← Ny258.out] at ho; have n0_ := Aside0.mk (hb); have n1_ := Aside0.mk (ho); clear HB; clear HO_5; have HB := n0_; have HO260 := n1_; clear n0_ n1_; clear ho hb hg hat))
                    go_roundg k2
                    case measure => have := HK1.out; have := HK2.out; omega
                    case rel => exact ⟨(y258), (wrap64 (x7_2 + 1)), (by first | rfl | exact isE_ _ | exact isE2_ _ | (simp; done) | (simp [*]; done)), H', ⟨by have := HK1.out; have := HK2.out; omega⟩, ⟨by (with_reducible repeat (first | apply Kd.R_alloc | apply Kd.R_drewN | apply Kd.R_drew)); exact HO260.out⟩, ⟨by repeat (first | (with_reducible first | exact HB.out | apply below_alloc | apply pw_below_drewN | apply below_drew1) | exact HB.out)⟩⟩
                  · rw [if_neg c10] at H
                    exact absurd H (by simp)
                · replace c9 := Bool.eq_false_iff.mpr c9
                  subst c9
                  have H1 : (juratref15_All.l1 k2 l0 a1 x5_2 x6_1 (wrap64 (x7_2 + 1))) = some r := by rw [if_neg (show ¬ (false = true) by decide)] at H; exact H
                  clear H
                  have H := H1
                  clear H1
                  have H' := Aside0.mk H
                  clear H
                  have p256 : 0 ≤ (x7_2 : Int) := of_decide_eq_true (by first | (with_reducible assumption) | assumption)
                  have q256 : x7_2 < (l0.length : Int) := of_decide_eq_true (by first | (with_reducible assumption) | assumption)
                  obtain ⟨ad256, e256, hx256_0⟩ := Kd.at_string HR0.out x7_2 p256 q256
                  cases e256
                  replace hx256_0 := (HB.out.cell (World.block_lt_of_cell? w _ hx256_0)).trans hx256_0
                  replace p256 := eq_true p256
                  replace q256 := eq_true q256
                  go_wp2_with (first | ((with_reducible refine gate_callee (f := 69) rfl ?_); refine goesL_ (some 27) rfl rfl Try.func69 (by kernel_rfl) rfl #[.string (rdOf ByteArray.empty l0 x7_2), .string a1, .int .i64 x6_1] rfl (by (try simp only [List.map_toArray, List.map_cons, List.map_nil]); first | done | rfl | (simp only [List.length_drop, List.length_take]; rfl)) ?_; (with_reducible refine (juratref15_Stands.calls (rdOf ByteArray.empty l0 x7_2) a1 x6_1 false _ A8.out).mono ?_); rintro e w' ⟨rfl, ⟨nd, rfl⟩⟩; refine ⟨_, rfl, ?_⟩))
                  go_roundg k2
                  case measure => have := HK1.out; have := HK2.out; omega
                  case rel => exact ⟨(x5_2), (wrap64 (x7_2 + 1)), (by first | rfl | exact isE_ _ | exact isE2_ _ | (simp; done) | (simp [*]; done)), H', ⟨by have := HK1.out; have := HK2.out; omega⟩, ⟨by (with_reducible repeat (first | apply Kd.R_alloc | apply Kd.R_drewN | apply Kd.R_drew)); exact HO_5.out⟩, ⟨by repeat (first | (with_reducible first | exact HB.out | apply below_alloc | apply pw_below_drewN | apply below_drew1) | exact HB.out)⟩⟩
              · rw [if_neg c7] at H
                exact absurd H (by simp)
            · rw [if_neg c6] at H
              have c6b0 : decide (x7_2 < (l0.length : Int)) = false := decide_eq_false c6
              clear c6
              have H' := Aside0.mk H
              clear H
              go_wp2
              go_roundg k2
              case measure => have := HK1.out; have := HK2.out; omega
              case rel => exact ⟨(x5_2), (wrap64 (x6_1 + 1)), (by first | rfl | exact isE_ _ | exact isE2_ _ | (simp; done) | (simp [*]; done)), H', ⟨by have := HK1.out; have := HK2.out; omega⟩, ⟨by (with_reducible repeat (first | apply Kd.R_alloc | apply Kd.R_drewN | apply Kd.R_drew)); exact HO_5.out⟩, ⟨by repeat (first | (with_reducible first | exact HB.out | apply below_alloc | apply pw_below_drewN | apply below_drew1) | exact HB.out)⟩⟩
      · rw [if_neg c5] at H
        have c5b0 : decide (x6_1 ≤ (a1.size : Int)) = false := decide_eq_false c5
        clear c5
        obtain rfl := Option.some.inj H
        go_wp2
        go_ret
        exact ⟨_, by first | rfl | (simp [errW_none, errW_some] <;> rfl) | (simp [*, errW_none, errW_some] <;> rfl), by (with_reducible repeat (first | apply Kd.R_alloc | apply Kd.R_drewN | apply Kd.R_drew)); exact HO_5.out, by repeat (first | (with_reducible first | exact HB.out | apply below_alloc | apply pw_below_drewN | apply below_drew1) | exact HB.out)⟩

end Go.Proofs.Ytekdmkdidnnpbaa.P

/- The hits of patterns in a text, as layer 15's reference tells them; no condition beyond the sizes that stand in each statement. -/
namespace Go.Proofs.Ytekdmkdidnnpbaa.Base
open Go Go.RowKit Go.Proofs.YtekdmkdidnnpbaaW.PrintWords Go.Proofs.YtekdmkdidnnpbaaW.PrintMore Go.Proofs.Ytekdmkdidnnpbaa.P
set_option linter.unusedVariables false

/-- Does a pattern end at an end of a text? -/
def standsE (p s : ByteArray) (e : Nat) : Bool := decide (p.size ≤ e ∧ stands s p (e - p.size))
theorem standsE_iff {p s : ByteArray} {e : Nat} : standsE p s e = true ↔ p.size ≤ e ∧ stands s p (e - p.size) := by unfold standsE; exact decide_eq_true_iff
theorem standsE_le {p s : ByteArray} {e : Nat} (h : standsE p s e = true) : e ≤ s.size := by
  obtain ⟨h1, h2, _⟩ := standsE_iff.1 h
  omega
theorem rstands (p s : ByteArray) (e : Nat) (hp : p.size ≤ 1099511627776) (he : e ≤ 1099511627776) : juratref15_Stands.f p s (e : Int) = some (standsE p s e) := by
  unfold juratref15_Stands.f
  by_cases h1 : p.size ≤ e
  · rw [if_pos (by omega)]
    by_cases h2 : e ≤ s.size
    · rw [if_pos (by omega), wrap_id (by omega) (by omega), if_pos (by omega), if_pos (by omega), Int.toNat_natCast, show ((e : Int) - (p.size : Int)).toNat = e - p.size by omega]
      congr 1
      rw [Bool.eq_iff_iff, beq_iff_eq, standsE_iff]
      have := stands_extract (s := s) (t := p) (i := e - p.size) (by omega)
      rw [show e - p.size + p.size = e by omega] at this
      rw [this]
      exact ⟨fun h => ⟨h1, h⟩, fun h => h.2⟩
    · rw [if_neg (by omega)]
      congr 1
      symm
      rw [Bool.eq_false_iff]
      exact fun h => h2 (standsE_le h)
  · rw [if_neg (by omega)]
    congr 1
    symm
    rw [Bool.eq_false_iff]
    exact fun h => h1 (standsE_iff.1 h).1
/-- The numbers of the patterns that end at an end. -/
def idsF (s : ByteArray) (e : Nat) : List ByteArray → Nat → List Int
  | [], _ => []
  | p :: l, i => if standsE p s e = true then (i : Int) :: idsF s e l (i + 1) else idsF s e l (i + 1)
abbrev idsB (w : List ByteArray) (s : ByteArray) (e : Nat) : List Int := idsF s e w 0
theorem idsF_length (s : ByteArray) (e : Nat) : ∀ (l : List ByteArray) (i : Nat), (idsF s e l i).length ≤ l.length
  | [], _ => Nat.le_refl _
  | p :: l, i => by
    have := idsF_length s e l (i + 1)
    simp only [idsF, List.length_cons]
    split
    · rw [List.length_cons]; omega
    · omega
theorem idsF_mem (s : ByteArray) (e : Nat) (q : Int) : ∀ (l : List ByteArray) (i : Nat), q ∈ idsF s e l i ↔ ∃ j, j < l.length ∧ q = ((i + j : Nat) : Int) ∧ standsE (l.getD j ByteArray.empty) s e = true
  | [], i => by simp [idsF]
  | p :: l, i => by
    have ih := idsF_mem s e q l (i + 1)
    have tail : (q ∈ idsF s e l (i + 1)) ↔ ∃ j, j + 1 < (p :: l).length ∧ q = ((i + (j + 1) : Nat) : Int) ∧ standsE ((p :: l).getD (j + 1) ByteArray.empty) s e = true := by
      rw [ih]
      constructor
      · rintro ⟨j, h1, h2, h3⟩
        exact ⟨j, by rw [List.length_cons]; omega, by rw [h2]; congr 1; omega, by rw [List.getD_cons_succ]; exact h3⟩
      · rintro ⟨j, h1, h2, h3⟩
        exact ⟨j, by rw [List.length_cons] at h1; omega, by rw [h2]; congr 1; omega, by rw [List.getD_cons_succ] at h3; exact h3⟩
    simp only [idsF]
    by_cases h : standsE p s e = true
    · rw [if_pos h, List.mem_cons, tail]
      constructor
      · rintro (rfl | ⟨j, h1, h2, h3⟩)
        · exact ⟨0, by simp, rfl, by rw [List.getD_cons_zero]; exact h⟩
        · exact ⟨j + 1, h1, h2, h3⟩
      · rintro ⟨j, h1, h2, h3⟩
        cases j with
        | zero => exact .inl h2
        | succ j => exact .inr ⟨j, h1, h2, h3⟩
    · rw [if_neg h, tail]
      constructor
      · rintro ⟨j, h1, h2, h3⟩
        exact ⟨j + 1, h1, h2, h3⟩
      · rintro ⟨j, h1, h2, h3⟩
        cases j with
        | zero => rw [List.getD_cons_zero] at h3; exact absurd h3 h
        | succ j => exact ⟨j, h1, h2, h3⟩
theorem idsB_mem {w : List ByteArray} {s : ByteArray} {e : Nat} {q : Int} : q ∈ idsB w s e ↔ ∃ j, j < w.length ∧ q = (j : Int) ∧ standsE (w.getD j ByteArray.empty) s e = true := by
  rw [idsF_mem]; simp
/-- The hits that end at an end. -/
def hitsAt (w : List ByteArray) (s : ByteArray) (e : Nat) : List S23 := (idsB w s e).map fun i => (⟨(e : Int), i⟩ : S23)
/-- All hits, from one end on. -/
def hitsF (w : List ByteArray) (s : ByteArray) : Nat → Nat → List S23
  | 0, _ => []
  | d + 1, e => hitsAt w s e ++ hitsF w s d (e + 1)
abbrev hitsB (w : List ByteArray) (s : ByteArray) : List S23 := hitsF w s (s.size + 1) 0
theorem hitsF_length (w : List ByteArray) (s : ByteArray) : ∀ d e, (hitsF w s d e).length ≤ d * w.length
  | 0, _ => by simp [hitsF]
  | d + 1, e => by
    have h1 := hitsF_length w s d (e + 1)
    have h2 : (hitsAt w s e).length ≤ w.length := by unfold hitsAt; rw [List.length_map]; exact idsF_length s e w 0
    simp only [hitsF, List.length_append, Nat.succ_mul]
    omega
theorem hitsF_mem {w : List ByteArray} {s : ByteArray} {h : S23} : ∀ d e, h ∈ hitsF w s d e ↔ ∃ a j, e ≤ a ∧ a < e + d ∧ j < w.length ∧ h = (⟨((a : Nat) : Int), (j : Int)⟩ : S23) ∧ standsE (w.getD j ByteArray.empty) s a = true
  | 0, e => by
    simp only [hitsF, List.not_mem_nil, false_iff]
    rintro ⟨a, j, h1, h2, _⟩
    omega
  | d + 1, e => by
    simp only [hitsF, List.mem_append]
    rw [hitsF_mem d (e + 1)]
    have h0 : h ∈ hitsAt w s e ↔ ∃ j, j < w.length ∧ h = (⟨(e : Int), (j : Int)⟩ : S23) ∧ standsE (w.getD j ByteArray.empty) s e = true := by
      unfold hitsAt
      rw [List.mem_map]
      constructor
      · rintro ⟨q, hq, rfl⟩
        obtain ⟨j, h1, rfl, h2⟩ := idsB_mem.1 hq
        exact ⟨j, h1, rfl, h2⟩
      · rintro ⟨j, h1, rfl, h2⟩
        exact ⟨_, idsB_mem.2 ⟨j, h1, rfl, h2⟩, rfl⟩
    rw [h0]
    constructor
    · rintro (⟨j, h1, h2, h3⟩ | ⟨a, j, h1, h2, h3, h4, h5⟩)
      · exact ⟨e, j, Nat.le_refl _, by omega, h1, h2, h3⟩
      · exact ⟨a, j, by omega, by omega, h3, h4, h5⟩
    · rintro ⟨a, j, h1, h2, h3, h4, h5⟩
      by_cases he : a = e
      · subst he; exact .inl ⟨j, h3, h4, h5⟩
      · exact .inr ⟨a, j, by omega, by omega, h3, h4, h5⟩
theorem hitsB_mem {w : List ByteArray} {s : ByteArray} {h : S23} : h ∈ hitsB w s ↔ ∃ a j, a ≤ s.size ∧ j < w.length ∧ h = (⟨((a : Nat) : Int), (j : Int)⟩ : S23) ∧ standsE (w.getD j ByteArray.empty) s a = true := by
  rw [hitsF_mem]
  constructor
  · rintro ⟨a, j, _, h2, h3, h4, h5⟩
    exact ⟨a, j, by omega, h3, h4, h5⟩
  · rintro ⟨a, j, h2, h3, h4, h5⟩
    exact ⟨a, j, by omega, by omega, h3, h4, h5⟩
theorem rall_l1 (w : List ByteArray) (s : ByteArray) (hw : w.length ≤ 65535) (hz : ∀ t ∈ w, t.size ≤ 65535) (e : Nat) (he : e ≤ 1048576) (r : List S23) : ∀ (d i : Nat) (out : List S23), i + d = w.length → out.length + d ≤ 8796093022207 →
    Ev (fun k => juratref15_All.l0 k w s (out ++ (idsF s e (w.drop i) i).map fun i => (⟨(e : Int), i⟩ : S23)) ((e + 1 : Nat) : Int)) r → Ev (fun k => juratref15_All.l1 k w s out (e : Int) (i : Int)) r := by
  intro d
  induction d with
  | zero =>
    intro i out hi ho h
    rw [List.drop_of_length_le (by omega)] at h
    simp only [idsF, List.map_nil, List.append_nil] at h
    refine Ev.step (fun k => ?_) h
    simp only [juratref15_All.l1]
    rw [if_neg (by omega), wrap_id (by omega) (by omega)]
    rfl
  | succ d ih =>
    intro i out hi ho h
    have hd := getD_drop w i ByteArray.empty (by omega)
    have hz1 := hz _ (getD_mem w i ByteArray.empty (by omega))
    have e1 : rdOf ByteArray.empty w (i : Int) = w.getD i ByteArray.empty := rfl
    rw [hd] at h
    have hst := rstands (w.getD i ByteArray.empty) s e (by omega) (by omega)
    simp only [idsF] at h
    by_cases hs : standsE (w.getD i ByteArray.empty) s e = true
    · rw [if_pos hs, List.map_cons, ← List.singleton_append, ← List.append_assoc] at h
      refine Ev.step (fun k => ?_) (ih (i + 1) (out ++ [(⟨(e : Int), (i : Int)⟩ : S23)]) (by omega) (by simp; omega) h)
      simp only [juratref15_All.l1]
      rw [if_pos (by omega), if_pos (by omega), e1, hst]
      simp only [Option.bind_some]
      rw [if_pos hs, if_pos (by omega), wrap_id (by omega) (by omega)]
      rfl
    · rw [if_neg hs] at h
      refine Ev.step (fun k => ?_) (ih (i + 1) out (by omega) (by omega) h)
      simp only [juratref15_All.l1]
      rw [if_pos (by omega), if_pos (by omega), e1, hst]
      simp only [Option.bind_some]
      rw [if_neg hs, wrap_id (by omega) (by omega)]
      rfl
theorem rall_l0 (w : List ByteArray) (s : ByteArray) (hw : w.length ≤ 65535) (hz : ∀ t ∈ w, t.size ≤ 65535) (hs : s.size ≤ 1048575) : ∀ (d e : Nat) (out : List S23), e + d = s.size + 1 → out.length ≤ e * w.length →
    Ev (fun k => juratref15_All.l0 k w s out (e : Int)) (out ++ hitsF w s d e) := by
  intro d
  induction d with
  | zero =>
    intro e out he ho
    refine Ev.ret fun k => ?_
    simp only [juratref15_All.l0, hitsF, List.append_nil]
    rw [if_neg (by omega)]
  | succ d ih =>
    intro e out he ho
    have hm : e * w.length ≤ 1048576 * 65535 := Nat.mul_le_mul (by omega) hw
    have hid : (idsB w s e).length ≤ w.length := idsF_length s e w 0
    have := ih (e + 1) (out ++ hitsAt w s e) (by omega) (by unfold hitsAt; rw [List.length_append, List.length_map, Nat.succ_mul]; omega)
    rw [List.append_assoc] at this
    refine Ev.step (f := fun k => juratref15_All.l1 k w s out (e : Int) ((0 : Nat) : Int)) (fun k => ?_) (rall_l1 w s hw hz e (by omega) _ w.length 0 out (by omega) (by omega) (by rw [List.drop_zero]; exact this))
    simp only [juratref15_All.l0]
    rw [if_pos (by omega)]
    rfl
theorem rall_ev (w : List ByteArray) (s : ByteArray) (hw : w.length ≤ 65535) (hz : ∀ t ∈ w, t.size ≤ 65535) (hs : s.size ≤ 1048575) : Ev (fun k => juratref15_All.f k w s) (hitsB w s) := by
  have := rall_l0 w s hw hz hs (s.size + 1) 0 [] (by omega) (by simp)
  rw [List.nil_append] at this
  exact this

end Go.Proofs.Ytekdmkdidnnpbaa.Base

/- Proved here: what Go functions of this seat compute, or a law of it; no condition beyond the statement's own. Written for this claim by a program of this session (wip/myprint.py) over the kit's print.py. -/
namespace Go.Proofs.Ytekdmkdidnnpbaa.P
open Go.RowKit Go.Proofs.YtekdmkdidnnpbaaW.PrintWords Go.Proofs.YtekdmkdidnnpbaaW.PrintLast Go.Proofs.YtekdmkdidnnpbaaW.PrintMore
attribute [local go_sem] max2_int min2_int max_two min_two max_three min_three max_four min_four   -- for this text's walks alone
set_option linter.unusedVariables false
set_option linter.unusedSimpArgs false

/-! ### juratref15_Count: function 30 -/
def juratref15_Count.l0 : Nat → ByteArray → ByteArray → Int → Int → Option (Int)
  | 0, _, _, _, _ => none
  | k + 1, x0, x1, x5, x6 => if x6 ≤ (x1.size : Int) then ((juratref15_Stands.f x0 x1 x6).bind fun t291 => (if t291 = true then (juratref15_Count.l0 k x0 x1 (wrap64 (x5 + 1)) (wrap64 (x6 + 1))) else (juratref15_Count.l0 k x0 x1 x5 (wrap64 (x6 + 1))))) else (some x5)
def juratref15_Count.f (k : Nat) (a0 : ByteArray) (a1 : ByteArray) : Option (Int) := juratref15_Count.l0 k a0 a1 0 0
theorem juratref15_Count.mono_l : ∀ k, (∀ y0 y1 y2 y3, LeO (juratref15_Count.l0 k y0 y1 y2 y3) (juratref15_Count.l0 (k + 1) y0 y1 y2 y3))
  | 0 => fun _ _ _ _ r h => by simp [juratref15_Count.l0] at h
  | k + 1 => by
    have ih0 := juratref15_Count.mono_l k
    · intro y0 y1 y2 y3
      unfold juratref15_Count.l0
      repeat' first
      | (with_reducible exact ih0 _ _ _ _)
      | (with_reducible exact LeO.refl _)
      | (with_reducible exact LeO.none _)
      | (with_reducible refine LeO.ite ?_ ?_)
      | (with_reducible refine LeO.bind ?_ (fun _ => ?_))
      | exact ih0 _ _ _ _
      | exact LeO.none _
      | refine LeO.ite ?_ ?_
      | refine LeO.bind ?_ (fun _ => ?_)
theorem juratref15_Count.mono : ∀ a0 a1 k, LeO (juratref15_Count.f k a0 a1) (juratref15_Count.f (k + 1) a0 a1) := by
  intro a0 a1 k
  have ih0 := juratref15_Count.mono_l k
  unfold juratref15_Count.f
  repeat' first
      | (with_reducible exact ih0 _ _ _ _)
      | (with_reducible exact LeO.refl _)
      | (with_reducible exact LeO.none _)
      | (with_reducible refine LeO.ite ?_ ?_)
      | (with_reducible refine LeO.bind ?_ (fun _ => ?_))
      | exact ih0 _ _ _ _
      | exact LeO.none _
      | refine LeO.ite ?_ ?_
      | refine LeO.bind ?_ (fun _ => ?_)
set_option maxHeartbeats 8000000 in
set_option maxRecDepth 100000 in
theorem juratref15_Count.calls (k : Nat) (a0 : ByteArray) (a1 : ByteArray) (r : Int) (w : World) (h : juratref15_Count.f k a0 a1 = some r) :
    Calls Try.prog 30 #[.string a0, .string a1] w fun e w' => e = .returned (.int .i64 r) ∧ Drawn0 w w' := by
  have H : (juratref15_Count.l0 k a0 a1 0 0) = some r := h
  clear h
  have H' := Aside0.mk H
  clear H
  go_enter Try.func30, Try.ntmps30
  go_wp2
  go_loopg [5, 6] k (fun kq v5 v6 w' => ∃ (x5_1 : Int) (x6_1 : Int), v5 = .int .i64 x5_1 ∧ v6 = .int .i64 x6_1 ∧ Aside0 (juratref15_Count.l0 kq a0 a1 x5_1 x6_1 = some r) ∧ Aside0 (kq ≤ k) ∧ Drawn0 w w')
  case atStart => exact ⟨(0), (0), (by first | rfl | exact isE_ _ | exact isE2_ _ | (simp; done) | (simp [*]; done)), (by first | rfl | exact isE_ _ | exact isE2_ _ | (simp; done) | (simp [*]; done)), H', ⟨Nat.le_refl _⟩, by repeat (first | exact Drawn0.refl _ | apply Drawn0.step)⟩
  case round =>
    clear H'
    try clear p2
    obtain ⟨x5_1, x6_1, rfl, rfl, HA, HK1, ⟨m1, rfl⟩⟩ := hrel
    cases gk with
    | zero => exact absurd HA.out (by simp [juratref15_Count.l0])
    | succ k1 =>
      have H := HA.out
      clear HA
      simp only [juratref15_Count.l0] at H
      by_cases c3 : x6_1 ≤ (a1.size : Int)
      · rw [if_pos c3] at H
        have c3b0 : decide (x6_1 ≤ (a1.size : Int)) = true := decide_eq_true c3
        clear c3
        replace H := Option.bind_eq_some_iff.mp H
        obtain ⟨t291, A40, H⟩ := H
        replace H : (if t291 = true then (juratref15_Count.l0 k1 a0 a1 (wrap64 (x5_1 + 1)) (wrap64 (x6_1 + 1))) else (juratref15_Count.l0 k1 a0 a1 x5_1 (wrap64 (x6_1 + 1)))) = some r := H
        have A4 := Aside0.mk A40
        clear A40
        by_cases c5 : t291 = true
        · subst c5
          have H1 : (juratref15_Count.l0 k1 a0 a1 (wrap64 (x5_1 + 1)) (wrap64 (x6_1 + 1))) = some r := by rw [if_pos rfl] at H; exact H
          clear H
          have H := H1
          clear H1
          have H' := Aside0.mk H
          clear H
          go_wp2_with (first | ((with_reducible refine gate_callee (f := 69) rfl ?_); refine goesL_ (some 16) rfl rfl Try.func69 (by kernel_rfl) rfl #[.string a0, .string a1, .int .i64 x6_1] rfl (by (try simp only [List.map_toArray, List.map_cons, List.map_nil]); first | done | rfl | (simp only [List.length_drop, List.length_take]; rfl)) ?_; (with_reducible refine (juratref15_Stands.calls a0 a1 x6_1 true _ A4.out).mono ?_); rintro e w' ⟨rfl, ⟨nd, rfl⟩⟩; refine ⟨_, rfl, ?_⟩))
          go_roundg k1
          case measure => have := HK1.out; omega
          case rel => exact ⟨(wrap64 (x5_1 + 1)), (wrap64 (x6_1 + 1)), (by first | rfl | exact isE_ _ | exact isE2_ _ | (simp; done) | (simp [*]; done)), (by first | rfl | exact isE_ _ | exact isE2_ _ | (simp; done) | (simp [*]; done)), H', ⟨by have := HK1.out; omega⟩, by repeat (first | exact Drawn0.refl _ | apply Drawn0.step)⟩
        · replace c5 := Bool.eq_false_iff.mpr c5
          subst c5
          have H1 : (juratref15_Count.l0 k1 a0 a1 x5_1 (wrap64 (x6_1 + 1))) = some r := by rw [if_neg (show ¬ (false = true) by decide)] at H; exact H
          clear H
          have H := H1
          clear H1
          have H' := Aside0.mk H
          clear H
          go_wp2_with (first | ((with_reducible refine gate_callee (f := 69) rfl ?_); refine goesL_ (some 16) rfl rfl Try.func69 (by kernel_rfl) rfl #[.string a0, .string a1, .int .i64 x6_1] rfl (by (try simp only [List.map_toArray, List.map_cons, List.map_nil]); first | done | rfl | (simp only [List.length_drop, List.length_take]; rfl)) ?_; (with_reducible refine (juratref15_Stands.calls a0 a1 x6_1 false _ A4.out).mono ?_); rintro e w' ⟨rfl, ⟨nd, rfl⟩⟩; refine ⟨_, rfl, ?_⟩))
          go_roundg k1
          case measure => have := HK1.out; omega
          case rel => exact ⟨(x5_1), (wrap64 (x6_1 + 1)), (by first | rfl | exact isE_ _ | exact isE2_ _ | (simp; done) | (simp [*]; done)), (by first | rfl | exact isE_ _ | exact isE2_ _ | (simp; done) | (simp [*]; done)), H', ⟨by have := HK1.out; omega⟩, by repeat (first | exact Drawn0.refl _ | apply Drawn0.step)⟩
      · rw [if_neg c3] at H
        have c3b0 : decide (x6_1 ≤ (a1.size : Int)) = false := decide_eq_false c3
        clear c3
        obtain rfl := Option.some.inj H
        go_wp2
        go_ret
        exact ⟨by first | rfl | (simp; done) | (simp [*]; done), by repeat (first | exact Drawn0.refl _ | apply Drawn0.step)⟩

end Go.Proofs.Ytekdmkdidnnpbaa.P

/- What is told of hits: which comes first, whether they rise, how often each pattern stands; layer 15's and its reference's answers are these; no condition beyond the sizes that stand in each statement. -/
namespace Go.Proofs.Ytekdmkdidnnpbaa.Base
open Go Go.RowKit Go.Proofs.YtekdmkdidnnpbaaW.PrintWords Go.Proofs.YtekdmkdidnnpbaaW.PrintMore Go.Proofs.Ytekdmkdidnnpbaa.P
set_option linter.unusedVariables false

theorem less_trans {a b c : HitS} (h1 : lessH a b = true) (h2 : lessH b c = true) : lessH a c = true := by
  have h1 := of_decide_eq_true h1
  have h2 := of_decide_eq_true h2
  refine decide_eq_true ?_
  omega
theorem idsF_up15 (s : ByteArray) (e : Nat) : ∀ (l : List ByteArray) (i : Nat), (idsF s e l i).Pairwise (· < ·) ∧ ∀ q ∈ idsF s e l i, (i : Int) ≤ q
  | [], i => ⟨List.Pairwise.nil, by simp [idsF]⟩
  | p :: l, i => by
    obtain ⟨h1, h2⟩ := idsF_up15 s e l (i + 1)
    simp only [idsF]
    by_cases h : standsE p s e = true
    · rw [if_pos h]
      refine ⟨List.pairwise_cons.2 ⟨fun q hq => by have := h2 q hq; omega, h1⟩, fun q hq => ?_⟩
      rcases List.mem_cons.1 hq with rfl | hq
      · exact Int.le_refl _
      · have := h2 q hq; omega
    · rw [if_neg h]
      exact ⟨h1, fun q hq => by have := h2 q hq; omega⟩
theorem hitsF_up15 (w : List ByteArray) (s : ByteArray) : ∀ d e, (hitsF w s d e).Pairwise (fun a b => lessH a b = true)
  | 0, _ => List.Pairwise.nil
  | d + 1, e => by
    refine List.pairwise_append.2 ⟨?_, hitsF_up15 w s d (e + 1), fun x hx y hy => ?_⟩
    · unfold hitsAt
      rw [List.pairwise_map]
      exact (idsF_up15 s e w 0).1.imp (fun h => decide_eq_true (.inr ⟨rfl, h⟩))
    · obtain ⟨q, _, rfl⟩ := List.mem_map.1 hx
      obtain ⟨a, j, h1, _, _, rfl, _⟩ := (hitsF_mem d (e + 1)).1 hy
      exact decide_eq_true (.inl (show (e : Int) < (a : Int) by omega))
theorem ids_count15 (s : ByteArray) (e : Nat) : ∀ (l : List ByteArray) (i j : Nat), j < l.length → (idsF s e l i).countP (fun q => decide (q = ((i + j : Nat) : Int))) = if standsE (l.getD j ByteArray.empty) s e = true then 1 else 0
  | [], i, j, h => by simp at h
  | p :: l, i, 0, h => by
    have h0 : (idsF s e l (i + 1)).countP (fun q => decide (q = ((i + 0 : Nat) : Int))) = 0 := by
      rw [List.countP_eq_zero]
      intro q hq
      have := (idsF_up15 s e l (i + 1)).2 q hq
      simp only [decide_eq_true_eq]
      omega
    simp only [idsF, List.getD_cons_zero]
    by_cases hs : standsE p s e = true
    · rw [if_pos hs, if_pos hs, List.countP_cons, h0, if_pos (decide_eq_true (show (i : Int) = ((i + 0 : Nat) : Int) by omega))]
    · rw [if_neg hs, if_neg hs, h0]
  | p :: l, i, j + 1, h => by
    have ih := ids_count15 s e l (i + 1) j (by simpa using h)
    rw [show i + 1 + j = i + (j + 1) by omega] at ih
    simp only [idsF, List.getD_cons_succ]
    by_cases hs : standsE p s e = true
    · rw [if_pos hs, List.countP_cons, ih, if_neg (show ¬ decide ((i : Int) = ((i + (j + 1) : Nat) : Int)) = true by rw [decide_eq_true_iff]; omega), Nat.add_zero]
    · rw [if_neg hs, ih]
/-- How often a pattern stands, from one end on. -/
def cntF15 (p s : ByteArray) : Nat → Nat → Nat
  | 0, _ => 0
  | d + 1, e => (if standsE p s e = true then 1 else 0) + cntF15 p s d (e + 1)
theorem hits_count15 (w : List ByteArray) (s : ByteArray) (j : Nat) (hj : j < w.length) : ∀ d e, (hitsF w s d e).countP (fun h => decide (h.f1 = (j : Int))) = cntF15 (w.getD j ByteArray.empty) s d e
  | 0, _ => rfl
  | d + 1, e => by
    simp only [hitsF, cntF15]
    rw [List.countP_append, hits_count15 w s j hj d (e + 1)]
    congr 1
    unfold hitsAt
    rw [List.countP_map]
    have := ids_count15 s e w 0 j hj
    rw [Nat.zero_add] at this
    exact this
theorem rcount15_l0 (p s : ByteArray) (hp : p.size ≤ 1099511627776) (hs : s.size ≤ 1048575) : ∀ (d e n : Nat), e + d = s.size + 1 → n ≤ e →
    Ev (fun k => juratref15_Count.l0 k p s (n : Int) (e : Int)) ((n + cntF15 p s d e : Nat) : Int) := by
  intro d
  induction d with
  | zero =>
    intro e n he hn
    refine Ev.ret fun k => ?_
    simp only [juratref15_Count.l0]
    rw [if_neg (by omega)]
    rfl
  | succ d ih =>
    intro e n he hn
    have hst := rstands p s e hp (by omega)
    have w1 : wrap64 ((e : Int) + 1) = ((e + 1 : Nat) : Int) := by rw [wrap_id (by omega) (by omega)]; rfl
    simp only [cntF15]
    by_cases h : standsE p s e = true
    · rw [if_pos h, show n + (1 + cntF15 p s d (e + 1)) = n + 1 + cntF15 p s d (e + 1) by omega]
      refine Ev.step (fun k => ?_) (ih (e + 1) (n + 1) (by omega) (by omega))
      simp only [juratref15_Count.l0]
      rw [if_pos (by omega), hst]
      simp only [Option.bind_some]
      rw [if_pos h, w1, wrap_id (by omega) (by omega)]
      rfl
    · rw [if_neg h, Nat.zero_add]
      refine Ev.step (fun k => ?_) (ih (e + 1) n (by omega) (by omega))
      simp only [juratref15_Count.l0]
      rw [if_pos (by omega), hst]
      simp only [Option.bind_some]
      rw [if_neg h, w1]
theorem rcount15 (p s : ByteArray) (hp : p.size ≤ 1099511627776) (hs : s.size ≤ 1048575) : Ev (fun k => juratref15_Count.f k p s) (cntF15 p s (s.size + 1) 0 : Int) := by
  have := rcount15_l0 p s hp hs (s.size + 1) 0 0 (by omega) (Nat.le_refl _)
  rw [Nat.zero_add] at this
  exact this
end Go.Proofs.Ytekdmkdidnnpbaa.Base

/- The reference's places of a text in another one are those of the border layer; no condition beyond the sizes that stand in each statement. -/
namespace Go.Proofs.Ytekdmkdidnnpbaa.Base
open Go Go.RowKit Go.Proofs.YtekdmkdidnnpbaaW.PrintWords Go.Proofs.YtekdmkdidnnpbaaW.PrintMore Go.Proofs.Ytekdmkdidnnpbaa.P

theorem take_all (s : ByteArray) : (LL s).take s.size = LL s := List.take_of_length_le (by rw [LL_length]; exact Nat.le_refl _)
theorem stS_le_i (a b : ByteArray) (i : Nat) : stS a b i ≤ i := by
  have := (st_Sf (LL b) ((LL a).take i) b.size).2.1
  rw [List.length_take] at this
  unfold stS
  omega
/-- t stands in s up to the end e. -/
theorem stS_iff (s t : ByteArray) (e : Nat) (he : e ≤ s.size) : stS s t e = t.size ↔ t.size ≤ e ∧ s.extract (e - t.size) e = t := by
  have hl : ((LL s).take e).length = e := by rw [List.length_take, LL_length]; omega
  have key : Sf (LL t) ((LL s).take e) t.size ↔ t.size ≤ e ∧ s.extract (e - t.size) e = t := by
    unfold Sf
    rw [hl, take_all, LL_iff, LL_extract]
    constructor
    · rintro ⟨_, h2, h3⟩; exact ⟨h2, h3.symm⟩
    · rintro ⟨h2, h3⟩; exact ⟨by rw [LL_length]; exact Nat.le_refl _, h2, h3.symm⟩
  rw [← key]
  constructor
  · intro h
    have := st_Sf (LL t) ((LL s).take e) t.size
    unfold stS at h
    rwa [h] at this
  · intro h
    by_cases h0 : 0 < t.size
    · exact Nat.le_antisymm (stS_le _ _ _) (top_max _ _ _ h0 (Nat.le_refl _) h)
    · have := stS_le s t e
      omega
theorem findTo_none (s t : ByteArray) (i : Nat) (h : i ≤ t.size) (_h0 : 0 < t.size) : findTo s t i = [] := by
  unfold findTo
  rw [List.map_eq_nil_iff, List.filter_eq_nil_iff]
  intro a ha
  have h1 := List.mem_range.1 ha
  have h2 := stS_le_i s t a
  simp only [decide_eq_true_eq]
  omega
theorem findS_length (s t : ByteArray) : (findS s t).length ≤ s.size + 1 := by
  unfold findS
  split
  · simp
  · rw [List.length_map]
    exact Nat.le_trans (List.length_filter_le _ _) (by simp)
end Go.Proofs.Ytekdmkdidnnpbaa.Base

/- What layer 9 and its reference compute, as plain functions on lists of bytes; no condition beyond the sizes that stand in each statement. -/
namespace Go.Proofs.Ytekdmkdidnnpbaa.Base
open Go Go.RowKit Go.Proofs.YtekdmkdidnnpbaaW.PrintWords Go.Proofs.YtekdmkdidnnpbaaW.PrintMore Go.Proofs.Ytekdmkdidnnpbaa.P
set_option linter.unusedVariables false

/-! few texts, of few bytes -/
def fewB (l : List ByteArray) (b : Int) : Bool := l.all fun s => decide ((s.size : Int) ≤ b)
theorem fewB_iff {l : List ByteArray} {b : Int} : fewB l b = true ↔ ∀ s ∈ l, (s.size : Int) ≤ b := by unfold fewB; rw [List.all_eq_true]; simp
theorem few_l0 (l : List ByteArray) (b : Int) (hm : l.length ≤ 9223372036854775807) : ∀ (d i : Nat), i + d = l.length →
    Ev (fun k => juratref09_Few.l0 k l b (i : Int)) (fewB (l.drop i) b) := by
  intro d
  induction d with
  | zero =>
    intro i hi
    refine Ev.ret fun k => ?_
    simp only [juratref09_Few.l0]
    rw [if_neg (by omega), List.drop_of_length_le (by omega)]
    rfl
  | succ d ih =>
    intro i hi
    have hd := getD_drop l i ByteArray.empty (by omega)
    have e : rdOf ByteArray.empty l (i : Int) = l.getD i ByteArray.empty := rfl
    have e2 : fewB (l.drop i) b = (decide (((l.getD i ByteArray.empty).size : Int) ≤ b) && fewB (l.drop (i + 1)) b) := by rw [hd]; rfl
    rw [e2]
    by_cases h : ((l.getD i ByteArray.empty).size : Int) > b
    · refine Ev.ret fun k => ?_
      simp only [juratref09_Few.l0]
      rw [if_pos (by omega), if_pos (by omega), e, if_pos h, decide_eq_false (by omega)]
      rfl
    · rw [decide_eq_true (by omega), Bool.true_and]
      refine Ev.step (f := fun k => juratref09_Few.l0 k l b ((i + 1 : Nat) : Int)) (fun k => ?_) (ih (i + 1) (by omega))
      simp only [juratref09_Few.l0]
      rw [if_pos (by omega), if_pos (by omega), e, if_neg h, wrap_id (by omega) (by omega)]
      rfl
theorem few_ev (l : List ByteArray) (m b : Int) (hm : l.length ≤ 9223372036854775807) : Ev (fun k => juratref09_Few.f k l m b) (decide ((l.length : Int) ≤ m) && fewB l b) := by
  by_cases h : (l.length : Int) > m
  · rw [decide_eq_false (by omega)]
    refine Ev.const fun k => ?_
    unfold juratref09_Few.f
    rw [if_pos h]
    rfl
  · have h' := few_l0 l b hm l.length 0 (by omega)
    rw [List.drop_zero] at h'
    rw [decide_eq_true (by omega), Bool.true_and]
    refine Ev.congr (fun k => ?_) h'
    unfold juratref09_Few.f
    rw [if_neg h]
    rfl

/-! sorted: two lists in order with the same texts are one -/
theorem up_unique : ∀ {l m : List ByteArray}, l.Perm m → upB l → upB m → l = m
  | [], m, h, _, _ => by rw [List.nil_perm.1 h]
  | x :: l, [], h, _, _ => by have := h.length_eq; simp at this
  | x :: l, y :: m, h, hl, hm => by
    obtain ⟨hl1, hl2⟩ := List.pairwise_cons.1 hl
    obtain ⟨hm1, hm2⟩ := List.pairwise_cons.1 hm
    have e : x = y := by
      rcases bl_tri (LL x) (LL y) with h' | h' | h'
      · exact LL_inj h'
      · rcases List.mem_cons.1 (h.mem_iff.1 List.mem_cons_self : x ∈ y :: m) with rfl | hx
        · rfl
        · rw [hm1 x hx] at h'; cases h'
      · rcases List.mem_cons.1 (h.mem_iff.2 List.mem_cons_self : y ∈ x :: l) with rfl | hy
        · rfl
        · rw [hl1 y hy] at h'; cases h'
    subst e
    rw [up_unique (List.Perm.cons_inv h) hl2 hm2]
theorem sortB_up (l : List ByteArray) : upB (sortB l) := by
  have h := List.pairwise_mergeSort (le := fun x y : ByteArray => !Op.bytesLess (LL y) (LL x)) (fun a b c h1 h2 => by
      simp only [Bool.not_eq_true'] at h1 h2 ⊢
      exact bl_ntrans h2 h1) (fun a b => by
      rcases bl_tri (LL a) (LL b) with h | h | h
      · rw [h, bl_irrefl]; rfl
      · rw [bl_asym h]; rfl
      · rw [bl_asym h]; simp) l
  exact h.imp (fun h => by simpa using h)
theorem sortB_perm (l : List ByteArray) : (sortB l).Perm l := List.mergeSort_perm _ _
theorem sortB_of {l m : List ByteArray} (h : m.Perm l) (hu : upB m) : m = sortB l := up_unique (h.trans (sortB_perm l).symm) hu (sortB_up l)
theorem sortB_sized {l : List ByteArray} (h : sizedB l) : sizedB (sortB l) := ⟨by rw [sortB_length]; exact h.1, fun s hs => h.2 s ((sortB_perm l).mem_iff.1 hs)⟩

theorem take_snoc {α : Type} (l : List α) (i : Nat) (z : α) (h : i < l.length) : l.take (i + 1) = l.take i ++ [l.getD i z] := by
  rw [List.take_succ_eq_append_getElem h, List.getD_eq_getElem?_getD, List.getElem?_eq_getElem h]; rfl

end Go.Proofs.Ytekdmkdidnnpbaa.Base

/- Proved here: what Go functions of this seat compute, or a law of it; no condition beyond the statement's own. Written for this claim by a program of this session (wip/myprint.py) over the kit's print.py. -/
namespace Go.Proofs.Ytekdmkdidnnpbaa.P
open Go.RowKit Go.Proofs.YtekdmkdidnnpbaaW.PrintWords Go.Proofs.YtekdmkdidnnpbaaW.PrintLast Go.Proofs.YtekdmkdidnnpbaaW.PrintMore
attribute [local go_sem] max2_int min2_int max_two min_two max_three min_three max_four min_four   -- for this text's walks alone
set_option linter.unusedVariables false
set_option linter.unusedSimpArgs false

/-! ### juratref09_Twice: function 67 -/
mutual
def juratref09_Twice.l0 : Nat → List ByteArray → Int → Option (Int)
  | 0, _, _ => none
  | k + 1, x0, x3 => if x3 < (x0.length : Int) then (juratref09_Twice.l1 k x0 x3 0) else (some (-1))
def juratref09_Twice.l1 : Nat → List ByteArray → Int → Int → Option (Int)
  | 0, _, _, _ => none
  | k + 1, x0, x3, x4 => if x4 < x3 then (if 0 ≤ x4 then (if x4 < (x0.length : Int) then (if 0 ≤ x3 then (if x3 < (x0.length : Int) then (if (rdOf ByteArray.empty x0 x4).toList = (rdOf ByteArray.empty x0 x3).toList then (some x3) else (juratref09_Twice.l1 k x0 x3 (wrap64 (x4 + 1)))) else (none)) else (none)) else (none)) else (none)) else (juratref09_Twice.l0 k x0 (wrap64 (x3 + 1)))
end
def juratref09_Twice.f (k : Nat) (l0 : List ByteArray) : Option (Int) := juratref09_Twice.l0 k l0 0
theorem juratref09_Twice.mono_l : ∀ k, (∀ y0 y1, LeO (juratref09_Twice.l0 k y0 y1) (juratref09_Twice.l0 (k + 1) y0 y1)) ∧ (∀ y0 y1 y2, LeO (juratref09_Twice.l1 k y0 y1 y2) (juratref09_Twice.l1 (k + 1) y0 y1 y2))
  | 0 => ⟨fun _ _ r h => by simp [juratref09_Twice.l0] at h, fun _ _ _ r h => by simp [juratref09_Twice.l1] at h⟩
  | k + 1 => by
    obtain ⟨ih0, ih1⟩ := juratref09_Twice.mono_l k
    refine ⟨?_, ?_⟩
    · intro y0 y1
      unfold juratref09_Twice.l0
      repeat' first
      | (with_reducible exact ih0 _ _)
      | (with_reducible exact ih1 _ _ _)
      | (with_reducible exact LeO.refl _)
      | (with_reducible exact LeO.none _)
      | (with_reducible refine LeO.ite ?_ ?_)
      | (with_reducible refine LeO.bind ?_ (fun _ => ?_))
      | exact ih0 _ _
      | exact ih1 _ _ _
      | exact LeO.none _
      | refine LeO.ite ?_ ?_
      | refine LeO.bind ?_ (fun _ => ?_)
    · intro y0 y1 y2
      unfold juratref09_Twice.l1
      repeat' first
      | (with_reducible exact ih0 _ _)
      | (with_reducible exact ih1 _ _ _)
      | (with_reducible exact LeO.refl _)
      | (with_reducible exact LeO.none _)
      | (with_reducible refine LeO.ite ?_ ?_)
      | (with_reducible refine LeO.bind ?_ (fun _ => ?_))
      | exact ih0 _ _
      | exact ih1 _ _ _
      | exact LeO.none _
      | refine LeO.ite ?_ ?_
      | refine LeO.bind ?_ (fun _ => ?_)
theorem juratref09_Twice.mono : ∀ a0 k, LeO (juratref09_Twice.f k a0) (juratref09_Twice.f (k + 1) a0) := by
  intro a0 k
  obtain ⟨ih0, ih1⟩ := juratref09_Twice.mono_l k
  unfold juratref09_Twice.f
  repeat' first
      | (with_reducible exact ih0 _ _)
      | (with_reducible exact ih1 _ _ _)
      | (with_reducible exact LeO.refl _)
      | (with_reducible exact LeO.none _)
      | (with_reducible refine LeO.ite ?_ ?_)
      | (with_reducible refine LeO.bind ?_ (fun _ => ?_))
      | exact ih0 _ _
      | exact ih1 _ _ _
      | exact LeO.none _
      | refine LeO.ite ?_ ?_
      | refine LeO.bind ?_ (fun _ => ?_)
set_option maxHeartbeats 8000000 in
set_option maxRecDepth 100000 in
theorem juratref09_Twice.calls (k : Nat) (A0 : Option Addr) (c0 : Nat) (l0 : List ByteArray) (r : Int) (w : World) (hr0 : Kd.C Kd.string w A0 l0.length l0) (hc0 : l0.length ≤ c0) (h : juratref09_Twice.f k l0 = some r) :
    Calls Try.prog 67 #[.slice A0 l0.length c0] w fun e w' => e = .returned (.int .i64 r) ∧ Drawn0 w w' := by
  have HR0 := Aside0.mk hr0
  have HC0 := Aside0.mk hc0
  clear hr0 hc0
  have H : (juratref09_Twice.l0 k l0 0) = some r := h
  clear h
  have H' := Aside0.mk H
  clear H
  go_enter Try.func67, Try.ntmps67
  go_wp2
  repeat (go_quiet (fail); try go_wp2)
  go_loopg [3] k (fun kq v3 w' => ∃ (x3_1 : Int), v3 = .int .i64 x3_1 ∧ Aside0 (juratref09_Twice.l0 kq l0 x3_1 = some r) ∧ Aside0 (kq ≤ k) ∧ Drawn0 w w')
  case atStart => exact ⟨(0), (by first | rfl | exact isE_ _ | exact isE2_ _ | (simp; done) | (simp [*]; done)), H', ⟨Nat.le_refl _⟩, by repeat (first | exact Drawn0.refl _ | apply Drawn0.step)⟩
  case round =>
    clear H'
    obtain ⟨x3_1, rfl, HA, HK1, ⟨m1, rfl⟩⟩ := hrel
    cases gk with
    | zero => exact absurd HA.out (by simp [juratref09_Twice.l0])
    | succ k1 =>
      have H := HA.out
      clear HA
      simp only [juratref09_Twice.l0] at H
      by_cases c2 : x3_1 < (l0.length : Int)
      · rw [if_pos c2] at H
        have c2b0 : decide (x3_1 < (l0.length : Int)) = true := decide_eq_true c2
        clear c2
        have H' := Aside0.mk H
        clear H
        go_wp2
        repeat (go_quiet (fail); try go_wp2)
        go_loopg [4] k1 (fun kq v4 w' => ∃ (x4_2 : Int), v4 = .int .i64 x4_2 ∧ Aside0 (juratref09_Twice.l1 kq l0 x3_1 x4_2 = some r) ∧ Aside0 (kq ≤ k1) ∧ Drawn0 w w')
        case atStart => exact ⟨(0), (by first | rfl | exact isE_ _ | exact isE2_ _ | (simp; done) | (simp [*]; done)), H', ⟨Nat.le_refl _⟩, by repeat (first | exact Drawn0.refl _ | apply Drawn0.step)⟩
        case round =>
          clear H'
          try clear c2
          try clear c2b0
          try clear p2
          obtain ⟨x4_2, rfl, HA, HK2, ⟨m2, rfl⟩⟩ := hrel
          cases gk with
          | zero => exact absurd HA.out (by simp [juratref09_Twice.l1])
          | succ k2 =>
            have H := HA.out
            clear HA
            simp only [juratref09_Twice.l1] at H
            by_cases c3 : x4_2 < x3_1
            · rw [if_pos c3] at H
              have c3b0 : decide (x4_2 < x3_1) = true := decide_eq_true c3
              clear c3
              by_cases c4 : 0 ≤ x4_2
              · rw [if_pos c4] at H
                have c4b0 : decide (0 ≤ x4_2) = true := decide_eq_true c4
                clear c4
                by_cases c5 : x4_2 < (l0.length : Int)
                · rw [if_pos c5] at H
                  have c5b0 : decide (x4_2 < (l0.length : Int)) = true := decide_eq_true c5
                  clear c5
                  by_cases c6 : 0 ≤ x3_1
                  · rw [if_pos c6] at H
                    have c6b0 : decide (0 ≤ x3_1) = true := decide_eq_true c6
                    clear c6
                    by_cases c7 : x3_1 < (l0.length : Int)
                    · rw [if_pos c7] at H
                      have c7b0 : decide (x3_1 < (l0.length : Int)) = true := decide_eq_true c7
                      clear c7
                      by_cases c8 : (rdOf ByteArray.empty l0 x4_2).toList = (rdOf ByteArray.empty l0 x3_1).toList
                      · rw [if_pos c8] at H
                        have c8b0 : ((rdOf ByteArray.empty l0 x4_2).toList == (rdOf ByteArray.empty l0 x3_1).toList) = true := beq_iff_eq.mpr c8
                        have c8b1 : ((rdOf ByteArray.empty l0 x4_2).toList != (rdOf ByteArray.empty l0 x3_1).toList) = false := bne_eq_false_iff_eq.mpr c8
                        clear c8
                        obtain rfl := Option.some.inj H
                        have p197 : 0 ≤ (x4_2 : Int) := of_decide_eq_true (by first | (with_reducible assumption) | assumption)
                        have q197 : x4_2 < (l0.length : Int) := of_decide_eq_true (by first | (with_reducible assumption) | assumption)
                        obtain ⟨ad197, e197, hx197_0⟩ := Kd.at_string HR0.out x4_2 p197 q197
                        cases e197
                        replace p197 := eq_true p197
                        replace q197 := eq_true q197
                        have p198 : 0 ≤ (x3_1 : Int) := of_decide_eq_true (by first | (with_reducible assumption) | assumption)
                        have q198 : x3_1 < (l0.length : Int) := of_decide_eq_true (by first | (with_reducible assumption) | assumption)
                        obtain ⟨ad198, e198, hx198_0⟩ := Kd.at_string HR0.out x3_1 p198 q198
                        obtain rfl : ad197 = ad198 := (by injection e198)
                        replace p198 := eq_true p198
                        replace q198 := eq_true q198
                        go_wp2
                        repeat (go_quiet (fail); try go_wp2)
                        go_ret
                        exact ⟨by first | rfl | (simp; done) | (simp [*]; done), by repeat (first | exact Drawn0.refl _ | apply Drawn0.step)⟩
                      · rw [if_neg c8] at H
                        have c8b0 : ((rdOf ByteArray.empty l0 x4_2).toList == (rdOf ByteArray.empty l0 x3_1).toList) = false := beq_eq_false_iff_ne.mpr c8
                        have c8b1 : ((rdOf ByteArray.empty l0 x4_2).toList != (rdOf ByteArray.empty l0 x3_1).toList) = true := bne_iff_ne.mpr c8
                        have H' := Aside0.mk H
                        clear H
                        have p197 : 0 ≤ (x4_2 : Int) := of_decide_eq_true (by first | (with_reducible assumption) | assumption)
                        have q197 : x4_2 < (l0.length : Int) := of_decide_eq_true (by first | (with_reducible assumption) | assumption)
                        obtain ⟨ad197, e197, hx197_0⟩ := Kd.at_string HR0.out x4_2 p197 q197
                        cases e197
                        replace p197 := eq_true p197
                        replace q197 := eq_true q197
                        have p198 : 0 ≤ (x3_1 : Int) := of_decide_eq_true (by first | (with_reducible assumption) | assumption)
                        have q198 : x3_1 < (l0.length : Int) := of_decide_eq_true (by first | (with_reducible assumption) | assumption)
                        obtain ⟨ad198, e198, hx198_0⟩ := Kd.at_string HR0.out x3_1 p198 q198
                        obtain rfl : ad197 = ad198 := (by injection e198)
                        replace p198 := eq_true p198
                        replace q198 := eq_true q198
                        go_wp2
                        repeat (go_quiet (fail); try go_wp2)
                        go_roundg k2
                        case measure => have := HK1.out; have := HK2.out; omega
                        case rel => exact ⟨(wrap64 (x4_2 + 1)), (by first | rfl | exact isE_ _ | exact isE2_ _ | (simp; done) | (simp [*]; done)), H', ⟨by have := HK1.out; have := HK2.out; omega⟩, by repeat (first | exact Drawn0.refl _ | apply Drawn0.step)⟩
                    · rw [if_neg c7] at H
                      exact absurd H (by simp)
                  · rw [if_neg c6] at H
                    exact absurd H (by simp)
                · rw [if_neg c5] at H
                  exact absurd H (by simp)
              · rw [if_neg c4] at H
                exact absurd H (by simp)
            · rw [if_neg c3] at H
              have c3b0 : decide (x4_2 < x3_1) = false := decide_eq_false c3
              clear c3
              have H' := Aside0.mk H
              clear H
              go_wp2
              repeat (go_quiet (fail); try go_wp2)
              go_roundg k2
              case measure => have := HK1.out; have := HK2.out; omega
              case rel => exact ⟨(wrap64 (x3_1 + 1)), (by first | rfl | exact isE_ _ | exact isE2_ _ | (simp; done) | (simp [*]; done)), H', ⟨by have := HK1.out; have := HK2.out; omega⟩, by repeat (first | exact Drawn0.refl _ | apply Drawn0.step)⟩
      · rw [if_neg c2] at H
        have c2b0 : decide (x3_1 < (l0.length : Int)) = false := decide_eq_false c2
        clear c2
        obtain rfl := Option.some.inj H
        go_wp2
        repeat (go_quiet (fail); try go_wp2)
        go_ret
        exact ⟨by first | rfl | (simp; done) | (simp [*]; done), by repeat (first | exact Drawn0.refl _ | apply Drawn0.step)⟩

end Go.Proofs.Ytekdmkdidnnpbaa.P

/- What layer 9's reference computes by sorting and looking for what is there twice, as plain functions on lists of texts; no condition beyond the sizes that stand in each statement. -/
namespace Go.Proofs.Ytekdmkdidnnpbaa.Base
open Go Go.RowKit Go.Proofs.YtekdmkdidnnpbaaW.PrintWords Go.Proofs.YtekdmkdidnnpbaaW.PrintMore Go.Proofs.Ytekdmkdidnnpbaa.P
set_option linter.unusedVariables false

/-! sorted by insertion -/
theorem rsorted_put (l out : List ByteArray) (i j : Nat) (hi : i < l.length) (hl : l.length ≤ 8796093022200) (ho : out.length = i) (hj : j ≤ out.length) (hup : upB out)
    (hbelow : ∀ t, t < j → Op.bytesLess (LL (l.getD i ByteArray.empty)) (LL (out.getD t ByteArray.empty)) = false) (habove : ∀ t, j ≤ t → t < out.length → Op.bytesLess (LL (l.getD i ByteArray.empty)) (LL (out.getD t ByteArray.empty)) = true) :
    upB (out.take j ++ l.getD i ByteArray.empty :: out.drop j) ∧ (out.take j ++ l.getD i ByteArray.empty :: out.drop j).Perm (l.getD i ByteArray.empty :: out) := by
  refine ⟨?_, ?_⟩
  · have h1 : ∀ x ∈ out.take j, Op.bytesLess (LL (l.getD i ByteArray.empty)) (LL x) = false := fun x hx => by
      obtain ⟨t, ht, rfl⟩ := List.mem_iff_getElem.1 hx
      rw [List.length_take] at ht
      have := hbelow t (by omega)
      rw [List.getD_eq_getElem?_getD (l := out), List.getElem?_eq_getElem (by omega : t < out.length)] at this
      rw [List.getElem_take]
      exact this
    have h2 : ∀ x ∈ out.drop j, Op.bytesLess (LL (l.getD i ByteArray.empty)) (LL x) = true := fun x hx => by
      obtain ⟨t, ht, rfl⟩ := List.mem_iff_getElem.1 hx
      rw [List.length_drop] at ht
      have := habove (j + t) (by omega) (by omega)
      rw [List.getD_eq_getElem?_getD (l := out), List.getElem?_eq_getElem (by omega : j + t < out.length)] at this
      rw [List.getElem_drop]
      exact this
    have hsplit : (out.take j ++ out.drop j).Pairwise (fun x y => Op.bytesLess (LL y) (LL x) = false) := by rw [List.take_append_drop]; exact hup
    obtain ⟨p1, p2, p3⟩ := List.pairwise_append.1 hsplit
    refine List.pairwise_append.2 ⟨p1, List.pairwise_cons.2 ⟨fun y hy => bl_asym (h2 y hy), p2⟩, fun x hx y hy => ?_⟩
    rcases List.mem_cons.1 hy with rfl | hy
    · exact h1 x hx
    · exact p3 x hx y hy
  · refine List.perm_middle.trans ?_
    rw [List.take_append_drop]
theorem rsorted_both (l : List ByteArray) (hl : l.length ≤ 8796093022200) : ∀ (d i : Nat), i + d = l.length → ∀ out : List ByteArray, out.Perm (l.take i) → upB out →
    Ev (fun k => juratref09_Sorted.l0 k l out (i : Int)) (sortB l) := by
  intro d
  induction d with
  | zero =>
    intro i hi out hp hu
    rw [List.take_of_length_le (by omega)] at hp
    refine Ev.ret fun k => ?_
    simp only [juratref09_Sorted.l0]
    rw [if_neg (by omega), sortB_of hp hu]
  | succ d ih =>
    intro i hi out hp hu
    have ho : out.length = i := by rw [hp.length_eq, List.length_take]; omega
    have hx : rdOf ByteArray.empty l (i : Int) = l.getD i ByteArray.empty := rfl
    have fin : ∀ j, j ≤ out.length → (∀ t, t < j → Op.bytesLess (LL (l.getD i ByteArray.empty)) (LL (out.getD t ByteArray.empty)) = false) → (∀ t, j ≤ t → t < out.length → Op.bytesLess (LL (l.getD i ByteArray.empty)) (LL (out.getD t ByteArray.empty)) = true) →
        Ev (fun k => juratref09_Sorted.l0 k l ((([] ++ out.take j) ++ [l.getD i ByteArray.empty]) ++ out.drop j) ((i + 1 : Nat) : Int)) (sortB l) := fun j hj hb ha => by
      obtain ⟨u, p⟩ := rsorted_put l out i j (by omega) hl ho hj hu hb ha
      rw [List.nil_append, List.append_assoc, List.singleton_append]
      refine ih (i + 1) (by omega) _ (p.trans ?_) u
      rw [take_snoc l i ByteArray.empty (by omega)]
      exact (List.Perm.cons _ hp).trans (List.perm_append_singleton _ _).symm
    have inner : ∀ j, j ≤ out.length → (∀ t, j ≤ t → t < out.length → Op.bytesLess (LL (l.getD i ByteArray.empty)) (LL (out.getD t ByteArray.empty)) = true) →
        Ev (fun k => juratref09_Sorted.l1 k l out (i : Int) (j : Int)) (sortB l) := by
      intro j
      induction j with
      | zero =>
        intro hj ha
        refine Ev.step (f := fun k => juratref09_Sorted.l0 k l ((([] ++ out.take 0) ++ [l.getD i ByteArray.empty]) ++ out.drop 0) ((i + 1 : Nat) : Int)) (fun k => ?_) (fin 0 hj (fun t ht => absurd ht (Nat.not_lt_zero _)) ha)
        simp only [juratref09_Sorted.l1, Option.bind_some]
        rw [if_neg (by omega), if_pos (by omega), if_pos (by omega), if_pos (by simp), if_pos (by omega), if_pos (by omega), if_pos (by simp), hx, Int.toNat_natCast, if_pos (by simp; omega), wrap_id (by omega) (by omega)]
        rfl
      | succ j ihj =>
        intro hj ha
        have hy : rdOf ByteArray.empty out (((j + 1 : Nat) : Int) - 1) = out.getD j ByteArray.empty := by unfold rdOf; rw [show (((j + 1 : Nat) : Int) - 1).toNat = j by omega]
        cases hlt : Op.bytesLess (LL (l.getD i ByteArray.empty)) (LL (out.getD j ByteArray.empty)) with
        | true =>
          refine Ev.step (f := fun k => juratref09_Sorted.l1 k l out (i : Int) (j : Int)) (fun k => ?_) (ihj (by omega) (fun t h1 h2 => by
            by_cases he : t = j
            · subst he; exact hlt
            · exact ha t (by omega) h2))
          simp only [juratref09_Sorted.l1, Option.bind_some]
          rw [wrap_id (x := ((j + 1 : Nat) : Int) - 1) (by omega) (by omega), if_pos (by omega), if_pos (by omega), if_pos (by omega), if_pos (by omega), if_pos (by omega), hx, hy, if_pos (by rw [ByteArray.toList_eq, ByteArray.toList_eq]; exact hlt), show ((j + 1 : Nat) : Int) - 1 = (j : Int) by omega]
        | false =>
          refine Ev.step (f := fun k => juratref09_Sorted.l0 k l ((([] ++ out.take (j + 1)) ++ [l.getD i ByteArray.empty]) ++ out.drop (j + 1)) ((i + 1 : Nat) : Int)) (fun k => ?_) (fin (j + 1) hj (fun t ht => by
            by_cases he : t = j
            · subst he; exact hlt
            · have hp := List.pairwise_iff_getElem.1 hu t j (by omega) (by omega) (by omega)
              rw [List.getD_eq_getElem?_getD (l := out), List.getElem?_eq_getElem (by omega : j < out.length)] at hlt
              rw [List.getD_eq_getElem?_getD (l := out), List.getElem?_eq_getElem (by omega : t < out.length)]
              exact bl_ntrans hlt hp) ha)
          simp only [juratref09_Sorted.l1, Option.bind_some]
          rw [wrap_id (x := ((j + 1 : Nat) : Int) - 1) (by omega) (by omega), if_pos (by omega), if_pos (by omega), if_pos (by omega), if_pos (by omega), if_pos (by omega), hx, hy, if_neg (by rw [ByteArray.toList_eq, ByteArray.toList_eq, hlt]; simp), if_pos (by omega), if_pos (by omega), Int.toNat_natCast,
            if_pos (by simp; omega), if_pos (by simp; omega), if_pos (by simp; omega), wrap_id (by omega) (by omega)]
          rfl
    refine Ev.step (f := fun k => juratref09_Sorted.l1 k l out (i : Int) (out.length : Int)) (fun k => ?_) (inner out.length (Nat.le_refl _) (fun t h1 h2 => by omega))
    simp only [juratref09_Sorted.l0]
    rw [if_pos (by omega)]
theorem rsorted_ev (l : List ByteArray) (hl : l.length ≤ 8796093022200) : Ev (fun k => juratref09_Sorted.f k l) (sortB l) :=
  rsorted_both l hl l.length 0 (by omega) [] (by rw [List.take_zero]) List.Pairwise.nil

/-! there already -/
theorem inB_take (s : ByteArray) (l : List ByteArray) (i : Nat) : inB s (l.take i) = true ↔ ∃ t, t < i ∧ t < l.length ∧ l.getD t ByteArray.empty = s := by
  rw [inB_iff, List.mem_iff_getElem]
  constructor
  · rintro ⟨t, ht, rfl⟩
    rw [List.length_take] at ht
    refine ⟨t, by omega, by omega, ?_⟩
    rw [List.getD_eq_getElem?_getD, List.getElem?_eq_getElem (by omega : t < l.length), List.getElem_take]; rfl
  · rintro ⟨t, h1, h2, rfl⟩
    refine ⟨t, by rw [List.length_take]; omega, ?_⟩
    rw [List.getD_eq_getElem?_getD, List.getElem?_eq_getElem (by omega : t < l.length), List.getElem_take]; rfl
theorem rtwice_both (l : List ByteArray) (hl : l.length ≤ 9223372036854775806) : ∀ (d i : Nat), i + d = l.length →
    Ev (fun k => juratref09_Twice.l0 k l (i : Int)) (twB (l.take i) (l.drop i) i) := by
  intro d
  induction d with
  | zero =>
    intro i hi
    refine Ev.ret fun k => ?_
    simp only [juratref09_Twice.l0]
    rw [if_neg (by omega), List.drop_of_length_le (by omega)]
    rfl
  | succ d ih =>
    intro i hi
    have ih' := ih (i + 1) (by omega)
    rw [take_snoc l i ByteArray.empty (by omega)] at ih'
    rw [getD_drop l i ByteArray.empty (by omega)]
    have inner : ∀ e j, j + e = i → (∀ t, t < j → ¬ l.getD t ByteArray.empty = l.getD i ByteArray.empty) →
        Ev (fun k => juratref09_Twice.l1 k l (i : Int) (j : Int)) (twB (l.take i) (l.getD i ByteArray.empty :: l.drop (i + 1)) i) := by
      intro e
      induction e with
      | zero =>
        intro j hj hn
        have hin : ¬ inB (l.getD i ByteArray.empty) (l.take i) = true := fun h => by
          obtain ⟨t, h1, h2, h3⟩ := (inB_take _ _ _).1 h
          exact hn t (by omega) h3
        simp only [twB]
        rw [if_neg hin]
        refine Ev.step (f := fun k => juratref09_Twice.l0 k l ((i + 1 : Nat) : Int)) (fun k => ?_) ih'
        simp only [juratref09_Twice.l1]
        rw [if_neg (by omega), wrap_id (by omega) (by omega)]
        rfl
      | succ e ihe =>
        intro j hj hn
        have e1 : rdOf ByteArray.empty l (i : Int) = l.getD i ByteArray.empty := rfl
        have e2 : rdOf ByteArray.empty l (j : Int) = l.getD j ByteArray.empty := rfl
        by_cases h : l.getD j ByteArray.empty = l.getD i ByteArray.empty
        · have hin : inB (l.getD i ByteArray.empty) (l.take i) = true := (inB_take _ _ _).2 ⟨j, by omega, by omega, h⟩
          simp only [twB]
          rw [if_pos hin]
          refine Ev.ret fun k => ?_
          simp only [juratref09_Twice.l1]
          rw [if_pos (by omega), if_pos (by omega), if_pos (by omega), if_pos (by omega), if_pos (by omega), e1, e2, if_pos (toList_iff.2 h)]
        · refine Ev.step (f := fun k => juratref09_Twice.l1 k l (i : Int) ((j + 1 : Nat) : Int)) (fun k => ?_) (ihe (j + 1) (by omega) (fun t ht => by
            by_cases he : t = j
            · subst he; exact h
            · exact hn t (by omega)))
          simp only [juratref09_Twice.l1]
          rw [if_pos (by omega), if_pos (by omega), if_pos (by omega), if_pos (by omega), if_pos (by omega), e1, e2, if_neg (fun x => h (toList_iff.1 x)), wrap_id (by omega) (by omega)]
          rfl
    refine Ev.step (f := fun k => juratref09_Twice.l1 k l (i : Int) ((0 : Nat) : Int)) (fun k => ?_) (inner i 0 (by omega) (fun t ht => absurd ht (Nat.not_lt_zero _)))
    simp only [juratref09_Twice.l0]
    rw [if_pos (by omega)]
    rfl
theorem rtwice_ev (l : List ByteArray) (hl : l.length ≤ 9223372036854775806) : Ev (fun k => juratref09_Twice.f k l) (twB [] l 0) := by
  have h := rtwice_both l hl l.length 0 (by omega)
  rw [List.take_zero, List.drop_zero] at h
  exact h

end Go.Proofs.Ytekdmkdidnnpbaa.Base

/- Proved here: what Go functions of this seat compute, or a law of it; no condition beyond the statement's own. Written for this claim by a program of this session (wip/myprint.py) over the kit's print.py. -/
namespace Go.Proofs.Ytekdmkdidnnpbaa.P
open Go.RowKit Go.Proofs.YtekdmkdidnnpbaaW.PrintWords Go.Proofs.YtekdmkdidnnpbaaW.PrintLast Go.Proofs.YtekdmkdidnnpbaaW.PrintMore
attribute [local go_sem] max2_int min2_int max_two min_two max_three min_three max_four min_four   -- for this text's walks alone
set_option linter.unusedVariables false
set_option linter.unusedSimpArgs false

/-! ### juratref10_New: function 23 -/
def juratref10_New.l0 : Nat → List ByteArray → Int → Int → Option (List ByteArray × Int)
  | 0, _, _, _ => none
  | k + 1, x0, x4, x5 => if x5 < (x0.length : Int) then (if 0 ≤ x5 then (if (rdOf ByteArray.empty x0 x5).toList = ([] : List UInt8) then (some (([] : List ByteArray), 7)) else (if ((rdOf ByteArray.empty x0 x5).size : Int) > 65535 then (some (([] : List ByteArray), 5)) else (juratref10_New.l0 k x0 (wrap64 (x4 + ((rdOf ByteArray.empty x0 x5).size : Int))) (wrap64 (x5 + 1))))) else (none)) else (if x4 > 16777216 then (some (([] : List ByteArray), 13)) else ((juratref09_Twice.f k x0).bind fun t249 => (if t249 ≥ 0 then (some (([] : List ByteArray), 8)) else ((juratref09_Sorted.f k x0).bind fun t250 => (some (t250, 0))))))
def juratref10_New.f (k : Nat) (l0 : List ByteArray) : Option (List ByteArray × Int) := if (l0.length : Int) = 0 then (some (([] : List ByteArray), 14)) else (if (l0.length : Int) > 65535 then (some (([] : List ByteArray), 6)) else (juratref10_New.l0 k l0 0 0))
theorem juratref10_New.mono_l : ∀ k, (∀ y0 y1 y2, LeO (juratref10_New.l0 k y0 y1 y2) (juratref10_New.l0 (k + 1) y0 y1 y2))
  | 0 => fun _ _ _ r h => by simp [juratref10_New.l0] at h
  | k + 1 => by
    have ih0 := juratref10_New.mono_l k
    · intro y0 y1 y2
      unfold juratref10_New.l0
      repeat' first
      | (with_reducible exact ih0 _ _ _)
      | (with_reducible exact juratref09_Sorted.mono _ _)
      | (with_reducible exact juratref09_Twice.mono _ _)
      | (with_reducible exact LeO.refl _)
      | (with_reducible exact LeO.none _)
      | (with_reducible refine LeO.ite ?_ ?_)
      | (with_reducible refine LeO.bind ?_ (fun _ => ?_))
      | exact ih0 _ _ _
      | exact juratref09_Sorted.mono _ _
      | exact juratref09_Twice.mono _ _
      | exact LeO.none _
      | refine LeO.ite ?_ ?_
      | refine LeO.bind ?_ (fun _ => ?_)
theorem juratref10_New.mono : ∀ a0 k, LeO (juratref10_New.f k a0) (juratref10_New.f (k + 1) a0) := by
  intro a0 k
  have ih0 := juratref10_New.mono_l k
  unfold juratref10_New.f
  repeat' first
      | (with_reducible exact ih0 _ _ _)
      | (with_reducible exact juratref09_Sorted.mono _ _)
      | (with_reducible exact juratref09_Twice.mono _ _)
      | (with_reducible exact LeO.refl _)
      | (with_reducible exact LeO.none _)
      | (with_reducible refine LeO.ite ?_ ?_)
      | (with_reducible refine LeO.bind ?_ (fun _ => ?_))
      | exact ih0 _ _ _
      | exact juratref09_Sorted.mono _ _
      | exact juratref09_Twice.mono _ _
      | exact LeO.none _
      | refine LeO.ite ?_ ?_
      | refine LeO.bind ?_ (fun _ => ?_)
set_option maxHeartbeats 8000000 in
set_option maxRecDepth 100000 in
theorem juratref10_New.calls (k : Nat) (A0 : Option Addr) (c0 : Nat) (l0 : List ByteArray) (r1 : List ByteArray) (r2 : Int) (w : World) (hr0 : Kd.C Kd.string w A0 l0.length l0) (hc0 : l0.length ≤ c0) (h : juratref10_New.f k l0 = some (r1, r2)) :
    Calls Try.prog 23 #[.slice A0 l0.length c0] w fun e w' => ∃ v0_ : Value, e = .returned (.tuple #[v0_, .int .i64 r2]) ∧ Kd.R Kd.string 9 w' w.heap.size (fun _ => True) v0_ r1 ∧ Below w.heap.size w w' := by
  have HR0 := Aside0.mk hr0
  have HC0 := Aside0.mk hc0
  clear hr0 hc0
  have HB := Aside0.mk (Below.refl w.heap.size w)
  have H : (if (l0.length : Int) = 0 then (some (([] : List ByteArray), 14)) else (if (l0.length : Int) > 65535 then (some (([] : List ByteArray), 6)) else (juratref10_New.l0 k l0 0 0))) = some (r1, r2) := h
  clear h
  by_cases c2 : (l0.length : Int) = 0
  · rw [if_pos c2] at H
    have c2b0 : ((l0.length : Int) == 0) = true := beq_iff_eq.mpr c2
    have c2b1 : ((l0.length : Int) != 0) = false := bne_eq_false_iff_eq.mpr c2
    clear c2
    simp only [Option.some.injEq, Prod.mk.injEq] at H
    obtain ⟨rfl, rfl⟩ := H
    go_enter Try.func23, Try.ntmps23
    go_wp2
    go_ret2
    exact ⟨_, by first | rfl | (simp [errW_none, errW_some] <;> rfl) | (simp [*, errW_none, errW_some] <;> rfl), by first | exact Kd.R_nil _ _ _ _ _ | exact Kd.N_nil _ _ _ _ _ | exact Kd.V_nil _ _ _ _ _ | exact Kd.Q_nil _ _ _ _ _ | exact Kd.S_nil _ _ _ _ _, by repeat (first | (with_reducible first | exact HB.out | apply below_alloc | apply pw_below_drewN | apply below_drew1) | exact HB.out)⟩
  · rw [if_neg c2] at H
    have c2b0 : ((l0.length : Int) == 0) = false := beq_eq_false_iff_ne.mpr c2
    have c2b1 : ((l0.length : Int) != 0) = true := bne_iff_ne.mpr c2
    have c2b2 : ¬ (l0 = []) := fun h_ => c2 (by rw [h_]; rfl)
    by_cases c3 : (l0.length : Int) > 65535
    · rw [if_pos c3] at H
      have c3b0 : decide (65535 < (l0.length : Int)) = true := decide_eq_true c3
      have c3b1 : decide (65535 < l0.length) = true := decide_eq_true (by omega)
      clear c3
      simp only [Option.some.injEq, Prod.mk.injEq] at H
      obtain ⟨rfl, rfl⟩ := H
      go_enter Try.func23, Try.ntmps23
      go_wp2
      go_ret2
      exact ⟨_, by first | rfl | (simp [errW_none, errW_some] <;> rfl) | (simp [*, errW_none, errW_some] <;> rfl), by first | exact Kd.R_nil _ _ _ _ _ | exact Kd.N_nil _ _ _ _ _ | exact Kd.V_nil _ _ _ _ _ | exact Kd.Q_nil _ _ _ _ _ | exact Kd.S_nil _ _ _ _ _, by repeat (first | (with_reducible first | exact HB.out | apply below_alloc | apply pw_below_drewN | apply below_drew1) | exact HB.out)⟩
    · rw [if_neg c3] at H
      have c3b0 : decide (65535 < (l0.length : Int)) = false := decide_eq_false c3
      have c3b1 : decide (65535 < l0.length) = false := decide_eq_false (by omega)
      clear c3
      have H' := Aside0.mk H
      clear H
      go_enter Try.func23, Try.ntmps23
      go_wp2
      go_loopg [4, 5] k (fun kq v4 v5 w' => ∃ (x4_1 : Int) (x5_1 : Int), v4 = .int .i64 x4_1 ∧ v5 = .int .i64 x5_1 ∧ Aside0 (juratref10_New.l0 kq l0 x4_1 x5_1 = some (r1, r2)) ∧ Aside0 (kq ≤ k) ∧ Aside0 (Below w.heap.size w w'))
      case atStart => exact ⟨(0), (0), (by first | rfl | exact isE_ _ | exact isE2_ _ | (simp; done) | (simp [*]; done)), (by first | rfl | exact isE_ _ | exact isE2_ _ | (simp; done) | (simp [*]; done)), H', ⟨Nat.le_refl _⟩, ⟨by repeat (first | (with_reducible first | exact HB.out | apply below_alloc | apply pw_below_drewN | apply below_drew1) | exact HB.out)⟩⟩
      case round =>
        clear H'
        try clear c2
        try clear c2b0
        try clear c2b1
        try clear c2b2
        try clear p2
        try clear c3
        try clear c3b0
        try clear c3b1
        obtain ⟨x4_1, x5_1, rfl, rfl, HA, HK1, HB⟩ := hrel
        cases gk with
        | zero => exact absurd HA.out (by simp [juratref10_New.l0])
        | succ k1 =>
          have H := HA.out
          clear HA
          simp only [juratref10_New.l0] at H
          by_cases c4 : x5_1 < (l0.length : Int)
          · rw [if_pos c4] at H
            have c4b0 : decide (x5_1 < (l0.length : Int)) = true := decide_eq_true c4
            clear c4
            by_cases c5 : 0 ≤ x5_1
            · rw [if_pos c5] at H
              have c5b0 : decide (0 ≤ x5_1) = true := decide_eq_true c5
              clear c5
              by_cases c6 : (rdOf ByteArray.empty l0 x5_1).toList = ([] : List UInt8)
              · rw [if_pos c6] at H
                have c6b0 : ((rdOf ByteArray.empty l0 x5_1).toList == ([] : List UInt8)) = true := beq_iff_eq.mpr c6
                have c6b1 : ((rdOf ByteArray.empty l0 x5_1).toList != ([] : List UInt8)) = false := bne_eq_false_iff_eq.mpr c6
                clear c6
                simp only [Option.some.injEq, Prod.mk.injEq] at H
                obtain ⟨rfl, rfl⟩ := H
                have p246 : 0 ≤ (x5_1 : Int) := of_decide_eq_true (by first | (with_reducible assumption) | assumption)
                have q246 : x5_1 < (l0.length : Int) := of_decide_eq_true (by first | (with_reducible assumption) | assumption)
                obtain ⟨ad246, e246, hx246_0⟩ := Kd.at_string HR0.out x5_1 p246 q246
                cases e246
                replace hx246_0 := (HB.out.cell (World.block_lt_of_cell? w _ hx246_0)).trans hx246_0
                replace p246 := eq_true p246
                replace q246 := eq_true q246
                go_wp2
                go_ret2
                exact ⟨_, by first | rfl | (simp [errW_none, errW_some] <;> rfl) | (simp [*, errW_none, errW_some] <;> rfl), by first | exact Kd.R_nil _ _ _ _ _ | exact Kd.N_nil _ _ _ _ _ | exact Kd.V_nil _ _ _ _ _ | exact Kd.Q_nil _ _ _ _ _ | exact Kd.S_nil _ _ _ _ _, by repeat (first | (with_reducible first | exact HB.out | apply below_alloc | apply pw_below_drewN | apply below_drew1) | exact HB.out)⟩
              · rw [if_neg c6] at H
                have c6b0 : ((rdOf ByteArray.empty l0 x5_1).toList == ([] : List UInt8)) = false := beq_eq_false_iff_ne.mpr c6
                have c6b1 : ((rdOf ByteArray.empty l0 x5_1).toList != ([] : List UInt8)) = true := bne_iff_ne.mpr c6
                by_cases c7 : ((rdOf ByteArray.empty l0 x5_1).size : Int) > 65535
                · rw [if_pos c7] at H
                  have c7b0 : decide (65535 < ((rdOf ByteArray.empty l0 x5_1).size : Int)) = true := decide_eq_true c7
                  have c7b1 : decide (65535 < (rdOf ByteArray.empty l0 x5_1).size) = true := decide_eq_true (by omega)
                  clear c7
                  simp only [Option.some.injEq, Prod.mk.injEq] at H
                  obtain ⟨rfl, rfl⟩ := H
                  have p246 : 0 ≤ (x5_1 : Int) := of_decide_eq_true (by first | (with_reducible assumption) | assumption)
                  have q246 : x5_1 < (l0.length : Int) := of_decide_eq_true (by first | (with_reducible assumption) | assumption)
                  obtain ⟨ad246, e246, hx246_0⟩ := Kd.at_string HR0.out x5_1 p246 q246
                  cases e246
                  replace hx246_0 := (HB.out.cell (World.block_lt_of_cell? w _ hx246_0)).trans hx246_0
                  replace p246 := eq_true p246
                  replace q246 := eq_true q246
                  have p247 : 0 ≤ (x5_1 : Int) := of_decide_eq_true (by first | (with_reducible assumption) | assumption)
                  have q247 : x5_1 < (l0.length : Int) := of_decide_eq_true (by first | (with_reducible assumption) | assumption)
                  obtain ⟨ad247, e247, hx247_0⟩ := Kd.at_string HR0.out x5_1 p247 q247
                  obtain rfl : ad246 = ad247 := (by injection e247)
                  replace hx247_0 := (HB.out.cell (World.block_lt_of_cell? w _ hx247_0)).trans hx247_0
                  replace p247 := eq_true p247
                  replace q247 := eq_true q247
                  go_wp2
                  go_ret2
                  exact ⟨_, by first | rfl | (simp [errW_none, errW_some] <;> rfl) | (simp [*, errW_none, errW_some] <;> rfl), by first | exact Kd.R_nil _ _ _ _ _ | exact Kd.N_nil _ _ _ _ _ | exact Kd.V_nil _ _ _ _ _ | exact Kd.Q_nil _ _ _ _ _ | exact Kd.S_nil _ _ _ _ _, by repeat (first | (with_reducible first | exact HB.out | apply below_alloc | apply pw_below_drewN | apply below_drew1) | exact HB.out)⟩
                · rw [if_neg c7] at H
                  have c7b0 : decide (65535 < ((rdOf ByteArray.empty l0 x5_1).size : Int)) = false := decide_eq_false c7
                  have c7b1 : decide (65535 < (rdOf ByteArray.empty l0 x5_1).size) = false := decide_eq_false (by omega)
                  clear c7
                  have H' := Aside0.mk H
                  clear H
                  have p246 : 0 ≤ (x5_1 : Int) := of_decide_eq_true (by first | (with_reducible assumption) | assumption)
                  have q246 : x5_1 < (l0.length : Int) := of_decide_eq_true (by first | (with_reducible assumption) | assumption)
                  obtain ⟨ad246, e246, hx246_0⟩ := Kd.at_string HR0.out x5_1 p246 q246
                  cases e246
                  replace hx246_0 := (HB.out.cell (World.block_lt_of_cell? w _ hx246_0)).trans hx246_0
                  replace p246 := eq_true p246
                  replace q246 := eq_true q246
                  have p247 : 0 ≤ (x5_1 : Int) := of_decide_eq_true (by first | (with_reducible assumption) | assumption)
                  have q247 : x5_1 < (l0.length : Int) := of_decide_eq_true (by first | (with_reducible assumption) | assumption)
                  obtain ⟨ad247, e247, hx247_0⟩ := Kd.at_string HR0.out x5_1 p247 q247
                  obtain rfl : ad246 = ad247 := (by injection e247)
                  replace hx247_0 := (HB.out.cell (World.block_lt_of_cell? w _ hx247_0)).trans hx247_0
                  replace p247 := eq_true p247
                  replace q247 := eq_true q247
                  have p248 : 0 ≤ (x5_1 : Int) := of_decide_eq_true (by first | (with_reducible assumption) | assumption)
                  have q248 : x5_1 < (l0.length : Int) := of_decide_eq_true (by first | (with_reducible assumption) | assumption)
                  obtain ⟨ad248, e248, hx248_0⟩ := Kd.at_string HR0.out x5_1 p248 q248
                  obtain rfl : ad246 = ad248 := (by injection e248)
                  replace hx248_0 := (HB.out.cell (World.block_lt_of_cell? w _ hx248_0)).trans hx248_0
                  replace p248 := eq_true p248
                  replace q248 := eq_true q248
                  go_wp2
                  go_roundg k1
                  case measure => have := HK1.out; omega
                  case rel => exact ⟨(wrap64 (x4_1 + ((rdOf ByteArray.empty l0 x5_1).size : Int))), (wrap64 (x5_1 + 1)), (by first | rfl | exact isE_ _ | exact isE2_ _ | (simp; done) | (simp [*]; done)), (by first | rfl | exact isE_ _ | exact isE2_ _ | (simp; done) | (simp [*]; done)), H', ⟨by have := HK1.out; omega⟩, ⟨by repeat (first | (with_reducible first | exact HB.out | apply below_alloc | apply pw_below_drewN | apply below_drew1) | exact HB.out)⟩⟩
            · rw [if_neg c5] at H
              exact absurd H (by simp)
          · rw [if_neg c4] at H
            have c4b0 : decide (x5_1 < (l0.length : Int)) = false := decide_eq_false c4
            clear c4
            by_cases c8 : x4_1 > 16777216
            · rw [if_pos c8] at H
              have c8b0 : decide (16777216 < x4_1) = true := decide_eq_true c8
              clear c8
              simp only [Option.some.injEq, Prod.mk.injEq] at H
              obtain ⟨rfl, rfl⟩ := H
              go_wp2
              go_ret2
              exact ⟨_, by first | rfl | (simp [errW_none, errW_some] <;> rfl) | (simp [*, errW_none, errW_some] <;> rfl), by first | exact Kd.R_nil _ _ _ _ _ | exact Kd.N_nil _ _ _ _ _ | exact Kd.V_nil _ _ _ _ _ | exact Kd.Q_nil _ _ _ _ _ | exact Kd.S_nil _ _ _ _ _, by repeat (first | (with_reducible first | exact HB.out | apply below_alloc | apply pw_below_drewN | apply below_drew1) | exact HB.out)⟩
            · rw [if_neg c8] at H
              have c8b0 : decide (16777216 < x4_1) = false := decide_eq_false c8
              clear c8
              replace H := Option.bind_eq_some_iff.mp H
              obtain ⟨t249, A90, H⟩ := H
              replace H : (if t249 ≥ 0 then (some (([] : List ByteArray), 8)) else ((juratref09_Sorted.f k1 l0).bind fun t250 => (some (t250, 0)))) = some (r1, r2) := H
              have A9 := Aside0.mk A90
              clear A90
              by_cases c10 : t249 ≥ 0
              · rw [if_pos c10] at H
                have c10b0 : decide (0 ≤ t249) = true := decide_eq_true c10
                clear c10
                simp only [Option.some.injEq, Prod.mk.injEq] at H
                obtain ⟨rfl, rfl⟩ := H
                go_wp2_with (first | ((with_reducible refine gate_callee (f := 67) rfl ?_); refine goesL_ (some 39) rfl rfl Try.func67 (by kernel_rfl) rfl #[.slice A0 l0.length c0] rfl (by (try simp only [List.map_toArray, List.map_cons, List.map_nil]); first | done | rfl | (simp only [List.length_drop, List.length_take]; rfl)) ?_; (with_reducible refine (juratref09_Twice.calls k1 _ _ l0 t249 _ ?side1 ?side2 A9.out).mono ?_); (case side1 => repeat (first | exact (Kd.C_below HR0.out HB.out) | (with_reducible refine Kd.C_alloc ?_ _) | (with_reducible refine Kd.C_drewN ?_ _) | (with_reducible refine Kd.C_drew ?_))); (case side2 => exact HC0.out); rintro e w' ⟨rfl, ⟨nd, rfl⟩⟩; refine ⟨_, rfl, ?_⟩))
                go_ret2
                exact ⟨_, by first | rfl | (simp [errW_none, errW_some] <;> rfl) | (simp [*, errW_none, errW_some] <;> rfl), by first | exact Kd.R_nil _ _ _ _ _ | exact Kd.N_nil _ _ _ _ _ | exact Kd.V_nil _ _ _ _ _ | exact Kd.Q_nil _ _ _ _ _ | exact Kd.S_nil _ _ _ _ _, by repeat (first | (with_reducible first | exact HB.out | apply below_alloc | apply pw_below_drewN | apply below_drew1) | exact HB.out)⟩
              · rw [if_neg c10] at H
                have c10b0 : decide (0 ≤ t249) = false := decide_eq_false c10
                clear c10
                replace H := Option.bind_eq_some_iff.mp H
                obtain ⟨t250, A110, H⟩ := H
                replace H : (some (t250, 0)) = some (r1, r2) := H
                have A11 := Aside0.mk A110
                clear A110
                simp only [Option.some.injEq, Prod.mk.injEq] at H
                obtain ⟨rfl, rfl⟩ := H
                go_wp2_with (first | ((with_reducible refine gate_callee (f := 67) rfl ?_); refine goesL_ (some 39) rfl rfl Try.func67 (by kernel_rfl) rfl #[.slice A0 l0.length c0] rfl (by (try simp only [List.map_toArray, List.map_cons, List.map_nil]); first | done | rfl | (simp only [List.length_drop, List.length_take]; rfl)) ?_; (with_reducible refine (juratref09_Twice.calls k1 _ _ l0 t249 _ ?side1 ?side2 A9.out).mono ?_); (case side1 => repeat (first | exact (Kd.C_below HR0.out HB.out) | (with_reducible refine Kd.C_alloc ?_ _) | (with_reducible refine Kd.C_drewN ?_ _) | (with_reducible refine Kd.C_drew ?_))); (case side2 => exact HC0.out); rintro e w' ⟨rfl, ⟨nd, rfl⟩⟩; refine ⟨_, rfl, ?_⟩) | ((with_reducible refine gate_callee (f := 68) rfl ?_); refine goesL_ (some 42) rfl rfl Try.func68 (by kernel_rfl) rfl #[.slice A0 l0.length c0] rfl (by (try simp only [List.map_toArray, List.map_cons, List.map_nil]); first | done | rfl | (simp only [List.length_drop, List.length_take]; rfl)) ?_; (with_reducible refine (juratref09_Sorted.calls k1 _ _ l0 t250 _ ?side1 ?side2 A11.out).mono ?_); (case side1 => repeat (first | exact (Kd.C_below HR0.out (by repeat (first | (with_reducible first | exact HB.out | apply below_alloc | apply pw_below_drewN | apply below_drew1) | exact HB.out))) | (with_reducible refine Kd.C_alloc ?_ _) | (with_reducible refine Kd.C_drewN ?_ _) | (with_reducible refine Kd.C_drew ?_))); (case side2 => exact HC0.out); rintro e w12 ⟨v251, rfl, ho0, hb⟩; refine ⟨_, rfl, ?_⟩; have n0_ := Aside0.mk (Kd.R_lower ho0 (below_size (by repeat (first | (with_reducible first | exact HB.out | apply below_alloc | apply pw_below_drewN | apply below_drew1) | exact HB.out)))); have n1_ := Aside0.mk (below_step (by repeat (first | (with_reducible first | exact HB.out | apply below_alloc | apply pw_below_drewN | apply below_drew1) | exact HB.out)) hb); clear HB; have HO252 := n0_; have HB := n1_; clear n0_ n1_; (try clear hb); (try clear hb2); (try clear hk); (try clear hi); (try clear ho0)))
                go_ret2
                exact ⟨_, by first | rfl | (simp [errW_none, errW_some] <;> rfl) | (simp [*, errW_none, errW_some] <;> rfl), by (with_reducible repeat (first | apply Kd.R_alloc | apply Kd.R_drewN | apply Kd.R_drew)); exact HO252.out, by repeat (first | (with_reducible first | exact HB.out | apply below_alloc | apply pw_below_drewN | apply below_drew1) | exact HB.out)⟩

end Go.Proofs.Ytekdmkdidnnpbaa.P

/- What layer 10's reference makes of texts, as plain functions; no condition beyond the sizes that stand in each statement. -/
namespace Go.Proofs.Ytekdmkdidnnpbaa.Base
open Go Go.RowKit Go.Proofs.YtekdmkdidnnpbaaW.PrintWords Go.Proofs.YtekdmkdidnnpbaaW.PrintMore Go.Proofs.Ytekdmkdidnnpbaa.P
set_option linter.unusedVariables false

/-- The patterns in order, or the error. -/
def newB (l : List ByteArray) : List ByteArray × Int :=
  if l.length = 0 then ([], 14) else if l.length > 65535 then ([], 6) else if badB l ≠ 0 then ([], badB l) else if totalB 0 l > 16777216 then ([], 13) else if twB [] l 0 ≥ 0 then ([], 8) else (sortB l, 0)
theorem rnew_l0 (l : List ByteArray) (hl : l.length ≤ 65535) : ∀ (d i n : Nat), i + d = l.length → n ≤ i * 65535 →
    Ev (fun k => juratref10_New.l0 k l (n : Int) (i : Int)) (if badB (l.drop i) ≠ 0 then ([], badB (l.drop i)) else if totalB n (l.drop i) > 16777216 then ([], 13) else if twB [] l 0 ≥ 0 then ([], 8) else (sortB l, 0)) := by
  intro d
  induction d with
  | zero =>
    intro i n hi hn
    rw [List.drop_of_length_le (by omega), if_neg (by simp [badB])]
    have hn' : totalB n [] = n := rfl
    rw [hn']
    by_cases h1 : n > 16777216
    · rw [if_pos h1]
      refine Ev.ret fun k => ?_
      simp only [juratref10_New.l0]
      rw [if_neg (by omega), if_pos (by omega)]
    · rw [if_neg h1]
      refine Ev.step (f := fun k => (juratref09_Twice.f k l).bind fun t => if t ≥ 0 then some ([], 8) else (juratref09_Sorted.f k l).bind fun s => some (s, 0)) (fun k => ?_) ?_
      · simp only [juratref10_New.l0]
        rw [if_neg (by omega), if_neg (by omega)]
      refine Ev.bind (rtwice_ev l (by omega)) ?_
      by_cases h2 : twB [] l 0 ≥ 0
      · rw [if_pos h2]
        exact Ev.congr (fun k => if_pos h2) (Ev.now _)
      · rw [if_neg h2]
        exact Ev.congr (fun k => if_neg h2) (Ev.bind (rsorted_ev l (by omega)) (Ev.now _))
  | succ d ih =>
    intro i n hi hn
    have hd := getD_drop l i ByteArray.empty (by omega)
    have e : rdOf ByteArray.empty l (i : Int) = l.getD i ByteArray.empty := rfl
    rw [hd]
    generalize l.getD i ByteArray.empty = s at e
    by_cases h0 : s.size = 0
    · have hc : chkB s = 7 := by unfold chkB; rw [if_pos h0]
      have hb : badB (s :: l.drop (i + 1)) = chkB s := by show (if chkB s = 0 then _ else chkB s) = chkB s; rw [if_neg (by omega)]
      rw [hb, hc, if_pos (by omega)]
      refine Ev.ret fun k => ?_
      simp only [juratref10_New.l0]
      rw [if_pos (by omega), if_pos (by omega), e, if_pos (toList_nil.2 h0)]
    by_cases h1 : s.size > 65535
    · have hc : chkB s = 5 := by unfold chkB; rw [if_neg h0, if_pos h1]
      have hb : badB (s :: l.drop (i + 1)) = chkB s := by show (if chkB s = 0 then _ else chkB s) = chkB s; rw [if_neg (by omega)]
      rw [hb, hc, if_pos (by omega)]
      refine Ev.ret fun k => ?_
      simp only [juratref10_New.l0]
      rw [if_pos (by omega), if_pos (by omega), e, if_neg (fun x => h0 (toList_nil.1 x)), if_pos (by omega)]
    have hc : chkB s = 0 := by unfold chkB; rw [if_neg h0, if_neg h1]
    have hb : badB (s :: l.drop (i + 1)) = badB (l.drop (i + 1)) := if_pos hc
    rw [hb]
    have ht : totalB n (s :: l.drop (i + 1)) = totalB (n + s.size) (l.drop (i + 1)) := rfl
    rw [ht]
    refine Ev.step (f := fun k => juratref10_New.l0 k l ((n + s.size : Nat) : Int) ((i + 1 : Nat) : Int)) (fun k => ?_) (ih (i + 1) (n + s.size) (by omega) (by omega))
    simp only [juratref10_New.l0]
    rw [if_pos (by omega), if_pos (by omega), e, if_neg (fun x => h0 (toList_nil.1 x)), if_neg (by omega), wrap_id (by omega) (by omega), wrap_id (by omega) (by omega)]
    rfl
theorem rnew_ev (l : List ByteArray) : Ev (fun k => juratref10_New.f k l) (newB l) := by
  unfold newB
  by_cases h0 : l.length = 0
  · rw [if_pos h0]
    refine Ev.const fun k => ?_
    unfold juratref10_New.f
    rw [if_pos (by omega)]
  rw [if_neg h0]
  by_cases h1 : l.length > 65535
  · rw [if_pos h1]
    refine Ev.const fun k => ?_
    unfold juratref10_New.f
    rw [if_neg (by omega), if_pos (by omega)]
  rw [if_neg h1]
  have h := rnew_l0 l (by omega) l.length 0 0 (by omega) (by omega)
  rw [List.drop_zero] at h
  refine Ev.congr (fun k => ?_) h
  unfold juratref10_New.f
  rw [if_neg (by omega), if_neg (by omega)]
  rfl

/-- What the document tells of a list. -/
def minB (l : List ByteArray) : Nat := leastB (l.getD 0 ByteArray.empty).size l

end Go.Proofs.Ytekdmkdidnnpbaa.Base

/- Proved here: what Go functions of this seat compute, or a law of it; no condition beyond the statement's own. Written for this claim by a program of this session (wip/myprint.py) over the kit's print.py. -/
namespace Go.Proofs.Ytekdmkdidnnpbaa.P
open Go.RowKit Go.Proofs.YtekdmkdidnnpbaaW.PrintWords Go.Proofs.YtekdmkdidnnpbaaW.PrintLast Go.Proofs.YtekdmkdidnnpbaaW.PrintMore
attribute [local go_sem] max2_int min2_int max_two min_two max_three min_three max_four min_four   -- for this text's walks alone
set_option linter.unusedVariables false
set_option linter.unusedSimpArgs false

/-! ### juratref10_Find: function 48 -/
def juratref10_Find.l0 : Nat → List ByteArray → ByteArray → Int → Option (Int)
  | 0, _, _, _ => none
  | k + 1, x0, x1, x5 => if x5 < (x0.length : Int) then (if 0 ≤ x5 then (if (rdOf ByteArray.empty x0 x5).toList = x1.toList then (some x5) else (juratref10_Find.l0 k x0 x1 (wrap64 (x5 + 1)))) else (none)) else (some (-1))
def juratref10_Find.f (k : Nat) (l0 : List ByteArray) (a1 : ByteArray) : Option (Int) := juratref10_Find.l0 k l0 a1 0
theorem juratref10_Find.mono_l : ∀ k, (∀ y0 y1 y2, LeO (juratref10_Find.l0 k y0 y1 y2) (juratref10_Find.l0 (k + 1) y0 y1 y2))
  | 0 => fun _ _ _ r h => by simp [juratref10_Find.l0] at h
  | k + 1 => by
    have ih0 := juratref10_Find.mono_l k
    · intro y0 y1 y2
      unfold juratref10_Find.l0
      repeat' first
      | (with_reducible exact ih0 _ _ _)
      | (with_reducible exact LeO.refl _)
      | (with_reducible exact LeO.none _)
      | (with_reducible refine LeO.ite ?_ ?_)
      | (with_reducible refine LeO.bind ?_ (fun _ => ?_))
      | exact ih0 _ _ _
      | exact LeO.none _
      | refine LeO.ite ?_ ?_
      | refine LeO.bind ?_ (fun _ => ?_)
theorem juratref10_Find.mono : ∀ a0 a1 k, LeO (juratref10_Find.f k a0 a1) (juratref10_Find.f (k + 1) a0 a1) := by
  intro a0 a1 k
  have ih0 := juratref10_Find.mono_l k
  unfold juratref10_Find.f
  repeat' first
      | (with_reducible exact ih0 _ _ _)
      | (with_reducible exact LeO.refl _)
      | (with_reducible exact LeO.none _)
      | (with_reducible refine LeO.ite ?_ ?_)
      | (with_reducible refine LeO.bind ?_ (fun _ => ?_))
      | exact ih0 _ _ _
      | exact LeO.none _
      | refine LeO.ite ?_ ?_
      | refine LeO.bind ?_ (fun _ => ?_)
set_option maxHeartbeats 8000000 in
set_option maxRecDepth 100000 in
theorem juratref10_Find.calls (k : Nat) (A0 : Option Addr) (c0 : Nat) (l0 : List ByteArray) (a1 : ByteArray) (r : Int) (w : World) (hr0 : Kd.C Kd.string w A0 l0.length l0) (hc0 : l0.length ≤ c0) (h : juratref10_Find.f k l0 a1 = some r) :
    Calls Try.prog 48 #[.slice A0 l0.length c0, .string a1] w fun e w' => e = .returned (.int .i64 r) ∧ Drawn0 w w' := by
  have HR0 := Aside0.mk hr0
  have HC0 := Aside0.mk hc0
  clear hr0 hc0
  have H : (juratref10_Find.l0 k l0 a1 0) = some r := h
  clear h
  have H' := Aside0.mk H
  clear H
  go_enter Try.func48, Try.ntmps48
  go_wp2
  go_loopg [5] k (fun kq v5 w' => ∃ (x5_1 : Int), v5 = .int .i64 x5_1 ∧ Aside0 (juratref10_Find.l0 kq l0 a1 x5_1 = some r) ∧ Aside0 (kq ≤ k) ∧ Drawn0 w w')
  case atStart => exact ⟨(0), (by first | rfl | exact isE_ _ | exact isE2_ _ | (simp; done) | (simp [*]; done)), H', ⟨Nat.le_refl _⟩, by repeat (first | exact Drawn0.refl _ | apply Drawn0.step)⟩
  case round =>
    clear H'
    try clear p2
    obtain ⟨x5_1, rfl, HA, HK1, ⟨m1, rfl⟩⟩ := hrel
    cases gk with
    | zero => exact absurd HA.out (by simp [juratref10_Find.l0])
    | succ k1 =>
      have H := HA.out
      clear HA
      simp only [juratref10_Find.l0] at H
      by_cases c3 : x5_1 < (l0.length : Int)
      · rw [if_pos c3] at H
        have c3b0 : decide (x5_1 < (l0.length : Int)) = true := decide_eq_true c3
        clear c3
        by_cases c4 : 0 ≤ x5_1
        · rw [if_pos c4] at H
          have c4b0 : decide (0 ≤ x5_1) = true := decide_eq_true c4
          clear c4
          by_cases c5 : (rdOf ByteArray.empty l0 x5_1).toList = a1.toList
          · rw [if_pos c5] at H
            have c5b0 : ((rdOf ByteArray.empty l0 x5_1).toList == a1.toList) = true := beq_iff_eq.mpr c5
            have c5b1 : ((rdOf ByteArray.empty l0 x5_1).toList != a1.toList) = false := bne_eq_false_iff_eq.mpr c5
            clear c5
            obtain rfl := Option.some.inj H
            have p483 : 0 ≤ (x5_1 : Int) := of_decide_eq_true (by first | (with_reducible assumption) | assumption)
            have q483 : x5_1 < (l0.length : Int) := of_decide_eq_true (by first | (with_reducible assumption) | assumption)
            obtain ⟨ad483, e483, hx483_0⟩ := Kd.at_string HR0.out x5_1 p483 q483
            cases e483
            replace p483 := eq_true p483
            replace q483 := eq_true q483
            go_wp2
            go_ret
            exact ⟨by first | rfl | (simp; done) | (simp [*]; done), by repeat (first | exact Drawn0.refl _ | apply Drawn0.step)⟩
          · rw [if_neg c5] at H
            have c5b0 : ((rdOf ByteArray.empty l0 x5_1).toList == a1.toList) = false := beq_eq_false_iff_ne.mpr c5
            have c5b1 : ((rdOf ByteArray.empty l0 x5_1).toList != a1.toList) = true := bne_iff_ne.mpr c5
            have H' := Aside0.mk H
            clear H
            have p483 : 0 ≤ (x5_1 : Int) := of_decide_eq_true (by first | (with_reducible assumption) | assumption)
            have q483 : x5_1 < (l0.length : Int) := of_decide_eq_true (by first | (with_reducible assumption) | assumption)
            obtain ⟨ad483, e483, hx483_0⟩ := Kd.at_string HR0.out x5_1 p483 q483
            cases e483
            replace p483 := eq_true p483
            replace q483 := eq_true q483
            go_wp2
            go_roundg k1
            case measure => have := HK1.out; omega
            case rel => exact ⟨(wrap64 (x5_1 + 1)), (by first | rfl | exact isE_ _ | exact isE2_ _ | (simp; done) | (simp [*]; done)), H', ⟨by have := HK1.out; omega⟩, by repeat (first | exact Drawn0.refl _ | apply Drawn0.step)⟩
        · rw [if_neg c4] at H
          exact absurd H (by simp)
      · rw [if_neg c3] at H
        have c3b0 : decide (x5_1 < (l0.length : Int)) = false := decide_eq_false c3
        clear c3
        obtain rfl := Option.some.inj H
        go_wp2
        go_ret
        exact ⟨by first | rfl | (simp; done) | (simp [*]; done), by repeat (first | exact Drawn0.refl _ | apply Drawn0.step)⟩

end Go.Proofs.Ytekdmkdidnnpbaa.P

/- What layer 10's reference computes, as plain functions on lists of texts, and that layer 10's set is it; no condition beyond the sizes that stand in each statement. -/
namespace Go.Proofs.Ytekdmkdidnnpbaa.Base
open Go Go.RowKit Go.Proofs.YtekdmkdidnnpbaaW.PrintWords Go.Proofs.YtekdmkdidnnpbaaW.PrintMore Go.Proofs.Ytekdmkdidnnpbaa.P
set_option linter.unusedVariables false

/-- Where a text stands first; -1: nowhere. -/
def findB (s : ByteArray) : List ByteArray → Nat → Int
  | [], _ => -1
  | x :: l, i => if x = s then (i : Int) else findB s l (i + 1)
theorem rfind_l0 (l : List ByteArray) (s : ByteArray) (hl : l.length ≤ 9223372036854775806) : ∀ (d i : Nat), i + d = l.length →
    Ev (fun k => juratref10_Find.l0 k l s (i : Int)) (findB s (l.drop i) i) := by
  intro d
  induction d with
  | zero =>
    intro i hi
    rw [List.drop_of_length_le (by omega)]
    refine Ev.ret fun k => ?_
    simp only [juratref10_Find.l0]
    rw [if_neg (by omega)]
    rfl
  | succ d ih =>
    intro i hi
    have hd := getD_drop l i ByteArray.empty (by omega)
    have e : rdOf ByteArray.empty l (i : Int) = l.getD i ByteArray.empty := rfl
    rw [hd]
    by_cases h : l.getD i ByteArray.empty = s
    · have hf : findB s (l.getD i ByteArray.empty :: l.drop (i + 1)) i = (i : Int) := if_pos h
      rw [hf]
      refine Ev.ret fun k => ?_
      simp only [juratref10_Find.l0]
      rw [if_pos (by omega), if_pos (by omega), e, if_pos (toList_iff.2 h)]
    · have hf : findB s (l.getD i ByteArray.empty :: l.drop (i + 1)) i = findB s (l.drop (i + 1)) (i + 1) := if_neg h
      rw [hf]
      refine Ev.step (f := fun k => juratref10_Find.l0 k l s ((i + 1 : Nat) : Int)) (fun k => ?_) (ih (i + 1) (by omega))
      simp only [juratref10_Find.l0]
      rw [if_pos (by omega), if_pos (by omega), e, if_neg (fun x => h (toList_iff.1 x)), wrap_id (by omega) (by omega)]
      rfl
theorem rfind10_ev (l : List ByteArray) (s : ByteArray) (hl : l.length ≤ 9223372036854775806) : Ev (fun k => juratref10_Find.f k l s) (findB s l 0) := by
  have h := rfind_l0 l s hl l.length 0 (by omega)
  rw [List.drop_zero] at h
  exact h

end Go.Proofs.Ytekdmkdidnnpbaa.Base

/- What is told of a set of patterns, of the list in order and of the list as it came; layer 10's examples; no condition beyond the sizes that stand in each statement. -/
namespace Go.Proofs.Ytekdmkdidnnpbaa.Base
open Go Go.RowKit Go.Proofs.YtekdmkdidnnpbaaW.PrintWords Go.Proofs.YtekdmkdidnnpbaaW.PrintMore Go.Proofs.Ytekdmkdidnnpbaa.P
set_option linter.unusedVariables false

theorem findB_up (s : ByteArray) : ∀ (l : List ByteArray) (i : Nat), upB l → findB s l i = if inB s l = true then ((i + aheadB s l : Nat) : Int) else -1
  | [], i, _ => rfl
  | x :: l, i, h => by
    obtain ⟨h1, h2⟩ := List.pairwise_cons.1 h
    have ih := findB_up s l (i + 1) h2
    have ef : findB s (x :: l) i = if x = s then (i : Int) else findB s l (i + 1) := rfl
    rw [ef]
    by_cases hx : x = s
    · subst hx
      rw [if_pos rfl, if_pos (inB_iff.2 List.mem_cons_self), aheadB_none x (x :: l) (fun y hy => by
        rcases List.mem_cons.1 hy with rfl | hy
        · exact bl_irrefl _
        · exact h1 y hy)]
      rfl
    · rw [if_neg hx, inB_cons, decide_eq_false hx, Bool.false_or, ih]
      cases hb : Op.bytesLess (LL x) (LL s) with
      | true =>
        have e : aheadB s (x :: l) = aheadB s l + 1 := by unfold aheadB; rw [List.countP_cons_of_pos (by simpa using hb)]
        rw [e, show i + 1 + aheadB s l = i + (aheadB s l + 1) by omega]
      | false =>
        have hn : ¬ inB s l = true := fun hi => by
          rcases bl_tri (LL x) (LL s) with h' | h' | h'
          · exact hx (LL_inj h')
          · rw [hb] at h'; cases h'
          · rw [h1 s (inB_iff.1 hi)] at h'; cases h'
        rw [if_neg hn, if_neg hn]
theorem fold_perm {β : Type} (f : β → ByteArray → β) (hc : ∀ a x y, f (f a x) y = f (f a y) x) {l m : List ByteArray} (h : l.Perm m) : ∀ a, l.foldl f a = m.foldl f a := by
  induction h with
  | nil => intro a; rfl
  | cons x _ ih => intro a; exact ih _
  | swap x y l => intro a; simp only [List.foldl_cons]; rw [hc]
  | trans _ _ ih1 ih2 => intro a; rw [ih1, ih2]
theorem total_perm {l m : List ByteArray} (h : l.Perm m) : totalB 0 l = totalB 0 m := fold_perm _ (fun a x y => by omega) h 0
theorem most_perm {l m : List ByteArray} (h : l.Perm m) : mostB 0 l = mostB 0 m := fold_perm _ (fun a x y => by omega) h 0
theorem least_spec : ∀ (l : List ByteArray) (a : Nat), leastB a l ≤ a ∧ (∀ s ∈ l, leastB a l ≤ s.size) ∧ (leastB a l = a ∨ ∃ s ∈ l, leastB a l = s.size)
  | [], a => ⟨Nat.le_refl _, by simp, .inl rfl⟩
  | x :: l, a => by
    obtain ⟨h1, h2, h3⟩ := least_spec l (min a x.size)
    have e : leastB a (x :: l) = leastB (min a x.size) l := rfl
    rw [e]
    refine ⟨by omega, fun s hs => ?_, ?_⟩
    · rcases List.mem_cons.1 hs with rfl | hs
      · omega
      · exact h2 s hs
    · rcases h3 with h3 | ⟨s, hs, h3⟩
      · by_cases ha : a ≤ x.size
        · left; omega
        · right; exact ⟨x, List.mem_cons_self, by omega⟩
      · right; exact ⟨s, List.mem_cons_of_mem _ hs, h3⟩
theorem min_spec (l : List ByteArray) (h : 0 < l.length) : (∀ s ∈ l, minB l ≤ s.size) ∧ ∃ s ∈ l, minB l = s.size := by
  obtain ⟨h1, h2, h3⟩ := least_spec l (l.getD 0 ByteArray.empty).size
  refine ⟨h2, ?_⟩
  rcases h3 with h3 | h3
  · exact ⟨_, getD_mem l 0 ByteArray.empty h, h3⟩
  · exact h3
theorem min_perm {l m : List ByteArray} (h : l.Perm m) (h0 : 0 < l.length) : minB l = minB m := by
  obtain ⟨a1, s, hs, a2⟩ := min_spec l h0
  obtain ⟨b1, t, ht, b2⟩ := min_spec m (by rw [← h.length_eq]; exact h0)
  have := a1 t (h.mem_iff.2 ht)
  have := b1 s (h.mem_iff.1 hs)
  omega

/-- A set that is made of texts. -/
def setB (l : List ByteArray) : SetD := ⟨sortB l, (minB l : Nat), (mostB 0 l : Nat), (totalB 0 l : Nat)⟩
theorem new_cases (l : List ByteArray) :
    (∃ e, e ≠ 0 ∧ pats_New.f l = some (none, e) ∧ newB l = ([], e)) ∨
    (pats_New.f l = some (some (setB l), 0) ∧ newB l = (sortB l, 0) ∧ 0 < l.length ∧ l.length ≤ 65535 ∧ badB l = 0 ∧ totalB 0 l ≤ 16777216 ∧ twB [] l 0 < 0) := by
  unfold pats_New.f newB
  by_cases h0 : l.length = 0
  · exact .inl ⟨14, by decide, by rw [if_pos h0], by rw [if_pos h0]⟩
  by_cases h1 : l.length > 65535
  · exact .inl ⟨6, by decide, by rw [if_neg h0, if_pos h1], by rw [if_neg h0, if_pos h1]⟩
  by_cases h2 : badB l ≠ 0
  · exact .inl ⟨_, h2, by rw [if_neg h0, if_neg h1, if_pos h2], by rw [if_neg h0, if_neg h1, if_pos h2]⟩
  by_cases h3 : totalB 0 l > 16777216
  · exact .inl ⟨13, by decide, by rw [if_neg h0, if_neg h1, if_neg h2, if_pos h3], by rw [if_neg h0, if_neg h1, if_neg h2, if_pos h3]⟩
  by_cases h4 : twB [] l 0 ≥ 0
  · exact .inl ⟨8, by decide, by rw [if_neg h0, if_neg h1, if_neg h2, if_neg h3, if_pos h4], by rw [if_neg h0, if_neg h1, if_neg h2, if_neg h3, if_pos h4]⟩
  refine .inr ⟨by rw [if_neg h0, if_neg h1, if_neg h2, if_neg h3, if_neg h4]; rfl, by rw [if_neg h0, if_neg h1, if_neg h2, if_neg h3, if_neg h4], by omega, by omega, Classical.not_not.1 h2, by omega, by omega⟩


end Go.Proofs.Ytekdmkdidnnpbaa.Base

/- A number under a mask; no condition beyond those in the statement. -/
namespace Go.Proofs.Ytekdmkdidnnpbaa.Base
open Go Go.RowKit Go.Proofs.YtekdmkdidnnpbaaW.PrintWords Go.Proofs.YtekdmkdidnnpbaaW.PrintLast Go.Proofs.YtekdmkdidnnpbaaW.PrintMore

theorem bits_and_mask (x : Int) (m : Nat) (hm : m < 9223372036854775808) : 0 ≤ Go.bits .and .i64 x (m : Int) ∧ Go.bits .and .i64 x (m : Int) ≤ m := by
  have h : Go.bits .and .i64 x (m : Int) = IntKind.i64.wrap (((BitVec.ofInt 64 x &&& BitVec.ofInt 64 (m : Int)).toNat : Int)) := rfl
  have h2 : (BitVec.ofInt 64 x &&& BitVec.ofInt 64 (m : Int)).toNat ≤ m := by
    rw [BitVec.toNat_and]
    refine Nat.le_trans Nat.and_le_right ?_
    rw [BitVec.toNat_ofInt]
    omega
  rw [h, i64_w, wrap_id (by omega) (by omega)]
  omega

end Go.Proofs.Ytekdmkdidnnpbaa.Base

/- Sets of the same patterns are one, in whatever order these come; a pattern is found by its number; no condition beyond the sizes that stand in each statement. -/
namespace Go.Proofs.Ytekdmkdidnnpbaa.Base
open Go Go.RowKit Go.Proofs.YtekdmkdidnnpbaaW.PrintWords Go.Proofs.YtekdmkdidnnpbaaW.PrintLast Go.Proofs.YtekdmkdidnnpbaaW.PrintMore Go.Proofs.Ytekdmkdidnnpbaa.P
set_option linter.unusedVariables false

theorem twB_iff : ∀ (l seen : List ByteArray) (i : Nat), twB seen l i < 0 ↔ (l.Nodup ∧ ∀ x ∈ l, ¬ inB x seen = true)
  | [], seen, i => by simp [twB]
  | x :: l, seen, i => by
    simp only [twB]
    by_cases h : inB x seen = true
    · rw [if_pos h]
      constructor
      · intro h'; omega
      · rintro ⟨_, h'⟩; exact absurd h (h' x List.mem_cons_self)
    · rw [if_neg h, twB_iff l (seen ++ [x]) (i + 1), List.nodup_cons]
      constructor
      · rintro ⟨h1, h2⟩
        refine ⟨⟨fun hx => ?_, h1⟩, fun y hy => ?_⟩
        · have := h2 x hx
          rw [inB_snoc] at this
          simp at this
        · rcases List.mem_cons.1 hy with rfl | hy
          · exact h
          · have := h2 y hy
            rw [inB_snoc] at this
            intro h3
            rw [h3] at this
            simp at this
      · rintro ⟨⟨h1, h2⟩, h3⟩
        refine ⟨h2, fun y hy => ?_⟩
        rw [inB_snoc]
        intro h4
        rcases Bool.or_eq_true_iff.1 h4 with h4 | h4
        · exact h3 y (List.mem_cons_of_mem _ hy) h4
        · exact h1 (by rw [of_decide_eq_true h4]; exact hy)
theorem nodup_of_tw {l : List ByteArray} (h : twB [] l 0 < 0) : l.Nodup := ((twB_iff l [] 0).1 h).1
theorem tw_of_nodup {l : List ByteArray} (h : l.Nodup) : twB [] l 0 < 0 := (twB_iff l [] 0).2 ⟨h, fun x _ => by simp [inB]⟩
theorem badB_iff : ∀ (l : List ByteArray), badB l = 0 ↔ ∀ s ∈ l, chkB s = 0
  | [] => by simp [badB]
  | s :: l => by
    simp only [badB]
    by_cases h : chkB s = 0
    · rw [if_pos h, badB_iff l]
      simp [h]
    · rw [if_neg h]
      simp [h]
theorem setB_perm {l m : List ByteArray} (h : l.Perm m) (h0 : 0 < l.length) : setB l = setB m := by
  have e : sortB l = sortB m := sortB_of ((sortB_perm l).trans h) (sortB_up l)
  unfold setB
  rw [e, min_perm h h0, most_perm h, total_perm h]
/-- Texts that make a set make it in any order. -/
theorem new_perm {l m : List ByteArray} (h : l.Perm m) (hp : 0 < l.length) (h1 : l.length ≤ 65535) (h2 : badB l = 0) (h3 : totalB 0 l ≤ 16777216) (h4 : twB [] l 0 < 0) :
    pats_New.f m = some (some (setB l), 0) := by
  have e := h.length_eq
  rcases new_cases m with ⟨c, hc, hn, hw⟩ | ⟨hn, _⟩
  · exfalso
    unfold pats_New.f at hn
    have b2 : badB m = 0 := (badB_iff m).2 fun s hs => (badB_iff l).1 h2 s (h.mem_iff.2 hs)
    have b4 := tw_of_nodup ((h.nodup_iff).1 (nodup_of_tw h4))
    rw [if_neg (by omega), if_neg (by omega), if_neg (by rw [b2]; simp), if_neg (by rw [← total_perm h]; omega), if_neg (by omega)] at hn
    have := (Prod.mk.inj (Option.some.inj hn)).1
    cases this
  · rw [hn, setB_perm h hp]
theorem findB_mem (s : ByteArray) : ∀ (l : List ByteArray) (i : Nat), s ∈ l → ∃ n, findB s l i = ((i + n : Nat) : Int) ∧ n < l.length ∧ l.getD n ByteArray.empty = s
  | [], i, h => by cases h
  | x :: l, i, h => by
    have ef : findB s (x :: l) i = if x = s then (i : Int) else findB s l (i + 1) := rfl
    rw [ef]
    by_cases hx : x = s
    · rw [if_pos hx]
      exact ⟨0, rfl, by simp, by simpa using hx⟩
    · rw [if_neg hx]
      rcases List.mem_cons.1 h with rfl | h
      · exact absurd rfl hx
      · obtain ⟨n, h1, h2, h3⟩ := findB_mem s l (i + 1) h
        exact ⟨n + 1, by rw [h1]; congr 1; omega, by rw [List.length_cons]; omega, by rw [List.getD_cons_succ]; exact h3⟩
theorem list_is (l : List ByteArray) (h : l.length ≤ 65535) : pats_Set_List.f (some (setB l)) = some (sortB l) := by
  show (if (sortB l).length ≤ 8796093022208 then some (sortB l) else none) = _
  rw [if_pos (by rw [sortB_length]; omega)]
end Go.Proofs.Ytekdmkdidnnpbaa.Base

/- A set of texts and its list, made or not, told together; no condition beyond the sizes that stand in each statement. -/
namespace Go.Proofs.Ytekdmkdidnnpbaa.Base
open Go Go.RowKit Go.Proofs.YtekdmkdidnnpbaaW.PrintWords Go.Proofs.YtekdmkdidnnpbaaW.PrintMore Go.Proofs.Ytekdmkdidnnpbaa.P
set_option linter.unusedVariables false

/-- What is made of texts: a set or none, its list, why there is none. -/
structure SetOk (l : List ByteArray) (x : Option SetD) (w : List ByteArray) (e : Int) : Prop where
  hn : pats_New.f l = some (x, e)
  hw : newB l = (w, e)
  hL : setL x = w
  hM : setM x = minB w
  mem : ∀ s ∈ w, s ∈ l
  len : w.length ≤ l.length
  few : w.length ≤ 65535
  size : ∀ s ∈ w, s.size ≤ 65535
  up : upB w
  pos : ∀ s ∈ w, 0 < s.size
  nodup : w.Nodup
  kind : (e = 0 ∧ 0 < w.length ∧ x = some (setB l) ∧ w = sortB l ∧ w.length = l.length) ∨ (e ≠ 0 ∧ x = none ∧ w = [])
theorem chkB_pos {s : ByteArray} (h : chkB s = 0) : 0 < s.size ∧ s.size ≤ 65535 := by
  unfold chkB at h
  by_cases h1 : s.size = 0
  · rw [if_pos h1] at h; omega
  · rw [if_neg h1] at h
    by_cases h2 : s.size > 65535
    · rw [if_pos h2] at h; omega
    · omega
theorem set_ok (l : List ByteArray) : ∃ x w e, SetOk l x w e := by
  rcases new_cases l with ⟨e, he, hn, hw⟩ | ⟨hn, hw, hp, hl, hb, ht, hd⟩
  · exact ⟨none, [], e, hn, hw, rfl, rfl, by simp, by simp, by simp, by simp, List.Pairwise.nil, by simp, List.nodup_nil, .inr ⟨he, rfl, rfl⟩⟩
  · have hm := fun s => (sortB_perm l).mem_iff (a := s)
    have hlen := sortB_length l
    refine ⟨some (setB l), sortB l, 0, hn, hw, rfl, ?_, fun s hs => (hm s).1 hs, by omega, by omega, fun s hs => (chkB_pos ((badB_iff l).1 hb s ((hm s).1 hs))).2, sortB_up l, fun s hs => (chkB_pos ((badB_iff l).1 hb s ((hm s).1 hs))).1, ((sortB_perm l).nodup_iff).2 (nodup_of_tw hd), .inl ⟨rfl, by omega, rfl, rfl, by omega⟩⟩
    show ((minB l : Nat) : Int) = _
    rw [min_perm (sortB_perm l).symm hp]
theorem min_le {w : List ByteArray} : ∀ s ∈ w, minB w ≤ s.size := fun s hs => (min_spec w (List.length_pos_of_mem hs)).1 s hs
theorem list_ok {l w : List ByteArray} {x : Option SetD} {e : Int} (h : SetOk l x w e) : pats_Set_List.f x = some w := by
  rcases h.kind with ⟨_, _, rfl, rfl, _⟩ | ⟨_, rfl, rfl⟩
  · exact list_is l (by have := h.few; rw [sortB_length] at this; exact this)
  · rfl
theorem rnew_ok {l w : List ByteArray} {x : Option SetD} {e : Int} (h : SetOk l x w e) : Ev (fun k => juratref10_New.f k l) (w, e) := by
  have := rnew_ev l
  rw [h.hw] at this
  exact this

end Go.Proofs.Ytekdmkdidnnpbaa.Base

/- Layer 15's hits are the reference's; no condition beyond the sizes that stand in each statement. -/
namespace Go.Proofs.Ytekdmkdidnnpbaa.Base
open Go Go.RowKit Go.Lib Go.Proofs.YtekdmkdidnnpbaaW.PrintWords Go.Proofs.YtekdmkdidnnpbaaW.PrintMore Go.Proofs.Ytekdmkdidnnpbaa.P
set_option linter.unusedVariables false

/-- The ends at which a pattern stands. -/
def endsOf (p s : ByteArray) : List Nat := (List.range (s.size + 1)).filter fun e => standsE p s e
theorem stS_stands (p s : ByteArray) (e : Nat) (he : e ≤ s.size) : decide (stS s p e = p.size) = standsE p s e := by
  rw [Bool.eq_iff_iff, decide_eq_true_iff, stS_iff s p e he, standsE_iff]
  constructor
  · rintro ⟨h1, h2⟩
    refine ⟨h1, (stands_extract (by omega)).1 ?_⟩
    rw [show e - p.size + p.size = e by omega, h2]
  · rintro ⟨h1, h2⟩
    refine ⟨h1, ?_⟩
    have h3 := (stands_extract (s := s) (t := p) (i := e - p.size) (by omega)).2 h2
    rw [show e - p.size + p.size = e by omega] at h3
    exact toList_iff.1 h3
theorem raw_one (p s : ByteArray) (i : Nat) (hp : 0 < p.size) (hs : s.size ≤ 1048575) : (findS s p).map (hitAt p i) = (endsOf p s).map fun e : Nat => (⟨(e : Int), (i : Int)⟩ : HitS) := by
  unfold findS endsOf
  rw [if_neg (by omega), List.map_map, List.filter_congr (q := fun e => standsE p s e) (fun e he => by rw [List.mem_range] at he; exact stS_stands p s e (by omega))]
  apply List.map_congr_left
  intro e he
  have h1 := (List.mem_filter.1 he).1
  rw [List.mem_range] at h1
  show (⟨wrap64 ((e : Int) - (p.size : Int) + (p.size : Int)), (i : Int)⟩ : HitS) = _
  rw [show (e : Int) - (p.size : Int) + (p.size : Int) = (e : Int) by omega, wrap_id (by omega) (by omega)]
theorem raw_mem {s : ByteArray} (hs : s.size ≤ 1048575) {h : HitS} : ∀ (l : List ByteArray) (i : Nat), (∀ p ∈ l, 0 < p.size) →
    (h ∈ rawF s l i ↔ ∃ a j, a ≤ s.size ∧ j < l.length ∧ h = (⟨((a : Nat) : Int), ((i + j : Nat) : Int)⟩ : HitS) ∧ standsE (l.getD j ByteArray.empty) s a = true)
  | [], i, _ => by simp [rawF]
  | p :: l, i, hp => by
    have ih := raw_mem hs (h := h) l (i + 1) (fun q hq => hp q (List.mem_cons_of_mem _ hq))
    simp only [rawF, List.mem_append]
    rw [raw_one p s i (hp p List.mem_cons_self) hs, ih]
    constructor
    · rintro (hm | ⟨a, j, h1, h2, h3, h4⟩)
      · obtain ⟨e, he, rfl⟩ := List.mem_map.1 hm
        obtain ⟨h1, h2⟩ := List.mem_filter.1 he
        rw [List.mem_range] at h1
        exact ⟨e, 0, by omega, by simp, rfl, by rw [List.getD_cons_zero]; exact h2⟩
      · exact ⟨a, j + 1, h1, by rw [List.length_cons]; omega, by rw [h3, show i + 1 + j = i + (j + 1) by omega], by rw [List.getD_cons_succ]; exact h4⟩
    · rintro ⟨a, j, h1, h2, h3, h4⟩
      cases j with
      | zero =>
        refine .inl (List.mem_map.2 ⟨a, List.mem_filter.2 ⟨List.mem_range.2 (by omega), ?_⟩, h3.symm⟩)
        rw [List.getD_cons_zero] at h4
        exact h4
      | succ j =>
        rw [List.getD_cons_succ] at h4
        exact .inr ⟨a, j, h1, by rw [List.length_cons] at h2; omega, by rw [h3, show i + 1 + j = i + (j + 1) by omega], h4⟩
theorem raw_nodup {s : ByteArray} (hs : s.size ≤ 1048575) : ∀ (l : List ByteArray) (i : Nat), (∀ p ∈ l, 0 < p.size) → (rawF s l i).Nodup
  | [], i, _ => List.nodup_nil
  | p :: l, i, hp => by
    have ih := raw_nodup hs l (i + 1) (fun q hq => hp q (List.mem_cons_of_mem _ hq))
    simp only [rawF]
    rw [raw_one p s i (hp p List.mem_cons_self) hs]
    refine List.nodup_append.2 ⟨?_, ih, ?_⟩
    · unfold endsOf
      have h0 : ((List.range (s.size + 1)).filter fun e => standsE p s e).Nodup := List.nodup_range.filter _
      refine List.pairwise_map.2 (List.Pairwise.imp ?_ h0)
      intro a b hab he
      injection he with h1 h2
      exact hab (by omega)
    · intro x hx y hy he
      subst he
      obtain ⟨e, _, rfl⟩ := List.mem_map.1 hx
      obtain ⟨a, j, _, _, h3, _⟩ := (raw_mem hs l (i + 1) (fun q hq => hp q (List.mem_cons_of_mem _ hq))).1 hy
      injection h3 with h4 h5
      omega
instance : DecidableEq HitS := fun a b => decidable_of_iff (a.f0 = b.f0 ∧ a.f1 = b.f1) ⟨fun h => by obtain ⟨a0, a1⟩ := a; obtain ⟨b0, b1⟩ := b; simp only at h; rw [h.1, h.2], fun h => by rw [h]; exact ⟨rfl, rfl⟩⟩
theorem less_irrefl (a : HitS) : lessH a a = false := by rw [lessH_not]; omega
theorem up_nodup {l : List HitS} (h : l.Pairwise (fun a b => lessH a b = true)) : l.Nodup := h.imp (fun {a b} hab he => by subst he; rw [less_irrefl] at hab; cases hab)
/-- Rising lists of the same hits are the same. -/
theorem rise_unique : ∀ {l m : List HitS}, l.Perm m → l.Pairwise (fun a b => lessH b a = false) → m.Pairwise (fun a b => lessH b a = false) → l = m
  | [], m, h, _, _ => (List.Perm.nil_eq h)
  | a :: l, [], h, _, _ => absurd h.length_eq (by simp)
  | a :: l, b :: m, h, hl, hm => by
    obtain ⟨hl1, hl2⟩ := List.pairwise_cons.1 hl
    obtain ⟨hm1, hm2⟩ := List.pairwise_cons.1 hm
    have e : a = b := by
      have ha : a ∈ b :: m := h.mem_iff.1 List.mem_cons_self
      have hb : b ∈ a :: l := h.mem_iff.2 List.mem_cons_self
      rcases List.mem_cons.1 ha with rfl | ha
      · rfl
      rcases List.mem_cons.1 hb with rfl | hb
      · rfl
      have g1 := hm1 a ha
      have g2 := hl1 b hb
      exact totH a b (by rw [ltH]; exact g1) (by rw [ltH]; exact g2)
    subst e
    rw [rise_unique (List.Perm.cons_inv h) hl2 hm2]
theorem sortH_up (l : List HitS) : (sortH l).Pairwise (fun a b => lessH b a = false) := by
  have h := List.pairwise_mergeSort (le := fun x y : HitS => !(Go.Proofs.ltOf cfH) y x) (fun a b c h1 h2 => by
      simp only [Bool.not_eq_true'] at h1 h2 ⊢
      exact swoH.ntrans _ _ _ h2 h1) (fun a b => by
      rw [ltH, ltH]
      cases h1 : lessH b a
      · simp
      · have : lessH a b = false := by
          rw [lessH_iff] at h1
          rw [lessH_not]
          omega
        simp [this]) l
  exact h.imp (fun h => by rw [← ltH]; simpa using h)
theorem all_is {l w : List ByteArray} {x : Option SetD} {e : Int} (h : SetOk l x w e) (s : ByteArray) (hs : s.size ≤ 1048575) : occ_All.f x s = some (hitsB w s) := by
  unfold occ_All.f
  rw [h.hL, if_pos ⟨h.few, hs, fun t ht => by have := h.size t ht; omega⟩]
  congr 1
  have hu := hitsF_up15 w s (s.size + 1) 0
  refine rise_unique ((List.mergeSort_perm _ _).trans ?_) (sortH_up _) (hu.imp (fun {a b} hab => by rw [lessH_iff] at hab; rw [lessH_not]; omega))
  refine (List.perm_ext_iff_of_nodup (raw_nodup hs w 0 h.pos) (up_nodup hu)).2 (fun y => ?_)
  rw [raw_mem hs w 0 h.pos, hitsB_mem]
  simp only [Nat.zero_add]
theorem awake15 : Ev (fun k => juratlaw15_awake.f k) true := by
  obtain ⟨x, w, e, h⟩ := set_ok [(⟨#[97]⟩ : ByteArray), (⟨#[97, 98, 97]⟩ : ByteArray)]
  have hn : pats_New.f [(⟨#[97]⟩ : ByteArray), (⟨#[97, 98, 97]⟩ : ByteArray)] = some (some (⟨[(⟨#[97]⟩ : ByteArray), (⟨#[97, 98, 97]⟩ : ByteArray)], 1, 3, 4⟩ : SetD), 0) := by
    have hs : sortB [(⟨#[97]⟩ : ByteArray), (⟨#[97, 98, 97]⟩ : ByteArray)] = [(⟨#[97]⟩ : ByteArray), (⟨#[97, 98, 97]⟩ : ByteArray)] := (sortB_of (List.Perm.refl _) (by decide)).symm
    unfold pats_New.f
    rw [hs]
    rfl
  have hh := h.hn
  rw [hn] at hh
  obtain ⟨hx, he⟩ := Prod.mk.inj (Option.some.inj hh)
  have hw : w = [(⟨#[97]⟩ : ByteArray), (⟨#[97, 98, 97]⟩ : ByteArray)] := by rw [← h.hL, ← hx]; rfl
  have ha := all_is h (⟨#[97, 98, 97, 98, 97]⟩ : ByteArray) (by decide)
  rw [← hx, hw] at ha
  have hb : hitsB [(⟨#[97]⟩ : ByteArray), (⟨#[97, 98, 97]⟩ : ByteArray)] (⟨#[97, 98, 97, 98, 97]⟩ : ByteArray) = [(⟨1, 0⟩ : HitS), ⟨3, 0⟩, ⟨3, 1⟩, ⟨5, 0⟩, ⟨5, 1⟩] := by decide +kernel
  rw [hb] at ha
  have hy : occ_Any.f (some (⟨[(⟨#[97]⟩ : ByteArray), (⟨#[97, 98, 97]⟩ : ByteArray)], 1, 3, 4⟩ : SetD)) (⟨#[120, 97]⟩ : ByteArray) = some true := by
    unfold occ_Any.f
    rw [if_pos ⟨by decide, by decide, fun s hs => by
      simp only [setL, List.mem_cons, List.not_mem_nil, or_false] at hs
      rcases hs with rfl | rfl <;> decide⟩]
    congr 1
  unfold juratlaw15_awake.f
  refine Ev.bind (Ev.const fun _ => hn) (Ev.congr (fun k => if_pos rfl) ?_)
  refine Ev.bind (Ev.const fun _ => ha) ?_
  refine Ev.bind (Ev.of (juratref15_Same.mono _ _) (k := 12) (r := true) (by decide +kernel)) (Ev.congr (fun k => if_pos rfl) ?_)
  exact Ev.bind (Ev.const fun _ => hy) (Ev.now true)

end Go.Proofs.Ytekdmkdidnnpbaa.Base

/- Proved here: what Go functions of this seat compute, or a law of it; no condition beyond the statement's own. Written for this claim by a program of this session (wip/myprint.py) over the kit's print.py. -/
namespace Go.Proofs.Ytekdmkdidnnpbaa.P
open Go.RowKit Go.Proofs.YtekdmkdidnnpbaaW.PrintWords Go.Proofs.YtekdmkdidnnpbaaW.PrintLast Go.Proofs.YtekdmkdidnnpbaaW.PrintMore
attribute [local go_sem] max2_int min2_int max_two min_two max_three min_three max_four min_four   -- for this text's walks alone
set_option linter.unusedVariables false
set_option linter.unusedSimpArgs false

/-! ### affix_Suffix: function 105 -/
def affix_Suffix.l0 : Nat → ByteArray → ByteArray → Int → Int → Int → Option (Int)
  | 0, _, _, _, _, _ => none
  | k + 1, x0, x1, x5, x12, x13 => if x13 < x12 then (if 0 ≤ (wrap64 ((wrap64 ((x0.size : Int) - 1)) - x13)) then (if (wrap64 ((wrap64 ((x0.size : Int) - 1)) - x13)) < (x0.size : Int) then (if 0 ≤ (wrap64 ((wrap64 ((x1.size : Int) - 1)) - x13)) then (if (wrap64 ((wrap64 ((x1.size : Int) - 1)) - x13)) < (x1.size : Int) then (if (bt x0 (wrap64 ((wrap64 ((x0.size : Int) - 1)) - x13))) = (bt x1 (wrap64 ((wrap64 ((x1.size : Int) - 1)) - x13))) then (affix_Suffix.l0 k x0 x1 x5 x12 (wrap64 (x13 + 1))) else (some x13)) else (none)) else (none)) else (none)) else (none)) else (some x5)
def affix_Suffix.f (k : Nat) (a0 : ByteArray) (a1 : ByteArray) : Option (Int) := affix_Suffix.l0 k a0 a1 (mn (a0.size : Int) (a1.size : Int)) (mn (a0.size : Int) (a1.size : Int)) 0
theorem affix_Suffix.mono_l : ∀ k, (∀ y0 y1 y2 y3 y4, LeO (affix_Suffix.l0 k y0 y1 y2 y3 y4) (affix_Suffix.l0 (k + 1) y0 y1 y2 y3 y4))
  | 0 => fun _ _ _ _ _ r h => by simp [affix_Suffix.l0] at h
  | k + 1 => by
    have ih0 := affix_Suffix.mono_l k
    · intro y0 y1 y2 y3 y4
      unfold affix_Suffix.l0
      repeat' first
      | (with_reducible exact ih0 _ _ _ _ _)
      | (with_reducible exact LeO.refl _)
      | (with_reducible exact LeO.none _)
      | (with_reducible refine LeO.ite ?_ ?_)
      | (with_reducible refine LeO.bind ?_ (fun _ => ?_))
      | exact ih0 _ _ _ _ _
      | exact LeO.none _
      | refine LeO.ite ?_ ?_
      | refine LeO.bind ?_ (fun _ => ?_)
theorem affix_Suffix.mono : ∀ a0 a1 k, LeO (affix_Suffix.f k a0 a1) (affix_Suffix.f (k + 1) a0 a1) := by
  intro a0 a1 k
  have ih0 := affix_Suffix.mono_l k
  unfold affix_Suffix.f
  repeat' first
      | (with_reducible exact ih0 _ _ _ _ _)
      | (with_reducible exact LeO.refl _)
      | (with_reducible exact LeO.none _)
      | (with_reducible refine LeO.ite ?_ ?_)
      | (with_reducible refine LeO.bind ?_ (fun _ => ?_))
      | exact ih0 _ _ _ _ _
      | exact LeO.none _
      | refine LeO.ite ?_ ?_
      | refine LeO.bind ?_ (fun _ => ?_)
set_option maxHeartbeats 8000000 in
set_option maxRecDepth 100000 in
theorem affix_Suffix.calls (k : Nat) (a0 : ByteArray) (a1 : ByteArray) (r : Int) (w : World) (h : affix_Suffix.f k a0 a1 = some r) :
    Calls Try.prog 105 #[.string a0, .string a1] w fun e w' => e = .returned (.int .i64 r) ∧ Drawn0 w w' := by
  have H : (affix_Suffix.l0 k a0 a1 (mn (a0.size : Int) (a1.size : Int)) (mn (a0.size : Int) (a1.size : Int)) 0) = some r := h
  clear h
  obtain ⟨ji3, hji3⟩ : ∃ j_ : Int, (mn (a0.size : Int) (a1.size : Int)) = j_ := ⟨_, rfl⟩
  replace H : (affix_Suffix.l0 k a0 a1 ji3 ji3 0) = some r := by first | (rw [hji3] at H; exact H) | (simp only [hji3] at H ⊢; exact H)
  (try (have hji3l : 0 ≤ ji3 := by (rw [← hji3]; unfold mn; (repeat' split) <;> omega)))
  (try (have hji3m : 0 ≤ ji3 := by omega))
  have hji3_ : (if (a1.size : Int) < (a0.size : Int) then (a1.size : Int) else (a0.size : Int)) = ji3 := hji3
  (try (have hji3n_ := hji3_; simp only [Int.ofNat_lt] at hji3n_))
  have H' := Aside0.mk H
  clear H
  go_enter Try.func105, Try.ntmps105
  go_wp2
  repeat (go_quiet (fail); try go_wp2)
  go_loopg [13] k (fun kq v13 w' => ∃ (x13_1 : Int), v13 = .int .i64 x13_1 ∧ Aside0 (affix_Suffix.l0 kq a0 a1 ji3 ji3 x13_1 = some r) ∧ Aside0 (kq ≤ k) ∧ Drawn0 w w')
  case atStart => exact ⟨(0), (by first | rfl | exact isE_ _ | exact isE2_ _ | (simp; done) | (simp [*]; done)), H', ⟨Nat.le_refl _⟩, by repeat (first | exact Drawn0.refl _ | apply Drawn0.step)⟩
  case round =>
    clear H'
    try clear c1
    try clear p2
    obtain ⟨x13_1, rfl, HA, HK1, ⟨m1, rfl⟩⟩ := hrel
    cases gk with
    | zero => exact absurd HA.out (by simp [affix_Suffix.l0])
    | succ k1 =>
      have H := HA.out
      clear HA
      simp only [affix_Suffix.l0] at H
      by_cases c4 : x13_1 < ji3
      · rw [if_pos c4] at H
        have c4b0 : decide (x13_1 < ji3) = true := decide_eq_true c4
        clear c4
        obtain ⟨ji5, hji5⟩ : ∃ j_ : Int, (wrap64 ((wrap64 ((a0.size : Int) - 1)) - x13_1)) = j_ := ⟨_, rfl⟩
        replace H : (if 0 ≤ (ji5) then (if (ji5) < (a0.size : Int) then (if 0 ≤ (wrap64 ((wrap64 ((a1.size : Int) - 1)) - x13_1)) then (if (wrap64 ((wrap64 ((a1.size : Int) - 1)) - x13_1)) < (a1.size : Int) then (if (bt a0 (ji5)) = (bt a1 (wrap64 ((wrap64 ((a1.size : Int) - 1)) - x13_1))) then (affix_Suffix.l0 k1 a0 a1 ji3 ji3 (wrap64 (x13_1 + 1))) else (some x13_1)) else (none)) else (none)) else (none)) else (none)) = some r := by first | (rw [hji5] at H; exact H) | (simp only [hji5] at H ⊢; exact H)
        have hji5w : (IntKind.i64.wrap ((wrap64 ((a0.size : Int) - 1)) - x13_1)) = ji5 := (i64_w _).trans hji5
        by_cases c6 : 0 ≤ (ji5)
        · rw [if_pos c6] at H
          have c6b0 : decide (0 ≤ (ji5)) = true := decide_eq_true c6
          clear c6
          by_cases c7 : (ji5) < (a0.size : Int)
          · rw [if_pos c7] at H
            have c7b0 : decide ((ji5) < (a0.size : Int)) = true := decide_eq_true c7
            clear c7
            obtain ⟨ji9, hji9⟩ : ∃ j_ : Int, (wrap64 ((wrap64 ((a1.size : Int) - 1)) - x13_1)) = j_ := ⟨_, rfl⟩
            replace H : (if 0 ≤ (ji9) then (if (ji9) < (a1.size : Int) then (if (bt a0 (ji5)) = (bt a1 (ji9)) then (affix_Suffix.l0 k1 a0 a1 ji3 ji3 (wrap64 (x13_1 + 1))) else (some x13_1)) else (none)) else (none)) = some r := by first | (rw [hji9] at H; exact H) | (simp only [hji9] at H ⊢; exact H)
            have hji9w : (IntKind.i64.wrap ((wrap64 ((a1.size : Int) - 1)) - x13_1)) = ji9 := (i64_w _).trans hji9
            by_cases c10 : 0 ≤ (ji9)
            · rw [if_pos c10] at H
              have c10b0 : decide (0 ≤ (ji9)) = true := decide_eq_true c10
              clear c10
              by_cases c11 : (ji9) < (a1.size : Int)
              · rw [if_pos c11] at H
                have c11b0 : decide ((ji9) < (a1.size : Int)) = true := decide_eq_true c11
                clear c11
                by_cases c13 : (bt a0 (ji5)) = (bt a1 (ji9))
                · rw [if_pos c13] at H
                  have c13b0 : ((bt a0 (ji5)) == (bt a1 (ji9))) = true := beq_iff_eq.mpr c13
                  have c13b1 : ((bt a0 (ji5)) != (bt a1 (ji9))) = false := bne_eq_false_iff_eq.mpr c13
                  clear c13
                  have H' := Aside0.mk H
                  clear H
                  have p8 : 0 ≤ ((ji5) : Int) := of_decide_eq_true (by first | (with_reducible assumption) | assumption)
                  have q8 : (ji5) < (a0.size : Int) := of_decide_eq_true (by first | (with_reducible assumption) | assumption)
                  have hx8 := bt_at a0 (ji5)
                  replace p8 := eq_true p8
                  replace q8 := eq_true q8
                  have p12 : 0 ≤ ((ji9) : Int) := of_decide_eq_true (by first | (with_reducible assumption) | assumption)
                  have q12 : (ji9) < (a1.size : Int) := of_decide_eq_true (by first | (with_reducible assumption) | assumption)
                  have hx12 := bt_at a1 (ji9)
                  replace p12 := eq_true p12
                  replace q12 := eq_true q12
                  go_wp2
                  repeat (go_quiet (fail); try go_wp2)
                  go_roundg k1
                  case measure => have := HK1.out; omega
                  case rel => exact ⟨(wrap64 (x13_1 + 1)), (by first | rfl | exact isE_ _ | exact isE2_ _ | (simp; done) | (simp [*]; done)), H', ⟨by have := HK1.out; omega⟩, by repeat (first | exact Drawn0.refl _ | apply Drawn0.step)⟩
                · rw [if_neg c13] at H
                  have c13b0 : ((bt a0 (ji5)) == (bt a1 (ji9))) = false := beq_eq_false_iff_ne.mpr c13
                  have c13b1 : ((bt a0 (ji5)) != (bt a1 (ji9))) = true := bne_iff_ne.mpr c13
                  obtain rfl := Option.some.inj H
                  have p8 : 0 ≤ ((ji5) : Int) := of_decide_eq_true (by first | (with_reducible assumption) | assumption)
                  have q8 : (ji5) < (a0.size : Int) := of_decide_eq_true (by first | (with_reducible assumption) | assumption)
                  have hx8 := bt_at a0 (ji5)
                  replace p8 := eq_true p8
                  replace q8 := eq_true q8
                  have p12 : 0 ≤ ((ji9) : Int) := of_decide_eq_true (by first | (with_reducible assumption) | assumption)
                  have q12 : (ji9) < (a1.size : Int) := of_decide_eq_true (by first | (with_reducible assumption) | assumption)
                  have hx12 := bt_at a1 (ji9)
                  replace p12 := eq_true p12
                  replace q12 := eq_true q12
                  go_wp2
                  repeat (go_quiet (fail); try go_wp2)
                  go_ret
                  exact ⟨by first | rfl | (simp; done) | (simp only [← hji3, ← hji5, ← hji9] <;> (first | rfl | simp)) | (simp [*]; done), by repeat (first | exact Drawn0.refl _ | apply Drawn0.step)⟩
              · rw [if_neg c11] at H
                exact absurd H (by simp)
            · rw [if_neg c10] at H
              exact absurd H (by simp)
          · rw [if_neg c7] at H
            exact absurd H (by simp)
        · rw [if_neg c6] at H
          exact absurd H (by simp)
      · rw [if_neg c4] at H
        have c4b0 : decide (x13_1 < ji3) = false := decide_eq_false c4
        clear c4
        obtain rfl := Option.some.inj H
        go_wp2
        repeat (go_quiet (fail); try go_wp2)
        go_ret
        exact ⟨by first | rfl | (simp; done) | (simp only [← hji3] <;> (first | rfl | simp)) | (simp [*]; done), by repeat (first | exact Drawn0.refl _ | apply Drawn0.step)⟩

end Go.Proofs.Ytekdmkdidnnpbaa.P

/- Proved here: what Go functions of this seat compute, or a law of it; no condition beyond the statement's own. Written for this claim by a program of this session (wip/myprint.py) over the kit's print.py. -/
namespace Go.Proofs.Ytekdmkdidnnpbaa.P
open Go.RowKit Go.Proofs.YtekdmkdidnnpbaaW.PrintWords Go.Proofs.YtekdmkdidnnpbaaW.PrintLast Go.Proofs.YtekdmkdidnnpbaaW.PrintMore
attribute [local go_sem] max2_int min2_int max_two min_two max_three min_three max_four min_four   -- for this text's walks alone
set_option linter.unusedVariables false
set_option linter.unusedSimpArgs false

/-! ### affix_Ends: function 71 -/
def affix_Ends.f (k : Nat) (a0 : ByteArray) (a1 : ByteArray) : Option (Bool) := (affix_Suffix.f k a0 a1).bind fun t274 => (some (t274 == (a1.size : Int)))
theorem affix_Ends.mono : ∀ a0 a1 k, LeO (affix_Ends.f k a0 a1) (affix_Ends.f (k + 1) a0 a1) := by
  intro a0 a1 k
  unfold affix_Ends.f
  repeat' first
      | (with_reducible exact affix_Suffix.mono _ _ _)
      | (with_reducible exact LeO.refl _)
      | (with_reducible exact LeO.none _)
      | (with_reducible refine LeO.ite ?_ ?_)
      | (with_reducible refine LeO.bind ?_ (fun _ => ?_))
      | exact affix_Suffix.mono _ _ _
      | exact LeO.none _
      | refine LeO.ite ?_ ?_
      | refine LeO.bind ?_ (fun _ => ?_)
set_option maxHeartbeats 8000000 in
set_option maxRecDepth 100000 in
theorem affix_Ends.calls (k : Nat) (a0 : ByteArray) (a1 : ByteArray) (r : Bool) (w : World) (h : affix_Ends.f k a0 a1 = some r) :
    Calls Try.prog 71 #[.string a0, .string a1] w fun e w' => e = .returned (.bool r) ∧ Drawn0 w w' := by
  have H : ((affix_Suffix.f k a0 a1).bind fun t274 => (some (t274 == (a1.size : Int)))) = some r := h
  clear h
  replace H := Option.bind_eq_some_iff.mp H
  obtain ⟨t274, A30, H⟩ := H
  replace H : (some (t274 == (a1.size : Int))) = some r := H
  have A3 := Aside0.mk A30
  clear A30
  obtain rfl := Option.some.inj H
  go_enter Try.func71, Try.ntmps71
  go_wp2_with (first | ((with_reducible refine gate_callee (f := 105) rfl ?_); refine goesL_ (some 7) rfl rfl Try.func105 (by kernel_rfl) rfl #[.string a0, .string a1] rfl (by (try simp only [List.map_toArray, List.map_cons, List.map_nil]); first | done | rfl | (simp only [List.length_drop, List.length_take]; rfl)) ?_; (with_reducible refine (affix_Suffix.calls k a0 a1 t274 _ A3.out).mono ?_); rintro e w' ⟨rfl, ⟨nd, rfl⟩⟩; refine ⟨_, rfl, ?_⟩))
  go_ret
  exact ⟨by first | rfl | (simp; done) | (simp [*]; done), by repeat (first | exact Drawn0.refl _ | apply Drawn0.step)⟩

end Go.Proofs.Ytekdmkdidnnpbaa.P
