/- Where layer 9 finds a text among texts in order (slices.BinarySearchFunc with the layer's own compare, walked here for rows that are only read). -/
import Derived.Test.YtmkcoobmbjoloaaH09
namespace Go.Proofs.Ytmkcoobmbjoloaa.P
open Go Go.RowKit Go.Sort Go.Lib Go.Proofs.YtmkcoobmbjoloaaW.PrintWords Go.Proofs.Ytmkcoobmbjoloaa.Base
set_option linter.unusedVariables false

/-! ### how many come ahead -/
/-- Texts in order. -/
abbrev upB (l : List ByteArray) : Prop := l.Pairwise (fun x y => Op.bytesLess (LL y) (LL x) = false)
def aheadB (s : ByteArray) (l : List ByteArray) : Nat := l.countP (fun x => Op.bytesLess (LL x) (LL s))
/-- Is a text there? -/
def inB (s : ByteArray) (l : List ByteArray) : Bool := l.any fun x => decide (x = s)
theorem inB_iff {s : ByteArray} {l : List ByteArray} : inB s l = true ↔ s ∈ l := by
  unfold inB
  rw [List.any_eq_true]
  exact ⟨fun ⟨x, hx, h⟩ => by rw [← of_decide_eq_true h]; exact hx, fun h => ⟨s, h, decide_eq_true rfl⟩⟩
theorem inB_cons (s x : ByteArray) (l : List ByteArray) : inB s (x :: l) = (decide (x = s) || inB s l) := rfl
theorem aheadB_le (s : ByteArray) (l : List ByteArray) : aheadB s l ≤ l.length := List.countP_le_length
theorem aheadB_none (s : ByteArray) : ∀ l : List ByteArray, (∀ y ∈ l, Op.bytesLess (LL y) (LL s) = false) → aheadB s l = 0 := fun l h => by
  unfold aheadB; rw [List.countP_eq_zero]; intro y hy; rw [h y hy]; simp
theorem aheadB_here (s : ByteArray) : ∀ l : List ByteArray, upB l → (decide (aheadB s l < l.length) && decide (l.getD (aheadB s l) ByteArray.empty = s)) = inB s l
  | [], _ => rfl
  | x :: l, h => by
    obtain ⟨h1, h2⟩ := List.pairwise_cons.1 h
    have ih := aheadB_here s l h2
    cases hx : Op.bytesLess (LL x) (LL s) with
    | true =>
      have e : aheadB s (x :: l) = aheadB s l + 1 := by unfold aheadB; rw [List.countP_cons_of_pos (by simpa using hx)]
      rw [e, List.getD_cons_succ, List.length_cons]
      have hne : ¬ x = s := fun e => by subst e; rw [bl_irrefl] at hx; cases hx
      rw [inB_cons, decide_eq_false hne, Bool.false_or, ← ih]
      simp
    | false =>
      have e : aheadB s (x :: l) = 0 := aheadB_none s _ (fun y hy => by
        rcases List.mem_cons.1 hy with rfl | hy
        · exact hx
        · exact bl_ntrans (h1 y hy) hx)
      rw [e, List.getD_cons_zero, List.length_cons]
      by_cases hs : s ∈ x :: l
      · rw [inB_iff.2 hs]
        have : x = s := by
          rcases List.mem_cons.1 hs with rfl | hy
          · rfl
          · rcases bl_tri (LL x) (LL s) with h' | h' | h'
            · exact LL_inj h'
            · rw [hx] at h'; cases h'
            · rw [h1 s hy] at h'; cases h'
        simp [this]
      · rw [Bool.eq_false_iff.2 (fun h => hs (inB_iff.1 h))]
        have : ¬ x = s := fun e => hs (by rw [e]; exact List.mem_cons_self)
        simp [this]

/-! ### the search -/
set_option maxHeartbeats 4000000 in
set_option maxRecDepth 1000000 in
theorem search_row {w0 : World} {A0 : Option Addr} {cap : Nat} {l : List ByteArray} (hr : Kd.C Kd.string w0 A0 l.length l) (tv : ByteArray) (hl : sizedB l) (hu : upB l) :
    Calls Try.prog 96 #[.slice A0 l.length cap, .string tv, .func (.func 69) #[] #[]] w0 fun e w' =>
      e = .returned (.tuple #[.int .i64 (aheadB tv l : Nat), .bool (inB tv l)]) ∧ ∃ q, w' = w0.drewN q := by
  rcases Nat.eq_zero_or_pos l.length with h0 | h0
  · have : l = [] := List.length_eq_zero_iff.1 h0
    subst this
    exact (Any.slices_BinarySearchFunc_none Try.laysSearch A0 cap _ _ w0).mono fun e w' ⟨h1, h2⟩ => ⟨by rw [h1]; rfl, 0, by rw [h2]; rfl⟩
  obtain ⟨ad, e, hc⟩ := (Kd.reads_of_C (enc := Value.string) (d := ByteArray.empty) (h1 := fun _ => rfl) hr).2.2 h0
  subst e
  have HC := Aside0.mk hc
  have HU := Aside0.mk hu
  have HL := Aside0.mk hl
  have hsz : l.length ≤ 8796093022208 := hl.1
  have eg := enterS
  have hcmp : ∀ (x : ByteArray), x.size < 4611686018427387904 → ∀ W, Calls Try.prog 69 #[.string x, .string tv] W fun e w' => e = .returned (.int .i64 (cmp3 (LL x) (LL tv))) ∧ ∃ q, w' = W.drewN q := fun x hx W => compare_calls x tv hx W
  clear hc hr hu hl h0
  have H0 : ∃ q, w0 = w0.drewN q := ⟨0, rfl⟩
  have S0 := Aside0.mk H0
  clear H0
  obtain ⟨cnt, hcnt⟩ : ∃ n, aheadB tv l = n := ⟨_, rfl⟩
  obtain ⟨fin, hfin⟩ : ∃ b, inB tv l = b := ⟨_, rfl⟩
  have EF := Aside0.mk ((aheadB_here tv l HU.out).trans hfin)
  rw [hcnt, hfin]
  rw [hcnt] at EF
  have CN := Aside0.mk hcnt
  clear hcnt hfin
  go_enter Try.func96, Try.ntmps96
  go_wp2
  go_loopg [9, 10] l.length (fun kx s9 s10 wr => ∃ lo hi : Nat, s9 = .int .i64 lo ∧ s10 = .int .i64 hi ∧ lo ≤ hi ∧ hi ≤ l.length ∧ hi - lo ≤ kx ∧ Aside0 (∃ q, wr = w0.drewN q) ∧
    Aside0 ((∀ t, t < lo → Op.bytesLess (LL (l.getD t ByteArray.empty)) (LL tv) = true) ∧ (∀ t, hi ≤ t → t < l.length → Op.bytesLess (LL (l.getD t ByteArray.empty)) (LL tv) = false)))
  case atStart => exact ⟨0, l.length, rfl, rfl, Nat.zero_le _, Nat.le_refl _, by omega, S0, ⟨⟨fun t ht => absurd ht (Nat.not_lt_zero _), fun t h1 h2 => by omega⟩⟩⟩
  case round =>
    clear S0
    obtain ⟨lo, hi, rfl, rfl, hlh, hin, hg, S1, I⟩ := hrel
    have cell : ∀ j, j < l.length → wr.cell? (ad.add j) = some (.string (l.getD j ByteArray.empty)) := fun j hj => by
      obtain ⟨q, rfl⟩ := S1.out
      exact HC.out j hj
    have sz : ∀ j, j < l.length → (l.getD j ByteArray.empty).size < 4611686018427387904 := fun j hj => HL.out.2 _ (getD_mem l j _ hj)
    by_cases hlt : lo < hi
    · have cm := cell ((lo + hi) / 2) (by omega)
      have hsy := sz ((lo + hi) / 2) (by omega)
      generalize hy : l.getD ((lo + hi) / 2) ByteArray.empty = y at cm hsy
      have Y := Aside0.mk hy
      clear hy cell sz
      have hc := hcmp y hsy wr
      cases hyx : Op.bytesLess (LL y) (LL tv) with
      | true =>
        have hyc : cmp3 (LL y) (LL tv) < 0 := of_decide_eq_true ((cmp3_lt _ _).trans hyx)
        generalize cmp3 (LL y) (LL tv) = cv at hc hyc
        go_wp2_with (go_at_fn 69; refine hc.mono ?_; rintro e w' ⟨rfl, nq, rfl⟩)
        go_roundg (hi - ((lo + hi) / 2 + 1))
        case measure => omega
        case rel =>
          refine ⟨(lo + hi) / 2 + 1, hi, by rw [show ((lo : Int) + (hi : Int)) / 2 + 1 = (((lo + hi) / 2 + 1 : Nat) : Int) by omega], rfl, by omega, hin, Nat.le_refl _, ?_, ⟨⟨fun t ht => ?_, I.out.2⟩⟩⟩
          · obtain ⟨q, hq⟩ := S1.out
            exact ⟨⟨q + nq, by rw [hq, World.drewN_drewN]⟩⟩
          · by_cases htl : t < (lo + hi) / 2
            · have hp := List.pairwise_iff_getElem.1 HU.out t ((lo + hi) / 2) (by omega) (by omega) htl
              have hY := Y.out
              rw [List.getD_eq_getElem?_getD, List.getElem?_eq_getElem (by omega : (lo + hi) / 2 < l.length), Option.getD_some] at hY
              rw [hY] at hp
              rw [List.getD_eq_getElem?_getD, List.getElem?_eq_getElem (by omega : t < l.length), Option.getD_some]
              cases hh : Op.bytesLess (LL l[t]) (LL tv) with
              | true => rfl
              | false => rw [bl_ntrans hp hh] at hyx; cases hyx
            · obtain rfl : t = (lo + hi) / 2 := by omega
              rw [Y.out]; exact hyx
      | false =>
        have hyc : ¬ cmp3 (LL y) (LL tv) < 0 := of_decide_eq_false ((cmp3_lt _ _).trans hyx)
        generalize cmp3 (LL y) (LL tv) = cv at hc hyc
        go_wp2_with (go_at_fn 69; refine hc.mono ?_; rintro e w' ⟨rfl, nq, rfl⟩)
        go_roundg ((lo + hi) / 2 - lo)
        case measure => omega
        case rel =>
          refine ⟨lo, (lo + hi) / 2, rfl, by rw [show ((lo : Int) + (hi : Int)) / 2 = (((lo + hi) / 2 : Nat) : Int) by omega], by omega, by omega, Nat.le_refl _, ?_, ⟨⟨I.out.1, fun t ht htn => ?_⟩⟩⟩
          · obtain ⟨q, hq⟩ := S1.out
            exact ⟨⟨q + nq, by rw [hq, World.drewN_drewN]⟩⟩
          · by_cases htl : (lo + hi) / 2 < t
            · have hp := List.pairwise_iff_getElem.1 HU.out ((lo + hi) / 2) t (by omega) htn htl
              have hY := Y.out
              rw [List.getD_eq_getElem?_getD, List.getElem?_eq_getElem (by omega : (lo + hi) / 2 < l.length), Option.getD_some] at hY
              rw [hY] at hp
              rw [List.getD_eq_getElem?_getD, List.getElem?_eq_getElem htn, Option.getD_some]
              exact bl_ntrans hp hyx
            · obtain rfl : t = (lo + hi) / 2 := by omega
              rw [Y.out]; exact hyx
    · obtain rfl : hi = lo := by omega
      have hgetD : ∀ t, l[t]! = l.getD t ByteArray.empty := fun t => by
        rw [List.getElem!_eq_getElem?_getD, List.getD_eq_getElem?_getD]; rfl
      have ecnt : cnt = hi := by
        rw [← CN.out]
        refine Lib.countP_boundary _ l hi hin (fun t ht => ?_) (fun t h3 h4 => ?_)
        · rw [hgetD t]; exact I.out.1 t ht
        · rw [hgetD t]; exact I.out.2 t h3 h4
      subst ecnt
      by_cases hn : cnt < l.length
      · have cl := cell cnt hn
        have hsy := sz cnt hn
        generalize hy : l.getD cnt ByteArray.empty = y at cl hsy
        have Y := Aside0.mk hy
        clear hy cell sz
        have hc := hcmp y hsy wr
        by_cases hyx : cmp3 (LL y) (LL tv) = 0
        · have hyt := Aside0.mk (LL_inj ((cmp3_zero _ _).1 hyx))
          generalize cmp3 (LL y) (LL tv) = cv at hc hyx
          subst hyx
          go_wp2_with (go_at_fn 69; refine hc.mono ?_; rintro e w' ⟨rfl, nq, rfl⟩)
          go_ret2
          obtain ⟨q, hq⟩ := S1.out
          exact ⟨by rw [← EF.out, Y.out]; simp [hn, hyt.out], q + nq, by rw [hq, World.drewN_drewN]⟩
        · have hyt := Aside0.mk (fun e : y = tv => hyx ((cmp3_zero _ _).2 (by rw [e])))
          generalize cmp3 (LL y) (LL tv) = cv at hc hyx
          go_wp2_with (go_at_fn 69; refine hc.mono ?_; rintro e w' ⟨rfl, nq, rfl⟩)
          go_ret2
          obtain ⟨q, hq⟩ := S1.out
          exact ⟨by rw [← EF.out, Y.out]; simp [hn, show ¬ y = tv from hyt.out, hyx], q + nq, by rw [hq, World.drewN_drewN]⟩
      · clear cell sz
        go_wp2
        go_ret2
        exact ⟨by rw [← EF.out]; simp [hn], S1.out⟩

def affix_Place.f (l0 : List ByteArray) (a1 : ByteArray) : Option (Int × Bool) := if sizedB l0 ∧ upB l0 then some ((aheadB a1 l0 : Int), inB a1 l0) else none
set_option maxHeartbeats 800000 in
theorem affix_Place.calls (A0 : Option Addr) (c0 : Nat) (l0 : List ByteArray) (a1 : ByteArray) (r1 : Int) (r2 : Bool) (w : World) (hr0 : Kd.C Kd.string w A0 l0.length l0) (hc0 : l0.length ≤ c0) (h : affix_Place.f l0 a1 = some (r1, r2)) :
    Calls Try.prog 80 #[.slice A0 l0.length c0, .string a1] w fun e w' => e = .returned (.tuple #[.int .i64 r1, .bool r2]) ∧ Drawn0 w w' := by
  unfold affix_Place.f at h
  by_cases hs : sizedB l0 ∧ upB l0
  · rw [if_pos hs] at h
    obtain ⟨rfl, rfl⟩ := Prod.mk.inj (Option.some.inj h)
    have h1 := search_row (cap := c0) hr0 a1 hs.1 hs.2
    clear h hr0 hc0 hs
    generalize aheadB a1 l0 = n at h1 ⊢
    generalize inB a1 l0 = b at h1 ⊢
    go_enter Try.func80, Try.ntmps80
    go_wp2_with (go_at_call 96; refine h1.mono ?_; rintro e w1 ⟨rfl, q, rfl⟩)
    go_ret2
    exact ⟨rfl, ⟨⟨q, rfl⟩⟩⟩
  · rw [if_neg hs] at h
    cases h

end Go.Proofs.Ytmkcoobmbjoloaa.P
