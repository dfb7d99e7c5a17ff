/- What a trie tells of its states: for all tries, nil too, and all numbers. -/
import Derived.Below
import Derived.Deep.Draws
import Derived.OwnWalk
import Derived.Tactics
import Derived.WalkKit
import Derived.KernelRfl
import Derived.RowKit3
import Derived.Deep.LoopGhost
import Derived.Deep.QuietTactic
import Derived.BigQuiet
import Derived.WideLaws
import Derived.Outline
import Derived.Test.YtbkcjeopcjghgaaOb16
import Derived.Test.YtbkcjeopcjghgaaBase
import Derived.Test.YtbkcjeopcjghgaaPx0
import Derived.Test.YtbkcjeopcjghgaaWLast
namespace Go.Proofs.Ytbkcjeopcjghgaa.P
open Go Go.RowKit Go.Proofs.YtbkcjeopcjghgaaW.PrintWords Go.Proofs.YtbkcjeopcjghgaaW.PrintLast Go.Proofs.Ytbkcjeopcjghgaa.Base
set_option linter.unusedVariables false
set_option linter.unusedSimpArgs false

/-- How many states. -/
def trLen (a0 : Option TrieD) : Nat := match a0 with | none => 0 | some d => d.length
def trie_Trie_Len.f (a0 : Option TrieD) : Option Int := some (trLen a0 : Int)
set_option maxHeartbeats 400000 in
theorem trie_Trie_Len.calls (Pa0 : Option Addr) (a0 : Option TrieD) (r : Int) (w : World) (ho : OB K97 w Pa0 a0) (h : trie_Trie_Len.f a0 = some r) :
    Calls Try.prog 42 #[.pointer Pa0] w fun e w' => e = .returned (.int .i64 r) ∧ Drawn0 w w' := by
  obtain rfl := Option.some.inj h
  clear h
  cases a0 with
  | none =>
    obtain rfl := OB.p_none ho
    clear ho
    go_enter Try.func42, Try.ntmps42
    go_wp2
    go_ret
    exact ⟨rfl, Drawn0.refl _⟩
  | some d =>
    obtain ⟨a, rfl⟩ := OB.p_some ho
    obtain ⟨b, A, c, rfl, h0, hl, hc⟩ := OB.at ho
    show Calls _ _ _ _ fun e w' => e = .returned (.int .i64 (d.length : Int)) ∧ Drawn0 w w'
    clear ho hl hc
    go_enter Try.func42, Try.ntmps42
    go_wp2
    go_ret
    exact ⟨rfl, Drawn0.refl _⟩
def trIs (a0 : Option TrieD) (s : Int) : Bool := decide (0 ≤ s ∧ s < (trLen a0 : Int))
def trie_Trie_is.f (a0 : Option TrieD) (a1 : Int) : Option Bool := some (trIs a0 a1)
set_option maxHeartbeats 400000 in
theorem trie_Trie_is.calls (Pa0 : Option Addr) (a0 : Option TrieD) (a1 : Int) (r : Bool) (w : World) (ho : OB K97 w Pa0 a0) (h : trie_Trie_is.f a0 a1 = some r) :
    Calls Try.prog 62 #[.pointer Pa0, .int .i64 a1] w fun e w' => e = .returned (.bool r) ∧ Drawn0 w w' := by
  obtain rfl := Option.some.inj h
  clear h
  have hL := fun W g => trie_Trie_Len.calls Pa0 a0 (trLen a0 : Int) W g rfl
  have HL := Aside0.mk hL
  have HO := Aside0.mk ho
  have ht : trIs a0 a1 = decide (0 ≤ a1 ∧ a1 < (trLen a0 : Int)) := rfl
  generalize trIs a0 a1 = t at ht ⊢
  generalize (trLen a0 : Int) = n at ht HL
  clear hL ho
  by_cases h0 : 0 ≤ a1
  · have h0b : decide (0 ≤ a1) = true := decide_eq_true h0
    obtain rfl : t = decide (a1 < n) := by rw [ht]; simp [h0]
    clear ht h0
    go_enter Try.func62, Try.ntmps62
    go_wp2_with (go_at_call 42; refine (HL.out _ HO.out).mono ?_; rintro e w1 ⟨rfl, ⟨q, rfl⟩⟩)
    go_ret
    exact ⟨rfl, by repeat (first | exact Drawn0.refl _ | apply Drawn0.step)⟩
  · have h0b : decide (0 ≤ a1) = false := decide_eq_false h0
    obtain rfl : t = false := by rw [ht]; simp [h0]
    clear ht h0
    go_enter Try.func62, Try.ntmps62
    go_wp2_with (go_at_call 42; refine (HL.out _ HO.out).mono ?_; rintro e w1 ⟨rfl, ⟨q, rfl⟩⟩)
    go_ret
    exact ⟨rfl, by repeat (first | exact Drawn0.refl _ | apply Drawn0.step)⟩

theorem trIs_some (d : TrieD) (k : Nat) (h : k < d.length) : trIs (some d) (k : Int) = true := decide_eq_true ⟨by omega, by show (k : Int) < (d.length : Int); omega⟩
/-- A state's cells, where a trie has it. -/
theorem tr_cells {w : World} {a : Addr} {d : TrieD} (h : K97.R w a d) (k : Nat) (hk : k < d.length) : ∃ (b : Nat) (ad : Addr) (c : Nat), a = ⟨b, 0, none⟩ ∧ w.cell? ⟨b, 0, none⟩ = some (.slice (some ad) d.length c) ∧
    w.cell? (ad.add (k * 6)) = some (.int .i64 (d.getD k default).above) ∧ w.cell? ⟨(ad.add (k * 6)).block, (ad.add (k * 6)).off + 1, none⟩ = some (.int .u8 (d.getD k default).by_) ∧ w.cell? ⟨(ad.add (k * 6)).block, (ad.add (k * 6)).off + 2, none⟩ = some (.int .i64 (d.getD k default).depth) ∧
    w.cell? ⟨(ad.add (k * 6)).block, (ad.add (k * 6)).off + 3, none⟩ = some (.int .i64 (d.getD k default).id) ∧ w.cell? ⟨(ad.add (k * 6)).block, (ad.add (k * 6)).off + 4, none⟩ = some (.int .i64 (d.getD k default).first) ∧ w.cell? ⟨(ad.add (k * 6)).block, (ad.add (k * 6)).off + 5, none⟩ = some (.int .i64 (d.getD k default).many) := by
  obtain ⟨b, A, c, rfl, h0, hl, hc⟩ := h
  obtain ⟨ad, rfl, hx⟩ := flat_C default hc k hk
  have hy : ∀ j u, 0 < j → (stF.enc (d.getD k default))[j]? = some u → w.cell? ⟨(ad.add (k * 6)).block, (ad.add (k * 6)).off + j, none⟩ = some u := fun j u hj hu => by rw [← add_field _ _ j hj]; exact hx j u hu
  exact ⟨b, ad, c, rfl, h0, hx 0 _ rfl, hy 1 _ (by omega) rfl, hy 2 _ (by omega) rfl, hy 3 _ (by omega) rfl, hy 4 _ (by omega) rfl, hy 5 _ (by omega) rfl⟩
def trAt (a0 : Option TrieD) (s : Int) : StD := match a0 with | none => default | some d => d.getD s.toNat default
def trie_Trie_Depth.f (a0 : Option TrieD) (a1 : Int) : Option Int := some (if trIs a0 a1 = true then (trAt a0 a1).depth else 0)
/-- Is there such a state: yes, and then its cells; or no. -/
theorem tr_cases (a0 : Option TrieD) (a1 : Int) : (trIs a0 a1 = false) ∨ (trIs a0 a1 = true ∧ ∃ (d : TrieD) (k : Nat), a0 = some d ∧ a1 = (k : Int) ∧ k < d.length) := by
  cases h : trIs a0 a1 with
  | false => exact .inl rfl
  | true =>
    refine .inr ⟨rfl, ?_⟩
    have h' := of_decide_eq_true h
    cases a0 with
    | none => simp only [trLen] at h'; omega
    | some d => exact ⟨d, a1.toNat, rfl, by omega, by simp only [trLen] at h'; omega⟩
def trie_Trie_Above.f (a0 : Option TrieD) (a1 : Int) : Option (Int × Int × Bool) := some (if trIs a0 a1 = true ∧ a1 ≠ 0 then ((trAt a0 a1).above, (trAt a0 a1).by_, true) else (0, 0, false))
set_option maxHeartbeats 400000 in
theorem trie_Trie_Above.calls (Pa0 : Option Addr) (a0 : Option TrieD) (a1 : Int) (r1 r2 : Int) (r3 : Bool) (w : World) (ho : OB K97 w Pa0 a0) (h : trie_Trie_Above.f a0 a1 = some (r1, r2, r3)) :
    Calls Try.prog 58 #[.pointer Pa0, .int .i64 a1] w fun e w' => e = .returned (.tuple #[.int .i64 r1, .int .u8 r2, .bool r3]) ∧ Drawn0 w w' := by
  unfold trie_Trie_Above.f at h
  have hL := fun W g => trie_Trie_is.calls Pa0 a0 a1 (trIs a0 a1) W g rfl
  have HL := Aside0.mk hL
  have HO := Aside0.mk ho
  clear hL
  rcases tr_cases a0 a1 with ht | ⟨ht, d, k, rfl, rfl, hk⟩
  · rw [ht] at HL h
    rw [if_neg (by simp)] at h
    obtain ⟨rfl, h2⟩ := Prod.mk.inj (Option.some.inj h)
    obtain ⟨rfl, rfl⟩ := Prod.mk.inj h2
    clear h2
    clear ht ho h
    go_enter Try.func58, Try.ntmps58
    go_wp2_with (go_at_call 62; refine (HL.out _ HO.out).mono ?_; rintro e w1 ⟨rfl, ⟨q, rfl⟩⟩)
    go_ret3
    exact ⟨rfl, by repeat (first | exact Drawn0.refl _ | apply Drawn0.step)⟩
  · by_cases hk0 : k = 0
    · subst hk0
      rw [if_neg (by simp)] at h
      obtain ⟨rfl, h2⟩ := Prod.mk.inj (Option.some.inj h)
      obtain ⟨rfl, rfl⟩ := Prod.mk.inj h2
      clear h2
      rw [ht] at HL
      clear ht ho h
      go_enter Try.func58, Try.ntmps58
      go_wp2_with (go_at_call 62; refine (HL.out _ HO.out).mono ?_; rintro e w1 ⟨rfl, ⟨q, rfl⟩⟩)
      go_ret3
      exact ⟨rfl, by repeat (first | exact Drawn0.refl _ | apply Drawn0.step)⟩
    · obtain ⟨a, rfl⟩ := OB.p_some ho
      obtain ⟨b, ad, c, rfl, h0, x0, x1, x2, x3, x4, x5⟩ := tr_cells (OB.at ho) k hk
      rw [ht, if_pos ⟨rfl, by omega⟩] at h
      obtain ⟨rfl, h2⟩ := Prod.mk.inj (Option.some.inj h)
      obtain ⟨rfl, rfl⟩ := Prod.mk.inj h2
      clear h2
      rw [ht] at HL
      show Calls _ _ _ _ fun e w' => e = .returned (.tuple #[.int .i64 (d.getD k default).above, .int .u8 (d.getD k default).by_, .bool true]) ∧ Drawn0 w w'
      generalize d.getD k default = st at x0 x1 x2 x3 x4 x5 ⊢
      have hki : (k : Int) < (d.length : Int) := by omega
      have hkz : ((k : Int) == 0) = false := beq_eq_false_iff_ne.2 (by omega)
      clear ht ho h
      generalize d.length = n at h0 hk hki
      go_enter Try.func58, Try.ntmps58
      go_wp2_with (go_at_call 62; refine (HL.out _ HO.out).mono ?_; rintro e w1 ⟨rfl, ⟨q, rfl⟩⟩)
      go_quiet (fail)
      go_wp2
      go_ret3
      exact ⟨rfl, by repeat (first | exact Drawn0.refl _ | apply Drawn0.step)⟩
def trie_Trie_Ends.f (a0 : Option TrieD) (a1 : Int) : Option (Int × Bool) := some (if trIs a0 a1 = true ∧ 0 ≤ (trAt a0 a1).id then ((trAt a0 a1).id, true) else (0, false))
set_option maxHeartbeats 400000 in
theorem trie_Trie_Ends.calls (Pa0 : Option Addr) (a0 : Option TrieD) (a1 : Int) (r1 : Int) (r2 : Bool) (w : World) (ho : OB K97 w Pa0 a0) (h : trie_Trie_Ends.f a0 a1 = some (r1, r2)) :
    Calls Try.prog 60 #[.pointer Pa0, .int .i64 a1] w fun e w' => e = .returned (.tuple #[.int .i64 r1, .bool r2]) ∧ Drawn0 w w' := by
  unfold trie_Trie_Ends.f at h
  have hL := fun W g => trie_Trie_is.calls Pa0 a0 a1 (trIs a0 a1) W g rfl
  have HL := Aside0.mk hL
  have HO := Aside0.mk ho
  clear hL
  rcases tr_cases a0 a1 with ht | ⟨ht, d, k, rfl, rfl, hk⟩
  · rw [ht] at HL h
    rw [if_neg (by simp)] at h
    obtain ⟨rfl, rfl⟩ := Prod.mk.inj (Option.some.inj h)
    clear ht ho h
    go_enter Try.func60, Try.ntmps60
    go_wp2_with (go_at_call 62; refine (HL.out _ HO.out).mono ?_; rintro e w1 ⟨rfl, ⟨q, rfl⟩⟩)
    go_ret2
    exact ⟨rfl, by repeat (first | exact Drawn0.refl _ | apply Drawn0.step)⟩
  · obtain ⟨a, rfl⟩ := OB.p_some ho
    obtain ⟨b, ad, c, rfl, h0, x0, x1, x2, x3, x4, x5⟩ := tr_cells (OB.at ho) k hk
    have h : some (if 0 ≤ (d.getD k default).id then ((d.getD k default).id, true) else (0, false)) = some (r1, r2) := by
      rw [← h, ht]
      simp [trAt]
    rw [ht] at HL
    generalize d.getD k default = st at x0 x1 x2 x3 x4 x5 h
    have hki : (k : Int) < (d.length : Int) := by omega
    clear ht ho
    generalize d.length = n at h0 hk hki
    by_cases hi : 0 ≤ st.id
    · rw [if_pos hi] at h
      obtain ⟨rfl, rfl⟩ := Prod.mk.inj (Option.some.inj h)
      have hib : decide (st.id < 0) = false := decide_eq_false (by omega)
      clear h hi
      go_enter Try.func60, Try.ntmps60
      go_wp2_with (go_at_call 62; refine (HL.out _ HO.out).mono ?_; rintro e w1 ⟨rfl, ⟨q, rfl⟩⟩)
      go_ret2
      exact ⟨rfl, by repeat (first | exact Drawn0.refl _ | apply Drawn0.step)⟩
    · rw [if_neg hi] at h
      obtain ⟨rfl, rfl⟩ := Prod.mk.inj (Option.some.inj h)
      have hib : decide (st.id < 0) = true := decide_eq_true (by omega)
      clear h hi
      go_enter Try.func60, Try.ntmps60
      go_wp2_with (go_at_call 62; refine (HL.out _ HO.out).mono ?_; rintro e w1 ⟨rfl, ⟨q, rfl⟩⟩)
      go_ret2
      exact ⟨rfl, by repeat (first | exact Drawn0.refl _ | apply Drawn0.step)⟩
/-- The state below one by a byte, searched between two numbers. -/
def nxt (d : TrieD) (c : Int) : Nat → Nat → Nat → Option Nat
  | 0, _, _ => none
  | f + 1, lo, hi => if lo < hi then (if (d.getD ((lo + hi) / 2) default).by_ = c then some ((lo + hi) / 2) else if (d.getD ((lo + hi) / 2) default).by_ < c then nxt d c f ((lo + hi) / 2 + 1) hi else nxt d c f lo ((lo + hi) / 2)) else none
/-- Do a state's next ones lie in the trie? -/
abbrev stOk (d : TrieD) (x : StD) : Prop := 0 ≤ x.first ∧ 0 ≤ x.many ∧ x.first + x.many ≤ (d.length : Int) ∧ d.length ≤ 4611686018427387903
def nxtOf (d : TrieD) (x : StD) (c : Int) : Int × Bool := match nxt d c (x.many.toNat + 1) x.first.toNat (x.first + x.many).toNat with | some k => ((k : Int), true) | none => (0, false)
def trie_Trie_Next.f (a0 : Option TrieD) (a1 a2 : Int) : Option (Int × Bool) := match a0 with
  | none => some (0, false)
  | some d => if trIs (some d) a1 = true then (if stOk d (d.getD a1.toNat default) then some (nxtOf d (d.getD a1.toNat default) a2) else none) else some (0, false)
set_option maxHeartbeats 4000000 in
theorem trie_Trie_Next.calls (Pa0 : Option Addr) (a0 : Option TrieD) (a1 a2 : Int) (r1 : Int) (r2 : Bool) (w : World) (ho : OB K97 w Pa0 a0) (h : trie_Trie_Next.f a0 a1 a2 = some (r1, r2)) :
    Calls Try.prog 46 #[.pointer Pa0, .int .i64 a1, .int .u8 a2] w fun e w' => e = .returned (.tuple #[.int .i64 r1, .bool r2]) ∧ Drawn0 w w' := by
  have hL := fun W g => trie_Trie_is.calls Pa0 a0 a1 (trIs a0 a1) W g rfl
  have HL := Aside0.mk hL
  have HO := Aside0.mk ho
  clear hL
  rcases tr_cases a0 a1 with ht | ⟨ht, d, k, rfl, rfl, hk⟩
  · have h : some ((0 : Int), false) = some (r1, r2) := by
      rw [← h]
      cases a0 with
      | none => rfl
      | some d => simp only [trie_Trie_Next.f]; rw [ht, if_neg (by simp)]
    obtain ⟨rfl, rfl⟩ := Prod.mk.inj (Option.some.inj h)
    rw [ht] at HL
    clear ht ho h
    go_enter Try.func46, Try.ntmps46
    go_wp2_with (go_at_call 62; refine (HL.out _ HO.out).mono ?_; rintro e w1 ⟨rfl, ⟨q, rfl⟩⟩)
    go_ret2
    exact ⟨rfl, by repeat (first | exact Drawn0.refl _ | apply Drawn0.step)⟩
  · obtain ⟨a, rfl⟩ := OB.p_some ho
    have hK := OB.at ho
    obtain ⟨b, ad, c, rfl, h0, x0, x1, x2, x3, x4, x5⟩ := tr_cells hK k hk
    simp only [trie_Trie_Next.f] at h
    rw [ht, if_pos rfl, Int.toNat_natCast] at h
    rw [ht] at HL
    have HK := Aside0.mk (fun (j : Nat) (hj : j < d.length) => tr_cells hK j hj)
    by_cases hs : stOk d (d.getD k default)
    rotate_left
    · rw [if_neg hs] at h; cases h
    rw [if_pos hs] at h
    have h := Option.some.inj h
    unfold nxtOf at h
    obtain ⟨s0, s1, s2, s3⟩ := hs
    generalize d.getD k default = st at x0 x1 x2 x3 x4 x5 h s0 s1 s2
    obtain ⟨lo, hlo⟩ : ∃ n : Nat, st.first = n := ⟨st.first.toNat, by omega⟩
    obtain ⟨m, hm⟩ : ∃ n : Nat, st.many = n := ⟨st.many.toNat, by omega⟩
    rw [hlo] at x4 h s2
    rw [hm] at x5 h s2
    have e1 : ((m : Int)).toNat = m := by omega
    have e2 : ((lo : Int) + (m : Int)).toNat = lo + m := by omega
    rw [e1, Int.toNat_natCast, e2] at h
    have hki : (k : Int) < (d.length : Int) := by omega
    have wr1 : IntKind.i64.wrap ((lo : Int) + (m : Int)) = ((lo + m : Nat) : Int) := by rw [i64_w, wrap_id (by omega) (by omega)]; omega
    have HS := Aside0.mk s2
    have H := Aside0.mk h
    clear ht ho h x0 x1 x2 x3 s0 s1 hlo hm e1 e2 hK s2
    obtain ⟨n, hn⟩ : ∃ n, d.length = n := ⟨_, rfl⟩
    rw [hn] at h0 hk hki s3 HS HK
    clear hn
    go_enter Try.func46, Try.ntmps46
    go_wp2_with (go_at_call 62; refine (HL.out _ HO.out).mono ?_; rintro e w1 ⟨rfl, ⟨q, rfl⟩⟩)
    go_quiet (fail)
    clear wr1 x4 x5
    go_wp2
    go_loopg [8, 9] m (fun kx i j W => ∃ (low high f : Nat), i = .int .i64 low ∧ j = .int .i64 high ∧ high ≤ n ∧ f = kx ∧ high - low ≤ f ∧ Aside0 (nxt d a2 (m + 1) lo (lo + m) = nxt d a2 (f + 1) low high) ∧ Aside0 (Drawn0 w W))
    case atStart => exact ⟨lo, lo + m, m, rfl, rfl, by have := HS.out; omega, rfl, by omega, ⟨rfl⟩, ⟨by repeat (first | exact Drawn0.refl _ | apply Drawn0.step)⟩⟩
    case round =>
      obtain ⟨low, high, f, rfl, rfl, hh, rfl, hf, HN, HD⟩ := hrel
      obtain ⟨q2, rfl⟩ := HD.out
      by_cases hlt : low < high
      · obtain ⟨mid, hmid⟩ : ∃ mid, (low + high) / 2 = mid := ⟨_, rfl⟩
        have hltb : decide ((low : Int) < (high : Int)) = true := decide_eq_true (by omega)
        have hltc : decide (low < high) = true := decide_eq_true hlt
        obtain ⟨b', ad', c', hb', h0', x0, x1, x2, x3, x4, x5⟩ := HK.out mid (by omega)
        rw [show b' = b from by injection hb' with e; exact e.symm] at h0'
        obtain rfl : ad' = ad := by rw [h0] at h0'; injection h0' with e; injection e with e; injection e with e; exact e.symm
        have hmi : ((low : Int) + (high : Int)) / 2 = (mid : Int) := by omega
        have HMI := Aside0.mk hmi
        have hm1 : (0 : Int) ≤ ((low : Int) + (high : Int)) / 2 := by omega
        have hm2 : ((low : Int) + (high : Int)) / 2 < (n : Int) := by omega
        have hm3 : (((low : Int) + (high : Int)) / 2).toNat = mid := by omega
        have hm4 : low ≤ mid ∧ mid < high := by omega
        have hN := HN.out
        have e1 : nxt d a2 (f + 1) low high = if (d.getD mid default).by_ = a2 then some mid else if (d.getD mid default).by_ < a2 then nxt d a2 f (mid + 1) high else nxt d a2 f low mid := by
          rw [← hmid]
          show (if low < high then _ else _) = _
          rw [if_pos hlt]
        rw [e1] at hN
        clear x0 x2 x3 x4 x5 h0' hb' HN e1 hmi hlt hmid
        generalize (d.getD mid default).by_ = y at x1 hN
        have hy : y = a2 ∨ (y ≠ a2 ∧ y < a2) ∨ (y ≠ a2 ∧ ¬ y < a2) := by omega
        rcases hy with hy | ⟨hy, hy2⟩ | ⟨hy, hy2⟩
        · rw [if_pos hy] at hN
          have hb1 : (y == a2) = true := beq_iff_eq.2 hy
          have h2 := H.out
          rw [hN] at h2
          obtain ⟨rfl, rfl⟩ := Prod.mk.inj h2
          clear hy hN h2 H
          go_wp2
          go_ret2
          exact ⟨by show Ending.returned (Value.tuple #[Value.int IntKind.i64 (((low : Int) + (high : Int)) / 2), _]) = _; rw [HMI.out]; rfl, HD.out⟩
        · rw [if_neg hy, if_pos hy2] at hN
          have hb1 : (y == a2) = false := beq_eq_false_iff_ne.2 hy
          have hb2 : decide (y < a2) = true := decide_eq_true hy2
          have HN := Aside0.mk hN
          clear hy hy2 hN
          cases f with
          | zero => omega
          | succ f =>
            go_wp2
            go_roundg f
            case measure => omega
            case rel => exact ⟨mid + 1, high, f, by rw [HMI.out]; go_num, rfl, hh, rfl, by omega, HN, HD⟩
        · rw [if_neg hy, if_neg hy2] at hN
          have hb1 : (y == a2) = false := beq_eq_false_iff_ne.2 hy
          have hb2 : decide (y < a2) = false := decide_eq_false hy2
          have HN := Aside0.mk hN
          clear hy hy2 hN
          cases f with
          | zero => omega
          | succ f =>
            go_wp2
            go_roundg f
            case measure => omega
            case rel => exact ⟨low, mid, f, rfl, by rw [HMI.out], by omega, rfl, by omega, HN, HD⟩
      · have hltb : decide ((low : Int) < (high : Int)) = false := decide_eq_false (by omega)
        have hltc : decide (low < high) = false := decide_eq_false hlt
        have hN := HN.out
        have e1 : nxt d a2 (f + 1) low high = none := if_neg hlt
        have h2 := H.out
        rw [hN, e1] at h2
        obtain ⟨rfl, rfl⟩ := Prod.mk.inj h2
        clear hN e1 h2 H HN hlt
        go_wp2
        go_ret2
        exact ⟨rfl, HD.out⟩
end Go.Proofs.Ytbkcjeopcjghgaa.P
