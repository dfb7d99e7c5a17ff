/- Proved here: the row of the law SparseTells, with texts that lead to it, merged by a program of this session (wip/merge.py), part 1 of 2; no condition beyond the statement's own. -/
import Derived.Test.YtbkcjeopcjghgaaH16
import Derived.Test.YtbkcjeopcjghgaaOb16
import Derived.Test.YtbkcjeopcjghgaaH16a
import Derived.StillTailTactics
import Derived.Test.YtbkcjeopcjghgaaPx0
import Derived.Test.YtbkcjeopcjghgaaH09t
import Derived.Test.YtbkcjeopcjghgaaPx37
import Derived.Test.YtbkcjeopcjghgaaPx36
import Derived.Test.YtbkcjeopcjghgaaPx10
import Derived.Test.YtbkcjeopcjghgaaOb10
import Derived.Test.YtbkcjeopcjghgaaPx33
import Derived.Test.YtbkcjeopcjghgaaH10b
import Derived.Test.YtbkcjeopcjghgaaBase
import Derived.Test.YtbkcjeopcjghgaaWLast
import Derived.Laws.BitsLemmas
import Derived.Test.YtbkcjeopcjghgaaPx12
import Derived.Shelf.Strings.BuilderK
import Derived.Test.YtbkcjeopcjghgaaShBld
import Derived.BigRegion
import Derived.Deep.RegionLaw
import Derived.WalkMore
import Derived.Deep.Cut
import Derived.Deep.CutRange
import Derived.Deep.DeepCutAuto
import Derived.Deep.CutBlock
import Derived.Deep.LoopGhost
import Derived.Test.YtbkcjeopcjghgaaPx52
import Derived.Laws.Rows
import Derived.WalkKit
import Derived.RowKit3
import Derived.Test.YtbkcjeopcjghgaaWWords
import Derived.Test.YtbkcjeopcjghgaaWMore
import Derived.Test.YtbkcjeopcjghgaaOb
import Derived.Below
import Derived.Deep.Draws
import Derived.OwnWalk
import Derived.Tactics
import Derived.KernelRfl
import Derived.Deep.QuietTactic
import Derived.BigQuiet
import Derived.WideLaws
import Derived.Outline
import Derived.Test.YtbkcjeopcjghgaaFlat
/- A trie is made of a set: the walk of New, job by job. -/
namespace Go.Proofs.Ytbkcjeopcjghgaa.P
open Go Go.RowKit Go.Proofs.YtbkcjeopcjghgaaW.PrintWords Go.Proofs.YtbkcjeopcjghgaaW.PrintLast Go.Proofs.YtbkcjeopcjghgaaW.PrintMore Go.Proofs.Ytbkcjeopcjghgaa.Base
set_option linter.unusedVariables false
set_option linter.unusedSimpArgs false

/-- Texts of which a trie is made here. -/
abbrev okT (l : List ByteArray) : Prop := (upB l ∧ l.Nodup) ∧ l.length ≤ 65535 ∧ (∀ s ∈ l, 0 < s.size ∧ s.size ≤ 65535) ∧ sizes l ≤ 16777216
def trie_New.f (a0 : Option SetD) : Option (Option TrieD) := if okT (setL a0) then some (some (trS (setL a0))) else none
theorem srt_of {l : List ByteArray} (h : upB l ∧ l.Nodup) : srt l := fun t u h1 h2 => by
  have h3 := List.pairwise_iff_getElem.1 h.1 t u (by omega) h2 h1
  have h4 := List.pairwise_iff_getElem.1 h.2 t u (by omega) h2 h1
  rw [List.getD_eq_getElem?_getD, List.getD_eq_getElem?_getD, List.getElem?_eq_getElem (by omega), List.getElem?_eq_getElem h2]
  show Op.bytesLess (LL l[t]) (LL l[u]) = true
  rcases bl_tri (LL l[t]) (LL l[u]) with h5 | h5 | h5
  · exact absurd (LL_inj h5) h4
  · exact h5
  · rw [h5] at h3; cases h3
theorem job_ok {l : List ByteArray} (h : okT l) {k : Nat} {n : NodeD} (hn : (nodesAt l k)[k]? = some n) : JobOk l (stK l k) (jsK l k) k n.lo n.hi n.path.length 0 := by
  obtain ⟨h1, h2, h3, h4⟩ := h
  have hs := srt_of h1
  have hm := List.mem_of_getElem? hn
  have ok := nodes_ok hs k n hm
  have hf := nodes_few hs k
  have hc := jsK_cons l k n hn
  obtain ⟨hlt, he⟩ := List.getElem?_eq_some_iff.1 hn
  have hsl := stK_length l k
  have hjl : (jsK l k).length = (nodesAt l k).length - k := by unfold jsK; simp
  have hst : (stK l k).getD k default = fresh n := by
    rw [List.getD_eq_getElem?_getD]
    unfold stK
    rw [List.getElem?_mapIdx, hn]
    simp
  refine ⟨by rw [hc]; rfl, by rw [hc]; simp, by omega, by omega, by omega, by rw [hst]; rfl, by rw [hst]; rfl, by omega, ok.le, ok.top, fun t t1 t2 => ?_, fun t t1 t2 => ?_⟩
  · have := (ok.pre t t1 t2).length_le
    rw [LL_length] at this
    exact ⟨this, (h3 _ (getD_mem l t ByteArray.empty (by have := ok.top; omega))).2⟩
  · exact own_first (ok.pre n.lo (Nat.le_refl _) (by omega)) (ok.pre t (by omega) t2) (hs n.lo t t1 (by have := ok.top; omega))
theorem trS_end {l : List ByteArray} (h : srt l) {k : Nat} (hk : (nodesAt l k).length ≤ k) (hk2 : k ≤ trK l) : stK l k = trS l := by
  have e := nodes_stop hk (trK l) hk2
  have hl := trN_le h
  unfold trN at hl
  unfold trS stK
  rw [e] at hl ⊢
  apply List.ext_getElem?
  intro i
  rw [List.getElem?_mapIdx, List.getElem?_mapIdx]
  cases hi : (nodesAt l k)[i]? with
  | none => rfl
  | some n =>
    have := (List.getElem?_eq_some_iff.1 hi).1
    simp only [Option.map_some]
    rw [if_pos (by omega), if_pos (by omega)]
set_option maxHeartbeats 16000000 in
set_option maxRecDepth 100000 in
theorem trie_New.calls (Pa0 : Option Addr) (a0 : Option SetD) (r : Option TrieD) (w : World) (ho : OB K57 w Pa0 a0) (h : trie_New.f a0 = some r) :
    Calls Try.prog 57 #[.pointer Pa0] w fun e w' => ∃ P0_ : Option Addr, e = .returned (.pointer P0_) ∧ OB K97 w' P0_ r ∧ Below w.heap.size w w' := by
  unfold trie_New.f at h
  by_cases hs : okT (setL a0)
  rotate_left
  · rw [if_neg hs] at h; cases h
  rw [if_pos hs] at h
  have HO := Aside0.mk ho
  have hLi := fun W (g : OB K57 W Pa0 a0) => pats_Set_List.calls Pa0 a0 (setL a0) W g (by
    cases a0 with
    | none => rfl
    | some d => show (if d.l.length ≤ 8796093022208 then some d.l else none) = _; rw [if_pos (show d.l.length ≤ 8796093022208 from by have := hs.2.1; simp only [setL] at this; omega)]; rfl)
  generalize setL a0 = l at h hs hLi
  obtain rfl := Option.some.inj h
  have HLI := Aside0.mk hLi
  have HS := Aside0.mk hs
  clear h ho hLi hs
  go_enter Try.func57, Try.ntmps57
  go_wp2_with (go_at_call 56; fail)
  refine Calls.mono (HLI.out _ HO.out) ?_
  rintro e W1 ⟨v, rfl, hR, hb⟩
  have HB1 := Aside0.mk hb
  obtain ⟨A, c, rfl⟩ := Kd.R_slice hR
  obtain ⟨_, hlc, hC⟩ := Kd.R_reads' hR
  obtain ⟨NB, hNB⟩ : ∃ NB, W1.heap.size = NB := ⟨_, rfl⟩
  have HC := Aside0.mk (fun W (h : Below NB W1 W) => Kd.C_below hC (by rw [hNB]; exact h))
  have HNB := Aside0.mk hNB
  have HN1 := Aside0.mk (show w.heap.size ≤ NB by rw [← hNB]; exact hb.size)
  clear hR hb hC hNB
  go_wp2
  obtain ⟨W2, hW2⟩ : ∃ W2, W1.alloc (Obj.cells #[Value.int IntKind.i64 (-1), Value.int IntKind.u8 0, Value.int IntKind.i64 0, Value.int IntKind.i64 (-1), Value.int IntKind.i64 0, Value.int IntKind.i64 0] 102) = W2 := ⟨_, rfl⟩
  have z2 : W2.heap.size = NB + 1 := by rw [← hW2, World.size_alloc, HNB.out]
  have b2 : Below NB W1 W2 := by rw [← hW2]; exact Below.alloc (Below.refl _ _) (by rw [HNB.out]; exact Nat.le_refl _) _
  have n2 := heap_alloc_new W1 (Obj.cells #[Value.int IntKind.i64 (-1), Value.int IntKind.u8 0, Value.int IntKind.i64 0, Value.int IntKind.i64 (-1), Value.int IntKind.i64 0, Value.int IntKind.i64 0] 102)
  rw [hW2, HNB.out] at n2
  obtain ⟨W3, hW3⟩ : ∃ W3, W2.alloc (Obj.cells #[Value.slice (some ⟨W1.heap.size, 0, none⟩) 1 1] 97) = W3 := ⟨_, rfl⟩
  have z3 : W3.heap.size = NB + 1 + 1 := by rw [← hW3, World.size_alloc, z2]
  have b3 : Below W2.heap.size W2 W3 := by rw [← hW3]; exact Below.alloc (Below.refl _ _) (Nat.le_refl _) _
  have n3 := heap_alloc_new W2 (Obj.cells #[Value.slice (some ⟨W1.heap.size, 0, none⟩) 1 1] 97)
  rw [hW3, HNB.out, z2] at n3
  obtain ⟨W4, hW4⟩ : ∃ W4, W3.alloc (Obj.cells #[Value.int IntKind.i64 0, Value.int IntKind.i64 0, Value.int IntKind.i64 ↑l.length] 110) = W4 := ⟨_, rfl⟩
  have z4 : W4.heap.size = NB + 1 + 1 + 1 := by rw [← hW4, World.size_alloc, z3]
  have b4 : Below W3.heap.size W3 W4 := by rw [← hW4]; exact Below.alloc (Below.refl _ _) (Nat.le_refl _) _
  have n4 := heap_alloc_new W3 (Obj.cells #[Value.int IntKind.i64 0, Value.int IntKind.i64 0, Value.int IntKind.i64 ↑l.length] 110)
  rw [hW4, z3] at n4
  have m2 := (b4.block NB (by omega)).trans ((b3.block NB (by omega)).trans n2)
  have m3 := (b4.block (NB + 1) (by omega)).trans n3
  have B4 : Below NB W1 W4 := b2.trans ((b3.mono (by omega)).trans (b4.mono (by omega)))
  have hS0 : stF.kd.R 102 W4 NB (fun _ => True) (.slice (some ⟨NB, 0, none⟩) (stK l 0).length 1) (stK l 0) := flat_R ⟨rfl, .inr ⟨NB, 1, _, rfl, Nat.le_refl _, m2, Nat.le_refl _, by decide, rfl, rfl⟩⟩ (fun _ _ => trivial)
  have hJ0 : jbF.kd.Q 110 W4 NB (fun _ => True) (.slice (some ⟨NB + 1 + 1, 0, none⟩) 1 1) (jsK l 0) := Kd.Q_of_R (flat_R ⟨rfl, .inr ⟨NB + 1 + 1, 1, _, rfl, by omega, n4, Nat.le_refl _, by decide, rfl, rfl⟩⟩ (fun _ _ => trivial))
  have HS0 := Aside0.mk hS0
  have HJ0 := Aside0.mk hJ0
  have HM3 := Aside0.mk (show W4.heap[NB + 1]? = some (.cells #[.slice (some ⟨NB, 0, none⟩) (stK l 0).length 1] 97 (0, 0)) from m3)
  have HB4 := Aside0.mk B4
  have hNB := HNB.out
  rw [hW2, hW3, hW4, hNB]
  clear hW2 hW3 hW4 z2 z3 z4 b2 b3 b4 n2 n3 n4 m2 m3 B4 hS0 hJ0 hNB
  go_loopg [5] (trK l) (fun kx v5 W => ∃ (k g cap : Nat), trK l ≤ k + kx ∧ k ≤ trK l ∧ Aside0 (W.heap[NB + 1]? = some (.cells #[.slice (some ⟨g, 0, none⟩) (stK l k).length cap] 97 (0, 0))) ∧
    Aside0 (stF.kd.R 102 W NB (fun _ => True) (.slice (some ⟨g, 0, none⟩) (stK l k).length cap) (stK l k)) ∧ Aside0 (jbF.kd.Q 110 W NB (fun _ => True) v5 (jsK l k)) ∧ Aside0 (Below NB W1 W))
  case atStart => exact ⟨0, NB, 1, by omega, by omega, HM3, HS0, HJ0, HB4⟩
  case round =>
    clear HS0 HJ0 HM3 HB4
    obtain ⟨k, g, cap, k1, k2, HP, HSt, HJ, HB⟩ := hrel
    obtain ⟨A5, c5, rfl, hc5⟩ := Kd.Q_slice HJ.out
    cases hn : (nodesAt l k)[k]? with
    | none =>
      have hle : (nodesAt l k).length ≤ k := by simpa using hn
      have hj := jsK_nil l k hle
      rw [hj]
      have hend := trS_end (srt_of HS.out.1) hle k2
      have hR := HSt.out
      have hP := HP.out
      rw [hend] at hR hP
      have HFin := Aside0.mk (show OB K97 wr (some ⟨NB + 1, 0, none⟩) (some (trS l)) from OB.mk (by
        obtain ⟨A, c, e, h1, h2⟩ := Kd.R_reads hR
        injection e with e1 e2 e3
        subst e1
        subst e3
        exact ⟨NB + 1, _, _, rfl, blk_cell hP 0, h1, h2⟩))
      have HBF := Aside0.mk (HB1.out.trans (HB.out.mono HN1.out))
      clear hj hend hR hP HP HSt HJ HB hle hn
      go_wp2
      go_ret
      exact ⟨_, rfl, HFin.out, HBF.out⟩
    | some n =>
      have ok := job_ok HS.out hn
      have hps := part_step l k n hn
      have hjl := ok.jsl
      have hlt := (List.getElem?_eq_some_iff.1 hn).1
      have hpart := trie_part NB wr (NB + 1) g cap A c (.slice A5 (jsK l k).length c5) l (stK l k) (jsK l k) k n.lo n.hi n.path.length 0 HP.out (Nat.le_succ _) (Nat.le_trans (by rw [HNB.out]; exact Nat.le_refl _) HB.out.size) HSt.out HJ.out (fun W h => HC.out W (HB.out.trans h)) hlc ok
      rw [hps] at hpart
      have HPART := Aside0.mk hpart
      have hkK : k < trK l := by have := nodes_few (srt_of HS.out.1) k; unfold trK; omega
      obtain ⟨N5, hN5⟩ : ∃ N5, (jsK l k).length = N5 := ⟨_, rfl⟩
      rw [hN5] at hjl HPART ⊢
      have l1 : decide ((0 : Int) < (N5 : Int)) = true := decide_eq_true (by omega)
      have l2 : decide (0 < N5) = true := decide_eq_true hjl
      clear ok hps hpart hn hN5 hlt hc5
      go_wp2_with (go_at_call 68; refine HPART.out.mono ?_; rintro e W5 ⟨v', g', cap', rfl, hp5, hs5, hq5, hb5⟩; obtain ⟨A6, c6, rfl, hc6⟩ := Kd.Q_slice hq5; have HP5 := Aside0.mk hp5; have HS5 := Aside0.mk hs5; have HQ5 := Aside0.mk hq5; have HB5 := Aside0.mk (HB.out.trans hb5); clear hp5 hs5 hq5 hb5)
      all_goals
        have hdr := Kd.Q_drop (k := 1) HQ5.out (by simp)
        go_roundg (trK l - (k + 1))
        case measure => omega
        case rel =>
          refine ⟨k + 1, g', cap', by omega, by omega, HP5, HS5, ⟨?_⟩, HB5⟩
          first
            | (rw [if_neg (by omega)] at hdr; exact hdr)
            | (have hc1 : c6 = 1 := by omega
               subst hc1
               rw [if_pos rfl] at hdr
               exact hdr)

end Go.Proofs.Ytbkcjeopcjghgaa.P

/- Links in memory: a trie and where its states fall back to; no condition. -/
namespace Go.Proofs.Ytbkcjeopcjghgaa.P
open Go Go.RowKit Go.Proofs.YtbkcjeopcjghgaaW.PrintWords

structure LinkD where
  t : TrieD
  fail : List Int
  deriving Inhabited
abbrev D91 := LinkD
def K91 : OBK LinkD where
  R := fun w a d => ∃ b Pt A c v, a = ⟨b, 0, none⟩ ∧ w.heap[b]? = some (.cells #[.pointer Pt, .slice A d.fail.length c, v] 91 (0, 0)) ∧ d.fail.length ≤ c ∧ OB K97 w Pt (some d.t) ∧ Kd.C (Kd.int .i64) w A d.fail.length d.fail
  below := by
    rintro w w1 a d h ⟨b, Pt, A, c, v, rfl, hb, hl, ht, hf⟩
    exact ⟨b, Pt, A, c, v, rfl, (h.block _ (Array.getElem?_eq_some_iff.1 hb).1).trans hb, hl, OB.below h ht, Kd.C_below hf h⟩
end Go.Proofs.Ytbkcjeopcjghgaa.P

/- Links: where a byte leads from a state (fall), and what is told of a state; for all links, nil too. -/
namespace Go.Proofs.Ytbkcjeopcjghgaa.P
open Go Go.RowKit Go.Proofs.YtbkcjeopcjghgaaW.PrintWords Go.Proofs.YtbkcjeopcjghgaaW.PrintLast Go.Proofs.Ytbkcjeopcjghgaa.Base
set_option linter.unusedVariables false
set_option linter.unusedSimpArgs false

/-- Where a byte leads from a state, or from those to which it falls back, in so many steps. -/
def fallF (d : TrieD) (FV : List Int) (c : Int) : Nat → Int → Option Int
  | 0, _ => none
  | n + 1, s => match trie_Trie_Next.f (some d) s c with
    | none => none
    | some (k, ok) => if ok = true then some k else if s = 0 then some 0 else if 0 ≤ s ∧ s < (FV.length : Int) then fallF d FV c n (rd FV s) else none
set_option maxHeartbeats 4000000 in
theorem link_fall {b n : Nat} {Pt A : Option Addr} {cp : Nat} {v : Value} (d : TrieD) (FV : List Int) (c : Int) (m : Nat) (s0 r : Int) (w : World) (hb : w.heap[b]? = some (.cells #[.pointer Pt, .slice A FV.length cp, v] 91 (0, 0))) (ho : OB K97 w Pt (some d)) (hF : Kd.C (Kd.int .i64) w A FV.length FV) (hr : fallF d FV c m s0 = some r) :
    Calls Try.prog 59 #[.pointer (some ⟨b, 0, none⟩), .int .i64 s0, .int .u8 c] w fun e w' => e = .returned (.int .i64 r) ∧ Drawn0 w w' := by
  have hNx := fun s k ok W g hh => trie_Trie_Next.calls Pt (some d) s c k ok W g hh
  have HNX := Aside0.mk hNx
  have HO := Aside0.mk ho
  have HF := Aside0.mk hF
  have HR := Aside0.mk hr
  have h0 : w.cell? ⟨b, 0, none⟩ = some (.pointer Pt) := blk_cell hb 0
  have h1 : w.cell? ⟨b, 1, none⟩ = some (.slice A FV.length cp) := blk_cell hb 1
  clear hNx ho hF hr hb
  go_enter Try.func59, Try.ntmps59
  go_wp2
  go_loopg [1] m (fun kx x W => ∃ (s : Int), x = .int .i64 s ∧ Aside0 (fallF d FV c kx s = some r) ∧ Aside0 (Drawn0 w W))
  case atStart => exact ⟨s0, rfl, HR, ⟨Drawn0.refl _⟩⟩
  case round =>
    obtain ⟨s, rfl, HS, HD⟩ := hrel
    cases gk with
    | zero =>
      exfalso
      have h := HS.out
      simp only [fallF] at h
      cases h
    | succ gk =>
    have h := HS.out
    simp only [fallF] at h
    cases hn : trie_Trie_Next.f (some d) s c with
    | none => rw [hn] at h; cases h
    | some q =>
    obtain ⟨k, ok⟩ := q
    rw [hn] at h
    simp only at h
    have hC := fun W g => HNX.out s k ok W g hn
    have HC := Aside0.mk hC
    obtain ⟨q0, rfl⟩ := HD.out
    have hd0 : (w.drewN q0).cell? ⟨b, 0, none⟩ = some (.pointer Pt) := h0
    have hd1 : (w.drewN q0).cell? ⟨b, 1, none⟩ = some (.slice A FV.length cp) := h1
    cases ok with
    | true =>
      rw [if_pos rfl] at h
      obtain rfl := Option.some.inj h
      clear hn hC HS h
      go_wp2_with (go_at_call 46; refine (HC.out _ (OB.drewN HO.out q0)).mono ?_; rintro e w1 ⟨rfl, ⟨q1, rfl⟩⟩)
      go_ret
      exact ⟨rfl, ⟨q0 + q1, by first | rfl | rw [World.drewN_drewN]⟩⟩
    | false =>
      rw [if_neg (by simp)] at h
      by_cases hs0 : s = 0
      · rw [if_pos hs0] at h
        obtain rfl := Option.some.inj h
        subst hs0
        clear hn hC HS h
        go_wp2_with (go_at_call 46; refine (HC.out _ (OB.drewN HO.out q0)).mono ?_; rintro e w1 ⟨rfl, ⟨q1, rfl⟩⟩)
        go_ret
        exact ⟨rfl, ⟨q0 + q1, by first | rfl | rw [World.drewN_drewN]⟩⟩
      · rw [if_neg hs0] at h
        by_cases hs1 : 0 ≤ s ∧ s < (FV.length : Int)
        rotate_left
        · rw [if_neg hs1] at h; cases h
        rw [if_pos hs1] at h
        obtain ⟨hlo, hhi⟩ := hs1
        obtain ⟨ad, rfl, hat⟩ := Kd.at_int HF.out s hlo hhi
        have HS1 := Aside0.mk h
        clear hn hC HS h
        obtain ⟨y, hy⟩ : ∃ y, rd FV s = y := ⟨_, rfl⟩
        rw [hy] at hat HS1
        go_wp2_with (go_at_call 46; refine (HC.out _ (OB.drewN HO.out q0)).mono ?_; rintro e w1 ⟨rfl, ⟨q1, rfl⟩⟩; have he0 : ((w.drewN q0).drewN q1).cell? ⟨b, 1, none⟩ = some (.slice (some ad) FV.length cp) := h1; have he1 : ((w.drewN q0).drewN q1).cell? (ad.add s.toNat) = some (.int .i64 y) := hat)
        go_roundg gk
        case measure => omega
        case rel => exact ⟨y, rfl, HS1, ⟨q0 + q1, by first | rfl | rw [World.drewN_drewN]⟩⟩
/-- Is there such a state? -/
def lkLen (a0 : Option LinkD) : Nat := match a0 with | none => 0 | some d => d.t.length
def link_Link_is.f (a0 : Option LinkD) (a1 : Int) : Option Bool := some (decide (0 ≤ a1 ∧ a1 < (lkLen a0 : Int)))
set_option maxHeartbeats 400000 in
theorem link_Link_is.calls (Pa0 : Option Addr) (a0 : Option LinkD) (a1 : Int) (r : Bool) (w : World) (ho : OB K91 w Pa0 a0) (h : link_Link_is.f a0 a1 = some r) :
    Calls Try.prog 61 #[.pointer Pa0, .int .i64 a1] w fun e w' => e = .returned (.bool r) ∧ Drawn0 w w' := by
  obtain rfl := Option.some.inj h
  clear h
  cases a0 with
  | none =>
    obtain rfl := OB.p_none ho
    clear ho
    have hd : decide (0 ≤ a1 ∧ a1 < ((lkLen none : Nat) : Int)) = false := decide_eq_false (by show ¬ (0 ≤ a1 ∧ a1 < ((0 : Nat) : Int)); omega)
    rw [hd]
    clear hd
    go_enter Try.func61, Try.ntmps61
    go_wp2
    go_ret
    exact ⟨rfl, Drawn0.refl _⟩
  | some d =>
    obtain ⟨a, rfl⟩ := OB.p_some ho
    obtain ⟨b, Pt, A, c, v, rfl, hb, hl, ht, hf⟩ := OB.at ho
    have h0 : w.cell? ⟨b, 0, none⟩ = some (.pointer Pt) := blk_cell hb 0
    have hL := fun W g => trie_Trie_Len.calls Pt (some d.t) (d.t.length : Int) W g rfl
    have HL := Aside0.mk hL
    have HO := Aside0.mk ht
    have hk : lkLen (some d) = d.t.length := rfl
    rw [hk]
    generalize d.t.length = n at HL
    clear ho hb hl ht hf hL hk
    by_cases h1 : 0 ≤ a1
    · have h1b : decide (0 ≤ a1) = true := decide_eq_true h1
      have e : decide (0 ≤ a1 ∧ a1 < (n : Int)) = decide (a1 < (n : Int)) := by simp [h1]
      rw [e]
      clear e h1
      go_enter Try.func61, Try.ntmps61
      go_wp2_with (go_at_call 42; refine (HL.out _ HO.out).mono ?_; rintro e w1 ⟨rfl, ⟨q, rfl⟩⟩)
      go_ret
      exact ⟨rfl, by repeat (first | exact Drawn0.refl _ | apply Drawn0.step)⟩
    · have h1b : decide (0 ≤ a1) = false := decide_eq_false h1
      have e : decide (0 ≤ a1 ∧ a1 < (n : Int)) = false := by simp [h1]
      rw [e]
      clear e h1
      go_enter Try.func61, Try.ntmps61
      go_wp2_with (go_at_call 42; refine (HL.out _ HO.out).mono ?_; rintro e w1 ⟨rfl, ⟨q, rfl⟩⟩)
      go_ret
      exact ⟨rfl, by repeat (first | exact Drawn0.refl _ | apply Drawn0.step)⟩
def link_Link_Trie.f (a0 : Option LinkD) : Option (Option TrieD) := some (a0.map LinkD.t)
set_option maxHeartbeats 400000 in
theorem link_Link_Trie.calls (Pa0 : Option Addr) (a0 : Option LinkD) (r : Option TrieD) (w : World) (ho : OB K91 w Pa0 a0) (h : link_Link_Trie.f a0 = some r) :
    Calls Try.prog 41 #[.pointer Pa0] w fun e w' => ∃ P, e = .returned (.pointer P) ∧ OB K97 w' P r ∧ Drawn0 w w' := by
  obtain rfl := Option.some.inj h
  clear h
  cases a0 with
  | none =>
    obtain rfl := OB.p_none ho
    clear ho
    go_enter Try.func41, Try.ntmps41
    go_wp2
    go_ret
    exact ⟨none, rfl, trivial, Drawn0.refl _⟩
  | some d =>
    obtain ⟨a, rfl⟩ := OB.p_some ho
    obtain ⟨b, Pt, A, c, v, rfl, hb, hl, ht, hf⟩ := OB.at ho
    have h0 : w.cell? ⟨b, 0, none⟩ = some (.pointer Pt) := blk_cell hb 0
    have HO := Aside0.mk ht
    clear ho hb hl ht hf
    go_enter Try.func41, Try.ntmps41
    go_wp2
    go_ret
    exact ⟨Pt, rfl, HO.out, Drawn0.refl _⟩
def link_Link_Fail.f (a0 : Option LinkD) (a1 : Int) : Option Int := if 0 ≤ a1 ∧ a1 < (lkLen a0 : Int) then (match a0 with | none => none | some d => if a1 < (d.fail.length : Int) then some (rd d.fail a1) else none) else some 0
set_option maxHeartbeats 400000 in
theorem link_Link_Fail.calls (Pa0 : Option Addr) (a0 : Option LinkD) (a1 : Int) (r : Int) (w : World) (ho : OB K91 w Pa0 a0) (h : link_Link_Fail.f a0 a1 = some r) :
    Calls Try.prog 44 #[.pointer Pa0, .int .i64 a1] w fun e w' => e = .returned (.int .i64 r) ∧ Drawn0 w w' := by
  unfold link_Link_Fail.f at h
  have hI := fun t W g hh => link_Link_is.calls Pa0 a0 a1 t W g hh
  unfold link_Link_is.f at hI
  by_cases hi : 0 ≤ a1 ∧ a1 < (lkLen a0 : Int)
  · rw [if_pos hi] at h
    rw [decide_eq_true hi] at hI
    cases a0 with
    | none => cases h
    | some d =>
      obtain ⟨a, rfl⟩ := OB.p_some ho
      obtain ⟨b, Pt, A, c, v, rfl, hb, hl, ht, hf⟩ := OB.at ho
      simp only at h
      by_cases hfl : a1 < (d.fail.length : Int)
      rotate_left
      · rw [if_neg hfl] at h; cases h
      rw [if_pos hfl] at h
      obtain rfl := Option.some.inj h
      have hlo := hi.1
      obtain ⟨ad, rfl, hat⟩ := Kd.at_int hf a1 hlo hfl
      have h1 : w.cell? ⟨b, 1, none⟩ = some (.slice (some ad) d.fail.length c) := blk_cell hb 1
      have HI := Aside0.mk (fun W g => hI true W g rfl)
      have HO := Aside0.mk ho
      generalize rd d.fail a1 = y at hat ⊢
      generalize d.fail.length = n at hfl h1
      clear ho hb hl ht hf h hi hI
      go_enter Try.func44, Try.ntmps44
      go_wp2_with (go_at_call 61; refine (HI.out _ HO.out).mono ?_; rintro e w1 ⟨rfl, ⟨q, rfl⟩⟩)
      go_ret
      exact ⟨rfl, by repeat (first | exact Drawn0.refl _ | apply Drawn0.step)⟩
  · rw [if_neg hi] at h
    obtain rfl := Option.some.inj h
    rw [decide_eq_false hi] at hI
    have HI := Aside0.mk (fun W g => hI false W g rfl)
    have HO := Aside0.mk ho
    clear ho h hi hI
    go_enter Try.func44, Try.ntmps44
    go_wp2_with (go_at_call 61; refine (HI.out _ HO.out).mono ?_; rintro e w1 ⟨rfl, ⟨q, rfl⟩⟩)
    go_ret
    exact ⟨rfl, by repeat (first | exact Drawn0.refl _ | apply Drawn0.step)⟩
end Go.Proofs.Ytbkcjeopcjghgaa.P

/- Proved here: what Go functions of this seat compute, or a law of it; no condition beyond the statement's own. Written for this claim by a program of this session (wip/myprint.py) over the kit's print.py. -/
namespace Go.Proofs.Ytbkcjeopcjghgaa.P
open Go.RowKit Go.Proofs.YtbkcjeopcjghgaaW.PrintWords Go.Proofs.YtbkcjeopcjghgaaW.PrintLast Go.Proofs.YtbkcjeopcjghgaaW.PrintMore
attribute [local go_sem] max2_int min2_int max_two min_two max_three min_three max_four min_four   -- for this text's walks alone
set_option linter.unusedVariables false
set_option linter.unusedSimpArgs false

/-! ### juratref09_Few: function 7 -/
def juratref09_Few.l0 : Nat → List ByteArray → Int → Int → Option (Bool)
  | 0, _, _, _ => none
  | k + 1, x0, x2, x7 => if x7 < (x0.length : Int) then (if 0 ≤ x7 then (if ((rdOf ByteArray.empty x0 x7).size : Int) > x2 then (some false) else (juratref09_Few.l0 k x0 x2 (wrap64 (x7 + 1)))) else (none)) else (some true)
def juratref09_Few.f (k : Nat) (l0 : List ByteArray) (a1 : Int) (a2 : Int) : Option (Bool) := if (l0.length : Int) > a1 then (some false) else (juratref09_Few.l0 k l0 a2 0)
theorem juratref09_Few.mono_l : ∀ k, (∀ y0 y1 y2, LeO (juratref09_Few.l0 k y0 y1 y2) (juratref09_Few.l0 (k + 1) y0 y1 y2))
  | 0 => fun _ _ _ r h => by simp [juratref09_Few.l0] at h
  | k + 1 => by
    have ih0 := juratref09_Few.mono_l k
    · intro y0 y1 y2
      unfold juratref09_Few.l0
      repeat' first
      | (with_reducible exact ih0 _ _ _)
      | (with_reducible exact LeO.refl _)
      | (with_reducible exact LeO.none _)
      | (with_reducible refine LeO.ite ?_ ?_)
      | (with_reducible refine LeO.bind ?_ (fun _ => ?_))
      | exact ih0 _ _ _
      | exact LeO.none _
      | refine LeO.ite ?_ ?_
      | refine LeO.bind ?_ (fun _ => ?_)
theorem juratref09_Few.mono : ∀ a0 a1 a2 k, LeO (juratref09_Few.f k a0 a1 a2) (juratref09_Few.f (k + 1) a0 a1 a2) := by
  intro a0 a1 a2 k
  have ih0 := juratref09_Few.mono_l k
  unfold juratref09_Few.f
  repeat' first
      | (with_reducible exact ih0 _ _ _)
      | (with_reducible exact LeO.refl _)
      | (with_reducible exact LeO.none _)
      | (with_reducible refine LeO.ite ?_ ?_)
      | (with_reducible refine LeO.bind ?_ (fun _ => ?_))
      | exact ih0 _ _ _
      | exact LeO.none _
      | refine LeO.ite ?_ ?_
      | refine LeO.bind ?_ (fun _ => ?_)
set_option maxHeartbeats 8000000 in
set_option maxRecDepth 100000 in
theorem juratref09_Few.calls (k : Nat) (A0 : Option Addr) (c0 : Nat) (l0 : List ByteArray) (a1 : Int) (a2 : Int) (r : Bool) (w : World) (hr0 : Kd.C Kd.string w A0 l0.length l0) (hc0 : l0.length ≤ c0) (h : juratref09_Few.f k l0 a1 a2 = some r) :
    Calls Try.prog 7 #[.slice A0 l0.length c0, .int .i64 a1, .int .i64 a2] w fun e w' => e = .returned (.bool r) ∧ Drawn0 w w' := by
  have HR0 := Aside0.mk hr0
  have HC0 := Aside0.mk hc0
  clear hr0 hc0
  have H : (if (l0.length : Int) > a1 then (some false) else (juratref09_Few.l0 k l0 a2 0)) = some r := h
  clear h
  by_cases c4 : (l0.length : Int) > a1
  · rw [if_pos c4] at H
    have c4b0 : decide (a1 < (l0.length : Int)) = true := decide_eq_true c4
    clear c4
    obtain rfl := Option.some.inj H
    go_enter Try.func7, Try.ntmps7
    go_wp2
    go_ret
    exact ⟨by first | rfl | (simp; done) | (simp [*]; done), by repeat (first | exact Drawn0.refl _ | apply Drawn0.step)⟩
  · rw [if_neg c4] at H
    have c4b0 : decide (a1 < (l0.length : Int)) = false := decide_eq_false c4
    clear c4
    have H' := Aside0.mk H
    clear H
    go_enter Try.func7, Try.ntmps7
    go_wp2
    go_loopg [7] k (fun kq v7 w' => ∃ (x7_1 : Int), v7 = .int .i64 x7_1 ∧ Aside0 (juratref09_Few.l0 kq l0 a2 x7_1 = some r) ∧ Aside0 (kq ≤ k) ∧ Drawn0 w w')
    case atStart => exact ⟨(0), (by first | rfl | exact isE_ _ | exact isE2_ _ | (simp; done) | (simp [*]; done)), H', ⟨Nat.le_refl _⟩, by repeat (first | exact Drawn0.refl _ | apply Drawn0.step)⟩
    case round =>
      clear H'
      try clear p2
      try clear c4
      try clear c4b0
      obtain ⟨x7_1, rfl, HA, HK1, ⟨m1, rfl⟩⟩ := hrel
      cases gk with
      | zero => exact absurd HA.out (by simp [juratref09_Few.l0])
      | succ k1 =>
        have H := HA.out
        clear HA
        simp only [juratref09_Few.l0] at H
        by_cases c5 : x7_1 < (l0.length : Int)
        · rw [if_pos c5] at H
          have c5b0 : decide (x7_1 < (l0.length : Int)) = true := decide_eq_true c5
          clear c5
          by_cases c6 : 0 ≤ x7_1
          · rw [if_pos c6] at H
            have c6b0 : decide (0 ≤ x7_1) = true := decide_eq_true c6
            clear c6
            by_cases c7 : ((rdOf ByteArray.empty l0 x7_1).size : Int) > a2
            · rw [if_pos c7] at H
              have c7b0 : decide (a2 < ((rdOf ByteArray.empty l0 x7_1).size : Int)) = true := decide_eq_true c7
              clear c7
              obtain rfl := Option.some.inj H
              have p101 : 0 ≤ (x7_1 : Int) := of_decide_eq_true (by first | (with_reducible assumption) | assumption)
              have q101 : x7_1 < (l0.length : Int) := of_decide_eq_true (by first | (with_reducible assumption) | assumption)
              obtain ⟨ad101, e101, hx101_0⟩ := Kd.at_string HR0.out x7_1 p101 q101
              cases e101
              replace p101 := eq_true p101
              replace q101 := eq_true q101
              go_wp2
              go_ret
              exact ⟨by first | rfl | (simp; done) | (simp [*]; done), by repeat (first | exact Drawn0.refl _ | apply Drawn0.step)⟩
            · rw [if_neg c7] at H
              have c7b0 : decide (a2 < ((rdOf ByteArray.empty l0 x7_1).size : Int)) = false := decide_eq_false c7
              clear c7
              have H' := Aside0.mk H
              clear H
              have p101 : 0 ≤ (x7_1 : Int) := of_decide_eq_true (by first | (with_reducible assumption) | assumption)
              have q101 : x7_1 < (l0.length : Int) := of_decide_eq_true (by first | (with_reducible assumption) | assumption)
              obtain ⟨ad101, e101, hx101_0⟩ := Kd.at_string HR0.out x7_1 p101 q101
              cases e101
              replace p101 := eq_true p101
              replace q101 := eq_true q101
              go_wp2
              go_roundg k1
              case measure => have := HK1.out; omega
              case rel => exact ⟨(wrap64 (x7_1 + 1)), (by first | rfl | exact isE_ _ | exact isE2_ _ | (simp; done) | (simp [*]; done)), H', ⟨by have := HK1.out; omega⟩, by repeat (first | exact Drawn0.refl _ | apply Drawn0.step)⟩
          · rw [if_neg c6] at H
            exact absurd H (by simp)
        · rw [if_neg c5] at H
          have c5b0 : decide (x7_1 < (l0.length : Int)) = false := decide_eq_false c5
          clear c5
          obtain rfl := Option.some.inj H
          go_wp2
          go_ret
          exact ⟨by first | rfl | (simp; done) | (simp [*]; done), by repeat (first | exact Drawn0.refl _ | apply Drawn0.step)⟩

end Go.Proofs.Ytbkcjeopcjghgaa.P

/- What layer 9 and its reference compute, as plain functions on lists of bytes; no condition beyond the sizes that stand in each statement. -/
namespace Go.Proofs.Ytbkcjeopcjghgaa.Base
open Go Go.RowKit Go.Proofs.YtbkcjeopcjghgaaW.PrintWords Go.Proofs.YtbkcjeopcjghgaaW.PrintMore Go.Proofs.Ytbkcjeopcjghgaa.P
set_option linter.unusedVariables false

/-! few texts, of few bytes -/
def fewB (l : List ByteArray) (b : Int) : Bool := l.all fun s => decide ((s.size : Int) ≤ b)
theorem fewB_iff {l : List ByteArray} {b : Int} : fewB l b = true ↔ ∀ s ∈ l, (s.size : Int) ≤ b := by unfold fewB; rw [List.all_eq_true]; simp
theorem few_l0 (l : List ByteArray) (b : Int) (hm : l.length ≤ 9223372036854775807) : ∀ (d i : Nat), i + d = l.length →
    Ev (fun k => juratref09_Few.l0 k l b (i : Int)) (fewB (l.drop i) b) := by
  intro d
  induction d with
  | zero =>
    intro i hi
    refine Ev.ret fun k => ?_
    simp only [juratref09_Few.l0]
    rw [if_neg (by omega), List.drop_of_length_le (by omega)]
    rfl
  | succ d ih =>
    intro i hi
    have hd := getD_drop l i ByteArray.empty (by omega)
    have e : rdOf ByteArray.empty l (i : Int) = l.getD i ByteArray.empty := rfl
    have e2 : fewB (l.drop i) b = (decide (((l.getD i ByteArray.empty).size : Int) ≤ b) && fewB (l.drop (i + 1)) b) := by rw [hd]; rfl
    rw [e2]
    by_cases h : ((l.getD i ByteArray.empty).size : Int) > b
    · refine Ev.ret fun k => ?_
      simp only [juratref09_Few.l0]
      rw [if_pos (by omega), if_pos (by omega), e, if_pos h, decide_eq_false (by omega)]
      rfl
    · rw [decide_eq_true (by omega), Bool.true_and]
      refine Ev.step (f := fun k => juratref09_Few.l0 k l b ((i + 1 : Nat) : Int)) (fun k => ?_) (ih (i + 1) (by omega))
      simp only [juratref09_Few.l0]
      rw [if_pos (by omega), if_pos (by omega), e, if_neg h, wrap_id (by omega) (by omega)]
      rfl
theorem few_ev (l : List ByteArray) (m b : Int) (hm : l.length ≤ 9223372036854775807) : Ev (fun k => juratref09_Few.f k l m b) (decide ((l.length : Int) ≤ m) && fewB l b) := by
  by_cases h : (l.length : Int) > m
  · rw [decide_eq_false (by omega)]
    refine Ev.const fun k => ?_
    unfold juratref09_Few.f
    rw [if_pos h]
    rfl
  · have h' := few_l0 l b hm l.length 0 (by omega)
    rw [List.drop_zero] at h'
    rw [decide_eq_true (by omega), Bool.true_and]
    refine Ev.congr (fun k => ?_) h'
    unfold juratref09_Few.f
    rw [if_neg h]
    rfl

/-! sorted: two lists in order with the same texts are one -/
theorem up_unique : ∀ {l m : List ByteArray}, l.Perm m → upB l → upB m → l = m
  | [], m, h, _, _ => by rw [List.nil_perm.1 h]
  | x :: l, [], h, _, _ => by have := h.length_eq; simp at this
  | x :: l, y :: m, h, hl, hm => by
    obtain ⟨hl1, hl2⟩ := List.pairwise_cons.1 hl
    obtain ⟨hm1, hm2⟩ := List.pairwise_cons.1 hm
    have e : x = y := by
      rcases bl_tri (LL x) (LL y) with h' | h' | h'
      · exact LL_inj h'
      · rcases List.mem_cons.1 (h.mem_iff.1 List.mem_cons_self : x ∈ y :: m) with rfl | hx
        · rfl
        · rw [hm1 x hx] at h'; cases h'
      · rcases List.mem_cons.1 (h.mem_iff.2 List.mem_cons_self : y ∈ x :: l) with rfl | hy
        · rfl
        · rw [hl1 y hy] at h'; cases h'
    subst e
    rw [up_unique (List.Perm.cons_inv h) hl2 hm2]
theorem sortB_up (l : List ByteArray) : upB (sortB l) := by
  have h := List.pairwise_mergeSort (le := fun x y : ByteArray => !Op.bytesLess (LL y) (LL x)) (fun a b c h1 h2 => by
      simp only [Bool.not_eq_true'] at h1 h2 ⊢
      exact bl_ntrans h2 h1) (fun a b => by
      rcases bl_tri (LL a) (LL b) with h | h | h
      · rw [h, bl_irrefl]; rfl
      · rw [bl_asym h]; rfl
      · rw [bl_asym h]; simp) l
  exact h.imp (fun h => by simpa using h)
theorem sortB_perm (l : List ByteArray) : (sortB l).Perm l := List.mergeSort_perm _ _
theorem sortB_of {l m : List ByteArray} (h : m.Perm l) (hu : upB m) : m = sortB l := up_unique (h.trans (sortB_perm l).symm) hu (sortB_up l)
theorem sortB_sized {l : List ByteArray} (h : sizedB l) : sizedB (sortB l) := ⟨by rw [sortB_length]; exact h.1, fun s hs => h.2 s ((sortB_perm l).mem_iff.1 hs)⟩

theorem take_snoc {α : Type} (l : List α) (i : Nat) (z : α) (h : i < l.length) : l.take (i + 1) = l.take i ++ [l.getD i z] := by
  rw [List.take_succ_eq_append_getElem h, List.getD_eq_getElem?_getD, List.getElem?_eq_getElem h]; rfl

end Go.Proofs.Ytbkcjeopcjghgaa.Base

/- What layer 9's reference computes by sorting and looking for what is there twice, as plain functions on lists of texts; no condition beyond the sizes that stand in each statement. -/
namespace Go.Proofs.Ytbkcjeopcjghgaa.Base
open Go Go.RowKit Go.Proofs.YtbkcjeopcjghgaaW.PrintWords Go.Proofs.YtbkcjeopcjghgaaW.PrintMore Go.Proofs.Ytbkcjeopcjghgaa.P
set_option linter.unusedVariables false

/-! sorted by insertion -/
theorem rsorted_put (l out : List ByteArray) (i j : Nat) (hi : i < l.length) (hl : l.length ≤ 8796093022200) (ho : out.length = i) (hj : j ≤ out.length) (hup : upB out)
    (hbelow : ∀ t, t < j → Op.bytesLess (LL (l.getD i ByteArray.empty)) (LL (out.getD t ByteArray.empty)) = false) (habove : ∀ t, j ≤ t → t < out.length → Op.bytesLess (LL (l.getD i ByteArray.empty)) (LL (out.getD t ByteArray.empty)) = true) :
    upB (out.take j ++ l.getD i ByteArray.empty :: out.drop j) ∧ (out.take j ++ l.getD i ByteArray.empty :: out.drop j).Perm (l.getD i ByteArray.empty :: out) := by
  refine ⟨?_, ?_⟩
  · have h1 : ∀ x ∈ out.take j, Op.bytesLess (LL (l.getD i ByteArray.empty)) (LL x) = false := fun x hx => by
      obtain ⟨t, ht, rfl⟩ := List.mem_iff_getElem.1 hx
      rw [List.length_take] at ht
      have := hbelow t (by omega)
      rw [List.getD_eq_getElem?_getD (l := out), List.getElem?_eq_getElem (by omega : t < out.length)] at this
      rw [List.getElem_take]
      exact this
    have h2 : ∀ x ∈ out.drop j, Op.bytesLess (LL (l.getD i ByteArray.empty)) (LL x) = true := fun x hx => by
      obtain ⟨t, ht, rfl⟩ := List.mem_iff_getElem.1 hx
      rw [List.length_drop] at ht
      have := habove (j + t) (by omega) (by omega)
      rw [List.getD_eq_getElem?_getD (l := out), List.getElem?_eq_getElem (by omega : j + t < out.length)] at this
      rw [List.getElem_drop]
      exact this
    have hsplit : (out.take j ++ out.drop j).Pairwise (fun x y => Op.bytesLess (LL y) (LL x) = false) := by rw [List.take_append_drop]; exact hup
    obtain ⟨p1, p2, p3⟩ := List.pairwise_append.1 hsplit
    refine List.pairwise_append.2 ⟨p1, List.pairwise_cons.2 ⟨fun y hy => bl_asym (h2 y hy), p2⟩, fun x hx y hy => ?_⟩
    rcases List.mem_cons.1 hy with rfl | hy
    · exact h1 x hx
    · exact p3 x hx y hy
  · refine List.perm_middle.trans ?_
    rw [List.take_append_drop]
theorem rsorted_both (l : List ByteArray) (hl : l.length ≤ 8796093022200) : ∀ (d i : Nat), i + d = l.length → ∀ out : List ByteArray, out.Perm (l.take i) → upB out →
    Ev (fun k => juratref09_Sorted.l0 k l out (i : Int)) (sortB l) := by
  intro d
  induction d with
  | zero =>
    intro i hi out hp hu
    rw [List.take_of_length_le (by omega)] at hp
    refine Ev.ret fun k => ?_
    simp only [juratref09_Sorted.l0]
    rw [if_neg (by omega), sortB_of hp hu]
  | succ d ih =>
    intro i hi out hp hu
    have ho : out.length = i := by rw [hp.length_eq, List.length_take]; omega
    have hx : rdOf ByteArray.empty l (i : Int) = l.getD i ByteArray.empty := rfl
    have fin : ∀ j, j ≤ out.length → (∀ t, t < j → Op.bytesLess (LL (l.getD i ByteArray.empty)) (LL (out.getD t ByteArray.empty)) = false) → (∀ t, j ≤ t → t < out.length → Op.bytesLess (LL (l.getD i ByteArray.empty)) (LL (out.getD t ByteArray.empty)) = true) →
        Ev (fun k => juratref09_Sorted.l0 k l ((([] ++ out.take j) ++ [l.getD i ByteArray.empty]) ++ out.drop j) ((i + 1 : Nat) : Int)) (sortB l) := fun j hj hb ha => by
      obtain ⟨u, p⟩ := rsorted_put l out i j (by omega) hl ho hj hu hb ha
      rw [List.nil_append, List.append_assoc, List.singleton_append]
      refine ih (i + 1) (by omega) _ (p.trans ?_) u
      rw [take_snoc l i ByteArray.empty (by omega)]
      exact (List.Perm.cons _ hp).trans (List.perm_append_singleton _ _).symm
    have inner : ∀ j, j ≤ out.length → (∀ t, j ≤ t → t < out.length → Op.bytesLess (LL (l.getD i ByteArray.empty)) (LL (out.getD t ByteArray.empty)) = true) →
        Ev (fun k => juratref09_Sorted.l1 k l out (i : Int) (j : Int)) (sortB l) := by
      intro j
      induction j with
      | zero =>
        intro hj ha
        refine Ev.step (f := fun k => juratref09_Sorted.l0 k l ((([] ++ out.take 0) ++ [l.getD i ByteArray.empty]) ++ out.drop 0) ((i + 1 : Nat) : Int)) (fun k => ?_) (fin 0 hj (fun t ht => absurd ht (Nat.not_lt_zero _)) ha)
        simp only [juratref09_Sorted.l1, Option.bind_some]
        rw [if_neg (by omega), if_pos (by omega), if_pos (by omega), if_pos (by simp), if_pos (by omega), if_pos (by omega), if_pos (by simp), hx, Int.toNat_natCast, if_pos (by simp; omega), wrap_id (by omega) (by omega)]
        rfl
      | succ j ihj =>
        intro hj ha
        have hy : rdOf ByteArray.empty out (((j + 1 : Nat) : Int) - 1) = out.getD j ByteArray.empty := by unfold rdOf; rw [show (((j + 1 : Nat) : Int) - 1).toNat = j by omega]
        cases hlt : Op.bytesLess (LL (l.getD i ByteArray.empty)) (LL (out.getD j ByteArray.empty)) with
        | true =>
          refine Ev.step (f := fun k => juratref09_Sorted.l1 k l out (i : Int) (j : Int)) (fun k => ?_) (ihj (by omega) (fun t h1 h2 => by
            by_cases he : t = j
            · subst he; exact hlt
            · exact ha t (by omega) h2))
          simp only [juratref09_Sorted.l1, Option.bind_some]
          rw [wrap_id (x := ((j + 1 : Nat) : Int) - 1) (by omega) (by omega), if_pos (by omega), if_pos (by omega), if_pos (by omega), if_pos (by omega), if_pos (by omega), hx, hy, if_pos (by rw [ByteArray.toList_eq, ByteArray.toList_eq]; exact hlt), show ((j + 1 : Nat) : Int) - 1 = (j : Int) by omega]
        | false =>
          refine Ev.step (f := fun k => juratref09_Sorted.l0 k l ((([] ++ out.take (j + 1)) ++ [l.getD i ByteArray.empty]) ++ out.drop (j + 1)) ((i + 1 : Nat) : Int)) (fun k => ?_) (fin (j + 1) hj (fun t ht => by
            by_cases he : t = j
            · subst he; exact hlt
            · have hp := List.pairwise_iff_getElem.1 hu t j (by omega) (by omega) (by omega)
              rw [List.getD_eq_getElem?_getD (l := out), List.getElem?_eq_getElem (by omega : j < out.length)] at hlt
              rw [List.getD_eq_getElem?_getD (l := out), List.getElem?_eq_getElem (by omega : t < out.length)]
              exact bl_ntrans hlt hp) ha)
          simp only [juratref09_Sorted.l1, Option.bind_some]
          rw [wrap_id (x := ((j + 1 : Nat) : Int) - 1) (by omega) (by omega), if_pos (by omega), if_pos (by omega), if_pos (by omega), if_pos (by omega), if_pos (by omega), hx, hy, if_neg (by rw [ByteArray.toList_eq, ByteArray.toList_eq, hlt]; simp), if_pos (by omega), if_pos (by omega), Int.toNat_natCast,
            if_pos (by simp; omega), if_pos (by simp; omega), if_pos (by simp; omega), wrap_id (by omega) (by omega)]
          rfl
    refine Ev.step (f := fun k => juratref09_Sorted.l1 k l out (i : Int) (out.length : Int)) (fun k => ?_) (inner out.length (Nat.le_refl _) (fun t h1 h2 => by omega))
    simp only [juratref09_Sorted.l0]
    rw [if_pos (by omega)]
theorem rsorted_ev (l : List ByteArray) (hl : l.length ≤ 8796093022200) : Ev (fun k => juratref09_Sorted.f k l) (sortB l) :=
  rsorted_both l hl l.length 0 (by omega) [] (by rw [List.take_zero]) List.Pairwise.nil

/-! there already -/
theorem inB_take (s : ByteArray) (l : List ByteArray) (i : Nat) : inB s (l.take i) = true ↔ ∃ t, t < i ∧ t < l.length ∧ l.getD t ByteArray.empty = s := by
  rw [inB_iff, List.mem_iff_getElem]
  constructor
  · rintro ⟨t, ht, rfl⟩
    rw [List.length_take] at ht
    refine ⟨t, by omega, by omega, ?_⟩
    rw [List.getD_eq_getElem?_getD, List.getElem?_eq_getElem (by omega : t < l.length), List.getElem_take]; rfl
  · rintro ⟨t, h1, h2, rfl⟩
    refine ⟨t, by rw [List.length_take]; omega, ?_⟩
    rw [List.getD_eq_getElem?_getD, List.getElem?_eq_getElem (by omega : t < l.length), List.getElem_take]; rfl
theorem rtwice_both (l : List ByteArray) (hl : l.length ≤ 9223372036854775806) : ∀ (d i : Nat), i + d = l.length →
    Ev (fun k => juratref09_Twice.l0 k l (i : Int)) (twB (l.take i) (l.drop i) i) := by
  intro d
  induction d with
  | zero =>
    intro i hi
    refine Ev.ret fun k => ?_
    simp only [juratref09_Twice.l0]
    rw [if_neg (by omega), List.drop_of_length_le (by omega)]
    rfl
  | succ d ih =>
    intro i hi
    have ih' := ih (i + 1) (by omega)
    rw [take_snoc l i ByteArray.empty (by omega)] at ih'
    rw [getD_drop l i ByteArray.empty (by omega)]
    have inner : ∀ e j, j + e = i → (∀ t, t < j → ¬ l.getD t ByteArray.empty = l.getD i ByteArray.empty) →
        Ev (fun k => juratref09_Twice.l1 k l (i : Int) (j : Int)) (twB (l.take i) (l.getD i ByteArray.empty :: l.drop (i + 1)) i) := by
      intro e
      induction e with
      | zero =>
        intro j hj hn
        have hin : ¬ inB (l.getD i ByteArray.empty) (l.take i) = true := fun h => by
          obtain ⟨t, h1, h2, h3⟩ := (inB_take _ _ _).1 h
          exact hn t (by omega) h3
        simp only [twB]
        rw [if_neg hin]
        refine Ev.step (f := fun k => juratref09_Twice.l0 k l ((i + 1 : Nat) : Int)) (fun k => ?_) ih'
        simp only [juratref09_Twice.l1]
        rw [if_neg (by omega), wrap_id (by omega) (by omega)]
        rfl
      | succ e ihe =>
        intro j hj hn
        have e1 : rdOf ByteArray.empty l (i : Int) = l.getD i ByteArray.empty := rfl
        have e2 : rdOf ByteArray.empty l (j : Int) = l.getD j ByteArray.empty := rfl
        by_cases h : l.getD j ByteArray.empty = l.getD i ByteArray.empty
        · have hin : inB (l.getD i ByteArray.empty) (l.take i) = true := (inB_take _ _ _).2 ⟨j, by omega, by omega, h⟩
          simp only [twB]
          rw [if_pos hin]
          refine Ev.ret fun k => ?_
          simp only [juratref09_Twice.l1]
          rw [if_pos (by omega), if_pos (by omega), if_pos (by omega), if_pos (by omega), if_pos (by omega), e1, e2, if_pos (toList_iff.2 h)]
        · refine Ev.step (f := fun k => juratref09_Twice.l1 k l (i : Int) ((j + 1 : Nat) : Int)) (fun k => ?_) (ihe (j + 1) (by omega) (fun t ht => by
            by_cases he : t = j
            · subst he; exact h
            · exact hn t (by omega)))
          simp only [juratref09_Twice.l1]
          rw [if_pos (by omega), if_pos (by omega), if_pos (by omega), if_pos (by omega), if_pos (by omega), e1, e2, if_neg (fun x => h (toList_iff.1 x)), wrap_id (by omega) (by omega)]
          rfl
    refine Ev.step (f := fun k => juratref09_Twice.l1 k l (i : Int) ((0 : Nat) : Int)) (fun k => ?_) (inner i 0 (by omega) (fun t ht => absurd ht (Nat.not_lt_zero _)))
    simp only [juratref09_Twice.l0]
    rw [if_pos (by omega)]
    rfl
theorem rtwice_ev (l : List ByteArray) (hl : l.length ≤ 9223372036854775806) : Ev (fun k => juratref09_Twice.f k l) (twB [] l 0) := by
  have h := rtwice_both l hl l.length 0 (by omega)
  rw [List.take_zero, List.drop_zero] at h
  exact h

end Go.Proofs.Ytbkcjeopcjghgaa.Base

/- What makes texts a set, and their sizes, as plain functions; no condition beyond those in each statement. -/
namespace Go.Proofs.Ytbkcjeopcjghgaa.P
open Go Go.RowKit Go.Proofs.YtbkcjeopcjghgaaW.PrintWords Go.Proofs.YtbkcjeopcjghgaaW.PrintMore Go.Proofs.Ytbkcjeopcjghgaa.Base
set_option linter.unusedVariables false

/-- What is wrong with one. -/
def chkB (s : ByteArray) : Int := if s.size = 0 then 7 else if s.size > 65535 then 5 else 0
/-- What is wrong with the first one that is not right. -/
def badB : List ByteArray → Int
  | [] => 0
  | s :: l => if chkB s = 0 then badB l else chkB s
theorem badB_size : ∀ (l : List ByteArray), badB l = 0 → ∀ s ∈ l, s.size ≠ 0 ∧ s.size ≤ 65535
  | [], _ => by simp
  | s :: l, h => by
    simp only [badB] at h
    by_cases hc : chkB s = 0
    · rw [if_pos hc] at h
      intro x hx
      rcases List.mem_cons.1 hx with rfl | hx
      · unfold chkB at hc
        by_cases h1 : x.size = 0
        · rw [if_pos h1] at hc; omega
        · rw [if_neg h1] at hc
          by_cases h2 : x.size > 65535
          · rw [if_pos h2] at hc; omega
          · exact ⟨h1, by omega⟩
      · exact badB_size l h x hx
    · rw [if_neg hc] at h; exact absurd h hc
def leastB (a : Nat) (l : List ByteArray) : Nat := l.foldl (fun n s => min n s.size) a
def mostB (a : Nat) (l : List ByteArray) : Nat := l.foldl (fun n s => max n s.size) a
def totalB (a : Nat) (l : List ByteArray) : Nat := l.foldl (fun n s => n + s.size) a
theorem least_le (l : List ByteArray) : ∀ a, leastB a l ≤ a := by
  induction l with
  | nil => intro a; exact Nat.le_refl _
  | cons s l ih => intro a; exact Nat.le_trans (ih _) (Nat.min_le_left _ _)

theorem total_bound : ∀ (l : List ByteArray) (a : Nat), (∀ s ∈ l, s.size ≤ 65535) → totalB a l ≤ a + l.length * 65535
  | [], a, _ => by simp [totalB]
  | s :: l, a, h => by
    have h1 := total_bound l (a + s.size) (fun x hx => h x (List.mem_cons_of_mem _ hx))
    have h2 := h s List.mem_cons_self
    have : totalB a (s :: l) = totalB (a + s.size) l := rfl
    rw [this, List.length_cons, Nat.succ_mul]
    omega
theorem badB_take : ∀ (l : List ByteArray) (k : Nat), badB l = 0 → badB (l.drop k) = 0
  | l, 0, h => h
  | [], k + 1, h => rfl
  | s :: l, k + 1, h => by
    simp only [badB] at h
    by_cases hc : chkB s = 0
    · rw [if_pos hc] at h; exact badB_take l k h
    · rw [if_neg hc] at h; exact absurd h hc


end Go.Proofs.Ytbkcjeopcjghgaa.P

/- What layer 10's reference makes of texts, as plain functions; no condition beyond the sizes that stand in each statement. -/
namespace Go.Proofs.Ytbkcjeopcjghgaa.Base
open Go Go.RowKit Go.Proofs.YtbkcjeopcjghgaaW.PrintWords Go.Proofs.YtbkcjeopcjghgaaW.PrintMore Go.Proofs.Ytbkcjeopcjghgaa.P
set_option linter.unusedVariables false

/-- The patterns in order, or the error. -/
def newB (l : List ByteArray) : List ByteArray × Int :=
  if l.length = 0 then ([], 14) else if l.length > 65535 then ([], 6) else if badB l ≠ 0 then ([], badB l) else if totalB 0 l > 16777216 then ([], 13) else if twB [] l 0 ≥ 0 then ([], 8) else (sortB l, 0)
theorem rnew_l0 (l : List ByteArray) (hl : l.length ≤ 65535) : ∀ (d i n : Nat), i + d = l.length → n ≤ i * 65535 →
    Ev (fun k => juratref10_New.l0 k l (n : Int) (i : Int)) (if badB (l.drop i) ≠ 0 then ([], badB (l.drop i)) else if totalB n (l.drop i) > 16777216 then ([], 13) else if twB [] l 0 ≥ 0 then ([], 8) else (sortB l, 0)) := by
  intro d
  induction d with
  | zero =>
    intro i n hi hn
    rw [List.drop_of_length_le (by omega), if_neg (by simp [badB])]
    have hn' : totalB n [] = n := rfl
    rw [hn']
    by_cases h1 : n > 16777216
    · rw [if_pos h1]
      refine Ev.ret fun k => ?_
      simp only [juratref10_New.l0]
      rw [if_neg (by omega), if_pos (by omega)]
    · rw [if_neg h1]
      refine Ev.step (f := fun k => (juratref09_Twice.f k l).bind fun t => if t ≥ 0 then some ([], 8) else (juratref09_Sorted.f k l).bind fun s => some (s, 0)) (fun k => ?_) ?_
      · simp only [juratref10_New.l0]
        rw [if_neg (by omega), if_neg (by omega)]
      refine Ev.bind (rtwice_ev l (by omega)) ?_
      by_cases h2 : twB [] l 0 ≥ 0
      · rw [if_pos h2]
        exact Ev.congr (fun k => if_pos h2) (Ev.now _)
      · rw [if_neg h2]
        exact Ev.congr (fun k => if_neg h2) (Ev.bind (rsorted_ev l (by omega)) (Ev.now _))
  | succ d ih =>
    intro i n hi hn
    have hd := getD_drop l i ByteArray.empty (by omega)
    have e : rdOf ByteArray.empty l (i : Int) = l.getD i ByteArray.empty := rfl
    rw [hd]
    generalize l.getD i ByteArray.empty = s at e
    by_cases h0 : s.size = 0
    · have hc : chkB s = 7 := by unfold chkB; rw [if_pos h0]
      have hb : badB (s :: l.drop (i + 1)) = chkB s := by show (if chkB s = 0 then _ else chkB s) = chkB s; rw [if_neg (by omega)]
      rw [hb, hc, if_pos (by omega)]
      refine Ev.ret fun k => ?_
      simp only [juratref10_New.l0]
      rw [if_pos (by omega), if_pos (by omega), e, if_pos (toList_nil.2 h0)]
    by_cases h1 : s.size > 65535
    · have hc : chkB s = 5 := by unfold chkB; rw [if_neg h0, if_pos h1]
      have hb : badB (s :: l.drop (i + 1)) = chkB s := by show (if chkB s = 0 then _ else chkB s) = chkB s; rw [if_neg (by omega)]
      rw [hb, hc, if_pos (by omega)]
      refine Ev.ret fun k => ?_
      simp only [juratref10_New.l0]
      rw [if_pos (by omega), if_pos (by omega), e, if_neg (fun x => h0 (toList_nil.1 x)), if_pos (by omega)]
    have hc : chkB s = 0 := by unfold chkB; rw [if_neg h0, if_neg h1]
    have hb : badB (s :: l.drop (i + 1)) = badB (l.drop (i + 1)) := if_pos hc
    rw [hb]
    have ht : totalB n (s :: l.drop (i + 1)) = totalB (n + s.size) (l.drop (i + 1)) := rfl
    rw [ht]
    refine Ev.step (f := fun k => juratref10_New.l0 k l ((n + s.size : Nat) : Int) ((i + 1 : Nat) : Int)) (fun k => ?_) (ih (i + 1) (n + s.size) (by omega) (by omega))
    simp only [juratref10_New.l0]
    rw [if_pos (by omega), if_pos (by omega), e, if_neg (fun x => h0 (toList_nil.1 x)), if_neg (by omega), wrap_id (by omega) (by omega), wrap_id (by omega) (by omega)]
    rfl
theorem rnew_ev (l : List ByteArray) : Ev (fun k => juratref10_New.f k l) (newB l) := by
  unfold newB
  by_cases h0 : l.length = 0
  · rw [if_pos h0]
    refine Ev.const fun k => ?_
    unfold juratref10_New.f
    rw [if_pos (by omega)]
  rw [if_neg h0]
  by_cases h1 : l.length > 65535
  · rw [if_pos h1]
    refine Ev.const fun k => ?_
    unfold juratref10_New.f
    rw [if_neg (by omega), if_pos (by omega)]
  rw [if_neg h1]
  have h := rnew_l0 l (by omega) l.length 0 0 (by omega) (by omega)
  rw [List.drop_zero] at h
  refine Ev.congr (fun k => ?_) h
  unfold juratref10_New.f
  rw [if_neg (by omega), if_neg (by omega)]
  rfl

/-- What the document tells of a list. -/
def minB (l : List ByteArray) : Nat := leastB (l.getD 0 ByteArray.empty).size l

end Go.Proofs.Ytbkcjeopcjghgaa.Base

/- The set of patterns, or why there is none: the walk. The checks go over the texts; the object is written round by round; then it holds the texts in order. -/
namespace Go.Proofs.Ytbkcjeopcjghgaa.P
open Go Go.RowKit Go.Proofs.YtbkcjeopcjghgaaW.PrintWords Go.Proofs.YtbkcjeopcjghgaaW.PrintMore Go.Proofs.Ytbkcjeopcjghgaa.Base
attribute [local go_sem] max2_int min2_int max_two min_two
set_option linter.unusedVariables false
set_option linter.unusedSimpArgs false

theorem check_is (s : ByteArray) : pats_check.f s = some (chkB s) := by
  unfold pats_check.f chkB
  by_cases h : s.size = 0
  · rw [if_pos (toList_nil.2 h), if_pos h]
  · rw [if_neg (fun e => h (toList_nil.1 e)), if_neg h]
    by_cases h2 : s.size > 65535
    · rw [if_pos (by omega), if_pos h2]
    · rw [if_neg (by omega), if_neg h2]
def pats_New.f (l0 : List ByteArray) : Option (Option SetD × Int) :=
  if l0.length = 0 then some (none, 14) else if l0.length > 65535 then some (none, 6) else
  if badB l0 ≠ 0 then some (none, badB l0) else
  if totalB 0 l0 > 16777216 then some (none, 13) else
  if twB [] l0 0 ≥ 0 then some (none, 8) else
  some (some ⟨sortB l0, (leastB (l0.getD 0 ByteArray.empty).size l0 : Nat), (mostB 0 l0 : Nat), (totalB 0 l0 : Nat)⟩, 0)

set_option maxHeartbeats 8000000 in
set_option maxRecDepth 100000 in
theorem pats_New.calls (A0 : Option Addr) (c0 : Nat) (l0 : List ByteArray) (r1 : Option SetD) (r2 : Int) (w : World) (hr0 : Kd.C Kd.string w A0 l0.length l0) (hc0 : l0.length ≤ c0) (h : pats_New.f l0 = some (r1, r2)) :
    Calls Try.prog 9 #[.slice A0 l0.length c0] w fun e w' => ∃ P0_ : Option Addr, e = .returned (.tuple #[.pointer P0_, .int .i64 r2]) ∧ OB K57 w' P0_ r1 ∧ Below w.heap.size w w' := by
  unfold pats_New.f at h
  by_cases g0 : l0.length = 0
  · rw [if_pos g0] at h
    obtain ⟨rfl, rfl⟩ := Prod.mk.inj (Option.some.inj h)
    rw [g0]
    clear h hr0 hc0 g0
    go_enter Try.func9, Try.ntmps9
    go_wp2
    go_ret2
    exact ⟨none, rfl, trivial, Below.refl _ _⟩
  rw [if_neg g0] at h
  by_cases g1 : l0.length > 65535
  · rw [if_pos g1] at h
    obtain ⟨rfl, rfl⟩ := Prod.mk.inj (Option.some.inj h)
    have c1 : ((l0.length : Int) == 0) = false := by rw [beq_eq_false_iff_ne]; omega
    have c2 : decide (65535 < (l0.length : Int)) = true := decide_eq_true (by omega)
    clear h hr0 hc0
    go_enter Try.func9, Try.ntmps9
    go_wp2
    go_ret2
    exact ⟨none, rfl, trivial, Below.refl _ _⟩
  rw [if_neg g1] at h
  have c1 : ((l0.length : Int) == 0) = false := by rw [beq_eq_false_iff_ne]; omega
  have c2 : decide (65535 < (l0.length : Int)) = false := decide_eq_false (by omega)
  have HC := Aside0.mk hr0
  have HC0 := Aside0.mk hc0
  have H := Aside0.mk h
  have g0' : 0 < l0.length := by omega
  have hle : l0.length ≤ 65535 := by omega
  clear h hr0 hc0 g0 g1
  have cell : ∀ (W : World) (k : Nat), Below w.heap.size w W → k < l0.length → ∃ ad, A0 = some ad ∧ W.cell? (ad.add k) = some (.string (l0.getD k ByteArray.empty)) := fun W k hb hk => by
    obtain ⟨ad, e, hc⟩ := Kd.at_string HC.out (k : Int) (by omega) (by omega)
    have hc' : w.cell? (ad.add k) = some (.string (l0.getD k ByteArray.empty)) := hc
    exact ⟨ad, e, (hb.cell (World.block_lt_of_cell? w _ hc')).trans hc'⟩
  have CELL := Aside0.mk cell
  clear cell
  go_enter Try.func9, Try.ntmps9
  go_wp2
  go_loopg [20] l0.length (fun kx i wr => ∃ k : Nat, i = .int .i64 k ∧ k ≤ l0.length ∧ l0.length - k ≤ kx ∧ Drawn0 w wr ∧ Aside0 (badB (l0.drop k) = badB l0))
  case atStart => exact ⟨0, rfl, Nat.zero_le _, by omega, Drawn0.refl _, ⟨rfl⟩⟩
  case round =>
    obtain ⟨k, rfl, hk, hkx, ⟨nq, rfl⟩, HBad⟩ := hrel
    by_cases hlt : k < l0.length
    · obtain ⟨ad, rfl, hx⟩ := CELL.out (w.drewN nq) k (pw_below_drewN (Below.refl _ _) _) hlt
      have hb := HBad.out
      rw [getD_drop l0 k ByteArray.empty hlt] at hb
      generalize l0.getD k ByteArray.empty = s at hx hb
      have hchk := fun W => pats_check.calls s (chkB s) W (check_is s)
      simp only [badB] at hb
      by_cases hz : chkB s = 0
      · rw [if_pos hz] at hb
        rw [hz] at hchk
        have HB2 := Aside0.mk hb
        clear hb hz HBad
        go_wp2_with (go_at_call 33; refine (hchk _).mono ?_; rintro e w' ⟨rfl, ⟨nd, rfl⟩⟩)
        go_roundg (l0.length - (k + 1))
        case measure => omega
        case rel => exact ⟨k + 1, by go_num, by omega, Nat.le_refl _, by repeat (first | exact Drawn0.refl _ | apply Drawn0.step), HB2⟩
      · rw [if_neg hz] at hb
        have h2 := H.out
        rw [if_pos (by rw [← hb]; exact hz), ← hb] at h2
        obtain ⟨cs, hcs⟩ : ∃ c, chkB s = c := ⟨_, rfl⟩
        rw [hcs] at h2 hchk hz
        obtain ⟨rfl, rfl⟩ := Prod.mk.inj (Option.some.inj h2)
        have cz : (cs != 0) = true := bne_iff_ne.2 hz
        have cz2 : (cs == 0) = false := beq_eq_false_iff_ne.2 hz
        clear h2 hb H HBad hz hcs
        go_wp2_with (go_at_call 33; refine (hchk _).mono ?_; rintro e w' ⟨rfl, ⟨nd, rfl⟩⟩)
        go_ret2
        exact ⟨none, rfl, trivial, by repeat (first | exact Below.refl _ _ | apply pw_below_drewN)⟩
    · obtain rfl : k = l0.length := by omega
      have hbad : badB l0 = 0 := by have := HBad.out; rw [List.drop_length] at this; exact this.symm
      have hsz := badB_size l0 hbad
      have h2 := H.out
      rw [if_neg (by rw [hbad]; simp)] at h2
      have H2 := Aside0.mk h2
      have SZ := Aside0.mk hsz
      have hS : sizedB l0 := ⟨by omega, fun s hs => by have := (hsz s hs).2; omega⟩
      have HS := Aside0.mk hS
      have hT := total_bound l0 0 (fun s hs => (hsz s hs).2)
      have hTB : (totalB 0 l0 : Nat) ≤ 65535 * 65535 := Nat.le_trans hT (by rw [Nat.zero_add]; exact Nat.mul_le_mul_right _ hle)
      have HTB := Aside0.mk hTB
      clear h2 hsz hbad H HBad hS hT hTB
      obtain ⟨ad, rfl, hx0⟩ := CELL.out (w.drewN nq) 0 (pw_below_drewN (Below.refl _ _) _) g0'
      have hB0 := Aside0.mk (pw_below_drewN (Below.refl w.heap.size w) nq)
      obtain ⟨f0, hf0⟩ : ∃ f, l0.getD 0 ByteArray.empty = f := ⟨_, rfl⟩
      rw [hf0] at hx0 H2
      have hx0' : (w.drewN nq).cell? ad = some (.string f0) := hx0
      have p0 : (0 < (l0.length : Int)) = True := eq_true (by omega)
      have hsize : (w.drewN nq).heap.size = w.heap.size := rfl
      go_wp2
      go_loopg [38] l0.length (fun kx i wr => ∃ (k : Nat), i = .int .i64 k ∧ k ≤ l0.length ∧ l0.length - k ≤ kx ∧
        Aside0 (wr.heap[w.heap.size]? = some (.cells #[.slice none 0 0, .int .i64 (leastB f0.size (l0.take k) : Nat), .int .i64 (mostB 0 (l0.take k) : Nat), .int .i64 (totalB 0 (l0.take k) : Nat)] 57 (0, 0))) ∧ Aside0 (Below w.heap.size w wr))
      case atStart => exact ⟨0, rfl, Nat.zero_le _, by omega, ⟨by rw [List.take_zero]; exact heap_alloc_new _ _⟩, ⟨hB0.out.alloc (Nat.le_refl _) _⟩⟩
      case round =>
        clear hx0 hx0' hB0 hsize p0 hf0
        obtain ⟨k, rfl, hk, hkx, HP, HB⟩ := hrel
        have hfz : ∀ j, wr.frozen? ⟨w.heap.size, j, none⟩ = false := fun j => by simp [World.frozen?, HP.out]
        by_cases hlt : k < l0.length
        · obtain ⟨ad2, e2, hx⟩ := CELL.out wr k HB.out hlt
          obtain rfl := Option.some.inj e2
          have hs := (SZ.out _ (getD_mem l0 k ByteArray.empty hlt)).2
          have f1 := fold_take (fun n s => min n s.size) f0.size l0 k hlt
          have f2 := fold_take (fun n s => max n s.size) 0 l0 k hlt
          have f3 := fold_take (fun n s => n + s.size) 0 l0 k hlt
          have hP := HP.out
          change leastB f0.size (l0.take (k + 1)) = min (leastB f0.size (l0.take k)) _ at f1
          change mostB 0 (l0.take (k + 1)) = max (mostB 0 (l0.take k)) _ at f2
          change totalB 0 (l0.take (k + 1)) = totalB 0 (l0.take k) + _ at f3
          have ht : totalB 0 (l0.take k) ≤ 0 + (l0.take k).length * 65535 := total_bound _ 0 (fun x hx => (SZ.out x (List.mem_of_mem_take hx)).2)
          have ht2 : totalB 0 (l0.take k) ≤ 4294836225 := by rw [List.length_take] at ht; omega
          clear ht e2 HP
          generalize l0.getD k ByteArray.empty = s at hx hs f1 f2 f3
          generalize leastB f0.size (l0.take k) = n1 at f1 hP
          generalize mostB 0 (l0.take k) = n2 at f2 hP
          generalize totalB 0 (l0.take k) = n3 at f3 hP ht2
          have F1 := Aside0.mk f1
          have F2 := Aside0.mk f2
          have F3 := Aside0.mk f3
          have hc1 : wr.cell? ⟨w.heap.size, 1, none⟩ = some (.int .i64 (n1 : Int)) := by simp [World.cell?, hP]
          have hc2 : wr.cell? ⟨w.heap.size, 2, none⟩ = some (.int .i64 (n2 : Int)) := by simp [World.cell?, hP]
          have hc3 : wr.cell? ⟨w.heap.size, 3, none⟩ = some (.int .i64 (n3 : Int)) := by simp [World.cell?, hP]
          have HP := Aside0.mk hP
          have hmin : (if s.size < n1 then (s.size : Int) else (n1 : Int)) = ((min n1 s.size : Nat) : Int) := by split <;> omega
          have hmax : (if n2 < s.size then (s.size : Int) else (n2 : Int)) = ((max n2 s.size : Nat) : Int) := by split <;> omega
          obtain ⟨m1, hm1⟩ : ∃ m, min n1 s.size = m := ⟨_, rfl⟩
          obtain ⟨m2, hm2⟩ : ∃ m, max n2 s.size = m := ⟨_, rfl⟩
          rw [hm1] at hmin F1
          rw [hm2] at hmax F2
          clear hP f1 f2 f3 hm1 hm2
          go_wp2
          go_roundg (l0.length - (k + 1))
          case measure => omega
          case rel =>
            refine ⟨k + 1, by go_num, by omega, Nat.le_refl _, ⟨?_⟩, ⟨?_⟩⟩
            · rw [F1.out, F2.out, F3.out]
              exact (heap_setCell_same _ _ _ _ _ _ (heap_setCell_same _ _ _ _ _ _ (heap_setCell_same _ _ _ _ _ _ HP.out))).trans rfl
            · exact ((HB.out.setCell (Nat.le_refl _) _).setCell (Nat.le_refl _) _).setCell (Nat.le_refl _) _
        · obtain rfl : k = l0.length := by omega
          have hP := HP.out
          rw [List.take_length] at hP
          have htb := HTB.out
          have h3 := H2.out
          have hTw := fun (W : World) (hb : Below w.heap.size w W) => affix_Twice.calls (some ad) c0 l0 (twB [] l0 0) W (Kd.C_below HC.out hb) HC0.out (by unfold affix_Twice.f; rw [if_pos HS.out])
          have hSo := fun (W : World) (hb : Below w.heap.size w W) => affix_Sorted.calls (some ad) c0 l0 (sortB l0) W (Kd.C_below HC.out hb) HC0.out (by unfold affix_Sorted.f; rw [if_pos HS.out])
          clear HP
          generalize leastB f0.size l0 = n1 at h3 hP
          generalize mostB 0 l0 = n2 at h3 hP
          generalize totalB 0 l0 = n3 at h3 hP htb
          generalize twB [] l0 0 = tw at h3 hTw
          have hBw : w.heap.size < wr.heap.size := (Array.getElem?_eq_some_iff.1 hP).1
          have hc3 : wr.cell? ⟨w.heap.size, 3, none⟩ = some (.int .i64 (n3 : Int)) := by simp [World.cell?, hP]
          have HP := Aside0.mk hP
          have HTw := Aside0.mk hTw
          have HSo := Aside0.mk hSo
          have HBw := Aside0.mk hBw
          clear hP hTw hSo hBw hfz H2 htb
          by_cases d1 : n3 > 16777216
          · rw [if_pos d1] at h3
            obtain ⟨rfl, rfl⟩ := Prod.mk.inj (Option.some.inj h3)
            have e1 : decide (16777216 < (n3 : Int)) = true := decide_eq_true (by omega)
            clear h3
            go_wp2
            go_ret2
            exact ⟨none, rfl, trivial, HB.out⟩
          rw [if_neg d1] at h3
          have e1 : decide (16777216 < (n3 : Int)) = false := decide_eq_false (by omega)
          clear d1
          by_cases d2 : tw ≥ 0
          · rw [if_pos d2] at h3
            obtain ⟨rfl, rfl⟩ := Prod.mk.inj (Option.some.inj h3)
            have e2 : decide (0 ≤ tw) = true := decide_eq_true d2
            clear h3 d2
            go_wp2_with (go_at_call 34; refine (HTw.out _ HB.out).mono ?_; rintro e w1 ⟨rfl, hb1⟩; have HB1 := Aside0.mk hb1; clear hb1)
            go_ret2
            exact ⟨none, rfl, trivial, HB.out.trans (HB1.out.mono (Nat.le_of_lt HBw.out))⟩
          rw [if_neg d2] at h3
          obtain ⟨rfl, rfl⟩ := Prod.mk.inj (Option.some.inj h3)
          have e2 : decide (0 ≤ tw) = false := decide_eq_false d2
          clear h3 d2
          go_wp2_with (first
            | (go_at_call 34; refine (HTw.out _ HB.out).mono ?_; rintro e w1 ⟨rfl, hb1⟩; have HP1 := Aside0.mk ((hb1.block _ HBw.out).trans HP.out); have HB1 := Aside0.mk (HB.out.trans (hb1.mono (Nat.le_of_lt HBw.out))); clear hb1)
            | (go_at_call 35; refine (HSo.out _ HB1.out).mono ?_; rintro e w2 ⟨v, rfl, hR, hb2⟩; obtain ⟨A2, c2, rfl⟩ := Kd.R_slice hR; have hlt1 : w.heap.size < w1.heap.size := (Array.getElem?_eq_some_iff.1 HP1.out).1; have hP2 := (hb2.block _ hlt1).trans HP1.out; have HB2 := Aside0.mk (HB1.out.trans (hb2.mono (Nat.le_of_lt hlt1))); have hfz2 : ∀ j, w2.frozen? ⟨w.heap.size, j, none⟩ = false := (fun j => by simp [World.frozen?, hP2]); have hc0 : w2.cell? ⟨w.heap.size, 0, none⟩ = some (.slice none 0 0) := (by simp [World.cell?, hP2]); have HP2 := Aside0.mk hP2; have HR := Aside0.mk hR; have HLT1 := Aside0.mk hlt1; clear hR hb2 hP2 hlt1)
            | go_in)
          go_ret2
          obtain ⟨_, hl2, hC2⟩ := Kd.R_reads' (R_beside HR.out HLT1.out (.slice A2 (sortB l0).length c2))
          have hq := heap_setCell_same _ _ 0 _ _ (.slice A2 (sortB l0).length c2) HP2.out
          exact ⟨_, rfl, OB.mk ⟨w.heap.size, A2, c2, rfl, by simp [World.cell?, hq], by simp [World.cell?, hq], by simp [World.cell?, hq], by simp [World.cell?, hq], hl2, hC2⟩, HB2.out.setCell (Nat.le_refl _) _⟩

end Go.Proofs.Ytbkcjeopcjghgaa.P

/- What layer 10's reference computes, as plain functions on lists of texts, and that layer 10's set is it; no condition beyond the sizes that stand in each statement. -/
namespace Go.Proofs.Ytbkcjeopcjghgaa.Base
open Go Go.RowKit Go.Proofs.YtbkcjeopcjghgaaW.PrintWords Go.Proofs.YtbkcjeopcjghgaaW.PrintMore Go.Proofs.Ytbkcjeopcjghgaa.P
set_option linter.unusedVariables false

/-- Where a text stands first; -1: nowhere. -/
def findB (s : ByteArray) : List ByteArray → Nat → Int
  | [], _ => -1
  | x :: l, i => if x = s then (i : Int) else findB s l (i + 1)

end Go.Proofs.Ytbkcjeopcjghgaa.Base

/- What is told of a set of patterns, of the list in order and of the list as it came; layer 10's examples; no condition beyond the sizes that stand in each statement. -/
namespace Go.Proofs.Ytbkcjeopcjghgaa.Base
open Go Go.RowKit Go.Proofs.YtbkcjeopcjghgaaW.PrintWords Go.Proofs.YtbkcjeopcjghgaaW.PrintMore Go.Proofs.Ytbkcjeopcjghgaa.P
set_option linter.unusedVariables false

theorem findB_up (s : ByteArray) : ∀ (l : List ByteArray) (i : Nat), upB l → findB s l i = if inB s l = true then ((i + aheadB s l : Nat) : Int) else -1
  | [], i, _ => rfl
  | x :: l, i, h => by
    obtain ⟨h1, h2⟩ := List.pairwise_cons.1 h
    have ih := findB_up s l (i + 1) h2
    have ef : findB s (x :: l) i = if x = s then (i : Int) else findB s l (i + 1) := rfl
    rw [ef]
    by_cases hx : x = s
    · subst hx
      rw [if_pos rfl, if_pos (inB_iff.2 List.mem_cons_self), aheadB_none x (x :: l) (fun y hy => by
        rcases List.mem_cons.1 hy with rfl | hy
        · exact bl_irrefl _
        · exact h1 y hy)]
      rfl
    · rw [if_neg hx, inB_cons, decide_eq_false hx, Bool.false_or, ih]
      cases hb : Op.bytesLess (LL x) (LL s) with
      | true =>
        have e : aheadB s (x :: l) = aheadB s l + 1 := by unfold aheadB; rw [List.countP_cons_of_pos (by simpa using hb)]
        rw [e, show i + 1 + aheadB s l = i + (aheadB s l + 1) by omega]
      | false =>
        have hn : ¬ inB s l = true := fun hi => by
          rcases bl_tri (LL x) (LL s) with h' | h' | h'
          · exact hx (LL_inj h')
          · rw [hb] at h'; cases h'
          · rw [h1 s (inB_iff.1 hi)] at h'; cases h'
        rw [if_neg hn, if_neg hn]
theorem fold_perm {β : Type} (f : β → ByteArray → β) (hc : ∀ a x y, f (f a x) y = f (f a y) x) {l m : List ByteArray} (h : l.Perm m) : ∀ a, l.foldl f a = m.foldl f a := by
  induction h with
  | nil => intro a; rfl
  | cons x _ ih => intro a; exact ih _
  | swap x y l => intro a; simp only [List.foldl_cons]; rw [hc]
  | trans _ _ ih1 ih2 => intro a; rw [ih1, ih2]
theorem total_perm {l m : List ByteArray} (h : l.Perm m) : totalB 0 l = totalB 0 m := fold_perm _ (fun a x y => by omega) h 0
theorem most_perm {l m : List ByteArray} (h : l.Perm m) : mostB 0 l = mostB 0 m := fold_perm _ (fun a x y => by omega) h 0
theorem least_spec : ∀ (l : List ByteArray) (a : Nat), leastB a l ≤ a ∧ (∀ s ∈ l, leastB a l ≤ s.size) ∧ (leastB a l = a ∨ ∃ s ∈ l, leastB a l = s.size)
  | [], a => ⟨Nat.le_refl _, by simp, .inl rfl⟩
  | x :: l, a => by
    obtain ⟨h1, h2, h3⟩ := least_spec l (min a x.size)
    have e : leastB a (x :: l) = leastB (min a x.size) l := rfl
    rw [e]
    refine ⟨by omega, fun s hs => ?_, ?_⟩
    · rcases List.mem_cons.1 hs with rfl | hs
      · omega
      · exact h2 s hs
    · rcases h3 with h3 | ⟨s, hs, h3⟩
      · by_cases ha : a ≤ x.size
        · left; omega
        · right; exact ⟨x, List.mem_cons_self, by omega⟩
      · right; exact ⟨s, List.mem_cons_of_mem _ hs, h3⟩
theorem min_spec (l : List ByteArray) (h : 0 < l.length) : (∀ s ∈ l, minB l ≤ s.size) ∧ ∃ s ∈ l, minB l = s.size := by
  obtain ⟨h1, h2, h3⟩ := least_spec l (l.getD 0 ByteArray.empty).size
  refine ⟨h2, ?_⟩
  rcases h3 with h3 | h3
  · exact ⟨_, getD_mem l 0 ByteArray.empty h, h3⟩
  · exact h3
theorem min_perm {l m : List ByteArray} (h : l.Perm m) (h0 : 0 < l.length) : minB l = minB m := by
  obtain ⟨a1, s, hs, a2⟩ := min_spec l h0
  obtain ⟨b1, t, ht, b2⟩ := min_spec m (by rw [← h.length_eq]; exact h0)
  have := a1 t (h.mem_iff.2 ht)
  have := b1 s (h.mem_iff.1 hs)
  omega

/-- A set that is made of texts. -/
def setB (l : List ByteArray) : SetD := ⟨sortB l, (minB l : Nat), (mostB 0 l : Nat), (totalB 0 l : Nat)⟩
theorem new_cases (l : List ByteArray) :
    (∃ e, e ≠ 0 ∧ pats_New.f l = some (none, e) ∧ newB l = ([], e)) ∨
    (pats_New.f l = some (some (setB l), 0) ∧ newB l = (sortB l, 0) ∧ 0 < l.length ∧ l.length ≤ 65535 ∧ badB l = 0 ∧ totalB 0 l ≤ 16777216 ∧ twB [] l 0 < 0) := by
  unfold pats_New.f newB
  by_cases h0 : l.length = 0
  · exact .inl ⟨14, by decide, by rw [if_pos h0], by rw [if_pos h0]⟩
  by_cases h1 : l.length > 65535
  · exact .inl ⟨6, by decide, by rw [if_neg h0, if_pos h1], by rw [if_neg h0, if_pos h1]⟩
  by_cases h2 : badB l ≠ 0
  · exact .inl ⟨_, h2, by rw [if_neg h0, if_neg h1, if_pos h2], by rw [if_neg h0, if_neg h1, if_pos h2]⟩
  by_cases h3 : totalB 0 l > 16777216
  · exact .inl ⟨13, by decide, by rw [if_neg h0, if_neg h1, if_neg h2, if_pos h3], by rw [if_neg h0, if_neg h1, if_neg h2, if_pos h3]⟩
  by_cases h4 : twB [] l 0 ≥ 0
  · exact .inl ⟨8, by decide, by rw [if_neg h0, if_neg h1, if_neg h2, if_neg h3, if_pos h4], by rw [if_neg h0, if_neg h1, if_neg h2, if_neg h3, if_pos h4]⟩
  refine .inr ⟨by rw [if_neg h0, if_neg h1, if_neg h2, if_neg h3, if_neg h4]; rfl, by rw [if_neg h0, if_neg h1, if_neg h2, if_neg h3, if_neg h4], by omega, by omega, Classical.not_not.1 h2, by omega, by omega⟩


end Go.Proofs.Ytbkcjeopcjghgaa.Base

/- A number under a mask; no condition beyond those in the statement. -/
namespace Go.Proofs.Ytbkcjeopcjghgaa.Base
open Go Go.RowKit Go.Proofs.YtbkcjeopcjghgaaW.PrintWords Go.Proofs.YtbkcjeopcjghgaaW.PrintLast Go.Proofs.YtbkcjeopcjghgaaW.PrintMore

theorem bits_and_mask (x : Int) (m : Nat) (hm : m < 9223372036854775808) : 0 ≤ Go.bits .and .i64 x (m : Int) ∧ Go.bits .and .i64 x (m : Int) ≤ m := by
  have h : Go.bits .and .i64 x (m : Int) = IntKind.i64.wrap (((BitVec.ofInt 64 x &&& BitVec.ofInt 64 (m : Int)).toNat : Int)) := rfl
  have h2 : (BitVec.ofInt 64 x &&& BitVec.ofInt 64 (m : Int)).toNat ≤ m := by
    rw [BitVec.toNat_and]
    refine Nat.le_trans Nat.and_le_right ?_
    rw [BitVec.toNat_ofInt]
    omega
  rw [h, i64_w, wrap_id (by omega) (by omega)]
  omega

end Go.Proofs.Ytbkcjeopcjghgaa.Base

/- Sets of the same patterns are one, in whatever order these come; a pattern is found by its number; no condition beyond the sizes that stand in each statement. -/
namespace Go.Proofs.Ytbkcjeopcjghgaa.Base
open Go Go.RowKit Go.Proofs.YtbkcjeopcjghgaaW.PrintWords Go.Proofs.YtbkcjeopcjghgaaW.PrintLast Go.Proofs.YtbkcjeopcjghgaaW.PrintMore Go.Proofs.Ytbkcjeopcjghgaa.P
set_option linter.unusedVariables false

theorem twB_iff : ∀ (l seen : List ByteArray) (i : Nat), twB seen l i < 0 ↔ (l.Nodup ∧ ∀ x ∈ l, ¬ inB x seen = true)
  | [], seen, i => by simp [twB]
  | x :: l, seen, i => by
    simp only [twB]
    by_cases h : inB x seen = true
    · rw [if_pos h]
      constructor
      · intro h'; omega
      · rintro ⟨_, h'⟩; exact absurd h (h' x List.mem_cons_self)
    · rw [if_neg h, twB_iff l (seen ++ [x]) (i + 1), List.nodup_cons]
      constructor
      · rintro ⟨h1, h2⟩
        refine ⟨⟨fun hx => ?_, h1⟩, fun y hy => ?_⟩
        · have := h2 x hx
          rw [inB_snoc] at this
          simp at this
        · rcases List.mem_cons.1 hy with rfl | hy
          · exact h
          · have := h2 y hy
            rw [inB_snoc] at this
            intro h3
            rw [h3] at this
            simp at this
      · rintro ⟨⟨h1, h2⟩, h3⟩
        refine ⟨h2, fun y hy => ?_⟩
        rw [inB_snoc]
        intro h4
        rcases Bool.or_eq_true_iff.1 h4 with h4 | h4
        · exact h3 y (List.mem_cons_of_mem _ hy) h4
        · exact h1 (by rw [of_decide_eq_true h4]; exact hy)
theorem nodup_of_tw {l : List ByteArray} (h : twB [] l 0 < 0) : l.Nodup := ((twB_iff l [] 0).1 h).1
theorem tw_of_nodup {l : List ByteArray} (h : l.Nodup) : twB [] l 0 < 0 := (twB_iff l [] 0).2 ⟨h, fun x _ => by simp [inB]⟩
theorem badB_iff : ∀ (l : List ByteArray), badB l = 0 ↔ ∀ s ∈ l, chkB s = 0
  | [] => by simp [badB]
  | s :: l => by
    simp only [badB]
    by_cases h : chkB s = 0
    · rw [if_pos h, badB_iff l]
      simp [h]
    · rw [if_neg h]
      simp [h]
theorem setB_perm {l m : List ByteArray} (h : l.Perm m) (h0 : 0 < l.length) : setB l = setB m := by
  have e : sortB l = sortB m := sortB_of ((sortB_perm l).trans h) (sortB_up l)
  unfold setB
  rw [e, min_perm h h0, most_perm h, total_perm h]
/-- Texts that make a set make it in any order. -/
theorem new_perm {l m : List ByteArray} (h : l.Perm m) (hp : 0 < l.length) (h1 : l.length ≤ 65535) (h2 : badB l = 0) (h3 : totalB 0 l ≤ 16777216) (h4 : twB [] l 0 < 0) :
    pats_New.f m = some (some (setB l), 0) := by
  have e := h.length_eq
  rcases new_cases m with ⟨c, hc, hn, hw⟩ | ⟨hn, _⟩
  · exfalso
    unfold pats_New.f at hn
    have b2 : badB m = 0 := (badB_iff m).2 fun s hs => (badB_iff l).1 h2 s (h.mem_iff.2 hs)
    have b4 := tw_of_nodup ((h.nodup_iff).1 (nodup_of_tw h4))
    rw [if_neg (by omega), if_neg (by omega), if_neg (by rw [b2]; simp), if_neg (by rw [← total_perm h]; omega), if_neg (by omega)] at hn
    have := (Prod.mk.inj (Option.some.inj hn)).1
    cases this
  · rw [hn, setB_perm h hp]
theorem findB_mem (s : ByteArray) : ∀ (l : List ByteArray) (i : Nat), s ∈ l → ∃ n, findB s l i = ((i + n : Nat) : Int) ∧ n < l.length ∧ l.getD n ByteArray.empty = s
  | [], i, h => by cases h
  | x :: l, i, h => by
    have ef : findB s (x :: l) i = if x = s then (i : Int) else findB s l (i + 1) := rfl
    rw [ef]
    by_cases hx : x = s
    · rw [if_pos hx]
      exact ⟨0, rfl, by simp, by simpa using hx⟩
    · rw [if_neg hx]
      rcases List.mem_cons.1 h with rfl | h
      · exact absurd rfl hx
      · obtain ⟨n, h1, h2, h3⟩ := findB_mem s l (i + 1) h
        exact ⟨n + 1, by rw [h1]; congr 1; omega, by rw [List.length_cons]; omega, by rw [List.getD_cons_succ]; exact h3⟩
theorem list_is (l : List ByteArray) (h : l.length ≤ 65535) : pats_Set_List.f (some (setB l)) = some (sortB l) := by
  show (if (sortB l).length ≤ 8796093022208 then some (sortB l) else none) = _
  rw [if_pos (by rw [sortB_length]; omega)]
end Go.Proofs.Ytbkcjeopcjghgaa.Base

/- A set of texts and its list, made or not, told together; no condition beyond the sizes that stand in each statement. -/
namespace Go.Proofs.Ytbkcjeopcjghgaa.Base
open Go Go.RowKit Go.Proofs.YtbkcjeopcjghgaaW.PrintWords Go.Proofs.YtbkcjeopcjghgaaW.PrintMore Go.Proofs.Ytbkcjeopcjghgaa.P
set_option linter.unusedVariables false

/-- What is made of texts: a set or none, its list, why there is none. -/
structure SetOk (l : List ByteArray) (x : Option SetD) (w : List ByteArray) (e : Int) : Prop where
  hn : pats_New.f l = some (x, e)
  hw : newB l = (w, e)
  hL : setL x = w
  hM : setM x = minB w
  mem : ∀ s ∈ w, s ∈ l
  len : w.length ≤ l.length
  few : w.length ≤ 65535
  size : ∀ s ∈ w, s.size ≤ 65535
  up : upB w
  pos : ∀ s ∈ w, 0 < s.size
  nodup : w.Nodup
  kind : (e = 0 ∧ 0 < w.length ∧ x = some (setB l) ∧ w = sortB l ∧ w.length = l.length) ∨ (e ≠ 0 ∧ x = none ∧ w = [])
theorem chkB_pos {s : ByteArray} (h : chkB s = 0) : 0 < s.size ∧ s.size ≤ 65535 := by
  unfold chkB at h
  by_cases h1 : s.size = 0
  · rw [if_pos h1] at h; omega
  · rw [if_neg h1] at h
    by_cases h2 : s.size > 65535
    · rw [if_pos h2] at h; omega
    · omega
theorem set_ok (l : List ByteArray) : ∃ x w e, SetOk l x w e := by
  rcases new_cases l with ⟨e, he, hn, hw⟩ | ⟨hn, hw, hp, hl, hb, ht, hd⟩
  · exact ⟨none, [], e, hn, hw, rfl, rfl, by simp, by simp, by simp, by simp, List.Pairwise.nil, by simp, List.nodup_nil, .inr ⟨he, rfl, rfl⟩⟩
  · have hm := fun s => (sortB_perm l).mem_iff (a := s)
    have hlen := sortB_length l
    refine ⟨some (setB l), sortB l, 0, hn, hw, rfl, ?_, fun s hs => (hm s).1 hs, by omega, by omega, fun s hs => (chkB_pos ((badB_iff l).1 hb s ((hm s).1 hs))).2, sortB_up l, fun s hs => (chkB_pos ((badB_iff l).1 hb s ((hm s).1 hs))).1, ((sortB_perm l).nodup_iff).2 (nodup_of_tw hd), .inl ⟨rfl, by omega, rfl, rfl, by omega⟩⟩
    show ((minB l : Nat) : Int) = _
    rw [min_perm (sortB_perm l).symm hp]
theorem min_le {w : List ByteArray} : ∀ s ∈ w, minB w ≤ s.size := fun s hs => (min_spec w (List.length_pos_of_mem hs)).1 s hs
theorem list_ok {l w : List ByteArray} {x : Option SetD} {e : Int} (h : SetOk l x w e) : pats_Set_List.f x = some w := by
  rcases h.kind with ⟨_, _, rfl, rfl, _⟩ | ⟨_, rfl, rfl⟩
  · exact list_is l (by have := h.few; rw [sortB_length] at this; exact this)
  · rfl
theorem rnew_ok {l w : List ByteArray} {x : Option SetD} {e : Int} (h : SetOk l x w e) : Ev (fun k => juratref10_New.f k l) (w, e) := by
  have := rnew_ev l
  rw [h.hw] at this
  exact this

end Go.Proofs.Ytbkcjeopcjghgaa.Base

/- What layer 16's reference tells of texts: the beginnings, in order; and that the nodes' paths are these; no condition beyond the sizes that stand in each statement. -/
namespace Go.Proofs.Ytbkcjeopcjghgaa.Base
open Go Go.RowKit Go.Proofs.YtbkcjeopcjghgaaW.PrintWords Go.Proofs.YtbkcjeopcjghgaaW.PrintMore Go.Proofs.Ytbkcjeopcjghgaa.P
set_option linter.unusedVariables false

/-- One text is shorter, or as long and less. -/
def ltP (p q : ByteArray) : Prop := p.size < q.size ∨ (p.size = q.size ∧ Op.bytesLess (LL p) (LL q) = true)
theorem ltP_asym {p q : ByteArray} (h : ltP p q) : ¬ ltP q p := by
  rintro (h2 | ⟨h2, h3⟩)
  · rcases h with h | ⟨h, _⟩ <;> omega
  · rcases h with h | ⟨_, h⟩
    · omega
    · rw [bl_asym h] at h3; cases h3
theorem ltP_irrefl (p : ByteArray) : ¬ ltP p p := by
  rintro (h | ⟨_, h⟩)
  · omega
  · rw [bl_irrefl] at h; cases h
theorem pw_ext {α : Type} {R : α → α → Prop} (ha : ∀ {x y}, R x y → ¬ R y x) : ∀ {l m : List α}, l.Pairwise R → m.Pairwise R → (∀ x, x ∈ l ↔ x ∈ m) → l = m
  | [], [], _, _, _ => rfl
  | [], y :: m, _, _, h => absurd ((h y).2 List.mem_cons_self) (by simp)
  | x :: l, [], _, _, h => absurd ((h x).1 List.mem_cons_self) (by simp)
  | x :: l, y :: m, hl, hm, h => by
    obtain ⟨l1, l2⟩ := List.pairwise_cons.1 hl
    obtain ⟨m1, m2⟩ := List.pairwise_cons.1 hm
    have e : x = y := by
      rcases List.mem_cons.1 ((h x).1 List.mem_cons_self) with h1 | h1
      · exact h1
      · rcases List.mem_cons.1 ((h y).2 List.mem_cons_self) with h2 | h2
        · exact h2.symm
        · exact absurd (m1 x h1) (ha (l1 y h2))
    subst e
    congr 1
    refine pw_ext ha l2 m2 fun z => ?_
    constructor
    · intro hz
      rcases List.mem_cons.1 ((h z).1 (List.mem_cons_of_mem _ hz)) with h1 | h1
      · subst h1; exact absurd (l1 z hz) (fun q => ha q q)
      · exact h1
    · intro hz
      rcases List.mem_cons.1 ((h z).2 (List.mem_cons_of_mem _ hz)) with h1 | h1
      · subst h1; exact absurd (m1 z hz) (fun q => ha q q)
      · exact h1
/-- Beginnings as long, of texts in order. -/
theorem bl_pre {x y s t : List UInt8} (hs : x <+: s) (ht : y <+: t) (hl : x.length = y.length) (h : Op.bytesLess s t = true) : x = y ∨ Op.bytesLess x y = true := by
  induction x generalizing y s t with
  | nil =>
    left
    exact (List.length_eq_zero_iff.1 hl.symm).symm
  | cons a x ih =>
    cases y with
    | nil => simp at hl
    | cons b y =>
      obtain ⟨r1, rfl⟩ := hs
      obtain ⟨r2, rfl⟩ := ht
      rw [List.cons_append, List.cons_append] at h
      by_cases hab : a = b
      · subst hab
        rw [bl_cons_same] at h
        rcases ih (y := y) (s := x ++ r1) (t := y ++ r2) (List.prefix_append _ _) (List.prefix_append _ _) (by simpa using hl) h with h1 | h1
        · left; rw [h1]
        · right; rw [bl_cons_same]; exact h1
      · right
        simp only [Op.bytesLess] at h ⊢
        by_cases h1 : a < b
        · simp [h1]
        · exfalso
          simp [h1, hab] at h

/-- Is a text a beginning? -/
def isB (w : List ByteArray) (p : ByteArray) : Prop := p = ByteArray.empty ∨ ∃ t, t < w.length ∧ LL p <+: LL (w.getD t ByteArray.empty)
def lastS (out : List ByteArray) : ByteArray := out.getD (out.length - 1) ByteArray.empty
/-- One text's beginning, if it is not told yet. -/
def addS (n : Nat) (out : List ByteArray) (s : ByteArray) : List ByteArray := if n ≤ s.size then (if s.extract 0 n = lastS out then out else out ++ [s.extract 0 n]) else out
def rowS (w : List ByteArray) (n : Nat) (out : List ByteArray) : List ByteArray := w.foldl (addS n) out
def allS (w : List ByteArray) : Nat → Nat → List ByteArray → List ByteArray
  | 0, _, out => out
  | f + 1, n, out => allS w f (n + 1) (rowS w n out)
theorem addS_length (n : Nat) (out : List ByteArray) (s : ByteArray) : (addS n out s).length ≤ out.length + 1 ∧ out.length ≤ (addS n out s).length := by
  unfold addS
  split
  · split
    · omega
    · simp
  · omega
theorem rowS_length (n : Nat) : ∀ (w out : List ByteArray), (rowS w n out).length ≤ out.length + w.length ∧ out.length ≤ (rowS w n out).length
  | [], out => ⟨Nat.le_refl _, Nat.le_refl _⟩
  | s :: w, out => by
    have h1 := addS_length n out s
    have h2 := rowS_length n w (addS n out s)
    have e : rowS (s :: w) n out = rowS w n (addS n out s) := rfl
    rw [e, List.length_cons]
    omega
structure InvS (w : List ByteArray) (n i : Nat) (out : List ByteArray) : Prop where
  pw : out.Pairwise ltP
  ne : 0 < out.length
  mem : ∀ p, p ∈ out ↔ (p.size < n ∧ isB w p) ∨ (p.size = n ∧ ∃ t, t < i ∧ t < w.length ∧ LL p <+: LL (w.getD t ByteArray.empty))
theorem lastS_mem {out : List ByteArray} (h : 0 < out.length) : lastS out ∈ out := getD_mem out _ _ (by omega)
theorem pw_last {out : List ByteArray} (hp : out.Pairwise ltP) (h : 0 < out.length) : ∀ x ∈ out, x = lastS out ∨ ltP x (lastS out) := fun x hx => by
  obtain ⟨i, hi, rfl⟩ := List.mem_iff_getElem.1 hx
  unfold lastS
  rw [List.getD_eq_getElem?_getD, List.getElem?_eq_getElem (by omega)]
  by_cases h1 : i = out.length - 1
  · left; subst h1; rfl
  · right
    exact List.pairwise_iff_getElem.1 hp i (out.length - 1) hi (by omega) (by omega)
theorem take_pre (s : ByteArray) (n : Nat) : LL (s.extract 0 n) <+: LL s := by
  rw [LL_extract, List.drop_zero]; exact List.take_prefix _ _
theorem take_size {s : ByteArray} {n : Nat} (h : n ≤ s.size) : (s.extract 0 n).size = n := by
  rw [ByteArray.size_extract, Nat.min_eq_left h, Nat.sub_zero]
theorem pre_take {p s : ByteArray} (h : LL p <+: LL s) : p = s.extract 0 p.size := by
  apply LL_inj
  rw [LL_extract, List.drop_zero, ← LL_length]
  exact (List.prefix_iff_eq_take.1 h)
theorem invS_add {w : List ByteArray} (hs : srt w) {n i : Nat} {out : List ByteArray} (hi : i < w.length) (h : InvS w n i out) : InvS w n (i + 1) (addS n out (w.getD i ByteArray.empty)) := by
  obtain ⟨s, hss⟩ : ∃ s, w.getD i ByteArray.empty = s := ⟨_, rfl⟩
  have hmem : ∀ p : ByteArray, (∃ t, t < i + 1 ∧ t < w.length ∧ LL p <+: LL (w.getD t ByteArray.empty)) ↔ (∃ t, t < i ∧ t < w.length ∧ LL p <+: LL (w.getD t ByteArray.empty)) ∨ LL p <+: LL s := fun p => by
    constructor
    · rintro ⟨t, h1, h2, h3⟩
      by_cases ht : t = i
      · subst ht; rw [hss] at h3; exact .inr h3
      · exact .inl ⟨t, by omega, h2, h3⟩
    · rintro (⟨t, h1, h2, h3⟩ | h3)
      · exact ⟨t, by omega, h2, h3⟩
      · exact ⟨i, by omega, hi, by rw [hss]; exact h3⟩
  rw [hss]
  unfold addS
  by_cases hn : n ≤ s.size
  · rw [if_pos hn]
    have hsz := take_size hn
    by_cases hl : s.extract 0 n = lastS out
    · rw [if_pos hl]
      refine ⟨h.pw, h.ne, fun p => ?_⟩
      rw [h.mem, hmem]
      constructor
      · rintro (h1 | ⟨h1, h2⟩)
        · exact .inl h1
        · exact .inr ⟨h1, .inl h2⟩
      · rintro (h1 | ⟨h1, h2 | h2⟩)
        · exact .inl h1
        · exact .inr ⟨h1, h2⟩
        · have e : p = lastS out := by rw [← hl, pre_take h2, h1]
          exact (h.mem p).1 (by rw [e]; exact lastS_mem h.ne)
    · rw [if_neg hl]
      have hbelow : ∀ x ∈ out, ltP x (s.extract 0 n) := fun x hx => by
        have key : ∀ y ∈ out, y.size = n → y = s.extract 0 n ∨ ltP y (s.extract 0 n) := fun y hy hyn => by
          rcases (h.mem y).1 hy with h1 | ⟨h1, t, t1, t2, t3⟩
          · omega
          · have := hs t i t1 hi
            rw [hss] at this
            rcases bl_pre t3 (take_pre s n) (by rw [LL_length, LL_length, hsz, h1]) this with h2 | h2
            · exact .inl (LL_inj h2)
            · exact .inr (.inr ⟨by rw [hsz, h1], h2⟩)
        rcases (h.mem x).1 hx with ⟨h1, _⟩ | ⟨h1, _⟩
        · exact .inl (by rw [hsz]; exact h1)
        · rcases key x hx h1 with h2 | h2
          · exfalso
            rcases pw_last h.pw h.ne x hx with h3 | h3
            · exact hl (h2 ▸ h3)
            · rw [h2] at h3
              have hln : (lastS out).size = n := by
                rcases (h.mem _).1 (lastS_mem h.ne) with ⟨h4, _⟩ | ⟨h4, _⟩
                · rcases h3 with h5 | ⟨h5, _⟩ <;> rw [hsz] at h5 <;> omega
                · exact h4
              rcases key _ (lastS_mem h.ne) hln with h4 | h4
              · exact hl h4.symm
              · exact ltP_asym h3 h4
          · exact h2
      refine ⟨List.pairwise_append.2 ⟨h.pw, by simp, fun x hx y hy => by rw [List.mem_singleton.1 hy]; exact hbelow x hx⟩, by simp, fun p => ?_⟩
      rw [List.mem_append, List.mem_singleton, h.mem, hmem]
      constructor
      · rintro ((h1 | ⟨h1, h2⟩) | h1)
        · exact .inl h1
        · exact .inr ⟨h1, .inl h2⟩
        · exact .inr ⟨by rw [h1, hsz], .inr (by rw [h1]; exact take_pre s n)⟩
      · rintro (h1 | ⟨h1, h2 | h2⟩)
        · exact .inl (.inl h1)
        · exact .inl (.inr ⟨h1, h2⟩)
        · exact .inr (by rw [← h1]; exact pre_take h2)
  · rw [if_neg hn]
    refine ⟨h.pw, h.ne, fun p => ?_⟩
    rw [h.mem, hmem]
    constructor
    · rintro (h1 | ⟨h1, h2⟩)
      · exact .inl h1
      · exact .inr ⟨h1, .inl h2⟩
    · rintro (h1 | ⟨h1, h2 | h2⟩)
      · exact .inl h1
      · exact .inr ⟨h1, h2⟩
      · have := h2.length_le
        rw [LL_length, LL_length] at this
        omega
theorem invS_row {w : List ByteArray} (hs : srt w) {n : Nat} : ∀ (f i : Nat) (out : List ByteArray), i + f = w.length → InvS w n i out → InvS w n w.length (rowS (w.drop i) n out)
  | 0, i, out, hi, h => by
    rw [List.drop_of_length_le (by omega), ← hi]
    exact h
  | f + 1, i, out, hi, h => by
    rw [getD_drop w i ByteArray.empty (by omega)]
    exact invS_row hs f (i + 1) _ (by omega) (invS_add hs (by omega) h)
theorem invS_next {w : List ByteArray} {n : Nat} (hn : 1 ≤ n) {out : List ByteArray} (h : InvS w n w.length out) : InvS w (n + 1) 0 out := by
  refine ⟨h.pw, h.ne, fun p => ?_⟩
  rw [h.mem]
  constructor
  · rintro (⟨h1, h2⟩ | ⟨h1, t, _, h2, h3⟩)
    · exact .inl ⟨by omega, h2⟩
    · exact .inl ⟨by omega, .inr ⟨t, h2, h3⟩⟩
  · rintro (⟨h1, h2⟩ | ⟨_, t, h2, _⟩)
    · by_cases h3 : p.size < n
      · exact .inl ⟨h3, h2⟩
      · rcases h2 with h2 | ⟨t, h4, h5⟩
        · subst h2
          exact absurd (show (0 : Nat) < n by omega) h3
        · exact .inr ⟨by omega, t, h4, h4, h5⟩
    · omega
theorem invS_all {w : List ByteArray} (hs : srt w) : ∀ (f n : Nat) (out : List ByteArray), 1 ≤ n → InvS w n 0 out → InvS w (n + f) 0 (allS w f n out)
  | 0, n, out, _, h => h
  | f + 1, n, out, hn, h => by
    have h1 := invS_row hs (n := n) w.length 0 out (by omega) h
    rw [List.drop_zero] at h1
    have := invS_all hs f (n + 1) _ (by omega) (invS_next hn h1)
    rw [show n + (f + 1) = n + 1 + f by omega]
    exact this
theorem invS_start (w : List ByteArray) : InvS w 1 0 [ByteArray.empty] := by
  refine ⟨by simp, by simp, fun p => ?_⟩
  rw [List.mem_singleton]
  constructor
  · rintro rfl
    exact .inl ⟨Nat.zero_lt_one, .inl rfl⟩
  · rintro (⟨h1, h2⟩ | ⟨_, t, h2, _⟩)
    · apply LL_inj
      rw [LL_empty]
      exact List.length_eq_zero_iff.1 (by rw [LL_length]; omega)
    · omega
theorem most_le (l : List ByteArray) : ∀ a, a ≤ mostB a l ∧ ∀ s ∈ l, s.size ≤ mostB a l := by
  induction l with
  | nil => intro a; exact ⟨Nat.le_refl _, by simp⟩
  | cons x l ih =>
    intro a
    obtain ⟨h1, h2⟩ := ih (max a x.size)
    have e : mostB a (x :: l) = mostB (max a x.size) l := rfl
    rw [e]
    refine ⟨by omega, fun s hs => ?_⟩
    rcases List.mem_cons.1 hs with rfl | hs
    · omega
    · exact h2 s hs
/-- All beginnings. -/
theorem allS_mem {w : List ByteArray} (hs : srt w) : (allS w (mostB 0 w) 1 [ByteArray.empty]).Pairwise ltP ∧ ∀ p, p ∈ allS w (mostB 0 w) 1 [ByteArray.empty] ↔ isB w p := by
  have h := invS_all hs (mostB 0 w) 1 _ (Nat.le_refl _) (invS_start w)
  refine ⟨h.pw, fun p => ?_⟩
  rw [h.mem]
  constructor
  · rintro (⟨_, h1⟩ | ⟨_, t, h2, _⟩)
    · exact h1
    · omega
  · intro h1
    refine .inl ⟨?_, h1⟩
    rcases h1 with h1 | ⟨t, h2, h3⟩
    · subst h1
      exact Nat.lt_of_lt_of_le Nat.zero_lt_one (Nat.le_add_right _ _)
    · have h4 := h3.length_le
      rw [LL_length, LL_length] at h4
      have := (most_le w 0).2 _ (getD_mem w t ByteArray.empty h2)
      omega
/-- The paths of the nodes. -/
def strP (p : List UInt8) : ByteArray := ⟨p.toArray⟩
theorem LL_strP (p : List UInt8) : LL (strP p) = p := by unfold LL strP; simp
theorem strP_LL (s : ByteArray) : strP (LL s) = s := LL_inj (LL_strP _)
theorem strP_size (p : List UInt8) : (strP p).size = p.length := by rw [← LL_length, LL_strP]
def paths (w : List ByteArray) : List ByteArray := (trN w).map fun n => strP n.path
theorem paths_mem {w : List ByteArray} (hs : srt w) (p : ByteArray) : p ∈ paths w ↔ isB w p := by
  unfold paths
  rw [List.mem_map]
  constructor
  · rintro ⟨n, hn, rfl⟩
    obtain ⟨i, hi, he⟩ := List.mem_iff_getElem.1 hn
    have h : (trN w)[i]? = some n := by rw [List.getElem?_eq_getElem hi, he]
    rcases path_is hs h with h1 | ⟨t, h1, h2⟩
    · exact .inl (LL_inj (by rw [LL_strP, h1, LL_empty]))
    · exact .inr ⟨t, h1, by rw [LL_strP]; exact h2⟩
  · intro h
    obtain ⟨i, n, h1, h2⟩ := path_has hs _ (LL p) rfl (by
      rcases h with h | h
      · left; rw [h, LL_empty]
      · exact .inr h)
    exact ⟨n, List.mem_of_getElem? h1, by rw [h2, strP_LL]⟩
theorem paths_pw {w : List ByteArray} (hs : srt w) : (paths w).Pairwise ltP := by
  unfold paths
  rw [List.pairwise_map]
  rcases Nat.eq_zero_or_pos w.length with h0 | h0
  · unfold trN
    rw [List.length_eq_zero_iff.1 h0, nodes_nil]
    simp
  · refine List.Pairwise.imp_of_mem (fun {n m} hn hm h => ?_) (nodes_up hs (trK w))
    have okn := nodes_ok hs _ n hn
    have okm := nodes_ok hs _ m hm
    have ln := nodes_lt hs h0 _ n hn
    have lm := nodes_lt hs h0 _ m hm
    unfold ltP
    rw [strP_size, strP_size, LL_strP, LL_strP]
    rcases h with h | ⟨h1, h2⟩
    · exact .inl h
    · refine .inr ⟨h1, ?_⟩
      have hp := hs n.lo m.lo (by omega) (by have := okm.top; omega)
      rcases bl_pre (okn.pre n.lo (Nat.le_refl _) ln) (okm.pre m.lo (Nat.le_refl _) lm) h1 hp with h3 | h3
      · exfalso
        have := okn.all m.lo (by have := okm.top; omega) (by rw [h3]; exact okm.pre m.lo (Nat.le_refl _) lm)
        omega
      · exact h3
theorem paths_all {w : List ByteArray} (hs : srt w) : allS w (mostB 0 w) 1 [ByteArray.empty] = paths w :=
  pw_ext ltP_asym (allS_mem hs).1 (paths_pw hs) (fun p => by rw [(allS_mem hs).2, paths_mem hs])

/-! the reference's rounds -/
theorem rst_l2 (w : List ByteArray) (hl : w.length ≤ 65535) (hz : ∀ s ∈ w, s.size ≤ 65535) (x4 : Int) (n : Nat) (hn : n ≤ 65536) (R : List ByteArray) : ∀ (f i : Nat) (out : List ByteArray), i + f = w.length → 0 < out.length → out.length + f ≤ 8796093022208 →
    Ev (fun k => juratref16_States.l1 k w (rowS (w.drop i) n out) x4 ((n : Int) + 1)) R → Ev (fun k => juratref16_States.l2 k w out x4 (n : Int) (i : Int)) R := by
  intro f
  induction f with
  | zero =>
    intro i out hi h0 ho h
    rw [List.drop_of_length_le (by omega)] at h
    refine Ev.step (fun k => ?_) h
    simp only [juratref16_States.l2]
    rw [if_neg (by omega), wrap_id (by omega) (by omega)]
    rfl
  | succ f ih =>
    intro i out hi h0 ho h
    rw [getD_drop w i ByteArray.empty (by omega)] at h
    have hs := hz _ (getD_mem w i ByteArray.empty (by omega))
    have e : rdOf ByteArray.empty w (i : Int) = w.getD i ByteArray.empty := rfl
    generalize w.getD i ByteArray.empty = s at e hs h
    have h2 : Ev (fun k => juratref16_States.l1 k w (rowS (w.drop (i + 1)) n (addS n out s)) x4 ((n : Int) + 1)) R := h
    have hlast : rdOf ByteArray.empty out ((out.length : Int) - 1) = lastS out := by unfold rdOf lastS; congr 1; omega
    have hal := addS_length n out s
    have hx := ih (i + 1) (addS n out s) (by omega) (by omega) (by omega) h2
    refine Ev.step (fun k => ?_) hx
    simp only [juratref16_States.l2]
    rw [if_pos (by omega), if_pos (by omega), e]
    unfold addS
    by_cases hn2 : n ≤ s.size
    · rw [if_pos (by omega), if_pos (by omega), if_pos (by omega), wrap_id (by omega) (by omega), if_pos (by omega), if_pos (by omega), hlast, Int.toNat_natCast, if_pos hn2]
      by_cases hq : s.extract 0 n = lastS out
      · rw [if_pos (by rw [hq]), if_pos hq, wrap_id (by omega) (by omega)]
        rfl
      · rw [if_neg (fun q => hq (toList_iff.1 q)), if_pos (by omega), if_neg hq, wrap_id (by omega) (by omega)]
        rfl
    · rw [if_neg (by omega), if_neg hn2, wrap_id (by omega) (by omega)]
      rfl
theorem rst_l1 (w : List ByteArray) (hl : w.length ≤ 65535) (hz : ∀ s ∈ w, s.size ≤ 65535) (m : Nat) (hm : m ≤ 65535) : ∀ (f n : Nat) (out : List ByteArray), n + f = m + 1 → 1 ≤ n → 0 < out.length → out.length + f * w.length ≤ 8796093022208 →
    Ev (fun k => juratref16_States.l1 k w out (m : Int) (n : Int)) (allS w f n out) := by
  intro f
  induction f with
  | zero =>
    intro n out hn h1 h0 ho
    refine Ev.ret fun k => ?_
    simp only [juratref16_States.l1]
    rw [if_neg (by omega)]
    rfl
  | succ f ih =>
    intro n out hn h1 h0 ho
    rw [Nat.succ_mul] at ho
    have hr := rowS_length n w out
    have h := ih (n + 1) (rowS w n out) (by omega) (by omega) (by omega) (by omega)
    refine Ev.step (f := fun k => juratref16_States.l2 k w out (m : Int) (n : Int) 0) (fun k => ?_) (rst_l2 w hl hz (m : Int) n (by omega) _ w.length 0 out (by omega) h0 (by omega) (by rw [List.drop_zero]; exact h))
    simp only [juratref16_States.l1]
    rw [if_pos (by omega)]
theorem rst_l0 (w : List ByteArray) (hl : w.length ≤ 65535) (hz : ∀ s ∈ w, s.size ≤ 65535) (R : List ByteArray) : ∀ (f i a : Nat), i + f = w.length → a ≤ 65535 →
    (Ev (fun k => juratref16_States.l1 k w [ByteArray.empty] ((mostB a (w.drop i) : Nat) : Int) 1) R) → Ev (fun k => juratref16_States.l0 k w [ByteArray.empty] (a : Int) (i : Int)) R := by
  intro f
  induction f with
  | zero =>
    intro i a hi ha h
    rw [List.drop_of_length_le (by omega)] at h
    refine Ev.step (fun k => ?_) h
    simp only [juratref16_States.l0]
    rw [if_neg (by omega)]
    rfl
  | succ f ih =>
    intro i a hi ha h
    rw [getD_drop w i ByteArray.empty (by omega)] at h
    have hs := hz _ (getD_mem w i ByteArray.empty (by omega))
    have e : rdOf ByteArray.empty w (i : Int) = w.getD i ByteArray.empty := rfl
    generalize w.getD i ByteArray.empty = s at e hs h
    have hx := ih (i + 1) (max a s.size) (by omega) (by omega) h
    refine Ev.step (fun k => ?_) hx
    simp only [juratref16_States.l0]
    rw [if_pos (by omega), if_pos (by omega), e, wrap_id (by omega) (by omega)]
    by_cases hq : a < s.size
    · rw [if_pos (by omega), Nat.max_eq_right (by omega)]; rfl
    · rw [if_neg (by omega), Nat.max_eq_left (by omega)]; rfl
theorem rstates_ev (w : List ByteArray) (h : okT w) : Ev (fun k => juratref16_States.f k w) (paths w) := by
  obtain ⟨h1, h2, h3, h4⟩ := h
  have hz : ∀ s ∈ w, s.size ≤ 65535 := fun s hs => (h3 s hs).2
  have hm : mostB 0 w ≤ 65535 := by
    have key : ∀ (l : List ByteArray) (a : Nat), a ≤ 65535 → (∀ s ∈ l, s.size ≤ 65535) → mostB a l ≤ 65535 := by
      intro l
      induction l with
      | nil => intro a ha _; exact ha
      | cons x l ih =>
        intro a ha hx
        exact ih (max a x.size) (by have := hx x List.mem_cons_self; omega) (fun s hs => hx s (List.mem_cons_of_mem _ hs))
    exact key w 0 (by omega) hz
  rw [← paths_all (srt_of h1)]
  refine rst_l0 w h2 hz _ w.length 0 0 (by omega) (by omega) ?_
  rw [List.drop_zero]
  exact rst_l1 w h2 hz (mostB 0 w) hm (mostB 0 w) 1 [ByteArray.empty] (by omega) (Nat.le_refl _) (by simp) (by
    have : mostB 0 w * w.length ≤ 65535 * 65535 := Nat.mul_le_mul hm h2
    simp
    omega)

end Go.Proofs.Ytbkcjeopcjghgaa.Base

/- A strings.Builder: WriteByte, and String, at this translation (after the kit's Derived/Shelf/Strings/BuilderK); no condition beyond those in each statement. -/
namespace Go.Proofs.Ytbkcjeopcjghgaa.P
open Go Go.RowKit Go.Proofs Go.Shelf Go.Proofs.YtbkcjeopcjghgaaW.PrintWords
set_option linter.unusedVariables false
set_option linter.unusedSimpArgs false

abbrev IsB (B b : Nat) (bs : List Value) (w : World) : Prop := Lib.IsBuilderF 100 5 B b bs w
theorem bld_size : (Try.prog.info? 100).map (·.size) = some 2 := by kernel_rfl
theorem bld_lies : liesAt Try.prog Try.prog.depth 100 (2 / Try.prog.cellsOf 100) 0 100 1 = true := by kernel_rfl
theorem bld_byte : (Try.prog.info? 5).map (fun i => (i.zero, i.size, i.bytes)) = some (some (.int .u8 0), 1, 1) := by kernel_rfl
set_option maxHeartbeats 1000000 in
set_option maxRecDepth 100000 in
theorem bld_check_used (b : Nat) (w : World) (h0 : w.cell? ⟨b, 0, none⟩ = some (.pointer (some ⟨b, 0, none⟩))) :
    Calls Try.prog 69 #[.pointer (some ⟨b, 0, none⟩)] w fun e w' => e = .returned (.tuple #[]) ∧ w' = w := by
  obtain ⟨j, hj, _⟩ := Option.map_eq_some_iff.1 bld_size
  go_enter Try.func69, Try.ntmps69
  go_wp2
  rw [Lib.run_neq_ptr_same w _ Try.underlying98 hj]
  go_wp2
  go_end0
  exact ⟨rfl, rfl⟩
set_option maxHeartbeats 1000000 in
set_option maxRecDepth 100000 in
theorem bld_check_fresh (b : Nat) (w : World) (h0 : w.cell? ⟨b, 0, none⟩ = some (.pointer none)) (hsh : w.shape? b = some (100, 2)) (hfz : w.frozen? ⟨b, 0, none⟩ = false) :
    Calls Try.prog 69 #[.pointer (some ⟨b, 0, none⟩)] w fun e w' => e = .returned (.tuple #[]) ∧ w' = w.setCell ⟨b, 0, none⟩ (.pointer (some ⟨b, 0, none⟩)) := by
  obtain ⟨j, hj, hjs⟩ := Option.map_eq_some_iff.1 bld_size
  go_enter Try.func69, Try.ntmps69
  go_wp2
  rw [Lib.run_to_unsafe w ⟨b, 0, none⟩ Try.underlying98 Try.underlying125 hj (by rw [hjs]; decide) hsh (Nat.zero_lt_succ 1)]
  simp only [Result.andThen]
  rw [Oper.upon_value]
  go_wp2
  rw [run_callFunc_extern Try.func80 (by kernel_rfl) (by kernel_rfl) (by kernel_rfl) (e := Extern.AbiNoEscape.same) (by kernel_rfl)]
  rw [Lib.run_noEscape]
  simp only [Result.andThen]
  rw [Oper.upon_value]
  go_wp2
  rw [Lib.run_from_unsafe w ⟨b, 0, none⟩ Try.underlying125 Try.underlying98 hj hsh bld_lies]
  simp only [Result.andThen]
  rw [Oper.upon_value]
  go_wp2
  go_end0
  exact ⟨rfl, rfl⟩
theorem bld_check (B b : Nat) (bs : List Value) (w : World) (h : IsB B b bs w) :
    Calls Try.prog 69 #[.pointer (some ⟨b, 0, none⟩)] w fun e w' => e = .returned (.tuple #[]) ∧ (Lib.BuilderAtF 100 5 B b (.pointer (some ⟨b, 0, none⟩)) bs w' ∧ Below B w w' ∧ Lib.OthersKept 5 (some b) w w') := by
  rcases h with h | h
  · refine (bld_check_fresh b w h.cell0 h.shape h.frozen0).mono ?_
    rintro e w' ⟨rfl, rfl⟩
    exact ⟨rfl, h.used _, (Below.refl B w).setCell (p := ⟨b, 0, none⟩) h.1 _, (Lib.OthersKept.refl _ _ w).setCell ⟨b, 0, none⟩ rfl _⟩
  · refine (bld_check_used b w h.cell0).mono ?_
    rintro e w' ⟨rfl, rfl⟩
    exact ⟨rfl, h, Below.refl B _, Lib.OthersKept.refl _ _ _⟩
set_option maxHeartbeats 2000000 in
set_option maxRecDepth 100000 in
theorem bld_byte_k (B b : Nat) (bs : List Value) (c : Int) (w : World) (h : IsB B b bs w) (hlen : bs.length + 1 ≤ 140737488355328) (hBw : B ≤ w.heap.size) :
    Calls Try.prog 63 #[.pointer (some ⟨b, 0, none⟩), .int .u8 c] w fun e w' => e = .returned .nilIface ∧ (IsB B b (bs ++ [.int .u8 c]) w' ∧ Below B w w' ∧ Lib.OthersKept 5 (some b) w w') := by
  obtain ⟨i0, hi, hz0, hz1, hz2⟩ := info_parts bld_byte
  go_enter Try.func63, Try.ntmps63
  go_wp2_with (go_at_call 69; refine (bld_check B b bs _ h).mono ?_)
  rintro e w1 ⟨rfl, h1, hb1, hk1⟩
  obtain ⟨hB, v, hbk, hown, hne⟩ := h1
  have c0 : w1.cell? ⟨b, 0, none⟩ = some (.pointer (some ⟨b, 0, none⟩)) := by rw [Lib.cell_of_heap hbk]; rfl
  have c1 : w1.cell? ⟨b, 1, none⟩ = some v := by rw [Lib.cell_of_heap hbk]; rfl
  go_wp2_with (at_builtin; refine wpList_append_ownF _ rfl _ _ 80 rfl B 5 i0 (.int .u8 0) 1 1 Try.underlying80 hi hz0 hz1 hz2 rfl (by decide) _ _ _ rfl (hown.alloc _) ⟨w1.heap.size, 0, none⟩ 1 1 [.int .u8 c] rfl rfl ?c1 ?c2 ?c3 ?c4 ?c5 ?_)
  case c1 =>
    intro j u hj
    match j, hj with
    | 0, hj => simp at hj; subst hj; simp [Addr.add]
  case c2 => intro u hu; simp at hu; subst hu; rfl
  case c3 => unfold maxLen; omega
  case c4 => omega
  case c5 => have := hb1.size; simp; omega
  intro v' w2 hown' hgrow _
  have hlt : b < w1.heap.size := by
    rcases Nat.lt_or_ge b w1.heap.size with h' | h'
    · exact h'
    · simp [Array.getElem?_eq_none h'] at hbk
  have hb2 : w2.heap[b]? = some (.cells #[.pointer (some ⟨b, 0, none⟩), v] 100 (0, 0)) := by
    rw [hgrow.block b (by simp; omega) (fun e => hne e.symm), Lib.alloc_old w1 _ b hlt]
    exact hbk
  have d0 : w2.cell? ⟨b, 0, none⟩ = some (.pointer (some ⟨b, 0, none⟩)) := by rw [Lib.cell_of_heap hb2]; rfl
  have d1 : w2.cell? ⟨b, 1, none⟩ = some v := by rw [Lib.cell_of_heap hb2]; rfl
  have f1 : w2.frozen? ⟨b, 1, none⟩ = false := Lib.frozen_of_heap hb2 1
  obtain ⟨g, cap, rfl⟩ : ∃ g cap, v' = .slice (some ⟨g, 0, none⟩) (bs.length + 1) cap := by
    rcases hown'.2 with ⟨_, h0⟩ | ⟨g, cap, cur, fz, hv, _⟩
    · omega
    · exact ⟨g, cap, hv⟩
  go_wp2
  go_ret
  refine ⟨rfl, .inr ?_, ?_, ((hk1.alloc _).grown hgrow (Lib.ownsRowF_kind (hown.alloc _))).setCell ⟨b, 1, none⟩ rfl _⟩
  · exact Lib.BuilderAtF.put (T := 100) (e := 5) hB hb2 (bs' := bs ++ [.int .u8 c]) (by simpa using hown') (by decide)
  · exact ((hb1.alloc (by have := hb1.size; omega) _).grown hgrow (by have := hb1.size; simp; omega) (fun k hk => (hown.lt k hk).1)).setCell (p := ⟨b, 1, none⟩) hB _
theorem bld_string (B b : Nat) (l : List UInt8) (w : World) (h : IsB B b (Lib.byteCells l) w) (hBw : B ≤ w.heap.size) :
    Calls Try.prog 64 #[.pointer (some ⟨b, 0, none⟩)] w fun e w' => e = .returned (.string ⟨l.toArray⟩) ∧ (IsB B b (Lib.byteCells l) w' ∧ Below B w w' ∧ Lib.OthersKept 5 (some b) w w') := Try.Builder_String_any_k B b l w h hBw

theorem IsB.fresh {B : Nat} (w : World) (hB : B ≤ w.heap.size) : IsB B w.heap.size [] (w.alloc (.cells #[.pointer none, .slice none 0 0] 100 (0, 0))) :=
  .inl ⟨hB, .slice none 0 0, heap_alloc_new _ _, ⟨rfl, .inl ⟨rfl, rfl⟩⟩, by simp [Value.ownBlock]⟩
theorem IsB.below {B b : Nat} {bs : List Value} {w w1 : World} (h : IsB B b bs w) (hb : Below w.heap.size w w1) : IsB B b bs w1 := by
  have key : ∀ p, Lib.BuilderAtF 100 5 B b p bs w → Lib.BuilderAtF 100 5 B b p bs w1 := by
    rintro p ⟨h1, v, h2, ⟨h3, h4⟩, h5⟩
    refine ⟨h1, v, (hb.block _ (Array.getElem?_eq_some_iff.1 h2).1).trans h2, ⟨h3, ?_⟩, h5⟩
    rcases h4 with h4 | ⟨g, cap, cur, fz, e, hg, hh, r⟩
    · exact .inl h4
    · exact .inr ⟨g, cap, cur, fz, e, hg, (hb.block _ (Array.getElem?_eq_some_iff.1 hh).1).trans hh, r⟩
  exact h.elim (fun x => .inl (key _ x)) (fun x => .inr (key _ x))
theorem IsB.lt {B b : Nat} {bs : List Value} {w : World} (h : IsB B b bs w) : B ≤ b ∧ b < w.heap.size := by
  rcases h with h | h
  · exact ⟨h.1, h.lt⟩
  · exact ⟨h.1, h.lt⟩
/-- Another block, that is no row of bytes, is written. -/
theorem IsB.far {B b : Nat} {bs : List Value} {w : World} (h : IsB B b bs w) {p : Addr} (hp : p.block ≠ b) (ht : ∀ c fz, w.heap[p.block]? ≠ some (.cells c 5 fz)) (u : Value) : IsB B b bs (w.setCell p u) := by
  have key : ∀ q, Lib.BuilderAtF 100 5 B b q bs w → Lib.BuilderAtF 100 5 B b q bs (w.setCell p u) := by
    rintro q ⟨h1, v, h2, ⟨h3, h4⟩, h5⟩
    refine ⟨h1, v, (Below.heap_setCell w p u b (fun e => hp e.symm)).trans h2, ⟨h3, ?_⟩, h5⟩
    rcases h4 with h4 | ⟨g, cap, cur, fz, e, hg, hh, r⟩
    · exact .inl h4
    · refine .inr ⟨g, cap, cur, fz, e, hg, (Below.heap_setCell w p u g (fun e => ?_)).trans hh, r⟩
      rw [e] at hh
      exact ht _ _ hh
  exact h.elim (fun x => .inl (key _ x)) (fun x => .inr (key _ x))
theorem IsB.drewN {B b : Nat} {bs : List Value} {w : World} (h : IsB B b bs w) (n : Nat) : IsB B b bs (w.drewN n) := IsB.below h (pw_below_drewN (Below.refl _ _) n)
end Go.Proofs.Ytbkcjeopcjghgaa.P

/- A trie's Find, Path and Bytes: for all tries, nil too, and all numbers and texts. -/
namespace Go.Proofs.Ytbkcjeopcjghgaa.P
open Go Go.RowKit Go.Proofs.YtbkcjeopcjghgaaW.PrintWords Go.Proofs.YtbkcjeopcjghgaaW.PrintLast Go.Proofs.Ytbkcjeopcjghgaa.Base
set_option linter.unusedVariables false
set_option linter.unusedSimpArgs false

/-- Where bytes lead from a state; none: that is not told; some none: to no state. -/
def fndL (a0 : Option TrieD) : List UInt8 → Int → Option (Option Int)
  | [], s => some (some s)
  | c :: l, s => match trie_Trie_Next.f a0 s (c.toNat : Int) with
    | none => none
    | some (n, ok) => if ok = true then fndL a0 l n else some none
def fndR (a0 : Option TrieD) : Option (Option Int) → Option (Int × Bool)
  | none => none
  | some none => some (0, false)
  | some (some s) => some (s, trIs a0 s)
def trie_Trie_Find.f (a0 : Option TrieD) (a1 : ByteArray) : Option (Int × Bool) := if a1.size ≤ 4611686018427387904 then fndR a0 (fndL a0 (LL a1) 0) else none

/-- A state's path, as long as is said, by the states above. -/
def upP (a0 : Option TrieD) : Nat → Int → List Int
  | 0, _ => []
  | n + 1, s => match trie_Trie_Above.f a0 s with
    | none => []
    | some (a, c, _) => upP a0 n a ++ [c]
theorem above_some (a0 : Option TrieD) (s : Int) : ∃ a c ok, trie_Trie_Above.f a0 s = some (a, c, ok) := by
  unfold trie_Trie_Above.f
  split <;> exact ⟨_, _, _, rfl⟩
theorem upP_length (a0 : Option TrieD) : ∀ n s, (upP a0 n s).length = n
  | 0, s => rfl
  | n + 1, s => by
    obtain ⟨a, c, ok, h⟩ := above_some a0 s
    simp only [upP, h]
    rw [List.length_append, upP_length a0 n a]
    rfl
def trDep (a0 : Option TrieD) (s : Int) : Int := if trIs a0 s = true then (trAt a0 s).depth else 0
def trie_Trie_Path.f (a0 : Option TrieD) (a1 : Int) : Option ByteArray := if 0 ≤ trDep a0 a1 ∧ trDep a0 a1 ≤ 1073741824 then some (strOfNums (upP a0 (trDep a0 a1).toNat a1)) else none
theorem rep_set (t : Nat) (c : Int) (L : List Int) : (List.replicate (t + 1) (0 : Int) ++ L).set t c = List.replicate t 0 ++ c :: L := by
  rw [List.replicate_succ', List.append_assoc, List.set_append_right _ _ (by simp)]
  simp
theorem info16 : (Try.prog.info? 5).map (fun i => (i.zero, i.size, i.bytes)) = some (some (.int .u8 0), 1, 1) := by kernel_rfl
/-- The bytes by which a state leads on. -/
def trBy (d : TrieD) (x : StD) : List Int := (List.range x.many.toNat).map fun o => (d.getD (x.first.toNat + o) default).by_
def trie_Trie_Bytes.f (a0 : Option TrieD) (a1 : Int) : Option ByteArray := match a0 with
  | none => some ⟨#[]⟩
  | some d => if trIs (some d) a1 = true then (if stOk d (d.getD a1.toNat default) ∧ (d.getD a1.toNat default).many ≤ 1073741824 ∧ (trBy d (d.getD a1.toNat default)).all (fun c => decide (0 ≤ c ∧ c < 256)) = true then some (strOfNums (trBy d (d.getD a1.toNat default))) else none) else some ⟨#[]⟩
theorem cells_of (L : List Int) (h : L.all (fun c => decide (0 ≤ c ∧ c < 256)) = true) : Lib.byteCells (L.map fun n => UInt8.ofNat n.toNat) = L.map (Value.int .u8) := by
  unfold Lib.byteCells
  rw [List.map_map]
  refine List.map_congr_left fun c hc => ?_
  have := of_decide_eq_true (List.all_eq_true.1 h c hc)
  simp only [Function.comp]
  congr 1
  rw [UInt8.toNat_ofNat']
  omega
theorem trBy_take (d : TrieD) (x : StD) (o : Nat) (h : o < x.many.toNat) : (trBy d x).take (o + 1) = (trBy d x).take o ++ [(d.getD (x.first.toNat + o) default).by_] := by
  unfold trBy
  rw [List.take_succ_eq_append_getElem (by simpa using h)]
  simp
set_option maxHeartbeats 4000000 in
set_option maxRecDepth 100000 in
theorem trie_Trie_Bytes.calls (Pa0 : Option Addr) (a0 : Option TrieD) (a1 : Int) (r : ByteArray) (w : World) (ho : OB K97 w Pa0 a0) (h : trie_Trie_Bytes.f a0 a1 = some r) :
    Calls Try.prog 45 #[.pointer Pa0, .int .i64 a1] w fun e w' => e = .returned (.string r) ∧ Below w.heap.size w w' := by
  have hL := fun W g => trie_Trie_is.calls Pa0 a0 a1 (trIs a0 a1) W g rfl
  have HL := Aside0.mk hL
  have HO := Aside0.mk ho
  clear hL
  rcases tr_cases a0 a1 with ht | ⟨ht, d, k, rfl, rfl, hk⟩
  · have h : some (⟨#[]⟩ : ByteArray) = some r := by
      rw [← h]
      cases a0 with
      | none => rfl
      | some d => simp only [trie_Trie_Bytes.f]; rw [ht, if_neg (by simp)]
    obtain rfl := Option.some.inj h
    rw [ht] at HL
    clear ht ho h
    go_enter Try.func45, Try.ntmps45
    go_wp2_with (go_at_call 62; refine (HL.out _ HO.out).mono ?_; rintro e w1 ⟨rfl, ⟨q, rfl⟩⟩)
    go_ret
    exact ⟨rfl, by repeat (first | exact Below.refl _ _ | (with_reducible apply pw_below_drewN))⟩
  · obtain ⟨a, rfl⟩ := OB.p_some ho
    have hK := OB.at ho
    simp only [trie_Trie_Bytes.f] at h
    rw [ht, if_pos rfl, Int.toNat_natCast] at h
    rw [ht] at HL
    by_cases hs : stOk d (d.getD k default) ∧ (d.getD k default).many ≤ 1073741824 ∧ (trBy d (d.getD k default)).all (fun c => decide (0 ≤ c ∧ c < 256)) = true
    rotate_left
    · rw [if_neg hs] at h; cases h
    rw [if_pos hs] at h
    obtain rfl := Option.some.inj h
    obtain ⟨⟨s0, s1, s2, s3⟩, s4, s5⟩ := hs
    obtain ⟨LB, hLB⟩ : ∃ L, trBy d (d.getD k default) = L := ⟨_, rfl⟩
    have htk := trBy_take d (d.getD k default)
    rw [hLB] at s5 htk ⊢
    obtain ⟨b, ad, c, rfl, _⟩ := tr_cells hK k hk
    have hKB := fun W (hb : Below w.heap.size w W) => K97.below hb hK
    have hKk := fun W (hb : Below w.heap.size w W) => tr_cells (hKB W hb) k hk
    obtain ⟨st, hst⟩ : ∃ st, d.getD k default = st := ⟨_, rfl⟩
    rw [hst] at s0 s1 s2 s4 htk hLB hKk
    have hlen : LB.length = st.many.toNat := by rw [← hLB]; unfold trBy; simp
    obtain ⟨lo, hlo⟩ : ∃ n : Nat, st.first = n := ⟨st.first.toNat, by omega⟩
    obtain ⟨m, hm⟩ : ∃ n : Nat, st.many = n := ⟨st.many.toNat, by omega⟩
    rw [hlo, hm] at s2 hKk
    rw [hm] at s4
    rw [hlo, hm, Int.toNat_natCast, Int.toNat_natCast] at htk
    rw [hm, Int.toNat_natCast] at hlen
    have HKK := Aside0.mk hKk
    have HK := Aside0.mk (fun W (hb : Below w.heap.size w W) (j : Nat) (hj : j < d.length) => tr_cells (hKB W hb) j hj)
    have HTK := Aside0.mk htk
    have HLN := Aside0.mk hlen
    have HS := Aside0.mk s5
    have HS2 := Aside0.mk s2
    have hki : (k : Int) < (d.length : Int) := by omega
    clear ht ho s0 s1 hlo hK hKB hKk htk hlen s5 hLB hm s2 hst
    obtain ⟨n, hn⟩ : ∃ n, d.length = n := ⟨_, rfl⟩
    rw [hn] at hk hki s3 HS2 HK HKK
    clear hn
    have hB1 := fun q => Below.alloc (pw_below_drewN (Below.refl w.heap.size w) q) (Nat.le_refl _) (Obj.cells #[Value.pointer none, Value.slice none 0 0] 100)
    have hT1 := fun q => HKK.out _ (hB1 q)
    have HB1 := Aside0.mk hB1
    have HT1 := Aside0.mk hT1
    clear hB1 hT1
    go_enter Try.func45, Try.ntmps45
    go_wp2_with (go_at_call 62; refine (HL.out _ HO.out).mono ?_; rintro e w1 ⟨rfl, ⟨q, rfl⟩⟩; obtain ⟨b2, ad2, c2, e2, g0, y0, y1, y2, y3, y4, y5⟩ := HT1.out q; injection e2 with e2; subst e2)
    have HB2 := Aside0.mk (HB1.out q)
    have HI2 := Aside0.mk (IsB.fresh (B := w.heap.size) (w.drewN q) (Nat.le_refl _))
    clear g0 y0 y1 y2 y3 y4 y5 HB1 HT1
    go_loopg [19] m (fun kx i W => ∃ (o : Nat), i = .int .i64 o ∧ o ≤ m ∧ m - o ≤ kx ∧ Aside0 (IsB w.heap.size w.heap.size ((LB.take o).map (Value.int .u8)) W) ∧ Aside0 (Below w.heap.size w W))
    case atStart => exact ⟨0, rfl, Nat.zero_le _, by omega, HI2, HB2⟩
    case round =>
      clear HI2 HB2
      obtain ⟨o, rfl, ho, hox, HI, HB⟩ := hrel
      by_cases hlt : o < m
      · obtain ⟨b2, ad2, c2, e2, g0, y0, y1, y2, y3, y4, y5⟩ := HKK.out _ HB.out
        injection e2 with e2
        subst e2
        have hs2 := HS2.out
        obtain ⟨b3, ad3, c3, e3, g03, z0, z1, z2, z3, z4, z5⟩ := HK.out _ HB.out (lo + o) (by omega)
        injection e3 with e3
        subst e3
        obtain rfl : ad3 = ad2 := by rw [g0] at g03; injection g03 with e; injection e with e; injection e with e; exact e.symm
        have htk := HTK.out o hlt
        generalize (d.getD (lo + o) default).by_ = y at z1 htk
        have HT := Aside0.mk htk
        have hi0 : (0 : Int) ≤ (lo : Int) + (o : Int) := by omega
        have hi1 : (lo : Int) + (o : Int) < (n : Int) := by omega
        have hi2 : ((lo : Int) + (o : Int)).toNat = lo + o := by omega
        have hi3 : IntKind.i64.wrap ((lo : Int) + (o : Int)) = (lo : Int) + (o : Int) := by rw [i64_w, wrap_id (by omega) (by omega)]
        have hll : ((LB.take o).map (Value.int .u8)).length = o := by rw [List.length_map, List.length_take, HLN.out]; omega
        have HLL := Aside0.mk hll
        have hm9 : m ≤ 1073741824 := by omega
        clear y0 y1 y2 y3 y5 z0 z2 z3 z4 z5 g03 hs2 htk hll
        go_wp2
        go_still_tail 17, (by kernel_rfl)
        go_wp2_with (go_at_call 63; refine (bld_byte_k w.heap.size w.heap.size ((LB.take o).map (Value.int .u8)) y _ (IsB.below HI.out (below_drew (Below.refl _ _))) (by rw [HLL.out]; omega) HB.out.size).mono ?_; rintro e w' ⟨rfl, hi, hb, _⟩; have HI1 := Aside0.mk hi; have HB1 := Aside0.mk ((below_drew HB.out).trans hb); clear hi hb)
        go_roundg (m - (o + 1))
        case measure => omega
        case rel => exact ⟨o + 1, by go_num, by omega, Nat.le_refl _, ⟨by rw [HT.out, List.map_append]; exact HI1.out⟩, HB1⟩
      · obtain rfl : o = m := by omega
        have hI := HI.out
        rw [List.take_of_length_le (by rw [HLN.out]; exact Nat.le_refl _), ← cells_of LB HS.out] at hI
        have HI2 := Aside0.mk hI
        clear HI hI
        go_wp2_with (go_at_call 64; refine (bld_string w.heap.size w.heap.size (LB.map fun n => UInt8.ofNat n.toNat) _ HI2.out HB.out.size).mono ?_; rintro e w' ⟨rfl, hi, hb, _⟩; have HB1 := Aside0.mk (HB.out.trans hb); clear hi hb)
        go_ret
        exact ⟨rfl, HB1.out⟩
end Go.Proofs.Ytbkcjeopcjghgaa.P

/- Proved here: what Go functions of this seat compute, or a law of it; no condition beyond the statement's own. Written for this claim by a program of this session (wip/myprint.py) over the kit's print.py. -/
namespace Go.Proofs.Ytbkcjeopcjghgaa.P
open Go.RowKit Go.Proofs.YtbkcjeopcjghgaaW.PrintWords Go.Proofs.YtbkcjeopcjghgaaW.PrintLast Go.Proofs.YtbkcjeopcjghgaaW.PrintMore
attribute [local go_sem] max2_int min2_int max_two min_two max_three min_three max_four min_four   -- for this text's walks alone
set_option linter.unusedVariables false
set_option linter.unusedSimpArgs false

/-! ### juratref16_Find: function 49 -/
def juratref16_Find.l0 : Nat → List ByteArray → ByteArray → Int → Option (Int)
  | 0, _, _, _ => none
  | k + 1, x0, x1, x5 => if x5 < (x0.length : Int) then (if 0 ≤ x5 then (if (rdOf ByteArray.empty x0 x5).toList = x1.toList then (some x5) else (juratref16_Find.l0 k x0 x1 (wrap64 (x5 + 1)))) else (none)) else (some (-1))
def juratref16_Find.f (k : Nat) (l0 : List ByteArray) (a1 : ByteArray) : Option (Int) := juratref16_Find.l0 k l0 a1 0
theorem juratref16_Find.mono_l : ∀ k, (∀ y0 y1 y2, LeO (juratref16_Find.l0 k y0 y1 y2) (juratref16_Find.l0 (k + 1) y0 y1 y2))
  | 0 => fun _ _ _ r h => by simp [juratref16_Find.l0] at h
  | k + 1 => by
    have ih0 := juratref16_Find.mono_l k
    · intro y0 y1 y2
      unfold juratref16_Find.l0
      repeat' first
      | (with_reducible exact ih0 _ _ _)
      | (with_reducible exact LeO.refl _)
      | (with_reducible exact LeO.none _)
      | (with_reducible refine LeO.ite ?_ ?_)
      | (with_reducible refine LeO.bind ?_ (fun _ => ?_))
      | exact ih0 _ _ _
      | exact LeO.none _
      | refine LeO.ite ?_ ?_
      | refine LeO.bind ?_ (fun _ => ?_)
theorem juratref16_Find.mono : ∀ a0 a1 k, LeO (juratref16_Find.f k a0 a1) (juratref16_Find.f (k + 1) a0 a1) := by
  intro a0 a1 k
  have ih0 := juratref16_Find.mono_l k
  unfold juratref16_Find.f
  repeat' first
      | (with_reducible exact ih0 _ _ _)
      | (with_reducible exact LeO.refl _)
      | (with_reducible exact LeO.none _)
      | (with_reducible refine LeO.ite ?_ ?_)
      | (with_reducible refine LeO.bind ?_ (fun _ => ?_))
      | exact ih0 _ _ _
      | exact LeO.none _
      | refine LeO.ite ?_ ?_
      | refine LeO.bind ?_ (fun _ => ?_)
set_option maxHeartbeats 8000000 in
set_option maxRecDepth 100000 in
theorem juratref16_Find.calls (k : Nat) (A0 : Option Addr) (c0 : Nat) (l0 : List ByteArray) (a1 : ByteArray) (r : Int) (w : World) (hr0 : Kd.C Kd.string w A0 l0.length l0) (hc0 : l0.length ≤ c0) (h : juratref16_Find.f k l0 a1 = some r) :
    Calls Try.prog 49 #[.slice A0 l0.length c0, .string a1] w fun e w' => e = .returned (.int .i64 r) ∧ Drawn0 w w' := by
  have HR0 := Aside0.mk hr0
  have HC0 := Aside0.mk hc0
  clear hr0 hc0
  have H : (juratref16_Find.l0 k l0 a1 0) = some r := h
  clear h
  have H' := Aside0.mk H
  clear H
  go_enter Try.func49, Try.ntmps49
  go_wp2
  go_loopg [5] k (fun kq v5 w' => ∃ (x5_1 : Int), v5 = .int .i64 x5_1 ∧ Aside0 (juratref16_Find.l0 kq l0 a1 x5_1 = some r) ∧ Aside0 (kq ≤ k) ∧ Drawn0 w w')
  case atStart => exact ⟨(0), (by first | rfl | exact isE_ _ | exact isE2_ _ | (simp; done) | (simp [*]; done)), H', ⟨Nat.le_refl _⟩, by repeat (first | exact Drawn0.refl _ | apply Drawn0.step)⟩
  case round =>
    clear H'
    try clear p2
    obtain ⟨x5_1, rfl, HA, HK1, ⟨m1, rfl⟩⟩ := hrel
    cases gk with
    | zero => exact absurd HA.out (by simp [juratref16_Find.l0])
    | succ k1 =>
      have H := HA.out
      clear HA
      simp only [juratref16_Find.l0] at H
      by_cases c3 : x5_1 < (l0.length : Int)
      · rw [if_pos c3] at H
        have c3b0 : decide (x5_1 < (l0.length : Int)) = true := decide_eq_true c3
        clear c3
        by_cases c4 : 0 ≤ x5_1
        · rw [if_pos c4] at H
          have c4b0 : decide (0 ≤ x5_1) = true := decide_eq_true c4
          clear c4
          by_cases c5 : (rdOf ByteArray.empty l0 x5_1).toList = a1.toList
          · rw [if_pos c5] at H
            have c5b0 : ((rdOf ByteArray.empty l0 x5_1).toList == a1.toList) = true := beq_iff_eq.mpr c5
            have c5b1 : ((rdOf ByteArray.empty l0 x5_1).toList != a1.toList) = false := bne_eq_false_iff_eq.mpr c5
            clear c5
            obtain rfl := Option.some.inj H
            have p202 : 0 ≤ (x5_1 : Int) := of_decide_eq_true (by first | (with_reducible assumption) | assumption)
            have q202 : x5_1 < (l0.length : Int) := of_decide_eq_true (by first | (with_reducible assumption) | assumption)
            obtain ⟨ad202, e202, hx202_0⟩ := Kd.at_string HR0.out x5_1 p202 q202
            cases e202
            replace p202 := eq_true p202
            replace q202 := eq_true q202
            go_wp2
            go_ret
            exact ⟨by first | rfl | (simp; done) | (simp [*]; done), by repeat (first | exact Drawn0.refl _ | apply Drawn0.step)⟩
          · rw [if_neg c5] at H
            have c5b0 : ((rdOf ByteArray.empty l0 x5_1).toList == a1.toList) = false := beq_eq_false_iff_ne.mpr c5
            have c5b1 : ((rdOf ByteArray.empty l0 x5_1).toList != a1.toList) = true := bne_iff_ne.mpr c5
            have H' := Aside0.mk H
            clear H
            have p202 : 0 ≤ (x5_1 : Int) := of_decide_eq_true (by first | (with_reducible assumption) | assumption)
            have q202 : x5_1 < (l0.length : Int) := of_decide_eq_true (by first | (with_reducible assumption) | assumption)
            obtain ⟨ad202, e202, hx202_0⟩ := Kd.at_string HR0.out x5_1 p202 q202
            cases e202
            replace p202 := eq_true p202
            replace q202 := eq_true q202
            go_wp2
            go_roundg k1
            case measure => have := HK1.out; omega
            case rel => exact ⟨(wrap64 (x5_1 + 1)), (by first | rfl | exact isE_ _ | exact isE2_ _ | (simp; done) | (simp [*]; done)), H', ⟨by have := HK1.out; omega⟩, by repeat (first | exact Drawn0.refl _ | apply Drawn0.step)⟩
        · rw [if_neg c4] at H
          exact absurd H (by simp)
      · rw [if_neg c3] at H
        have c3b0 : decide (x5_1 < (l0.length : Int)) = false := decide_eq_false c3
        clear c3
        obtain rfl := Option.some.inj H
        go_wp2
        go_ret
        exact ⟨by first | rfl | (simp; done) | (simp [*]; done), by repeat (first | exact Drawn0.refl _ | apply Drawn0.step)⟩

end Go.Proofs.Ytbkcjeopcjghgaa.P

/- What a trie tells of its states, by their paths: the next one, its number, its bytes, where bytes lead; no condition beyond the sizes that stand in each statement. -/
namespace Go.Proofs.Ytbkcjeopcjghgaa.Base
open Go Go.RowKit Go.Proofs.YtbkcjeopcjghgaaW.PrintWords Go.Proofs.YtbkcjeopcjghgaaW.PrintMore Go.Proofs.Ytbkcjeopcjghgaa.P
set_option linter.unusedVariables false

theorem findB_none (s : ByteArray) : ∀ (l : List ByteArray) (i : Nat), s ∉ l → findB s l i = -1
  | [], i, _ => rfl
  | x :: l, i, h => by
    have ef : findB s (x :: l) i = if x = s then (i : Int) else findB s l (i + 1) := rfl
    rw [ef, if_neg (fun e => h (by rw [e]; exact List.mem_cons_self)), findB_none s l (i + 1) (fun h2 => h (List.mem_cons_of_mem _ h2))]
theorem rfind16_ev (l : List ByteArray) (s : ByteArray) (hl : l.length ≤ 8796093022208) : Ev (fun k => juratref16_Find.f k l s) (findB s l 0) := by
  have key : ∀ (d i : Nat), i + d = l.length → Ev (fun k => juratref16_Find.l0 k l s (i : Int)) (findB s (l.drop i) i) := by
    intro d
    induction d with
    | zero =>
      intro i hi
      refine Ev.ret fun k => ?_
      simp only [juratref16_Find.l0]
      rw [if_neg (by omega), List.drop_of_length_le (by omega)]
      rfl
    | succ d ih =>
      intro i hi
      have e : rdOf ByteArray.empty l (i : Int) = l.getD i ByteArray.empty := rfl
      rw [getD_drop l i ByteArray.empty (by omega)]
      generalize l.getD i ByteArray.empty = x at e
      have ef : findB s (x :: l.drop (i + 1)) i = if x = s then (i : Int) else findB s (l.drop (i + 1)) (i + 1) := rfl
      rw [ef]
      by_cases h : x = s
      · rw [if_pos h]
        refine Ev.ret fun k => ?_
        simp only [juratref16_Find.l0]
        rw [if_pos (by omega), if_pos (by omega), e, if_pos (by rw [h])]
      · rw [if_neg h]
        refine Ev.step (fun k => ?_) (ih (i + 1) (by omega))
        simp only [juratref16_Find.l0]
        rw [if_pos (by omega), if_pos (by omega), e, if_neg (fun q => h (toList_iff.1 q)), wrap_id (by omega) (by omega)]
        rfl
  have := key l.length 0 (by omega)
  rw [List.drop_zero] at this
  exact this
/-- The number of a path. -/
def idxP (w : List ByteArray) (p : List UInt8) : Int := findB (strP p) (paths w) 0
theorem paths_length (w : List ByteArray) : (paths w).length = (trN w).length := by unfold paths; rw [List.length_map]
theorem idx_at {w : List ByteArray} (hs : srt w) {i : Nat} {n : NodeD} (h : (trN w)[i]? = some n) : idxP w n.path = (i : Int) := by
  have hm : strP n.path ∈ paths w := List.mem_map.2 ⟨n, List.mem_of_getElem? h, rfl⟩
  obtain ⟨j, e1, e2, e3⟩ := findB_mem _ _ 0 hm
  rw [Nat.zero_add] at e1
  rw [paths_length] at e2
  have h2 : (trN w)[j]? = some (trN w)[j] := List.getElem?_eq_getElem e2
  have hp : strP ((trN w)[j]).path = strP n.path := by
    rw [← e3]
    unfold paths
    rw [List.getD_eq_getElem?_getD, List.getElem?_map, h2]
    rfl
  have hp2 : ((trN w)[j]).path = n.path := by rw [← LL_strP ((trN w)[j]).path, hp, LL_strP]
  have := path_inj hs h2 h hp2
  unfold idxP
  rw [e1, this]
theorem idx_none {w : List ByteArray} (hs : srt w) {p : List UInt8} (h : ¬ isB w (strP p)) : idxP w p = -1 := findB_none _ _ _ (fun hm => h ((paths_mem hs _).1 hm))
theorem isB_pre {w : List ByteArray} {p q : List UInt8} (h : isB w (strP (p ++ q))) : isB w (strP p) := by
  rcases h with h | ⟨t, h1, h2⟩
  · left
    have : p ++ q = [] := by rw [← LL_strP (p ++ q), h, LL_empty]
    rw [(List.append_eq_nil_iff.1 this).1]
    rfl
  · refine .inr ⟨t, h1, ?_⟩
    rw [LL_strP] at h2 ⊢
    exact (List.prefix_append p q).trans h2
/-- The bytes below a node rise. -/
theorem nxt_spec (d : TrieD) (c : Int) : ∀ (f lo hi : Nat), hi - lo < f → (∀ a b, lo ≤ a → a < b → b < hi → (d.getD a default).by_ < (d.getD b default).by_) →
    match nxt d c f lo hi with
    | some k => lo ≤ k ∧ k < hi ∧ (d.getD k default).by_ = c
    | none => ∀ k, lo ≤ k → k < hi → (d.getD k default).by_ ≠ c
  | 0, lo, hi, h, _ => by omega
  | f + 1, lo, hi, h, hr => by
    unfold nxt
    by_cases hlt : lo < hi
    · rw [if_pos hlt]
      by_cases h1 : (d.getD ((lo + hi) / 2) default).by_ = c
      · rw [if_pos h1]
        exact ⟨by omega, by omega, h1⟩
      · rw [if_neg h1]
        by_cases h2 : (d.getD ((lo + hi) / 2) default).by_ < c
        · rw [if_pos h2]
          have ih := nxt_spec d c f ((lo + hi) / 2 + 1) hi (by omega) (fun a b h3 h4 h5 => hr a b (by omega) h4 h5)
          cases hn : nxt d c f ((lo + hi) / 2 + 1) hi with
          | some k =>
            rw [hn] at ih
            exact ⟨by omega, ih.2.1, ih.2.2⟩
          | none =>
            rw [hn] at ih
            intro k h3 h4 h5
            by_cases h6 : (lo + hi) / 2 + 1 ≤ k
            · exact ih k h6 h4 h5
            · rcases Nat.eq_or_lt_of_le (show k ≤ (lo + hi) / 2 by omega) with h7 | h7
              · exact h1 (by rw [← h7]; exact h5)
              · have := hr k ((lo + hi) / 2) h3 h7 (by omega)
                omega
        · rw [if_neg h2]
          have ih := nxt_spec d c f lo ((lo + hi) / 2) (by omega) (fun a b h3 h4 h5 => hr a b h3 h4 (by omega))
          cases hn : nxt d c f lo ((lo + hi) / 2) with
          | some k =>
            rw [hn] at ih
            exact ⟨ih.1, by omega, ih.2.2⟩
          | none =>
            rw [hn] at ih
            intro k h3 h4 h5
            by_cases h6 : k < (lo + hi) / 2
            · exact ih k h3 h6 h5
            · rcases Nat.eq_or_lt_of_le (show (lo + hi) / 2 ≤ k by omega) with h7 | h7
              · exact h1 (by rw [h7]; exact h5)
              · have := hr ((lo + hi) / 2) k (by omega) h7 h4
                omega
    · rw [if_neg hlt]
      intro k h3 h4
      omega
section
variable {w : List ByteArray} {i : Nat} {n : NodeD}
theorem trS_getD (hs : srt w) (h : (trN w)[i]? = some n) : (trS w).getD i default = done w (firstOf w i) n := by
  rw [List.getD_eq_getElem?_getD, state_at hs h]; rfl
theorem tr_is (h : (trN w)[i]? = some n) : trIs (some (trS w)) (i : Int) = true := trIs_some _ _ (by rw [trS_length]; exact (List.getElem?_eq_some_iff.1 h).1)
theorem kid_by (hs : srt w) (h : (trN w)[i]? = some n) {o : Nat} (ho : o < (n.gr w).length) : ((trS w).getD (firstOf w i + o) default).by_ = (((n.gr w).getD o (0, 0, 0)).1 : Int) := by
  rw [trS_getD hs (kid_at hs h ho)]
  rfl
theorem st_ok (hs : srt w) (hz : sizes w ≤ 16777216) (h : (trN w)[i]? = some n) : stOk (trS w) (done w (firstOf w i) n) := by
  obtain ⟨h1, h2⟩ := first_gt hs h
  have hl := trN_le hs
  have e := trS_length w
  unfold trK at hl
  refine ⟨by show (0 : Int) ≤ (firstOf w i : Int); omega, by show (0 : Int) ≤ ((n.gr w).length : Int); omega, by show (firstOf w i : Int) + ((n.gr w).length : Int) ≤ _; omega, by omega⟩
theorem done_first : (done w (firstOf w i) n).first = (firstOf w i : Int) := rfl
theorem done_many : (done w (firstOf w i) n).many = ((n.gr w).length : Int) := rfl
/-- Where a byte leads. -/
theorem next_is (hs : srt w) (hz : sizes w ≤ 16777216) (h : (trN w)[i]? = some n) (c : UInt8) : trie_Trie_Next.f (some (trS w)) (i : Int) (c.toNat : Int) = some (if idxP w (n.path ++ [c]) ≥ 0 then (idxP w (n.path ++ [c]), true) else (0, false)) := by
  simp only [trie_Trie_Next.f]
  rw [tr_is h, if_pos rfl, Int.toNat_natCast, trS_getD hs h, if_pos (st_ok hs hz h)]
  unfold nxtOf
  rw [done_first, done_many, Int.toNat_natCast, Int.toNat_natCast, show ((firstOf w i : Int) + ((n.gr w).length : Int)).toNat = firstOf w i + (n.gr w).length by omega]
  have hr : ∀ a b, firstOf w i ≤ a → a < b → b < firstOf w i + (n.gr w).length → ((trS w).getD a default).by_ < ((trS w).getD b default).by_ := fun a b h1 h2 h3 => by
    obtain ⟨p, rfl⟩ : ∃ p, a = firstOf w i + p := ⟨a - firstOf w i, by omega⟩
    obtain ⟨q, rfl⟩ : ∃ q, b = firstOf w i + q := ⟨b - firstOf w i, by omega⟩
    rw [kid_by hs h (by omega), kid_by hs h (by omega)]
    have := (List.pairwise_iff_getElem.1 (gr_up hs (node_ok hs h)) p q (by omega) (by omega) (by omega)).1
    rw [List.getD_eq_getElem?_getD, List.getD_eq_getElem?_getD, List.getElem?_eq_getElem (by omega), List.getElem?_eq_getElem (by omega)]
    show ((n.gr w)[p].1 : Int) < ((n.gr w)[q].1 : Int)
    omega
  have sp := nxt_spec (trS w) (c.toNat : Int) ((n.gr w).length + 1) (firstOf w i) (firstOf w i + (n.gr w).length) (by omega) hr
  cases hn : nxt (trS w) (c.toNat : Int) ((n.gr w).length + 1) (firstOf w i) (firstOf w i + (n.gr w).length) with
  | some k =>
    rw [hn] at sp
    obtain ⟨s1, s2, s3⟩ := sp
    obtain ⟨o, rfl⟩ : ∃ o, k = firstOf w i + o := ⟨k - firstOf w i, by omega⟩
    rw [kid_by hs h (by omega)] at s3
    have hk := kid_at hs h (o := o) (by omega)
    have hid := idx_at hs hk
    have hp : (mkN i n ((n.gr w).getD o (0, 0, 0))).path = n.path ++ [c] := by
      show n.path ++ [UInt8.ofNat _] = _
      rw [show ((n.gr w).getD o (0, 0, 0)).1 = c.toNat by omega, UInt8.ofNat_toNat]
    rw [hp] at hid
    rw [hid, if_pos (by omega)]
  | none =>
    rw [hn] at sp
    have hno : ¬ isB w (strP (n.path ++ [c])) := by
      rintro (hb | ⟨t, ht, hp⟩)
      · have : n.path ++ [c] = [] := by rw [← LL_strP (n.path ++ [c]), hb, LL_empty]
        simp at this
      · rw [LL_strP] at hp
        obtain ⟨o, g, ho, hd, hg, _⟩ := kid_find hs h ht hp
        have := sp (firstOf w i + o) (by omega) (by omega)
        rw [kid_by hs h ho, hd, hg] at this
        exact this rfl
    rw [idx_none hs hno, if_neg (by omega)]
theorem ends_is (hs : srt w) (h : (trN w)[i]? = some n) : trie_Trie_Ends.f (some (trS w)) (i : Int) = some (if n.own w = true then ((n.lo : Int), true) else (0, false)) := by
  unfold trie_Trie_Ends.f
  have e : trAt (some (trS w)) (i : Int) = done w (firstOf w i) n := by show (trS w).getD ((i : Int)).toNat default = _; rw [Int.toNat_natCast, trS_getD hs h]
  have ei : (done w (firstOf w i) n).id = if n.own w = true then (n.lo : Int) else -1 := rfl
  rw [tr_is h, e, ei]
  by_cases ho : n.own w = true
  · rw [if_pos ho, if_pos ⟨rfl, by omega⟩, if_pos ho]
  · rw [if_neg ho, if_neg (by rintro ⟨_, h⟩; omega), if_neg ho]
theorem depth_is (hs : srt w) (h : (trN w)[i]? = some n) : trDep (some (trS w)) (i : Int) = (n.path.length : Int) := by
  unfold trDep
  have e : trAt (some (trS w)) (i : Int) = done w (firstOf w i) n := by show (trS w).getD ((i : Int)).toNat default = _; rw [Int.toNat_natCast, trS_getD hs h]
  rw [tr_is h, if_pos rfl, e]
  rfl
/-- The bytes of all texts lead along the paths. -/
theorem fnd_is (hs : srt w) (hz : sizes w ≤ 16777216) : ∀ (l : List UInt8) (i : Nat) (n : NodeD), (trN w)[i]? = some n → fndL (some (trS w)) l (i : Int) = some (if idxP w (n.path ++ l) ≥ 0 then some (idxP w (n.path ++ l)) else none)
  | [], i, n, h => by
    simp only [fndL]
    rw [List.append_nil, idx_at hs h, if_pos (by omega)]
  | c :: l, i, n, h => by
    simp only [fndL]
    rw [next_is hs hz h c]
    by_cases hb : isB w (strP (n.path ++ [c]))
    · obtain ⟨j, m, h1, h2⟩ := path_has hs _ (n.path ++ [c]) rfl (by
        rcases hb with hb | ⟨t, ht, hp⟩
        · left; rw [← LL_strP (n.path ++ [c]), hb, LL_empty]
        · rw [LL_strP] at hp; exact .inr ⟨t, ht, hp⟩)
      have hid := idx_at hs h1
      rw [h2] at hid
      rw [hid, if_pos (by omega)]
      simp only [if_true]
      rw [fnd_is hs hz l j m h1, h2, List.append_assoc]
      rfl
    · rw [idx_none hs hb, if_neg (by omega)]
      have : ¬ isB w (strP (n.path ++ c :: l)) := fun h2 => hb (isB_pre (q := l) (by rw [List.append_assoc]; exact h2))
      rw [idx_none hs this, if_neg (by omega)]
      rfl
theorem find_is (hs : srt w) (hz : sizes w ≤ 16777216) (p : ByteArray) (hp : p.size ≤ 4611686018427387904) : trie_Trie_Find.f (some (trS w)) p = some (if findB p (paths w) 0 ≥ 0 then (findB p (paths w) 0, true) else (0, false)) := by
  have e : idxP w (LL p) = findB p (paths w) 0 := by unfold idxP; rw [strP_LL]
  have h := fnd_is hs hz (LL p) 0 _ path_root
  rw [List.nil_append, e] at h
  unfold trie_Trie_Find.f
  rw [if_pos hp]
  show fndR _ (fndL (some (trS w)) (LL p) ((0 : Nat) : Int)) = _
  rw [h]
  by_cases hq : findB p (paths w) 0 ≥ 0
  · rw [if_pos hq, if_pos hq]
    simp only [fndR]
    have hm : p ∈ paths w := by
      refine Classical.byContradiction fun hn => ?_
      rw [findB_none p (paths w) 0 hn] at hq
      omega
    obtain ⟨j, e1, e2, e3⟩ := findB_mem p (paths w) 0 hm
    rw [Nat.zero_add] at e1
    rw [e1, trIs_some _ _ (by rw [trS_length, ← paths_length]; exact e2)]
  · rw [if_neg hq, if_neg hq]
    rfl
end
/-- Of what is no state nothing is told. -/
theorem no_state {d : TrieD} {s : Int} (h : trIs (some d) s = false) (c : Int) : trie_Trie_Next.f (some d) s c = some (0, false) ∧ trie_Trie_Above.f (some d) s = some (0, 0, false) ∧ trie_Trie_Ends.f (some d) s = some (0, false) ∧
    trie_Trie_Depth.f (some d) s = some 0 ∧ trie_Trie_Path.f (some d) s = some ByteArray.empty ∧ trie_Trie_Bytes.f (some d) s = some ByteArray.empty := by
  have hd : trDep (some d) s = 0 := by unfold trDep; rw [h]; rfl
  refine ⟨?_, ?_, ?_, ?_, ?_, ?_⟩
  · simp only [trie_Trie_Next.f]; rw [h]; rfl
  · unfold trie_Trie_Above.f; rw [h]; rfl
  · unfold trie_Trie_Ends.f; rw [h]; rfl
  · unfold trie_Trie_Depth.f; rw [h]; rfl
  · unfold trie_Trie_Path.f; rw [hd]; rfl
  · simp only [trie_Trie_Bytes.f]; rw [h]; rfl

end Go.Proofs.Ytbkcjeopcjghgaa.Base

/- Where texts fall back to: the longest path with which a text ends; no program in sight. -/
namespace Go.Proofs.Ytbkcjeopcjghgaa.Base
open Go Go.RowKit Go.Proofs.YtbkcjeopcjghgaaW.PrintWords Go.Proofs.YtbkcjeopcjghgaaW.PrintMore Go.Proofs.Ytbkcjeopcjghgaa.P
set_option linter.unusedVariables false

section
variable {w : List ByteArray}
theorem idx_iff (hs : srt w) (p : List UInt8) : idxP w p ≥ 0 ↔ isB w (strP p) := by
  constructor
  · intro h
    refine Classical.byContradiction fun hn => ?_
    rw [idx_none hs hn] at h
    omega
  · intro h
    obtain ⟨i, n, h1, h2⟩ := path_has hs _ p rfl (by
      rcases h with h | ⟨t, ht, hp⟩
      · left; rw [← LL_strP p, h, LL_empty]
      · rw [LL_strP] at hp; exact .inr ⟨t, ht, hp⟩)
    have := idx_at hs h1
    rw [h2] at this
    omega
theorem idx_node (hs : srt w) {p : List UInt8} (h : idxP w p ≥ 0) : ∃ (i : Nat) (n : NodeD), (trN w)[i]? = some n ∧ n.path = p ∧ idxP w p = (i : Int) := by
  obtain ⟨i, n, h1, h2⟩ := path_has hs _ p rfl (by
    rcases (idx_iff hs p).1 h with h | ⟨t, ht, hp⟩
    · left; rw [← LL_strP p, h, LL_empty]
    · rw [LL_strP] at hp; exact .inr ⟨t, ht, hp⟩)
  exact ⟨i, n, h1, h2, by rw [← h2]; exact idx_at hs h1⟩
theorem idx_nil (hs : srt w) : idxP w [] = 0 := idx_at hs path_root
theorem idx_pre (hs : srt w) {p q : List UInt8} (h : idxP w (p ++ q) ≥ 0) : idxP w p ≥ 0 := (idx_iff hs p).2 (isB_pre ((idx_iff hs _).1 h))
theorem idx_neg (hs : srt w) {p : List UInt8} (h : ¬ idxP w p ≥ 0) : idxP w p = -1 := idx_none hs (fun hb => h ((idx_iff hs p).2 hb))
/-- The longest path with which a text ends. -/
def lsufx (w : List ByteArray) : List UInt8 → List UInt8
  | [] => []
  | c :: p => if idxP w (c :: p) ≥ 0 then c :: p else lsufx w p
theorem lsufx_is (hs : srt w) : ∀ p, idxP w (lsufx w p) ≥ 0
  | [] => by show idxP w [] ≥ 0; rw [idx_nil hs]; omega
  | c :: p => by
    unfold lsufx
    by_cases h : idxP w (c :: p) ≥ 0
    · rw [if_pos h]; exact h
    · rw [if_neg h]; exact lsufx_is hs p
theorem lsufx_length : ∀ p, (lsufx w p).length ≤ p.length
  | [] => Nat.le_refl _
  | c :: p => by
    have := lsufx_length p
    unfold lsufx
    split
    · exact Nat.le_refl _
    · rw [List.length_cons]; omega
theorem lsufx_self {p : List UInt8} (h : idxP w p ≥ 0) : lsufx w p = p := by
  cases p with
  | nil => rfl
  | cons c p => unfold lsufx; rw [if_pos h]
theorem lsufx_not {c : UInt8} {p : List UInt8} (h : ¬ idxP w (c :: p) ≥ 0) : lsufx w (c :: p) = lsufx w p := by
  show (if idxP w (c :: p) ≥ 0 then c :: p else lsufx w p) = _
  rw [if_neg h]
theorem lsufx_snoc (hs : srt w) (c : UInt8) : ∀ r, lsufx w (r ++ [c]) = lsufx w (lsufx w r ++ [c])
  | [] => rfl
  | a :: r => by
    by_cases h : idxP w (a :: r) ≥ 0
    · rw [lsufx_self h]
    · have h2 : ¬ idxP w (a :: (r ++ [c])) ≥ 0 := fun h3 => h (idx_pre hs (p := a :: r) (q := [c]) h3)
      rw [List.cons_append, lsufx_not h2, lsufx_not h, lsufx_snoc hs c r]
/-- Where a byte leads from a text. -/
def stepP (w : List ByteArray) (p : List UInt8) (c : UInt8) : List UInt8 := lsufx w (p ++ [c])
theorem step_self {p : List UInt8} {c : UInt8} (h : idxP w (p ++ [c]) ≥ 0) : stepP w p c = p ++ [c] := lsufx_self h
theorem step_nil {c : UInt8} (h : ¬ idxP w [c] ≥ 0) : stepP w [] c = [] := lsufx_not h
theorem step_fall (hs : srt w) {p : List UInt8} {c : UInt8} (h : ¬ idxP w (p ++ [c]) ≥ 0) : stepP w p c = stepP w (lsufx w p.tail) c := by
  cases p with
  | nil =>
    show lsufx w [c] = lsufx w (lsufx w [] ++ [c])
    rfl
  | cons a r =>
    unfold stepP
    rw [List.cons_append] at h ⊢
    rw [lsufx_not h]
    exact lsufx_snoc hs c r
theorem step_text (hs : srt w) (p : List UInt8) (c : UInt8) : stepP w (lsufx w p) c = lsufx w (p ++ [c]) := (lsufx_snoc hs c p).symm
/-- A state falls back to a shorter one, that comes ahead of it. -/
def failP (w : List ByteArray) (p : List UInt8) : List UInt8 := lsufx w p.tail
theorem fail_short (p : List UInt8) (h : p ≠ []) : (failP w p).length < p.length := by
  have h1 := lsufx_length (w := w) p.tail
  have h2 : p.tail.length = p.length - 1 := List.length_tail
  have h3 : 0 < p.length := List.length_pos_iff.2 h
  unfold failP
  omega
theorem idx_lt (hs : srt w) {i j : Nat} {n m : NodeD} (hi : (trN w)[i]? = some n) (hj : (trN w)[j]? = some m) (h : n.path.length < m.path.length) : i < j := by
  obtain ⟨h1, h2⟩ := List.getElem?_eq_some_iff.1 hi
  obtain ⟨h3, h4⟩ := List.getElem?_eq_some_iff.1 hj
  rcases Nat.lt_trichotomy i j with h5 | h5 | h5
  · exact h5
  · subst h5
    rw [hi] at hj
    injection hj with e
    rw [e] at h
    omega
  · have := List.pairwise_iff_getElem.1 (nodes_up hs (trK w)) j i h3 h1 h5
    have e1 : (nodesAt w (trK w))[i] = n := h2
    have e2 : (nodesAt w (trK w))[j] = m := h4
    rw [e1, e2] at this
    unfold ahN at this
    omega
theorem fail_kid (hs : srt w) {p : List UInt8} {c : UInt8} (h : p ≠ []) : failP w (p ++ [c]) = stepP w (failP w p) c := by
  cases p with
  | nil => exact absurd rfl h
  | cons a r => exact lsufx_snoc hs c r
theorem fail_one (c : UInt8) : failP w [c] = [] := rfl
end

end Go.Proofs.Ytbkcjeopcjghgaa.Base

/- Where a byte leads from a state of a trie, by the states to which it falls back: the state of the longest path with which the text ends. -/
namespace Go.Proofs.Ytbkcjeopcjghgaa.Base
open Go Go.RowKit Go.Proofs.YtbkcjeopcjghgaaW.PrintWords Go.Proofs.YtbkcjeopcjghgaaW.PrintMore Go.Proofs.Ytbkcjeopcjghgaa.P
set_option linter.unusedVariables false

/-- The states to which the states fall back. -/
def failL (w : List ByteArray) : List Int := (trN w).map fun n => idxP w (failP w n.path)
section
variable {w : List ByteArray}
theorem failL_length : (failL w).length = (trN w).length := List.length_map ..
theorem failL_at {i : Nat} {n : NodeD} (h : (trN w)[i]? = some n) : rd (failL w) (i : Int) = idxP w (failP w n.path) := by
  show (failL w).getD (i : Int).toNat 0 = _
  rw [Int.toNat_natCast, List.getD_eq_getElem?_getD]
  unfold failL
  rw [List.getElem?_map, h]
  rfl
/-- Rows that tell the fall right for all states whose paths are no longer than so many bytes. -/
def FailTo (w : List ByteArray) (FV : List Int) (k : Nat) : Prop := FV.length = (trN w).length ∧ ∀ (i : Nat) (n : NodeD), (trN w)[i]? = some n → n.path.length ≤ k → n.path ≠ [] → rd FV (i : Int) = idxP w (failP w n.path)
theorem fall_is (hs : srt w) (hz : sizes w ≤ 16777216) (FV : List Int) (c : UInt8) : ∀ (k m : Nat) (p : List UInt8), p.length = k → k < m → FailTo w FV k → idxP w p ≥ 0 → fallF (trS w) FV (c.toNat : Int) m (idxP w p) = some (idxP w (stepP w p c)) := by
  intro k
  induction k using Nat.strongRecOn with
  | _ k ih =>
    intro m p hk hm hF hp
    cases m with
    | zero => omega
    | succ m =>
      obtain ⟨i, n, h1, h2, h3⟩ := idx_node hs hp
      rw [h3]
      unfold fallF
      rw [next_is hs hz h1 c, h2]
      by_cases hn : idxP w (p ++ [c]) ≥ 0
      · rw [if_pos hn]
        show (if true = true then some (idxP w (p ++ [c])) else _) = _
        rw [if_pos rfl, step_self hn]
      · rw [if_neg hn]
        show (if false = true then some 0 else if ((i : Nat) : Int) = 0 then some 0 else _) = _
        rw [if_neg (by decide)]
        by_cases hpn : p = []
        · subst hpn
          rw [idx_nil hs] at h3
          rw [if_pos h3.symm, step_nil hn, idx_nil hs]
        · have hi0 : ¬ ((i : Nat) : Int) = 0 := fun e => by
            have : i = 0 := by omega
            subst this
            have hr := path_root (w := w)
            rw [h1] at hr
            injection hr with e2
            rw [e2] at h2
            exact hpn h2.symm
          have hlt := (List.getElem?_eq_some_iff.1 h1).1
          rw [if_neg hi0, if_pos ⟨by omega, by rw [hF.1]; omega⟩, hF.2 i n h1 (by rw [h2]; omega) (by rw [h2]; exact hpn), h2]
          have hs1 := fail_short (w := w) p hpn
          rw [ih (failP w p).length (by omega) m (failP w p) rfl (by omega) ⟨hF.1, fun j q hj hl => hF.2 j q hj (by omega)⟩ (lsufx_is hs _), show stepP w (failP w p) c = stepP w p c from (step_fall hs hn).symm]
end
end Go.Proofs.Ytbkcjeopcjghgaa.Base

/- Links are made: the walk of New, over the trie's states; each falls back by the states ahead of it. -/
namespace Go.Proofs.Ytbkcjeopcjghgaa.P
open Go Go.RowKit Go.Proofs.YtbkcjeopcjghgaaW.PrintWords Go.Proofs.YtbkcjeopcjghgaaW.PrintLast Go.Proofs.YtbkcjeopcjghgaaW.PrintMore Go.Proofs.Ytbkcjeopcjghgaa.Base
set_option linter.unusedVariables false
set_option linter.unusedSimpArgs false

/-- What holds while links are made: two rows of numbers of their own, and the links' own three cells. -/
structure LinkI (w1 W : World) (b gF cF gO cO : Nat) (Pt : Option Addr) (FV OV : List Int) : Prop where
  hb : W.heap[b]? = some (.cells #[.pointer Pt, .slice (some ⟨gF, 0, none⟩) FV.length cF, .slice (some ⟨gO, 0, none⟩) OV.length cO] 91 (0, 0))
  hF : Kd.R (Kd.int .i64) 3 W w1.heap.size (fun k => k = gF) (.slice (some ⟨gF, 0, none⟩) FV.length cF) FV
  hO : Kd.R (Kd.int .i64) 3 W w1.heap.size (fun k => k = gO) (.slice (some ⟨gO, 0, none⟩) OV.length cO) OV
  ne : gF ≠ gO
  nb : w1.heap.size ≤ b
  hB : Below w1.heap.size w1 W
section
variable {w1 W : World} {b gF cF gO cO : Nat} {Pt : Option Addr} {FV OV : List Int}
theorem LinkI.below (h : LinkI w1 W b gF cF gO cO Pt FV OV) {W1 : World} (hb : Below W.heap.size W W1) : LinkI w1 W1 b gF cF gO cO Pt FV OV :=
  ⟨(hb.block _ (blk_lt h.hb)).trans h.hb, Kd.R_below h.hF hb, Kd.R_below h.hO hb, h.ne, h.nb, h.hB.trans (hb.mono h.hB.size)⟩
theorem LinkI.putF (h : LinkI w1 W b gF cF gO cO Pt FV OV) (i : Nat) (y : Int) : LinkI w1 (W.setCell ⟨gF, i, none⟩ (.int .i64 y)) b gF cF gO cO Pt (FV.set i y) OV := by
  have hl : (FV.set i y).length = FV.length := List.length_set ..
  have hp := (Kd.R_putg h.hF (i : Int) y).1
  rw [Int.toNat_natCast] at hp
  have hg : (Value.slice (some ⟨gF, 0, none⟩) FV.length cF).ownBlock = some gF := by simp [Value.ownBlock]
  obtain ⟨cells, hc⟩ := Kd.R_typed h.hF gF hg
  have n1 : b ≠ gF := ty_ne h.hb hc (by decide)
  refine ⟨?_, ?_, Kd.R_far (p := ⟨gF, i, none⟩) h.hO (fun k hk e => h.ne (by rw [← hk]; exact e.symm)) _, h.ne, h.nb, Below.setCell (p := ⟨gF, i, none⟩) h.hB (Kd.R_base h.hF gF hg) _⟩
  · rw [hl]; exact (Below.heap_setCell W ⟨gF, i, none⟩ _ b n1).trans h.hb
  · rw [hl]; exact hp
theorem LinkI.putO (h : LinkI w1 W b gF cF gO cO Pt FV OV) (i : Nat) (y : Int) : LinkI w1 (W.setCell ⟨gO, i, none⟩ (.int .i64 y)) b gF cF gO cO Pt FV (OV.set i y) := by
  have hl : (OV.set i y).length = OV.length := List.length_set ..
  have hp := (Kd.R_putg h.hO (i : Int) y).1
  rw [Int.toNat_natCast] at hp
  have hg : (Value.slice (some ⟨gO, 0, none⟩) OV.length cO).ownBlock = some gO := by simp [Value.ownBlock]
  obtain ⟨cells, hc⟩ := Kd.R_typed h.hO gO hg
  have n1 : b ≠ gO := ty_ne h.hb hc (by decide)
  refine ⟨?_, Kd.R_far (p := ⟨gO, i, none⟩) h.hF (fun k hk e => h.ne (by rw [← hk]; exact e)) _, ?_, h.ne, h.nb, Below.setCell (p := ⟨gO, i, none⟩) h.hB (Kd.R_base h.hO gO hg) _⟩
  · rw [hl]; exact (Below.heap_setCell W ⟨gO, i, none⟩ _ b n1).trans h.hb
  · rw [hl]; exact hp
end
theorem info17 : (Try.prog.info? 3).map (fun i => (i.zero, i.size, i.bytes)) = some (some (.int .i64 0), 1, 8) := by kernel_rfl
end Go.Proofs.Ytbkcjeopcjghgaa.P

/- One state more: where it falls back to, by the state above it. -/
namespace Go.Proofs.Ytbkcjeopcjghgaa.Base
open Go Go.RowKit Go.Proofs.YtbkcjeopcjghgaaW.PrintWords Go.Proofs.YtbkcjeopcjghgaaW.PrintMore Go.Proofs.Ytbkcjeopcjghgaa.P
set_option linter.unusedVariables false

section
variable {w : List ByteArray}
theorem above_val7 (hs : srt w) {i : Nat} {n : NodeD} (h : (trN w)[i]? = some n) (h0 : 0 < i) : trie_Trie_Above.f (some (trS w)) (i : Int) = some (n.above, (n.by_ : Int), true) := by
  unfold trie_Trie_Above.f
  have e : trAt (some (trS w)) (i : Int) = done w (firstOf w i) n := by show (trS w).getD ((i : Int)).toNat default = _; rw [Int.toNat_natCast, trS_getD hs h]
  rw [tr_is h, if_pos ⟨rfl, by omega⟩, e]
  rfl
theorem par_is (hs : srt w) {i : Nat} {n : NodeD} (h : (trN w)[i]? = some n) (h0 : 0 < i) : ∃ (j : Nat) (m : NodeD) (c : UInt8), (trN w)[j]? = some m ∧ j < i ∧ n.path = m.path ++ [c] ∧ trie_Trie_Above.f (some (trS w)) (i : Int) = some ((j : Int), (c.toNat : Int), true) := by
  obtain ⟨j, m, o, h1, h2, h3, h4, h5⟩ := above_is hs h h0
  have hg := kid_path hs h1 (g := (m.gr w).getD o (0, 0, 0)) (getD_mem _ _ _ h3)
  have ha := above_val7 hs h h0
  generalize (m.gr w).getD o (0, 0, 0) = g at h5 hg
  have hp : n.path = m.path ++ [UInt8.ofNat g.1] := by rw [h5]; rfl
  refine ⟨j, m, UInt8.ofNat g.1, h1, idx_lt hs h1 h (by rw [hp, List.length_append, List.length_singleton]; omega), hp, ?_⟩
  rw [ha, h5]
  show some ((j : Int), (g.1 : Int), true) = _
  rw [UInt8.toNat_ofNat']
  rw [Nat.mod_eq_of_lt (show g.1 < 2 ^ 8 from hg.1)]
theorem fail_next (hs : srt w) (hz : sizes w ≤ 16777216) {k : Nat} {n : NodeD} (h : (trN w)[k]? = some n) (h0 : 0 < k) (FV : List Int) (hl : FV.length = (trN w).length) (hF : ∀ (j : Nat) (m : NodeD), (trN w)[j]? = some m → j < k → rd FV (j : Int) = idxP w (failP w m.path)) :
    ∃ (j : Nat) (m : NodeD) (c : UInt8), (trN w)[j]? = some m ∧ j < k ∧ trie_Trie_Above.f (some (trS w)) (k : Int) = some ((j : Int), (c.toNat : Int), true) ∧ (0 < j → fallF (trS w) FV (c.toNat : Int) (m.path.length + 1) (rd FV (j : Int)) = some (idxP w (failP w n.path))) ∧ (j = 0 → idxP w (failP w n.path) = 0) := by
  obtain ⟨j, m, c, h1, h2, h3, h4⟩ := par_is hs h h0
  refine ⟨j, m, c, h1, h2, h4, fun hj => ?_, fun hj => ?_⟩
  · have hne : m.path ≠ [] := fun e => by
      have e1 := idx_at hs h1
      rw [e, idx_nil hs] at e1
      omega
    have hsh := fail_short (w := w) m.path hne
    rw [hF j m h1 h2, fall_is hs hz FV c _ _ (failP w m.path) rfl (by omega) ⟨hl, fun i q hi hq hqn => hF i q hi (by
      have := idx_lt hs hi h1 (by omega)
      omega)⟩ (lsufx_is hs _), h3, fail_kid hs hne]
  · subst hj
    have hr : m.path = [] := by
      rw [path_root] at h1
      injection h1 with h1
      rw [← h1]
    rw [h3, hr, List.nil_append, fail_one, idx_nil hs]
end
end Go.Proofs.Ytbkcjeopcjghgaa.Base

/- Links are made: the walk of New. -/
namespace Go.Proofs.Ytbkcjeopcjghgaa.P
open Go Go.RowKit Go.Proofs.YtbkcjeopcjghgaaW.PrintWords Go.Proofs.YtbkcjeopcjghgaaW.PrintLast Go.Proofs.YtbkcjeopcjghgaaW.PrintMore Go.Proofs.Ytbkcjeopcjghgaa.Base
set_option linter.unusedVariables false
set_option linter.unusedSimpArgs false

/-- A row of so many zeros, as make lays it. -/
def Z17 (n : Nat) : Obj := .cells (madeCells #[.int .i64 0] n) 3
theorem mk17 (n : Nat) (hn : n ≤ 16777217) (W : World) : (Instr.makeSlice 52 (.int .i64 n) (.int .i64 n)).run Try.prog W = .ok (.slice (some ⟨W.heap.size, 0, none⟩) n n) (W.alloc (Z17 n)) := by
  obtain ⟨i0, hi, hzz⟩ := Option.map_eq_some_iff.1 info17
  simp only [Prod.mk.injEq] at hzz
  obtain ⟨hz0, hz1, hz2⟩ := hzz
  have hr := run_make (P := Try.prog) (w := W) 52 3 i0 (.int .i64 0) Try.underlying52 hi hz0 .i64 .i64 (n : Int) (n : Int) (by omega) (by omega) (by rw [hz2]; omega) (by omega)
  simp only [Int.toNat_natCast] at hr
  rw [hz1, Nat.mul_one] at hr
  exact hr
theorem R17 (n : Nat) (hn : n ≤ 16777217) (W : World) (base : Nat) (hb : base ≤ W.heap.size) : Kd.R (Kd.int .i64) 3 (W.alloc (Z17 n)) base (fun k => k = W.heap.size) (.slice (some ⟨W.heap.size, 0, none⟩) n n) (List.replicate n 0) := by
  have hl : (List.replicate n (0 : Int)).length = n := List.length_replicate
  have hrep : Reps ((Kd.int .i64).M W base (fun _ => False)) 1 (List.replicate n (0 : Int)) (madeCells #[.int .i64 0] (n * 1)).toList := Kd.reps_made (R := (Kd.int .i64).M W base (fun _ => False)) (z := .int .i64 0) (z0 := (0 : Int)) rfl (by decide) rfl n
  rw [Nat.mul_one] at hrep
  refine ⟨fun k hk => ?_, (madeCells #[.int .i64 0] n).toList, ?_, ?_⟩
  · simpa [Value.ownBlock] using hk.symm
  · have h2 := World.ownsRow_lit (base := base) (e := 3) (size := 1) W (madeCells #[.int .i64 0] n) n hb (by simp [maxLen]; omega) (by have := hrep.1; rw [hl] at this; simpa using this)
    rw [hl]
    exact h2
  · exact hrep.imp_ (fun p c hp => hp)
theorem R_news {w : World} {base e : Nat} {ok : Nat → Prop} {v : Value} {xs : List Int} (h : Kd.R (Kd.int .i64) e w base ok v xs) (o : Obj) : Kd.R (Kd.int .i64) e (w.alloc o) base ok v xs := Kd.R_below h ((Below.refl _ _).alloc (Nat.le_refl _) o)
theorem below_new {w0 W : World} (h : Below w0.heap.size w0 W) (o : Obj) : Below w0.heap.size w0 (W.alloc o) := h.alloc h.size o
theorem link_start {n : Nat} (hn : n ≤ 16777217) {w1 A A' : World} {Pt : Option Addr} {g1 g2 : Nat} (hA : Below w1.heap.size w1 A) (hs : A.heap.size = w1.heap.size) (hA' : Below (A.alloc (Z17 n)).heap.size (A.alloc (Z17 n)) A') (hs' : A'.heap.size = w1.heap.size + 1)
    (hg : (g1 = w1.heap.size ∧ g2 = w1.heap.size + 1) ∨ (g1 = w1.heap.size + 1 ∧ g2 = w1.heap.size)) :
    LinkI w1 ((A'.alloc (Z17 n)).alloc (.cells #[.pointer Pt, .slice (some ⟨g1, 0, none⟩) n n, .slice (some ⟨g2, 0, none⟩) n n] 91)) (w1.heap.size + 1 + 1) g1 n g2 n Pt (List.replicate n 0) (List.replicate n 0) := by
  have hl : (List.replicate n (0 : Int)).length = n := List.length_replicate
  have r1 := R_news (R_news (Kd.R_below (R17 n hn A w1.heap.size (by omega)) hA') (Z17 n)) (.cells #[.pointer Pt, .slice (some ⟨g1, 0, none⟩) n n, .slice (some ⟨g2, 0, none⟩) n n] 91)
  have r2 := R_news (R17 n hn A' w1.heap.size (by omega)) (.cells #[.pointer Pt, .slice (some ⟨g1, 0, none⟩) n n, .slice (some ⟨g2, 0, none⟩) n n] 91)
  rw [hs] at r1
  rw [hs'] at r2
  have hsz : (A'.alloc (Z17 n)).heap.size = w1.heap.size + 1 + 1 := by
    show (A'.heap.push _).size = _
    rw [Array.size_push, hs']
  have hb0 : Below w1.heap.size w1 A' := (below_new hA (Z17 n)).trans (hA'.mono (by show _ ≤ (A.heap.push _).size; rw [Array.size_push]; omega))
  refine ⟨?_, ?_, ?_, by rcases hg with ⟨rfl, rfl⟩ | ⟨rfl, rfl⟩ <;> omega, by omega, below_new (below_new hb0 _) _⟩
  · rw [hl, ← hsz]
    exact heap_alloc_new _ _
  · rw [hl]
    rcases hg with ⟨rfl, rfl⟩ | ⟨rfl, rfl⟩
    · exact r1
    · exact r2
  · rw [hl]
    rcases hg with ⟨rfl, rfl⟩ | ⟨rfl, rfl⟩
    · exact r2
    · exact r1
theorem link_begin {n : Nat} (hn : n ≤ 16777217) {w1 A' : World} {Pt : Option Addr} {g1 g2 : Nat} (h : (∃ m, A' = (w1.drewN m).alloc (Z17 n)) ∨ ∃ m k, A' = ((w1.drewN m).alloc (Z17 n)).drewN k)
    (hg : (g1 = w1.heap.size ∧ g2 = w1.heap.size + 1) ∨ (g1 = w1.heap.size + 1 ∧ g2 = w1.heap.size)) :
    LinkI w1 ((A'.alloc (Z17 n)).alloc (.cells #[.pointer Pt, .slice (some ⟨g1, 0, none⟩) n n, .slice (some ⟨g2, 0, none⟩) n n] 91)) (w1.heap.size + 1 + 1) g1 n g2 n Pt (List.replicate n 0) (List.replicate n 0) := by
  rcases h with ⟨m, rfl⟩ | ⟨m, k, rfl⟩
  · exact link_start hn (A := w1.drewN m) (pw_below_drewN (Below.refl _ _) m) rfl (Below.refl _ _) (by show (w1.heap.push _).size = _; rw [Array.size_push]) hg
  · exact link_start hn (A := w1.drewN m) (pw_below_drewN (Below.refl _ _) m) rfl (pw_below_drewN (Below.refl _ _) k) (by show (w1.heap.push _).size = _; rw [Array.size_push]) hg
def link_New.f (a0 : Option SetD) : Option (Option LinkD) := if okT (setL a0) then some (some ⟨trS (setL a0), failL (setL a0)⟩) else none
set_option maxHeartbeats 16000000 in
set_option maxRecDepth 100000 in
theorem link_New.calls (Pa0 : Option Addr) (a0 : Option SetD) (r : Option LinkD) (w : World) (ho : OB K57 w Pa0 a0) (h : link_New.f a0 = some r) :
    Calls Try.prog 39 #[.pointer Pa0] w fun e w' => ∃ P0_ : Option Addr, e = .returned (.pointer P0_) ∧ OB K91 w' P0_ r ∧ Below w.heap.size w w' := by
  unfold link_New.f at h
  by_cases hs : okT (setL a0)
  rotate_left
  · rw [if_neg hs] at h; cases h
  rw [if_pos hs] at h
  obtain rfl := Option.some.inj h
  have hT := trie_New.calls Pa0 a0 (some (trS (setL a0))) w ho (if_pos hs)
  generalize setL a0 = l at hs hT ⊢
  have hsrt := srt_of hs.1
  have hz := hs.2.2.2
  obtain ⟨n, hn⟩ : ∃ n, (trN l).length = n := ⟨_, rfl⟩
  have hnS : (trS l).length = n := by rw [trS_length]; exact hn
  have hn1 : n ≤ 16777217 := by have := trN_le hsrt; unfold trK at this; omega
  have hn0 : 0 < n := by have := (List.getElem?_eq_some_iff.1 (path_root (w := l))).1; omega
  have HT := Aside0.mk hT
  have HN := Aside0.mk hn
  have HNS := Aside0.mk hnS
  clear ho h hT hn hnS
  go_enter Try.func39, Try.ntmps39
  go_wp2_with (go_at_call 57; refine HT.out.mono ?_; rintro e w1 ⟨Pt, rfl, hOB, hB1⟩; have HO := Aside0.mk hOB; have HB1 := Aside0.mk hB1; clear hOB hB1)
  have hLen : ∀ W, Below w1.heap.size w1 W → Calls Try.prog 42 #[.pointer Pt] W fun e w' => e = .returned (.int .i64 (n : Int)) ∧ Drawn0 W w' := fun W hB => trie_Trie_Len.calls Pt (some (trS l)) (n : Int) W (OB.below hB HO.out) (by show some (((trS l).length : Nat) : Int) = _; rw [HNS.out])
  have HLEN := Aside0.mk hLen
  clear hLen
  have hmk := mk17 n hn1
  go_cut [4] from 14 (fun v wx => ∃ b gF cF gO cO, v = .pointer (some ⟨b, 0, none⟩) ∧ LinkI w1 wx b gF cF gO cO Pt (List.replicate n 0) (List.replicate n 0))
  case first =>
    go_region_with (first
      | (go_at_call 42; refine (HLEN.out _ (by repeat (first | exact Below.refl _ _ | (with_reducible apply below_new) | (with_reducible apply pw_below_drewN) | (with_reducible apply below_drew)))).mono ?_; rintro e wl ⟨rfl, ⟨q, rfl⟩⟩)
      | fail)
    all_goals
      clear hmk
      go_wp2_with fail
      go_meet
      case rel =>
        exact ⟨_, _, _, _, _, rfl, link_begin hn1 (by first | exact .inl ⟨_, rfl⟩ | exact .inr ⟨_, _, rfl⟩) (by first | exact .inl ⟨rfl, rfl⟩ | exact .inr ⟨rfl, rfl⟩)⟩
  case rest =>
    obtain ⟨b, gF, cF, gO, cO, rfl, hI⟩ := hcut
    have hl0 : (List.replicate n (0 : Int)).length = n := List.length_replicate
    have hc2 := blk_cell hI.hb 2
    have hc1 := Kd.R_celln 0 hI.hO 0 (by omega) (by omega)
    simp only [List.getElem?_toArray, List.getElem?_cons_zero, List.getElem?_cons_succ] at hc2
    rw [hl0] at hc2
    obtain ⟨hc3, hf3⟩ := hc1
    simp only [Int.toNat_zero] at hc3 hf3
    have h0n : (0 : Int) < (n : Int) := by omega
    have hput := hI.putO 0 (-1)
    have HI := Aside0.mk hput
    have HL0 := Aside0.mk hl0
    clear hput hI hl0 hmk
    go_wp2_with fail
    go_loopg [5, 6, 7, 8, 9, 10, 11] n (fun kx s x6 x7 x8 x9 x10 x11 W => ∃ (k : Nat) (FV OV : List Int), s = .int .i64 k ∧ 1 ≤ k ∧ k ≤ n ∧ n - k ≤ kx ∧ FV.length = n ∧ OV.length = n ∧
      Aside0 (∀ (j : Nat) (m : NodeD), (trN l)[j]? = some m → j < k → rd FV (j : Int) = idxP l (failP l m.path)) ∧ Aside0 (∀ j, k ≤ j → rd FV (j : Int) = 0) ∧ Aside0 (LinkI w1 W b gF cF gO cO Pt FV OV))
    case atStart =>
      have hl0 := HL0.out
      have hr : ∀ j : Nat, rd (List.replicate n (0 : Int)) (j : Int) = 0 := fun j => by
        show (List.replicate n (0 : Int)).getD (j : Int).toNat 0 = 0
        rw [Int.toNat_natCast, List.getD_eq_getElem?_getD, List.getElem?_replicate]
        split <;> rfl
      refine ⟨1, _, _, rfl, Nat.le_refl _, hn0, by omega, hl0, by rw [List.length_set]; exact hl0, ⟨fun j m hj hlt => ?_⟩, ⟨fun j _ => hr j⟩, HI⟩
      obtain rfl : j = 0 := by omega
      rw [hr 0]
      have e := hj
      rw [path_root] at e
      injection e with e
      rw [← e]
      exact (idx_nil hsrt).symm
    case round =>
      clear HI HL0 hc2 hc3 hf3
      obtain ⟨k, FV, OV, rfl, hk1, hkn, hkx, hFl, hOl, HF, HZ, HI⟩ := hrel
      have hLk := HLEN.out wr HI.out.hB
      have HLK := Aside0.mk hLk
      clear hLk
      by_cases hlt : k < n
      · have hd : decide ((k : Int) < (n : Int)) = true := decide_eq_true (by omega)
        obtain ⟨nd, hnd⟩ : ∃ nd, (trN l)[k]? = some nd := ⟨_, List.getElem?_eq_getElem (by rw [HN.out]; exact hlt)⟩
        obtain ⟨j, m, c, hj, hjk, hab, hfal, hzero⟩ := fail_next hsrt hz hnd hk1 FV (by rw [hFl]; exact HN.out.symm) HF.out
        have hAb := fun W hB => trie_Trie_Above.calls Pt (some (trS l)) (k : Int) (j : Int) (c.toNat : Int) true W (OB.below hB HO.out) hab
        have HAB := Aside0.mk hAb
        have HND := Aside0.mk hnd
        have HFAL := Aside0.mk hfal
        have HZERO := Aside0.mk hzero
        clear hAb hab hnd hfal hzero hj
        go_upto_if 42 with (first | (go_at_call 42; refine HLK.out.mono ?_; rintro e wl ⟨rfl, ⟨q, rfl⟩⟩) | (go_at_call 58; refine (HAB.out _ (pw_below_drewN HI.out.hB _)).mono ?_; rintro e wl ⟨rfl, ⟨q2, rfl⟩⟩))
        have HI2 := Aside0.mk (HI.out.below (pw_below_drewN (Below.refl _ _) (q + q2)))
        have HW := Aside0.mk (show wr.drewN (q + q2) = (wr.drewN q).drewN q2 from by rw [World.drewN_drewN])
        clear HAB HLK
        go_cut [] (fun wx => ∃ FV' : List Int, FV'.length = n ∧ Aside0 (∀ (j : Nat) (m : NodeD), (trN l)[j]? = some m → j < k + 1 → rd FV' (j : Int) = idxP l (failP l m.path)) ∧ Aside0 (∀ j, k + 1 ≤ j → rd FV' (j : Int) = 0) ∧ Aside0 (LinkI w1 wx b gF cF gO cO Pt FV' OV))
        case first =>
          by_cases hj0 : j = 0
          · have b1 : decide ((0 : Int) < (j : Int)) = false := decide_eq_false (by omega)
            go_wp2_with fail
            go_meet
            case rel =>
              refine ⟨FV, hFl, ⟨fun i x hi hik => ?_⟩, ⟨fun i hi => HZ.out i (by omega)⟩, HI2⟩
              rcases Nat.lt_or_ge i k with h | h
              · exact HF.out i x hi h
              · obtain rfl : i = k := by omega
                have e := HND.out
                rw [hi] at e
                injection e with e
                rw [HZ.out i (Nat.le_refl _), e, HZERO.out hj0]
          · have b1 : decide ((0 : Int) < (j : Int)) = true := decide_eq_true (by omega)
            have hI0 := HI.out
            have hfl := hI0.hF
            rw [hFl] at hfl
            have c1 : ∀ m', (wr.drewN m').cell? ⟨b, 1, none⟩ = some (.slice (some ⟨gF, 0, none⟩) n cF) := fun m' => by have := blk_cell hI0.hb 1; rw [hFl] at this; exact this
            have hcj := (Kd.R_celln 0 hfl (j : Int) (by omega) (by omega)).1
            rw [Int.toNat_natCast] at hcj
            have hck := Kd.R_celln 0 hfl (k : Int) (by omega) (by omega)
            rw [Int.toNat_natCast] at hck
            obtain ⟨y, hy⟩ : ∃ y, rd FV (j : Int) = y := ⟨_, rfl⟩
            have c2 : ∀ m', (wr.drewN m').cell? ⟨gF, j, none⟩ = some (.int .i64 y) := fun m' => by rw [← hy]; exact hcj
            obtain ⟨u0, hu0⟩ : ∃ u, wr.cell? ⟨gF, k, none⟩ = some u := ⟨_, hck.1⟩
            have c3 : ∀ m', (wr.drewN m').cell? ⟨gF, k, none⟩ = some u0 := fun m' => hu0
            have c4 : ∀ m', (wr.drewN m').frozen? ⟨gF, k, none⟩ = false := fun m' => hck.2
            have hfa := HFAL.out (by omega)
            rw [hy] at hfa
            have hFc := fun m' => link_fall (n := n) (trS l) FV (c.toNat : Int) _ y _ (wr.drewN m') (hI0.below (pw_below_drewN (Below.refl _ _) m')).hb (OB.below (hI0.below (pw_below_drewN (Below.refl _ _) m')).hB HO.out) (Kd.R_reads' (hI0.below (pw_below_drewN (Below.refl _ _) m')).hF).2.2 hfa
            have HFC := Aside0.mk hFc
            have i1 : (j : Int) < (n : Int) := by omega
            have i2 : (k : Int) < (n : Int) := by omega
            have HIk := Aside0.mk hI0
            clear hI0 hfl hcj hck hu0 hfa hFc HI
            go_upto_region 9 with (fail)
            go_region_with (go_at_call 59; refine (HFC.out _).mono ?_; rintro e wl ⟨rfl, ⟨q3, rfl⟩⟩)
            all_goals
              go_wp2_with fail
              go_meet
              case rel =>
                have hs : ∀ (i : Nat) (y : Int), rd (FV.set k y) (i : Int) = if k = i then y else rd FV (i : Int) := fun i y => by
                  show (FV.set k y).getD (i : Int).toNat 0 = if k = i then y else FV.getD (i : Int).toNat 0
                  rw [Int.toNat_natCast, List.getD_eq_getElem?_getD, List.getElem?_set]
                  by_cases h : k = i
                  · subst h
                    rw [if_pos rfl, if_pos rfl, if_pos (by omega)]
                    rfl
                  · rw [if_neg h, if_neg h, List.getD_eq_getElem?_getD]
                refine ⟨FV.set k (idxP l (failP l nd.path)), by rw [List.length_set]; exact hFl, ⟨fun i x hi hik => ?_⟩, ⟨fun i hi => ?_⟩, ⟨(HIk.out.below (pw_below_drewN (Below.refl _ _) _)).putF k _⟩⟩
                · rw [hs]
                  rcases Nat.lt_or_ge i k with h | h
                  · rw [if_neg (by omega)]; exact HF.out i x hi h
                  · obtain rfl : i = k := by omega
                    have e := HND.out
                    rw [hi] at e
                    injection e with e
                    rw [if_pos rfl, e]
                · rw [hs, if_neg (by omega)]; exact HZ.out i (by omega)
        case rest =>
          obtain ⟨FV', hFl', HF', HZ', HI'⟩ := hcut
          have hfv := HF'.out k nd HND.out (by omega)
          obtain ⟨ff, mf, hf1, hf2, hf3⟩ := idx_node hsrt (lsufx_is hsrt nd.path.tail)
          have hff : ff < n := by have := (List.getElem?_eq_some_iff.1 hf1).1; have := HN.out; omega
          rw [show idxP l (failP l nd.path) = (ff : Int) from hf3] at hfv
          have hI0 := HI'.out
          have hfl := hI0.hF
          rw [hFl'] at hfl
          have c1 := blk_cell hI0.hb 1
          have c5 := blk_cell hI0.hb 2
          simp only [List.getElem?_toArray, List.getElem?_cons_zero, List.getElem?_cons_succ] at c1 c5
          rw [hFl'] at c1
          rw [hOl] at c5
          have hck := (Kd.R_celln 0 hfl (k : Int) (by omega) (by omega)).1
          have hck2 : wc.cell? ⟨gF, k, none⟩ = some (.int .i64 (ff : Int)) := by
            rw [← hfv]
            have := hck
            rw [Int.toNat_natCast] at this
            exact this
          have i2 : (k : Int) < (n : Int) := by omega
          have i3 : (ff : Int) < (n : Int) := by omega
          have HFF := Aside0.mk hf1
          clear hI0 hfl hck hfv hf1 hf2 hf3 HI HI2 HW HFAL HZERO
          go_upto_region 11 with (fail)
          have hI3 := HI'.out
          have hol := hI3.hO
          rw [hOl] at hol
          have d1 : wc.cell? ⟨b, 2, none⟩ = some (.slice (some ⟨gO, 0, none⟩) n cO) := c5
          have hcf := (Kd.R_celln 0 hol (ff : Int) (by omega) (by omega)).1
          have hco := Kd.R_celln 0 hol (k : Int) (by omega) (by omega)
          rw [Int.toNat_natCast] at hcf hco
          obtain ⟨z, hzz⟩ : ∃ z, rdOf 0 OV (ff : Int) = z := ⟨_, rfl⟩
          have d2 : wc.cell? ⟨gO, ff, none⟩ = some (.int .i64 z) := by rw [← hzz]; exact hcf
          obtain ⟨u1, hu1⟩ : ∃ u, wc.cell? ⟨gO, k, none⟩ = some u := ⟨_, hco.1⟩
          have d3 : wc.cell? ⟨gO, k, none⟩ = some u1 := hu1
          have d4 : wc.frozen? ⟨gO, k, none⟩ = false := hco.2
          clear hI3 hol hcf hco hu1
          go_cut [] (fun wx => ∃ OV' : List Int, OV'.length = n ∧ Aside0 (LinkI w1 wx b gF cF gO cO Pt FV' OV'))
          case first =>
            go_region
            all_goals
              go_wp2_with fail
              go_meet
              case rel =>
                refine ⟨OV.set k z, by rw [List.length_set]; exact hOl, ⟨(HI'.out.below (pw_below_drewN (Below.refl _ _) _)).putO k z⟩⟩
          case rest =>
            obtain ⟨OV2, hO2, HI2⟩ := hcut
            have HI3 := Aside0.mk HI2.out
            have hI4 := HI2.out
            have hol2 := hI4.hO
            rw [hO2] at hol2
            have c7 := blk_cell hI4.hb 2
            simp only [List.getElem?_toArray, List.getElem?_cons_zero, List.getElem?_cons_succ] at c7
            rw [hO2] at c7
            have f1 : ∀ m', (wc.drewN m').cell? ⟨b, 2, none⟩ = some (.slice (some ⟨gO, 0, none⟩) n cO) := fun _ => c7
            have hco2 := Kd.R_celln 0 hol2 (k : Int) (by omega) (by omega)
            rw [Int.toNat_natCast] at hco2
            obtain ⟨u2, hu2⟩ : ∃ u, wc.cell? ⟨gO, k, none⟩ = some u := ⟨_, hco2.1⟩
            have f2 : ∀ m', (wc.drewN m').cell? ⟨gO, k, none⟩ = some u2 := fun _ => hu2
            have f3 : ∀ m', (wc.drewN m').frozen? ⟨gO, k, none⟩ = false := fun _ => hco2.2
            have f4 : (k : Int) < (n : Int) := by omega
            clear hI4 hol2 c7 hco2 hu2 d1 d2 d3 d4 c1 c5 hck2
            by_cases hown : mf.own l = true
            · have he := ends_is hsrt HFF.out
              rw [if_pos hown] at he
              have HE := Aside0.mk (fun W (g : Below w1.heap.size w1 W) => trie_Trie_Ends.calls Pt (some (trS l)) (ff : Int) (mf.lo : Int) true W (OB.below g HO.out) he)
              clear he hown
              go_wp2_with (go_at_call 60; refine (HE.out _ HI3.out.hB).mono ?_; rintro e wl ⟨rfl, ⟨q4, rfl⟩⟩)
              go_roundg (n - (k + 1))
              case measure => omega
              case rel =>
                refine ⟨k + 1, FV', OV2.set k ff, by go_num, by omega, by omega, Nat.le_refl _, hFl', by rw [List.length_set]; exact hO2, HF', HZ', ⟨(HI3.out.below (pw_below_drewN (Below.refl _ _) _)).putO k _⟩⟩
            · have he := ends_is hsrt HFF.out
              rw [if_neg hown] at he
              have HE := Aside0.mk (fun W (g : Below w1.heap.size w1 W) => trie_Trie_Ends.calls Pt (some (trS l)) (ff : Int) 0 false W (OB.below g HO.out) he)
              clear he hown
              go_wp2_with (go_at_call 60; refine (HE.out _ HI3.out.hB).mono ?_; rintro e wl ⟨rfl, ⟨q4, rfl⟩⟩)
              go_roundg (n - (k + 1))
              case measure => omega
              case rel =>
                refine ⟨k + 1, FV', OV2, by go_num, by omega, by omega, Nat.le_refl _, hFl', hO2, HF', HZ', ⟨HI3.out.below (pw_below_drewN (Below.refl _ _) _)⟩⟩
      · obtain rfl : k = n := by omega
        have hd : decide ((k : Int) < (k : Int)) = false := decide_eq_false (by omega)
        go_wp2_with (go_at_call 42; refine HLK.out.mono ?_; rintro e wl ⟨rfl, ⟨q, rfl⟩⟩)
        go_ret
        have hI := HI.out.below (pw_below_drewN (Below.refl _ _) q)
        have hFV : FV = failL l := by
          apply List.ext_getElem
          · rw [hFl, failL_length]; exact HN.out.symm
          · intro j h1 h2
            have hj : j < (trN l).length := by rw [failL_length] at h2; exact h2
            have e1 := HF.out j _ (List.getElem?_eq_getElem hj) (by have := HN.out; omega)
            rw [← failL_at (List.getElem?_eq_getElem hj)] at e1
            have e2 : FV.getD (j : Int).toNat 0 = (failL l).getD (j : Int).toNat 0 := e1
            rw [Int.toNat_natCast, List.getD_eq_getElem?_getD, List.getD_eq_getElem?_getD, List.getElem?_eq_getElem h1, List.getElem?_eq_getElem h2] at e2
            exact e2
        subst hFV
        refine ⟨_, rfl, ?_, HB1.out.trans (hI.hB.mono HB1.out.size)⟩
        show K91.R _ _ _
        exact ⟨b, Pt, some ⟨gF, 0, none⟩, cF, _, rfl, hI.hb, (Kd.R_reads' hI.hF).2.1, OB.below hI.hB HO.out, (Kd.R_reads' hI.hF).2.2⟩
end Go.Proofs.Ytbkcjeopcjghgaa.P

/- A state's path and bytes, and what the reference tells of them; no condition beyond the sizes that stand in each statement. -/
namespace Go.Proofs.Ytbkcjeopcjghgaa.Base
open Go Go.RowKit Go.Proofs.YtbkcjeopcjghgaaW.PrintWords Go.Proofs.YtbkcjeopcjghgaaW.PrintMore Go.Proofs.Ytbkcjeopcjghgaa.P
set_option linter.unusedVariables false

theorem strNums_path (p : List UInt8) : strOfNums (p.map fun b => (b.toNat : Int)) = strP p := by
  unfold strOfNums strP
  rw [List.map_map]
  have : (fun n : Int => UInt8.ofNat n.toNat) ∘ (fun b : UInt8 => (b.toNat : Int)) = id := by
    funext b
    simp [Function.comp]
  rw [this, List.map_id]
section
variable {w : List ByteArray} {i : Nat} {n : NodeD}
theorem above_val (hs : srt w) (h : (trN w)[i]? = some n) (h0 : 0 < i) : trie_Trie_Above.f (some (trS w)) (i : Int) = some (n.above, (n.by_ : Int), true) := by
  unfold trie_Trie_Above.f
  have e : trAt (some (trS w)) (i : Int) = done w (firstOf w i) n := by show (trS w).getD ((i : Int)).toNat default = _; rw [Int.toNat_natCast, trS_getD hs h]
  rw [tr_is h, if_pos ⟨rfl, by omega⟩, e]
  rfl
theorem root_is (h : (trN w)[0]? = some n) : n.path = [] := by
  rw [path_root] at h
  injection h with h
  rw [← h]
theorem upP_is (hs : srt w) : ∀ (k i : Nat) (n : NodeD), (trN w)[i]? = some n → n.path.length = k → upP (some (trS w)) k (i : Int) = n.path.map fun b => (b.toNat : Int)
  | 0, i, n, h, hk => by rw [List.length_eq_zero_iff.1 hk]; rfl
  | k + 1, i, n, h, hk => by
    have h0 : 0 < i := by
      rcases Nat.eq_zero_or_pos i with h1 | h1
      · subst h1
        rw [root_is h] at hk
        simp at hk
      · exact h1
    have ha := above_val hs h h0
    obtain ⟨j, m, o, h1, h2, h3, h4, h5⟩ := above_is hs h h0
    have hg := kid_path hs h1 (g := (m.gr w).getD o (0, 0, 0)) (getD_mem _ _ _ h3)
    simp only [upP, ha]
    generalize (m.gr w).getD o (0, 0, 0) = g at h5 hg
    have hp : n.path = m.path ++ [UInt8.ofNat g.1] := by rw [h5]; rfl
    have hab : n.above = (j : Int) := by rw [h5]; rfl
    have hby : n.by_ = g.1 := by rw [h5]; rfl
    rw [hp, List.length_append, List.length_singleton] at hk
    rw [hab, upP_is hs k j m h1 (by omega), hp, List.map_append, hby]
    congr 1
    simp only [List.map_cons, List.map_nil]
    rw [UInt8.toNat_ofNat']
    congr 1
    omega
theorem path_val (hs : srt w) (hz : sizes w ≤ 16777216) (h : (trN w)[i]? = some n) : trie_Trie_Path.f (some (trS w)) (i : Int) = some (strP n.path) := by
  have hl : n.path.length ≤ 1073741824 := by
    rcases path_is hs h with h1 | ⟨t, ht, hp⟩
    · rw [h1]; simp
    · have h2 := hp.length_le
      rw [LL_length] at h2
      have key : ∀ (l : List ByteArray) (t : Nat), t < l.length → (l.getD t ByteArray.empty).size ≤ sizes l := by
        intro l
        induction l with
        | nil => intro t ht; simp at ht
        | cons x l ih =>
          intro t ht
          simp only [sizes]
          cases t with
          | zero => rw [List.getD_cons_zero]; omega
          | succ t =>
            rw [List.getD_cons_succ]
            have := ih t (by simpa using ht)
            omega
      have := key w t ht
      omega
  unfold trie_Trie_Path.f
  rw [depth_is hs h, if_pos ⟨by omega, by omega⟩, Int.toNat_natCast, upP_is hs _ i n h rfl, strNums_path]
/-- The bytes below a node. -/
def byL (w : List ByteArray) (n : NodeD) : List Int := (n.gr w).map fun g => (g.1 : Int)
theorem trBy_is (hs : srt w) (h : (trN w)[i]? = some n) : trBy (trS w) (done w (firstOf w i) n) = byL w n := by
  unfold trBy byL
  rw [done_first, done_many, Int.toNat_natCast, Int.toNat_natCast]
  apply List.ext_getElem
  · simp
  · intro o h1 h2
    have ho : o < (n.gr w).length := by simpa using h1
    rw [List.getElem_map, List.getElem_map, List.getElem_range, kid_by hs h ho, List.getD_eq_getElem?_getD, List.getElem?_eq_getElem ho, Option.getD_some]
theorem bytes_val (hs : srt w) (hz : sizes w ≤ 16777216) (h : (trN w)[i]? = some n) : trie_Trie_Bytes.f (some (trS w)) (i : Int) = some (strOfNums (byL w n)) := by
  have hf := (first_gt hs h).2
  have hl := trN_le hs
  unfold trK at hl
  have hall : (byL w n).all (fun c => decide (0 ≤ c ∧ c < 256)) = true := by
    rw [List.all_eq_true]
    intro c hc
    obtain ⟨g, hg, rfl⟩ := List.mem_map.1 hc
    have := (kid_path hs h hg).1
    exact decide_eq_true (by omega)
  simp only [trie_Trie_Bytes.f]
  rw [tr_is h, if_pos rfl, Int.toNat_natCast, trS_getD hs h, trBy_is hs h, if_pos ⟨st_ok hs hz h, by show ((n.gr w).length : Int) ≤ _; omega, hall⟩]
/-- With which bytes texts go on behind one. -/
def goesOn (p s : ByteArray) : Prop := s.size = p.size + 1 ∧ s.extract 0 p.size = p
instance (p s : ByteArray) : Decidable (goesOn p s) := inferInstanceAs (Decidable (_ ∧ _))
def rbF (p : ByteArray) : List ByteArray → List Int
  | [] => []
  | s :: l => if goesOn p s then bt s (p.size : Int) :: rbF p l else rbF p l
theorem rbF_append (p : ByteArray) : ∀ a b : List ByteArray, rbF p (a ++ b) = rbF p a ++ rbF p b
  | [], b => rfl
  | s :: a, b => by
    simp only [List.cons_append, rbF]
    rw [rbF_append p a b]
    split <;> rfl
theorem rbF_none (p : ByteArray) : ∀ a : List ByteArray, (∀ s ∈ a, ¬ goesOn p s) → rbF p a = []
  | [], _ => rfl
  | s :: a, h => by
    simp only [rbF]
    rw [if_neg (h s List.mem_cons_self), rbF_none p a (fun x hx => h x (List.mem_cons_of_mem _ hx))]
theorem rbF_length (p : ByteArray) : ∀ a : List ByteArray, (rbF p a).length ≤ a.length
  | [] => Nat.le_refl _
  | s :: a => by
    have := rbF_length p a
    simp only [rbF]
    split <;> simp <;> omega
theorem goesOn_path {p q : List UInt8} : goesOn (strP p) (strP q) ↔ ∃ c, q = p ++ [c] := by
  unfold goesOn
  rw [strP_size, strP_size]
  constructor
  · rintro ⟨h1, h2⟩
    have h3 : LL ((strP q).extract 0 p.length) = p := by rw [h2, LL_strP]
    rw [LL_extract, List.drop_zero, LL_strP] at h3
    have h4 : (q.drop p.length).length = 1 := by rw [List.length_drop]; omega
    obtain ⟨c, hc⟩ := List.length_eq_one_iff.1 h4
    refine ⟨c, ?_⟩
    rw [← hc]
    have := List.take_append_drop p.length q
    rw [h3] at this
    exact this.symm
  · rintro ⟨c, rfl⟩
    refine ⟨by simp, LL_inj ?_⟩
    rw [LL_extract, List.drop_zero, LL_strP, LL_strP]
    simp
theorem rbF_kids (p : List UInt8) (k : Nat) (n : NodeD) (hp : n.path = p) : ∀ gs : List (Nat × Nat × Nat), (∀ g ∈ gs, g.1 < 256) → rbF (strP p) ((gs.map (mkN k n)).map fun m => strP m.path) = gs.map fun g => (g.1 : Int)
  | [], _ => rfl
  | g :: gs, h => by
    have hg := h g List.mem_cons_self
    simp only [List.map_cons, rbF]
    have e : (mkN k n g).path = p ++ [UInt8.ofNat g.1] := by rw [← hp]; rfl
    rw [e, if_pos (goesOn_path.2 ⟨_, rfl⟩), rbF_kids p k n hp gs (fun x hx => h x (List.mem_cons_of_mem _ hx))]
    congr 1
    rw [bt_eq, LL_strP, strP_size, Int.toNat_natCast, List.getD_eq_getElem?_getD, List.getElem?_append_right (Nat.le_refl _), Nat.sub_self]
    show ((UInt8.ofNat g.1).toNat : Int) = _
    rw [UInt8.toNat_ofNat']
    omega
theorem rbF_is (hs : srt w) (h : (trN w)[i]? = some n) : rbF (strP n.path) (paths w) = byL w n := by
  obtain ⟨h1, r, hr⟩ := node_at hs h
  have hlk : (kids w i n).length = (n.gr w).length := by unfold kids; rw [List.length_map]
  have key : ∀ j m, (trN w)[j]? = some m → goesOn (strP n.path) (strP m.path) → firstOf w i ≤ j ∧ j < firstOf w i + (n.gr w).length := fun j m hj hg => by
    obtain ⟨c, hc⟩ := goesOn_path.1 hg
    rcases path_is hs hj with h2 | ⟨t, ht, hp⟩
    · rw [h2] at hc
      simp at hc
    · rw [hc] at hp
      obtain ⟨o, g, ho, hd, hg2, hk⟩ := kid_find hs h ht hp
      have : j = firstOf w i + o := path_inj hs hj hk (by
        rw [hc]
        show _ = n.path ++ [UInt8.ofNat g.1]
        rw [hg2, UInt8.ofNat_toNat])
      omega
  have e : paths w = (nodesAt w i).map (fun m => strP m.path) ++ ((kids w i n).map (fun m => strP m.path) ++ r.map fun m => strP m.path) := by
    unfold paths
    rw [hr, List.map_append, List.map_append]
  rw [e, rbF_append, rbF_append, rbF_none _ ((nodesAt w i).map _) ?_, rbF_none _ (r.map _) ?_, List.nil_append, List.append_nil]
  · exact rbF_kids n.path i n rfl (n.gr w) (fun g hg => (kid_path hs h hg).1)
  · intro s hsm hg
    obtain ⟨m, hm, rfl⟩ := List.mem_map.1 hsm
    obtain ⟨j, hj, he⟩ := List.mem_iff_getElem.1 hm
    have := key ((nodesAt w i).length + (kids w i n).length + j) m (by
      rw [hr, List.getElem?_append_right (by omega), List.getElem?_append_right (by omega), show (nodesAt w i).length + (kids w i n).length + j - (nodesAt w i).length - (kids w i n).length = j by omega, List.getElem?_eq_getElem hj, he]) hg
    unfold firstOf at this
    omega
  · intro s hsm hg
    obtain ⟨m, hm, rfl⟩ := List.mem_map.1 hsm
    obtain ⟨j, hj, he⟩ := List.mem_iff_getElem.1 hm
    have := key j m (by rw [hr, List.getElem?_append_left hj, List.getElem?_eq_getElem hj, he]) hg
    unfold firstOf at this
    omega
theorem rbytes16_ev (l : List ByteArray) (hl : l.length ≤ 8796093022208) (hz : ∀ s ∈ l, s.size ≤ 65535) (i : Nat) (hi : i < l.length) : Ev (fun k => juratref16_Bytes.f k l (i : Int)) (strOfNums (rbF (l.getD i ByteArray.empty) l)) := by
  obtain ⟨p, hp⟩ : ∃ p, l.getD i ByteArray.empty = p := ⟨_, rfl⟩
  have hpz := hz _ (getD_mem l i ByteArray.empty hi)
  rw [hp] at hpz ⊢
  have ep : rdOf ByteArray.empty l (i : Int) = p := hp
  have key : ∀ (d j : Nat) (acc : List Int), j + d = l.length → acc.length ≤ j → Ev (fun k => juratref16_Bytes.l0 k l (i : Int) acc (j : Int)) (strOfNums (acc ++ rbF p (l.drop j))) := by
    intro d
    induction d with
    | zero =>
      intro j acc hj ha
      refine Ev.ret fun k => ?_
      simp only [juratref16_Bytes.l0]
      rw [if_neg (by omega), List.drop_of_length_le (by omega)]
      simp [rbF]
    | succ d ih =>
      intro j acc hj ha
      have e : rdOf ByteArray.empty l (j : Int) = l.getD j ByteArray.empty := rfl
      have hsz := hz _ (getD_mem l j ByteArray.empty (by omega))
      rw [getD_drop l j ByteArray.empty (by omega)]
      generalize l.getD j ByteArray.empty = s at e hsz
      simp only [rbF]
      by_cases hg : goesOn p s
      · rw [if_pos hg]
        obtain ⟨g1, g2⟩ := hg
        have hx := ih (j + 1) (acc ++ [bt s (p.size : Int)]) (by omega) (by simp; omega)
        rw [List.append_assoc] at hx
        refine Ev.step (fun k => ?_) hx
        simp only [juratref16_Bytes.l0]
        rw [if_pos (by omega), if_pos (by omega), if_pos (by omega), if_pos (by omega), e, ep, wrap_id (x := (p.size : Int) + 1) (by omega) (by omega), if_pos (by omega), if_pos (by omega), if_pos (by omega), Int.toNat_natCast, if_pos (by rw [g2]), if_pos (by omega), if_pos (by omega), wrap_id (by omega) (by omega)]
        rfl
      · rw [if_neg hg]
        have hx := ih (j + 1) acc (by omega) (by omega)
        refine Ev.step (fun k => ?_) hx
        simp only [juratref16_Bytes.l0]
        rw [if_pos (by omega), if_pos (by omega), if_pos (by omega), if_pos (by omega), e, ep, wrap_id (x := (p.size : Int) + 1) (by omega) (by omega)]
        by_cases g1 : s.size = p.size + 1
        · rw [if_pos (by omega), if_pos (by omega), if_pos (by omega), Int.toNat_natCast, if_neg (fun q => hg ⟨g1, toList_iff.1 q⟩), wrap_id (by omega) (by omega)]
          rfl
        · rw [if_neg (by omega), wrap_id (by omega) (by omega)]
          rfl
  have := key l.length 0 [] (by omega) (Nat.zero_le _)
  rw [List.drop_zero, List.nil_append] at this
  exact this
/-- What pattern a path is. -/
theorem own_find (hs : srt w) (h : (trN w)[i]? = some n) : findB (strP n.path) w 0 = if n.own w = true then (n.lo : Int) else -1 := by
  obtain ⟨o1, o2⟩ := own_is hs h
  by_cases ho : n.own w = true
  · rw [if_pos ho]
    obtain ⟨h1, h2⟩ := o1 ho
    have hm : strP n.path ∈ w := by
      have : strP n.path = w.getD n.lo ByteArray.empty := LL_inj (by rw [LL_strP, h2])
      rw [this]
      exact getD_mem w n.lo ByteArray.empty h1
    obtain ⟨t, e1, e2, e3⟩ := findB_mem _ w 0 hm
    rw [Nat.zero_add] at e1
    have := (o2 t e2 (by rw [e3, LL_strP])).2
    rw [e1, this]
  · rw [if_neg ho]
    refine findB_none _ w 0 fun hm => ho ?_
    obtain ⟨t, e1, e2, e3⟩ := findB_mem _ w 0 hm
    exact (o2 t e2 (by rw [e3, LL_strP])).1
theorem paths_at (h : (trN w)[i]? = some n) : (paths w).getD i ByteArray.empty = strP n.path := by
  unfold paths
  rw [List.getD_eq_getElem?_getD, List.getElem?_map, h]
  rfl
theorem strP_snoc (p : List UInt8) (c : UInt8) : strP (p ++ [c]) = strP p ++ ⟨#[c]⟩ := LL_inj (by rw [LL_strP, LL_append, LL_strP])
end

end Go.Proofs.Ytbkcjeopcjghgaa.Base

/- Arrays inside a struct in memory: their cells, a load of the whole, a place of the value; no condition beyond those in each statement. -/
namespace Go.Proofs.Ytbkcjeopcjghgaa.P
open Go Go.RowKit Go.Proofs.YtbkcjeopcjghgaaW.PrintWords

/-- Numbers, then one more cell. -/
def arCells (k : IntKind) (f : List Int) (v : Value) : Array Value := (f.map (Value.int k) ++ [v]).toArray
section
variable {k : IntKind} {f : List Int} {v : Value} {n c : Nat}
theorem arCells_at (hl : f.length = n) (hc : c < n) : (arCells k f v)[c]? = some (.int k (f.getD c 0)) := by
  unfold arCells
  rw [List.getElem?_toArray, List.getElem?_append_left (by rw [List.length_map]; omega), List.getElem?_map, List.getD_eq_getElem?_getD, List.getElem?_eq_getElem (by omega)]
  rfl
theorem arCells_last (hl : f.length = n) : (arCells k f v)[n]? = some v := by
  unfold arCells
  rw [List.getElem?_toArray, List.getElem?_append_right (by rw [List.length_map]; omega), List.length_map, hl, Nat.sub_self]
  rfl
theorem arCells_set (hl : f.length = n) (hc : c < n) (x : Int) : (arCells k f v).setIfInBounds c (.int k x) = arCells k (f.set c x) v := by
  unfold arCells
  rw [List.setIfInBounds_toArray, List.set_append_left _ _ (by rw [List.length_map]; omega), List.map_set]
theorem arCells_setlast (hl : f.length = n) (u : Value) : (arCells k f v).setIfInBounds n u = arCells k f u := by
  unfold arCells
  rw [List.setIfInBounds_toArray, List.set_append_right _ _ (by rw [List.length_map]; omega), List.length_map, hl, Nat.sub_self]
  rfl
end
section
variable {P : Program}
theorem run_loadVar_part (w : World) (g : Nat) (ty : TypeId) (cs : Array Value) (d : TypeDesc) (hg : ∀ j v, cs[j]? = some v → w.cell? ⟨g, j, none⟩ = some v)
    (hu : P.underlying ty = some d) (hd : (match d with | .struct _ | .array _ _ => true | _ => false) = true) (hi : (P.info? ty).map (·.size) = some cs.size) :
    (loadVar ty ⟨g, 0, none⟩).run P w = .ok (.agg cs) w := by
  have hl : (loadCells ⟨g, 0, none⟩ cs.toList.length).run P w = .ok cs.toList.toArray w :=
    run_loadCells_list (P := P) w ⟨g, 0, none⟩ cs.toList (fun j v hv => by
      have hadd : (⟨g, 0, none⟩ : Addr).add j = ⟨g, j, none⟩ := by unfold Addr.add; split <;> simp_all
      rw [hadd]
      exact hg j v (by simpa using hv))
  cases hq : P.info? ty with
  | none => simp [hq] at hi
  | some i =>
    have hs : i.size = cs.size := by simpa [hq] using hi
    have hagg : (isAgg ty).run P w = .ok true w := by
      unfold isAgg
      rw [Sem.run_bind, run_underlying hu w]
      cases d <;> simp_all
    simp only [Array.length_toList, Array.toArray_toList] at hl
    simp [loadVar, Sem.run_bind, hagg, sizeOf, typeInfo, hq, hs, hl]
theorem wpList_load_part {ops : Array Oper} {rest : List Oper} {o : Oper} {a : Act} {w : World} {Q : Exit → Act → World → Prop} (hgd : o.guard = none) (ty : TypeId) (x : Operand) (ho : o.op = .load ty x)
    (g : Nat) (hx : a.eval x = .pointer (some ⟨g, 0, none⟩)) (cs : Array Value) (d : TypeDesc) (hg : ∀ j v, cs[j]? = some v → w.cell? ⟨g, j, none⟩ = some v)
    (hu : P.underlying ty = some d) (hd : (match d with | .struct _ | .array _ _ => true | _ => false) = true) (hi : (P.info? ty).map (·.size) = some cs.size)
    (h : wpList P ops Q rest (a.put o.dst (.agg cs)) w) : wpList P ops Q (o :: rest) a w :=
  wpList_plain hgd fun _ hK => by
    unfold Oper.wp execOp
    simp only [ho, hx, Instr.loadAt, Instr.sureAddr, Sem.run_bind, Sem.run_pure, Result.andThen_ok, run_loadVar_part w g ty cs d hg hu hd hi]
    exact hK _ _ h
theorem run_index_agg {T e : TypeId} {len : Nat} (hT : P.underlying T = some (.array len e)) (he : ∀ w, (isAgg e).run P w = .ok false w) (hs : ∀ w, (sizeOf e).run P w = .ok 1 w) {cs : Array Value} {k : Nat} {v : Value} (hk : k < len) (hv : cs[k]? = some v) (w : World) :
    (Instr.index T (.agg cs) (.int .i64 (k : Int))).run P w = .ok v w := by
  unfold Instr.index
  simp only [asIntOf, Sem.run_bind, Sem.run_pure, Result.andThen_ok, run_underlying hT w]
  rw [if_pos ⟨by omega, by omega⟩, Sem.run_bind, hs w]
  simp only [Result.andThen_ok, part, Sem.run_bind, he w, Nat.mul_one, Int.toNat_natCast]
  simp [hv]
end

end Go.Proofs.Ytbkcjeopcjghgaa.P

/- The classes of a set in memory, told by the 256 classes and the bytes; no condition. -/
namespace Go.Proofs.Ytbkcjeopcjghgaa.P
open Go Go.RowKit Go.Proofs.YtbkcjeopcjghgaaW.PrintWords

structure ClassD where
  of : List Int
  bytes : List Int
  deriving Inhabited
abbrev D84 := ClassD
def K84 : OBK ClassD where
  R := fun w a d => ∃ b A c, a = ⟨b, 0, none⟩ ∧ d.of.length = 256 ∧ w.heap[b]? = some (.cells (arCells .u16 d.of (.slice A d.bytes.length c)) 84 (0, 0)) ∧ d.bytes.length ≤ c ∧ Kd.C (Kd.int .u8) w A d.bytes.length d.bytes
  below := by
    rintro w w1 a d h ⟨b, A, c, rfl, hl, hb, hc, hC⟩
    exact ⟨b, A, c, rfl, hl, (h.block _ (Array.getElem?_eq_some_iff.1 hb).1).trans hb, hc, Kd.C_below hC h⟩
end Go.Proofs.Ytbkcjeopcjghgaa.P

/- What the classes of a set tell; for all classes, nil too. -/
namespace Go.Proofs.Ytbkcjeopcjghgaa.P
open Go Go.RowKit Go.Proofs.YtbkcjeopcjghgaaW.PrintWords Go.Proofs.Ytbkcjeopcjghgaa.Base
set_option linter.unusedVariables false

def class_Classes_Of.f (a0 : Option ClassD) (a1 : Int) : Option Int := match a0 with | none => some 0 | some d => if (0 ≤ a1 ∧ a1 ≤ 255) ∧ 0 ≤ d.of.getD a1.toNat 0 ∧ d.of.getD a1.toNat 0 ≤ 65535 then some (d.of.getD a1.toNat 0) else none
set_option maxHeartbeats 400000 in
theorem class_Classes_Of.calls (Pa0 : Option Addr) (a0 : Option ClassD) (a1 : Int) (r : Int) (w : World) (ho : OB K84 w Pa0 a0) (h : class_Classes_Of.f a0 a1 = some r) :
    Calls Try.prog 47 #[.pointer Pa0, .int .u8 a1] w fun e w' => e = .returned (.int .i64 r) ∧ Drawn0 w w' := by
  cases a0 with
  | none =>
    obtain rfl := Option.some.inj h
    obtain rfl := OB.p_none ho
    clear ho h
    go_enter Try.func47, Try.ntmps47
    go_wp2
    go_ret
    exact ⟨rfl, Drawn0.refl _⟩
  | some d =>
    simp only [class_Classes_Of.f] at h
    by_cases hw2 : (0 ≤ a1 ∧ a1 ≤ 255) ∧ 0 ≤ d.of.getD a1.toNat 0 ∧ d.of.getD a1.toNat 0 ≤ 65535
    rotate_left
    · rw [if_neg hw2] at h; cases h
    rw [if_pos hw2] at h
    obtain rfl := Option.some.inj h
    obtain ⟨a, rfl⟩ := OB.p_some ho
    obtain ⟨b, A, cp, rfl, hl, hb, _, _⟩ := OB.at ho
    obtain ⟨⟨w0, w1⟩, w2, w3⟩ := hw2
    obtain ⟨c, rfl⟩ : ∃ c : Nat, a1 = c := ⟨a1.toNat, by omega⟩
    rw [Int.toNat_natCast] at w2 w3 ⊢
    have hc : w.cell? ⟨b, c, none⟩ = some (.int .u16 (d.of.getD c 0)) := (blk_cell hb c).trans (arCells_at hl (by omega))
    generalize d.of.getD c 0 = z at hc w2 w3
    clear ho h hb hl
    go_enter Try.func47, Try.ntmps47
    go_wp2
    go_ret
    exact ⟨rfl, Drawn0.refl _⟩

def class_Classes_Len.f (a0 : Option ClassD) : Option Int := match a0 with | none => some 0 | some d => if d.bytes.length ≤ 256 then some ((d.bytes.length : Int) + 1) else none
set_option maxHeartbeats 400000 in
theorem class_Classes_Len.calls (Pa0 : Option Addr) (a0 : Option ClassD) (r : Int) (w : World) (ho : OB K84 w Pa0 a0) (h : class_Classes_Len.f a0 = some r) :
    Calls Try.prog 40 #[.pointer Pa0] w fun e w' => e = .returned (.int .i64 r) ∧ Drawn0 w w' := by
  cases a0 with
  | none =>
    obtain rfl := Option.some.inj h
    obtain rfl := OB.p_none ho
    clear ho h
    go_enter Try.func40, Try.ntmps40
    go_wp2
    go_ret
    exact ⟨rfl, Drawn0.refl _⟩
  | some d =>
    simp only [class_Classes_Len.f] at h
    by_cases hm : d.bytes.length ≤ 256
    rotate_left
    · rw [if_neg hm] at h; cases h
    rw [if_pos hm] at h
    obtain rfl := Option.some.inj h
    obtain ⟨a, rfl⟩ := OB.p_some ho
    obtain ⟨b, A, cp, rfl, hl, hb, hcp, hC⟩ := OB.at ho
    have hc : w.cell? ⟨b, 256, none⟩ = some (.slice A d.bytes.length cp) := (blk_cell hb 256).trans (arCells_last hl)
    have hm3 : (d.bytes.length : Int) ≤ 256 := by omega
    clear ho h hb hl hC hm
    go_enter Try.func40, Try.ntmps40
    go_wp2
    go_ret
    exact ⟨rfl, Drawn0.refl _⟩

end Go.Proofs.Ytbkcjeopcjghgaa.P

/- The classes of a set: the walk. The bytes are marked, then each marked one gets its class. -/
namespace Go.Proofs.Ytbkcjeopcjghgaa.P
open Go Go.RowKit Go.Proofs.YtbkcjeopcjghgaaW.PrintWords Go.Proofs.YtbkcjeopcjghgaaW.PrintLast Go.Proofs.YtbkcjeopcjghgaaW.PrintMore Go.Proofs.Ytbkcjeopcjghgaa.Base
set_option linter.unusedVariables false
set_option linter.unusedSimpArgs false

def clPut (T : List Int) (c : UInt8) : List Int := T.set c.toNat 1
def clRow (T : List Int) (s : ByteArray) : List Int := (LL s).foldl clPut T
/-- The bytes that stand in patterns are marked. -/
def clMarks (l : List ByteArray) : List Int := l.foldl clRow (List.replicate 256 0)
/-- Each marked byte, up to one, gets its class. -/
def clEnd (M : List Int) : Nat → List Int × List Int
  | 0 => (M, [])
  | k + 1 => if M.getD k 0 > 0 then ((clEnd M k).1.set k ((clEnd M k).2.length + 1), (clEnd M k).2 ++ [(k : Int)]) else clEnd M k
def class_New.f (a0 : Option SetD) : Option (Option ClassD) :=
  if (setL a0).length ≤ 8796093022208 ∧ ∀ s ∈ setL a0, s.size ≤ 4611686018427387904 then some (some ⟨(clEnd (clMarks (setL a0)) 256).1, (clEnd (clMarks (setL a0)) 256).2⟩) else none
theorem clFold_length : ∀ (l : List UInt8) (T : List Int), (l.foldl clPut T).length = T.length
  | [], T => rfl
  | c :: l, T => by rw [List.foldl_cons, clFold_length l]; exact List.length_set ..
theorem clRows_length : ∀ (l : List ByteArray) (T : List Int), (l.foldl clRow T).length = T.length
  | [], T => rfl
  | s :: l, T => by rw [List.foldl_cons, clRows_length l]; exact clFold_length _ _
theorem clMarks_length (l : List ByteArray) : (clMarks l).length = 256 := by unfold clMarks; rw [clRows_length, List.length_replicate]
theorem clFold_01 : ∀ (l : List UInt8) (T : List Int), (∀ x ∈ T, x = 0 ∨ x = 1) → ∀ x ∈ l.foldl clPut T, x = 0 ∨ x = 1
  | [], T, h => h
  | c :: l, T, h => clFold_01 l (clPut T c) (fun x hx => by
    rcases List.mem_or_eq_of_mem_set hx with hx | hx
    · exact h x hx
    · exact .inr hx)
theorem clRows_01 : ∀ (l : List ByteArray) (T : List Int), (∀ x ∈ T, x = 0 ∨ x = 1) → ∀ x ∈ l.foldl clRow T, x = 0 ∨ x = 1
  | [], T, h => h
  | s :: l, T, h => clRows_01 l (clRow T s) (clFold_01 _ _ h)
theorem clMarks_01 (l : List ByteArray) : ∀ x ∈ clMarks l, x = 0 ∨ x = 1 := clRows_01 l _ (fun x hx => .inl (List.eq_of_mem_replicate hx))
theorem clEnd_length (M : List Int) : ∀ k, (clEnd M k).1.length = M.length ∧ (clEnd M k).2.length ≤ k
  | 0 => ⟨rfl, Nat.le_refl _⟩
  | k + 1 => by
    have := clEnd_length M k
    simp only [clEnd]
    split
    · exact ⟨by rw [List.length_set]; exact this.1, by simp; omega⟩
    · exact ⟨this.1, by omega⟩
theorem info18 : (Try.prog.info? 5).map (fun i => (i.zero, i.size, i.bytes)) = some (some (.int .u8 0), 1, 1) := by kernel_rfl

set_option maxHeartbeats 16000000 in
set_option maxRecDepth 100000 in
theorem class_New.calls (Pa0 : Option Addr) (a0 : Option SetD) (r : Option ClassD) (w : World) (ho : OB K57 w Pa0 a0) (h : class_New.f a0 = some r) :
    Calls Try.prog 38 #[.pointer Pa0] w fun e w' => ∃ P0_ : Option Addr, e = .returned (.pointer P0_) ∧ OB K84 w' P0_ r ∧ Below w.heap.size w w' := by
  unfold class_New.f at h
  by_cases hs : (setL a0).length ≤ 8796093022208 ∧ ∀ s ∈ setL a0, s.size ≤ 4611686018427387904
  rotate_left
  · rw [if_neg hs] at h; cases h
  rw [if_pos hs] at h
  have HO := Aside0.mk ho
  have hLi := fun W (g : OB K57 W Pa0 a0) => pats_Set_List.calls Pa0 a0 (setL a0) W g (by
    cases a0 with
    | none => rfl
    | some d => show (if d.l.length ≤ 8796093022208 then some d.l else none) = _; rw [if_pos (show d.l.length ≤ 8796093022208 from hs.1)]; rfl)
  generalize setL a0 = l at h hs hLi
  obtain ⟨h1, h2⟩ := hs
  obtain rfl := Option.some.inj h
  have HLI := Aside0.mk hLi
  have H1 := Aside0.mk h1
  have H2 := Aside0.mk h2
  have H01 := Aside0.mk (clMarks_01 l)
  have HML := Aside0.mk (clMarks_length l)
  obtain ⟨M, hM⟩ : ∃ M, clMarks l = M := ⟨_, rfl⟩
  rw [hM] at H01 HML ⊢
  have HMK := Aside0.mk hM
  clear h ho hLi h1 h2 hM
  go_enter Try.func38, Try.ntmps38
  go_wp2_with (go_at_call 56; refine (HLI.out _ (OB.below ((Below.refl _ _).alloc (Nat.le_refl _) _) HO.out)).mono ?_; rintro e W1 ⟨v, rfl, hR, hb⟩; have hlt := hb.size; have HB0 := Aside0.mk hb; obtain ⟨A, c, rfl⟩ := Kd.R_slice hR; have HR := Aside0.mk hR; clear hb hR)
  have hz : Try.zeroCells84 = arCells .u16 (List.replicate 256 0) (.slice none 0 0) := by kernel_rfl
  rw [hz] at HB0 HR hlt
  clear hz
  have hbw : w.heap.size < (w.alloc (.cells (arCells .u16 (List.replicate 256 0) (.slice none 0 0)) 84 (0, 0))).heap.size := blk_lt (heap_alloc_new _ _)
  have HP0 := Aside0.mk ((HB0.out.block _ hbw).trans (heap_alloc_new _ _))
  have HB1 := Aside0.mk (((Below.refl w.heap.size w).alloc (Nat.le_refl _) _).trans (HB0.out.mono (Nat.le_of_lt hbw)))
  have HBW := Aside0.mk hbw
  clear HB0 hbw hlt
  generalize (w.alloc (.cells (arCells .u16 (List.replicate 256 0) (.slice none 0 0)) 84 (0, 0))).heap.size = base at HR HBW
  go_loopg [14] l.length (fun kx i wr => ∃ (j : Nat), i = .int .i64 j ∧ j ≤ l.length ∧ l.length - j ≤ kx ∧
    Aside0 (wr.heap[w.heap.size]? = some (.cells (arCells .u16 ((l.take j).foldl clRow (List.replicate 256 0)) (.slice none 0 0)) 84 (0, 0))) ∧ Aside0 (Below w.heap.size w wr) ∧ Aside0 (Kd.R Kd.string 9 wr base (fun _ => True) (.slice A l.length c) l))
  case atStart => exact ⟨0, rfl, Nat.zero_le _, by omega, ⟨by rw [List.take_zero]; exact HP0.out⟩, HB1, HR⟩
  case round =>
    clear HP0 HB1 HR
    obtain ⟨j, rfl, hj, hjx, HP, HB, HR⟩ := hrel
    have hTl := clRows_length (l.take j) (List.replicate 256 0)
    rw [List.length_replicate] at hTl
    by_cases hlt : j < l.length
    · have ht := fold_take clRow (List.replicate 256 0) l j hlt
      obtain ⟨ad, hA, hx⟩ := Kd.at_string (Kd.R_reads' HR.out).2.2 (j : Int) (by omega) (by omega)
      obtain rfl : A = some ad := hA
      have hx' : wr.cell? (ad.add j) = some (.string (l.getD j ByteArray.empty)) := hx
      have hs2 := H2.out _ (getD_mem l j ByteArray.empty hlt)
      have HTL := Aside0.mk hTl
      clear hx hTl
      generalize l.getD j ByteArray.empty = s at hx' hs2 ht
      generalize (l.take j).foldl clRow (List.replicate 256 0) = T at HP ht HTL
      obtain ⟨T1, hT1⟩ : ∃ T1, (l.take (j + 1)).foldl clRow (List.replicate 256 0) = T1 := ⟨_, rfl⟩
      rw [hT1] at ht
      have HT := Aside0.mk ht
      have HT1 := Aside0.mk hT1
      clear ht hT1
      have hl8 := H1.out
      go_wp2
      obtain ⟨Wj, rfl⟩ : ∃ Wj : World, Wj = wr := ⟨_, rfl⟩
      go_loopg [20] s.size (fun kx i wr => ∃ (d : Nat), i = .int .i64 d ∧ d ≤ s.size ∧ s.size - d ≤ kx ∧
        Aside0 (wr.heap[w.heap.size]? = some (.cells (arCells .u16 (((LL s).take d).foldl clPut T) (.slice none 0 0)) 84 (0, 0))) ∧ Aside0 (Below w.heap.size w wr) ∧ Aside0 (Kd.R Kd.string 9 wr base (fun _ => True) (.slice (some ad) l.length c) l))
      case atStart => exact ⟨0, rfl, Nat.zero_le _, by omega, ⟨by rw [List.take_zero]; exact HP.out⟩, HB, HR⟩
      case round =>
        clear hx' HP HB HR
        obtain ⟨d, rfl, hd, hdx, HP, HB, HR⟩ := hrel
        have hTd : (((LL s).take d).foldl clPut T).length = 256 := (clFold_length _ T).trans HTL.out
        by_cases hdl : d < s.size
        · have hr : ((LL s).take (d + 1)).foldl clPut T = clPut (((LL s).take d).foldl clPut T) s[d] := by
            rw [List.take_succ_eq_append_getElem (by rw [LL_length]; exact hdl), List.foldl_append]; rfl
          obtain ⟨cc, hcc⟩ : ∃ cc : Nat, s[d].toNat = cc := ⟨_, rfl⟩
          have hcl : cc < 256 := by rw [← hcc]; exact UInt8.toNat_lt _
          unfold clPut at hr
          rw [hcc] at hr
          have HRR := Aside0.mk hr
          have hck := (blk_cell HP.out cc).trans (arCells_at hTd hcl)
          have hfk := blk_frozen HP.out cc
          have HTd := Aside0.mk hTd
          have hci : (cc : Int) < 256 := by omega
          have w5 : ∀ h : d < s.size, (s[d]'h).toNat = cc := fun _ => hcc
          clear hr hTd hcc
          generalize List.getD _ cc 0 = z at hck
          go_wp2
          go_still_tail 7, (by kernel_rfl)
          clear w5
          go_wp2
          go_roundg (s.size - (d + 1))
          case measure => omega
          case rel =>
            refine ⟨d + 1, by go_num, by omega, Nat.le_refl _, ⟨?_⟩, ⟨?_⟩, ⟨?_⟩⟩
            · have e := HRR.out
              show _ = some (Obj.cells (arCells .u16 (((LL s).take (d + 1)).foldl clPut T) _) _ _)
              rw [show ((LL s).take (d + 1)).foldl clPut T = (((LL s).take d).foldl clPut T).set cc 1 from e]
              exact (blk_set HP.out cc _).trans (by rw [arCells_set HTd.out hcl])
            · repeat (first | exact HB.out | (with_reducible apply below_drew) | (with_reducible apply pw_below_drewN) | exact Below.setCell HB.out (Nat.le_refl _) _)
            · exact Kd.R_drew (R_beside HR.out HBW.out _)
        · obtain rfl : d = s.size := by omega
          have hP := HP.out
          rw [List.take_of_length_le (by rw [LL_length]; exact Nat.le_refl _)] at hP
          have HP2 := Aside0.mk hP
          clear hP HP
          go_wp2
          go_roundg (l.length - (j + 1))
          case measure => omega
          case rel =>
            refine ⟨j + 1, by go_num, by omega, Nat.le_refl _, ⟨?_⟩, HB, HR⟩
            rw [HT1.out, HT.out]
            exact HP2.out
    · obtain rfl : j = l.length := by omega
      have hP := HP.out
      rw [List.take_length] at hP
      have hP : wr.heap[w.heap.size]? = some (.cells (arCells .u16 (clMarks l) (.slice none 0 0)) 84 (0, 0)) := hP
      rw [HMK.out] at hP
      clear HP HR hTl
      have HPM := Aside0.mk hP
      have HBL := Aside0.mk (blk_lt hP)
      clear hP
      obtain ⟨CS, hCS⟩ : ∃ CS, (M.map (Value.int .u16)).toArray = CS := ⟨_, rfl⟩
      have hg : ∀ (j : Nat) v, CS[j]? = some v → wr.cell? ⟨w.heap.size, j, none⟩ = some v := fun j v hv => by
        rw [blk_cell HPM.out j]
        rw [← hCS] at hv
        unfold arCells
        rw [List.getElem?_toArray] at hv ⊢
        rw [List.getElem?_append_left (by obtain ⟨h, _⟩ := List.getElem?_eq_some_iff.1 hv; exact h)]
        exact hv
      have hi : (Try.prog.info? 82).map (·.size) = some CS.size := by
        rw [← hCS, List.size_toArray, List.length_map, HML.out]; kernel_rfl
      have HG := Aside0.mk hg
      have HI := Aside0.mk hi
      have HCS := Aside0.mk hCS
      clear hg hi hCS
      go_wp2_with (refine wpList_load_part rfl 82 (.tmp 34) rfl w.heap.size rfl CS _ HG.out Try.underlying82 rfl HI.out ?_)
      have hbw2 := blk_lt HPM.out
      go_loopg [36] 256 (fun kx i W => ∃ (k : Nat) (v : Value), i = .int .i64 k ∧ k ≤ 256 ∧ 256 - k ≤ kx ∧
        Aside0 (W.heap[w.heap.size]? = some (.cells (arCells .u16 (clEnd M k).1 v) 84 (0, 0))) ∧ Aside0 (Below w.heap.size w W) ∧ Aside0 (Kd.R (Kd.int .u8) 5 W (w.heap.size + 1) (fun _ => True) v (clEnd M k).2))
      case atStart => exact ⟨0, _, rfl, by omega, by omega, HPM, HB, ⟨Kd.R_nil _ _ _ _ _⟩⟩
      case round =>
        clear HPM HB HG HI
        obtain ⟨k, v, rfl, hk, hkx, HP, HB, HR⟩ := hrel
        have hlen := clEnd_length M k
        rw [HML.out] at hlen
        by_cases hlt : k < 256
        · have hM := H01.out _ (getD_mem M k 0 (by rw [HML.out]; exact hlt))
          have hidx := fun W => run_index_agg (P := Try.prog) Try.underlying82 Try.isAgg81 Try.sizeOf81 (cs := CS) (k := k) (v := .int .u16 (M.getD k 0)) hlt (by rw [← HCS.out, List.getElem?_toArray, List.getElem?_map, List.getD_eq_getElem?_getD, List.getElem?_eq_getElem (by rw [HML.out]; exact hlt)]; rfl) W
          have he1 : (clEnd M (k + 1)).1 = if M.getD k 0 > 0 then (clEnd M k).1.set k (((clEnd M k).2.length : Int) + 1) else (clEnd M k).1 := by simp only [clEnd]; split <;> rfl
          have he2 : (clEnd M (k + 1)).2 = if M.getD k 0 > 0 then (clEnd M k).2 ++ [(k : Int)] else (clEnd M k).2 := by simp only [clEnd]; split <;> rfl
          generalize M.getD k 0 = z at hM hidx he1 he2
          obtain ⟨hl1, hl2⟩ := hlen
          generalize (clEnd M k).1 = O at HP he1 hl1
          generalize (clEnd M k).2 = B at HR he1 he2 hl2
          obtain ⟨A2, c2, rfl⟩ := Kd.R_slice HR.out
          have hB256 : (B.length : Int) ≤ 256 := by omega
          have hkk : (k : Int) < 256 := by omega
          have hc256 := (blk_cell HP.out 256).trans (arCells_last hl1)
          have hf256 := blk_frozen HP.out 256
          rcases hM with rfl | rfl
          · rw [if_neg (by omega)] at he1 he2
            have HE1 := Aside0.mk he1
            have HE2 := Aside0.mk he2
            clear he1 he2
            go_wp2
            go_roundg (256 - (k + 1))
            case measure => omega
            case rel => exact ⟨k + 1, _, by go_num, by omega, Nat.le_refl _, ⟨by rw [HE1.out]; exact HP.out⟩, HB, ⟨by rw [HE2.out]; exact HR.out⟩⟩
          · rw [if_pos (by omega)] at he1 he2
            have HE1 := Aside0.mk he1
            have HE2 := Aside0.mk he2
            have HL1 := Aside0.mk hl1
            clear he1 he2 hl1
            obtain ⟨W0, rfl⟩ : ∃ W0 : World, W0 = wr := ⟨_, rfl⟩
            have hsz : w.heap.size + 1 ≤ W0.heap.size := blk_lt HP.out
            have HS := Aside0.mk hsz
            clear hsz
            go_wp2_with ((with_reducible refine gate_builtin (b := .append) (xs := #[.tmp 46, .tmp 49]) rfl ?_); at_builtin; refine Kd.R_append (Kd.int .u8) (w0 := W0) (w.heap.size + 1) rfl (.tmp 46) (.tmp 49) 80 5 (.int .u8 0) 1 rfl Try.underlying80 info18 rfl (by decide) (by omega) (.slice A2 B.length c2) B (k : Int) [.int .u8 (k : Int)] (fun _ => True) (fun _ => False) rfl rfl ?aP (fun _ hk => hk.elim) ?aF ?aO ?aB ?aS ?aL ?_; (case aP => exact rfl); (case aB => exact Below.refl _ _); (case aF => exact (fun _ _ => trivial)); (case aO => exact HR.out); (case aS => exact HS.out); (case aL => omega); intro v1 w6 ho hb hg hat; have hp1 := blk_grown HP.out hg (fun e => by have := Kd.R_base HR.out _ e.symm; omega); have hb1 := HB.out.grown hg HB.out.size (fun j hj => Nat.le_of_succ_le (Kd.R_base HR.out _ hj)); obtain ⟨A3, c3, rfl⟩ := Kd.R_slice ho; rw [show (B ++ [(k : Int)]).length = B.length + 1 from List.length_append] at ho; have hc6 := (blk_cell hp1 256).trans (arCells_last HL1.out); have hf6 := blk_frozen hp1 256; have HP1 := Aside0.mk hp1; have HB1 := Aside0.mk hb1; have HR1 := Aside0.mk ho; clear ho hb hg hat hp1 hb1)
            have hp2 := (blk_set HP1.out 256 (.slice A3 (B.length + 1) c3)).trans (by rw [arCells_setlast HL1.out])
            have hR2 := R_beside (b := w.heap.size) (off := 256) HR1.out (Nat.lt_succ_self _) (.slice A3 (B.length + 1) c3)
            have hB2 := Below.setCell (p := ⟨w.heap.size, 256, none⟩) HB1.out (Nat.le_refl _) (.slice A3 (B.length + 1) c3)
            have HP2 := Aside0.mk hp2
            have HR2 := Aside0.mk hR2
            have HB2 := Aside0.mk hB2
            clear hp2 hR2 hB2
            generalize w6.setCell ⟨w.heap.size, 256, none⟩ (.slice A3 (B.length + 1) c3) = w7 at HP2 HR2 HB2 ⊢
            clear hc6 hf6
            have hc6 := (blk_cell HP2.out 256).trans (arCells_last HL1.out)
            have hck := (blk_cell HP2.out k).trans (arCells_at HL1.out hlt)
            have hfk := blk_frozen HP2.out k
            have hu1 : (0 : Int) ≤ (B.length : Int) + 1 := by omega
            have hu2 : (B.length : Int) + 1 ≤ 65535 := by omega
            generalize List.getD O k 0 = z at hck
            go_still_tail 11, (by kernel_rfl)
            go_wp2
            go_roundg (256 - (k + 1))
            case measure => omega
            case rel =>
              refine ⟨k + 1, .slice A3 (B.length + 1) c3, by go_num, by omega, Nat.le_refl _, ⟨?_⟩, ⟨?_⟩, ⟨?_⟩⟩
              rotate_left
              · repeat (first | exact HB2.out | (with_reducible apply below_drew) | (with_reducible apply pw_below_drewN) | exact Below.setCell HB2.out (Nat.le_refl _) _)
              · rw [HE2.out]
                exact Kd.R_drew (R_beside HR2.out (Nat.lt_succ_self _) _)
              · rw [HE1.out]
                exact (blk_set HP2.out k _).trans (by rw [arCells_set HL1.out hlt])
        · obtain rfl : k = 256 := by omega
          obtain ⟨A2, c2, rfl⟩ := Kd.R_slice HR.out
          obtain ⟨_, hl2, hC2⟩ := Kd.R_reads' HR.out
          have hl1 := hlen.1
          clear hlen
          go_wp2
          go_ret
          exact ⟨_, rfl, OB.mk ⟨w.heap.size, A2, c2, rfl, hl1, HP.out, hl2, hC2⟩, HB.out⟩

end Go.Proofs.Ytbkcjeopcjghgaa.P

/- The classes of bytes: which are marked, and that classes rise; layer 18's examples; no condition beyond the sizes that stand in each statement. -/
namespace Go.Proofs.Ytbkcjeopcjghgaa.Base
open Go Go.RowKit Go.Proofs.YtbkcjeopcjghgaaW.PrintWords Go.Proofs.YtbkcjeopcjghgaaW.PrintMore Go.Proofs.Ytbkcjeopcjghgaa.P
set_option linter.unusedVariables false

theorem clFold_at (c : Nat) (hc : c < 256) : ∀ (l : List UInt8) (T : List Int), T.length = 256 → (l.foldl clPut T).getD c 0 = if l.any (fun x => decide (x.toNat = c)) = true then 1 else T.getD c 0
  | [], T, _ => rfl
  | x :: l, T, h => by
    rw [List.foldl_cons, clFold_at c hc l (clPut T x) (by unfold clPut; rw [List.length_set]; exact h), List.any_cons]
    have e : (clPut T x).getD c 0 = if x.toNat = c then 1 else T.getD c 0 := by
      unfold clPut
      rw [List.getD_eq_getElem?_getD, List.getElem?_set]
      by_cases hx : x.toNat = c
      · rw [if_pos hx, if_pos (by rw [h]; exact UInt8.toNat_lt _), if_pos hx]; rfl
      · rw [if_neg hx, if_neg hx, List.getD_eq_getElem?_getD]
    rw [e]
    by_cases h1 : l.any (fun x => decide (x.toNat = c)) = true
    · rw [if_pos h1, h1, Bool.or_true, if_pos rfl]
    · rw [if_neg h1, Bool.eq_false_iff.2 h1, Bool.or_false]
      by_cases hx : x.toNat = c
      · rw [if_pos hx, decide_eq_true hx, if_pos rfl]
      · rw [if_neg hx, decide_eq_false hx, if_neg (by simp)]
/-- Does a byte stand in a pattern? -/
def markB (l : List ByteArray) (c : Nat) : Bool := l.any fun s => (LL s).any fun x => decide (x.toNat = c)
theorem clRows_at (c : Nat) (hc : c < 256) : ∀ (l : List ByteArray) (T : List Int), T.length = 256 → (l.foldl clRow T).getD c 0 = if markB l c = true then 1 else T.getD c 0
  | [], T, _ => rfl
  | s :: l, T, h => by
    rw [List.foldl_cons, clRows_at c hc l (clRow T s) ((clFold_length _ _).trans h)]
    have e := clFold_at c hc (LL s) T h
    change (clRow T s).getD c 0 = _ at e
    rw [e]
    have em : markB (s :: l) c = ((LL s).any (fun x => decide (x.toNat = c)) || markB l c) := rfl
    rw [em]
    by_cases h1 : markB l c = true
    · rw [if_pos h1, h1, Bool.or_true, if_pos rfl]
    · rw [if_neg h1, Bool.eq_false_iff.2 h1, Bool.or_false]
theorem clMarks_at (l : List ByteArray) {c : Nat} (hc : c < 256) : (clMarks l).getD c 0 = if markB l c = true then 1 else 0 := by
  unfold clMarks
  rw [clRows_at c hc l _ List.length_replicate, List.getD_eq_getElem?_getD, List.getElem?_replicate, if_pos hc]
  rfl
theorem markB_iff {l : List ByteArray} {c : Nat} : markB l c = true ↔ ∃ s ∈ l, ∃ x ∈ LL s, x.toNat = c := by
  unfold markB
  simp only [List.any_eq_true, decide_eq_true_eq]
theorem clEnd_at (M : List Int) (hM : M.length = 256) (c : Nat) (hc : c < 256) : ∀ k, k ≤ 256 → (clEnd M k).1.getD c 0 = if c < k ∧ M.getD c 0 > 0 then ((clEnd M c).2.length : Int) + 1 else M.getD c 0
  | 0, _ => by rw [if_neg (by omega)]; rfl
  | k + 1, hk => by
    have ih := clEnd_at M hM c hc k (by omega)
    have hl := (clEnd_length M k).1
    by_cases h : M.getD k 0 > 0
    · have e : (clEnd M (k + 1)).1 = (clEnd M k).1.set k (((clEnd M k).2.length : Int) + 1) := by simp only [clEnd]; rw [if_pos h]
      rw [e, List.getD_eq_getElem?_getD, List.getElem?_set]
      by_cases hck : k = c
      · subst hck
        rw [if_pos rfl, if_pos (by omega), if_pos ⟨by omega, h⟩]
        rfl
      · rw [if_neg hck, ← List.getD_eq_getElem?_getD, ih]
        by_cases h2 : c < k ∧ M.getD c 0 > 0
        · rw [if_pos h2, if_pos ⟨by omega, h2.2⟩]
        · rw [if_neg h2, if_neg (fun h3 => h2 ⟨by omega, h3.2⟩)]
    · have e : (clEnd M (k + 1)).1 = (clEnd M k).1 := by simp only [clEnd]; rw [if_neg h]
      rw [e, ih]
      by_cases h2 : c < k ∧ M.getD c 0 > 0
      · rw [if_pos h2, if_pos ⟨by omega, h2.2⟩]
      · rw [if_neg h2, if_neg (fun h3 => h2 ⟨by
          by_cases hck : c = k
          · subst hck; exact absurd h3.2 h
          · omega, h3.2⟩)]
theorem clEnd_grows (M : List Int) (a : Nat) : ∀ d, (clEnd M a).2.length ≤ (clEnd M (a + d)).2.length
  | 0 => Nat.le_refl _
  | d + 1 => by
    refine Nat.le_trans (clEnd_grows M a d) ?_
    show _ ≤ (clEnd M ((a + d) + 1)).2.length
    simp only [clEnd]
    split
    · simp
    · exact Nat.le_refl _
theorem clEnd_step (M : List Int) (a : Nat) (h : M.getD a 0 > 0) : (clEnd M (a + 1)).2.length = (clEnd M a).2.length + 1 := by
  simp only [clEnd]
  rw [if_pos h]
  simp
/-- A byte's class. -/
def clB (w : List ByteArray) (c : Nat) : Int := (clEnd (clMarks w) 256).1.getD c 0
theorem clB_eq (w : List ByteArray) {c : Nat} (hc : c < 256) : clB w c = if markB w c = true then ((clEnd (clMarks w) c).2.length : Int) + 1 else 0 := by
  unfold clB
  rw [clEnd_at _ (clMarks_length w) c hc 256 (Nat.le_refl _), clMarks_at w hc]
  by_cases h : markB w c = true
  · rw [if_pos h, if_pos h, if_pos ⟨hc, by decide⟩]
  · rw [if_neg h, if_neg h, if_neg (by rintro ⟨_, h⟩; exact absurd h (by decide))]
theorem clB_range (w : List ByteArray) {c : Nat} (hc : c < 256) : 0 ≤ clB w c ∧ clB w c ≤ 256 := by
  rw [clB_eq w hc]
  have := (clEnd_length (clMarks w) c).2
  split <;> omega
theorem clB_pos (w : List ByteArray) {c : Nat} (hc : c < 256) : 0 < clB w c ↔ markB w c = true := by
  rw [clB_eq w hc]
  by_cases h : markB w c = true
  · rw [if_pos h]; exact ⟨fun _ => h, fun _ => by omega⟩
  · rw [if_neg h]; exact ⟨fun h => absurd h (by decide), fun h' => absurd h' h⟩
theorem clB_lt (w : List ByteArray) {a b : Nat} (ha : a < 256) (hb : b < 256) (h1 : 0 < clB w a) (h2 : 0 < clB w b) (h : a < b) : clB w a < clB w b := by
  have m1 := (clB_pos w ha).1 h1
  have m2 := (clB_pos w hb).1 h2
  rw [clB_eq w ha, clB_eq w hb, if_pos m1, if_pos m2]
  have e1 := clEnd_step (clMarks w) a (by rw [clMarks_at w ha, if_pos m1]; decide)
  have e2 := clEnd_grows (clMarks w) (a + 1) (b - (a + 1))
  rw [show a + 1 + (b - (a + 1)) = b by omega] at e2
  omega
theorem clB_mono (w : List ByteArray) {a b : Nat} (ha : a < 256) (hb : b < 256) (h1 : 0 < clB w a) (h2 : 0 < clB w b) : clB w a < clB w b ↔ a < b := by
  constructor
  · intro h
    rcases Nat.lt_trichotomy a b with h' | h' | h'
    · exact h'
    · subst h'; omega
    · have := clB_lt w hb ha h2 h1 h'; omega
  · exact clB_lt w ha hb h1 h2
/-- The classes of a list. -/
abbrev classD (w : List ByteArray) : ClassD := ⟨(clEnd (clMarks w) 256).1, (clEnd (clMarks w) 256).2⟩
theorem class_ok {l w : List ByteArray} {x : Option SetD} {e : Int} (h : SetOk l x w e) : class_New.f x = some (some (classD w)) := by
  unfold class_New.f
  rw [h.hL, if_pos ⟨by have := h.few; omega, fun s hs => by have := h.size s hs; omega⟩]
theorem cof_ok (w : List ByteArray) {c : Nat} (hc : c < 256) : class_Classes_Of.f (some (classD w)) (c : Int) = some (clB w c) := by
  have h := clB_range w hc
  have e : (classD w).of.getD (c : Int).toNat 0 = clB w c := by rw [Int.toNat_natCast]; rfl
  show (if (0 ≤ (c : Int) ∧ (c : Int) ≤ 255) ∧ 0 ≤ (classD w).of.getD (c : Int).toNat 0 ∧ (classD w).of.getD (c : Int).toNat 0 ≤ 65535 then some ((classD w).of.getD (c : Int).toNat 0) else none) = _
  rw [e, if_pos ⟨⟨by omega, by omega⟩, h.1, by omega⟩]


end Go.Proofs.Ytbkcjeopcjghgaa.Base

/- The table of a set, in plain Lean: rows are laid state by state, each over that of the state to which it falls back; what they tell then. -/
namespace Go.Proofs.Ytbkcjeopcjghgaa.Base
open Go Go.RowKit Go.Proofs.YtbkcjeopcjghgaaW.PrintWords Go.Proofs.YtbkcjeopcjghgaaW.PrintMore Go.Proofs.Ytbkcjeopcjghgaa.P
set_option linter.unusedVariables false

section
variable {w : List ByteArray}
/-- A byte's class, as a natural number; how many classes there are. -/
def clN (w : List ByteArray) (b : UInt8) : Nat := (clB w b.toNat).toNat
def widN (w : List ByteArray) : Nat := (clEnd (clMarks w) 256).2.length + 1
theorem clN_is (w : List ByteArray) (b : UInt8) : class_Classes_Of.f (some (classD w)) (b.toNat : Int) = some (clN w b : Int) := by
  have hb : b.toNat < 256 := UInt8.toNat_lt _
  have := clB_range w hb
  rw [cof_ok w hb]
  unfold clN
  congr 1
  omega
theorem clN_pos (w : List ByteArray) (b : UInt8) : 0 < clN w b ↔ markB w b.toNat = true := by
  have hb : b.toNat < 256 := UInt8.toNat_lt _
  rw [← clB_pos w hb]
  unfold clN
  omega
theorem clN_lt (w : List ByteArray) (b : UInt8) : clN w b < widN w := by
  have hb : b.toNat < 256 := UInt8.toNat_lt _
  unfold clN widN
  rw [clB_eq w hb]
  by_cases h : markB w b.toNat = true
  · rw [if_pos h]
    have e1 := clEnd_step (clMarks w) b.toNat (by rw [clMarks_at w hb, if_pos h]; decide)
    have e2 := clEnd_grows (clMarks w) (b.toNat + 1) (256 - (b.toNat + 1))
    rw [show b.toNat + 1 + (256 - (b.toNat + 1)) = 256 by omega] at e2
    omega
  · rw [if_neg h]
    simp
theorem clN_inj (w : List ByteArray) {a b : UInt8} (h : 0 < clN w a) (e : clN w a = clN w b) : a = b := by
  have ha : a.toNat < 256 := UInt8.toNat_lt _
  have hb : b.toNat < 256 := UInt8.toNat_lt _
  have h1 := (clB_pos w ha).2 ((clN_pos w a).1 h)
  have h2 := (clB_pos w hb).2 ((clN_pos w b).1 (by omega))
  unfold clN at e
  have e2 : clB w a.toNat = clB w b.toNat := by omega
  apply UInt8.toNat_inj.1
  rcases Nat.lt_trichotomy a.toNat b.toNat with h3 | h3 | h3
  · have := clB_lt w ha hb h1 h2 h3; omega
  · exact h3
  · have := clB_lt w hb ha h2 h1 h3; omega
theorem widN_le (w : List ByteArray) : widN w ≤ 257 := by
  have := (clEnd_length (clMarks w) 256).2
  unfold widN
  omega
/-- The bytes by which a node goes on. -/
def kidsB (w : List ByteArray) (n : NodeD) : List UInt8 := (n.gr w).map fun g => UInt8.ofNat g.1
theorem kidsB_val (hs : srt w) (hz : sizes w ≤ 16777216) {i : Nat} {n : NodeD} (h : (trN w)[i]? = some n) : trie_Trie_Bytes.f (some (trS w)) (i : Int) = some (strP (kidsB w n)) := by
  rw [bytes_val hs hz h]
  congr 1
  unfold strOfNums strP byL kidsB
  congr 2
  rw [List.map_map]
  apply List.map_congr_left
  intro g hg
  have := (kid_path hs h hg).1
  simp
theorem kidsB_mem (hs : srt w) {i : Nat} {n : NodeD} (h : (trN w)[i]? = some n) (b : UInt8) : b ∈ kidsB w n ↔ idxP w (n.path ++ [b]) ≥ 0 := by
  constructor
  · intro hb
    obtain ⟨g, hg, rfl⟩ := List.mem_map.1 hb
    obtain ⟨_, t, ht, hp⟩ := kid_path hs h hg
    exact (idx_iff hs _).2 (.inr ⟨t, ht, by rw [LL_strP]; exact hp⟩)
  · intro hb
    rcases (idx_iff hs _).1 hb with h1 | ⟨t, ht, hp⟩
    · have := congrArg LL h1
      rw [LL_strP, LL_empty] at this
      simp at this
    · rw [LL_strP] at hp
      obtain ⟨o, g, ho, hd, hg2, hk⟩ := kid_find hs h ht hp
      refine List.mem_map.2 ⟨g, by rw [← hd]; exact getD_mem _ _ _ ho, ?_⟩
      rw [hg2, UInt8.ofNat_toNat]
theorem kid_mark (hs : srt w) {p : List UInt8} {b : UInt8} (h : idxP w (p ++ [b]) ≥ 0) : 0 < clN w b := by
  rw [clN_pos, markB_iff]
  rcases (idx_iff hs _).1 h with h1 | ⟨t, ht, hp⟩
  · have := congrArg LL h1
    rw [LL_strP, LL_empty] at this
    simp at this
  · rw [LL_strP] at hp
    refine ⟨_, getD_mem w t ByteArray.empty ht, b, ?_, rfl⟩
    obtain ⟨r, hr⟩ := hp
    rw [← hr]
    simp
/-- A cell of a row. -/
def rowAt (T : List Int) (wd s c : Nat) : Int := T.getD (s * wd + c) 0
theorem cell_eq {wd s s' c c' : Nat} (hc : c < wd) (hc' : c' < wd) (e : s * wd + c = s' * wd + c') : s = s' ∧ c = c' := by
  have h1 : (s * wd + c) / wd = s := by rw [Nat.mul_comm, Nat.mul_add_div (by omega), Nat.div_eq_of_lt hc]; rfl
  have h2 : (s' * wd + c') / wd = s' := by rw [Nat.mul_comm, Nat.mul_add_div (by omega), Nat.div_eq_of_lt hc']; rfl
  have : s = s' := by rw [← h1, ← h2, e]
  subst this
  exact ⟨rfl, by omega⟩
/-- A row copied over another one. -/
def dnCopy (T : List Int) (wd s f : Nat) : List Int := T.take (s * wd) ++ (T.drop (f * wd)).take wd ++ T.drop ((s + 1) * wd)
theorem dnCopy_at {T : List Int} {n wd s f : Nat} (hl : T.length = n * wd) (hs : s < n) (hf : f < n) (s' c : Nat) (hc : c < wd) : rowAt (dnCopy T wd s f) wd s' c = if s' = s then rowAt T wd f c else rowAt T wd s' c := by
  have k1 : (s + 1) * wd ≤ n * wd := Nat.mul_le_mul_right wd hs
  have k2 : (f + 1) * wd ≤ n * wd := Nat.mul_le_mul_right wd hf
  rw [Nat.succ_mul] at k1 k2
  have l1 : (T.take (s * wd)).length = s * wd := by rw [List.length_take]; omega
  have l2 : ((T.drop (f * wd)).take wd).length = wd := by rw [List.length_take, List.length_drop]; omega
  unfold rowAt dnCopy
  rw [List.getD_eq_getElem?_getD]
  rcases Nat.lt_trichotomy s' s with h | h | h
  · rw [if_neg (by omega)]
    have h1 : (s' + 1) * wd ≤ s * wd := Nat.mul_le_mul_right wd h
    rw [Nat.succ_mul] at h1
    rw [List.append_assoc, List.getElem?_append_left (by rw [l1]; omega), List.getElem?_take, if_pos (by omega), ← List.getD_eq_getElem?_getD]
  · subst h
    rw [if_pos rfl, List.append_assoc, List.getElem?_append_right (by rw [l1]; omega), l1, List.getElem?_append_left (by rw [l2]; omega), List.getElem?_take, if_pos (by omega), List.getElem?_drop, List.getD_eq_getElem?_getD]
    congr 2
    omega
  · rw [if_neg (by omega)]
    have h1 : (s + 1) * wd ≤ s' * wd := Nat.mul_le_mul_right wd h
    rw [List.getElem?_append_right (by rw [List.length_append, l1, l2]; rw [Nat.succ_mul] at h1; omega), List.length_append, l1, l2, List.getElem?_drop, List.getD_eq_getElem?_getD]
    congr 2
    rw [Nat.succ_mul] at h1 ⊢
    omega
theorem dnCopy_length {T : List Int} {n wd s f : Nat} (hl : T.length = n * wd) (hs : s < n) (hf : f < n) : (dnCopy T wd s f).length = n * wd := by
  have k1 : (s + 1) * wd ≤ n * wd := Nat.mul_le_mul_right wd hs
  have k2 : (f + 1) * wd ≤ n * wd := Nat.mul_le_mul_right wd hf
  rw [Nat.succ_mul] at k1 k2
  unfold dnCopy
  rw [List.length_append, List.length_append, List.length_take, List.length_take, List.length_drop, List.length_drop, Nat.succ_mul]
  omega
theorem dnSet_at {T : List Int} {n wd k c0 : Nat} (hl : T.length = n * wd) (hk : k < n) (hc0 : c0 < wd) (y : Int) (s c : Nat) (hc : c < wd) : rowAt (T.set (k * wd + c0) y) wd s c = if s = k ∧ c = c0 then y else rowAt T wd s c := by
  have k1 : (k + 1) * wd ≤ n * wd := Nat.mul_le_mul_right wd hk
  rw [Nat.succ_mul] at k1
  unfold rowAt
  rw [List.getD_eq_getElem?_getD, List.getElem?_set]
  by_cases h : k * wd + c0 = s * wd + c
  · obtain ⟨h1, h2⟩ := cell_eq hc0 hc h
    rw [if_pos h, if_pos (by omega), if_pos ⟨h1.symm, h2.symm⟩]
    rfl
  · rw [if_neg h, if_neg (fun g => h (by rw [g.1, g.2])), List.getD_eq_getElem?_getD]
/-- The rows of the first states stand. -/
structure DnI (w : List ByteArray) (k : Nat) (T : List Int) : Prop where
  len : T.length = (trN w).length * widN w
  zero0 : ∀ s, s < (trN w).length → rowAt T (widN w) s 0 = 0
  row : ∀ (s : Nat) (m : NodeD), (trN w)[s]? = some m → s < k → ∀ b, rowAt T (widN w) s (clN w b) = idxP w (stepP w m.path b)
  rest : ∀ s, k ≤ s → s < (trN w).length → ∀ c, c < widN w → rowAt T (widN w) s c = 0
def baseV (w : List ByteArray) (p : List UInt8) (b : UInt8) : Int := if p = [] then 0 else idxP w (stepP w (failP w p) b)
/-- And of one more the first bytes. -/
structure DnK (w : List ByteArray) (k i : Nat) (n : NodeD) (T : List Int) : Prop where
  len : T.length = (trN w).length * widN w
  zero0 : ∀ s, s < (trN w).length → rowAt T (widN w) s 0 = 0
  row : ∀ (s : Nat) (m : NodeD), (trN w)[s]? = some m → s < k → ∀ b, rowAt T (widN w) s (clN w b) = idxP w (stepP w m.path b)
  rest : ∀ s, k < s → s < (trN w).length → ∀ c, c < widN w → rowAt T (widN w) s c = 0
  cur : ∀ b, rowAt T (widN w) k (clN w b) = if b ∈ (kidsB w n).take i then idxP w (n.path ++ [b]) else baseV w n.path b
theorem wid_pos (w : List ByteArray) : 0 < widN w := Nat.succ_pos _
theorem dn_start (w : List ByteArray) : DnI w 0 (List.replicate ((trN w).length * widN w) 0) := by
  have hr : ∀ s c, rowAt (List.replicate ((trN w).length * widN w) (0 : Int)) (widN w) s c = 0 := fun s c => by
    unfold rowAt
    rw [List.getD_eq_getElem?_getD, List.getElem?_replicate]
    split <;> rfl
  exact ⟨List.length_replicate, fun s _ => hr s 0, fun s m _ h => by omega, fun s _ _ c _ => hr s c⟩
theorem fail_at (hs : srt w) {k : Nat} {n : NodeD} (h : (trN w)[k]? = some n) : ∃ (f : Nat) (m : NodeD), (trN w)[f]? = some m ∧ m.path = failP w n.path ∧ idxP w (failP w n.path) = (f : Int) ∧ f < (trN w).length ∧ (n.path ≠ [] → f < k) ∧ (n.path = [] → f = 0 ∧ k = 0) := by
  obtain ⟨f, m, h1, h2, h3⟩ := idx_node hs (lsufx_is hs n.path.tail)
  refine ⟨f, m, h1, h2, h3, (List.getElem?_eq_some_iff.1 h1).1, fun hn => idx_lt hs h1 h (by rw [h2]; exact fail_short _ hn), fun hn => ?_⟩
  have e1 := idx_at hs h
  rw [hn, idx_nil hs] at e1
  rw [hn] at h3
  have e2 : idxP w (lsufx w ([] : List UInt8).tail) = 0 := idx_nil hs
  rw [e2] at h3
  omega
theorem dn_copy (hs : srt w) {k : Nat} {n : NodeD} {T : List Int} (h : (trN w)[k]? = some n) (hT : DnI w k T) {f : Nat} (hf : idxP w (failP w n.path) = (f : Int)) : DnK w k 0 n (dnCopy T (widN w) k f) := by
  obtain ⟨f', m, g1, g2, g3, g4, g5, g6⟩ := fail_at hs h
  obtain rfl : f' = f := by rw [g3] at hf; omega
  have hk : k < (trN w).length := (List.getElem?_eq_some_iff.1 h).1
  have hz : ∀ b, clN w b < widN w := clN_lt w
  refine ⟨dnCopy_length hT.len hk g4, fun s hs => ?_, fun s m' hm hsk b => ?_, fun s hks hsn c hc => ?_, fun b => ?_⟩
  · rw [dnCopy_at hT.len hk g4 _ _ (wid_pos w)]
    split
    · exact hT.zero0 _ g4
    · exact hT.zero0 _ hs
  · rw [dnCopy_at hT.len hk g4 _ _ (hz b), if_neg (by omega)]
    exact hT.row s m' hm hsk b
  · rw [dnCopy_at hT.len hk g4 _ _ hc, if_neg (by omega)]
    exact hT.rest s (by omega) hsn c hc
  · rw [dnCopy_at hT.len hk g4 _ _ (hz b), if_pos rfl, List.take_zero, if_neg (by simp)]
    unfold baseV
    by_cases hp : n.path = []
    · obtain ⟨rfl, rfl⟩ := g6 hp
      rw [if_pos hp]
      exact hT.rest 0 (Nat.le_refl _) g4 _ (hz b)
    · rw [if_neg hp, ← g2]
      exact hT.row _ m g1 (g5 hp) b
theorem dn_put (hs : srt w) {k i : Nat} {n : NodeD} {T : List Int} (h : (trN w)[k]? = some n) (hT : DnK w k i n T) {b : UInt8} (hb : (kidsB w n)[i]? = some b) : DnK w k (i + 1) n (T.set (k * widN w + clN w b) (idxP w (n.path ++ [b]))) := by
  have hk : k < (trN w).length := (List.getElem?_eq_some_iff.1 h).1
  have hz : ∀ b, clN w b < widN w := clN_lt w
  have hbm : b ∈ kidsB w n := List.mem_of_getElem? hb
  have hp := kid_mark hs ((kidsB_mem hs h b).1 hbm)
  refine ⟨by rw [List.length_set]; exact hT.len, fun s hsn => ?_, fun s m' hm hsk b' => ?_, fun s hks hsn c hc => ?_, fun b' => ?_⟩
  · rw [dnSet_at hT.len hk (hz b) _ _ _ (wid_pos w), if_neg (by omega)]
    exact hT.zero0 s hsn
  · rw [dnSet_at hT.len hk (hz b) _ _ _ (hz b'), if_neg (by omega)]
    exact hT.row s m' hm hsk b'
  · rw [dnSet_at hT.len hk (hz b) _ _ _ hc, if_neg (by omega)]
    exact hT.rest s hks hsn c hc
  · rw [dnSet_at hT.len hk (hz b) _ _ _ (hz b'), List.take_add_one, hb]
    by_cases e : b' = b
    · subst e
      rw [if_pos ⟨rfl, rfl⟩, if_pos (by simp)]
    · rw [if_neg (fun g => e (clN_inj w hp g.2.symm).symm), hT.cur b']
      have : (b' ∈ (kidsB w n).take i ++ (some b).toList) ↔ b' ∈ (kidsB w n).take i := by simp [e]
      by_cases h2 : b' ∈ (kidsB w n).take i
      · rw [if_pos h2, if_pos (this.2 h2)]
      · rw [if_neg h2, if_neg (fun g => h2 (this.1 g))]
theorem dn_end (hs : srt w) {k : Nat} {n : NodeD} {T : List Int} (h : (trN w)[k]? = some n) (hT : DnK w k (kidsB w n).length n T) : DnI w (k + 1) T := by
  refine ⟨hT.len, hT.zero0, fun s m hm hsk b => ?_, fun s hks hsn c hc => hT.rest s (by omega) hsn c hc⟩
  rcases Nat.lt_or_ge s k with h1 | h1
  · exact hT.row s m hm h1 b
  · obtain rfl : s = k := by omega
    obtain rfl : n = m := by rw [h] at hm; injection hm
    rw [hT.cur b, List.take_length]
    by_cases hb : b ∈ kidsB w n
    · rw [if_pos hb, step_self ((kidsB_mem hs h b).1 hb)]
    · have hn := fun g => hb ((kidsB_mem hs h b).2 g)
      rw [if_neg hb]
      unfold baseV
      by_cases hp : n.path = []
      · rw [hp] at hn ⊢
        rw [if_pos rfl, step_nil hn, idx_nil hs]
      · rw [if_neg hp, step_fall hs hn]
        rfl
/-- The classes' bytes. -/
theorem clEnd_nth (M : List Int) : ∀ k j, j < (clEnd M k).2.length → ∃ b, b < k ∧ M.getD b 0 > 0 ∧ (clEnd M k).2.getD j 0 = (b : Int) ∧ (clEnd M b).2.length = j
  | 0, j, h => by simp [clEnd] at h
  | k + 1, j, h => by
    by_cases hk : M.getD k 0 > 0
    · have e : (clEnd M (k + 1)).2 = (clEnd M k).2 ++ [(k : Int)] := by simp only [clEnd]; rw [if_pos hk]
      rw [e] at h ⊢
      rw [List.length_append, List.length_singleton] at h
      rcases Nat.lt_or_ge j (clEnd M k).2.length with h1 | h1
      · obtain ⟨b, h2, h3, h4, h5⟩ := clEnd_nth M k j h1
        exact ⟨b, by omega, h3, by rw [List.getD_eq_getElem?_getD, List.getElem?_append_left h1, ← List.getD_eq_getElem?_getD]; exact h4, h5⟩
      · obtain rfl : j = (clEnd M k).2.length := by omega
        exact ⟨k, by omega, hk, by rw [List.getD_eq_getElem?_getD, List.getElem?_append_right (Nat.le_refl _), Nat.sub_self]; rfl, rfl⟩
    · have e : (clEnd M (k + 1)).2 = (clEnd M k).2 := by simp only [clEnd]; rw [if_neg hk]
      rw [e] at h ⊢
      obtain ⟨b, h2, h3, h4, h5⟩ := clEnd_nth M k j h
      exact ⟨b, by omega, h3, h4, h5⟩
def clBytes (w : List ByteArray) : List UInt8 := (clEnd (clMarks w) 256).2.map fun n => UInt8.ofNat n.toNat
theorem clBytes_length (w : List ByteArray) : (clBytes w).length + 1 = widN w := by unfold clBytes widN; rw [List.length_map]
theorem clBytes_at (w : List ByteArray) {j : Nat} (h : j < (clBytes w).length) : clN w ((clBytes w).getD j 0) = j + 1 := by
  have h' : j < (clEnd (clMarks w) 256).2.length := by unfold clBytes at h; rw [List.length_map] at h; exact h
  obtain ⟨b, h2, h3, h4, h5⟩ := clEnd_nth (clMarks w) 256 j h'
  have e : (clBytes w).getD j 0 = UInt8.ofNat b := by
    unfold clBytes
    rw [List.getD_eq_getElem?_getD, List.getElem?_map, List.getElem?_eq_getElem h']
    rw [List.getD_eq_getElem?_getD, List.getElem?_eq_getElem h'] at h4
    have h4' : (clEnd (clMarks w) 256).2[j] = (b : Int) := h4
    show UInt8.ofNat ((clEnd (clMarks w) 256).2[j]).toNat = _
    rw [h4', Int.toNat_natCast]
  have eb : (UInt8.ofNat b).toNat = b := by rw [UInt8.toNat_ofNat']; omega
  have hm : markB w b = true := by
    rw [clMarks_at w h2] at h3
    by_cases hmm : markB w b = true
    · exact hmm
    · rw [if_neg hmm] at h3; exact absurd h3 (by decide)
  rw [e]
  unfold clN
  rw [eb, clB_eq w h2, if_pos hm, h5]
  omega
/-- A state's row; all rows. -/
def rowL (w : List ByteArray) (p : List UInt8) : List Int := 0 :: (clBytes w).map fun b => idxP w (stepP w p b)
def denseT (w : List ByteArray) : List Int := (trN w).flatMap fun n => rowL w n.path
theorem rowL_length (w : List ByteArray) (p : List UInt8) : (rowL w p).length = widN w := by
  unfold rowL
  rw [List.length_cons, List.length_map, clBytes_length]
theorem flat_len (wd : Nat) (f : NodeD → List Int) (hf : ∀ n, (f n).length = wd) : ∀ l : List NodeD, (l.flatMap f).length = l.length * wd
  | [] => by simp
  | n :: l => by rw [List.flatMap_cons, List.length_append, hf, flat_len wd f hf l, List.length_cons, Nat.succ_mul]; omega
theorem flat_get (wd : Nat) (f : NodeD → List Int) (hf : ∀ n, (f n).length = wd) : ∀ (l : List NodeD) (s : Nat) (n : NodeD), l[s]? = some n → ((l.flatMap f).drop (s * wd)).take wd = f n
  | [], s, n, h => by simp at h
  | m :: l, 0, n, h => by
    simp only [List.getElem?_cons_zero, Option.some.injEq] at h
    subst h
    rw [Nat.zero_mul, List.drop_zero, List.flatMap_cons, List.take_append_of_le_length (by rw [hf]; exact Nat.le_refl _), List.take_of_length_le (by rw [hf]; exact Nat.le_refl _)]
  | m :: l, s + 1, n, h => by
    rw [List.getElem?_cons_succ] at h
    rw [List.flatMap_cons, Nat.succ_mul, Nat.add_comm, ← List.drop_drop, List.drop_left' (hf m)]
    exact flat_get wd f hf l s n h
theorem denseT_length (w : List ByteArray) : (denseT w).length = (trN w).length * widN w := flat_len _ _ (fun n => rowL_length w _) _
theorem take_at {T : List Int} {wd s c : Nat} (hc : c < wd) : ((T.drop (s * wd)).take wd).getD c 0 = rowAt T wd s c := by
  unfold rowAt
  rw [List.getD_eq_getElem?_getD, List.getElem?_take, if_pos hc, List.getElem?_drop, List.getD_eq_getElem?_getD]
theorem dn_row {T : List Int} (hT : DnI w (trN w).length T) {s : Nat} {m : NodeD} (h : (trN w)[s]? = some m) : (T.drop (s * widN w)).take (widN w) = rowL w m.path := by
  have hs : s < (trN w).length := (List.getElem?_eq_some_iff.1 h).1
  have k1 : (s + 1) * widN w ≤ (trN w).length * widN w := Nat.mul_le_mul_right _ hs
  rw [Nat.succ_mul] at k1
  have l1 : ((T.drop (s * widN w)).take (widN w)).length = widN w := by rw [List.length_take, List.length_drop, hT.len]; omega
  apply List.ext_getElem (by rw [l1, rowL_length])
  intro c h1 h2
  rw [l1] at h1
  have e1 : ((T.drop (s * widN w)).take (widN w)).getD c 0 = ((T.drop (s * widN w)).take (widN w))[c] := by
    rw [List.getD_eq_getElem?_getD, List.getElem?_eq_getElem (by rw [l1]; exact h1)]; rfl
  rw [← e1, take_at h1]
  cases c with
  | zero => exact hT.zero0 s hs
  | succ c =>
    have hc : c < (clBytes w).length := by have := clBytes_length w; omega
    have e2 := clBytes_at w hc
    have e3 := hT.row s m h hs ((clBytes w).getD c 0)
    rw [e2] at e3
    rw [e3]
    have e4 : (rowL w m.path)[c + 1]? = some (idxP w (stepP w m.path ((clBytes w).getD c 0))) := by
      show ((clBytes w).map fun b => idxP w (stepP w m.path b))[c]? = _
      rw [List.getElem?_map, List.getD_eq_getElem?_getD, List.getElem?_eq_getElem hc]
      rfl
    exact ((List.getElem?_eq_some_iff.1 e4).2).symm
theorem dn_all {T : List Int} (hT : DnI w (trN w).length T) : T = denseT w := by
  apply List.ext_getElem (by rw [hT.len, denseT_length])
  intro j h1 h2
  have hj := h1
  rw [hT.len] at hj
  have hw := wid_pos w
  have hs : j / widN w < (trN w).length := by rw [Nat.div_lt_iff_lt_mul hw]; exact hj
  obtain ⟨m, hm⟩ : ∃ m, (trN w)[j / widN w]? = some m := ⟨_, List.getElem?_eq_getElem hs⟩
  have e : j / widN w * widN w + j % widN w = j := by rw [Nat.mul_comm]; exact Nat.div_add_mod j _
  have hc := Nat.mod_lt j hw
  have r1 := dn_row hT hm
  have r2 := flat_get (widN w) (fun n => rowL w n.path) (fun n => rowL_length w _) (trN w) _ m hm
  have r3 := r1.trans r2.symm
  have a1 := take_at (T := T) (s := j / widN w) hc
  have a2 := take_at (T := denseT w) (s := j / widN w) hc
  rw [r1] at a1
  have r2' : ((denseT w).drop (j / widN w * widN w)).take (widN w) = rowL w m.path := r2
  rw [r2'] at a2
  have a3 := a1.symm.trans a2
  unfold rowAt at a3
  rw [e, List.getD_eq_getElem?_getD, List.getD_eq_getElem?_getD, List.getElem?_eq_getElem h1, List.getElem?_eq_getElem h2] at a3
  exact a3
end
end Go.Proofs.Ytbkcjeopcjghgaa.Base

/- The rows of a set, laid over each other, in memory: told by the cells, where each state's row begins, and where the states fall back to; no condition. -/
namespace Go.Proofs.Ytbkcjeopcjghgaa.P
open Go Go.RowKit Go.Proofs.YtbkcjeopcjghgaaW.PrintWords

structure CellD where
  owner : Int
  next : Int
  deriving Inhabited, DecidableEq
def clF : Flat CellD where
  n := 2
  enc := fun x => [.int .i32 x.owner, .int .i32 x.next]
  len := fun _ => rfl
  one := fun x u hu => by
    simp only [List.mem_cons, List.not_mem_nil, or_false] at hu
    rcases hu with rfl | rfl <;> rfl
structure SparseD where
  cells : List CellD
  base : List Int
  fail : List Int
  deriving Inhabited
abbrev D74 := SparseD
def K74 : OBK SparseD where
  R := fun w a d => ∃ b A c B c1 F c2, a = ⟨b, 0, none⟩ ∧ w.heap[b]? = some (.cells #[.slice A d.cells.length c, .slice B d.base.length c1, .slice F d.fail.length c2] 74 (0, 0)) ∧ d.cells.length ≤ c ∧ clF.kd.C w A d.cells.length d.cells ∧ Kd.C (Kd.int .i64) w B d.base.length d.base ∧ Kd.C (Kd.int .i64) w F d.fail.length d.fail
  below := by
    rintro w w1 a d h ⟨b, A, c, B, c1, F, c2, rfl, hb, hl, hc, h1, h2⟩
    exact ⟨b, A, c, B, c1, F, c2, rfl, (h.block _ (Array.getElem?_eq_some_iff.1 hb).1).trans hb, hl, Kd.C_below hc h, Kd.C_below h1 h, Kd.C_below h2 h⟩
end Go.Proofs.Ytbkcjeopcjghgaa.P

/- What rows that are laid over each other tell: how many states and cells, where a byte leads from a state itself, and as it falls back; for all tables, nil too. -/
namespace Go.Proofs.Ytbkcjeopcjghgaa.P
open Go Go.RowKit Go.Proofs.YtbkcjeopcjghgaaW.PrintWords Go.Proofs.YtbkcjeopcjghgaaW.PrintLast Go.Proofs.Ytbkcjeopcjghgaa.Base
set_option linter.unusedVariables false
set_option linter.unusedSimpArgs false

def spLen (a0 : Option SparseD) : Nat := match a0 with | none => 0 | some d => d.base.length
def sparse_Table_Len.f (a0 : Option SparseD) : Option Int := some (spLen a0 : Int)
set_option maxHeartbeats 400000 in
theorem sparse_Table_Len.calls (Pa0 : Option Addr) (a0 : Option SparseD) (r : Int) (w : World) (ho : OB K74 w Pa0 a0) (h : sparse_Table_Len.f a0 = some r) :
    Calls Try.prog 19 #[.pointer Pa0] w fun e w' => e = .returned (.int .i64 r) ∧ Drawn0 w w' := by
  obtain rfl := Option.some.inj h
  clear h
  cases a0 with
  | none =>
    obtain rfl := OB.p_none ho
    clear ho
    go_enter Try.func19, Try.ntmps19
    go_wp2
    go_ret
    exact ⟨rfl, Drawn0.refl _⟩
  | some d =>
    obtain ⟨a, rfl⟩ := OB.p_some ho
    obtain ⟨b, A, c, B, c1, F, c2, rfl, hb, hl, hc, hB, hF⟩ := OB.at ho
    have h1 : w.cell? ⟨b, 1, none⟩ = some (.slice B d.base.length c1) := blk_cell hb 1
    show Calls _ _ _ _ fun e w' => e = .returned (.int .i64 ((d.base.length : Nat) : Int)) ∧ Drawn0 w w'
    generalize d.base.length = n at h1 ⊢
    clear ho hb hl hc hB hF
    go_enter Try.func19, Try.ntmps19
    go_wp2
    go_ret
    exact ⟨rfl, Drawn0.refl _⟩
def spCells (a0 : Option SparseD) : Nat := match a0 with | none => 0 | some d => d.cells.length
def sparse_Table_Cells.f (a0 : Option SparseD) : Option Int := some (spCells a0 : Int)
set_option maxHeartbeats 400000 in
theorem sparse_Table_Cells.calls (Pa0 : Option Addr) (a0 : Option SparseD) (r : Int) (w : World) (ho : OB K74 w Pa0 a0) (h : sparse_Table_Cells.f a0 = some r) :
    Calls Try.prog 20 #[.pointer Pa0] w fun e w' => e = .returned (.int .i64 r) ∧ Drawn0 w w' := by
  obtain rfl := Option.some.inj h
  clear h
  cases a0 with
  | none =>
    obtain rfl := OB.p_none ho
    clear ho
    go_enter Try.func20, Try.ntmps20
    go_wp2
    go_ret
    exact ⟨rfl, Drawn0.refl _⟩
  | some d =>
    obtain ⟨a, rfl⟩ := OB.p_some ho
    obtain ⟨b, A, c, B, c1, F, c2, rfl, hb, hl, hc, hB, hF⟩ := OB.at ho
    have h1 : w.cell? ⟨b, 0, none⟩ = some (.slice A d.cells.length c) := blk_cell hb 0
    show Calls _ _ _ _ fun e w' => e = .returned (.int .i64 ((d.cells.length : Nat) : Int)) ∧ Drawn0 w w'
    generalize d.cells.length = n at h1 ⊢
    clear ho hb hl hc hB hF
    go_enter Try.func20, Try.ntmps20
    go_wp2
    go_ret
    exact ⟨rfl, Drawn0.refl _⟩
/-- Where a byte leads from a state itself. -/
def spIs (a0 : Option SparseD) (s : Int) : Bool := decide (0 ≤ s ∧ s < (spLen a0 : Int))
def spK (d : SparseD) (s c : Int) : Int := rd d.base s + c
def spOk (d : SparseD) (s c : Int) : Prop := (0 ≤ rd d.base s ∧ rd d.base s ≤ 1099511627776) ∧ (0 ≤ c ∧ c ≤ 255) ∧ (∀ x ∈ d.cells, (0 ≤ x.owner ∧ x.owner ≤ 2147483647) ∧ 0 ≤ x.next ∧ x.next ≤ 2147483647) ∧ d.base.length ≤ 1099511627776
def spNext (d : SparseD) (s c : Int) : Int × Bool := if spK d s c < (d.cells.length : Int) ∧ (d.cells.getD (spK d s c).toNat default).owner = s + 1 then ((d.cells.getD (spK d s c).toNat default).next, true) else (0, false)
instance (d : SparseD) (s c : Int) : Decidable (spOk d s c) := by unfold spOk; infer_instance
def sparse_Table_Next.f (a0 : Option SparseD) (a1 a2 : Int) : Option (Int × Bool) := if spIs a0 a1 = true then (match a0 with
  | none => none
  | some d => if spOk d a1 a2 then some (spNext d a1 a2) else none) else some (0, false)
set_option maxHeartbeats 4000000 in
theorem sparse_Table_Next.calls (Pa0 : Option Addr) (a0 : Option SparseD) (a1 a2 : Int) (r1 : Int) (r2 : Bool) (w : World) (ho : OB K74 w Pa0 a0) (h : sparse_Table_Next.f a0 a1 a2 = some (r1, r2)) :
    Calls Try.prog 22 #[.pointer Pa0, .int .i64 a1, .int .u8 a2] w fun e w' => e = .returned (.tuple #[.int .i64 r1, .bool r2]) ∧ Drawn0 w w' := by
  have hL := fun W g => sparse_Table_Len.calls Pa0 a0 (spLen a0 : Int) W g rfl
  unfold sparse_Table_Next.f at h
  have HO := Aside0.mk ho
  have HL := Aside0.mk hL
  clear hL
  by_cases hi : spIs a0 a1 = true
  rotate_left
  · rw [if_neg hi] at h
    obtain ⟨rfl, rfl⟩ := Prod.mk.inj (Option.some.inj h)
    have hn : ¬ (0 ≤ a1 ∧ a1 < (spLen a0 : Int)) := fun g => hi (decide_eq_true g)
    generalize spLen a0 = n at HL hn
    clear h hi ho
    by_cases h0 : a1 < 0
    · have b1 : decide (a1 < 0) = true := decide_eq_true h0
      clear hn
      go_enter Try.func22, Try.ntmps22
      go_wp2_with (go_at_call 19; refine (HL.out _ HO.out).mono ?_; rintro e w1 ⟨rfl, ⟨q, rfl⟩⟩)
      go_ret2
      exact ⟨rfl, by repeat (first | exact Drawn0.refl _ | apply Drawn0.step)⟩
    · have b1 : decide (a1 < 0) = false := decide_eq_false h0
      have b2 : decide ((n : Int) ≤ a1) = true := decide_eq_true (by omega)
      clear hn
      go_enter Try.func22, Try.ntmps22
      go_wp2_with (go_at_call 19; refine (HL.out _ HO.out).mono ?_; rintro e w1 ⟨rfl, ⟨q, rfl⟩⟩)
      go_ret2
      exact ⟨rfl, by repeat (first | exact Drawn0.refl _ | apply Drawn0.step)⟩
  · rw [if_pos hi] at h
    cases a0 with
    | none => cases h
    | some d =>
      simp only at h
      by_cases hk : spOk d a1 a2
      rotate_left
      · rw [if_neg hk] at h; cases h
      rw [if_pos hk] at h
      have h := Option.some.inj h
      obtain ⟨⟨k1, k2⟩, ⟨k3, k4⟩, k5, k6⟩ := hk
      obtain ⟨s0, s1⟩ := of_decide_eq_true hi
      have s1 : a1 < (d.base.length : Int) := s1
      have hsl : spLen (some d) = d.base.length := rfl
      rw [hsl] at HL
      obtain ⟨s, rfl⟩ : ∃ s : Nat, a1 = (s : Int) := ⟨a1.toNat, by omega⟩
      obtain ⟨c, rfl⟩ : ∃ c : Nat, a2 = (c : Int) := ⟨a2.toNat, by omega⟩
      obtain ⟨a, rfl⟩ := OB.p_some ho
      obtain ⟨b, A, cp, B, cp1, F, cp2, rfl, hb, hl, hc, hB, hF⟩ := OB.at ho
      obtain ⟨bs, hbs⟩ : ∃ n : Nat, rd d.base (s : Int) = n := ⟨(rd d.base (s : Int)).toNat, by omega⟩
      obtain ⟨ad, rfl, hat⟩ := Kd.at_int hB (s : Int) (by omega) s1
      rw [Int.toNat_natCast, hbs] at hat
      have e : spK d (s : Int) (c : Int) = ((bs + c : Nat) : Int) := by unfold spK; rw [hbs]; omega
      unfold spNext at h
      rw [e, Int.toNat_natCast] at h
      have h0 : w.cell? ⟨b, 0, none⟩ = some (.slice A d.cells.length cp) := blk_cell hb 0
      have h1 : w.cell? ⟨b, 1, none⟩ = some (.slice (some ad) d.base.length cp1) := blk_cell hb 1
      have f1 : ¬ (s : Int) < 0 := by omega
      have f2 : ¬ (d.base.length : Int) ≤ (s : Int) := by omega
      have b1 : decide ((s : Int) < 0) = false := decide_eq_false f1
      have b2 : decide ((d.base.length : Int) ≤ (s : Int)) = false := decide_eq_false f2
      have w1 : wrap64 ((bs : Int) + (c : Int)) = (bs : Int) + (c : Int) := wrap_id (by omega) (by omega)
      by_cases hkl : bs + c < d.cells.length
      · obtain ⟨a2, rfl, hx⟩ := flat_C default hc (bs + c) hkl
        have hm := k5 _ (getD_mem d.cells (bs + c) default hkl)
        generalize d.cells.getD (bs + c) default = x at h hx hm
        have g0 : w.cell? (a2.add ((bs + c) * 2)) = some (.int .i32 x.owner) := hx 0 _ rfl
        have g1 : w.cell? (a2.add ((bs + c) * 2 + 1)) = some (.int .i32 x.next) := hx 1 _ rfl
        obtain ⟨xo, xn⟩ := x
        simp only at h hm g0 g1
        have g2 : w.cell? ⟨(a2.add ((bs + c) * 2)).block, (a2.add ((bs + c) * 2)).off + 1, none⟩ = some (.int .i32 xn) := by
          rw [← g1, ← Addr.add_add, Addr.add_succ']
        obtain ⟨⟨m1, m2⟩, m3, m4⟩ := hm
        have b3 : decide ((d.cells.length : Int) ≤ (bs : Int) + (c : Int)) = false := decide_eq_false (by omega)
        have hk1 : (bs : Int) + (c : Int) < (d.cells.length : Int) := by omega
        have hk2 : ((bs : Int) + (c : Int)).toNat = bs + c := by omega
        have w2 : IntKind.i64.wrap xo = xo := by rw [i64_w, wrap_id (by omega) (by omega)]
        have w3 : wrap64 ((s : Int) + 1) = (s : Int) + 1 := wrap_id (by omega) (by omega)
        generalize d.cells.length = cl at *
        generalize d.base.length = bl at *
        clear hb hl hc hB hF k5 hi hsl ho e hbs k1 k2
        by_cases hx2 : xo = (s : Int) + 1
        · rw [if_pos ⟨by omega, hx2⟩] at h
          obtain ⟨rfl, rfl⟩ := Prod.mk.inj h
          have b4 : (xo == (s : Int) + 1) = true := by rw [beq_iff_eq]; exact hx2
          have b5 : decide (xo = (s : Int) + 1) = true := decide_eq_true hx2
          have w4 : IntKind.i64.wrap xn = xn := by rw [i64_w, wrap_id (by omega) (by omega)]
          clear h hx2
          go_enter Try.func22, Try.ntmps22
          go_wp2_with (go_at_call 19; refine (HL.out _ HO.out).mono ?_; rintro e w1 ⟨rfl, ⟨q, rfl⟩⟩)
          go_ret2
          exact ⟨rfl, by repeat (first | exact Drawn0.refl _ | apply Drawn0.step)⟩
        · rw [if_neg (fun g => hx2 g.2)] at h
          obtain ⟨rfl, rfl⟩ := Prod.mk.inj h
          have b4 : (xo == (s : Int) + 1) = false := by rw [beq_eq_false_iff_ne]; exact hx2
          have b5 : decide (xo = (s : Int) + 1) = false := decide_eq_false hx2
          clear h hx2
          go_enter Try.func22, Try.ntmps22
          go_wp2_with (go_at_call 19; refine (HL.out _ HO.out).mono ?_; rintro e w1 ⟨rfl, ⟨q, rfl⟩⟩)
          go_ret2
          exact ⟨rfl, by repeat (first | exact Drawn0.refl _ | apply Drawn0.step)⟩
      · have b3 : decide ((d.cells.length : Int) ≤ (bs : Int) + (c : Int)) = true := decide_eq_true (by omega)
        rw [if_neg (by omega)] at h
        obtain ⟨rfl, rfl⟩ := Prod.mk.inj h
        generalize d.cells.length = cl at *
        generalize d.base.length = bl at *
        clear hb hl hc hB hF k5 hi hsl ho e hbs k1 k2 h hkl
        go_enter Try.func22, Try.ntmps22
        go_wp2_with (go_at_call 19; refine (HL.out _ HO.out).mono ?_; rintro e w1 ⟨rfl, ⟨q, rfl⟩⟩)
        go_ret2
        exact ⟨rfl, by repeat (first | exact Drawn0.refl _ | apply Drawn0.step)⟩
/-- Where a byte leads from a state, or from those to which it falls back, in so many steps. -/
def spStepF (d : SparseD) (c : Int) : Nat → Int → Option Int
  | 0, _ => none
  | n + 1, s => match sparse_Table_Next.f (some d) s c with
    | none => none
    | some (k, ok) => if ok = true then some k else if s = 0 then some 0 else if 0 ≤ s ∧ s < (d.fail.length : Int) then spStepF d c n (rd d.fail s) else none
def sparse_Table_Step.f (a0 : Option SparseD) (a1 a2 : Int) : Option Int := if spIs a0 a1 = true then (match a0 with | none => none | some d => spStepF d a2 16777219 a1) else some 0
set_option maxHeartbeats 4000000 in
theorem sparse_Table_Step.calls (Pa0 : Option Addr) (a0 : Option SparseD) (a1 a2 : Int) (r : Int) (w : World) (ho : OB K74 w Pa0 a0) (h : sparse_Table_Step.f a0 a1 a2 = some r) :
    Calls Try.prog 18 #[.pointer Pa0, .int .i64 a1, .int .u8 a2] w fun e w' => e = .returned (.int .i64 r) ∧ Drawn0 w w' := by
  have hL := fun W g => sparse_Table_Len.calls Pa0 a0 (spLen a0 : Int) W g rfl
  unfold sparse_Table_Step.f at h
  have HO := Aside0.mk ho
  have HL := Aside0.mk hL
  clear hL
  by_cases hi : spIs a0 a1 = true
  rotate_left
  · rw [if_neg hi] at h
    obtain rfl := Option.some.inj h
    have hn : ¬ (0 ≤ a1 ∧ a1 < (spLen a0 : Int)) := fun g => hi (decide_eq_true g)
    generalize spLen a0 = n at HL hn
    clear h hi ho
    by_cases h0 : a1 < 0
    · have b1 : decide (a1 < 0) = true := decide_eq_true h0
      clear hn
      go_enter Try.func18, Try.ntmps18
      go_wp2_with (go_at_call 19; refine (HL.out _ HO.out).mono ?_; rintro e w1 ⟨rfl, ⟨q, rfl⟩⟩)
      go_ret
      exact ⟨rfl, by repeat (first | exact Drawn0.refl _ | apply Drawn0.step)⟩
    · have b1 : decide (a1 < 0) = false := decide_eq_false h0
      have b2 : decide ((n : Int) ≤ a1) = true := decide_eq_true (by omega)
      clear hn
      go_enter Try.func18, Try.ntmps18
      go_wp2_with (go_at_call 19; refine (HL.out _ HO.out).mono ?_; rintro e w1 ⟨rfl, ⟨q, rfl⟩⟩)
      go_ret
      exact ⟨rfl, by repeat (first | exact Drawn0.refl _ | apply Drawn0.step)⟩
  · rw [if_pos hi] at h
    cases a0 with
    | none => cases h
    | some d =>
      simp only at h
      obtain ⟨s0, s1⟩ := of_decide_eq_true hi
      obtain ⟨fu, hfu⟩ : ∃ fu, 16777219 = fu := ⟨_, rfl⟩
      rw [hfu] at h
      have HR := Aside0.mk h
      have hNx := fun s k ok W g hh => sparse_Table_Next.calls Pa0 (some d) s a2 k ok W g hh
      have HNX := Aside0.mk hNx
      obtain ⟨a, rfl⟩ := OB.p_some ho
      obtain ⟨b, A, cp, B, cp1, F, cp2, rfl, hb, hl, hc, hB, hF⟩ := OB.at ho
      have h2 : w.cell? ⟨b, 2, none⟩ = some (.slice F d.fail.length cp2) := blk_cell hb 2
      have HF := Aside0.mk hF
      obtain ⟨n, hn⟩ : ∃ n, spLen (some d) = n := ⟨_, rfl⟩
      rw [hn] at HL s1
      have b1 : decide (a1 < 0) = false := decide_eq_false (by omega)
      have b2 : decide ((n : Int) ≤ a1) = false := decide_eq_false (by omega)
      clear h hNx hb hl hc hB hF hfu hi ho hn
      go_enter Try.func18, Try.ntmps18
      go_wp2_with (go_at_call 19; refine (HL.out _ HO.out).mono ?_; rintro e w1 ⟨rfl, ⟨q, rfl⟩⟩)
      go_loopg [1, 7, 8] fu (fun kx x x7 x8 W => ∃ (s : Int), x = .int .i64 s ∧ Aside0 (spStepF d a2 kx s = some r) ∧ Aside0 (Drawn0 w W))
      case atStart => exact ⟨a1, rfl, HR, ⟨⟨q, rfl⟩⟩⟩
      case round =>
        obtain ⟨s, rfl, HS, HD⟩ := hrel
        cases gk with
        | zero =>
          exfalso
          have h := HS.out
          simp only [spStepF] at h
          cases h
        | succ gk =>
        have h := HS.out
        simp only [spStepF] at h
        cases hn : sparse_Table_Next.f (some d) s a2 with
        | none => rw [hn] at h; cases h
        | some qq =>
        obtain ⟨k, ok⟩ := qq
        rw [hn] at h
        simp only at h
        have hC := fun W g => HNX.out s k ok W g hn
        have HC := Aside0.mk hC
        obtain ⟨q0, rfl⟩ := HD.out
        have hd2 : (w.drewN q0).cell? ⟨b, 2, none⟩ = some (.slice F d.fail.length cp2) := h2
        cases ok with
        | true =>
          rw [if_pos rfl] at h
          obtain rfl := Option.some.inj h
          clear hn hC HS h
          go_wp2_with (go_at_call 22; refine (HC.out _ (OB.drewN HO.out q0)).mono ?_; rintro e w1 ⟨rfl, ⟨q1, rfl⟩⟩)
          go_ret
          exact ⟨rfl, ⟨q0 + q1, by first | rfl | rw [World.drewN_drewN]⟩⟩
        | false =>
          rw [if_neg (by simp)] at h
          by_cases hs0 : s = 0
          · rw [if_pos hs0] at h
            obtain rfl := Option.some.inj h
            subst hs0
            clear hn hC HS h
            go_wp2_with (go_at_call 22; refine (HC.out _ (OB.drewN HO.out q0)).mono ?_; rintro e w1 ⟨rfl, ⟨q1, rfl⟩⟩)
            go_ret
            exact ⟨rfl, ⟨q0 + q1, by first | rfl | rw [World.drewN_drewN]⟩⟩
          · rw [if_neg hs0] at h
            by_cases hs1 : 0 ≤ s ∧ s < (d.fail.length : Int)
            rotate_left
            · rw [if_neg hs1] at h; cases h
            rw [if_pos hs1] at h
            obtain ⟨hlo, hhi⟩ := hs1
            obtain ⟨ad, rfl, hat⟩ := Kd.at_int HF.out s hlo hhi
            have HS1 := Aside0.mk h
            clear hn hC HS h
            obtain ⟨y, hy⟩ : ∃ y, rd d.fail s = y := ⟨_, rfl⟩
            rw [hy] at hat HS1
            go_wp2_with (go_at_call 22; refine (HC.out _ (OB.drewN HO.out q0)).mono ?_; rintro e w1 ⟨rfl, ⟨q1, rfl⟩⟩; have he0 : ((w.drewN q0).drewN q1).cell? ⟨b, 2, none⟩ = some (.slice (some ad) d.fail.length cp2) := h2; have he1 : ((w.drewN q0).drewN q1).cell? (ad.add s.toNat) = some (.int .i64 y) := hat)
            go_roundg gk
            case measure => omega
            case rel => exact ⟨y, rfl, HS1, ⟨q0 + q1, by first | rfl | rw [World.drewN_drewN]⟩⟩
end Go.Proofs.Ytbkcjeopcjghgaa.P

/- The rows of a set laid over each other, in plain Lean: each row at the least place where its cells are free; what the cells tell then. -/
namespace Go.Proofs.Ytbkcjeopcjghgaa.Base
open Go Go.RowKit Go.Proofs.YtbkcjeopcjghgaaW.PrintWords Go.Proofs.YtbkcjeopcjghgaaW.PrintMore Go.Proofs.Ytbkcjeopcjghgaa.P
set_option linter.unusedVariables false

theorem cell0 : (default : CellD) = ⟨0, 0⟩ := rfl
def ownC (CL : List CellD) (k : Nat) : Int := (CL.getD k default).owner
theorem own_out {CL : List CellD} {k : Nat} (h : CL.length ≤ k) : CL.getD k default = ⟨0, 0⟩ := by
  rw [List.getD_eq_getElem?_getD, List.getElem?_eq_none h]
  rfl
def fitB (CL : List CellD) (bs : List UInt8) (a : Nat) : Bool := bs.all fun b => decide (¬ 0 < ownC CL (a + b.toNat))
def fitF (CL : List CellD) (bs : List UInt8) : Nat → Nat → Nat
  | 0, a => a
  | f + 1, a => if fitB CL bs a = true then a else fitF CL bs f (a + 1)
theorem fitF_le (CL : List CellD) (bs : List UInt8) : ∀ f a, fitF CL bs f a ≤ a + f
  | 0, a => Nat.le_refl _
  | f + 1, a => by
    have := fitF_le CL bs f (a + 1)
    unfold fitF
    split <;> omega
theorem fitB_iff {CL : List CellD} {bs : List UInt8} {a : Nat} : fitB CL bs a = true ↔ ∀ b ∈ bs, ¬ 0 < ownC CL (a + b.toNat) := by
  unfold fitB
  rw [List.all_eq_true]
  exact ⟨fun h b hb => of_decide_eq_true (h b hb), fun h b hb => decide_eq_true (h b hb)⟩
theorem fitB_end {CL : List CellD} {bs : List UInt8} {a : Nat} (h : CL.length ≤ a) : fitB CL bs a = true := by
  rw [fitB_iff]
  intro b _
  unfold ownC
  rw [own_out (by omega)]
  decide
theorem fitF_fit (CL : List CellD) (bs : List UInt8) : ∀ f a, CL.length ≤ a + f → fitB CL bs (fitF CL bs f a) = true
  | 0, a, h => fitB_end h
  | f + 1, a, h => by
    unfold fitF
    by_cases hb : fitB CL bs a = true
    · rw [if_pos hb]; exact hb
    · rw [if_neg hb]; exact fitF_fit CL bs f (a + 1) (by omega)
def startF (first : Nat) (bs : List UInt8) : Nat := first - (bs.getD 0 0).toNat
def fitA (CL : List CellD) (bs : List UInt8) (first : Nat) : Nat := fitF CL bs (CL.length - startF first bs) (startF first bs)
theorem fitA_fit (CL : List CellD) (bs : List UInt8) (first : Nat) : fitB CL bs (fitA CL bs first) = true := fitF_fit CL bs _ _ (by omega)
theorem fitA_le {CL : List CellD} {bs : List UInt8} {first : Nat} (h : first ≤ CL.length) : fitA CL bs first ≤ CL.length := by
  have := fitF_le CL bs (CL.length - startF first bs) (startF first bs)
  have h2 : startF first bs ≤ first := Nat.sub_le _ _
  unfold fitA
  omega
/-- Free cells are laid behind, until there is one of that number; then it is written. -/
def padC (CL : List CellD) (k : Nat) : List CellD := CL ++ List.replicate (k + 1 - CL.length) ⟨0, 0⟩
def putC (CL : List CellD) (k : Nat) (c : CellD) : List CellD := (padC CL k).set k c
theorem padC_length (CL : List CellD) (k : Nat) : (padC CL k).length = max CL.length (k + 1) := by
  unfold padC
  rw [List.length_append, List.length_replicate]
  omega
theorem putC_length (CL : List CellD) (k : Nat) (c : CellD) : (putC CL k c).length = max CL.length (k + 1) := by
  unfold putC
  rw [List.length_set, padC_length]
theorem padC_at (CL : List CellD) (k j : Nat) : (padC CL k).getD j default = CL.getD j default := by
  unfold padC
  rw [List.getD_eq_getElem?_getD, List.getD_eq_getElem?_getD]
  rcases Nat.lt_or_ge j CL.length with h | h
  · rw [List.getElem?_append_left h]
  · rw [List.getElem?_append_right h, List.getElem?_eq_none h, List.getElem?_replicate]
    split <;> rfl
theorem putC_at (CL : List CellD) (k j : Nat) (c : CellD) : (putC CL k c).getD j default = if j = k then c else CL.getD j default := by
  unfold putC
  rw [List.getD_eq_getElem?_getD, List.getElem?_set]
  by_cases h : k = j
  · subst h
    rw [if_pos rfl, if_pos (by rw [padC_length]; omega), if_pos rfl]
    rfl
  · rw [if_neg h, if_neg (fun e => h e.symm), ← List.getD_eq_getElem?_getD, padC_at]
def rowC (w : List ByteArray) (s : Nat) (p : List UInt8) (a : Nat) (CL : List CellD) (bs : List UInt8) : List CellD := bs.foldl (fun C b => putC C (a + b.toNat) ⟨(s : Int) + 1, idxP w (p ++ [b])⟩) CL
theorem rowC_out (w : List ByteArray) (s : Nat) (p : List UInt8) (a j : Nat) : ∀ (bs : List UInt8) (CL : List CellD), (∀ b ∈ bs, j ≠ a + b.toNat) → (rowC w s p a CL bs).getD j default = CL.getD j default
  | [], CL, _ => rfl
  | b :: bs, CL, h => by
    show (rowC w s p a (putC CL (a + b.toNat) _) bs).getD j default = _
    rw [rowC_out w s p a j bs _ (fun x hx => h x (List.mem_cons_of_mem _ hx)), putC_at, if_neg (h b List.mem_cons_self)]
theorem rowC_in (w : List ByteArray) (s : Nat) (p : List UInt8) (a : Nat) (b : UInt8) : ∀ (bs : List UInt8) (CL : List CellD), b ∈ bs → (rowC w s p a CL bs).getD (a + b.toNat) default = ⟨(s : Int) + 1, idxP w (p ++ [b])⟩
  | [], CL, h => by simp at h
  | x :: bs, CL, h => by
    show (rowC w s p a (putC CL (a + x.toNat) _) bs).getD (a + b.toNat) default = _
    by_cases hb : b ∈ bs
    · exact rowC_in w s p a b bs _ hb
    · have hx : b = x := by
        rcases List.mem_cons.1 h with h | h
        · exact h
        · exact absurd h hb
      subst hx
      rw [rowC_out w s p a _ bs _ (fun y hy e => hb (by
        have : b = y := UInt8.toNat_inj.1 (by omega)
        rw [this]; exact hy)), putC_at, if_pos rfl]
theorem rowC_length (w : List ByteArray) (s : Nat) (p : List UInt8) (a : Nat) : ∀ (bs : List UInt8) (CL : List CellD), CL.length ≤ (rowC w s p a CL bs).length ∧ (rowC w s p a CL bs).length ≤ max CL.length (a + 256) ∧ ∀ b ∈ bs, a + b.toNat < (rowC w s p a CL bs).length
  | [], CL => ⟨Nat.le_refl _, Nat.le_max_left _ _, fun b hb => by simp at hb⟩
  | x :: bs, CL => by
    obtain ⟨h1, h2, h3⟩ := rowC_length w s p a bs (putC CL (a + x.toNat) ⟨(s : Int) + 1, idxP w (p ++ [x])⟩)
    have hx : x.toNat < 256 := UInt8.toNat_lt _
    rw [putC_length] at h1 h2
    have e : rowC w s p a CL (x :: bs) = rowC w s p a (putC CL (a + x.toNat) ⟨(s : Int) + 1, idxP w (p ++ [x])⟩) bs := rfl
    rw [e]
    refine ⟨by omega, by omega, fun b hb => ?_⟩
    rcases List.mem_cons.1 hb with rfl | hb
    · omega
    · exact h3 b hb
def firstF (CL : List CellD) : Nat → Nat → Nat
  | 0, a => a
  | f + 1, a => if a < CL.length ∧ 0 < ownC CL a then firstF CL f (a + 1) else a
theorem firstF_le (CL : List CellD) : ∀ f a, a ≤ CL.length → firstF CL f a ≤ CL.length
  | 0, a, h => h
  | f + 1, a, h => by
    unfold firstF
    split
    · exact firstF_le CL f (a + 1) (by omega)
    · exact h
structure SpS where
  cells : List CellD
  base : List Nat
  first : Nat
def spStep (w : List ByteArray) (k : Nat) (n : NodeD) (S : SpS) : SpS :=
  if kidsB w n = [] then S else
    ⟨rowC w k n.path (fitA S.cells (kidsB w n) S.first) S.cells (kidsB w n), S.base.set k (fitA S.cells (kidsB w n) S.first),
      firstF (rowC w k n.path (fitA S.cells (kidsB w n) S.first) S.cells (kidsB w n)) ((rowC w k n.path (fitA S.cells (kidsB w n) S.first) S.cells (kidsB w n)).length - S.first) S.first⟩
def spRun (w : List ByteArray) : Nat → SpS
  | 0 => ⟨[], List.replicate (trN w).length 0, 0⟩
  | k + 1 => match (trN w)[k]? with | none => spRun w k | some n => spStep w k n (spRun w k)
def leadN (w : List ByteArray) : Nat → Nat
  | 0 => 0
  | k + 1 => leadN w k + match (trN w)[k]? with | none => 0 | some n => if kidsB w n = [] then 0 else 1
def sparD (w : List ByteArray) : SparseD := ⟨(spRun w (trN w).length).cells, (spRun w (trN w).length).base.map fun n : Nat => (n : Int), failL w⟩
/-- What stands while rows are laid. -/
structure SpI (w : List ByteArray) (k : Nat) (S : SpS) : Prop where
  bl : S.base.length = (trN w).length
  cl : S.cells.length ≤ 256 * leadN w k
  fl : S.first ≤ S.cells.length
  bb : ∀ s, S.base.getD s 0 ≤ S.cells.length
  own : ∀ j, S.cells.getD j default = ⟨0, 0⟩ ∨ ∃ s n b, (trN w)[s]? = some n ∧ s < k ∧ b ∈ kidsB w n ∧ j = S.base.getD s 0 + b.toNat ∧ S.cells.getD j default = ⟨(s : Int) + 1, idxP w (n.path ++ [b])⟩
  has : ∀ s n, (trN w)[s]? = some n → s < k → ∀ b ∈ kidsB w n, S.base.getD s 0 + b.toNat < S.cells.length ∧ S.cells.getD (S.base.getD s 0 + b.toNat) default = ⟨(s : Int) + 1, idxP w (n.path ++ [b])⟩
theorem spI_start (w : List ByteArray) : SpI w 0 (spRun w 0) := by
  refine ⟨List.length_replicate, Nat.zero_le _, Nat.le_refl _, fun s => ?_, fun j => .inl ?_, fun s n _ h => by omega⟩
  · show (List.replicate (trN w).length 0).getD s 0 ≤ 0
    rw [List.getD_eq_getElem?_getD, List.getElem?_replicate]
    split <;> exact Nat.le_refl _
  · exact own_out (Nat.zero_le _)
theorem getD_set_ne {l : List Nat} {k s a : Nat} (h : s ≠ k) : (l.set k a).getD s 0 = l.getD s 0 := by
  rw [List.getD_eq_getElem?_getD, List.getD_eq_getElem?_getD, List.getElem?_set, if_neg (fun e => h e.symm)]
theorem getD_set_eq {l : List Nat} {k a : Nat} (h : k < l.length) : (l.set k a).getD k 0 = a := by
  rw [List.getD_eq_getElem?_getD, List.getElem?_set, if_pos rfl, if_pos h]
  rfl
theorem spI_step {w : List ByteArray} {k : Nat} {n : NodeD} {S : SpS} (h : (trN w)[k]? = some n) (hI : SpI w k S) : SpI w (k + 1) (spStep w k n S) := by
  have hk : k < (trN w).length := (List.getElem?_eq_some_iff.1 h).1
  by_cases hn : kidsB w n = []
  · have e : spStep w k n S = S := by unfold spStep; rw [if_pos hn]
    have el : leadN w (k + 1) = leadN w k := by simp only [leadN]; rw [h]; simp [hn]
    rw [e]
    refine ⟨hI.bl, by rw [el]; exact hI.cl, hI.fl, hI.bb, fun j => ?_, fun s m hm hs b hb => ?_⟩
    · rcases hI.own j with h1 | ⟨s, m, b, h1, h2, h3, h4, h5⟩
      · exact .inl h1
      · exact .inr ⟨s, m, b, h1, by omega, h3, h4, h5⟩
    · rcases Nat.lt_or_ge s k with h1 | h1
      · exact hI.has s m hm h1 b hb
      · obtain rfl : s = k := by omega
        obtain rfl : n = m := by rw [h] at hm; injection hm
        rw [hn] at hb
        simp at hb
  · have el : leadN w (k + 1) = leadN w k + 1 := by simp only [leadN]; rw [h]; simp [hn]
    obtain ⟨a, ha⟩ : ∃ a, fitA S.cells (kidsB w n) S.first = a := ⟨_, rfl⟩
    have hfit := fitA_fit S.cells (kidsB w n) S.first
    have hle := fitA_le (bs := kidsB w n) hI.fl
    rw [ha] at hfit hle
    rw [fitB_iff] at hfit
    obtain ⟨r1, r2, r3⟩ := rowC_length w k n.path a (kidsB w n) S.cells
    have hcl := hI.cl
    have e : spStep w k n S = ⟨rowC w k n.path a S.cells (kidsB w n), S.base.set k a, firstF (rowC w k n.path a S.cells (kidsB w n)) ((rowC w k n.path a S.cells (kidsB w n)).length - S.first) S.first⟩ := by
      unfold spStep
      rw [if_neg hn, ha]
    rw [e]
    have hb0 : (S.base.set k a).getD k 0 = a := getD_set_eq (by rw [hI.bl]; exact hk)
    have hbs : ∀ s, s ≠ k → (S.base.set k a).getD s 0 = S.base.getD s 0 := fun s hs => getD_set_ne hs
    refine ⟨by show (S.base.set k a).length = _; rw [List.length_set]; exact hI.bl, by show (rowC w k n.path a S.cells (kidsB w n)).length ≤ _; rw [el]; omega, firstF_le _ _ _ (by have := hI.fl; omega), fun s => ?_, fun j => ?_, fun s m hm hs b hb => ?_⟩
    · show (S.base.set k a).getD s 0 ≤ (rowC w k n.path a S.cells (kidsB w n)).length
      by_cases hsk : s = k
      · subst hsk; rw [hb0]; omega
      · rw [hbs s hsk]; have := hI.bb s; omega
    · show (rowC w k n.path a S.cells (kidsB w n)).getD j default = _ ∨ _
      by_cases hj : ∃ b ∈ kidsB w n, j = a + b.toNat
      · obtain ⟨b, hb, rfl⟩ := hj
        exact .inr ⟨k, n, b, h, by omega, hb, by show _ = (S.base.set k a).getD k 0 + _; rw [hb0], rowC_in w k n.path a b _ _ hb⟩
      · have e2 := rowC_out w k n.path a j (kidsB w n) S.cells (fun b hb e => hj ⟨b, hb, e⟩)
        rw [e2]
        rcases hI.own j with h1 | ⟨s, m, b, h1, h2, h3, h4, h5⟩
        · exact .inl h1
        · exact .inr ⟨s, m, b, h1, by omega, h3, by show _ = (S.base.set k a).getD s 0 + _; rw [hbs s (by omega)]; exact h4, h5⟩
    · show (S.base.set k a).getD s 0 + b.toNat < (rowC w k n.path a S.cells (kidsB w n)).length ∧ (rowC w k n.path a S.cells (kidsB w n)).getD ((S.base.set k a).getD s 0 + b.toNat) default = _
      rcases Nat.lt_or_ge s k with h1 | h1
      · rw [hbs s (by omega)]
        obtain ⟨g1, g2⟩ := hI.has s m hm h1 b hb
        refine ⟨by omega, ?_⟩
        rw [rowC_out w k n.path a _ (kidsB w n) S.cells (fun b' hb' e => ?_)]
        · exact g2
        · refine hfit b' hb' ?_
          unfold ownC
          rw [← e, g2]
          show 0 < (s : Int) + 1
          omega
      · obtain rfl : s = k := by omega
        obtain rfl : n = m := by rw [h] at hm; injection hm
        rw [hb0]
        exact ⟨r3 b hb, rowC_in w s n.path a b _ _ hb⟩
theorem spI_run (w : List ByteArray) : ∀ k, k ≤ (trN w).length → SpI w k (spRun w k)
  | 0, _ => spI_start w
  | k + 1, h => by
    obtain ⟨n, hn⟩ : ∃ n, (trN w)[k]? = some n := ⟨_, List.getElem?_eq_getElem (by omega)⟩
    have := spI_step hn (spI_run w k (by omega))
    have e : spRun w (k + 1) = spStep w k n (spRun w k) := by simp only [spRun]; rw [hn]
    rw [e]
    exact this
theorem leadN_le (w : List ByteArray) : ∀ k, leadN w k ≤ k
  | 0 => Nat.le_refl _
  | k + 1 => by
    have := leadN_le w k
    simp only [leadN]
    split
    · omega
    · split <;> omega
section
variable {w : List ByteArray}
theorem sp_next (hs : srt w) {s : Nat} {n : NodeD} (h : (trN w)[s]? = some n) (c : UInt8) : spNext (sparD w) (s : Int) (c.toNat : Int) = if idxP w (n.path ++ [c]) ≥ 0 then (idxP w (n.path ++ [c]), true) else (0, false) := by
  have hI := spI_run w (trN w).length (Nat.le_refl _)
  have hsl : s < (trN w).length := (List.getElem?_eq_some_iff.1 h).1
  have eb : rd (sparD w).base (s : Int) = (((spRun w (trN w).length).base.getD s 0 : Nat) : Int) := by
    show ((spRun w (trN w).length).base.map fun n : Nat => (n : Int)).getD (s : Int).toNat 0 = _
    rw [Int.toNat_natCast, List.getD_eq_getElem?_getD, List.getElem?_map, List.getD_eq_getElem?_getD]
    cases (spRun w (trN w).length).base[s]? <;> rfl
  have ek : spK (sparD w) (s : Int) (c.toNat : Int) = (((spRun w (trN w).length).base.getD s 0 + c.toNat : Nat) : Int) := by unfold spK; rw [eb]; omega
  unfold spNext
  rw [ek, Int.toNat_natCast]
  have ec : (sparD w).cells = (spRun w (trN w).length).cells := rfl
  rw [ec]
  by_cases hc : idxP w (n.path ++ [c]) ≥ 0
  · obtain ⟨h1, h2⟩ := hI.has s n h hsl c ((kidsB_mem hs h c).2 hc)
    rw [h2, if_pos ⟨by omega, rfl⟩, if_pos hc]
  · rw [if_neg hc, if_neg]
    rintro ⟨h1, h2⟩
    rcases hI.own ((spRun w (trN w).length).base.getD s 0 + c.toNat) with h3 | ⟨s', m, b, g1, g2, g3, g4, g5⟩
    · rw [h3] at h2
      have h2 : (0 : Int) = (s : Int) + 1 := h2
      omega
    · rw [g5] at h2
      have h2 : (s' : Int) + 1 = (s : Int) + 1 := h2
      obtain rfl : s' = s := by omega
      obtain rfl : n = m := by rw [h] at g1; injection g1
      have : c = b := UInt8.toNat_inj.1 (by omega)
      subst this
      exact hc ((kidsB_mem hs h c).1 g3)
theorem sp_few (hs : srt w) : (trN w).length ≤ (sparD w).cells.length + 1 := by
  have hI := spI_run w (trN w).length (Nat.le_refl _)
  have key : ∀ i, i + 1 < (trN w).length → ((i : Int) + 1) ∈ (sparD w).cells.map CellD.next := fun i hi => by
    obtain ⟨n, hn⟩ : ∃ n, (trN w)[i + 1]? = some n := ⟨_, List.getElem?_eq_getElem hi⟩
    obtain ⟨j, m, c, h1, h2, h3, _⟩ := par_is hs hn (Nat.succ_pos i)
    have hid := idx_at hs hn
    rw [h3] at hid
    obtain ⟨g1, g2⟩ := hI.has j m h1 (List.getElem?_eq_some_iff.1 h1).1 c ((kidsB_mem hs h1 c).2 (by rw [hid]; omega))
    rw [hid] at g2
    refine List.mem_map.2 ⟨_, getD_mem (spRun w (trN w).length).cells _ default g1, ?_⟩
    rw [g2]
    show ((i + 1 : Nat) : Int) = _
    omega
  have hnd : ((List.range ((trN w).length - 1)).map fun i : Nat => (i : Int) + 1).Nodup := by
    rw [List.nodup_iff_pairwise_ne]
    refine List.Pairwise.map _ (fun a b hab => ?_) (List.nodup_iff_pairwise_ne.1 List.nodup_range)
    intro e
    exact hab (by omega)
  have := nodup_sub _ _ hnd (fun x hx => by
    obtain ⟨i, hi, rfl⟩ := List.mem_map.1 hx
    exact key i (by have := List.mem_range.1 hi; omega))
  rw [List.length_map, List.length_range, List.length_map] at this
  omega
theorem sp_many (w : List ByteArray) : (sparD w).cells.length ≤ 256 * leadN w (trN w).length := (spI_run w (trN w).length (Nat.le_refl _)).cl
end
end Go.Proofs.Ytbkcjeopcjghgaa.Base
