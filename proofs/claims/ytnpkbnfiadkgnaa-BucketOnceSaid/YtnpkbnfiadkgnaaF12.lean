/- What goes through a bucket, and a bucket's numbers: an iterator, and a loop over it; for all buckets that a set makes. -/
import Derived.Sort.QuietIn
import Derived.RangeFuncBox
import Derived.RangeFuncLeaves
import Derived.Shelf.Abstract
import Derived.WalkKit
import Derived.OwnWalkIn
import Derived.TacticsInMore
import Derived.LoopNIn
import Derived.LoopIn
import Derived.Maps.AppendAt
import Derived.Test.YtnpkbnfiadkgnaaH12a
namespace Go.Proofs.Ytnpkbnfiadkgnaa.P
open Go Go.RowKit Go.Shelf Go.Proofs.YtnpkbnfiadkgnaaW.PrintWords Go.Proofs.Ytnpkbnfiadkgnaa.Base
set_option linter.unusedVariables false
set_option linter.unusedSimpArgs false

attribute [local go_sem] Oper.semAt_some

/-- What has come when k rounds are over. -/
def uptoF {α : Type} (f : Nat → α) (k : Nat) : List α := (List.range k).map f
theorem uptoF_succ {α : Type} (f : Nat → α) (k : Nat) : uptoF f (k + 1) = uptoF f k ++ [f k] := by simp [uptoF, List.range_succ]
theorem uptoF_length {α : Type} (f : Nat → α) (k : Nat) : (uptoF f k).length = k := by simp [uptoF]
theorem uptoF_take (zs : List Int) {k : Nat} (hk : k ≤ zs.length) : uptoF (fun j => zs[j]?.getD 0) k = zs.take k := by
  apply List.ext_getElem
  · simp [uptoF, hk]
  · intro i h1 h2
    have : i < zs.length := by simp [uptoF] at h1; omega
    simp [uptoF, this]

set_option maxRecDepth 100000 in
set_option maxHeartbeats 4000000 in
theorem each1_in (n : Nat) (hn : 1 ≤ n) (l Bb Bc n₀ b cc len cap : Nat) (A : Option Addr) (zs : List Int) (hcc : cc < 256) (hreach : len ≤ 1099511627776) (hb : b < n₀) (J Jx : List Int → World → Prop)
    (hY : ∀ pre x W, J pre W → pre.length < len → YieldAt Fence.wide (n - 1) Try.prog l #[.int .i64 x] W fun e W' =>
      (e = .returned (.bool true) ∧ J (pre ++ [x]) W' ∧ Below n₀ W W') ∨ (e = .returned (.bool false) ∧ Jx (pre ++ [x]) W'))
    (W : World) (hBb : W.cell? ⟨Bb, 0, none⟩ = some (.pointer (some ⟨b, 0, none⟩))) (hBc : W.cell? ⟨Bc, 0, none⟩ = some (.int .u8 (cc : Int))) (hcell : W.cell? ⟨b, cc, none⟩ = some (.slice A len cap))
    (hA : 0 < len → ∃ ad : Addr, A = some ad ∧ ad.block < n₀ ∧ ∀ j, j < len → W.cell? (ad.add j) = some (.int .i64 (zs[j]?.getD 0))) (hJd : ∀ pre W q, J pre W → J pre (W.drewN q)) (h0 : J [] W) :
    CallsIn Fence.wide n Try.prog 58 #[.func (.yield l) #[] #[], .pointer (some ⟨Bb, 0, none⟩), .pointer (some ⟨Bc, 0, none⟩)] W fun e W' => (∃ v, e = .returned v) ∧
      ((∃ ys, ys = uptoF (fun j => zs[j]?.getD 0) len ∧ J ys W') ∨ (∃ pre, (∃ k, k ≤ len ∧ pre = uptoF (fun j => zs[j]?.getD 0) k) ∧ Jx pre W')) := by
  have hci : (cc : Int) < 256 := by omega
  refine callsIn_of_wp Try.func58 rfl trivial ?_ rfl
  simp only [Try.ntmps58, List.size_toArray, List.length_cons, List.length_nil, Nat.reduceAdd, Nat.reduceSub, Array.replicate_succ, Array.replicate_zero, List.push_toArray, List.append_toArray, List.nil_append, List.cons_append]
  gi_wp2
  gi_quiet (fail)
  all_goals
    gi_wp2
    gi_loopw [15] (fun i wr => ∃ k : Nat, k ≤ len ∧ i = .int .i64 k ∧ J (uptoF (fun j => zs[j]?.getD 0) k) wr ∧ Below n₀ W wr)
      (fun i _ => len - (intOf i).toNat)
    case atStart => exact ⟨0, Nat.zero_le _, rfl, hJd _ _ _ h0, pw_below_drewN (Below.refl _ _) _⟩
    case round =>
      obtain ⟨k, hk, rfl, hJs, hnx⟩ := hrel
      by_cases hlt : k < len
      · obtain ⟨ad, rfl, hadb, hcx⟩ := hA (by omega)
        have hcx' : wr.cell? (ad.add k) = some (.int .i64 (zs[k]?.getD 0)) := (hnx.cell (p := ad.add k) (by unfold Addr.add; split <;> exact hadb)).trans (hcx k hlt)
        obtain ⟨fn, tmps, assign, body, hy, hR⟩ := hY _ (zs[k]?.getD 0) wr hJs (by rw [uptoF_length]; exact hlt)
        gi_wp2
        refine hR.mono ?_
        rintro e W3 (⟨rfl, hJ3, hk3⟩ | ⟨rfl, hJx3⟩)
        · gi_wp2
          go_roundw
          case rel => exact ⟨k + 1, by omega, by simp, by rw [uptoF_succ]; exact hJ3, hnx.trans hk3⟩
          case measure => simp [intOf]; omega
        · gi_wp2
          refine bodyPost_ret (results_none rfl _ _ _) rfl ?_
          exact ⟨⟨_, rfl⟩, .inr ⟨_, ⟨k + 1, by omega, (uptoF_succ _ _).symm⟩, hJx3⟩⟩
      · obtain rfl : k = len := by omega
        gi_wp2
        go_end0
        exact ⟨⟨_, rfl⟩, .inl ⟨_, rfl, hJs⟩⟩

set_option maxHeartbeats 1000000 in
theorem each_in (n : Nat) (p : Option Addr) (c : Int) (w : World) :
    CallsIn Fence.wide n Try.prog 24 #[.pointer p, .int .u8 c] w fun e w' => e = .returned (.func (.func 58) #[] #[.pointer (some ⟨w.heap.size, 0, none⟩), .pointer (some ⟨w.heap.size + 1, 0, none⟩)]) ∧ w' = (w.alloc (.cells #[.pointer p] 31)).alloc (.cells #[.int .u8 c] 5) := by
  refine callsIn_of_wp Try.func24 rfl trivial ?_ rfl
  simp only [Try.ntmps24, List.size_toArray, List.length_cons, List.length_nil, Nat.reduceAdd, Nat.reduceSub, Array.replicate_succ, Array.replicate_zero, List.push_toArray, List.append_toArray, List.nil_append, List.cons_append]
  gi_wp2
  go_ret
  exact ⟨rfl, rfl⟩
/-- Each hands back an iterator that goes through a bucket's numbers, in order, as far as it is let. -/
theorem each_stops (n : Nat) (hn : 1 ≤ n) (Bb Bc n₀ b cc cap : Nat) (A : Option Addr) (zs : List Int) (hcc : cc < 256) (hreach : zs.length ≤ 1099511627776) (hb : b < n₀) (w : World) (hBs : Bb < w.heap.size ∧ Bc < w.heap.size) (hn₀ : n₀ ≤ w.heap.size)
    (hBb : w.cell? ⟨Bb, 0, none⟩ = some (.pointer (some ⟨b, 0, none⟩))) (hBc : w.cell? ⟨Bc, 0, none⟩ = some (.int .u8 (cc : Int))) (hcell : w.cell? ⟨b, cc, none⟩ = some (.slice A zs.length cap))
    (hA : 0 < zs.length → ∃ ad : Addr, A = some ad ∧ ad.block < n₀ ∧ ∀ j, j < zs.length → w.cell? (ad.add j) = some (.int .i64 (zs[j]?.getD 0))) :
    SeqStopsK Fence.wide n Try.prog 58 #[.pointer (some ⟨Bb, 0, none⟩), .pointer (some ⟨Bc, 0, none⟩)] (fun x : Int => #[Value.int .i64 x]) (Below n₀) (fun ys => ys = zs) (fun pre => pre <+: zs) zs.length w := fun l J Jx W hW hJ _ hY h0 => by
  have hcar : ∀ (a : Addr) (v : Value), a.block < w.heap.size → w.cell? a = some v → W.cell? a = some v := fun a v ha h => (hW.cell (p := a) ha).trans h
  refine (each1_in n hn l Bb Bc n₀ b cc zs.length cap A zs hcc hreach hb J Jx hY W (hcar _ _ hBs.1 hBb) (hcar _ _ hBs.2 hBc) (hcar _ _ (by show b < w.heap.size; omega) hcell)
    (fun h => by obtain ⟨ad, e, h1, h2⟩ := hA h; exact ⟨ad, e, h1, fun j hj => hcar _ _ (by unfold Addr.add; split <;> (show ad.block < w.heap.size; omega)) (h2 j hj)⟩)
    (fun pre W1 q h => hJ pre W1 _ none h (grown_of_below (pw_below_drewN (Below.refl _ _) q) none) (fun r e => by cases e)) h0).mono ?_
  rintro e W' ⟨he, ⟨ys, rfl, hj⟩ | ⟨pre, ⟨k, hk, rfl⟩, hj⟩⟩
  · exact ⟨he, .inl ⟨_, by rw [uptoF_take zs (Nat.le_refl _), List.take_length], hj⟩⟩
  · exact ⟨he, .inr ⟨_, by rw [uptoF_take zs hk]; exact List.take_prefix _ _, hj⟩⟩
theorem info12f : (Try.prog.info? 3).map (fun i => (i.zero, i.size, i.bytes)) = some (some (.int .i64 0), 1, 8) := by kernel_rfl
set_option maxRecDepth 100000 in
set_option maxHeartbeats 4000000 in
theorem of_in (b cc cap : Nat) (A : Option Addr) (zs : List Int) (hcc : cc < 256) (hreach : zs.length ≤ 1099511627776) (w : World) (hb : b < w.heap.size) (hcell : w.cell? ⟨b, cc, none⟩ = some (.slice A zs.length cap))
    (hA : 0 < zs.length → ∃ ad : Addr, A = some ad ∧ ad.block < w.heap.size ∧ ∀ j, j < zs.length → w.cell? (ad.add j) = some (.int .i64 (zs[j]?.getD 0))) :
    CallsIn Fence.wide 3 Try.prog 16 #[.pointer (some ⟨b, 0, none⟩), .int .u8 (cc : Int)] w fun e W' => ∃ v, e = .returned v ∧ W'.ownsRow w.heap.size 3 1 v zs.length (zs.map (Value.int .i64)) ∧ Below w.heap.size w W' := by
  obtain ⟨i0, hi, hz0, hz1, hz2⟩ := info_parts info12f
  refine callsIn_of_wp_marks Try.func16 rfl trivial ?_ rfl
  simp only [Try.ntmps16, List.size_toArray, List.length_cons, List.length_nil, Nat.reduceAdd, Nat.reduceSub, Array.replicate_succ, Array.replicate_zero, List.push_toArray, List.append_toArray, List.nil_append, List.cons_append]
  gi_wp2_with (refine ⟨trivial, ?_⟩; gi_at_call 24; refine (each_in _ _ _ _).mono ?_; rintro e w' ⟨rfl, rfl⟩)
  have bO := Boxed.new w 34 (.slice none 0 0)
  have bN := Boxed.new (w.alloc (.cells #[.slice none 0 0] 34)) 31 (.pointer (some ⟨b, 0, none⟩))
  have bM := Boxed.new ((w.alloc (.cells #[.slice none 0 0] 34)).alloc (.cells #[.pointer (some ⟨b, 0, none⟩)] 31)) 5 (.int .u8 (cc : Int))
  rw [World.size_alloc] at bN
  rw [World.size_alloc, World.size_alloc] at bM
  have hB0 : Below w.heap.size w (((w.alloc (.cells #[.slice none 0 0] 34)).alloc (.cells #[.pointer (some ⟨b, 0, none⟩)] 31)).alloc (.cells #[.int .u8 (cc : Int)] 5)) := (((Below.refl _ w).alloc (Nat.le_refl _) _).alloc (by simp) _).alloc (by simp <;> omega) _
  have hcl := hB0.cell (p := ⟨b, cc, none⟩) hb
  refine wpIn_rangeFunc_ownG rfl (by omega) (gf := 58) (lb := #[.pointer (some ⟨w.heap.size + 1, 0, none⟩), .pointer (some ⟨w.heap.size + 2, 0, none⟩)]) rfl trivial (enters_of Try.func58 (by kernel_rfl) rfl)
    (each_stops 2 (by omega) (w.heap.size + 1) (w.heap.size + 2) w.heap.size b cc cap A zs hcc hreach hb _ ⟨by simp <;> omega, by simp⟩ (by simp <;> omega) (bN.alloc _).cell bM.cell (hcl.trans hcell)
      (fun h => by obtain ⟨ad, e, h1, h2⟩ := hA h; exact ⟨ad, e, h1, fun j hj => (hB0.cell (p := ad.add j) (by unfold Addr.add; split <;> exact h1)).trans (h2 j hj)⟩)) belowK_t (belowK_b (by simp <;> omega)) (Below.refl _ _) (fun _ => rfl)
    (fun pre W => (∃ v, Boxed W w.heap.size 34 v ∧ W.ownsRow w.heap.size 3 1 v pre.length (pre.map (Value.int .i64)) ∧ (v = .slice none 0 0 ↔ pre = [])) ∧ Below w.heap.size w W)
    (fun _ _ _ => False)
    (OwnFrom.and (Own.from (holdsRow_own w.heap.size w.heap.size 34 3 1 (fun pre : List Int => pre.length) (fun pre => pre.map (Value.int .i64)) (fun pre v => v = .slice none 0 0 ↔ pre = [])) _) (ownFrom_below (Nat.le_refl _) (by simp <;> omega)))
    (fun _ _ _ _ _ hs _ _ => hs)
    ⟨⟨_, (bO.alloc _).alloc _, World.ownsRow_nil _ _ _ _, by simp⟩, hB0⟩
    (fun x => { tmps := #[.pointer (some ⟨b, 0, none⟩), .int .u8 (cc : Int), undef, undef, .slice none 0 0, .pointer (some ⟨w.heap.size, 0, none⟩), .int .i64 x, .pointer (some ⟨b, 0, none⟩), .bool false, .pointer (some ⟨b, 0, none⟩), .int .u8 (cc : Int), .func (.func 58) #[] #[.pointer (some ⟨w.heap.size + 1, 0, none⟩), .pointer (some ⟨w.heap.size + 2, 0, none⟩)], .int .i64 x, undef, undef, undef, undef, undef], defers := [] }) ?assign ?body ?done ?stop
  case assign =>
    intro l x W K hK
    gi_wp2
    exact hK
  case body =>
    rintro l pre x W ⟨⟨v, hv, hrow, hnil⟩, hB⟩ hlt
    have hc := hv.cell
    gi_wp2_with (gi_at_builtin; refine wpListIn_append_own _ rfl _ _ 34 rfl w.heap.size 3 i0 (.int .i64 0) 1 8 Try.underlying34 hi hz0 hz1 hz2 rfl (by decide) _ _ _ rfl (hrow.alloc _) ⟨W.heap.size, 0, none⟩ 1 1 [.int .i64 x] rfl rfl (cell_one_new _ _ _) (by simp [Value.oneCell']) (by unfold maxLen; omega) (by omega) (by have := hB.size; simp; omega) ?_; intro v' w1 hown' hgrow _; obtain ⟨g', cap', rfl⟩ := ownsRow_succ hown'; obtain ⟨hv1, hv2, hr2, hk2, hb2⟩ := hv.appended (by decide) hrow hB.size (Nat.le_refl _) hown' hgrow; have hc1 := hv1.cell; have hf1 := hv1.frozen)
    exact ⟨hk2.from _, hb2, ⟨_, hv2, by simpa using hr2, by simp⟩, hB.trans hb2⟩
  case done =>
    rintro D ys W hD rfl ⟨⟨v, hv, hrow, hnil⟩, hB⟩ hK
    have hc := hv.cell
    gi_wp2
    refine ⟨by simp, .inl ⟨_, _, rfl, run_takeDeferred hK, ?_⟩⟩
    exact ⟨_, results_tmp rfl _ _ _, v, rfl, ownsRow_putObj hrow _ hK rfl, hB.trans (belowK_b (w := w) (Nat.le_refl _) W D _ _ (by simp at hD; omega) hK rfl rfl)⟩
  case stop =>
    rintro D c pre W _ _ h _
    exact h.elim

def bucket_Buckets_Of.f (a0 : Option BucketD) (a1 : Int) : Option (List Int) := match a0 with | none => some [] | some d => if (0 ≤ a1 ∧ a1 ≤ 255) ∧ (d.ids a1.toNat).length ≤ 1099511627776 then some (d.ids a1.toNat) else none
set_option maxHeartbeats 1000000 in
theorem bucket_Buckets_Of.calls (Pa0 : Option Addr) (a0 : Option BucketD) (a1 : Int) (r : List Int) (w : World) (ho : OB K81 w Pa0 a0) (h : bucket_Buckets_Of.f a0 a1 = some r) :
    Calls Try.prog 16 #[.pointer Pa0, .int .u8 a1] w fun e w' => ∃ v0_ : Value, e = .returned v0_ ∧ Kd.R (Kd.int .i64) 3 w' w.heap.size (fun _ => True) v0_ r ∧ Below w.heap.size w w' := by
  cases a0 with
  | none =>
    obtain rfl := Option.some.inj h
    obtain rfl := OB.p_none ho
    clear ho h
    go_enter Try.func16, Try.ntmps16
    go_wp2
    go_ret
    exact ⟨_, rfl, Kd.R_nil _ _ _ _ _, Below.refl _ _⟩
  | some d =>
    simp only [bucket_Buckets_Of.f] at h
    by_cases hw : (0 ≤ a1 ∧ a1 ≤ 255) ∧ (d.ids a1.toNat).length ≤ 1099511627776
    rotate_left
    · rw [if_neg hw] at h; cases h
    rw [if_pos hw] at h
    obtain rfl := Option.some.inj h
    obtain ⟨⟨w0, w1⟩, w2⟩ := hw
    obtain ⟨c, rfl⟩ : ∃ c : Nat, a1 = c := ⟨a1.toNat, by omega⟩
    rw [Int.toNat_natCast] at w2 ⊢
    obtain ⟨a, rfl⟩ := OB.p_some ho
    obtain ⟨b, v, rfl, hb, hr⟩ := OB.at ho
    obtain ⟨A, m, hv, hm, hC⟩ := hr c (by omega)
    have hcell := (blk_cell hb c).trans (bkCells_ids (by omega))
    rw [hv] at hcell
    refine callsIn_wide.1 ((of_in b c m A (d.ids c) (by omega) w2 w (blk_lt hb) hcell (fun h0 => ?_)).mono ?_)
    · obtain ⟨ad, e, hx⟩ := Kd.at_int hC 0 (by omega) (by omega)
      have hx' : w.cell? (ad.add 0) = some (.int .i64 ((d.ids c).getD 0 0)) := hx
      refine ⟨ad, e, ?_, fun j hj => ?_⟩
      · have := World.block_lt_of_cell? w _ hx'
        unfold Addr.add at this
        simpa using this
      · obtain ⟨ad', e', hx2⟩ := Kd.at_int hC (j : Int) (by omega) (by omega)
        rw [e] at e'
        injection e' with e'
        subst e'
        have hx3 : w.cell? (ad.add j) = some (.int .i64 ((d.ids c).getD j 0)) := hx2
        rw [hx3, List.getD_eq_getElem?_getD]
    · rintro e W' ⟨v', rfl, hown, hbl⟩
      exact ⟨v', rfl, Kd.R_of_own (enc := Value.int .i64) (h1 := fun _ => rfl) hown (fun _ _ => trivial), hbl⟩

end Go.Proofs.Ytnpkbnfiadkgnaa.P
