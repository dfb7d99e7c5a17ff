/- In which part a byte stands: the walk, with its loop over the parts' iterator; for all parts. -/
import Derived.Test.YtibckaogfdffpaaF06
import Derived.Test.YtibckaogfdffpaaWLast
namespace Go.Proofs.Ytibckaogfdffpaa.P
open Go Go.RowKit Go.Proofs.YtibckaogfdffpaaW.PrintWords Go.Proofs.YtibckaogfdffpaaW.PrintLast Go.Proofs.Ytibckaogfdffpaa.Base
set_option linter.unusedVariables false
set_option linter.unusedSimpArgs false

attribute [local go_sem] Oper.semAt_some

def whereFrom : List ByteArray → Int → Nat → Int × Int × Bool
  | [], _, _ => (0, 0, false)
  | s :: l, a, i => if a < (s.size : Int) then ((i : Int), a, true) else whereFrom l (a - (s.size : Int)) (i + 1)
theorem whereFrom_at : ∀ (l : List ByteArray) (a : Int) (i k : Nat), k < l.length → (sumS (l.take k) : Int) ≤ a → a < (sumS (l.take (k + 1)) : Int) → whereFrom l a i = (((i + k : Nat) : Int), a - (sumS (l.take k) : Int), true)
  | s :: l, a, i, 0, _, h1, h2 => by
    have h3 : a < (s.size : Int) := by simpa [sumS] using h2
    unfold whereFrom
    rw [if_pos h3]
    simp [sumS]
  | s :: l, a, i, k + 1, hk, h1, h2 => by
    simp only [List.take_succ_cons, sumS] at h1 h2
    unfold whereFrom
    rw [if_neg (by omega), whereFrom_at l (a - (s.size : Int)) (i + 1) k (by simpa using hk) (by omega) (by omega)]
    simp only [List.take_succ_cons, sumS]
    rw [show i + 1 + k = i + (k + 1) by omega, show a - (s.size : Int) - (sumS (l.take k) : Int) = a - ((s.size + sumS (l.take k) : Nat) : Int) by omega]
theorem whereFrom_none : ∀ (l : List ByteArray) (a : Int) (i : Nat), (sumS l : Int) ≤ a → whereFrom l a i = (0, 0, false)
  | [], _, _, _ => rfl
  | s :: l, a, i, h => by
    simp only [sumS] at h
    unfold whereFrom
    rw [if_neg (by omega)]
    exact whereFrom_none l _ _ (by omega)
def whereB (l : List ByteArray) (a : Int) : Int × Int × Bool := if a < 0 then (0, 0, false) else whereFrom l a 0

theorem loadVar_int {P : Program} {w : World} {a : Addr} {v : Value} {t : TypeId} {k : IntKind} (hu : P.underlying t = some (.int k)) (hc : w.cell? a = some v) : (loadVar t a).run P w = .ok v w := by
  simp [loadVar, isAgg, run_underlying hu, hc, go_sem]
theorem loadVar_bool {P : Program} {w : World} {a : Addr} {v : Value} {t : TypeId} (hu : P.underlying t = some .bool) (hc : w.cell? a = some v) : (loadVar t a).run P w = .ok v w := by
  simp [loadVar, isAgg, run_underlying hu, hc, go_sem]
theorem results_cell1 {P : Program} {fn : Func} {p1 : Tmp} {t1 : TypeId} (h : fn.results = #[.cell p1 t1]) {tmps : Array Value} {w : World} {a1 : Addr} {v1 : Value} (h1 : tmps.getD p1 undef = .pointer (some a1)) (l1 : (loadVar t1 a1).run P w = .ok v1 w) :
    (results fn tmps).run P w = .ok v1 w := by
  have h1' : tmps[p1]?.getD undef = .pointer (some a1) := by simpa using h1
  simp [results, h, h1', asAddr, l1]
theorem results_cell3 {P : Program} {fn : Func} {p1 p2 p3 : Tmp} {t1 t2 t3 : TypeId} (h : fn.results = #[.cell p1 t1, .cell p2 t2, .cell p3 t3]) {tmps : Array Value} {w : World} {a1 a2 a3 : Addr} {v1 v2 v3 : Value}
    (h1 : tmps.getD p1 undef = .pointer (some a1)) (h2 : tmps.getD p2 undef = .pointer (some a2)) (h3 : tmps.getD p3 undef = .pointer (some a3))
    (l1 : (loadVar t1 a1).run P w = .ok v1 w) (l2 : (loadVar t2 a2).run P w = .ok v2 w) (l3 : (loadVar t3 a3).run P w = .ok v3 w) :
    (results fn tmps).run P w = .ok (.tuple #[v1, v2, v3]) w := by
  have h1' : tmps[p1]?.getD undef = .pointer (some a1) := by simpa using h1
  have h2' : tmps[p2]?.getD undef = .pointer (some a2) := by simpa using h2
  have h3' : tmps[p3]?.getD undef = .pointer (some a3) := by simpa using h3
  simp [results, h, h1', h2', h3', asAddr, l1, l2, l3]
/-- What stood ahead of the last part that came. -/
def lastA (pre : List (Int × ByteArray)) : Int := (pre.getLast?.getD (0, ByteArray.empty)).1
theorem lastA_snoc (pre : List (Int × ByteArray)) (x : Int × ByteArray) : lastA (pre ++ [x]) = x.1 := by unfold lastA; rw [List.getLast?_concat]; rfl
def xW (b k : Nat) : Prop := k = b + 1 ∨ k = b + 2 ∨ k = b + 3 ∨ k = b + 4
set_option maxRecDepth 100000 in
set_option maxHeartbeats 8000000 in
theorem where_in (A : Option Addr) (cap : Nat) (l : List ByteArray) (a : Int) (w : World) (hC : Kd.C Kd.string w A l.length l) (hcap : l.length ≤ cap) (hreach : l.length ≤ 1099511627776) (hsum : sumS l ≤ 1099511627776) (ha : -9223372036854775808 ≤ a ∧ a ≤ 9223372036854775807) :
    CallsIn Fence.wide 3 Try.prog 15 #[.slice A l.length cap, .int .i64 a] w fun e w' => e = .returned (.tuple #[.int .i64 (whereB l a).1, .int .i64 (whereB l a).2.1, .bool (whereB l a).2.2]) ∧ Below w.heap.size w w' := by
  have q0 := Boxed.new w 3 (.int .i64 a)
  obtain ⟨y0, hy0⟩ : ∃ y0, y0 = w.alloc (.cells #[.int .i64 a] 3) := ⟨_, rfl⟩
  have s0 : y0.heap.size = w.heap.size + 1 := by rw [hy0, World.size_alloc]
  have q1 := Boxed.new y0 3 (.int .i64 0)
  obtain ⟨y1, hy1⟩ : ∃ y1, y1 = y0.alloc (.cells #[.int .i64 0] 3) := ⟨_, rfl⟩
  have s1 : y1.heap.size = w.heap.size + 1 + 1 := by rw [hy1, World.size_alloc, s0]
  have q2 := Boxed.new y1 3 (.int .i64 0)
  obtain ⟨y2, hy2⟩ : ∃ y2, y2 = y1.alloc (.cells #[.int .i64 0] 3) := ⟨_, rfl⟩
  have s2 : y2.heap.size = w.heap.size + 1 + 1 + 1 := by rw [hy2, World.size_alloc, s1]
  have q3 := Boxed.new y2 4 (.bool false)
  obtain ⟨y3, hy3⟩ : ∃ y3, y3 = y2.alloc (.cells #[.bool false] 4) := ⟨_, rfl⟩
  have s3 : y3.heap.size = w.heap.size + 1 + 1 + 1 + 1 := by rw [hy3, World.size_alloc, s2]
  have b3 : Below w.heap.size w y3 := by
    rw [hy3, hy2, hy1, hy0]
    exact ((((Below.refl _ w).alloc (Nat.le_refl _) _).alloc (by simp) _).alloc (by simp <;> omega) _).alloc (by simp <;> omega) _
  rw [← hy0] at q0
  rw [← hy1, s0] at q1
  rw [← hy2, s1] at q2
  rw [← hy3, s2] at q3
  have r0 : Boxed y3 w.heap.size 3 (.int .i64 a) := by rw [hy3, hy2, hy1]; exact ((q0.alloc _).alloc _).alloc _
  have r1 : Boxed y3 (w.heap.size + 1) 3 (.int .i64 0) := by rw [hy3, hy2]; exact (q1.alloc _).alloc _
  have r2 : Boxed y3 (w.heap.size + 1 + 1) 3 (.int .i64 0) := by rw [hy3]; exact q2.alloc _
  have hy : (((w.alloc (.cells #[.int .i64 a] 3)).alloc (.cells #[.int .i64 0] 3)).alloc (.cells #[.int .i64 0] 3)).alloc (.cells #[.bool false] 4) = y3 := by rw [hy3, hy2, hy1, hy0]
  have HY := Aside0.mk hy
  have HQ0 := Aside0.mk r0
  have HQ1 := Aside0.mk r1
  have HQ2 := Aside0.mk r2
  have HQ3 := Aside0.mk q3
  have HB3 := Aside0.mk b3
  have HS3 := Aside0.mk s3
  clear q0 q1 q2 q3 r0 r1 r2 b3 s0 s1 s2 s3 hy
  clear hy3 hy2 hy1 hy0
  have HC := Aside0.mk hC
  by_cases h0 : a < 0
  · have e0 : whereB l a = (0, 0, false) := if_pos h0
    have e1 : decide (a < 0) = true := decide_eq_true h0
    rw [e0]
    clear e0 hC
    refine callsIn_of_wp_marks Try.func15 rfl trivial ?_ rfl
    simp only [Try.ntmps15, List.size_toArray, List.length_cons, List.length_nil, Nat.reduceAdd, Nat.reduceSub, Array.replicate_succ, Array.replicate_zero, List.push_toArray, List.append_toArray, List.nil_append, List.cons_append]
    gi_wp2
    rw [HY.out]
    exact ⟨_, results_cell3 rfl rfl rfl rfl (loadVar_int (k := .i64) Try.underlying3 HQ1.out.cell) (loadVar_int (k := .i64) Try.underlying3 HQ2.out.cell) (loadVar_bool Try.underlying4 HQ3.out.cell), rfl, HB3.out⟩
  · have e1 : decide (a < 0) = false := decide_eq_false h0
    have HH0 := Aside0.mk h0
    refine callsIn_of_wp_marks Try.func15 rfl trivial ?_ rfl
    simp only [Try.ntmps15, List.size_toArray, List.length_cons, List.length_nil, Nat.reduceAdd, Nat.reduceSub, Array.replicate_succ, Array.replicate_zero, List.push_toArray, List.append_toArray, List.nil_append, List.cons_append]
    clear hC h0
    gi_wp2_with (refine ⟨trivial, ?_⟩; gi_at_call 20; refine (all_in _ _ _ _ _).mono ?_; rintro e w' ⟨rfl, rfl⟩)
    rw [HY.out]
    have hin : Try.prog.underlying 3 = some (.int .i64) := Try.underlying3
    have hbl : Try.prog.underlying 4 = some .bool := Try.underlying4
    have hs3 := HS3.out
    have p4 : Boxed ((y3.alloc (.cells #[.int .i64 0] 3)).alloc (.cells #[.slice A l.length cap] 35)) (w.heap.size + 1 + 1 + 1 + 1) 3 (.int .i64 0) := by rw [← hs3]; exact (Boxed.new y3 3 (.int .i64 0)).alloc _
    have p5 : Boxed ((y3.alloc (.cells #[.int .i64 0] 3)).alloc (.cells #[.slice A l.length cap] 35)) (w.heap.size + 1 + 1 + 1 + 1 + 1) 35 (.slice A l.length cap) := by
      have := Boxed.new (y3.alloc (.cells #[.int .i64 0] 3)) 35 (.slice A l.length cap)
      rw [World.size_alloc, hs3] at this
      exact this
    have p0 := (HQ0.out.alloc (.cells #[.int .i64 0] 3)).alloc (.cells #[.slice A l.length cap] 35)
    have p1 := (HQ1.out.alloc (.cells #[.int .i64 0] 3)).alloc (.cells #[.slice A l.length cap] 35)
    have p2 := (HQ2.out.alloc (.cells #[.int .i64 0] 3)).alloc (.cells #[.slice A l.length cap] 35)
    have p3 := (HQ3.out.alloc (.cells #[.int .i64 0] 3)).alloc (.cells #[.slice A l.length cap] 35)
    have hBY : Below w.heap.size w ((y3.alloc (.cells #[.int .i64 0] 3)).alloc (.cells #[.slice A l.length cap] 35)) := (HB3.out.alloc (by omega) _).alloc (by rw [World.size_alloc]; omega) _
    have hsY : ((y3.alloc (.cells #[.int .i64 0] 3)).alloc (.cells #[.slice A l.length cap] 35)).heap.size = w.heap.size + 6 := by rw [World.size_alloc, World.size_alloc, hs3]
    have HA : Aside0 (0 < l.length → ∃ ad : Addr, A = some ad ∧ ad.block < w.heap.size + 6 ∧ ¬ xW w.heap.size ad.block ∧ ∀ j, j < l.length → ((y3.alloc (.cells #[.int .i64 0] 3)).alloc (.cells #[.slice A l.length cap] 35)).cell? (ad.add j) = some (.string (l.getD j ByteArray.empty))) := ⟨by
      intro hp
      obtain ⟨ad, e, hx⟩ := Kd.at_string HC.out 0 (by omega) (by omega)
      have hx' : w.cell? (ad.add 0) = some (.string (l.getD 0 ByteArray.empty)) := hx
      have hlt : ad.block < w.heap.size := by
        have := World.block_lt_of_cell? w _ hx'
        unfold Addr.add at this
        simpa using this
      refine ⟨ad, e, by omega, by unfold xW; omega, fun j hj => ?_⟩
      obtain ⟨ad', e', hx2⟩ := Kd.at_string HC.out (j : Int) (by omega) (by omega)
      rw [e] at e'
      injection e' with e'
      subst e'
      have hx3 : w.cell? (ad.add j) = some (.string (l.getD j ByteArray.empty)) := hx2
      exact (hBY.cell (p := ad.add j) (by unfold Addr.add; split <;> exact hlt)).trans hx3⟩
    clear HQ0 HQ1 HQ2 HQ3 HB3 HS3 hs3 HY HC
    generalize ((y3.alloc (.cells #[.int .i64 0] 3)).alloc (.cells #[.slice A l.length cap] 35)) = Y at p0 p1 p2 p3 p4 p5 hBY hsY HA ⊢
    refine wpIn_rangeFunc_ownG rfl (by omega) (gf := 26) (lb := #[.pointer (some ⟨w.heap.size + 1 + 1 + 1 + 1 + 1, 0, none⟩)]) rfl trivial (enters_of Try.func26 (by kernel_rfl) rfl)
      (all_stops 2 (by omega) (w.heap.size + 1 + 1 + 1 + 1 + 1) (w.heap.size + 6) cap (xW w.heap.size) A l hreach hsum _ (by omega) (by omega) p5.cell HA.out)
      spare_t (spare_b (by omega)) (Below.refl _ _) (fun _ => rfl)
      (fun pre W => ((((Boxed W (w.heap.size + 1) 3 (.int .i64 0) ∧ Boxed W (w.heap.size + 1 + 1) 3 (.int .i64 0)) ∧ Boxed W (w.heap.size + 1 + 1 + 1) 4 (.bool false)) ∧ Boxed W (w.heap.size + 1 + 1 + 1 + 1) 3 (.int .i64 (pre.length : Int))) ∧ Spare (xW w.heap.size) (w.heap.size + 6) Y W) ∧ Below w.heap.size w W ∧ (pre <+: partsTo l l.length → (sumS (l.take pre.length) : Int) ≤ a))
      (fun c pre W => ((Boxed W (w.heap.size + 1) 3 (.int .i64 ((pre.length : Int) - 1)) ∧ Boxed W (w.heap.size + 1 + 1) 3 (.int .i64 (IntKind.i64.wrap (a - lastA pre)))) ∧ Boxed W (w.heap.size + 1 + 1 + 1) 4 (.bool true)) ∧ Below w.heap.size w W ∧ (c = Code.ret ∧ (pre <+: partsTo l l.length → (sumS (l.take (pre.length - 1)) : Int) ≤ a ∧ a < (sumS (l.take pre.length) : Int))))
      (OwnFrom.and (OwnFrom.and (OwnFrom.and (OwnFrom.and (OwnFrom.and (Own.from (boxed_own _ _ (fun _ : List (Int × ByteArray) => .int .i64 0)) _) (Own.from (boxed_own _ _ (fun _ : List (Int × ByteArray) => .int .i64 0)) _)) (Own.from (boxed_own _ _ (fun _ : List (Int × ByteArray) => .bool false)) _)) (Own.from (boxed_own _ _ (fun pre : List (Int × ByteArray) => .int .i64 (pre.length : Int))) _)) (ownFrom_spare (by omega) (by omega))) (OwnFrom.and (ownFrom_below (Nat.le_refl _) (by omega)) (ownFrom_pure _ _)))
      (fun c => OwnFrom.and (OwnFrom.and (OwnFrom.and (Own.from (boxed_own _ _ (fun pre : List (Int × ByteArray) => .int .i64 ((pre.length : Int) - 1))) _) (Own.from (boxed_own _ _ (fun pre : List (Int × ByteArray) => .int .i64 (IntKind.i64.wrap (a - lastA pre)))) _)) (Own.from (boxed_own _ _ (fun _ : List (Int × ByteArray) => .bool true)) _)) (OwnFrom.and (ownFrom_below (Nat.le_refl _) (by omega)) (ownFrom_pure _ _)))
      ⟨⟨⟨⟨⟨p1, p2⟩, p3⟩, p4⟩, Spare.refl _ _ _⟩, hBY, fun _ => by show ((sumS (l.take 0) : Nat) : Int) ≤ a; rw [List.take_zero]; have := HH0.out; simp only [sumS]; omega⟩
      ?a1 ?assign ?body ?done ?stop
    case assign =>
      intro y x W K hK
      gi_wp2
      exact hK
    case body =>
      rintro y pre x W ⟨⟨⟨⟨⟨h1, h2⟩, h3⟩, h4⟩, hS⟩, hB, hp⟩ hpl
      have HS := Aside0.mk hS
      have HB := Aside0.mk hB
      have HP := Aside0.mk hp
      have H1 := Aside0.mk h1
      have H2 := Aside0.mk h2
      have H3 := Aside0.mk h3
      have H4 := Aside0.mk h4
      have cA := (hS.boxed p0 (by omega) (by unfold xW; omega)).cell
      have c1 := h1.cell
      have c2 := h2.cell
      have c3 := h3.cell
      have c4 := h4.cell
      have f1 := h1.frozen
      have f2 := h2.frozen
      have f3 := h3.frozen
      have f4 := h4.frozen
      obtain ⟨xa, xs⟩ := x
      obtain ⟨z, hz⟩ : ∃ z, IntKind.i64.wrap (a - xa) = z := ⟨_, rfl⟩
      have HZ := Aside0.mk hz
      have hi1 : (pre.length : Int) + 1 ≤ 1099511627776 := by omega
      have hlen : (((pre ++ [(xa, xs)]).length : Nat) : Int) = (pre.length : Int) + 1 := by rw [List.length_append]; rfl
      have hlenN : (pre ++ [(xa, xs)]).length = pre.length + 1 := by rw [List.length_append]; rfl
      have hlast := lastA_snoc pre (xa, xs)
      have HPx : pre ++ [(xa, xs)] <+: partsTo l l.length → xa = (sumS (l.take pre.length) : Int) ∧ xs = l.getD pre.length ByteArray.empty ∧ (sumS (l.take pre.length) : Int) ≤ a ∧ z = a - xa := fun h => by
        obtain ⟨e, hpre⟩ := partsTo_snoc h
        injection e with e3 e4
        have hp1 := hp hpre
        refine ⟨e3, e4, hp1, ?_⟩
        rw [← hz]
        rw [i64_w, wrap_id (by omega) (by omega)]
      have HPX := Aside0.mk HPx
      have htk := sumS_take l pre.length hpl
      have HTK := Aside0.mk htk
      have k1 := KeepsFrom.of_grownBy (B := Y.heap.size) (grownBy_setCell' W (w.heap.size + 1) (.int .i64 (pre.length : Int))) (fun j e => by cases e; omega)
      have k2 := k1.trans (KeepsFrom.of_grownBy (B := Y.heap.size) (grownBy_setCell' (W.setCell ⟨w.heap.size + 1, 0, none⟩ (.int .i64 (pre.length : Int))) (w.heap.size + 1 + 1) (.int .i64 z)) (fun j e => by cases e; omega))
      have KF := Aside0.mk (k2.trans (KeepsFrom.of_grownBy (B := Y.heap.size) (grownBy_setCell' ((W.setCell ⟨w.heap.size + 1, 0, none⟩ (.int .i64 (pre.length : Int))).setCell ⟨w.heap.size + 1 + 1, 0, none⟩ (.int .i64 z)) (w.heap.size + 1 + 1 + 1) (.bool true)) (fun j e => by cases e; omega)))
      have G1 : Aside0 (Boxed (((W.setCell ⟨w.heap.size + 1, 0, none⟩ (.int .i64 (pre.length : Int))).setCell ⟨w.heap.size + 1 + 1, 0, none⟩ (.int .i64 z)).setCell ⟨w.heap.size + 1 + 1 + 1, 0, none⟩ (.bool true)) (w.heap.size + 1) 3 (.int .i64 ((((pre ++ [(xa, xs)]).length : Nat) : Int) - 1))) := ⟨by
        rw [hlen, show (pre.length : Int) + 1 - 1 = (pre.length : Int) by omega]
        exact ((h1.set _).other (by omega) _).other (by omega) _⟩
      have G2 : Aside0 (Boxed (((W.setCell ⟨w.heap.size + 1, 0, none⟩ (.int .i64 (pre.length : Int))).setCell ⟨w.heap.size + 1 + 1, 0, none⟩ (.int .i64 z)).setCell ⟨w.heap.size + 1 + 1 + 1, 0, none⟩ (.bool true)) (w.heap.size + 1 + 1) 3 (.int .i64 (IntKind.i64.wrap (a - lastA (pre ++ [(xa, xs)]))))) := ⟨by
        rw [hlast, hz]
        exact ((h2.other (by omega) _).set _).other (by omega) _⟩
      have G3 : Aside0 (Boxed (((W.setCell ⟨w.heap.size + 1, 0, none⟩ (.int .i64 (pre.length : Int))).setCell ⟨w.heap.size + 1 + 1, 0, none⟩ (.int .i64 z)).setCell ⟨w.heap.size + 1 + 1 + 1, 0, none⟩ (.bool true)) (w.heap.size + 1 + 1 + 1) 4 (.bool true)) := ⟨((h3.other (by omega) _).other (by omega) _).set _⟩
      have GB : Aside0 (Below w.heap.size w (((W.setCell ⟨w.heap.size + 1, 0, none⟩ (.int .i64 (pre.length : Int))).setCell ⟨w.heap.size + 1 + 1, 0, none⟩ (.int .i64 z)).setCell ⟨w.heap.size + 1 + 1 + 1, 0, none⟩ (.bool true))) := ⟨Below.setCell (p := ⟨w.heap.size + 1 + 1 + 1, 0, none⟩) (Below.setCell (p := ⟨w.heap.size + 1 + 1, 0, none⟩) (Below.setCell (p := ⟨w.heap.size + 1, 0, none⟩) hB (by show _ ≤ w.heap.size + 1; omega) _) (by show _ ≤ w.heap.size + 1 + 1; omega) _) (by show _ ≤ w.heap.size + 1 + 1 + 1; omega) _⟩
      have KN := Aside0.mk (KeepsFrom.of_grownBy (B := Y.heap.size) (grownBy_setCell' W (w.heap.size + 1 + 1 + 1 + 1) (.int .i64 ((pre.length : Int) + 1))) (fun j e => by cases e; omega))
      have N1 := Aside0.mk (h1.other (B' := w.heap.size + 1 + 1 + 1 + 1) (by omega) (.int .i64 ((pre.length : Int) + 1)))
      have N2 := Aside0.mk (h2.other (B' := w.heap.size + 1 + 1 + 1 + 1) (by omega) (.int .i64 ((pre.length : Int) + 1)))
      have N3 := Aside0.mk (h3.other (B' := w.heap.size + 1 + 1 + 1 + 1) (by omega) (.int .i64 ((pre.length : Int) + 1)))
      have N4 : Aside0 (Boxed (W.setCell ⟨w.heap.size + 1 + 1 + 1 + 1, 0, none⟩ (.int .i64 ((pre.length : Int) + 1))) (w.heap.size + 1 + 1 + 1 + 1) 3 (.int .i64 (((pre ++ [(xa, xs)]).length : Nat) : Int))) := ⟨by rw [hlen]; exact h4.set _⟩
      have NS := Aside0.mk (hS.set (p := ⟨w.heap.size + 1 + 1 + 1 + 1, 0, none⟩) (show xW w.heap.size (w.heap.size + 1 + 1 + 1 + 1) by unfold xW; omega) (.int .i64 ((pre.length : Int) + 1)))
      have NK := Aside0.mk ((Spare.refl (xW w.heap.size) (w.heap.size + 6) W).set (p := ⟨w.heap.size + 1 + 1 + 1 + 1, 0, none⟩) (show xW w.heap.size (w.heap.size + 1 + 1 + 1 + 1) by unfold xW; omega) (.int .i64 ((pre.length : Int) + 1)))
      have NB := Aside0.mk (Below.setCell (p := ⟨w.heap.size + 1 + 1 + 1 + 1, 0, none⟩) hB (by show _ ≤ w.heap.size + 1 + 1 + 1 + 1; omega) (.int .i64 ((pre.length : Int) + 1)))
      clear hS hB hp h1 h2 h3 h4 p0 p1 p2 p3 p4 p5 k1 k2 htk HPx hlen hlast hsY
      by_cases hlt : z < (xs.size : Int)
      · have e2 : decide (z < (xs.size : Int)) = true := decide_eq_true hlt
        have HPU : Aside0 (pre ++ [(xa, xs)] <+: partsTo l l.length → (sumS (l.take ((pre ++ [(xa, xs)]).length - 1)) : Int) ≤ a ∧ a < (sumS (l.take (pre ++ [(xa, xs)]).length) : Int)) := ⟨fun h => by
          obtain ⟨u1, u2, u3, u4⟩ := HPX.out h
          rw [hlenN, Nat.add_sub_cancel, HTK.out, ← u2]
          omega⟩
        clear hlenN
        gi_wp2
        gi_region
        all_goals gi_wp2
        all_goals exact ⟨⟨KF.out.size, KF.out.same⟩, ⟨⟨G1.out, G2.out⟩, G3.out⟩, ⟨GB.out.os, GB.out.tape, GB.out.output, GB.out.size, GB.out.block⟩, rfl, HPU.out⟩
      · have e2 : decide (z < (xs.size : Int)) = false := decide_eq_false hlt
        have HPU : Aside0 (pre ++ [(xa, xs)] <+: partsTo l l.length → (sumS (l.take (pre ++ [(xa, xs)]).length) : Int) ≤ a) := ⟨fun h => by
          obtain ⟨u1, u2, u3, u4⟩ := HPX.out h
          rw [hlenN, HTK.out, ← u2]
          omega⟩
        clear hlenN
        gi_wp2
        exact ⟨KN.out, NK.out, ⟨⟨⟨⟨N1.out, N2.out⟩, N3.out⟩, N4.out⟩, NS.out⟩, NB.out, HPU.out⟩
    case done =>
      rintro D ys W hD rfl ⟨⟨⟨⟨⟨h1, h2⟩, h3⟩, h4⟩, hS⟩, hB, hp⟩ hK
      have ew : whereB l a = (0, 0, false) := by
        unfold whereB
        rw [if_neg (show ¬ a < 0 by have := HH0.out; omega)]
        refine whereFrom_none l a 0 ?_
        have := hp (List.prefix_refl _)
        rw [partsTo_length, List.take_length] at this
        exact this
      have c1 := h1.cell
      have c2 := h2.cell
      have c3 := h3.cell
      have f1 := h1.frozen
      have f2 := h2.frozen
      have f3 := h3.frozen
      have HK := Aside0.mk hK
      have HB := Aside0.mk hB
      have HD := Aside0.mk (show w.heap.size + 6 ≤ D by omega)
      have G1 : Aside0 (Boxed (((W.setCell ⟨w.heap.size + 1, 0, none⟩ (.int .i64 0)).setCell ⟨w.heap.size + 1 + 1, 0, none⟩ (.int .i64 0)).setCell ⟨w.heap.size + 1 + 1 + 1, 0, none⟩ (.bool false)) (w.heap.size + 1) 3 (.int .i64 0)) := ⟨((h1.set _).other (by omega) _).other (by omega) _⟩
      have G2 : Aside0 (Boxed (((W.setCell ⟨w.heap.size + 1, 0, none⟩ (.int .i64 0)).setCell ⟨w.heap.size + 1 + 1, 0, none⟩ (.int .i64 0)).setCell ⟨w.heap.size + 1 + 1 + 1, 0, none⟩ (.bool false)) (w.heap.size + 1 + 1) 3 (.int .i64 0)) := ⟨((h2.other (by omega) _).set _).other (by omega) _⟩
      have G3 : Aside0 (Boxed (((W.setCell ⟨w.heap.size + 1, 0, none⟩ (.int .i64 0)).setCell ⟨w.heap.size + 1 + 1, 0, none⟩ (.int .i64 0)).setCell ⟨w.heap.size + 1 + 1 + 1, 0, none⟩ (.bool false)) (w.heap.size + 1 + 1 + 1) 4 (.bool false)) := ⟨((h3.other (by omega) _).other (by omega) _).set _⟩
      clear h1 h2 h3 h4 hS hB hp hK hD p0 p1 p2 p3 p4 p5 hsY
      have EW := Aside0.mk ew
      have GB : Aside0 (Below w.heap.size w (((W.setCell ⟨w.heap.size + 1, 0, none⟩ (.int .i64 0)).setCell ⟨w.heap.size + 1 + 1, 0, none⟩ (.int .i64 0)).setCell ⟨w.heap.size + 1 + 1 + 1, 0, none⟩ (.bool false))) := ⟨Below.setCell (p := ⟨w.heap.size + 1 + 1 + 1, 0, none⟩) (Below.setCell (p := ⟨w.heap.size + 1 + 1, 0, none⟩) (Below.setCell (p := ⟨w.heap.size + 1, 0, none⟩) HB.out (by show _ ≤ w.heap.size + 1; omega) _) (by show _ ≤ w.heap.size + 1 + 1; omega) _) (by show _ ≤ w.heap.size + 1 + 1 + 1; omega) _⟩
      have HK3 : Aside0 ((((W.setCell ⟨w.heap.size + 1, 0, none⟩ (.int .i64 0)).setCell ⟨w.heap.size + 1 + 1, 0, none⟩ (.int .i64 0)).setCell ⟨w.heap.size + 1 + 1 + 1, 0, none⟩ (.bool false)).heap[D]? = some (.deferred (some []))) := ⟨by
        have hd := HD.out
        rw [Below.heap_setCell _ _ _ D (by show D ≠ w.heap.size + 1 + 1 + 1; omega), Below.heap_setCell _ _ _ D (by show D ≠ w.heap.size + 1 + 1; omega), Below.heap_setCell _ _ _ D (by show D ≠ w.heap.size + 1; omega)]
        exact HK.out⟩
      clear ew
      gi_wp2
      have hd := HD.out
      refine ⟨by simp, .inl ⟨_, _, rfl, run_takeDeferred HK3.out, ?_⟩⟩
      have hput : ∀ (W : World) b t v, Boxed W b t v → b ≠ D → Boxed (W.putObj D (.deferred none)) b t v := fun W b t v hb hne => hb.kept (grownBy_putObj' W D _) (fun e => hne (by cases e; rfl))
      refine ⟨_, results_cell3 rfl rfl rfl rfl (loadVar_int (k := .i64) Try.underlying3 (hput _ _ _ _ G1.out (by omega)).cell) (loadVar_int (k := .i64) Try.underlying3 (hput _ _ _ _ G2.out (by omega)).cell) (loadVar_bool Try.underlying4 (hput _ _ _ _ G3.out (by omega)).cell), by rw [EW.out], ?_⟩
      exact GB.out.trans (belowK_b (w := w) (Nat.le_refl _) _ D _ _ (by omega) HK3.out rfl rfl)
    case stop =>
      rintro D c pre W hD hpre ⟨⟨⟨h1, h2⟩, h3⟩, hB, rfl, hp⟩ hK
      obtain ⟨hq1, hq2⟩ := hp hpre
      have hl1 := hpre.length_le
      rw [partsTo_length] at hl1
      have hpos : 0 < pre.length := by
        rcases Nat.eq_zero_or_pos pre.length with h | h
        · rw [h, List.take_zero] at hq2
          rw [h, Nat.zero_sub, List.take_zero] at hq1
          simp only [sumS] at hq1 hq2
          omega
        · exact h
      obtain ⟨m, hm⟩ : ∃ m, pre.length = m + 1 := ⟨pre.length - 1, by omega⟩
      have hpm := (partsTo_prefix.1 hpre).2
      rw [hm, partsTo_succ] at hpm
      have hla : lastA pre = (sumS (l.take m) : Int) := by rw [hpm, lastA_snoc]; rfl
      rw [hm, Nat.add_sub_cancel] at hq1
      rw [hm] at hq2
      have ew : whereB l a = ((m : Int), a - (sumS (l.take m) : Int), true) := by
        unfold whereB
        rw [if_neg (show ¬ a < 0 by have := HH0.out; omega), whereFrom_at l a 0 m (by omega) hq1 hq2, Nat.zero_add]
      have ez : IntKind.i64.wrap (a - lastA pre) = a - (sumS (l.take m) : Int) := by
        rw [hla]
        rw [i64_w, wrap_id (by omega) (by omega)]
      rw [ez] at h2
      rw [hm, show (((m + 1 : Nat) : Int) - 1) = (m : Int) by omega] at h1
      have HK := Aside0.mk hK
      have H1 := Aside0.mk h1
      have H2 := Aside0.mk h2
      have H3 := Aside0.mk h3
      have HB := Aside0.mk hB
      have EW := Aside0.mk ew
      have HD := Aside0.mk (show w.heap.size + 6 ≤ D by omega)
      clear hK h1 h2 h3 hB ew ez hla hpm hm hpos hq1 hq2 hp hl1 hpre hsY p0 p1 p2 p3 p4 p5 hD
      gi_wp2
      have hd := HD.out
      refine ⟨by simp, .inl ⟨_, _, rfl, run_takeDeferred HK.out, ?_⟩⟩
      have hput : ∀ b t v, Boxed W b t v → b ≠ D → Boxed (W.putObj D (.deferred none)) b t v := fun b t v hb hne => hb.kept (grownBy_putObj' W D _) (fun e => hne (by cases e; rfl))
      refine ⟨_, results_cell3 rfl rfl rfl rfl (loadVar_int (k := .i64) Try.underlying3 (hput _ _ _ H1.out (by omega)).cell) (loadVar_int (k := .i64) Try.underlying3 (hput _ _ _ H2.out (by omega)).cell) (loadVar_bool Try.underlying4 (hput _ _ _ H3.out (by omega)).cell), by rw [EW.out], ?_⟩
      exact HB.out.trans (belowK_b (w := w) (Nat.le_refl _) W D _ _ (by omega) HK.out rfl rfl)

end Go.Proofs.Ytibckaogfdffpaa.P
