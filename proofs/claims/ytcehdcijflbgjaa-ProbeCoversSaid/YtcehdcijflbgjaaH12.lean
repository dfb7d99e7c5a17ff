/- The patterns of a set by their last bytes: the walk. Each row of numbers is the call's own, and no two share a block. -/
import Derived.BigRegion
import Derived.Deep.RegionLaw
import Derived.Deep.AppendLies
import Derived.Test.YtcehdcijflbgjaaH12a
import Derived.Test.YtcehdcijflbgjaaH10b
import Derived.Test.YtcehdcijflbgjaaWLast
namespace Go.Proofs.Ytcehdcijflbgjaa.P
open Go Go.RowKit Go.Proofs.YtcehdcijflbgjaaW.PrintWords Go.Proofs.YtcehdcijflbgjaaW.PrintLast Go.Proofs.YtcehdcijflbgjaaW.PrintMore Go.Proofs.Ytcehdcijflbgjaa.Base
set_option linter.unusedVariables false
set_option linter.unusedSimpArgs false

theorem grown_frozen {w w1 : World} {row : Option Nat} (h : w.grownBy w1 row) (a : Addr) (ha : a.block < w.heap.size) (hr : some a.block ≠ row) : w1.frozen? a = w.frozen? a := by
  unfold World.frozen?
  rw [h.block a.block ha hr]
theorem frozen_new {w : World} {a : Addr} {o : Obj} {b : Bool} (h : w.frozen? a = b) (ha : a.block < w.heap.size) : ((w.alloc o).drew).frozen? a = b := (grown_frozen (World.grownBy_alloc w o none) a ha (by simp)).trans h
theorem grown_drew {w A : World} {row : Option Nat} (h : w.grownBy A row) : w.grownBy A.drew row := ⟨h.os, h.tape, h.output, h.size, h.block⟩
theorem upAt_self {α : Type} (f : Nat → α) (c : Nat) : upAt f c (f c) = f := by
  funext k
  unfold upAt
  by_cases h : k = c
  · rw [if_pos h, h]
  · rw [if_neg h]
theorem info12i : (Try.prog.info? 3).map (fun i => (i.zero, i.size, i.bytes)) = some (some (.int .i64 0), 1, 8) := by kernel_rfl
def bkOfD (l : List ByteArray) : BucketD := ⟨fun c => bkOf c l, fun c => (bkLe c l : Int)⟩
def bucket_New.f (a0 : Option SetD) : Option (Option BucketD) :=
  if (setL a0).length ≤ 65535 ∧ ∀ s ∈ setL a0, 0 < s.size ∧ s.size ≤ 65535 then some (some (bkOfD (setL a0))) else none
/-- Each byte's row. -/
abbrev Rows12 (w : World) (NB : Nat) (f : Nat → Nat) (v : Nat → Value) (l : List ByteArray) : Prop := ∀ c, c < 256 → Kd.R (Kd.int .i64) 3 w NB (fun k => f k = c) (v c) (bkOf c l)
theorem Rows12.keep {w w1 : World} {NB : Nat} {f : Nat → Nat} {v : Nat → Value} {l : List ByteArray} (h : Rows12 w NB f v l) (hm : ∀ k, NB ≤ k → k < w.heap.size → w1.heap[k]? = w.heap[k]?) : Rows12 w1 NB f v l := fun c hc => Kd.R_mono (Kd.R_move (Kd.R_bound (h c hc)) (fun k hk => hm k hk.2.1 hk.2.2.1)) (fun k hk => hk.1)
/-- One row has grown; the others stay. -/
theorem Rows12.step {W w1 : World} {NB : Nat} {f : Nat → Nat} {v : Nat → Value} {l : List ByteArray} (h : Rows12 W NB f v l) {c0 : Nat} (hc0 : c0 < 256) {v1 : Value} {s : ByteArray} (hs : lastN s = c0)
    (hr : Kd.R (Kd.int .i64) 3 w1 NB (fun k => f k = c0 ∨ W.heap.size ≤ k) v1 (bkOf c0 l ++ [(l.length : Int)])) (hg : W.grownBy w1 (v c0).ownBlock) :
    Rows12 w1 NB (fun k => if W.heap.size ≤ k then c0 else f k) (upAt v c0 v1) (l ++ [s]) := fun c hc => by
  rw [bkOf_snoc]
  by_cases hcc : c = c0
  · subst hcc
    rw [upAt_same, if_pos hs]
    exact Kd.R_mono hr (fun k hk => by
      show (if W.heap.size ≤ k then c else f k) = c
      by_cases h1 : W.heap.size ≤ k
      · rw [if_pos h1]
      · rw [if_neg h1]; exact hk.resolve_right h1)
  · rw [upAt_other _ _ hcc, if_neg (fun e => hcc (by omega))]
    have hown := (h c0 hc0).1
    exact Kd.R_mono (Kd.R_grown (Kd.R_bound (h c hc)) hg (fun k hk e => hcc (by have := hown k e.symm; omega))) (fun k hk => by
      show (if W.heap.size ≤ k then c0 else f k) = c
      rw [if_neg (by have := hk.2.2.1; omega)]
      exact hk.1)
/-- A set's buckets that lie in blocks from n0 on. -/
def FreshB (n0 : Nat) (w : World) (P : Option Addr) : Option BucketD → Prop
  | none => P = none
  | some d => ∃ b v NB, P = some ⟨b, 0, none⟩ ∧ n0 ≤ b ∧ n0 ≤ NB ∧ w.heap[b]? = some (.cells (bkCells v d.least) 84 (0, 0)) ∧ ∀ c, c < 256 → Kd.R (Kd.int .i64) 3 w NB (fun _ => True) (v c) (d.ids c)
theorem FreshB.ob {n0 : Nat} {w : World} {P : Option Addr} {r : Option BucketD} (h : FreshB n0 w P r) : OB K84 w P r := by
  cases r with
  | none => rw [show P = none from h]; exact OB.nil _ _
  | some d =>
    obtain ⟨b, v, NB, rfl, _, _, hb, hr⟩ := h
    exact OB.mk ⟨b, v, rfl, hb, fun c hc => by obtain ⟨A, m, h1, h2, h3⟩ := Kd.R_reads (hr c hc); exact ⟨A, m, h1, h2, h3⟩⟩
theorem FreshB.below {n0 : Nat} {w w1 : World} {P : Option Addr} {r : Option BucketD} (h : FreshB n0 w P r) (hb : Below w.heap.size w w1) : FreshB n0 w1 P r := by
  cases r with
  | none => exact h
  | some d =>
    obtain ⟨b, v, NB, h1, h2, h3, h4, h5⟩ := h
    exact ⟨b, v, NB, h1, h2, h3, (hb.block _ (blk_lt h4)).trans h4, fun c hc => Kd.R_below (h5 c hc) hb⟩
theorem FreshB.set {n0 : Nat} {w : World} {P : Option Addr} {r : Option BucketD} (h : FreshB n0 w P r) {p : Addr} (hp : p.block < n0) (u : Value) : FreshB n0 (w.setCell p u) P r := by
  cases r with
  | none => exact h
  | some d =>
    obtain ⟨b, v, NB, h1, h2, h3, h4, h5⟩ := h
    exact ⟨b, v, NB, h1, h2, h3, (Below.heap_setCell _ _ _ b (by omega)).trans h4, fun c hc => Kd.R_mono (Kd.R_far (Kd.R_bound (h5 c hc)) (fun k hk => by have := hk.2.1; omega) u) (fun _ _ => trivial)⟩
set_option maxHeartbeats 16000000 in
set_option maxRecDepth 100000 in
theorem bucket_New.fresh (Pa0 : Option Addr) (a0 : Option SetD) (r : Option BucketD) (w : World) (ho : OB K55 w Pa0 a0) (h : bucket_New.f a0 = some r) :
    Calls Try.prog 31 #[.pointer Pa0] w fun e w' => ∃ P0_ : Option Addr, e = .returned (.pointer P0_) ∧ FreshB w.heap.size w' P0_ r ∧ Below w.heap.size w w' := by
  unfold bucket_New.f at h
  by_cases hs : (setL a0).length ≤ 65535 ∧ ∀ s ∈ setL a0, 0 < s.size ∧ s.size ≤ 65535
  rotate_left
  · rw [if_neg hs] at h; cases h
  rw [if_pos hs] at h
  have HO := Aside0.mk ho
  have hLi := fun W (g : OB K55 W Pa0 a0) => pats_Set_List.calls Pa0 a0 (setL a0) W g (by
    cases a0 with
    | none => rfl
    | some d => show (if d.l.length ≤ 8796093022208 then some d.l else none) = _; rw [if_pos (show d.l.length ≤ 8796093022208 from by have := hs.1; simp only [setL] at this; omega)]; rfl)
  generalize setL a0 = l at h hs hLi
  obtain ⟨h1, h2⟩ := hs
  obtain rfl := Option.some.inj h
  have HLI := Aside0.mk hLi
  have H1 := Aside0.mk h1
  have H2 := Aside0.mk h2
  clear h ho hLi h1 h2
  have hz : Try.zeroCells84 = bkCells (fun _ => .slice none 0 0) (fun _ => 0) := by kernel_rfl
  have hB0 : Below w.heap.size w (w.alloc (.cells Try.zeroCells84 84 (0, 0))) := (Below.refl _ _).alloc (Nat.le_refl _) _
  have hP0 : (w.alloc (.cells Try.zeroCells84 84 (0, 0))).heap[w.heap.size]? = some (.cells (bkCells (fun _ => .slice none 0 0) (fun _ => 0)) 84 (0, 0)) := by rw [← hz]; exact heap_alloc_new _ _
  have HB0 := Aside0.mk hB0
  have HP0 := Aside0.mk hP0
  clear hz hB0 hP0
  go_enter Try.func31, Try.ntmps31
  go_wp2_with (go_at_call 30; fail)
  obtain ⟨W0, hW0⟩ : ∃ W0 : World, w.alloc (.cells Try.zeroCells84 84 (0, 0)) = W0 := ⟨_, rfl⟩
  rw [hW0] at HB0 HP0 ⊢
  clear hW0
  refine Calls.mono (HLI.out _ (OB.below HB0.out HO.out)) ?_
  rintro e W1 ⟨v, rfl, hR, hb⟩
  have HP1 := Aside0.mk ((hb.block _ (blk_lt HP0.out)).trans HP0.out)
  have HB1 := Aside0.mk (HB0.out.trans (hb.mono HB0.out.size))
  obtain ⟨A, c, rfl⟩ := Kd.R_slice hR
  obtain ⟨NB, hNB⟩ : ∃ NB, W1.heap.size = NB := ⟨_, rfl⟩
  have HR := Aside0.mk (Kd.R_mono (ok' := fun k => k < NB) (Kd.R_bound hR) (fun k hk => by rw [← hNB]; exact hk.2.2.1))
  have HBW := Aside0.mk (show w.heap.size < NB from by rw [← hNB]; exact blk_lt HP1.out)
  have HNB := Aside0.mk hNB
  have hl1 := H1.out
  have HW0 := Aside0.mk (blk_lt HP0.out)
  clear hR hb HP0 HB0 hNB
  go_wp2
  go_loopg [12] l.length (fun kx i wr => ∃ (j : Nat) (v : Nat → Value) (f : Nat → Nat), i = .int .i64 j ∧ j ≤ l.length ∧ l.length - j ≤ kx ∧ NB ≤ wr.heap.size ∧
    Aside0 (wr.heap[w.heap.size]? = some (.cells (bkCells v (fun c => (bkLe c (l.take j) : Int))) 84 (0, 0))) ∧ Aside0 (Rows12 wr NB f v (l.take j)) ∧ Aside0 (Below w.heap.size w wr) ∧ Aside0 (Kd.R Kd.string 9 wr W0.heap.size (fun k => k < NB) (.slice A l.length c) l))
  case atStart => exact ⟨0, fun _ => .slice none 0 0, fun _ => 0, rfl, Nat.zero_le _, by omega, by rw [HNB.out]; exact Nat.le_refl _, ⟨by rw [List.take_zero]; exact HP1.out⟩, ⟨fun c hc => by rw [List.take_zero]; exact Kd.R_nil _ _ _ _ _⟩, HB1, HR⟩
  case round =>
    clear HP1 HB1 HR HNB
    obtain ⟨j, v, f, rfl, hj, hjx, hNw, HP, HM, HB, HR⟩ := hrel
    by_cases hlt : j < l.length
    · obtain ⟨ad, hA, hx⟩ := Kd.at_string (Kd.R_reads' HR.out).2.2 (j : Int) (by omega) (by omega)
      obtain rfl : A = some ad := hA
      have hx' : wr.cell? (ad.add j) = some (.string (l.getD j ByteArray.empty)) := hx
      obtain ⟨hs2, hs3⟩ := H2.out _ (getD_mem l j ByteArray.empty hlt)
      have htk := take_snoc l j hlt
      clear hx
      generalize l.getD j ByteArray.empty = s at hx' hs2 hs3 htk
      have HTK := Aside0.mk htk
      have htl : (l.take j).length = j := by rw [List.length_take]; omega
      obtain ⟨cc, hcc⟩ : ∃ cc : Nat, (s[s.size - 1]'(by omega)).toNat = cc := ⟨_, rfl⟩
      have hcl : cc < 256 := by rw [← hcc]; exact UInt8.toNat_lt _
      have hlast : lastN s = cc := by
        unfold lastN
        rw [List.getD_eq_getElem?_getD, List.getElem?_eq_getElem (by rw [LL_length]; omega), ← hcc]
        rfl
      have hrow := HM.out cc hcl
      obtain ⟨A0, c0, hv0⟩ := Kd.R_slice hrow
      have hlen0 := bkFrom_le cc (l.take j) 0
      rw [htl] at hlen0
      have hlen1 : (bkOf cc (l.take j)).length ≤ j := hlen0
      have hle := bkLe_snoc cc (l.take j) s
      rw [if_pos hlast, ← htk] at hle
      have hids := bkOf_snoc cc (l.take j) s
      rw [if_pos hlast, ← htk, htl] at hids
      have hck := (blk_cell HP.out cc).trans (bkCells_ids hcl)
      rw [hv0] at hck
      have hcm := (blk_cell HP.out (256 + cc)).trans (bkCells_least (n := fun c => (bkLe c (l.take j) : Int)) hcl)
      have hfm := blk_frozen HP.out (256 + cc)
      have HLE := Aside0.mk hle
      have HIDS := Aside0.mk hids
      have HLAST := Aside0.mk hlast
      have HV0 := Aside0.mk hv0
      have hoth : ∀ c, c ≠ cc → bkLe c (l.take (j + 1)) = bkLe c (l.take j) := fun c hc => by rw [htk, bkLe_snoc, if_neg (fun e => hc (by omega))]
      have HOTH := Aside0.mk hoth
      clear hlen0 hle hids htk htl hrow hlast hv0 hoth
      obtain ⟨n0, hn0⟩ : ∃ n0, (bkOf cc (l.take j)).length = n0 := ⟨_, rfl⟩
      obtain ⟨m0, hm0⟩ : ∃ m0, bkLe cc (l.take j) = m0 := ⟨_, rfl⟩
      rw [hn0] at hck hlen1
      rw [hm0] at hcm
      have HN0 := Aside0.mk hn0
      have HM0 := Aside0.mk hm0
      clear hn0 hm0
      have hci : (cc : Int) < 256 := by omega
      have hst : ∀ (x : Int), Aside0 ((wr.setCell ⟨w.heap.size, 256 + cc, none⟩ (.int .i64 x)).heap[w.heap.size]? = some (.cells (bkCells v (upAt (fun c => (bkLe c (l.take j) : Int)) cc x)) 84 (0, 0))) ∧ Aside0 (Rows12 (wr.setCell ⟨w.heap.size, 256 + cc, none⟩ (.int .i64 x)) NB f v (l.take j)) ∧ Aside0 (Below w.heap.size w (wr.setCell ⟨w.heap.size, 256 + cc, none⟩ (.int .i64 x))) ∧ Aside0 (Kd.R Kd.string 9 (wr.setCell ⟨w.heap.size, 256 + cc, none⟩ (.int .i64 x)) W0.heap.size (fun k => k < NB) (.slice (some ad) l.length c) l) ∧ NB ≤ (wr.setCell ⟨w.heap.size, 256 + cc, none⟩ (.int .i64 x)).heap.size := fun x =>
        ⟨⟨(blk_set HP.out (256 + cc) _).trans (by rw [bkCells_setleast hcl])⟩, ⟨Rows12.keep HM.out (fun k hk _ => Below.heap_setCell _ _ _ k (by show k ≠ w.heap.size; have := HBW.out; omega))⟩, ⟨Below.setCell (p := ⟨w.heap.size, 256 + cc, none⟩) HB.out (Nat.le_refl _) _⟩,
          ⟨Kd.R_mono (Kd.R_far (Kd.R_bound HR.out) (fun k hk => by have := hk.2.1; have := HW0.out; show k ≠ w.heap.size; omega) _) (fun k hk => hk.1)⟩, by rw [World.size_setCell]; exact hNw⟩
      have HST := Aside0.mk hst
      clear hst
      have hup : ∀ x : Int, (bkLe cc (l.take (j + 1)) : Int) = x → upAt (fun c => (bkLe c (l.take j) : Int)) cc x = fun c => (bkLe c (l.take (j + 1)) : Int) := fun x hx => by
        funext c
        by_cases hcx : c = cc
        · subst hcx; rw [upAt_same, hx]
        · rw [upAt_other _ _ hcx, HOTH.out c hcx]
      have HUP := Aside0.mk hup
      clear hup
      have hci2 : (256 : Int) + (cc : Int) < 512 := by omega
      have q0 : n0 = 0 ∨ (n0 ≠ 0 ∧ s.size < m0) ∨ (n0 ≠ 0 ∧ ¬ s.size < m0) := by omega
      rcases q0 with q0 | q0
      · have q1 : ((n0 : Int) == 0) = true := beq_iff_eq.2 (by omega)
        have HLE2 : Aside0 ((bkLe cc (l.take (j + 1)) : Int) = (s.size : Int)) := ⟨by rw [HLE.out, HN0.out, HM0.out, if_pos (.inl q0)]⟩
        clear HLE q0
        go_wp2
        obtain ⟨HPq, HMq, HBq, HRq, hNq⟩ := HST.out (s.size : Int)
        rw [HUP.out _ HLE2.out] at HPq
        clear HP HM HB HR hNw HST HUP hck hcm hfm
        generalize wr.setCell ⟨w.heap.size, 256 + cc, none⟩ (.int .i64 (s.size : Int)) = wq at HPq HMq HBq HRq hNq ⊢
        have hck := (blk_cell HPq.out cc).trans (bkCells_ids hcl)
        rw [HV0.out, HN0.out] at hck
        obtain ⟨i0, hi0, hz0, hz1, hz2⟩ := info_parts info12i
        have hown := Kd.own_of_R (HMq.out cc hcl)
        rw [HV0.out, HN0.out] at hown
        have hbase : NB ≤ wq.heap.size + 1 := by omega
        have hne : ∀ g, (Value.slice A0 n0 c0).ownBlock = some g → NB ≤ g := fun g hg => by have := Kd.R_base (HMq.out cc hcl) g (by rw [HV0.out, HN0.out]; exact hg); exact this
        have hne0 : (Value.slice A0 n0 c0).ownBlock ≠ some w.heap.size := fun e => by have := hne _ e; have := HBW.out; omega
        have hbw := HBW.out
        have hfk := blk_frozen HPq.out cc
        have hp8 := ((below_drew ((Below.refl wq.heap.size wq).alloc (Nat.le_refl _) (.cells #[.int .i64 (j : Int)] 3 (0, 0)))).block _ (blk_lt HPq.out)).trans HPq.out
        have HP8 := Aside0.mk hp8
        have hc8 := (blk_cell hp8 cc).trans (bkCells_ids hcl)
        rw [HV0.out, HN0.out] at hc8
        clear hp8
        have hfn := frozen_new (o := .cells #[.int .i64 (j : Int)] 3 (0, 0)) hfk (blk_lt HPq.out)
        go_region_law
          ((refine step_append_lies _ (by rfl) _ _ _ (by rfl) NB 3 i0 (.int .i64 0) 1 8 Try.underlying38 hi0 hz0 hz1 hz2 rfl (by omega) (.slice A0 n0 c0) n0 _ (by rfl) ((hown.alloc _).drew) ⟨wq.heap.size, 0, none⟩ 1 1 [.int .i64 (j : Int)] (by rfl) (by rfl) (World.news_of_block (cs := #[.int .i64 (j : Int)]) (t := 3) (fr := (0, 0)) (heap_alloc_new wq _)) (by simp [Value.oneCell']) (by omega) (by unfold maxLen; omega) (by omega) (by simp; omega) (wq.heap.size + 1) (by simp) ?_; intro gg cap w1 hown1 hgrow hat hlt; have hp9 := blk_grown HP8.out hgrow (fun e => hne0 e.symm); have hc9 := (blk_cell hp9 cc).trans (bkCells_ids hcl); have hf9 := blk_frozen hp9 cc))
        all_goals
          have hall := (grown_drew (World.grownBy_alloc wq (.cells #[.int .i64 (j : Int)] 3 (0, 0)) _)).trans hgrow
          have hr1 : Kd.R (Kd.int .i64) 3 w1 NB (fun k => f k = cc ∨ wq.heap.size ≤ k) (.slice (some ⟨gg, 0, none⟩) (n0 + 1) cap) (bkOf cc (l.take j) ++ [((l.take j).length : Int)]) := Kd.R_of_own (enc := Value.int .i64) (h1 := fun _ => rfl) (by
              rw [List.length_append, HN0.out, List.length_take, Nat.min_eq_left (by omega)]
              simpa [encs] using hown1) (fun k hk => by
              obtain rfl : gg = k := by simpa [Value.ownBlock] using hk
              rcases hat with hat | hat
              · exact .inl ((HMq.out cc hcl).1 gg (by rw [HV0.out, HN0.out]; exact hat))
              · exact .inr (by omega))
          have hg1 : wq.grownBy w1 (v cc).ownBlock := by rw [HV0.out, HN0.out]; exact hall
          have hM1 := Rows12.step HMq.out hcl HLAST.out hr1 hg1
          rw [← HTK.out] at hM1
          have HMX := Aside0.mk hM1
          have HP9 := Aside0.mk hp9
          have HALL := Aside0.mk hall
          have HS8 := Aside0.mk hgrow.size
          clear hM1 hp9 hall hr1 hg1 hown1 hgrow hat hc9 hf9
          go_wp2
          go_roundg (l.length - (j + 1))
          case measure => omega
          case rel =>
            refine ⟨j + 1, upAt v cc (.slice (some ⟨gg, 0, none⟩) (n0 + 1) cap), fun k => if wq.heap.size ≤ k then cc else f k, by go_num, by omega, Nat.le_refl _, ?_, ⟨?_⟩, ⟨?_⟩, ⟨?_⟩, ⟨?_⟩⟩
            · have := HALL.out.size
              rw [World.size_setCell]
              omega
            · refine (blk_set HP9.out cc _).trans ?_
              rw [bkCells_setids hcl]
            · exact Rows12.keep HMX.out (fun k hk _ => Below.heap_setCell _ _ _ k (by show k ≠ w.heap.size; have := HBW.out; omega))
            · exact Below.setCell (p := ⟨w.heap.size, cc, none⟩) (Below.grown HBq.out HALL.out HBq.out.size (fun j hj => by have := hne j hj; have := HBW.out; omega)) (Nat.le_refl _) _
            · exact Kd.R_mono (Kd.R_far (Kd.R_bound (Kd.R_grown HRq.out HALL.out (fun k hk e => by have := hne k e.symm; omega))) (fun k hk => by have := hk.2.1; have := HW0.out; show k ≠ w.heap.size; omega) _) (fun k hk => hk.1)
      rcases q0 with q0 | q0
      · have q1 : ((n0 : Int) == 0) = false := beq_eq_false_iff_ne.2 (by omega)
        have q2 : decide ((s.size : Int) < (m0 : Int)) = true := decide_eq_true (by omega)
        have q2' : decide (s.size < m0) = true := decide_eq_true q0.2
        have HLE2 : Aside0 ((bkLe cc (l.take (j + 1)) : Int) = (s.size : Int)) := ⟨by rw [HLE.out, HN0.out, HM0.out, if_pos (.inr q0.2)]⟩
        clear HLE
        go_wp2
        obtain ⟨HPq, HMq, HBq, HRq, hNq⟩ := HST.out (s.size : Int)
        rw [HUP.out _ HLE2.out] at HPq
        clear HP HM HB HR hNw HST HUP hck hcm hfm
        generalize wr.setCell ⟨w.heap.size, 256 + cc, none⟩ (.int .i64 (s.size : Int)) = wq at HPq HMq HBq HRq hNq ⊢
        have hck := (blk_cell HPq.out cc).trans (bkCells_ids hcl)
        rw [HV0.out, HN0.out] at hck
        obtain ⟨i0, hi0, hz0, hz1, hz2⟩ := info_parts info12i
        have hown := Kd.own_of_R (HMq.out cc hcl)
        rw [HV0.out, HN0.out] at hown
        have hbase : NB ≤ wq.heap.size + 1 := by omega
        have hne : ∀ g, (Value.slice A0 n0 c0).ownBlock = some g → NB ≤ g := fun g hg => by have := Kd.R_base (HMq.out cc hcl) g (by rw [HV0.out, HN0.out]; exact hg); exact this
        have hne0 : (Value.slice A0 n0 c0).ownBlock ≠ some w.heap.size := fun e => by have := hne _ e; have := HBW.out; omega
        have hbw := HBW.out
        have hfk := blk_frozen HPq.out cc
        have hp8 := ((below_drew ((Below.refl wq.heap.size wq).alloc (Nat.le_refl _) (.cells #[.int .i64 (j : Int)] 3 (0, 0)))).block _ (blk_lt HPq.out)).trans HPq.out
        have HP8 := Aside0.mk hp8
        have hc8 := (blk_cell hp8 cc).trans (bkCells_ids hcl)
        rw [HV0.out, HN0.out] at hc8
        clear hp8
        have hfn := frozen_new (o := .cells #[.int .i64 (j : Int)] 3 (0, 0)) hfk (blk_lt HPq.out)
        go_region_law
          ((refine step_append_lies _ (by rfl) _ _ _ (by rfl) NB 3 i0 (.int .i64 0) 1 8 Try.underlying38 hi0 hz0 hz1 hz2 rfl (by omega) (.slice A0 n0 c0) n0 _ (by rfl) ((hown.alloc _).drew) ⟨wq.heap.size, 0, none⟩ 1 1 [.int .i64 (j : Int)] (by rfl) (by rfl) (World.news_of_block (cs := #[.int .i64 (j : Int)]) (t := 3) (fr := (0, 0)) (heap_alloc_new wq _)) (by simp [Value.oneCell']) (by omega) (by unfold maxLen; omega) (by omega) (by simp; omega) (wq.heap.size + 1) (by simp) ?_; intro gg cap w1 hown1 hgrow hat hlt; have hp9 := blk_grown HP8.out hgrow (fun e => hne0 e.symm); have hc9 := (blk_cell hp9 cc).trans (bkCells_ids hcl); have hf9 := blk_frozen hp9 cc))
        all_goals
          have hall := (grown_drew (World.grownBy_alloc wq (.cells #[.int .i64 (j : Int)] 3 (0, 0)) _)).trans hgrow
          have hr1 : Kd.R (Kd.int .i64) 3 w1 NB (fun k => f k = cc ∨ wq.heap.size ≤ k) (.slice (some ⟨gg, 0, none⟩) (n0 + 1) cap) (bkOf cc (l.take j) ++ [((l.take j).length : Int)]) := Kd.R_of_own (enc := Value.int .i64) (h1 := fun _ => rfl) (by
              rw [List.length_append, HN0.out, List.length_take, Nat.min_eq_left (by omega)]
              simpa [encs] using hown1) (fun k hk => by
              obtain rfl : gg = k := by simpa [Value.ownBlock] using hk
              rcases hat with hat | hat
              · exact .inl ((HMq.out cc hcl).1 gg (by rw [HV0.out, HN0.out]; exact hat))
              · exact .inr (by omega))
          have hg1 : wq.grownBy w1 (v cc).ownBlock := by rw [HV0.out, HN0.out]; exact hall
          have hM1 := Rows12.step HMq.out hcl HLAST.out hr1 hg1
          rw [← HTK.out] at hM1
          have HMX := Aside0.mk hM1
          have HP9 := Aside0.mk hp9
          have HALL := Aside0.mk hall
          have HS8 := Aside0.mk hgrow.size
          clear hM1 hp9 hall hr1 hg1 hown1 hgrow hat hc9 hf9
          go_wp2
          go_roundg (l.length - (j + 1))
          case measure => omega
          case rel =>
            refine ⟨j + 1, upAt v cc (.slice (some ⟨gg, 0, none⟩) (n0 + 1) cap), fun k => if wq.heap.size ≤ k then cc else f k, by go_num, by omega, Nat.le_refl _, ?_, ⟨?_⟩, ⟨?_⟩, ⟨?_⟩, ⟨?_⟩⟩
            · have := HALL.out.size
              rw [World.size_setCell]
              omega
            · refine (blk_set HP9.out cc _).trans ?_
              rw [bkCells_setids hcl]
            · exact Rows12.keep HMX.out (fun k hk _ => Below.heap_setCell _ _ _ k (by show k ≠ w.heap.size; have := HBW.out; omega))
            · exact Below.setCell (p := ⟨w.heap.size, cc, none⟩) (Below.grown HBq.out HALL.out HBq.out.size (fun j hj => by have := hne j hj; have := HBW.out; omega)) (Nat.le_refl _) _
            · exact Kd.R_mono (Kd.R_far (Kd.R_bound (Kd.R_grown HRq.out HALL.out (fun k hk e => by have := hne k e.symm; omega))) (fun k hk => by have := hk.2.1; have := HW0.out; show k ≠ w.heap.size; omega) _) (fun k hk => hk.1)
      · have q1 : ((n0 : Int) == 0) = false := beq_eq_false_iff_ne.2 (by omega)
        have q2 : decide ((s.size : Int) < (m0 : Int)) = false := decide_eq_false (by omega)
        have q2' : decide (s.size < m0) = false := decide_eq_false (by omega)
        have HLE2 : Aside0 ((bkLe cc (l.take (j + 1)) : Int) = (bkLe cc (l.take j) : Int)) := ⟨by rw [HLE.out, HN0.out, HM0.out, if_neg (by omega)]⟩
        have HPq : Aside0 (wr.heap[w.heap.size]? = some (.cells (bkCells v (fun c => (bkLe c (l.take (j + 1)) : Int))) 84 (0, 0))) := ⟨by rw [← HUP.out _ HLE2.out, show upAt (fun c => (bkLe c (l.take j) : Int)) cc (bkLe cc (l.take j) : Int) = fun c => (bkLe c (l.take j) : Int) from upAt_self (fun c => (bkLe c (l.take j) : Int)) cc]; exact HP.out⟩
        clear HLE
        go_wp2
        obtain ⟨wq, hwq⟩ : ∃ wq, wq = wr := ⟨_, rfl⟩
        have HMq : Aside0 (Rows12 wq NB f v (l.take j)) := ⟨by rw [hwq]; exact HM.out⟩
        have HBq : Aside0 (Below w.heap.size w wq) := ⟨by rw [hwq]; exact HB.out⟩
        have HRq : Aside0 (Kd.R Kd.string 9 wq W0.heap.size (fun k => k < NB) (.slice (some ad) l.length c) l) := ⟨by rw [hwq]; exact HR.out⟩
        have hNq : NB ≤ wq.heap.size := by rw [hwq]; exact hNw
        rw [← hwq] at HPq ⊢
        clear HP HM HB HR hNw HST HUP hck hcm hfm hwq
        have hck := (blk_cell HPq.out cc).trans (bkCells_ids hcl)
        rw [HV0.out, HN0.out] at hck
        obtain ⟨i0, hi0, hz0, hz1, hz2⟩ := info_parts info12i
        have hown := Kd.own_of_R (HMq.out cc hcl)
        rw [HV0.out, HN0.out] at hown
        have hbase : NB ≤ wq.heap.size + 1 := by omega
        have hne : ∀ g, (Value.slice A0 n0 c0).ownBlock = some g → NB ≤ g := fun g hg => by have := Kd.R_base (HMq.out cc hcl) g (by rw [HV0.out, HN0.out]; exact hg); exact this
        have hne0 : (Value.slice A0 n0 c0).ownBlock ≠ some w.heap.size := fun e => by have := hne _ e; have := HBW.out; omega
        have hbw := HBW.out
        have hfk := blk_frozen HPq.out cc
        have hp8 := ((below_drew ((Below.refl wq.heap.size wq).alloc (Nat.le_refl _) (.cells #[.int .i64 (j : Int)] 3 (0, 0)))).block _ (blk_lt HPq.out)).trans HPq.out
        have HP8 := Aside0.mk hp8
        have hc8 := (blk_cell hp8 cc).trans (bkCells_ids hcl)
        rw [HV0.out, HN0.out] at hc8
        clear hp8
        have hfn := frozen_new (o := .cells #[.int .i64 (j : Int)] 3 (0, 0)) hfk (blk_lt HPq.out)
        go_region_law
          ((refine step_append_lies _ (by rfl) _ _ _ (by rfl) NB 3 i0 (.int .i64 0) 1 8 Try.underlying38 hi0 hz0 hz1 hz2 rfl (by omega) (.slice A0 n0 c0) n0 _ (by rfl) ((hown.alloc _).drew) ⟨wq.heap.size, 0, none⟩ 1 1 [.int .i64 (j : Int)] (by rfl) (by rfl) (World.news_of_block (cs := #[.int .i64 (j : Int)]) (t := 3) (fr := (0, 0)) (heap_alloc_new wq _)) (by simp [Value.oneCell']) (by omega) (by unfold maxLen; omega) (by omega) (by simp; omega) (wq.heap.size + 1) (by simp) ?_; intro gg cap w1 hown1 hgrow hat hlt; have hp9 := blk_grown HP8.out hgrow (fun e => hne0 e.symm); have hc9 := (blk_cell hp9 cc).trans (bkCells_ids hcl); have hf9 := blk_frozen hp9 cc))
        all_goals
          have hall := (grown_drew (World.grownBy_alloc wq (.cells #[.int .i64 (j : Int)] 3 (0, 0)) _)).trans hgrow
          have hr1 : Kd.R (Kd.int .i64) 3 w1 NB (fun k => f k = cc ∨ wq.heap.size ≤ k) (.slice (some ⟨gg, 0, none⟩) (n0 + 1) cap) (bkOf cc (l.take j) ++ [((l.take j).length : Int)]) := Kd.R_of_own (enc := Value.int .i64) (h1 := fun _ => rfl) (by
              rw [List.length_append, HN0.out, List.length_take, Nat.min_eq_left (by omega)]
              simpa [encs] using hown1) (fun k hk => by
              obtain rfl : gg = k := by simpa [Value.ownBlock] using hk
              rcases hat with hat | hat
              · exact .inl ((HMq.out cc hcl).1 gg (by rw [HV0.out, HN0.out]; exact hat))
              · exact .inr (by omega))
          have hg1 : wq.grownBy w1 (v cc).ownBlock := by rw [HV0.out, HN0.out]; exact hall
          have hM1 := Rows12.step HMq.out hcl HLAST.out hr1 hg1
          rw [← HTK.out] at hM1
          have HMX := Aside0.mk hM1
          have HP9 := Aside0.mk hp9
          have HALL := Aside0.mk hall
          have HS8 := Aside0.mk hgrow.size
          clear hM1 hp9 hall hr1 hg1 hown1 hgrow hat hc9 hf9
          go_wp2
          go_roundg (l.length - (j + 1))
          case measure => omega
          case rel =>
            refine ⟨j + 1, upAt v cc (.slice (some ⟨gg, 0, none⟩) (n0 + 1) cap), fun k => if wq.heap.size ≤ k then cc else f k, by go_num, by omega, Nat.le_refl _, ?_, ⟨?_⟩, ⟨?_⟩, ⟨?_⟩, ⟨?_⟩⟩
            · have := HALL.out.size
              rw [World.size_setCell]
              omega
            · refine (blk_set HP9.out cc _).trans ?_
              rw [bkCells_setids hcl]
            · exact Rows12.keep HMX.out (fun k hk _ => Below.heap_setCell _ _ _ k (by show k ≠ w.heap.size; have := HBW.out; omega))
            · exact Below.setCell (p := ⟨w.heap.size, cc, none⟩) (Below.grown HBq.out HALL.out HBq.out.size (fun j hj => by have := hne j hj; have := HBW.out; omega)) (Nat.le_refl _) _
            · exact Kd.R_mono (Kd.R_far (Kd.R_bound (Kd.R_grown HRq.out HALL.out (fun k hk e => by have := hne k e.symm; omega))) (fun k hk => by have := hk.2.1; have := HW0.out; show k ≠ w.heap.size; omega) _) (fun k hk => hk.1)
    · obtain rfl : j = l.length := by omega
      have hP := HP.out
      have hM := HM.out
      rw [List.take_length] at hP hM
      go_wp2
      go_ret
      exact ⟨_, rfl, ⟨w.heap.size, v, NB, rfl, Nat.le_refl _, Nat.le_of_lt HBW.out, hP, fun c hc => Kd.R_mono (hM c hc) (fun _ _ => trivial)⟩, HB.out⟩
theorem bucket_New.calls (Pa0 : Option Addr) (a0 : Option SetD) (r : Option BucketD) (w : World) (ho : OB K55 w Pa0 a0) (h : bucket_New.f a0 = some r) :
    Calls Try.prog 31 #[.pointer Pa0] w fun e w' => ∃ P0_ : Option Addr, e = .returned (.pointer P0_) ∧ OB K84 w' P0_ r ∧ Below w.heap.size w w' := by
  refine (bucket_New.fresh Pa0 a0 r w ho h).mono ?_
  rintro e w' ⟨P, rfl, h1, h2⟩
  exact ⟨P, rfl, h1.ob, h2⟩

end Go.Proofs.Ytcehdcijflbgjaa.P
