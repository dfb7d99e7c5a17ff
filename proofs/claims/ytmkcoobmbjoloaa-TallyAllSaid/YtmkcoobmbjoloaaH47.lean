/- The counts of hits, or why there are none: the walk. -/
import Derived.Test.YtmkcoobmbjoloaaH47a
import Derived.Test.YtmkcoobmbjoloaaH15o
import Derived.Test.YtmkcoobmbjoloaaPx86
namespace Go.Proofs.Ytmkcoobmbjoloaa.P
open Go Go.RowKit Go.Proofs.YtmkcoobmbjoloaaW.PrintWords Go.Proofs.YtmkcoobmbjoloaaW.PrintLast Go.Proofs.YtmkcoobmbjoloaaW.PrintMore Go.Proofs.Ytmkcoobmbjoloaa.Base
set_option linter.unusedVariables false
set_option linter.unusedSimpArgs false

abbrev HitD := S64
abbrev hit0 : HitD := z64
/-- Does a hit come ahead of another one? -/
def aheadH (a b : HitD) : Bool := decide (a.f0 < b.f0 ∨ a.f0 = b.f0 ∧ a.f1 < b.f1)
/-- Each ahead of the one behind it? -/
def risB : List HitD → Bool
  | a :: b :: l => aheadH a b && risB (b :: l)
  | _ => true
theorem order_ahead (a b : HitD) : (if cmpI a.f0 b.f0 ≠ 0 then cmpI a.f0 b.f0 else cmpI a.f1 b.f1) ≥ 0 ↔ ¬ aheadH a b = true := by
  unfold aheadH
  rw [decide_eq_true_iff]
  unfold cmpI
  by_cases h1 : a.f0 < b.f0
  · rw [if_pos h1, if_pos (by decide)]; simp [h1]
  · rw [if_neg h1]
    by_cases h2 : b.f0 < a.f0
    · rw [if_pos h2, if_pos (by decide)]
      simp only [ge_iff_le, Int.zero_le_ofNat, true_iff, not_or, not_and]
      exact ⟨h1, fun h => by omega⟩
    · have h3 : a.f0 = b.f0 := by omega
      rw [if_neg h2, if_neg (by simp)]
      by_cases h4 : a.f1 < b.f1
      · rw [if_pos h4]; simp [h3, h4]
      · rw [if_neg h4]
        have : ¬ (a.f0 < b.f0 ∨ a.f0 = b.f0 ∧ a.f1 < b.f1) := by rintro (h | ⟨_, h⟩); exact h1 h; exact h4 h
        simp only [this, not_false_eq_true, iff_true]
        split <;> omega
theorem risB_drop (l : List HitD) (i : Nat) (h : i + 1 < l.length) : risB (l.drop i) = (aheadH (l.getD i hit0) (l.getD (i + 1) hit0) && risB (l.drop (i + 1))) := by
  rw [getD_drop l i hit0 (by omega), getD_drop l (i + 1) hit0 h]
  rfl
theorem risB_short (l : List HitD) (h : l.length ≤ 1) : risB l = true := by
  match l, h with
  | [], _ => rfl
  | [_], _ => rfl
theorem rising_l0 (l : List HitD) (hl : l.length ≤ 8796093022208) : ∀ (d i : Nat), i + d = l.length → 1 ≤ i → Ev (fun k => occ_Rising.l0 k l (i : Int)) (risB (l.drop (i - 1))) := by
  intro d
  induction d with
  | zero =>
    intro i hi h1
    rw [risB_short _ (by rw [List.length_drop]; omega)]
    refine Ev.ret fun k => ?_
    simp only [occ_Rising.l0]
    rw [if_neg (by omega)]
  | succ d ih =>
    intro i hi h1
    have hr := risB_drop l (i - 1) (by omega)
    rw [show i - 1 + 1 = i by omega] at hr
    rw [hr]
    have e1 : rd_T64 l ((i : Int) - 1) = l.getD (i - 1) hit0 := by unfold rd_T64; congr 1; omega
    have e2 : rd_T64 l (i : Int) = l.getD i hit0 := rfl
    have ha := order_ahead (l.getD (i - 1) hit0) (l.getD i hit0)
    generalize l.getD (i - 1) hit0 = a at e1 ha
    generalize l.getD i hit0 = b at e2 ha
    by_cases h : aheadH a b = true
    · rw [h, Bool.true_and]
      refine Ev.step (fun k => ?_) (ih (i + 1) (by omega) (by omega))
      simp only [occ_Rising.l0]
      rw [if_pos (by omega), wrap_id (x := (i : Int) - 1) (by omega) (by omega), if_pos (by omega), if_pos (by omega), if_pos (by omega), e1, e2]
      simp only [occ_Order.f, Option.bind_some]
      rw [if_neg (fun h' => (ha.1 h') h), wrap_id (by omega) (by omega)]
      rfl
    · rw [Bool.eq_false_iff.2 h, Bool.false_and]
      refine Ev.ret fun k => ?_
      simp only [occ_Rising.l0]
      rw [if_pos (by omega), wrap_id (x := (i : Int) - 1) (by omega) (by omega), if_pos (by omega), if_pos (by omega), if_pos (by omega), e1, e2]
      simp only [occ_Order.f, Option.bind_some]
      rw [if_pos (ha.2 h)]
theorem rising_ev (l : List HitD) (hl : l.length ≤ 8796093022208) : Ev (fun k => occ_Rising.f k l) (risB l) := by
  rcases Nat.eq_zero_or_pos l.length with h | h
  · have : l = [] := List.length_eq_zero_iff.1 h
    subst this
    refine Ev.ret fun k => ?_
    simp [occ_Rising.f, occ_Rising.l0, risB]
  · exact rising_l0 l hl (l.length - 1) 1 (by omega) (Nat.le_refl _)

/-- Is a hit one of so many patterns', and its end one? -/
def goodH (n : Nat) (h : HitD) : Bool := decide (0 ≤ h.f1 ∧ h.f1 < (n : Int) ∧ 1 ≤ h.f0)
/-- The counts of hits. -/
def cntPut (C : List CntD) (h : HitD) : List CntD := C.set h.f1.toNat (cntAdd (C.getD h.f1.toNat cnt0) h.f0)
def cntsB (n : Nat) (l : List HitD) : List CntD := l.foldl cntPut (List.replicate n cnt0)
def tally_Of.f (n : Int) (l : List HitD) : Option (List CntD × Int) :=
  if n < 0 then some ([], 2) else if n > 65535 then some ([], 2) else if ¬ (l.length ≤ 8796093022208 ∧ ∀ h ∈ l, h.f0 ≤ 9223372036854775807) then none else if risB l = false then some ([], 9) else if l.all (goodH n.toNat) = true then some (cntsB n.toNat l, 0) else some ([], 11)
theorem cntPut_length (C : List CntD) (h : HitD) : (cntPut C h).length = C.length := List.length_set ..
theorem cntFold_length : ∀ (l : List HitD) (C : List CntD), (l.foldl cntPut C).length = C.length
  | [], C => rfl
  | h :: l, C => by rw [List.foldl_cons, cntFold_length l, cntPut_length]
/-- What is known of counts, of hits that are good. -/
theorem cntFold_ok (n : Nat) : ∀ (l : List HitD) (C : List CntD) (m : Nat), C.length = n → (∀ h ∈ l, goodH n h = true ∧ h.f0 ≤ 9223372036854775807) → (∀ i, i < n → 0 ≤ (C.getD i cnt0).f0 ∧ (C.getD i cnt0).f0 ≤ m ∧ 0 ≤ (C.getD i cnt0).f2 ∧ (C.getD i cnt0).f2 ≤ 9223372036854775807) →
    ∀ i, i < n → 0 ≤ ((l.foldl cntPut C).getD i cnt0).f0 ∧ ((l.foldl cntPut C).getD i cnt0).f0 ≤ m + l.length ∧ 0 ≤ ((l.foldl cntPut C).getD i cnt0).f2 ∧ ((l.foldl cntPut C).getD i cnt0).f2 ≤ 9223372036854775807
  | [], C, m, _, _, hC => fun i hi => by have := hC i hi; simpa using this
  | h :: l, C, m, hn, hg, hC => by
    intro i hi
    have h1 := hg h List.mem_cons_self
    have h2 := of_decide_eq_true h1.1
    have hs := hC h.f1.toNat (by omega)
    have := cntFold_ok n l (cntPut C h) (m + 1) (by rw [cntPut_length]; exact hn) (fun x hx => hg x (List.mem_cons_of_mem _ hx)) (fun j hj => by
      unfold cntPut
      rw [List.getD_eq_getElem?_getD, List.getElem?_set]
      by_cases hq : h.f1.toNat = j
      · rw [if_pos hq, if_pos (by omega)]
        simp only [cntAdd, Option.getD_some]
        omega
      · rw [if_neg hq, ← List.getD_eq_getElem?_getD]
        have := hC j hj
        omega) i hi
    rw [List.foldl_cons, List.length_cons]
    omega

theorem info47 : (Try.prog.info? 72).map (fun i => (i.zero, i.size, i.bytes)) = some (some (.agg #[(.int .i64 0), (.int .i64 0), (.int .i64 0), (.int .i64 0)]), 4, 32) := by kernel_rfl
set_option maxHeartbeats 16000000 in
set_option maxRecDepth 100000 in
theorem tally_Of.calls (a0 : Int) (A1 : Option Addr) (c1 : Nat) (l1 : List HitD) (r1 : List CntD) (r2 : Int) (w : World) (hr1 : Kd.C k64 w A1 l1.length l1) (hc1 : l1.length ≤ c1) (h : tally_Of.f a0 l1 = some (r1, r2)) :
    Calls Try.prog 48 #[.int .i64 a0, .slice A1 l1.length c1] w fun e w' => ∃ v0_ : Value, e = .returned (.tuple #[v0_, .int .i64 r2]) ∧ Kd.R k72 72 w' w.heap.size (fun _ => True) v0_ r1 ∧ Below w.heap.size w w' := by
  unfold tally_Of.f at h
  by_cases h0 : a0 < 0
  · rw [if_pos h0] at h
    obtain ⟨rfl, rfl⟩ := Prod.mk.inj (Option.some.inj h)
    have c0 : decide (a0 < 0) = true := decide_eq_true h0
    clear h h0 hr1
    go_enter Try.func48, Try.ntmps48
    go_wp2
    go_ret2
    exact ⟨_, rfl, Kd.R_nil _ _ _ _ _, Below.refl _ _⟩
  rw [if_neg h0] at h
  have c0 : decide (a0 < 0) = false := decide_eq_false h0
  by_cases h1 : a0 > 65535
  · rw [if_pos h1] at h
    obtain ⟨rfl, rfl⟩ := Prod.mk.inj (Option.some.inj h)
    have c2 : decide (65535 < a0) = true := decide_eq_true h1
    clear h h0 h1 hr1
    go_enter Try.func48, Try.ntmps48
    go_wp2
    go_ret2
    exact ⟨_, rfl, Kd.R_nil _ _ _ _ _, Below.refl _ _⟩
  rw [if_neg h1] at h
  have c2 : decide (65535 < a0) = false := decide_eq_false h1
  by_cases h2 : l1.length ≤ 8796093022208 ∧ ∀ h ∈ l1, h.f0 ≤ 9223372036854775807
  rotate_left
  · rw [if_pos h2] at h; cases h
  rw [if_neg (fun h => h h2)] at h
  obtain ⟨h2, h3⟩ := h2
  obtain ⟨k, hk⟩ := Ev.all (rising_ev l1 h2)
  have hRis := fun W (hb : Below w.heap.size w W) => occ_Rising.calls k A1 c1 l1 (risB l1) W (Kd.C_below hr1 hb) hc1 hk
  have HRIS := Aside0.mk hRis
  have HC := Aside0.mk hr1
  have H3 := Aside0.mk h3
  by_cases h4 : risB l1 = false
  · rw [if_pos h4] at h
    obtain ⟨rfl, rfl⟩ := Prod.mk.inj (Option.some.inj h)
    rw [h4] at HRIS
    clear h h0 h1 hr1 hRis hk h4 h3
    go_enter Try.func48, Try.ntmps48
    go_wp2_with (go_at_call 86; refine (HRIS.out _ (Below.refl _ _)).mono ?_; rintro e w' ⟨rfl, hb⟩; have HB := Aside0.mk hb; clear hb)
    go_ret2
    exact ⟨_, rfl, Kd.R_nil _ _ _ _ _, HB.out⟩
  rw [if_neg h4] at h
  have h4 : risB l1 = true := by cases hh : risB l1 with | true => rfl | false => exact absurd hh h4
  rw [h4] at HRIS
  obtain ⟨n, rfl⟩ : ∃ n : Nat, a0 = n := ⟨a0.toNat, by omega⟩
  rw [Int.toNat_natCast] at h
  have H := Aside0.mk h
  have hn : n ≤ 65535 := by omega
  have hn0 : (0 : Int) ≤ n := by omega
  clear h h0 h1 hr1 hRis hk h4 h3
  go_enter Try.func48, Try.ntmps48
  go_wp2_with (first
    | (go_at_call 86; refine (HRIS.out _ (Below.refl _ _)).mono ?_; rintro e w' ⟨rfl, hb⟩; have HB := Aside0.mk hb; clear hb)
    | (refine Kd.R_make k72 (w0 := w) w.heap.size 72 rfl (N := 21) rfl 53 (.tmp 20) (.tmp 20) rfl (n : Int) rfl rfl Try.underlying53 _ 32 info47 rfl (by decide) (by decide) cnt0 (ok := fun _ => True) (okp := fun _ => True) ?hz (fun _ h => h) trivial ?h0 ?hl ?hB ?hs ?_; (case hz => exact k72_mkM _ _ _ cnt0); (case h0 => omega); (case hl => omega); (case hB => exact HB.out); (case hs => exact HB.out.size); intro v1 w2 hR hb hg hown; have HB1 := Aside0.mk hb; obtain ⟨bb, hbb, _⟩ := hown; obtain ⟨cap, rfl, hcap, hbase, hraw⟩ := raw_of_R hR hbb; have HRW := Aside0.mk hraw; have HCAP := Aside0.mk hcap; have HBS := Aside0.mk hbase; clear hR hb hg hbb hraw hcap hbase))
  go_loopg [24] l1.length (fun kx i W => ∃ (j : Nat), i = .int .i64 j ∧ j ≤ l1.length ∧ l1.length - j ≤ kx ∧
    Aside0 (RawRow W bb cap ((l1.take j).foldl cntPut (List.replicate n cnt0))) ∧ Aside0 (Below w.heap.size w W) ∧ Aside0 (∀ h ∈ l1.take j, goodH n h = true))
  case atStart => exact ⟨0, rfl, Nat.zero_le _, by omega, ⟨by rw [List.take_zero]; exact HRW.out⟩, HB1, ⟨by simp⟩⟩
  case round =>
    clear HRW HB HB1
    obtain ⟨j, rfl, hj, hjx, HR, HB, HG⟩ := hrel
    by_cases hlt : j < l1.length
    · obtain ⟨ad, hA, hx0, hx1⟩ := at_T64 (Kd.C_below HC.out HB.out) (j : Int) (by omega) (by omega)
      obtain rfl : A1 = some ad := hA
      have hd0 : rd_T64 l1 (j : Int) = l1.getD j hit0 := rfl
      have hmem := getD_mem l1 j hit0 hlt
      have htk : l1.take (j + 1) = l1.take j ++ [l1.getD j hit0] := by
        rw [List.take_succ_eq_append_getElem hlt, List.getD_eq_getElem?_getD, List.getElem?_eq_getElem hlt]; rfl
      rw [hd0, Int.toNat_natCast] at hx0 hx1
      have hE := H3.out _ hmem
      obtain ⟨hd, hhd⟩ : ∃ hd, l1.getD j hit0 = hd := ⟨_, rfl⟩
      rw [hhd] at hx0 hx1 hmem htk hE
      obtain ⟨he, hi⟩ := hd
      simp only at hx0 hx1 hE
      have HMEM := Aside0.mk hmem
      have HTK := Aside0.mk htk
      have hl8 : l1.length ≤ 8796093022208 := h2
      clear hd0 hmem htk hhd
      have bad : (hi < 0 ∨ hi ≥ (n : Int) ∨ he < 1) → r1 = [] ∧ r2 = 11 := fun hb => by
        have hall : ¬ l1.all (goodH n) = true := fun ha => by
          have := of_decide_eq_true (List.all_eq_true.1 ha _ HMEM.out)
          simp only at this
          omega
        have h := H.out
        rw [if_neg hall] at h
        obtain ⟨rfl, rfl⟩ := Prod.mk.inj (Option.some.inj h)
        exact ⟨rfl, rfl⟩
      have BAD := Aside0.mk bad
      clear bad
      by_cases b1 : hi < 0
      · obtain ⟨rfl, rfl⟩ := BAD.out (.inl b1)
        have b1b : decide (hi < 0) = true := decide_eq_true b1
        clear b1 BAD
        go_wp2
        go_ret2
        exact ⟨_, rfl, Kd.R_nil _ _ _ _ _, by repeat (first | exact HB.out | (with_reducible apply below_drew) | (with_reducible apply pw_below_drewN) | exact Below.alloc HB.out HB.out.size _)⟩
      have b1b : decide (hi < 0) = false := decide_eq_false b1
      by_cases b2 : hi ≥ (n : Int)
      · obtain ⟨rfl, rfl⟩ := BAD.out (.inr (.inl b2))
        have b2b : decide ((n : Int) ≤ hi) = true := decide_eq_true b2
        clear b1 b2 BAD
        go_wp2
        go_ret2
        exact ⟨_, rfl, Kd.R_nil _ _ _ _ _, by repeat (first | exact HB.out | (with_reducible apply below_drew) | (with_reducible apply pw_below_drewN) | exact Below.alloc HB.out HB.out.size _)⟩
      have b2b : decide ((n : Int) ≤ hi) = false := decide_eq_false b2
      by_cases b3 : he < 1
      · obtain ⟨rfl, rfl⟩ := BAD.out (.inr (.inr b3))
        have b3b : decide (he < 1) = true := decide_eq_true b3
        clear b1 b2 b3 BAD
        go_wp2
        go_ret2
        exact ⟨_, rfl, Kd.R_nil _ _ _ _ _, by repeat (first | exact HB.out | (with_reducible apply below_drew) | (with_reducible apply pw_below_drewN) | exact Below.alloc HB.out HB.out.size _)⟩
      have b3b : decide (he < 1) = false := decide_eq_false b3
      obtain ⟨q, rfl⟩ : ∃ q : Nat, hi = q := ⟨hi.toNat, by omega⟩
      have hqn : q < n := by omega
      have hgd : goodH n (⟨he, (q : Int)⟩ : HitD) = true := decide_eq_true (show 0 ≤ (q : Int) ∧ (q : Int) < (n : Int) ∧ 1 ≤ he from ⟨by omega, by omega, by omega⟩)
      have b2c : decide (n ≤ q) = false := decide_eq_false (by omega)
      have hlen := cntFold_length (l1.take j) (List.replicate n cnt0)
      rw [List.length_replicate] at hlen
      have hok := cntFold_ok n (l1.take j) (List.replicate n cnt0) 0 List.length_replicate (fun x hx => ⟨HG.out x hx, H3.out x (List.mem_of_mem_take hx)⟩) (fun i hi => by
        rw [List.getD_eq_getElem?_getD, List.getElem?_replicate, if_pos hi]; exact ⟨Int.le_refl 0, Int.le_refl 0, Int.le_refl 0, by decide⟩) q hqn
      rw [List.length_take] at hok
      have hfold : (l1.take (j + 1)).foldl cntPut (List.replicate n cnt0) = ((l1.take j).foldl cntPut (List.replicate n cnt0)).set q (cntAdd (((l1.take j).foldl cntPut (List.replicate n cnt0)).getD q cnt0) he) := by
        rw [HTK.out, List.foldl_append]; rfl
      have hgood : ∀ h ∈ l1.take (j + 1), goodH n h = true := fun h hh => by
        rw [HTK.out, List.mem_append, List.mem_singleton] at hh
        rcases hh with hh | rfl
        · exact HG.out h hh
        · exact hgd
      have HFO := Aside0.mk hfold
      have HGO := Aside0.mk hgood
      have HBW := Aside0.mk (show bb < wr.heap.size from by obtain ⟨cur, h1, _⟩ := HR.out; exact blk_lt h1)
      generalize (l1.take j).foldl cntPut (List.replicate n cnt0) = C at HR hlen hok HFO
      have hadd := fun (W' : World) (hr : RawRow W' bb cap C) => tally_add bb cap q C he W' hr (by omega) (fun c hc => by rw [hc] at hok; omega) (by omega)
      have HADD := Aside0.mk hadd
      clear hfold hgood hok hadd hgd BAD b1 b2 b3 hlen
      go_wp2
      have k0 : (wr.alloc (Obj.cells #[Value.int .i64 he, .int .i64 (q : Int)] 64)).cell? ⟨wr.heap.size, 0, none⟩ = some (.int .i64 he) := by go_simp
      have k1 : (wr.alloc (Obj.cells #[Value.int .i64 he, .int .i64 (q : Int)] 64)).cell? ⟨wr.heap.size, 1, none⟩ = some (.int .i64 (q : Int)) := by go_simp
      have hR2 : RawRow (wr.alloc (Obj.cells #[Value.int .i64 he, .int .i64 (q : Int)] 64)) bb cap C := by
        obtain ⟨cur, g1, g2⟩ := HR.out
        exact ⟨cur, (((Below.refl _ _).alloc (Nat.le_refl _) _).block _ HBW.out).trans g1, g2⟩
      have hB2 : Below w.heap.size w (wr.alloc (Obj.cells #[Value.int .i64 he, .int .i64 (q : Int)] 64)) := Below.alloc HB.out HB.out.size _
      have HR2 := Aside0.mk hR2
      have HB2 := Aside0.mk hB2
      clear hR2 hB2 HR HB HBW hx0 hx1
      generalize wr.alloc (Obj.cells #[Value.int .i64 he, .int .i64 (q : Int)] 64) = W2 at HR2 HB2 k0 k1 ⊢
      have hq1 : (q : Int) < (n : Int) := by omega
      have hq0 : (0 : Int) ≤ (q : Int) := by omega
      go_still_tail 6, (by kernel_rfl)
      go_wp2_with (go_at_call 87; refine (HADD.out _ (raw_drew HR2.out)).mono ?_; rintro e w' ⟨rfl, hr, hg⟩; have HR3 := Aside0.mk hr; have HB3 := Aside0.mk (Below.grown (below_drew HB2.out) hg HB2.out.size (fun j hj => by cases hj; exact HBS.out)); clear hr hg)
      go_roundg (l1.length - (j + 1))
      case measure => omega
      case rel => exact ⟨j + 1, by go_num, by omega, Nat.le_refl _, ⟨by rw [HFO.out]; exact HR3.out⟩, HB3, HGO⟩
    · obtain rfl : j = l1.length := by omega
      have hall : l1.all (goodH n) = true := by
        rw [List.all_eq_true]
        intro x hx
        have := HG.out x (by rw [List.take_length]; exact hx)
        exact this
      have h := H.out
      rw [if_pos hall] at h
      obtain ⟨rfl, rfl⟩ := Prod.mk.inj (Option.some.inj h)
      have hr := HR.out
      rw [List.take_length] at hr
      have hl := cntFold_length l1 (List.replicate n cnt0)
      rw [List.length_replicate] at hl
      have hfin := R_of_raw hr HBS.out HCAP.out
      rw [hl] at hfin
      have HF := Aside0.mk hfin
      clear h hall hr hfin hl HR H
      go_wp2
      go_ret2
      exact ⟨_, rfl, HF.out, HB.out⟩

end Go.Proofs.Ytmkcoobmbjoloaa.P
