/- Proved here: the row of the law BookBack, with texts that lead to it, merged by a program of this session (wip/merge.py), part 2 of 2; no condition beyond the statement's own. -/
import Derived.Test.YtpgmpdanplmpfaaBase
import Derived.SizedLaws
import Derived.SliceStrings
import Derived.Test.YtpgmpdanplmpfaaWWords
import Derived.Test.YtpgmpdanplmpfaaWSized
import Derived.Test.YtpgmpdanplmpfaaRows
import Derived.WalkKit
import Derived.ProofKit
import Derived.OpenShut
import Derived.ShutString
import Derived.ChangeOld
import Derived.Below
import Derived.Carry
import Derived.Test.YtpgmpdanplmpfaaZBookBacka
/- What book.Take tells, with what book.Put tells; no condition beyond the sizes that stand in each statement. -/
namespace Go.Proofs.Ytpgmpdanplmpfaa.Base
open Go Go.RowKit Go.Proofs.YtpgmpdanplmpfaaW.PrintWords Go.Proofs.YtpgmpdanplmpfaaW.PrintLast Go.Proofs.YtpgmpdanplmpfaaW.PrintMore Go.Proofs.Ytpgmpdanplmpfaa.P
set_option linter.unusedVariables false

theorem map_forth (l : List (List UInt8)) : (l.map strU).map LL = l := by
  rw [List.map_map]
  have : ∀ x : List UInt8, (LL ∘ strU) x = x := fun x => by rw [Function.comp, LL_strU]
  rw [List.map_congr_left (fun x _ => this x), List.map_id']
theorem take_no {s : ByteArray} (hs : s.size ≤ 1073741824) {e : Int} {m : List (List UInt8)} (h : tkBook (LL s) = (e, m)) (he : e ≠ 0) : book_Take.f s = some (none, e) := by
  unfold book_Take.f
  rw [if_pos hs, h, if_neg he]
theorem take_yes {s : ByteArray} (hs : s.size ≤ 1073741824) {m : List ByteArray} (h : tkBook (LL s) = (0, m.map LL)) : book_Take.f s = some (some (setB m), 0) ∧ SetOk m (some (setB m)) m 0 ∧ strU (bkPut (m.map LL)) = s := by
  obtain ⟨h1, h2, h3, h4⟩ := book_take h
  rw [List.length_map] at h3 h4
  have hok := rise_set h2 h3 h4
  refine ⟨?_, hok, LL_inj (by rw [LL_strU, ← h1])⟩
  unfold book_Take.f
  rw [if_pos hs, h, if_pos rfl]
  simp only
  rw [map_back]
  exact hok.hn
theorem take_cases (s : ByteArray) (hs : s.size ≤ 1073741824) : (∃ e m, e ≠ 0 ∧ tkBook (LL s) = (e, m) ∧ book_Take.f s = some (none, e)) ∨ (∃ m : List ByteArray, tkBook (LL s) = (0, m.map LL) ∧ book_Take.f s = some (some (setB m), 0) ∧ SetOk m (some (setB m)) m 0 ∧ strU (bkPut (m.map LL)) = s) := by
  obtain ⟨⟨e, m⟩, hq⟩ : ∃ q, tkBook (LL s) = q := ⟨_, rfl⟩
  by_cases he : e = 0
  · right
    subst he
    have hq2 : tkBook (LL s) = (0, (m.map strU).map LL) := by rw [map_forth]; exact hq
    obtain ⟨a, b, c⟩ := take_yes hs hq2
    exact ⟨_, hq2, a, b, c⟩
  · left
    exact ⟨e, m, he, hq, take_no hs hq he⟩
end Go.Proofs.Ytpgmpdanplmpfaa.Base

/- Whether two lists of texts are the same; no condition beyond the sizes that stand in each statement. -/
namespace Go.Proofs.Ytpgmpdanplmpfaa.Base
open Go Go.RowKit Go.Proofs.YtpgmpdanplmpfaaW.PrintWords Go.Proofs.YtpgmpdanplmpfaaW.PrintMore Go.Proofs.Ytpgmpdanplmpfaa.P

/-! the same texts -/
theorem same5_l0 (a b : List ByteArray) (he : a.length = b.length) (hm : a.length ≤ 9223372036854775807) : ∀ (d i : Nat), i + d = a.length →
    Ev (fun k => juratref05_Same.l0 k a b (i : Int)) (decide (a.drop i = b.drop i)) := by
  intro d
  induction d with
  | zero =>
    intro i hi
    refine Ev.ret fun k => ?_
    simp only [juratref05_Same.l0]
    rw [if_neg (by omega), List.drop_of_length_le (by omega), List.drop_of_length_le (by omega)]
    rfl
  | succ d ih =>
    intro i hi
    by_cases h : (rdOf ByteArray.empty a i).toList = (rdOf ByteArray.empty b i).toList
    · refine Ev.step (f := fun k => juratref05_Same.l0 k a b ((i + 1 : Nat) : Int)) (fun k => ?_) ?_
      · simp only [juratref05_Same.l0]
        rw [if_pos (by omega), if_pos (by omega), if_pos (by omega), if_pos h, wrap_id (by omega) (by omega)]
        rfl
      · have e : decide (a.drop i = b.drop i) = decide (a.drop (i + 1) = b.drop (i + 1)) := by
          rw [getD_drop a i ByteArray.empty (by omega), getD_drop b i ByteArray.empty (by omega)]
          have h' := toList_iff.1 h
          unfold rdOf at h'
          rw [Int.toNat_natCast] at h'
          rw [h']
          simp
        rw [e]
        exact ih (i + 1) (by omega)
    · refine Ev.ret fun k => ?_
      simp only [juratref05_Same.l0]
      rw [if_pos (by omega), if_pos (by omega), if_pos (by omega), if_neg h]
      rw [getD_drop a i ByteArray.empty (by omega), getD_drop b i ByteArray.empty (by omega)]
      have h' : ¬ a.getD i ByteArray.empty = b.getD i ByteArray.empty := fun e => h (by unfold rdOf; rw [Int.toNat_natCast, e])
      rw [decide_eq_false (fun e => h' (List.cons.inj e).1)]
theorem same5 (a b : List ByteArray) (hm : a.length ≤ 9223372036854775807) : Ev (fun k => juratref05_Same.f k a b) (decide (a = b)) := by
  by_cases he : a.length = b.length
  · have h := same5_l0 a b he hm a.length 0 (by omega)
    rw [List.drop_zero, List.drop_zero] at h
    refine Ev.congr (fun k => ?_) h
    unfold juratref05_Same.f
    rw [if_pos (by omega)]
    rfl
  · have : decide (a = b) = false := decide_eq_false fun e => he (by rw [e])
    rw [this]
    refine Ev.const fun k => ?_
    unfold juratref05_Same.f
    rw [if_neg (by omega)]

end Go.Proofs.Ytpgmpdanplmpfaa.Base

/- Proved: for all texts, every text and every number the law BookBack of layer 11 answers true. No condition beyond the statement's own. -/
namespace Go.Proofs.Ytpgmpdanplmpfaa.Pure
open Go Go.RowKit Go.Proofs.Ytpgmpdanplmpfaa.P Go.Proofs.YtpgmpdanplmpfaaW.PrintWords Go.Proofs.YtpgmpdanplmpfaaW.PrintLast Go.Proofs.Ytpgmpdanplmpfaa.Base
set_option linter.unusedVariables false

theorem BookBack (l : List ByteArray) (s : ByteArray) (cut : Int) (hl : l.length * 16 ≤ 140737488351232) (_ : ∀ x ∈ l, x.size ≤ maxLen) (hs : s.size ≤ 140737488351232) (hc : (Lit.int .i64 cut).wf = true) : ∃ k, juratlaw11_BookBack.f k l s cut = some true := by
  refine Ev.rounds ?_
  unfold juratlaw11_BookBack.f
  refine Ev.bind (few_ev l 20 50 (by omega)) ?_
  have hdone : Ev (fun k => juratlaw11_BookBack.j0 k l s cut true) true := by
    refine Ev.ret fun k => ?_
    simp only [juratlaw11_BookBack.j0]
    rw [if_pos trivial, awake11]
    rfl
  by_cases h1 : (decide ((l.length : Int) ≤ 20) && fewB l 50) = true
  rotate_left
  · exact Ev.congr (fun k => if_neg h1) hdone
  refine Ev.congr (fun k => if_pos h1) ?_
  by_cases hs1 : (s.size : Int) > 1000
  · rw [decide_eq_true hs1]
    exact hdone
  rw [decide_eq_false hs1]
  rw [Bool.and_eq_true, decide_eq_true_iff] at h1
  obtain ⟨x, w, e, h⟩ := set_ok l
  have hw50 : ∀ t ∈ w, t.size ≤ 50 := fun t ht => by have := fewB_iff.1 h1.2 t (h.mem t ht); omega
  have hwl : w.length ≤ 20 := by have := h.len; omega
  have hlast : ∀ k : Nat, ((book_Take.f s).bind fun bt287 => (if bt287.2 = 0 then ((book_Put.f bt287.1).bind fun t289 => (if t289.toList = s.toList then ((juratlaw11_awake.f).bind fun t290 => (some t290)) else (some false))) else (if bt287.1.isNone = true then ((juratlaw11_awake.f).bind fun t292 => (some t292)) else (some false)))) = some true := fun _ => by
    rcases take_cases s (by omega) with ⟨e', m, he, _, ht⟩ | ⟨m, _, ht, hok, hput⟩
    · rw [ht]
      simp only [Option.bind_some]
      rw [if_neg he, if_pos (by rfl), awake11]
      rfl
    · rw [ht]
      simp only [Option.bind_some]
      rw [if_pos trivial, put_ok hok]
      simp only [Option.bind_some]
      rw [if_pos (by rw [hput]), awake11]
      rfl
  by_cases he : e = 0
  rotate_left
  · refine Ev.ret fun k => ?_
    simp only [juratlaw11_BookBack.j0]
    rw [if_neg (by simp), h.hn]
    simp only [Option.bind_some]
    rw [if_neg he]
    exact hlast k
  obtain ⟨hr, hw0⟩ := set_rise h he
  obtain ⟨t, ht⟩ : ∃ t, strU (bkPut (w.map LL)) = t := ⟨_, rfl⟩
  have htL : LL t = bkPut (w.map LL) := by rw [← ht, LL_strU]
  have hml : (w.map LL).length = w.length := List.length_map ..
  have htz : t.size ≤ 2000000 := by
    rw [← LL_length, htL]
    have h2 := bkRows_len (w.map LL) [] (fun s hs' => by
      obtain ⟨t, ht, rfl⟩ := List.mem_map.1 hs'
      rw [LL_length]
      have := hw50 t ht
      omega)
    have h3 := vputL_len (w.map LL).length
    have h4 : (w.map LL).length * 65555 ≤ 20 * 65555 := Nat.mul_le_mul_right _ (by omega)
    unfold bkPut
    rw [if_neg (by omega), List.length_append, List.length_append]
    show 6 + _ ≤ _
    omega
  obtain ⟨a1, a2, a3⟩ := take_yes (s := t) (m := w) (by omega) (by rw [htL]; exact book_back hr (by omega) (by omega))
  have b1 : book_Take.f (t ++ (⟨#[0]⟩ : ByteArray)) = some (none, 20) := by
    have hh := book_more hr (show 0 < (w.map LL).length by omega) (by omega) [0]
    rw [if_pos (by simp)] at hh
    refine take_no (by rw [ByteArray.size_append]; show t.size + 1 ≤ _; omega) (m := []) ?_ (by decide)
    rw [LL_append, htL]
    exact hh
  have hput := put_ok h
  rw [ht] at hput
  have hj2 : Ev (fun k => juratlaw11_BookBack.j2 k s false) true := by
    refine Ev.ret fun k => ?_
    simp only [juratlaw11_BookBack.j2]
    rw [if_neg (by simp)]
    exact hlast k
  have hj1 : Ev (fun k => juratlaw11_BookBack.j1 k s cut t false) true := by
    obtain ⟨hb0, hb1⟩ := bits_and_mask cut 4095 (by decide)
    obtain ⟨c, hcc⟩ : ∃ c : Nat, Go.bits .and .i64 cut 4095 = (c : Int) := ⟨(Go.bits .and .i64 cut 4095).toNat, by
      have : (0 : Int) ≤ Go.bits .and .i64 cut 4095 := hb0
      omega⟩
    by_cases hct : c < t.size
    · have hcutz : (t.extract 0 c).size ≤ 1073741824 := by rw [ByteArray.size_extract]; omega
      have hcut := book_cut hr (show 0 < (w.map LL).length by omega) (by omega) (c := c) (by rw [← htL, LL_length]; exact hct)
      have hcL : LL (t.extract 0 c) = (bkPut (w.map LL)).take c := by rw [LL_extract, htL, List.drop_zero]
      rw [← hcL] at hcut
      have hex : ∃ e', book_Take.f (t.extract 0 c) = some (none, e') ∧ (e' = 15 ∨ e' = 4) := by
        rcases hcut with hcut | hcut
        · exact ⟨15, take_no hcutz hcut (by decide), .inl rfl⟩
        · exact ⟨4, take_no hcutz hcut (by decide), .inr rfl⟩
      obtain ⟨e', hte, he'⟩ := hex
      refine Ev.step (f := fun k => juratlaw11_BookBack.j2 k s false) (fun k => ?_) hj2
      simp only [juratlaw11_BookBack.j1]
      rw [if_neg (by simp), hcc, if_pos (by omega), if_pos (by omega), if_pos (by omega), Int.toNat_natCast, hte]
      simp only [Option.bind_some]
      rw [if_pos (by rfl)]
      rcases he' with rfl | rfl
      · rw [if_pos rfl]
      · rw [if_neg (by decide)]
        rfl
    · refine Ev.ret fun k => ?_
      simp only [juratlaw11_BookBack.j1]
      rw [if_neg (by simp), hcc, if_neg (by omega)]
      exact hlast k
  have hsame := same5 w w (by omega)
  rw [decide_eq_true rfl] at hsame
  refine Ev.step (f := fun k => (juratref05_Same.f k w w).bind fun t270 => (if t270 = true then (juratlaw11_BookBack.j1 k s cut t false) else (juratlaw11_BookBack.j1 k s cut t true))) (fun k => ?_) (Ev.bind hsame (Ev.congr (fun k => if_pos rfl) hj1))
  simp only [juratlaw11_BookBack.j0]
  rw [if_neg (by simp), h.hn]
  simp only [Option.bind_some]
  rw [if_pos he, hput]
  simp only [Option.bind_some]
  rw [a1]
  simp only [Option.bind_some]
  rw [if_pos (by omega), b1]
  simp only [Option.bind_some]
  rw [if_pos trivial, list_ok a2, list_ok h]
  rfl
end Go.Proofs.Ytpgmpdanplmpfaa.Pure

/- How a law's arguments are opened: slices of texts and of numbers, as lists, with their sizes out of the row's weights. -/
namespace Go.Proofs.Ytpgmpdanplmpfaa.RowS
open Go Go.ChangeShapes Go.WideShapes Go.RowKit Go.Proofs.YtpgmpdanplmpfaaW.PrintWords

theorem slice_strings {H : Type} {enc : TypeId × Value → H} {P : Program} {W : World} {t e : TypeId} {a : Option Addr} {len cap : Nat} {d : DataW H} {ps : List MemPlace} {ts : List TypeId} {ds : List (DataW H)} {j : Nat}
    (hsz : (DataW.weightsEach P ts ds).all (· ≤ reachBytes) = true) (ht : ts[j]? = some t) (hd : ds[j]? = some d) (hu : P.underlying t = some (.slice e)) (he : P.underlying e = some .string) (hc : P.cellsOf e = 1) (hB : P.bytesOf e = 16)
    (h : DataW.Trod enc P W 0 (fun _ => true) true t (.slice a len cap) d ps) :
    ∃ l : List ByteArray, l.length = len ∧ len ≤ cap ∧ Kd.C Kd.string W a l.length l ∧ l.length * 16 ≤ 140737488351232 ∧ ∀ s ∈ l, s.size ≤ maxLen := by
  obtain ⟨fuel, hf⟩ := h
  rcases open_strings hu he hc hf with ⟨hcs, _⟩ | ⟨x, l, c, ss, hcs, _, hl, hm, hz, hx, hcell, hw⟩
  · simp [Value.cells] at hcs
    obtain ⟨rfl, rfl, rfl⟩ := hcs
    exact ⟨[], rfl, Nat.le_refl _, Kd.C_nil _ _, by simp, by simp⟩
  · simp [Value.cells] at hcs
    obtain ⟨rfl, rfl, rfl⟩ := hcs
    obtain ⟨hx, _⟩ := Prod.mk.inj hx
    subst hx
    have z := sized_slice hsz ht hd hu
    rw [hB] at z
    rw [if_pos rfl] at hz
    have hl2 : len ≤ ss.length := by omega
    have h1 : (strs (H := H) (ss.take len)).length + (strs (H := H) (ss.drop len)).length = ss.length := by
      simp [strs]
      omega
    rw [h1] at z
    have hlen : (ss.take len).length = len := by rw [List.length_take]; omega
    refine ⟨ss.take len, hlen, hl, Kd.C_of_reads (d := ByteArray.empty) (h1 := fun _ => rfl) ⟨rfl, by rw [hlen]; unfold maxLen at hm; omega, fun _ => ⟨x, rfl, fun i hi => ?_⟩⟩, ?_, fun s hs => hw s (List.mem_of_mem_take hs)⟩
    · rw [hlen] at hi
      rw [hcell i (by omega), List.getD_eq_getElem?_getD, List.getD_eq_getElem?_getD, List.getElem?_take_of_lt hi]
    · rw [hlen]
      exact Nat.le_trans (Nat.mul_le_mul_right _ hl2) z
theorem slice_ints {H : Type} {enc : TypeId × Value → H} {P : Program} {W : World} {t e : TypeId} {k : IntKind} {a : Option Addr} {len cap : Nat} {d : DataW H} {ps : List MemPlace} {ts : List TypeId} {ds : List (DataW H)} {j : Nat}
    (hsz : (DataW.weightsEach P ts ds).all (· ≤ reachBytes) = true) (ht : ts[j]? = some t) (hd : ds[j]? = some d) (hu : P.underlying t = some (.slice e)) (he : P.underlying e = some (.int k)) (hc : P.cellsOf e = 1) {B : Nat} (hB : P.bytesOf e = B)
    (h : DataW.Trod enc P W 0 (fun _ => true) true t (.slice a len cap) d ps) :
    ∃ l : List Int, l.length = len ∧ len ≤ cap ∧ Kd.C (Kd.int k) W a l.length l ∧ l.length ≤ maxLen ∧ l.length * B ≤ 140737488351232 ∧ ∀ n ∈ l, (Lit.int k n).wf = true := by
  have y := sized_ints hsz ht hd hu he hc hB h
  obtain ⟨fuel, hf⟩ := h
  rcases open_ints hu he hc hf with ⟨hcs, _⟩ | ⟨x, l, c, zs, hcs, _, hl, hm, hz, _, hcell, hw⟩
  · simp [Value.cells] at hcs
    obtain ⟨rfl, rfl, rfl⟩ := hcs
    exact ⟨[], rfl, Nat.le_refl _, Kd.C_nil _ _, by simp, by simp, by simp⟩
  · simp [Value.cells] at hcs
    obtain ⟨rfl, rfl, rfl⟩ := hcs
    rw [if_pos rfl] at hz
    have hlen : (zs.take len).length = len := by rw [List.length_take]; omega
    refine ⟨zs.take len, hlen, hl, Kd.C_of_reads (d := (0 : Int)) (h1 := fun _ => rfl) ⟨rfl, by rw [hlen]; unfold maxLen at hm; omega, fun _ => ⟨x, rfl, fun i hi => ?_⟩⟩, by rw [hlen]; omega, by rw [hlen]; exact y, fun s hs => hw s (List.mem_of_mem_take hs)⟩
    rw [hlen] at hi
    rw [hcell i (by omega), List.getD_eq_getElem?_getD, List.getD_eq_getElem?_getD, List.getElem?_take_of_lt hi]

end Go.Proofs.Ytpgmpdanplmpfaa.RowS

/- The row of the law BookBack, out of its plain statement and the walk; written for this claim by a program of this session (wip/mkrow.py). -/
namespace Go.Proofs.Ytpgmpdanplmpfaa.bookBack
open Go.ChangeShapes Go.WideShapes Go.ChangeAt Go.RowKit
open Go.ChangeMaps (open_string shut_string)
set_option linter.unusedVariables false
theorem own : ownKnob Try.prog.godebug = none := by kernel_rfl
theorem laidOut : laidOutB Try.prog = true := by kernel_rfl
set_option maxRecDepth 100000 in
theorem lifted (os : Os) (started : os.Started) (H : Type) (enc : TypeId × Value → H) :
    ReturnsInHanded {} Try.checked os 5 .any (Rows.bookBackSpec.pre6 enc Try.prog Try.f5 Rows.bookBackRow.domain false) (Rows.bookBackSpec.post enc Try.prog Try.f5 false true false false) := by
  refine returnsInHanded_of_change_sized (C := Try.checked) own started (by kernel_rfl) Try.func5
    (ChangeSpec.witness6 (enc := enc) (C := Try.checked) false ⟨#[], #[.slice none 0 0, .string ByteArray.empty, .int .i64 0], []⟩ 8 (by kernel_rfl) (by kernel_rfl) (by kernel_rfl) (by kernel_rfl)) ?_
  intro W base args ds gs before hval0 hW hcnd hsz0 _
  have hsz : (DataW.weightsEach Try.prog (Try.f5.params.toList ++ Rows.bookBackSpec.plain.varTypes Try.prog) (ds ++ gs)).all (· ≤ reachBytes) = true := hsz0
  have hval : ∀ (j : Nat) t v, Try.f5.params[j]? = some t → args[j]? = some v → Value.okWide Try.prog W .any base t v := hval0
  have hW' := hW
  obtain ⟨p, q, hA0, hV, rfl, hfz, hnd⟩ := hW
  have hA : DataW.TrodAll enc Try.prog W 0 (fun _ => true) true Try.f5.params.toList args.toList ds p := hA0
  rw [Try.params5] at hA hval hsz
  obtain ⟨v0, vs0, d0, ds0, p0, q0, hargs, rfl, rfl, h0, r0⟩ := trodAll_cons hA
  obtain ⟨v1, vs1, d1, ds1, p1, q1, rfl, rfl, rfl, h1, r1⟩ := trodAll_cons r0
  obtain ⟨v2, vs2, d2, ds2, p2, q2, rfl, rfl, rfl, h2, r2⟩ := trodAll_cons r1
  obtain ⟨rfl, rfl, rfl⟩ := trodAll_nil r2
  obtain rfl : args = #[v0, v1, v2] := by cases args; simp_all
  obtain ⟨rfl, rfl⟩ := trodVars_none hV
  obtain ⟨a0, len0, cap0, rfl⟩ := okWide_slice Try.underlying22 (hval 0 22 v0 rfl rfl)
  have k0 := h0
  have lt0 : ∀ x ∈ p0, x.block < W.heap.size := by obtain ⟨m, hm⟩ := k0; exact DataW.trod_lt m _ _ _ hm
  obtain ⟨l0, hn0, hc0, hr0, y0, w0⟩ := RowS.slice_strings hsz (j := 0) (t := 22) rfl rfl Try.underlying22 Try.underlying9 (by kernel_rfl) (by kernel_rfl) h0
  subst hn0
  obtain ⟨a1, rfl, rfl, rfl, y1⟩ := open_string Try.underlying9 (hval 1 9 v1 rfl rfl) h1
  have w1 : a1.size ≤ 140737488351232 := by
    have z := sized_string hsz (j := 1) (t := 9) rfl rfl
    rw [Array.length_toList] at z
    exact z
  obtain ⟨a2, rfl, rfl, rfl, w2⟩ := open_int Try.underlying3 (hval 2 3 v2 rfl rfl) h2
  clear hA0 hval0 hsz0 hsz
  obtain ⟨k, hk⟩ := Pure.BookBack l0 a1 a2 y0 w0 w1 w2
  refine (P.juratlaw11_BookBack.calls k a0 cap0 l0 a1 a2 true W hr0 hc0 hk).mono fun e W' ⟨he, bel⟩ => ?_
  subst he
  exact ⟨_, rfl, _, _, _, [], _, [], hW', trodAll_mk1 (shut_bool Try.underlying4 _), (trodAll_cons_mk (Below.trod laidOut (by kernel_rfl) (of_decide_eq_true (by kernel_rfl)) k0 bel lt0) (trodAll_cons_mk (shut_string Try.underlying9 y1) (trodAll_cons_mk (shut_int Try.underlying3 w2) trodAll_mk0))), rfl, bel.frame _, fun h => by cases h⟩
theorem over : Rows.bookBackRow.holds Try.pinned (OpenSpec.ofChange Rows.bookBackSpec) :=
  OpenClaim.holds_of_wide 5 Try.f5 rfl rfl rfl rfl rfl rfl rfl ⟨rfl, rfl, rfl, rfl, rfl⟩ rfl rfl rfl rfl rfl (by kernel_rfl) Try.func5 (by kernel_rfl)
    (of_decide_eq_true (by kernel_rfl)) (by unfold Func.isWrapper; first | (rw [if_pos (by decide +kernel)]; kernel_rfl) | (rw [if_neg (by decide +kernel)]; exact ⟨rfl, rfl⟩))
    (fun os started H enc _ => lifted os started H enc)
theorem proved : Rows.BookBackSaid := over
#print axioms proved
end Go.Proofs.Ytpgmpdanplmpfaa.bookBack
namespace Go.Proofs.Ytpgmpdanplmpfaa
/-- The row, under a short name, for the claim. -/
theorem bookBack_holds : Rows.BookBackSaid := bookBack.proved
end Go.Proofs.Ytpgmpdanplmpfaa
