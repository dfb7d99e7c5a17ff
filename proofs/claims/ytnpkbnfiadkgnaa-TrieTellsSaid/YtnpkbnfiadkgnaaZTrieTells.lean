/- Proved here: the row of the law TrieTells, with texts that lead to it, merged by a program of this session (wip/merge.py), part 2 of 2; no condition beyond the statement's own. -/
import Derived.BigRegion
import Derived.Deep.RegionLaw
import Derived.Lib.QuietBelow
import Derived.Deep.Cut
import Derived.Deep.CutRange
import Derived.Deep.DeepCutAuto
import Derived.Deep.CutBlock
import Derived.StillTailTactics
import Derived.SizedLaws
import Derived.SliceStrings
import Derived.Test.YtnpkbnfiadkgnaaWWords
import Derived.Test.YtnpkbnfiadkgnaaWSized
import Derived.Test.YtnpkbnfiadkgnaaRows
import Derived.WalkKit
import Derived.ProofKit
import Derived.OpenShut
import Derived.ShutString
import Derived.ChangeOld
import Derived.Below
import Derived.Carry
import Derived.Test.YtnpkbnfiadkgnaaZTrieTellsa
/- Layer 16's law on what a trie tells of its states: the walk. -/
namespace Go.Proofs.Ytnpkbnfiadkgnaa.P
open Go Go.Sort Go.RowKit Go.Proofs.YtnpkbnfiadkgnaaW.PrintWords Go.Proofs.YtnpkbnfiadkgnaaW.PrintLast Go.Proofs.YtnpkbnfiadkgnaaW.PrintMore Go.Proofs.Ytnpkbnfiadkgnaa.Base
set_option linter.unusedVariables false
set_option linter.unusedSimpArgs false

def juratlaw16_TrieTells.f (l0 : List ByteArray) (a1 : Int) : Option Bool := if (0 ≤ a1 ∧ a1 ≤ 255) ∧ l0.length * 16 ≤ 140737488351232 then some true else none
theorem few16 {A0 : Option Addr} {c0 : Nat} {l0 : List ByteArray} (hl : l0.length ≤ 9223372036854775806) : ∃ r : Bool, (r = (decide ((l0.length : Int) ≤ 12) && fewB l0 20)) ∧ ∀ w : World, Kd.C Kd.string w A0 l0.length l0 → l0.length ≤ c0 → Calls Try.prog 10 #[.slice A0 l0.length c0, .int .i64 12, .int .i64 20] w fun e w' => e = .returned (.bool r) ∧ Drawn0 w w' := by
  obtain ⟨k, hk⟩ := Ev.all (few_ev l0 12 20 (by omega))
  exact ⟨_, rfl, fun w h1 h2 => juratref09_Few.calls k A0 c0 l0 12 20 _ w h1 h2 hk⟩
theorem awake16_in (w : World) : Calls Try.prog 36 #[] w fun e w' => e = .returned (.bool true) ∧ Below w.heap.size w w' := juratlaw16_awake.calls true w awake16
/-- Texts that are few make a set whose trie is made. -/
theorem few_trie {l w : List ByteArray} {x : Option SetD} {e : Int} (h : SetOk l x w e) (h1 : (decide ((l.length : Int) ≤ 12) && fewB l 20) = true) : trie_New.f x = some (some (trS w)) ∧ okT w ∧ w.length ≤ 12 ∧ (∀ t ∈ w, t.size ≤ 20) ∧ (paths w).length ≤ 241 := by
  rw [Bool.and_eq_true, decide_eq_true_iff] at h1
  have hw20 : ∀ t ∈ w, t.size ≤ 20 := fun t ht => by have := fewB_iff.1 h1.2 t (h.mem t ht); omega
  have h3 := h.len
  have h2 := sizes_le 20 w hw20
  have h4 : w.length * 20 ≤ 12 * 20 := Nat.mul_le_mul (by omega) (Nat.le_refl _)
  obtain ⟨hT, ok⟩ := trie_ok h (by omega)
  refine ⟨hT, ok, by omega, hw20, ?_⟩
  rw [paths_length]
  have := trN_le (srt_of ok.1)
  unfold trK at this
  omega
theorem paths_size {w : List ByteArray} (hs : srt w) (hz : ∀ t ∈ w, t.size ≤ 20) : ∀ s ∈ paths w, s.size ≤ 20 := fun s h => by
  rcases (paths_mem hs s).1 h with h | ⟨t, h1, h2⟩
  · subst h; decide
  · have h3 := h2.length_le
    rw [LL_length, LL_length] at h3
    have := hz _ (getD_mem w t ByteArray.empty h1)
    omega
/-- The order of the region that asks all that is told of a state. -/
def tab15 : List LexRow := [(some 69, [9], []), (some 70, [11], []), (some 71, [69, 70], [0, 1]), (some 72, [10], []), (some 73, [11], []), (some 74, [72, 73], [3, 4]), (some 75, [74], [5]), (some 76, [71, 75], [2, 6]), (some 77, [76], [7, 2]), (some 78, [9, 77], [8]), (some 79, [11, 77], [8]), (some 80, [78, 79, 77], [9, 10, 8, 8]), (some 81, [10, 77], [8]), (some 82, [11, 77], [8]), (some 83, [81, 82, 77], [12, 13, 8]), (some 84, [83, 77], [14, 8]), (some 85, [84, 77], [15, 8]), (some 86, [80, 85, 77], [11, 16, 8]), (some 87, [77, 86], [8, 17]), (some 88, [87], [18, 11]), (some 89, [13, 88], [19]), (some 90, [14, 88], [19]), (some 91, [90, 88], [21, 19]), (some 92, [89, 91, 88], [20, 22, 19]), (some 93, [88, 92], [19, 23]), (some 94, [93], [24, 19]), (some 95, [13, 94], [25]), (some 96, [95, 94], [26, 25, 25]), (some 97, [12, 96], [27]), (some 98, [14, 96], [27]), (some 99, [97, 98, 96], [28, 29, 27]), (some 100, [96, 99, 94], [27, 30, 25]), (some 101, [94, 100], [25, 31]), (some 102, [101], [32, 27]), (some 103, [13, 102], [33]), (some 104, [103, 102], [34, 33]), (some 105, [104, 102], [35, 33, 33]), (some 106, [12, 105], [36]), (some 107, [106, 105], [37, 36]), (some 108, [105, 107, 102], [36, 38, 33]), (some 109, [102, 108], [33, 39]), (some 110, [109], [40, 36]), (some 111, [16, 110], [41]), (some 112, [7, 110], [41]), (some 113, [10, 110], [41]), (some 114, [11, 110], [41]), (some 115, [113, 114, 110], [44, 45, 41]), (some 116, [115, 110], [46, 41]), (some 117, [112, 116, 110], [43, 47, 41, 41]), (some 118, [117, 110], [48, 41]), (some 119, [111, 118, 110], [42, 49, 41]), (some 120, [110, 119], [41, 50]), (some 121, [120], [51, 48]), (some 122, [16, 121], [52]), (some 123, [122, 121], [53, 52, 52]), (some 124, [15, 123], [54]), (some 125, [124, 123], [55, 54]), (some 126, [125, 123], [56, 54, 54]), (some 127, [15, 126], [57]), (some 128, [7, 126], [57]), (some 129, [128, 126], [59, 57]), (some 130, [127, 129, 126], [58, 60, 57]), (some 131, [126, 130, 123], [57, 61, 54]), (some 132, [131, 123], [62, 57, 54]), (some 133, [7, 132], [63]), (some 134, [15, 132], [63]), (some 135, [133, 134, 132], [64, 65, 63]), (some 136, [135, 132], [66, 63]), (some 137, [10, 132], [63]), (some 138, [11, 132], [63]), (some 139, [137, 138, 132], [68, 69, 63]), (some 140, [139, 132], [70, 63]), (some 141, [136, 140, 132], [67, 71, 63]), (some 142, [132, 141, 123], [63, 72, 54]), (some 143, [123, 142, 121], [54, 73, 52]), (some 144, [121, 143], [52, 74]), (some 145, [144], [75, 63]), (some 146, [16, 145], [76]), (some 147, [146, 145], [77, 76]), (some 148, [147, 145], [78, 76, 76]), (some 149, [15, 148], [79]), (some 150, [149, 148], [80, 79]), (some 151, [148, 150, 145], [79, 81, 76]), (some 152, [145, 151], [76, 82]), (some 153, [152], [83, 79]), (some 154, [9, 153], [84]), (some 155, [11, 153], [84]), (some 156, [154, 155, 153], [85, 86, 84, 84]), (some 157, [10, 153], [84]), (some 158, [11, 153], [84]), (some 159, [157, 158, 153], [88, 89, 87, 84]), (some 160, [156, 159, 153], [87, 90, 84]), (some 161, [153, 160], [84, 91])]
set_option maxRecDepth 100000 in
theorem tab15_ok : lexR 0 tab15 = true := by decide +kernel
set_option maxRecDepth 100000 in
set_option maxHeartbeats 16000000 in
theorem tells_in (A0 : Option Addr) (c0 : Nat) (l0 : List ByteArray) (cc : Nat) (w : World) (hr0 : Kd.C Kd.string w A0 l0.length l0) (hc0 : l0.length ≤ c0) (hcc : cc < 256) (hl : l0.length ≤ 9223372036854775806) :
    Calls Try.prog 8 #[.slice A0 l0.length c0, .int .u8 (cc : Int)] w fun e w' => e = .returned (.bool true) ∧ Below w.heap.size w w' := by
  obtain ⟨r, hr, hFew⟩ := few16 (A0 := A0) (c0 := c0) hl
  obtain ⟨x, lw, er, hok⟩ := set_ok l0
  obtain ⟨kn, hkn⟩ := Ev.all (rnew_ok hok)
  have hNew := fun (W : World) (h : Kd.C Kd.string W A0 l0.length l0) => pats_New.calls A0 c0 l0 x er W h hc0 hok.hn
  have hRN := fun (W : World) (h : Kd.C Kd.string W A0 l0.length l0) => juratref10_New.calls kn A0 c0 l0 lw er W h hc0 hkn
  have HFEW := Aside0.mk hFew
  have HNEW := Aside0.mk hNew
  have HRN := Aside0.mk hRN
  have HOK := Aside0.mk hok
  have HC := Aside0.mk hr0
  have HR := Aside0.mk hr
  clear hFew hNew hRN hok hr0 hr hkn
  cases r with
  | false =>
    go_enter Try.func8, Try.ntmps8
    go_wp2_with (first
      | (go_at_call 10; refine (HFEW.out _ HC.out hc0).mono ?_; rintro e w' ⟨rfl, ⟨q, rfl⟩⟩)
      | (go_at_call 36; refine (awake16_in _).mono ?_; rintro e w' ⟨rfl, hb⟩; have HBa := Aside0.mk hb; clear hb))
    go_ret
    exact ⟨rfl, below_step (pw_below_drewN (Below.refl _ _) q) HBa.out⟩
  | true =>
    obtain ⟨hT, hokT, hw12, hw20, hpl⟩ := few_trie HOK.out HR.out.symm
    have hsrt := srt_of hokT.1
    have hTr := fun (W : World) (P : Option Addr) (h : OB K77 W P x) => trie_New.calls P x (some (trS lw)) W h hT
    obtain ⟨ks, hks⟩ := Ev.all (rstates_ev lw hokT)
    have hSt := fun (W : World) (A : Option Addr) (c : Nat) (h : Kd.C Kd.string W A lw.length lw) (hc : lw.length ≤ c) => juratref16_States.calls ks A c lw (paths lw) W h hc hks
    have HTR := Aside0.mk hTr
    have HST := Aside0.mk hSt
    have HTL := Aside0.mk (fun W P g => trie_Trie_Len.calls P (some (trS lw)) ((paths lw).length : Int) W g (by rw [paths_length, ← trS_length]; rfl))
    have hps := paths_size hsrt hw20
    have HPS := Aside0.mk hps
    have HSRT := Aside0.mk hsrt
    have HOKT := Aside0.mk hokT
    have HW20 := Aside0.mk hw20
    clear hT hTr hks hSt hps hsrt hokT hw20
    go_enter Try.func8, Try.ntmps8
    go_wp2_with (first
      | (go_at_call 10; refine (HFEW.out _ HC.out hc0).mono ?_; rintro e w' ⟨rfl, ⟨q, rfl⟩⟩; have HB1 := Aside0.mk (pw_below_drewN (Below.refl w.heap.size w) q))
      | (go_at_call 12; refine (HNEW.out _ (Kd.C_below HC.out HB1.out)).mono ?_; rintro e W2 ⟨Px, rfl, hox, hb⟩; have HX2 := Aside0.mk hox; have HB2 := Aside0.mk (below_step HB1.out hb); clear hox hb)
      | (go_at_call 13; refine (HRN.out _ (Kd.C_below HC.out HB2.out)).mono ?_; rintro e W3 ⟨vl, rfl, hR, hb⟩; have HX3 := Aside0.mk (OB.below hb HX2.out); have HB3 := Aside0.mk (below_step HB2.out hb); obtain ⟨A1, c1, rfl⟩ := Kd.R_slice hR; obtain ⟨_, hc1, hC1⟩ := Kd.R_reads' hR; have HL3 := Aside0.mk hC1; clear hR hb hC1)
      | (go_at_call 37; refine (HTR.out _ _ HX3.out).mono ?_; rintro e W4 ⟨Pt, rfl, hob, hb⟩; have HT4 := Aside0.mk hob; have HB4 := Aside0.mk (below_step HB3.out hb); have HL4 := Aside0.mk (Kd.C_below HL3.out hb); clear hob hb)
      | (go_at_call 44; refine (HST.out _ _ _ HL4.out hc1).mono ?_; rintro e W5 ⟨vp, rfl, hR, hb⟩; have HT5 := Aside0.mk (OB.below hb HT4.out); have HB5 := Aside0.mk (below_step HB4.out hb); have HL5 := Aside0.mk (Kd.C_below HL4.out hb); obtain ⟨A2, c2, rfl⟩ := Kd.R_slice hR; obtain ⟨_, hc2, hC2⟩ := Kd.R_reads' hR; have HP5 := Aside0.mk hC2; clear hR hb hC2)
      | (go_at_call 38; refine (HTL.out _ _ HT5.out).mono ?_; rintro e W6 ⟨rfl, hd⟩; have HB6 := Aside0.mk (hd.below); clear hd))
    have HT6 := Aside0.mk (OB.below HB6.out HT5.out)
    have HL6 := Aside0.mk (Kd.C_below HL5.out HB6.out)
    have HP6 := Aside0.mk (Kd.C_below HP5.out HB6.out)
    have HBA := Aside0.mk (below_step HB5.out HB6.out)
    clear HT5 HL5 HP5 HB5 HT4 HL4 HB4 HX3 HL3 HB3 HX2 HB2 HB1 HB6 HC HFEW HNEW HRN HTR HST HTL
    go_loopg [11] (paths lw).length (fun kx v W => ∃ (i : Nat), v = .int .i64 i ∧ i ≤ (paths lw).length ∧ (paths lw).length - i ≤ kx ∧ Aside0 (Below W6.heap.size W6 W))
    case atStart => exact ⟨0, rfl, Nat.zero_le _, by omega, ⟨Below.refl _ _⟩⟩
    case round =>
      obtain ⟨i, rfl, hi, hix, HB⟩ := hrel
      have HTr := Aside0.mk (OB.below HB.out HT6.out)
      have HLr := Aside0.mk (Kd.C_below HL6.out HB.out)
      have HPr := Aside0.mk (Kd.C_below HP6.out HB.out)
      by_cases hlt : i < (paths lw).length
      · obtain ⟨n, hn⟩ : ∃ n, (trN lw)[i]? = some n := ⟨_, List.getElem?_eq_getElem (by rw [← paths_length]; exact hlt)⟩
        have hsrt := HSRT.out
        have hz := HOKT.out.2.2.2
        have hnx := next_is hsrt hz hn (UInt8.ofNat cc)
        rw [UInt8.toNat_ofNat', show cc % 2 ^ 8 = cc by omega] at hnx
        have hen := ends_is hsrt hn
        have hof := own_find hsrt hn
        have hpa := path_val hsrt hz hn
        have hdp := depth_is hsrt hn
        have hby := bytes_val hsrt hz hn
        have hrb := rbF_is hsrt hn
        obtain ⟨sP, hsP⟩ : ∃ s, strP n.path = s := ⟨_, rfl⟩
        have hpi := paths_at hn
        have hsz : sP.size = n.path.length := by rw [← hsP, strP_size]
        have hwant : idxP lw (n.path ++ [UInt8.ofNat cc]) = findB (sP ++ ⟨#[UInt8.ofNat cc]⟩) (paths lw) 0 := by unfold idxP; rw [strP_snoc, hsP]
        rw [hsP] at hof hpa hrb hpi
        rw [hwant] at hnx
        rw [← hsz] at hdp
        have hs20 : sP.size ≤ 20 := by rw [← hpi]; exact HPS.out _ (getD_mem _ _ _ hlt)
        obtain ⟨kf, hkf⟩ := Ev.all (rfind16_ev (paths lw) (sP ++ ⟨#[UInt8.ofNat cc]⟩) (by omega))
        obtain ⟨wt, hwt⟩ : ∃ z, findB (sP ++ ⟨#[UInt8.ofNat cc]⟩) (paths lw) 0 = z := ⟨_, rfl⟩
        rw [hwt] at hnx hkf
        have hF1 := fun (W : World) (h : Kd.C Kd.string W A2 (paths lw).length (paths lw)) => juratref16_Find.calls kf A2 c2 (paths lw) (sP ++ ⟨#[UInt8.ofNat cc]⟩) wt W h hc2 hkf
        have HF1 := Aside0.mk hF1
        obtain ⟨ad, hA, hx⟩ := Kd.at_string HPr.out (i : Int) (by omega) (by omega)
        have hx' : wr.cell? (ad.add i) = some (.string ((paths lw).getD i ByteArray.empty)) := hx
        rw [hpi] at hx'
        obtain rfl := hA
        clear hF1 hkf hx hwant
        obtain ⟨nx, ok, hnx2⟩ : ∃ nx ok, (if wt ≥ 0 then (wt, true) else ((0 : Int), false)) = (nx, ok) := ⟨_, _, rfl⟩
        rw [hnx2] at hnx
        have hNx := fun (W : World) (h : OB K93 W Pt (some (trS lw))) => trie_Trie_Next.calls Pt (some (trS lw)) (i : Int) (cc : Int) nx ok W h hnx
        have HNX := Aside0.mk hNx
        have HWT := Aside0.mk hnx2
        clear hNx hnx hnx2 hwt
        have hcat : ¬ 9223372036854775807 < sP.size + 1 := by omega
        have HEN := Aside0.mk hen
        have HOF := Aside0.mk hof
        have HPA := Aside0.mk hpa
        have HDP := Aside0.mk hdp
        have HBY := Aside0.mk hby
        have HRB := Aside0.mk hrb
        have HPI := Aside0.mk hpi
        have HNN := Aside0.mk hn
        clear hsz hen hof hpa hdp hby hrb hpi hsP hn
        have hli : (i : Int) < ((paths lw).length : Int) := by omega
        go_upto_region 13 with (go_at_call 41; refine (HNX.out _ HTr.out).mono ?_; rintro e W7 ⟨rfl, ⟨q7, rfl⟩⟩)
        go_cut [14] (fun v wx => v = .int .i64 wt ∧ Below W6.heap.size W6 wx)
        case first =>
          have HB7 := Aside0.mk (pw_below_drewN HB.out q7)
          have hx7 : (wr.drewN q7).cell? (ad.add i) = some (.string sP) := hx'
          clear hx'
          generalize wr.drewN q7 = W7 at HB7 hx7 ⊢
          have hx8 : (W7.alloc (.cells #[.int .u8 cc] 5 (0, 0))).cell? (ad.add i) = some (.string sP) := pw_cell_below ((Below.refl _ _).alloc (Nat.le_refl _) _) hx7
          have hx9 : (W7.alloc (.cells #[.int .u8 cc] 5 (0, 0))).drew.cell? (ad.add i) = some (.string sP) := hx8
          have hlit : (Kd.int .u8).R 5 (W7.alloc (.cells #[.int .u8 cc] 5 (0, 0))) W7.heap.size (fun _ => True) (.slice (some ⟨W7.heap.size, 0, none⟩) 1 1) [(cc : Int)] :=
            Kd.R_of_own (enc := Value.int .u8) ⟨rfl, .inr ⟨W7.heap.size, 1, _, rfl, Nat.le_refl _, heap_alloc_new _ _, Nat.le_refl _, by decide, rfl, rfl⟩⟩ (fun _ _ => trivial)
          have hcv := Kd.C_string (P := Try.prog) (src := 66) (dst := 9) (c := 1) Try.underlying66 Try.underlying5 Try.underlying9 (Kd.R_reads' hlit).2.2
          have hcv2 := Kd.C_string (P := Try.prog) (src := 66) (dst := 9) (c := 1) Try.underlying66 Try.underlying5 Try.underlying9 (Kd.R_reads' (Kd.R_drew hlit)).2.2
          have hsn : strOfNums [(cc : Int)] = ⟨#[UInt8.ofNat cc]⟩ := rfl
          rw [hsn] at hcv hcv2
          simp only [List.length_cons, List.length_nil, Nat.zero_add] at hcv hcv2
          clear hlit hsn
          have hB8 : Below W6.heap.size W6 (W7.alloc (.cells #[.int .u8 cc] 5 (0, 0))).drew := below_drew (Below.alloc HB7.out HB7.out.size _)
          have HB8 := Aside0.mk hB8
          clear hB8
          go_region_law ((go_simp; (first | refine (HF1.out _ (Kd.C_below HP6.out HB8.out)).mono ?_ | (go_at_call 45; refine (HF1.out _ (Kd.C_below HP6.out HB8.out)).mono ?_)); rintro e W9 ⟨rfl, hd⟩; have HB9 := Aside0.mk (below_step HB8.out hd.below); clear hd))
          all_goals
            go_wp2
            go_meet
            case rel => exact ⟨rfl, HB9.out⟩
        case rest =>
          obtain ⟨rfl, hBc⟩ := hcut
          have HBc := Aside0.mk hBc
          clear hBc hx' HTr HLr HPr
          -- what is told of the state
          have hHT := fun (W : World) (h : Below W6.heap.size W6 W) => OB.below h HT6.out
          have hHL := fun (W : World) (h : Below W6.heap.size W6 W) => Kd.C_below HL6.out h
          have hHP := fun (W : World) (h : Below W6.heap.size W6 W) => Kd.C_below HP6.out h
          obtain ⟨id, is, hid⟩ : ∃ id is, (if n.own lw = true then ((n.lo : Int), true) else (0, false)) = (id, is) := ⟨_, _, rfl⟩
          have hen := HEN.out
          rw [hid] at hen
          have hEn := fun (W : World) (h : Below W6.heap.size W6 W) => trie_Trie_Ends.calls Pt (some (trS lw)) (i : Int) id is W (hHT W h) hen
          have HEnd := Aside0.mk hEn
          obtain ⟨fd, hfd⟩ : ∃ z, findB sP lw 0 = z := ⟨_, rfl⟩
          have hof := HOF.out
          rw [hfd] at hof
          obtain ⟨k1, hk1⟩ := Ev.all (rfind10_ev lw sP (by omega))
          rw [hfd] at hk1
          have hF10 := fun (W : World) (h : Below W6.heap.size W6 W) => juratref10_Find.calls k1 A1 c1 lw sP fd W (hHL W h) hc1 hk1
          have hPa := fun (W : World) (h : Below W6.heap.size W6 W) => trie_Trie_Path.calls Pt (some (trS lw)) (i : Int) sP W (hHT W h) HPA.out
          have hDe := fun (W : World) (h : Below W6.heap.size W6 W) => trie_Trie_Depth.calls Pt (some (trS lw)) (i : Int) (sP.size : Int) W (hHT W h) (by unfold trie_Trie_Depth.f; exact congrArg some HDP.out)
          obtain ⟨sB, hsB⟩ : ∃ s, strOfNums (byL lw n) = s := ⟨_, rfl⟩
          have hBy := fun (W : World) (h : Below W6.heap.size W6 W) => trie_Trie_Bytes.calls Pt (some (trS lw)) (i : Int) sB W (hHT W h) (by rw [← hsB]; exact HBY.out)
          obtain ⟨k2, hk2⟩ := Ev.all (rbytes16_ev (paths lw) (by omega) (fun s h => by have := HPS.out s h; omega) i hlt)
          rw [HPI.out, HRB.out, hsB] at hk2
          have hRB := fun (W : World) (h : Below W6.heap.size W6 W) => juratref16_Bytes.calls k2 (some ad) c2 (paths lw) (i : Int) sB W (hHP W h) hc2 hk2
          have HF10 := Aside0.mk hF10
          have HPa := Aside0.mk hPa
          have HDe := Aside0.mk hDe
          have HBy := Aside0.mk hBy
          have HRb := Aside0.mk hRB
          have HID := Aside0.mk hid
          have HFD := Aside0.mk hof
          clear hHT hHL hHP hEn hen hid hfd hof hk1 hF10 hPa hDe hsB hBy hk2 hRB
          go_upto_region 15 with (go_at_call 46; refine (HEnd.out _ HBc.out).mono ?_; rintro e W11 ⟨rfl, hd⟩; have HBd := Aside0.mk (below_step HBc.out hd.below); clear hd)
          clear HEnd HEN HPA HDP HBY HRB HOF HNX
          have hx11 := Kd.C_below HP6.out HBd.out
          obtain ⟨ad', hA', hxx⟩ := Kd.at_string hx11 (i : Int) (by omega) (by omega)
          obtain rfl : ad' = ad := by injection hA' with e; exact e.symm
          have hxi : W11.cell? (ad'.add i) = some (.string ((paths lw).getD i ByteArray.empty)) := hxx
          rw [HPI.out] at hxi
          clear hx11 hxx hA'
          have hBe := fun d os => below_step HBd.out (below_regrown W11 d os)
          have k0 := cell_regrown hxi
          have q1 := fun d os => Calls.regrown_of (HPa.out (grow (redrawn W11 d) os) (hBe d os))
          have q2 := fun d os => Calls.regrown_of ((HDe.out (grow (redrawn W11 d) os) (hBe d os)).mono fun _ _ ⟨h1, h2⟩ => ⟨h1, h2.below⟩)
          have q3 := fun d os => Calls.regrown_of ((HF10.out (grow (redrawn W11 d) os) (hBe d os)).mono fun _ _ ⟨h1, h2⟩ => ⟨h1, h2.below⟩)
          have q4 := fun d os => Calls.regrown_of (HBy.out (grow (redrawn W11 d) os) (hBe d os))
          have q5 := fun d os => Calls.regrown_of (HRb.out (grow (redrawn W11 d) os) (hBe d os))
          have Q1 := Aside0.mk q1
          have Q2 := Aside0.mk q2
          have Q3 := Aside0.mk q3
          have Q4 := Aside0.mk q4
          have Q5 := Aside0.mk q5
          clear q1 q2 q3 q4 q5 hBe hxi HPa HDe HF10 HBy HRb
          have hwt : (ok = true ∧ nx = wt ∧ wt ≥ 0) ∨ (ok = false ∧ nx = 0 ∧ wt < 0) := by
            have h := HWT.out
            by_cases h0 : wt ≥ 0
            · rw [if_pos h0] at h
              obtain ⟨e1, e2⟩ := Prod.mk.inj h
              exact .inl ⟨e2.symm, e1.symm, h0⟩
            · rw [if_neg h0] at h
              obtain ⟨e1, e2⟩ := Prod.mk.inj h
              exact .inr ⟨e2.symm, e1.symm, by omega⟩
          have hidc : (is = true ∧ id = (n.lo : Int) ∧ fd = (n.lo : Int) ∧ n.lo < lw.length ∧ lw.getD n.lo ByteArray.empty = sP) ∨ (is = false ∧ id = 0 ∧ fd = -1) := by
            have h := HID.out
            have h2 := HFD.out
            by_cases h0 : n.own lw = true
            · rw [if_pos h0] at h h2
              obtain ⟨e1, e2⟩ := Prod.mk.inj h
              obtain ⟨g1, g2⟩ := (own_is HSRT.out HNN.out).1 h0
              refine .inl ⟨e2.symm, e1.symm, h2, g1, LL_inj ?_⟩
              rw [g2, ← HPI.out, paths_at HNN.out, LL_strP]
            · rw [if_neg h0] at h h2
              obtain ⟨e1, e2⟩ := Prod.mk.inj h
              exact .inr ⟨e2.symm, e1.symm, h2⟩
          have HQ := Aside0.mk (show ∀ d os, Below W6.heap.size W6 (grow (redrawn W11 d) os) from fun d os => below_step HBd.out (below_regrown W11 d os))
          have HWT2 := Aside0.mk hwt
          have HID2 := Aside0.mk hidc
          clear hwt hidc HWT HID HFD
          have hA1 := Kd.C_below HL6.out HBd.out
          have HA1 := Aside0.mk hA1
          clear hA1
          simp only [List.append_eq, List.cons_append, List.nil_append]
          refine wp_region_quiet_below (by kernel_rfl) (lexB_of_tab (T := tab15) (by kernel_rfl) (by kernel_rfl) tab15_ok) ?_
          rcases HWT2.out with ⟨rfl, rfl, hw0⟩ | ⟨rfl, rfl, hw0⟩
          · obtain ⟨m, rfl⟩ : ∃ m : Nat, nx = m := ⟨nx.toNat, by omega⟩
            have b1 : decide ((0 : Int) ≤ (m : Int)) = true := decide_eq_true (by omega)
            rcases HID2.out with ⟨rfl, rfl, rfl, g1, g2⟩ | ⟨rfl, rfl, rfl⟩
            · obtain ⟨ad1, hA1, hx1⟩ := Kd.at_string HA1.out (n.lo : Int) (by omega) (by omega)
              have hx2 : W11.cell? (ad1.add n.lo) = some (.string (lw.getD n.lo ByteArray.empty)) := hx1
              obtain rfl := hA1
              rw [g2] at hx2
              have k1 := cell_regrown hx2
              have b3 : decide ((n.lo : Int) < 0) = false := decide_eq_false (by omega)
              have b4 : decide ((lw.length : Int) ≤ (n.lo : Int)) = false := decide_eq_false (by omega)
              have b5 : decide (lw.length ≤ n.lo) = false := decide_eq_false (by omega)
              have b6 : (n.lo : Int) < (lw.length : Int) := by omega
              have b7 : decide ((0 : Int) ≤ (n.lo : Int)) = true := decide_eq_true (by omega)
              clear HWT2 HID2 hw0 g1 g2 hx1 hx2 HA1
              generalize n.lo = lo at *
              repeat (go_big_quiet_step ((first | exact Q1.out _ _ | exact Q2.out _ _ | exact Q3.out _ _ | exact Q4.out _ _ | exact Q5.out _ _)))
              refine wpQuiet_nil ?_
              intro _ hw'
              obtain ⟨⟨dq, osq⟩, hw''⟩ := hw'
              subst hw''
              go_wp2
              go_roundg ((paths lw).length - (i + 1))
              case measure => omega
              case rel => exact ⟨i + 1, by go_num, by omega, Nat.le_refl _, ⟨HQ.out dq osq⟩⟩
            · have b2 : decide ((0 : Int) ≤ -1) = false := by decide
              clear HWT2 HID2 hw0 HA1
              repeat (go_big_quiet_step ((first | exact Q1.out _ _ | exact Q2.out _ _ | exact Q3.out _ _ | exact Q4.out _ _ | exact Q5.out _ _)))
              refine wpQuiet_nil ?_
              intro _ hw'
              obtain ⟨⟨dq, osq⟩, hw''⟩ := hw'
              subst hw''
              go_wp2
              go_roundg ((paths lw).length - (i + 1))
              case measure => omega
              case rel => exact ⟨i + 1, by go_num, by omega, Nat.le_refl _, ⟨HQ.out dq osq⟩⟩
          · have b1 : decide (0 ≤ wt) = false := decide_eq_false (by omega)
            rcases HID2.out with ⟨rfl, rfl, rfl, g1, g2⟩ | ⟨rfl, rfl, rfl⟩
            · obtain ⟨ad1, hA1, hx1⟩ := Kd.at_string HA1.out (n.lo : Int) (by omega) (by omega)
              have hx2 : W11.cell? (ad1.add n.lo) = some (.string (lw.getD n.lo ByteArray.empty)) := hx1
              obtain rfl := hA1
              rw [g2] at hx2
              have k1 := cell_regrown hx2
              have b3 : decide ((n.lo : Int) < 0) = false := decide_eq_false (by omega)
              have b4 : decide ((lw.length : Int) ≤ (n.lo : Int)) = false := decide_eq_false (by omega)
              have b5 : decide (lw.length ≤ n.lo) = false := decide_eq_false (by omega)
              have b6 : (n.lo : Int) < (lw.length : Int) := by omega
              have b7 : decide ((0 : Int) ≤ (n.lo : Int)) = true := decide_eq_true (by omega)
              clear HWT2 HID2 hw0 g1 g2 hx1 hx2 HA1
              generalize n.lo = lo at *
              repeat (go_big_quiet_step ((first | exact Q1.out _ _ | exact Q2.out _ _ | exact Q3.out _ _ | exact Q4.out _ _ | exact Q5.out _ _)))
              refine wpQuiet_nil ?_
              intro _ hw'
              obtain ⟨⟨dq, osq⟩, hw''⟩ := hw'
              subst hw''
              go_wp2
              go_roundg ((paths lw).length - (i + 1))
              case measure => omega
              case rel => exact ⟨i + 1, by go_num, by omega, Nat.le_refl _, ⟨HQ.out dq osq⟩⟩
            · have b2 : decide ((0 : Int) ≤ -1) = false := by decide
              clear HWT2 HID2 hw0 HA1
              repeat (go_big_quiet_step ((first | exact Q1.out _ _ | exact Q2.out _ _ | exact Q3.out _ _ | exact Q4.out _ _ | exact Q5.out _ _)))
              refine wpQuiet_nil ?_
              intro _ hw'
              obtain ⟨⟨dq, osq⟩, hw''⟩ := hw'
              subst hw''
              go_wp2
              go_roundg ((paths lw).length - (i + 1))
              case measure => omega
              case rel => exact ⟨i + 1, by go_num, by omega, Nat.le_refl _, ⟨HQ.out dq osq⟩⟩
      · obtain rfl : i = (paths lw).length := by omega
        go_wp2_with (go_at_call 36; refine (awake16_in _).mono ?_; rintro e w' ⟨rfl, hb⟩; have HBz := Aside0.mk (below_step (below_step HBA.out HB.out) hb); clear hb)
        go_ret
        exact ⟨rfl, HBz.out⟩
theorem juratlaw16_TrieTells.calls (A0 : Option Addr) (c0 : Nat) (l0 : List ByteArray) (a1 : Int) (r : Bool) (w : World) (hr0 : Kd.C Kd.string w A0 l0.length l0) (hc0 : l0.length ≤ c0) (h : juratlaw16_TrieTells.f l0 a1 = some r) :
    Calls Try.prog 8 #[.slice A0 l0.length c0, .int .u8 a1] w fun e w' => e = .returned (.bool r) ∧ Below w.heap.size w w' := by
  unfold juratlaw16_TrieTells.f at h
  by_cases g : (0 ≤ a1 ∧ a1 ≤ 255) ∧ l0.length * 16 ≤ 140737488351232
  rotate_left
  · rw [if_neg g] at h; cases h
  rw [if_pos g] at h
  obtain rfl := Option.some.inj h
  obtain ⟨cc, rfl⟩ : ∃ n : Nat, a1 = n := ⟨a1.toNat, by omega⟩
  exact tells_in A0 c0 l0 cc w hr0 hc0 (by omega) (by omega)

end Go.Proofs.Ytnpkbnfiadkgnaa.P

/- Proved: for all texts and every byte the law TrieTells of layer 16 answers true. No condition beyond the statement's own. -/
namespace Go.Proofs.Ytnpkbnfiadkgnaa.Pure
open Go Go.RowKit Go.Proofs.Ytnpkbnfiadkgnaa.P Go.Proofs.Ytnpkbnfiadkgnaa.Base
theorem TrieTells (l : List ByteArray) (c : Int) (hl : l.length * 16 ≤ 140737488351232) (_ : ∀ x ∈ l, x.size ≤ maxLen) (hc : (Lit.int .u8 c).wf = true) : juratlaw16_TrieTells.f l c = some true := if_pos ⟨⟨(wf8 hc).1, by have := (wf8 hc).2; omega⟩, hl⟩

end Go.Proofs.Ytnpkbnfiadkgnaa.Pure

/- How a law's arguments are opened: slices of texts and of numbers, as lists, with their sizes out of the row's weights. -/
namespace Go.Proofs.Ytnpkbnfiadkgnaa.RowS
open Go Go.ChangeShapes Go.WideShapes Go.RowKit Go.Proofs.YtnpkbnfiadkgnaaW.PrintWords

theorem slice_strings {H : Type} {enc : TypeId × Value → H} {P : Program} {W : World} {t e : TypeId} {a : Option Addr} {len cap : Nat} {d : DataW H} {ps : List MemPlace} {ts : List TypeId} {ds : List (DataW H)} {j : Nat}
    (hsz : (DataW.weightsEach P ts ds).all (· ≤ reachBytes) = true) (ht : ts[j]? = some t) (hd : ds[j]? = some d) (hu : P.underlying t = some (.slice e)) (he : P.underlying e = some .string) (hc : P.cellsOf e = 1) (hB : P.bytesOf e = 16)
    (h : DataW.Trod enc P W 0 (fun _ => true) true t (.slice a len cap) d ps) :
    ∃ l : List ByteArray, l.length = len ∧ len ≤ cap ∧ Kd.C Kd.string W a l.length l ∧ l.length * 16 ≤ 140737488351232 ∧ ∀ s ∈ l, s.size ≤ maxLen := by
  obtain ⟨fuel, hf⟩ := h
  rcases open_strings hu he hc hf with ⟨hcs, _⟩ | ⟨x, l, c, ss, hcs, _, hl, hm, hz, hx, hcell, hw⟩
  · simp [Value.cells] at hcs
    obtain ⟨rfl, rfl, rfl⟩ := hcs
    exact ⟨[], rfl, Nat.le_refl _, Kd.C_nil _ _, by simp, by simp⟩
  · simp [Value.cells] at hcs
    obtain ⟨rfl, rfl, rfl⟩ := hcs
    obtain ⟨hx, _⟩ := Prod.mk.inj hx
    subst hx
    have z := sized_slice hsz ht hd hu
    rw [hB] at z
    rw [if_pos rfl] at hz
    have hl2 : len ≤ ss.length := by omega
    have h1 : (strs (H := H) (ss.take len)).length + (strs (H := H) (ss.drop len)).length = ss.length := by
      simp [strs]
      omega
    rw [h1] at z
    have hlen : (ss.take len).length = len := by rw [List.length_take]; omega
    refine ⟨ss.take len, hlen, hl, Kd.C_of_reads (d := ByteArray.empty) (h1 := fun _ => rfl) ⟨rfl, by rw [hlen]; unfold maxLen at hm; omega, fun _ => ⟨x, rfl, fun i hi => ?_⟩⟩, ?_, fun s hs => hw s (List.mem_of_mem_take hs)⟩
    · rw [hlen] at hi
      rw [hcell i (by omega), List.getD_eq_getElem?_getD, List.getD_eq_getElem?_getD, List.getElem?_take_of_lt hi]
    · rw [hlen]
      exact Nat.le_trans (Nat.mul_le_mul_right _ hl2) z
theorem slice_ints {H : Type} {enc : TypeId × Value → H} {P : Program} {W : World} {t e : TypeId} {k : IntKind} {a : Option Addr} {len cap : Nat} {d : DataW H} {ps : List MemPlace} {ts : List TypeId} {ds : List (DataW H)} {j : Nat}
    (hsz : (DataW.weightsEach P ts ds).all (· ≤ reachBytes) = true) (ht : ts[j]? = some t) (hd : ds[j]? = some d) (hu : P.underlying t = some (.slice e)) (he : P.underlying e = some (.int k)) (hc : P.cellsOf e = 1) {B : Nat} (hB : P.bytesOf e = B)
    (h : DataW.Trod enc P W 0 (fun _ => true) true t (.slice a len cap) d ps) :
    ∃ l : List Int, l.length = len ∧ len ≤ cap ∧ Kd.C (Kd.int k) W a l.length l ∧ l.length ≤ maxLen ∧ l.length * B ≤ 140737488351232 ∧ ∀ n ∈ l, (Lit.int k n).wf = true := by
  have y := sized_ints hsz ht hd hu he hc hB h
  obtain ⟨fuel, hf⟩ := h
  rcases open_ints hu he hc hf with ⟨hcs, _⟩ | ⟨x, l, c, zs, hcs, _, hl, hm, hz, _, hcell, hw⟩
  · simp [Value.cells] at hcs
    obtain ⟨rfl, rfl, rfl⟩ := hcs
    exact ⟨[], rfl, Nat.le_refl _, Kd.C_nil _ _, by simp, by simp, by simp⟩
  · simp [Value.cells] at hcs
    obtain ⟨rfl, rfl, rfl⟩ := hcs
    rw [if_pos rfl] at hz
    have hlen : (zs.take len).length = len := by rw [List.length_take]; omega
    refine ⟨zs.take len, hlen, hl, Kd.C_of_reads (d := (0 : Int)) (h1 := fun _ => rfl) ⟨rfl, by rw [hlen]; unfold maxLen at hm; omega, fun _ => ⟨x, rfl, fun i hi => ?_⟩⟩, by rw [hlen]; omega, by rw [hlen]; exact y, fun s hs => hw s (List.mem_of_mem_take hs)⟩
    rw [hlen] at hi
    rw [hcell i (by omega), List.getD_eq_getElem?_getD, List.getD_eq_getElem?_getD, List.getElem?_take_of_lt hi]

end Go.Proofs.Ytnpkbnfiadkgnaa.RowS

/- The row of the law TrieTells, out of its plain statement and the walk; written for this claim by a program of this session (wip/mkrow.py). -/
namespace Go.Proofs.Ytnpkbnfiadkgnaa.trieTells
open Go.ChangeShapes Go.WideShapes Go.ChangeAt Go.RowKit
open Go.ChangeMaps (open_string shut_string)
set_option linter.unusedVariables false
theorem own : ownKnob Try.prog.godebug = none := by kernel_rfl
theorem laidOut : laidOutB Try.prog = true := by kernel_rfl
set_option maxRecDepth 100000 in
theorem lifted (os : Os) (started : os.Started) (H : Type) (enc : TypeId × Value → H) :
    ReturnsInHanded {} Try.checked os 8 .any (Rows.trieTellsSpec.pre6 enc Try.prog Try.f8 Rows.trieTellsRow.domain false) (Rows.trieTellsSpec.post enc Try.prog Try.f8 false true false false) := by
  refine returnsInHanded_of_change_sized (C := Try.checked) own started (by kernel_rfl) Try.func8
    (ChangeSpec.witness6 (enc := enc) (C := Try.checked) false ⟨#[], #[.slice none 0 0, .int .u8 0], []⟩ 8 (by kernel_rfl) (by kernel_rfl) (by kernel_rfl) (by kernel_rfl)) ?_
  intro W base args ds gs before hval0 hW hcnd hsz0 _
  have hsz : (DataW.weightsEach Try.prog (Try.f8.params.toList ++ Rows.trieTellsSpec.plain.varTypes Try.prog) (ds ++ gs)).all (· ≤ reachBytes) = true := hsz0
  have hval : ∀ (j : Nat) t v, Try.f8.params[j]? = some t → args[j]? = some v → Value.okWide Try.prog W .any base t v := hval0
  have hW' := hW
  obtain ⟨p, q, hA0, hV, rfl, hfz, hnd⟩ := hW
  have hA : DataW.TrodAll enc Try.prog W 0 (fun _ => true) true Try.f8.params.toList args.toList ds p := hA0
  rw [Try.params8] at hA hval hsz
  obtain ⟨v0, vs0, d0, ds0, p0, q0, hargs, rfl, rfl, h0, r0⟩ := trodAll_cons hA
  obtain ⟨v1, vs1, d1, ds1, p1, q1, rfl, rfl, rfl, h1, r1⟩ := trodAll_cons r0
  obtain ⟨rfl, rfl, rfl⟩ := trodAll_nil r1
  obtain rfl : args = #[v0, v1] := by cases args; simp_all
  obtain ⟨rfl, rfl⟩ := trodVars_none hV
  obtain ⟨a0, len0, cap0, rfl⟩ := okWide_slice Try.underlying22 (hval 0 22 v0 rfl rfl)
  have k0 := h0
  have lt0 : ∀ x ∈ p0, x.block < W.heap.size := by obtain ⟨m, hm⟩ := k0; exact DataW.trod_lt m _ _ _ hm
  obtain ⟨l0, hn0, hc0, hr0, y0, w0⟩ := RowS.slice_strings hsz (j := 0) (t := 22) rfl rfl Try.underlying22 Try.underlying9 (by kernel_rfl) (by kernel_rfl) h0
  subst hn0
  obtain ⟨a1, rfl, rfl, rfl, w1⟩ := open_int Try.underlying5 (hval 1 5 v1 rfl rfl) h1
  clear hA0 hval0 hsz0 hsz
  have hk := Pure.TrieTells l0 a1 y0 w0 w1
  refine (P.juratlaw16_TrieTells.calls a0 cap0 l0 a1 true W hr0 hc0 hk).mono fun e W' ⟨he, bel⟩ => ?_
  subst he
  exact ⟨_, rfl, _, _, _, [], _, [], hW', trodAll_mk1 (shut_bool Try.underlying4 _), (trodAll_cons_mk (Below.trod laidOut (by kernel_rfl) (of_decide_eq_true (by kernel_rfl)) k0 bel lt0) (trodAll_cons_mk (shut_int Try.underlying5 w1) trodAll_mk0)), rfl, bel.frame _, fun h => by cases h⟩
theorem over : Rows.trieTellsRow.holds Try.pinned (OpenSpec.ofChange Rows.trieTellsSpec) :=
  OpenClaim.holds_of_wide 8 Try.f8 rfl rfl rfl rfl rfl rfl rfl ⟨rfl, rfl, rfl, rfl, rfl⟩ rfl rfl rfl rfl rfl (by kernel_rfl) Try.func8 (by kernel_rfl)
    (of_decide_eq_true (by kernel_rfl)) (by unfold Func.isWrapper; first | (rw [if_pos (by decide +kernel)]; kernel_rfl) | (rw [if_neg (by decide +kernel)]; exact ⟨rfl, rfl⟩))
    (fun os started H enc _ => lifted os started H enc)
theorem proved : Rows.TrieTellsSaid := over
#print axioms proved
end Go.Proofs.Ytnpkbnfiadkgnaa.trieTells
namespace Go.Proofs.Ytnpkbnfiadkgnaa
/-- The row, under a short name, for the claim. -/
theorem trieTells_holds : Rows.TrieTellsSaid := trieTells.proved
end Go.Proofs.Ytnpkbnfiadkgnaa
