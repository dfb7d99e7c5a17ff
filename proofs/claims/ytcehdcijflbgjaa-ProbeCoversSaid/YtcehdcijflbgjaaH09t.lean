/- Layer 9's first text that was there already: the walk, over the map that the call makes; of texts of whatever lengths below 2^62 bytes and at most 2^43 of them. -/
import Derived.Maps.OwnOps
import Derived.Maps.Views
import Derived.Test.YtcehdcijflbgjaaH09p
namespace Go.Proofs.Ytcehdcijflbgjaa.P
open Go Go.RowKit Go.Maps Go.WideMaps Go.Proofs.YtcehdcijflbgjaaW.PrintWords Go.Proofs.Ytcehdcijflbgjaa.Base
set_option linter.unusedVariables false

/-- The first one that was there already, i of them being behind. -/
def twB : List ByteArray → List ByteArray → Nat → Int
  | _, [], _ => -1
  | seen, x :: l, i => if inB x seen = true then (i : Int) else twB (seen ++ [x]) l (i + 1)
theorem lawT : Keyed Try.prog 9 := string_keyed Try.underlying9
theorem zeroT (w : World) : (zeroValue 3).run Try.prog w = .ok (.int .i64 0) w := by kernel_rfl
theorem inB_snoc (s x : ByteArray) (l : List ByteArray) : inB s (l ++ [x]) = (inB s l || decide (x = s)) := by unfold inB; rw [List.any_append]; simp

def affix_Twice.f (l0 : List ByteArray) : Option (Int) := if sizedB l0 then some (twB [] l0 0) else none
set_option maxHeartbeats 4000000 in
set_option maxRecDepth 100000 in
theorem affix_Twice.calls (A0 : Option Addr) (c0 : Nat) (l0 : List ByteArray) (r : Int) (w : World) (hr0 : Kd.C Kd.string w A0 l0.length l0) (hc0 : l0.length ≤ c0) (h : affix_Twice.f l0 = some r) :
    Calls Try.prog 26 #[.slice A0 l0.length c0] w fun e w' => e = .returned (.int .i64 r) ∧ Below w.heap.size w w' := by
  unfold affix_Twice.f at h
  by_cases hs : sizedB l0
  rotate_left
  · rw [if_neg hs] at h; cases h
  rw [if_pos hs] at h
  have HR := Aside0.mk (Option.some.inj h)
  have HS := Aside0.mk hs
  have HC := Aside0.mk hr0
  have hsz : l0.length ≤ 8796093022208 := hs.1
  clear h hs hr0 hc0
  have hmm := @run_makeMap Try.prog
  have hB := Aside0.mk (Below.refl w.heap.size w)
  go_enter Try.func26, Try.ntmps26
  go_wp2
  go_loopg [9] l0.length (fun kx i wr => ∃ (k : Nat) (D : DataW Unit), i = .int .i64 k ∧ k ≤ l0.length ∧ l0.length - k ≤ kx ∧ Aside0 (wr.ownsMap Try.prog 9 (plainElem Try.prog 3) w.heap.size k D) ∧ Aside0 (IsMap D) ∧
      Aside0 (∀ s : ByteArray, D.atKey (.string (LL s)) (.lit (.int .i64 0)) = .lit (.int .i64 (if inB s (l0.take k) = true then 1 else 0))) ∧ Aside0 (twB (l0.take k) (l0.drop k) k = r) ∧ Aside0 (Below w.heap.size w wr))
  case atStart => exact ⟨0, .map [], rfl, Nat.zero_le _, by omega, ⟨World.ownsMap_made _ _ _ _⟩, ⟨isMap_empty⟩, ⟨fun s => by rw [List.take_zero]; rfl⟩, ⟨by rw [List.take_zero, List.drop_zero]; exact HR.out⟩, ⟨(Below.refl _ _).alloc (Nat.le_refl _) _⟩⟩
  case round =>
    clear HR hB
    obtain ⟨k, D, rfl, hk, hkx, HO, HM, HD, HR, HB⟩ := hrel
    by_cases hlt : k < l0.length
    · have hx : ∃ ad, A0 = some ad ∧ wr.cell? (ad.add k) = some (.string (l0.getD k ByteArray.empty)) := by
        obtain ⟨ad, e, hc⟩ := Kd.at_string HC.out (k : Int) (by omega) (by omega)
        refine ⟨ad, e, ?_⟩
        have hc' : w.cell? (ad.add k) = some (.string (l0.getD k ByteArray.empty)) := hc
        exact (HB.out.cell (World.block_lt_of_cell? w _ hc')).trans hc'
      obtain ⟨ad, rfl, hx⟩ := hx
      have hxs : (l0.getD k ByteArray.empty).size ≤ maxLen := by have := HS.out.2 _ (getD_mem l0 k ByteArray.empty hlt); unfold maxLen; omega
      have ht : l0.take (k + 1) = l0.take k ++ [l0.getD k ByteArray.empty] := by
        rw [List.take_succ_eq_append_getElem hlt, List.getD_eq_getElem?_getD, List.getElem?_eq_getElem hlt]; rfl
      have hR := HR.out
      rw [getD_drop l0 k ByteArray.empty hlt] at hR
      generalize hs : l0.getD k ByteArray.empty = s at hx hxs ht hR
      have HT := Aside0.mk ht
      clear hs ht HR
      have hkey : keyOf Try.prog 9 (.string s) = some (.string (LL s)) := keyOf_string_mk Try.underlying9 hxs
      have C1 : ∀ (x c : Int), (D.put (.string (LL s)) (.lit (.int .i64 x))).atKey (.string (LL s)) (.lit (.int .i64 0)) = .lit (.int .i64 c) → c = x := fun x c hat => by
        rw [atKey_put_same HM.out (show WideAt.IsKeyLit (.string (LL s)) from trivial)] at hat
        injection hat with hat
        injection hat with _ hat
        exact hat.symm
      cases hin : inB s (l0.take k) with
      | true =>
        have C0 : ∀ c : Int, D.atKey (.string (LL s)) (.lit (.int .i64 0)) = .lit (.int .i64 c) → c = 1 := fun c hat => by
          rw [HD.out s, hin] at hat
          injection hat with hat
          injection hat with _ hat
          exact hat.symm
        simp only [twB] at hR
        rw [if_pos hin] at hR
        have HR := Aside0.mk hR
        clear hR hin
        go_wp2_with (first
          | (at_lookup; refine wpList_lookup_own_int _ rfl _ _ 78 rfl 9 3 .i64 lawT Try.underlying78 Try.underlying3 (zeroT _) w.heap.size k _ rfl HO.out _ _ rfl hkey ?_; intro c hat hwc; obtain rfl := C0 _ hat; clear hat hwc)
          | (at_mapUpdate; refine wpList_mapUpdate_own _ rfl _ _ _ 78 rfl 9 3 lawT Try.underlying78 _ w.heap.size k _ rfl HO.out (by unfold maxLen; omega) _ _ _ rfl rfl hkey _ [] (plainElem_int Try.underlying3 (by first | exact wrap64_wf _ | decide)) ?_; intro w1 hown1 hgrow1; have HO1 := Aside0.mk hown1; have HG1 := Aside0.mk hgrow1; clear hown1 hgrow1)
          | (at_lookup; refine wpList_lookup_own_int _ rfl _ _ 78 rfl 9 3 .i64 lawT Try.underlying78 Try.underlying3 (zeroT _) w.heap.size (k + 1) _ rfl HO1.out _ _ rfl hkey ?_; intro c hat hwc; obtain rfl := C1 _ _ hat; clear hat hwc)
          | go_in)
        go_ret
        exact ⟨by rw [← HR.out]; rfl, HB.out.grown HG1.out HB.out.size (fun j hj => by cases hj; exact Nat.le_refl _)⟩
      | false =>
        have C0 : ∀ c : Int, D.atKey (.string (LL s)) (.lit (.int .i64 0)) = .lit (.int .i64 c) → c = 0 := fun c hat => by
          rw [HD.out s, hin] at hat
          injection hat with hat
          injection hat with _ hat
          exact hat.symm
        have HD1 : ∀ x : ByteArray, (D.put (.string (LL s)) (.lit (.int .i64 1))).atKey (.string (LL x)) (.lit (.int .i64 0)) = .lit (.int .i64 (if inB x (l0.take (k + 1)) = true then 1 else 0)) := fun x => by
          rw [HT.out, inB_snoc]
          by_cases hxs : x = s
          · subst hxs
            rw [atKey_put_same HM.out (show WideAt.IsKeyLit (.string (LL x)) from trivial)]
            simp
          · rw [atKey_put_other (fun e => hxs (LL_inj (by injection e))), HD.out x, decide_eq_false (fun e => hxs e.symm), Bool.or_false]
        have HD2 := Aside0.mk HD1
        simp only [twB] at hR
        rw [if_neg (by rw [hin]; simp), ← HT.out] at hR
        have HR := Aside0.mk hR
        clear hR hin HD1
        go_wp2_with (first
          | (at_lookup; refine wpList_lookup_own_int _ rfl _ _ 78 rfl 9 3 .i64 lawT Try.underlying78 Try.underlying3 (zeroT _) w.heap.size k _ rfl HO.out _ _ rfl hkey ?_; intro c hat hwc; obtain rfl := C0 _ hat; clear hat hwc)
          | (at_mapUpdate; refine wpList_mapUpdate_own _ rfl _ _ _ 78 rfl 9 3 lawT Try.underlying78 _ w.heap.size k _ rfl HO.out (by unfold maxLen; omega) _ _ _ rfl rfl hkey _ [] (plainElem_int Try.underlying3 (by first | exact wrap64_wf _ | decide)) ?_; intro w1 hown1 hgrow1; have HO1 := Aside0.mk hown1; have HG1 := Aside0.mk hgrow1; clear hown1 hgrow1)
          | (at_lookup; refine wpList_lookup_own_int _ rfl _ _ 78 rfl 9 3 .i64 lawT Try.underlying78 Try.underlying3 (zeroT _) w.heap.size (k + 1) _ rfl HO1.out _ _ rfl hkey ?_; intro c hat hwc; obtain rfl := C1 _ _ hat; clear hat hwc)
          | go_in)
        go_roundg (l0.length - (k + 1))
        case measure => omega
        case rel => exact ⟨k + 1, _, by go_num, by omega, Nat.le_refl _, HO1, ⟨HM.out.put _ _⟩, HD2, HR, ⟨HB.out.grown HG1.out HB.out.size (fun j hj => by cases hj; exact Nat.le_refl _)⟩⟩
    · obtain rfl : k = l0.length := by omega
      have hR := HR.out
      rw [List.drop_length] at hR
      simp only [twB] at hR
      subst hR
      clear HR
      go_wp2
      go_ret
      exact ⟨rfl, HB.out⟩

end Go.Proofs.Ytcehdcijflbgjaa.P
