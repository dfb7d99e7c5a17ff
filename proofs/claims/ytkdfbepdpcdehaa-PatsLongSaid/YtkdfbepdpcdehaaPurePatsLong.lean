/- Proved: for every length and number and every text the law PatsLong of layer 10 answers true. No condition beyond the statement's own. -/
import Derived.Test.YtkdfbepdpcdehaaN10
import Derived.Test.YtkdfbepdpcdehaaPx5
namespace Go.Proofs.Ytkdfbepdpcdehaa.Pure
open Go Go.RowKit Go.Proofs.Ytkdfbepdpcdehaa.P Go.Proofs.YtkdfbepdpcdehaaW.PrintWords Go.Proofs.YtkdfbepdpcdehaaW.PrintLast Go.Proofs.Ytkdfbepdpcdehaa.Base
set_option linter.unusedVariables false
set_option linter.unusedSimpArgs false

theorem and3 (x : Int) : 0 ≤ Go.bits .and .i64 x 3 ∧ Go.bits .and .i64 x 3 ≤ 3 := by
  have h : Go.bits .and .i64 x 3 = IntKind.i64.wrap (((BitVec.ofInt 64 x &&& BitVec.ofInt 64 3).toNat : Int)) := rfl
  have h2 : (BitVec.ofInt 64 x &&& BitVec.ofInt 64 3).toNat ≤ 3 := by rw [BitVec.toNat_and]; exact Nat.le_trans Nat.and_le_right (by decide)
  rw [h, i64_w, wrap_id (by omega) (by omega)]
  omega
theorem long_j0 (n : Int) : juratlaw10_PatsLong.j0 1 n false = some true := by
  simp only [juratlaw10_PatsLong.j0]
  rw [if_neg (by simp)]
  obtain ⟨b0, b1⟩ := and3 n
  rw [wrap_id (by omega) (by omega)]
  obtain ⟨m, hm⟩ : ∃ m : Nat, 65533 + Go.bits .and .i64 n 3 = (m : Int) := ⟨(65533 + Go.bits .and .i64 n 3).toNat, by omega⟩
  have h0 : 65533 ≤ m ∧ m ≤ 65536 := by omega
  rw [hm, if_pos (by omega), Int.toNat_natCast, if_pos (by omega)]
  obtain ⟨t, ht⟩ : ∃ t, strOfNums (List.replicate m 0) = t := ⟨_, rfl⟩
  have hz : t.size = m := by rw [← ht, strOfNums_size, List.length_replicate]
  rw [ht]
  clear hm ht b0 b1
  by_cases h1 : m > 65535
  · have hb : badB [t] = 5 := by
      have : chkB t = 5 := by unfold chkB; rw [if_neg (by omega), if_pos (by omega)]
      show (if chkB t = 0 then badB [] else chkB t) = 5
      rw [this, if_neg (by omega)]
    have hn : pats_New.f [t] = some (none, 5) := by
      unfold pats_New.f
      rw [if_neg (by simp), if_neg (by simp), hb, if_pos (by decide)]
    rw [hn]
    simp only [Option.bind_some]
    rw [if_pos (by omega), if_pos (show (none : Option SetD).isNone = true from rfl), if_pos trivial, awake10]
    rfl
  · have hb : badB [t] = 0 := by
      have : chkB t = 0 := by unfold chkB; rw [if_neg (by omega), if_neg (by omega)]
      show (if chkB t = 0 then badB [] else chkB t) = 0
      rw [this, if_pos rfl]
      rfl
    have ht : totalB 0 [t] = m := by show 0 + t.size = m; omega
    have hm : mostB 0 [t] = m := by show max 0 t.size = m; omega
    have hn : pats_New.f [t] = some (some (setB [t]), 0) := by
      unfold pats_New.f
      rw [if_neg (by simp), if_neg (by simp), hb, if_neg (by simp), ht, if_neg (by omega), if_neg (by simp [twB, inB]), hm]
      unfold setB
      rw [ht, hm]
      rfl
    have e1 : pats_Set_Most.f (some (setB [t])) = some (m : Int) := by show some ((mostB 0 [t] : Nat) : Int) = _; rw [hm]
    have e2 : pats_Set_Total.f (some (setB [t])) = some (m : Int) := by show some ((totalB 0 [t] : Nat) : Int) = _; rw [ht]
    rw [hn]
    simp only [Option.bind_some]
    rw [if_neg (by omega), if_pos trivial, e1]
    simp only [Option.bind_some]
    rw [if_pos trivial, e2]
    simp only [Option.bind_some]
    rw [if_pos trivial, awake10]
    rfl
theorem PatsLong : juratlaw10_PatsLong.Pure := by
  intro n i s _ _ _
  by_cases h1 : (s.size : Int) > 50
  · refine ⟨0, ?_⟩
    unfold juratlaw10_PatsLong.f
    rw [if_pos h1, awake10]
    rfl
  · refine ⟨1, ?_⟩
    unfold juratlaw10_PatsLong.f
    rw [if_neg h1]
    have ha : pats_Set_At.f none i = some (⟨#[]⟩, false) := by simp [pats_Set_At.f, setL]
    have hf : pats_Set_Find.f none s = some (0, false) := rfl
    have te : (⟨#[]⟩ : ByteArray).toList = ([] : List UInt8) := by rw [ByteArray.toList_eq]
    simp [ha, hf, te, pats_Set_Len.f, pats_Set_Least.f, pats_Set_Most.f, pats_Set_Total.f, pats_Set_List.f, long_j0]

end Go.Proofs.Ytkdfbepdpcdehaa.Pure
