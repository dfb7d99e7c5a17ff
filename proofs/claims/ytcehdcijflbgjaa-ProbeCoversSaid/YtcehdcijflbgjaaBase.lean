/- Plain lemmas on byte strings, lists and rounds that the proofs of this seat share; no condition, no program in sight. -/
import Derived.Test.YtcehdcijflbgjaaWWords
import Derived.Test.YtcehdcijflbgjaaWMore
namespace Go.Proofs.Ytcehdcijflbgjaa.Base
open Go Go.RowKit Go.Proofs.YtcehdcijflbgjaaW.PrintWords Go.Proofs.YtcehdcijflbgjaaW.PrintMore

/-- A string's bytes as a list. -/
abbrev LL (s : ByteArray) : List UInt8 := s.data.toList

theorem LL_length (s : ByteArray) : (LL s).length = s.size := by rw [Array.length_toList]; rfl
theorem LL_inj {s t : ByteArray} (h : LL s = LL t) : s = t := ByteArray.ext (Array.toList_inj.1 h)
theorem LL_iff {s t : ByteArray} : s = t ↔ LL s = LL t := ⟨fun h => by rw [h], LL_inj⟩
theorem toList_iff {s t : ByteArray} : s.toList = t.toList ↔ s = t := by
  rw [ByteArray.toList_eq, ByteArray.toList_eq]; exact ⟨LL_inj, fun h => by rw [h]⟩
theorem toList_nil {s : ByteArray} : s.toList = [] ↔ s.size = 0 := by
  rw [ByteArray.toList_eq, ← LL_length]; exact List.length_eq_zero_iff.symm
theorem LL_extract (s : ByteArray) (i j : Nat) : LL (s.extract i j) = ((LL s).take j).drop i := by
  unfold LL; rw [ByteArray.data_extract, Array.toList_extract, List.extract_eq_take_drop, List.drop_take]
theorem LL_append (s t : ByteArray) : LL (s ++ t) = LL s ++ LL t := by
  unfold LL; rw [ByteArray.data_append, Array.toList_append]
theorem LL_empty : LL ByteArray.empty = [] := rfl
theorem bt_eq (s : ByteArray) (i : Int) : bt s i = (((LL s).getD i.toNat 0).toNat : Int) := by
  unfold bt
  split
  · rename_i h
    rw [List.getD_eq_getElem?_getD, List.getElem?_eq_getElem (by rw [LL_length]; exact h)]
    rfl
  · rename_i h
    rw [List.getD_eq_getElem?_getD, List.getElem?_eq_none (by rw [LL_length]; omega)]
    rfl

theorem wrap_id {x : Int} (h0 : -9223372036854775808 ≤ x) (h1 : x ≤ 9223372036854775807) : wrap64 x = x := by unfold wrap64; omega
theorem wf64 {x : Int} (h : (Lit.int .i64 x).wf = true) : -9223372036854775808 ≤ x ∧ x ≤ 9223372036854775807 := by
  simp [Lit.wf, IntKind.min, IntKind.max, IntKind.signed, IntKind.bits] at h
  omega

theorem getD_mem {α : Type} (l : List α) (i : Nat) (z : α) (h : i < l.length) : l.getD i z ∈ l := by
  rw [List.getD_eq_getElem?_getD, List.getElem?_eq_getElem h]; exact List.getElem_mem h
theorem getD_drop {α : Type} (l : List α) (i : Nat) (z : α) (h : i < l.length) : l.drop i = l.getD i z :: l.drop (i + 1) := by
  rw [List.getD_eq_getElem?_getD, List.getElem?_eq_getElem h]; exact List.drop_eq_getElem_cons h
theorem extract_full (s : ByteArray) : s.extract 0 s.size = s := ByteArray.extract_zero_size
theorem extract_over (s : ByteArray) (i j : Nat) (h : s.size ≤ j) : s.extract i j = s.extract i s.size := by
  apply LL_inj; rw [LL_extract, LL_extract, List.take_of_length_le (by rw [LL_length]; exact h), List.take_of_length_le (by rw [LL_length]; exact Nat.le_refl _)]
theorem extract_nil (s : ByteArray) (i j : Nat) (h : s.size ≤ i ∨ j ≤ i) : s.extract i j = ByteArray.empty := by
  apply LL_inj; rw [LL_extract, LL_empty, List.drop_eq_nil_iff, List.length_take, LL_length]; omega
theorem extract2 (s : ByteArray) (i j a b : Nat) (h : i + b ≤ j) : (s.extract i j).extract a b = s.extract (i + a) (i + b) := by
  rw [ByteArray.extract_extract, Nat.min_eq_left h]
theorem extract_tail (s : ByteArray) (i a : Nat) : (s.extract i s.size).extract a (s.extract i s.size).size = s.extract (i + a) s.size := by
  apply LL_inj
  rw [LL_extract, LL_extract, LL_extract, ByteArray.size_extract, List.take_of_length_le (l := LL s) (by rw [LL_length]; exact Nat.le_refl _), List.take_of_length_le (by rw [List.length_drop, LL_length]; omega), List.drop_drop]

/-! rounds -/
theorem Ev.ret {α : Type} {g : Nat → Option α} {r : α} (h : ∀ k, g (k + 1) = some r) : Ev g r := ⟨1, fun k hk => by obtain ⟨m, rfl⟩ : ∃ m, k = m + 1 := ⟨k - 1, by omega⟩; exact h m⟩
theorem Ev.const {α : Type} {g : Nat → Option α} {r : α} (h : ∀ k, g k = some r) : Ev g r := ⟨0, fun k _ => h k⟩
theorem Ev.bind' {α β : Type} {g : Nat → Option α} {f : Nat → α → Option β} {a : α} {r : β} (h : Ev g a) (k : Ev (fun n => f n a) r) : Ev (fun n => (g n).bind fun x => f n x) r := Ev.bind h k
theorem Ev.all {α : Type} {g : Nat → Option α} {r : α} (h : Ev g r) : ∃ k, g k = some r := Ev.rounds h

end Go.Proofs.Ytcehdcijflbgjaa.Base
