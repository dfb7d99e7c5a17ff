/- A trie in memory, told by its states; no condition. -/
import Derived.Test.YtbkcjeopcjghgaaFlat
import Derived.Test.YtbkcjeopcjghgaaP16
namespace Go.Proofs.Ytbkcjeopcjghgaa.P
open Go Go.RowKit Go.Proofs.YtbkcjeopcjghgaaW.PrintWords

def stF : Flat StD where
  n := 6
  enc := fun x => [.int .i64 x.above, .int .u8 x.by_, .int .i64 x.depth, .int .i64 x.id, .int .i64 x.first, .int .i64 x.many]
  len := fun _ => rfl
  one := fun x u hu => by
    simp only [List.mem_cons, List.not_mem_nil, or_false] at hu
    rcases hu with rfl | rfl | rfl | rfl | rfl | rfl <;> rfl
def jbF : Flat JobD where
  n := 3
  enc := fun x => [.int .i64 x.state, .int .i64 x.from_, .int .i64 x.to_]
  len := fun _ => rfl
  one := fun x u hu => by
    simp only [List.mem_cons, List.not_mem_nil, or_false] at hu
    rcases hu with rfl | rfl | rfl <;> rfl
abbrev TrieD := List StD
abbrev D97 := TrieD
def K97 : OBK TrieD where
  R := fun w a d => ∃ b A c, a = ⟨b, 0, none⟩ ∧ w.cell? ⟨b, 0, none⟩ = some (.slice A d.length c) ∧ d.length ≤ c ∧ stF.kd.C w A d.length d
  below := by
    rintro w w1 a d h ⟨b, A, c, rfl, h0, hl, hc⟩
    exact ⟨b, A, c, rfl, cell_stays h h0, hl, Kd.C_below hc h⟩
end Go.Proofs.Ytbkcjeopcjghgaa.P
