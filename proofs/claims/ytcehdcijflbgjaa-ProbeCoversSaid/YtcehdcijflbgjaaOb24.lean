/- What finds evidence, in memory: a set, its list, buckets, shifts and pairs; no condition. -/
import Derived.Test.YtcehdcijflbgjaaOb10
import Derived.Test.YtcehdcijflbgjaaOb12
import Derived.Test.YtcehdcijflbgjaaOb13
import Derived.Test.YtcehdcijflbgjaaOb14
namespace Go.Proofs.Ytcehdcijflbgjaa.P
open Go Go.RowKit Go.Proofs.YtcehdcijflbgjaaW.PrintWords

structure ProbeD where
  x : Option SetD
  l : List ByteArray
  bk : Option BucketD
  sh : Option ShiftD
  pr : Option PairD
  deriving Inhabited
abbrev D65 := ProbeD
def K65 : OBK ProbeD where
  R := fun w a d => ∃ b Px A c Pb Ps Pp, a = ⟨b, 0, none⟩ ∧ w.heap[b]? = some (.cells #[.pointer Px, .slice A d.l.length c, .pointer Pb, .pointer Ps, .pointer Pp] 65 (0, 0)) ∧ d.l.length ≤ c ∧ Kd.C Kd.string w A d.l.length d.l ∧
    OB K55 w Px d.x ∧ OB K84 w Pb d.bk ∧ OB K86 w Ps d.sh ∧ OB K89 w Pp d.pr
  below := by
    rintro w w1 a d h ⟨b, Px, A, c, Pb, Ps, Pp, rfl, hb, hl, hc, h1, h2, h3, h4⟩
    exact ⟨b, Px, A, c, Pb, Ps, Pp, rfl, (h.block _ (Array.getElem?_eq_some_iff.1 hb).1).trans hb, hl, Kd.C_below hc h, OB.below h h1, OB.below h h2, OB.below h h3, OB.below h h4⟩
/-- A record that is written whole. -/
theorem rec_blk {W : World} {g : Nat} {a0 a1 a2 a3 : Value} (h : W.heap[g]? = some (.cells #[a0, a1, a2, a3] 43 (0, 0))) (b0 b1 b2 b3 : Value) :
    ((((W.setCell ⟨g, 0, none⟩ b0).setCell ⟨g, 1, none⟩ b1).setCell ⟨g, 2, none⟩ b2).setCell ⟨g, 3, none⟩ b3).heap[g]? = some (.cells #[b0, b1, b2, b3] 43 (0, 0)) :=
  blk_put (blk_put (blk_put (blk_put h 0 b0 rfl) 1 b1 rfl) 2 b2 rfl) 3 b3 rfl
theorem rec_below {w W : World} {g : Nat} (h : Below w.heap.size w W) (hg : w.heap.size ≤ g) (b0 b1 b2 b3 : Value) :
    Below w.heap.size w ((((W.setCell ⟨g, 0, none⟩ b0).setCell ⟨g, 1, none⟩ b1).setCell ⟨g, 2, none⟩ b2).setCell ⟨g, 3, none⟩ b3) :=
  below_set (below_set (below_set (below_set h hg) hg) hg) hg
theorem rec_R {α : Type} {d : Kd α} {e base : Nat} {W : World} {g : Nat} {v : Value} {xs : List α} (h : d.R e W base (fun k => k ≠ g) v xs) (b0 b1 b2 b3 : Value) :
    d.R e ((((W.setCell ⟨g, 0, none⟩ b0).setCell ⟨g, 1, none⟩ b1).setCell ⟨g, 2, none⟩ b2).setCell ⟨g, 3, none⟩ b3) base (fun _ => True) v xs :=
  Kd.R_mono (Kd.R_far (p := ⟨g, 3, none⟩) (Kd.R_far (p := ⟨g, 2, none⟩) (Kd.R_far (p := ⟨g, 1, none⟩) (Kd.R_far (p := ⟨g, 0, none⟩) h (fun _ hk => hk) b0) (fun _ hk => hk) b1) (fun _ hk => hk) b2) (fun _ hk => hk) b3) (fun _ _ => trivial)
end Go.Proofs.Ytcehdcijflbgjaa.P
