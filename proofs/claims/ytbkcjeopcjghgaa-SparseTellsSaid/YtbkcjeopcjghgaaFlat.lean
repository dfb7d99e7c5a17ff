/- Rows of records whose cells are plain values: read, and written cell by cell; no condition beyond those in each statement. -/
import Derived.Test.YtbkcjeopcjghgaaOb
import Derived.Test.YtbkcjeopcjghgaaWQPut
import Derived.Test.YtbkcjeopcjghgaaWRepsOne
namespace Go.Proofs.Ytbkcjeopcjghgaa.P
open Go Go.RowKit Go.Proofs.YtbkcjeopcjghgaaW.PrintWords
set_option linter.unusedVariables false

/-- How records lie in cells. -/
structure Flat (α : Type) where
  n : Nat
  enc : α → List Value
  len : ∀ x, (enc x).length = n
  one : ∀ x, ∀ u ∈ enc x, u.oneCell' = true
def Flat.kd {α : Type} (f : Flat α) : Kd α where
  sz := f.n
  E := []
  K := fun _ x cs => cs = f.enc x
  M := fun _ _ _ x cs => cs = f.enc x
  K_len := by rintro w x cs rfl; exact f.len x
  K_one := by rintro w x cs rfl; exact f.one x
  K_below := fun _ h => h
  K_of_M := fun h => h
  M_mono := fun _ h => h
  M_bound := fun h => h
  M_move := fun _ h => h
  M_lower := fun _ h => h
section
variable {α : Type} {f : Flat α} {e base g n cap : Nat} {ok : Nat → Prop} {W : World} {xs : List α}
theorem flat_at (z : α) (h : f.kd.R e W base ok (.slice (some ⟨g, 0, none⟩) n cap) xs) {i j : Nat} {u : Value} (hi : i < n) (hu : (f.enc (xs.getD i z))[j]? = some u) : W.cell? ⟨g, i * f.n + j, none⟩ = some u := by
  obtain ⟨c, _, hM, hc, _⟩ := Kd.R_elem h z (i : Int) (by omega) (by omega)
  have hM : c = f.enc (xs.getD i z) := hM
  exact hc j u (by rw [hM]; exact hu)
theorem flat_frozen {v : Value} (h : f.kd.R e W base ok v xs) (hv : v.ownBlock = some g) (k : Nat) : W.frozen? ⟨g, k, none⟩ = false := by
  obtain ⟨cells, hc⟩ := Kd.R_typed h g hv
  exact blk_frozen hc k
theorem flat_put (z : α) (h : f.kd.R e W base ok (.slice (some ⟨g, 0, none⟩) n cap) xs) {i j : Nat} {u : Value} {x' : α} (hi : i < n) (hj : j < f.n) (hx : f.enc x' = (f.enc (xs.getD i z)).set j u) :
    f.kd.R e (W.setCell ⟨g, i * f.n + j, none⟩ u) base ok (.slice (some ⟨g, 0, none⟩) n cap) (xs.set i x') := by
  obtain ⟨c, hl, hM, hc, _⟩ := Kd.R_elem h z (i : Int) (by omega) (by omega)
  have hM : c = f.enc (xs.getD i z) := hM
  have hs : f.kd.sz = f.n := rfl
  have := (Kd.R_seg h (i : Int) (by omega) (by omega) hl hc (seg := [u]) (j := j) (by simp only [List.length_cons, List.length_nil]; omega) (x' := x') (okp := fun _ => False) (by
    show c.take j ++ [u] ++ c.drop (j + 1) = f.enc x'
    rw [hx, ← hM, List.set_eq_take_append_cons_drop, if_pos (by omega)]
    simp) (fun _ hk => hk.elim)).1
  exact this
theorem flat_C {A : Option Addr} {m : Nat} {w : World} (z : α) (h : f.kd.C w A m xs) (i : Nat) (hi : i < m) : ∃ ad, A = some ad ∧ ∀ j u, (f.enc (xs.getD i z))[j]? = some u → w.cell? (ad.add (i * f.n + j)) = some u := by
  obtain ⟨ad, c, e, _, hK, hc⟩ := Kd.C_get h z (i : Int) (by omega) (by omega)
  have hK : c = f.enc (xs.getD i z) := hK
  exact ⟨ad, e, fun j u hu => hc j u (by rw [hK]; exact hu)⟩
theorem flatQ_at (z : α) {o : Nat} (h : f.kd.Q e W base ok (.slice (some ⟨g, o, none⟩) n cap) xs) {i j : Nat} {u : Value} (hi : i < n) (hu : (f.enc (xs.getD i z))[j]? = some u) : W.cell? ⟨g, o + i * f.n + j, none⟩ = some u := by
  obtain ⟨c, _, hM, hc, _⟩ := Kd.Q_elem h z (i : Int) (by omega) (by omega)
  have hM : c = f.enc (xs.getD i z) := hM
  exact hc j u (by rw [hM]; exact hu)
end
theorem flat_of_reps {α : Type} (f : Flat α) : ∀ (l : List α) (cs : List Value), Reps (fun x c => c = f.enc x) f.n l cs → cs = l.flatMap f.enc
  | [], cs, h => by have := h.1; simp at this; rw [this]; rfl
  | x :: l, cs, h => by
    have h0 := h.2 0 x rfl
    rw [Nat.zero_mul, List.drop_zero] at h0
    have h1 : Reps (fun x c => c = f.enc x) f.n l (cs.drop f.n) := by
      refine ⟨by rw [List.length_drop, h.1, List.length_cons, Nat.succ_mul]; omega, fun j p hj => ?_⟩
      have := h.2 (j + 1) p (by rw [List.getElem?_cons_succ]; exact hj)
      rw [List.drop_drop, show f.n + j * f.n = (j + 1) * f.n by rw [Nat.succ_mul]; omega]
      exact this
    rw [List.flatMap_cons, ← flat_of_reps f l _ h1, ← h0, List.take_append_drop]
theorem flat_reps {α : Type} (f : Flat α) : ∀ (l : List α), Reps (fun x c => c = f.enc x) f.n l (l.flatMap f.enc)
  | [] => Reps.none _ _
  | x :: l => Reps.front rfl (f.len x) (flat_reps f l) rfl
theorem flat_own {α : Type} {f : Flat α} {e base : Nat} {ok : Nat → Prop} {w : World} {v : Value} {l : List α} (h : f.kd.R e w base ok v l) : w.ownsRow base e f.n v l.length (l.flatMap f.enc) := by
  obtain ⟨_, inner, ho, hr⟩ := h
  rw [← flat_of_reps f l inner hr]
  exact ho
theorem flat_R {α : Type} {f : Flat α} {e base : Nat} {ok : Nat → Prop} {w : World} {v : Value} {l : List α} (h : w.ownsRow base e f.n v l.length (l.flatMap f.enc)) (hok : ∀ k, v.ownBlock = some k → ok k) : f.kd.R e w base ok v l :=
  ⟨hok, l.flatMap f.enc, h, flat_reps f l⟩
end Go.Proofs.Ytbkcjeopcjghgaa.P
