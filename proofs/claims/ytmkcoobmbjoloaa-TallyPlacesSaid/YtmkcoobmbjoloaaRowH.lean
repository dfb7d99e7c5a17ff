/- How a law's slice of hits is opened: as a list of records, with its size out of the row's weights. -/
import Derived.SizedLaws
import Derived.Deep.Slices
import Derived.Deep.Fields
import Derived.ChangeSame
import Derived.Test.YtmkcoobmbjoloaaRowS
import Derived.Test.YtmkcoobmbjoloaaPx0
namespace Go.Proofs.Ytmkcoobmbjoloaa.RowS
open Go Go.ChangeShapes Go.WideShapes Go.RowKit Go.Deep Go.Proofs.YtmkcoobmbjoloaaW.PrintWords Go.Proofs.Ytmkcoobmbjoloaa.P

/-- What lies at one place of a row of records of two numbers. -/
theorem two_ints {H : Type} {enc : TypeId × Value → H} {P : Program} {W : World} {base fuel : Nat} {spare : Nat → Bool} {held : Bool} {e : TypeId} {f0 f1 : Field} {k0 k1 : IntKind} {cs : Array Value} {y : DataW H × List MemPlace} {a : Addr}
    (he : P.underlying e = some (.struct #[f0, f1])) (hone : oneCellFields P #[f0, f1] = true) (h0 : P.underlying f0.type = some (.int k0)) (h1 : P.underlying f1.type = some (.int k1))
    (hc : W.cells? base a 2 = some cs.toList) (ht : DataW.trod enc P W base spare held fuel e cs.toList = some y) :
    ∃ x0 x1 : Int, W.cell? a = some (.int k0 x0) ∧ W.cell? (a.add 1) = some (.int k1 x1) ∧ (Lit.int k0 x0).wf = true ∧ (Lit.int k1 x1).wf = true := by
  obtain ⟨ys, n, _, hy, hlen, hyl, hf⟩ := DataW.trod_struct he ht
  obtain ⟨_, hcl, hat⟩ := World.cells?_some hc
  have one : ∀ (j : Nat) (f : Field) (k : IntKind), #[f0, f1][j]? = some f → P.underlying f.type = some (.int k) → ∃ x : Int, W.cell? (a.add j) = some (.int k x) ∧ (Lit.int k x).wf = true := by
    intro j f k hj hk
    obtain ⟨ho, hkk⟩ := hone_of hone j f hj
    have hjl : j < 2 := (Array.getElem?_eq_some_iff.1 hj).1
    have hcell := hat j hjl
    have g := hf j f hj
    rw [ho, hkk] at g
    have e1 : (cs.toList.drop j).take 1 = [cs.toList[j]'(by omega)] := by
      rw [List.drop_eq_getElem_cons (by omega)]
      rfl
    rw [e1] at g
    have hys : ys[j]? = some (ys[j]'(by rw [hyl]; exact hjl)) := List.getElem?_eq_getElem (by rw [hyl]; exact hjl)
    obtain ⟨x, ex, _, wx⟩ := DataW.trod_int hk (g.trans hys)
    refine ⟨x, ?_, wx⟩
    rw [hcell, List.getElem?_eq_getElem (by omega)]
    simpa using ex
  obtain ⟨x0, c0, w0⟩ := one 0 f0 k0 rfl h0
  obtain ⟨x1, c1, w1⟩ := one 1 f1 k1 rfl h1
  exact ⟨x0, x1, c0, c1, w0, w1⟩
theorem slice_hits {H : Type} {enc : TypeId × Value → H} {W : World} {t e : TypeId} {a : Option Addr} {len cap : Nat} {d : DataW H} {ps : List MemPlace} {ts : List TypeId} {ds : List (DataW H)} {j : Nat} {f0 f1 : Field}
    (hsz : (DataW.weightsEach Try.prog ts ds).all (· ≤ reachBytes) = true) (ht : ts[j]? = some t) (hd : ds[j]? = some d) (hu : Try.prog.underlying t = some (.slice e)) (he : Try.prog.underlying e = some (.struct #[f0, f1])) (hc : Try.prog.cellsOf e = 2) (hB : Try.prog.bytesOf e = 16)
    (h : DataW.Trod enc Try.prog W 0 (fun _ => true) true t (.slice a len cap) d ps) (hone : oneCellFields Try.prog #[f0, f1] = true := by kernel_rfl) (h0 : Try.prog.underlying f0.type = some (.int .i64) := by kernel_rfl) (h1 : Try.prog.underlying f1.type = some (.int .i64) := by kernel_rfl) :
    ∃ l : List S64, l.length = len ∧ len ≤ cap ∧ Kd.C k64 W a l.length l ∧ l.length ≤ maxLen ∧ l.length * 16 ≤ 140737488351232 ∧ ∀ x ∈ l, (Lit.int .i64 x.f0).wf = true ∧ (Lit.int .i64 x.f1).wf = true := by
  obtain ⟨fuel, hf⟩ := h
  rcases open_slice hu hf with ⟨hcs, _⟩ | ⟨x, n, c, m, fu, D, Pl, hcs, _, hl, hm, hmm, hx, hi⟩
  · simp [Value.cells] at hcs
    obtain ⟨rfl, rfl, rfl⟩ := hcs
    exact ⟨[], rfl, Nat.le_refl _, Kd.C_nil _ _, by simp, by simp, by simp⟩
  · simp [Value.cells] at hcs
    obtain ⟨rfl, rfl, rfl⟩ := hcs
    rw [if_pos rfl] at hmm
    rw [hc] at hx hi
    have hall : ∀ i, ∃ y : S64, i < len → W.cell? (x.add (i * 2)) = some (.int .i64 y.f0) ∧ W.cell? (x.add (i * 2 + 1)) = some (.int .i64 y.f1) ∧ (Lit.int .i64 y.f0).wf = true ∧ (Lit.int .i64 y.f1).wf = true := fun i => by
      by_cases hil : i < len
      · obtain ⟨cs', g1, g2⟩ := hi i (by omega)
        obtain ⟨x0, x1, c0, c1, w0, w1⟩ := two_ints (cs := cs'.toArray) he hone h0 h1 (by simpa using g1) (by simpa using g2)
        rw [Go.Deep.add_add] at c1
        exact ⟨⟨x0, x1⟩, fun _ => ⟨c0, c1, w0, w1⟩⟩
      · exact ⟨⟨0, 0⟩, fun h => absurd h hil⟩
    obtain ⟨f, hF⟩ := Classical.axiomOfChoice hall
    have hlen : ((List.range len).map f).length = len := by simp
    obtain ⟨hx1, _⟩ := Prod.mk.inj hx
    subst hx1
    have z := sized_slice hsz ht hd hu
    rw [hB, List.length_map, List.length_map, List.length_range, List.length_range] at z
    refine ⟨(List.range len).map f, hlen, hl, ⟨by simp, by rw [hlen]; unfold maxLen at hm; omega, fun hp => ⟨x, rfl, fun i p hp => ?_⟩⟩, by rw [hlen]; omega, ?_, fun y hy => ?_⟩
    · obtain ⟨hi', he'⟩ := List.getElem?_eq_some_iff.1 hp
      rw [hlen] at hi'
      have he'' : f i = p := by simpa using he'
      subst he''
      obtain ⟨c0, c1, _, _⟩ := hF i hi'
      refine ⟨_, rfl, k64_mk W (f i), fun j u hu => ?_⟩
      match j, hu with
      | 0, hu => cases hu; exact c0
      | 1, hu => cases hu; exact c1
    · rw [hlen]
      exact Nat.le_trans (Nat.mul_le_mul_right _ (by omega)) z
    · obtain ⟨i, hi', rfl⟩ := List.mem_map.1 hy
      obtain ⟨_, _, w0, w1⟩ := hF i (List.mem_range.1 hi')
      exact ⟨w0, w1⟩

end Go.Proofs.Ytmkcoobmbjoloaa.RowS
