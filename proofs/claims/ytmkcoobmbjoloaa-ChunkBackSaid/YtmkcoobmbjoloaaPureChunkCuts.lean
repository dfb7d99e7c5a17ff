/- Proved: for every text, every list of lengths and every number the law ChunkCuts of layer 6 answers true (of at most 500 bytes and 50 lengths; beyond them the law asks for its examples alone). No condition beyond the statement's own. -/
import Derived.Test.YtmkcoobmbjoloaaL06
import Derived.Test.YtmkcoobmbjoloaaPx3
namespace Go.Proofs.Ytmkcoobmbjoloaa.Pure
open Go Go.RowKit Go.Proofs.Ytmkcoobmbjoloaa.P Go.Proofs.YtmkcoobmbjoloaaW.PrintWords Go.Proofs.YtmkcoobmbjoloaaW.PrintLast Go.Proofs.Ytmkcoobmbjoloaa.Base

theorem awake06 : Ev (fun k => juratlaw06_awake.f k) true := by
  refine Ev.congr (f := fun k => (chunk_Cut.f k (⟨#[97, 98, 99, 100, 101]⟩ : ByteArray) [2, 0, 9]).bind fun t => ((juratref05_Same.f k t [(⟨#[97, 98]⟩ : ByteArray), (⟨#[]⟩ : ByteArray), (⟨#[99, 100, 101]⟩ : ByteArray)]).bind fun b => (if b = true then ((chunk_Cut.f k (⟨#[97, 98, 99]⟩ : ByteArray) [1]).bind fun u => ((juratref05_Same.f k u [(⟨#[97]⟩ : ByteArray), (⟨#[98, 99]⟩ : ByteArray)]).bind fun c => (some c))) else (some false)))) (fun k => rfl) ?_
  have e1 : cutS (⟨#[97, 98, 99, 100, 101]⟩ : ByteArray) [2, 0, 9] = [(⟨#[97, 98]⟩ : ByteArray), (⟨#[]⟩ : ByteArray), (⟨#[99, 100, 101]⟩ : ByteArray)] := by decide +kernel
  have e2 : cutS (⟨#[97, 98, 99]⟩ : ByteArray) [1] = [(⟨#[97]⟩ : ByteArray), (⟨#[98, 99]⟩ : ByteArray)] := by decide +kernel
  have h1 := cut (⟨#[97, 98, 99, 100, 101]⟩ : ByteArray) [2, 0, 9] (by simp)
  have h2 := cut (⟨#[97, 98, 99]⟩ : ByteArray) [1] (by simp)
  rw [e1] at h1
  rw [e2] at h2
  refine Ev.bind h1 ?_
  have s1 := same5 [(⟨#[97, 98]⟩ : ByteArray), (⟨#[]⟩ : ByteArray), (⟨#[99, 100, 101]⟩ : ByteArray)] [(⟨#[97, 98]⟩ : ByteArray), (⟨#[]⟩ : ByteArray), (⟨#[99, 100, 101]⟩ : ByteArray)] (by simp)
  have s2 := same5 [(⟨#[97]⟩ : ByteArray), (⟨#[98, 99]⟩ : ByteArray)] [(⟨#[97]⟩ : ByteArray), (⟨#[98, 99]⟩ : ByteArray)] (by simp)
  rw [decide_eq_true rfl] at s1 s2
  refine Ev.bind s1 ?_
  simp only [if_true]
  refine Ev.bind h2 ?_
  refine Ev.bind s2 ?_
  exact Ev.now true

theorem cuts_end (s : ByteArray) (l : List Int) (hs : s.size ≤ 500) (hl : l.length ≤ 50) : Ev (fun k => juratlaw06_ChunkCuts.j1 k s l false) true := by
  refine Ev.step (f := fun k => (chunk_Cut.f k s l).bind fun t => ((juratref06_Cut.f k s l).bind fun u => ((juratref05_Same.f k t u).bind fun b => (if b = true then ((juratlaw06_awake.f k).bind fun c => (some c)) else (some false))))) (fun k => rfl) ?_
  refine Ev.bind (cut s l (by omega)) ?_
  refine Ev.bind (rcut s l (by omega) (by omega)) ?_
  have hlen : ∀ (l : List Int) (s : ByteArray), (cutS s l).length ≤ l.length + 1 := by
    intro l
    induction l with
    | nil => intro s; unfold cutS; split <;> simp
    | cons n l ih => intro s; unfold cutS; simpa using ih _
  have s1 := same5 (cutS s l) (cutS s l) (by have := hlen l s; omega)
  rw [decide_eq_true rfl] at s1
  refine Ev.bind s1 ?_
  simp only [if_true]
  refine Ev.bind awake06 ?_
  exact Ev.now true

theorem evenS_len (s : ByteArray) (n : Nat) : ∀ d a, (evenS s n d a).length ≤ d := by
  intro d
  induction d with
  | zero => intro a; simp [evenS]
  | succ d ih =>
    intro a
    unfold evenS
    split
    · simpa using ih _
    · simp

theorem ChunkCuts : juratlaw06_ChunkCuts.Pure := by
  intro s l n hs hl _ _ hn
  have hn' := wf64 hn
  clear hn
  refine Ev.rounds ?_
  have big : Ev (fun k => juratlaw06_ChunkCuts.j0 k s l n true) true := by
    refine Ev.step (f := fun k => (juratlaw06_awake.f k).bind fun c => some c) (fun k => rfl) ?_
    exact Ev.bind awake06 (Ev.now true)
  by_cases h1 : (s.size : Int) > 500
  · refine Ev.congr (fun k => ?_) big
    unfold juratlaw06_ChunkCuts.f
    rw [if_pos h1]
  by_cases h2 : (l.length : Int) > 50
  · refine Ev.congr (fun k => ?_) big
    unfold juratlaw06_ChunkCuts.f
    rw [if_neg h1, decide_eq_true h2]
  refine Ev.congr (f := fun k => juratlaw06_ChunkCuts.j0 k s l n false) (fun k => by unfold juratlaw06_ChunkCuts.f; rw [if_neg h1, decide_eq_false h2]) ?_
  by_cases h3 : n < 1
  · refine Ev.step (f := fun k => (chunk_Even.f k s n).bind fun p => (if (p.1.length : Int) > 0 then (juratlaw06_ChunkCuts.j1 k s l true) else (if p.2 = 2 then (juratlaw06_ChunkCuts.j1 k s l false) else (juratlaw06_ChunkCuts.j1 k s l true)))) (fun k => ?_) ?_
    · simp only [juratlaw06_ChunkCuts.j0]
      rw [if_neg (by simp)]
      congr 1
      funext p
      rw [if_pos h3, if_neg (by omega : ¬ n ≥ 1)]
    · refine Ev.bind (even_bad s n h3) ?_
      exact cuts_end s l (by omega) (by omega)
  · refine Ev.step (f := fun k => (chunk_Even.f k s n).bind fun p => ((juratref06_Even.f k s n).bind fun t => ((juratref05_Same.f k p.1 t).bind fun b => (if b = true then (juratlaw06_ChunkCuts.j1 k s l (p.2 != 0)) else (juratlaw06_ChunkCuts.j1 k s l true))))) (fun k => ?_) ?_
    · simp only [juratlaw06_ChunkCuts.j0]
      rw [if_neg (by simp)]
      congr 1
      funext p
      rw [if_neg h3, if_pos (by omega : n ≥ 1)]
    · refine Ev.bind (even s n (by omega) (by omega)) ?_
      refine Ev.bind (reven s n (by omega) (by omega)) ?_
      have s1 := same5 (evenS s n.toNat (s.size + 1) 0) (evenS s n.toNat (s.size + 1) 0) (by have := evenS_len s n.toNat (s.size + 1) 0; omega)
      rw [decide_eq_true rfl] at s1
      refine Ev.bind s1 ?_
      exact cuts_end s l (by omega) (by omega)

end Go.Proofs.Ytmkcoobmbjoloaa.Pure
