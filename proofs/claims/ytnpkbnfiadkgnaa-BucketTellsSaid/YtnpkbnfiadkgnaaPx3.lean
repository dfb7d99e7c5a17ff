/- Proved here: what Go functions of this seat compute, or a law of it; no condition beyond the statement's own. Written for this claim by a program of this session (wip/myprint.py) over the kit's print.py. -/
import Derived.Test.YtnpkbnfiadkgnaaPx0
import Derived.Test.YtnpkbnfiadkgnaaPx10
import Derived.Test.YtnpkbnfiadkgnaaPx11
import Derived.Test.YtnpkbnfiadkgnaaPx13
import Derived.Test.YtnpkbnfiadkgnaaPx15
import Derived.Test.YtnpkbnfiadkgnaaPx17
import Derived.Test.YtnpkbnfiadkgnaaPx19
import Derived.Test.YtnpkbnfiadkgnaaPx21
import Derived.Test.YtnpkbnfiadkgnaaF12
import Derived.Test.YtnpkbnfiadkgnaaH10
import Derived.Test.YtnpkbnfiadkgnaaH12
import Derived.Test.YtnpkbnfiadkgnaaH12a
namespace Go.Proofs.Ytnpkbnfiadkgnaa.P
open Go.RowKit Go.Proofs.YtnpkbnfiadkgnaaW.PrintWords Go.Proofs.YtnpkbnfiadkgnaaW.PrintLast Go.Proofs.YtnpkbnfiadkgnaaW.PrintMore
attribute [local go_sem] max2_int min2_int max_two min_two max_three min_three max_four min_four   -- for this text's walks alone
set_option linter.unusedVariables false
set_option linter.unusedSimpArgs false

/-! ### juratlaw12_BucketTells: function 3 -/
def juratlaw12_BucketTells.j0 : Nat → Int → Bool → Option (Bool)
  | 0, _, _ => none
  | k + 1, x1, x55 => if x55 = true then (some false) else ((bucket_Buckets_Of.f none x1).bind fun t225 => (if (t225.length : Int) = 0 then ((bucket_Buckets_Least.f none x1).bind fun t228 => (if t228 = 0 then ((bucket_Buckets_Bytes.f none).bind fun t229 => (if t229.toList = ([] : List UInt8) then ((juratlaw12_awake.f k).bind fun t230 => (some t230)) else (some false))) else (some false))) else (some false)))
def juratlaw12_BucketTells.f (k : Nat) (l0 : List ByteArray) (a1 : Int) : Option (Bool) := (juratref09_Few.f k l0 20 50).bind fun t204 => (if t204 = true then ((pats_New.f l0).bind fun bt206 => ((juratref10_New.f k l0).bind fun bt208 => ((bucket_New.f bt206.1).bind fun t212 => (if bt206.2 = bt208.2 then ((bucket_Buckets_Of.f t212 a1).bind fun t214 => ((juratref12_Of.f k bt208.1 a1).bind fun t217 => ((juratref01_Same.f k t214 t217).bind fun t220 => (if t220 = true then ((bucket_Buckets_Least.f t212 a1).bind fun t221 => ((juratref12_Least.f k bt208.1 a1).bind fun t222 => (if t221 = t222 then ((bucket_Buckets_Bytes.f t212).bind fun t223 => ((juratref12_Bytes.f k bt208.1).bind fun t224 => (juratlaw12_BucketTells.j0 k a1 (t223.toList != t224.toList)))) else (juratlaw12_BucketTells.j0 k a1 true)))) else (juratlaw12_BucketTells.j0 k a1 true))))) else (juratlaw12_BucketTells.j0 k a1 true))))) else ((juratlaw12_awake.f k).bind fun t205 => (some t205)))
theorem juratlaw12_BucketTells.mono_l : ∀ k, (∀ y0 y1, LeO (juratlaw12_BucketTells.j0 k y0 y1) (juratlaw12_BucketTells.j0 (k + 1) y0 y1))
  | 0 => fun _ _ r h => by simp [juratlaw12_BucketTells.j0] at h
  | k + 1 => by
    have ih0 := juratlaw12_BucketTells.mono_l k
    · intro y0 y1
      unfold juratlaw12_BucketTells.j0
      repeat' first
      | (with_reducible exact ih0 _ _)
      | (with_reducible exact juratlaw12_awake.mono _)
      | (with_reducible exact juratref01_Same.mono _ _ _)
      | (with_reducible exact juratref09_Few.mono _ _ _ _)
      | (with_reducible exact juratref10_New.mono _ _)
      | (with_reducible exact juratref12_Bytes.mono _ _)
      | (with_reducible exact juratref12_Least.mono _ _ _)
      | (with_reducible exact juratref12_Of.mono _ _ _)
      | (with_reducible exact LeO.refl _)
      | (with_reducible exact LeO.none _)
      | (with_reducible refine LeO.ite ?_ ?_)
      | (with_reducible refine LeO.bind ?_ (fun _ => ?_))
      | exact ih0 _ _
      | exact juratlaw12_awake.mono _
      | exact juratref01_Same.mono _ _ _
      | exact juratref09_Few.mono _ _ _ _
      | exact juratref10_New.mono _ _
      | exact juratref12_Bytes.mono _ _
      | exact juratref12_Least.mono _ _ _
      | exact juratref12_Of.mono _ _ _
      | exact LeO.none _
      | refine LeO.ite ?_ ?_
      | refine LeO.bind ?_ (fun _ => ?_)
theorem juratlaw12_BucketTells.mono : ∀ a0 a1 k, LeO (juratlaw12_BucketTells.f k a0 a1) (juratlaw12_BucketTells.f (k + 1) a0 a1) := by
  intro a0 a1 k
  have ih0 := juratlaw12_BucketTells.mono_l k
  unfold juratlaw12_BucketTells.f
  repeat' first
      | (with_reducible exact ih0 _ _)
      | (with_reducible exact juratlaw12_awake.mono _)
      | (with_reducible exact juratref01_Same.mono _ _ _)
      | (with_reducible exact juratref09_Few.mono _ _ _ _)
      | (with_reducible exact juratref10_New.mono _ _)
      | (with_reducible exact juratref12_Bytes.mono _ _)
      | (with_reducible exact juratref12_Least.mono _ _ _)
      | (with_reducible exact juratref12_Of.mono _ _ _)
      | (with_reducible exact LeO.refl _)
      | (with_reducible exact LeO.none _)
      | (with_reducible refine LeO.ite ?_ ?_)
      | (with_reducible refine LeO.bind ?_ (fun _ => ?_))
      | exact ih0 _ _
      | exact juratlaw12_awake.mono _
      | exact juratref01_Same.mono _ _ _
      | exact juratref09_Few.mono _ _ _ _
      | exact juratref10_New.mono _ _
      | exact juratref12_Bytes.mono _ _
      | exact juratref12_Least.mono _ _ _
      | exact juratref12_Of.mono _ _ _
      | exact LeO.none _
      | refine LeO.ite ?_ ?_
      | refine LeO.bind ?_ (fun _ => ?_)
set_option maxHeartbeats 8000000 in
set_option maxRecDepth 100000 in
theorem juratlaw12_BucketTells.calls (k : Nat) (A0 : Option Addr) (c0 : Nat) (l0 : List ByteArray) (a1 : Int) (r : Bool) (w : World) (hr0 : Kd.C Kd.string w A0 l0.length l0) (hc0 : l0.length ≤ c0) (h : juratlaw12_BucketTells.f k l0 a1 = some r) :
    Calls Try.prog 3 #[.slice A0 l0.length c0, .int .u8 a1] w fun e w' => e = .returned (.bool r) ∧ Below w.heap.size w w' := by
  have HR0 := Aside0.mk hr0
  have HC0 := Aside0.mk hc0
  clear hr0 hc0
  have HB := Aside0.mk (Below.refl w.heap.size w)
  have H : ((juratref09_Few.f k l0 20 50).bind fun t204 => (if t204 = true then ((pats_New.f l0).bind fun bt206 => ((juratref10_New.f k l0).bind fun bt208 => ((bucket_New.f bt206.1).bind fun t212 => (if bt206.2 = bt208.2 then ((bucket_Buckets_Of.f t212 a1).bind fun t214 => ((juratref12_Of.f k bt208.1 a1).bind fun t217 => ((juratref01_Same.f k t214 t217).bind fun t220 => (if t220 = true then ((bucket_Buckets_Least.f t212 a1).bind fun t221 => ((juratref12_Least.f k bt208.1 a1).bind fun t222 => (if t221 = t222 then ((bucket_Buckets_Bytes.f t212).bind fun t223 => ((juratref12_Bytes.f k bt208.1).bind fun t224 => (juratlaw12_BucketTells.j0 k a1 (t223.toList != t224.toList)))) else (juratlaw12_BucketTells.j0 k a1 true)))) else (juratlaw12_BucketTells.j0 k a1 true))))) else (juratlaw12_BucketTells.j0 k a1 true))))) else ((juratlaw12_awake.f k).bind fun t205 => (some t205)))) = some r := h
  clear h
  replace H := Option.bind_eq_some_iff.mp H
  obtain ⟨t204, A30, H⟩ := H
  replace H : (if t204 = true then ((pats_New.f l0).bind fun bt206 => ((juratref10_New.f k l0).bind fun bt208 => ((bucket_New.f bt206.1).bind fun t212 => (if bt206.2 = bt208.2 then ((bucket_Buckets_Of.f t212 a1).bind fun t214 => ((juratref12_Of.f k bt208.1 a1).bind fun t217 => ((juratref01_Same.f k t214 t217).bind fun t220 => (if t220 = true then ((bucket_Buckets_Least.f t212 a1).bind fun t221 => ((juratref12_Least.f k bt208.1 a1).bind fun t222 => (if t221 = t222 then ((bucket_Buckets_Bytes.f t212).bind fun t223 => ((juratref12_Bytes.f k bt208.1).bind fun t224 => (juratlaw12_BucketTells.j0 k a1 (t223.toList != t224.toList)))) else (juratlaw12_BucketTells.j0 k a1 true)))) else (juratlaw12_BucketTells.j0 k a1 true))))) else (juratlaw12_BucketTells.j0 k a1 true))))) else ((juratlaw12_awake.f k).bind fun t205 => (some t205))) = some r := H
  have A3 := Aside0.mk A30
  clear A30
  by_cases c4 : t204 = true
  · subst c4
    have H1 : ((pats_New.f l0).bind fun bt206 => ((juratref10_New.f k l0).bind fun bt208 => ((bucket_New.f bt206.1).bind fun t212 => (if bt206.2 = bt208.2 then ((bucket_Buckets_Of.f t212 a1).bind fun t214 => ((juratref12_Of.f k bt208.1 a1).bind fun t217 => ((juratref01_Same.f k t214 t217).bind fun t220 => (if t220 = true then ((bucket_Buckets_Least.f t212 a1).bind fun t221 => ((juratref12_Least.f k bt208.1 a1).bind fun t222 => (if t221 = t222 then ((bucket_Buckets_Bytes.f t212).bind fun t223 => ((juratref12_Bytes.f k bt208.1).bind fun t224 => (juratlaw12_BucketTells.j0 k a1 (t223.toList != t224.toList)))) else (juratlaw12_BucketTells.j0 k a1 true)))) else (juratlaw12_BucketTells.j0 k a1 true))))) else (juratlaw12_BucketTells.j0 k a1 true))))) = some r := by rw [if_pos rfl] at H; exact H
    clear H
    have H := H1
    clear H1
    replace H := Option.bind_eq_some_iff.mp H
    obtain ⟨⟨t206, t207⟩, A50, H⟩ := H
    replace H : ((juratref10_New.f k l0).bind fun bt208 => ((bucket_New.f t206).bind fun t212 => (if t207 = bt208.2 then ((bucket_Buckets_Of.f t212 a1).bind fun t214 => ((juratref12_Of.f k bt208.1 a1).bind fun t217 => ((juratref01_Same.f k t214 t217).bind fun t220 => (if t220 = true then ((bucket_Buckets_Least.f t212 a1).bind fun t221 => ((juratref12_Least.f k bt208.1 a1).bind fun t222 => (if t221 = t222 then ((bucket_Buckets_Bytes.f t212).bind fun t223 => ((juratref12_Bytes.f k bt208.1).bind fun t224 => (juratlaw12_BucketTells.j0 k a1 (t223.toList != t224.toList)))) else (juratlaw12_BucketTells.j0 k a1 true)))) else (juratlaw12_BucketTells.j0 k a1 true))))) else (juratlaw12_BucketTells.j0 k a1 true)))) = some r := H
    have A5 := Aside0.mk A50
    clear A50
    replace H := Option.bind_eq_some_iff.mp H
    obtain ⟨⟨t208, t209⟩, A60, H⟩ := H
    replace H : ((bucket_New.f t206).bind fun t212 => (if t207 = t209 then ((bucket_Buckets_Of.f t212 a1).bind fun t214 => ((juratref12_Of.f k t208 a1).bind fun t217 => ((juratref01_Same.f k t214 t217).bind fun t220 => (if t220 = true then ((bucket_Buckets_Least.f t212 a1).bind fun t221 => ((juratref12_Least.f k t208 a1).bind fun t222 => (if t221 = t222 then ((bucket_Buckets_Bytes.f t212).bind fun t223 => ((juratref12_Bytes.f k t208).bind fun t224 => (juratlaw12_BucketTells.j0 k a1 (t223.toList != t224.toList)))) else (juratlaw12_BucketTells.j0 k a1 true)))) else (juratlaw12_BucketTells.j0 k a1 true))))) else (juratlaw12_BucketTells.j0 k a1 true))) = some r := H
    have A6 := Aside0.mk A60
    clear A60
    replace H := Option.bind_eq_some_iff.mp H
    obtain ⟨t212, A70, H⟩ := H
    replace H : (if t207 = t209 then ((bucket_Buckets_Of.f t212 a1).bind fun t214 => ((juratref12_Of.f k t208 a1).bind fun t217 => ((juratref01_Same.f k t214 t217).bind fun t220 => (if t220 = true then ((bucket_Buckets_Least.f t212 a1).bind fun t221 => ((juratref12_Least.f k t208 a1).bind fun t222 => (if t221 = t222 then ((bucket_Buckets_Bytes.f t212).bind fun t223 => ((juratref12_Bytes.f k t208).bind fun t224 => (juratlaw12_BucketTells.j0 k a1 (t223.toList != t224.toList)))) else (juratlaw12_BucketTells.j0 k a1 true)))) else (juratlaw12_BucketTells.j0 k a1 true))))) else (juratlaw12_BucketTells.j0 k a1 true)) = some r := H
    have A7 := Aside0.mk A70
    clear A70
    have HC8 := Aside0.mk H
    clear H
    go_enter Try.func3, Try.ntmps3
    go_upto_region 6 with (first | ((with_reducible refine gate_callee (f := 10) rfl ?_); refine goesL_ (some 12) rfl rfl Try.func10 (by kernel_rfl) rfl #[.slice A0 l0.length c0, .int .i64 20, .int .i64 50] rfl (by (try simp only [List.map_toArray, List.map_cons, List.map_nil]); first | done | rfl | (simp only [List.length_drop, List.length_take]; rfl)) ?_; (with_reducible refine (juratref09_Few.calls k _ _ l0 20 50 true _ ?side1 ?side2 A3.out).mono ?_); (case side1 => repeat (first | exact HR0.out | (with_reducible refine Kd.C_alloc ?_ _) | (with_reducible refine Kd.C_drewN ?_ _) | (with_reducible refine Kd.C_drew ?_))); (case side2 => exact HC0.out); rintro e w' ⟨rfl, ⟨nd, rfl⟩⟩; refine ⟨_, rfl, ?_⟩) | ((with_reducible refine gate_callee (f := 12) rfl ?_); refine goesL_ (some 17) rfl rfl Try.func12 (by kernel_rfl) rfl #[.slice A0 l0.length c0] rfl (by (try simp only [List.map_toArray, List.map_cons, List.map_nil]); first | done | rfl | (simp only [List.length_drop, List.length_take]; rfl)) ?_; (with_reducible refine (pats_New.calls _ _ l0 t206 t207 _ ?side1 ?side2 A5.out).mono ?_); (case side1 => repeat (first | exact HR0.out | (with_reducible refine Kd.C_alloc ?_ _) | (with_reducible refine Kd.C_drewN ?_ _) | (with_reducible refine Kd.C_drew ?_))); (case side2 => exact HC0.out); rintro e w9 ⟨Pt206, rfl, hob0, hb⟩; refine ⟨_, rfl, ?_⟩; have hbw_ := below_step (by repeat (first | (with_reducible first | exact HB.out | apply below_alloc | apply pw_below_drewN | apply below_drew1) | exact HB.out)) hb; (try (have n_ := Aside0.mk (Kd.C_below HR0.out hbw_); clear HR0; have HR0 := n_; clear n_)); (first | (have n_ := Aside0.mk (HB00.out.trans (hbw_.mono HB00.out.size)); clear HB00; have HB00 := n_; clear n_) | have HB00 := Aside0.mk hbw_); clear HB hb hbw_; have HO_t206 := Aside0.mk hob0; clear hob0; obtain ⟨w, rfl⟩ : ∃ w_ : World, w_ = w9 := ⟨_, rfl⟩; have HB := Aside0.mk (Below.refl w.heap.size w)) | ((with_reducible refine gate_callee (f := 13) rfl ?_); refine goesL_ (some 22) rfl rfl Try.func13 (by kernel_rfl) rfl #[.slice A0 l0.length c0] rfl (by (try simp only [List.map_toArray, List.map_cons, List.map_nil]); first | done | rfl | (simp only [List.length_drop, List.length_take]; rfl)) ?_; (with_reducible refine (juratref10_New.calls k _ _ l0 t208 t209 _ ?side1 ?side2 A6.out).mono ?_); (case side1 => repeat (first | exact (Kd.C_below HR0.out HB.out) | (with_reducible refine Kd.C_alloc ?_ _) | (with_reducible refine Kd.C_drewN ?_ _) | (with_reducible refine Kd.C_drew ?_))); (case side2 => exact HC0.out); rintro e w10 ⟨v210, rfl, ho0, hb⟩; refine ⟨_, rfl, ?_⟩; have n0_ := Aside0.mk (Kd.R_lower ho0 (below_size (by repeat (first | (with_reducible first | exact HB.out | apply below_alloc | apply pw_below_drewN | apply below_drew1) | exact HB.out)))); have n1_ := Aside0.mk (below_step (by repeat (first | (with_reducible first | exact HB.out | apply below_alloc | apply pw_below_drewN | apply below_drew1) | exact HB.out)) hb); clear HB; have HO211 := n0_; have HB := n1_; clear n0_ n1_; (try clear hb); (try clear hb2); (try clear hk); (try clear hi); (try clear ho0)) | ((with_reducible refine gate_callee (f := 14) rfl ?_); refine goesL_ (some 26) rfl rfl Try.func14 (by kernel_rfl) rfl #[.pointer Pt206] rfl (by (try simp only [List.map_toArray, List.map_cons, List.map_nil]); first | done | rfl | (simp only [List.length_drop, List.length_take]; rfl)) ?_; (with_reducible refine (bucket_New.calls _ t206 t212 _ ?side1 A7.out).mono ?_); (case side1 => first | exact HO_t206.out | exact OB.drewN HO_t206.out _ | exact OB.below (by repeat (first | (with_reducible first | exact HB.out | apply below_alloc | apply pw_below_drewN | apply below_drew1) | exact HB.out)) HO_t206.out); rintro e w11 ⟨Pt212, rfl, hob0, hb⟩; refine ⟨_, rfl, ?_⟩; have hbw_ := below_step (by repeat (first | (with_reducible first | exact HB.out | apply below_alloc | apply pw_below_drewN | apply below_drew1) | exact HB.out)) hb; obtain ⟨Ab213, cb213, eb213_, lb213_, gb213_⟩ := Kd.R_reads (Kd.R_below (by (with_reducible repeat (first | apply Kd.R_alloc | apply Kd.R_drewN | apply Kd.R_drew)); exact HO211.out) hb); (first | subst eb213_ | (injection eb213_ with f1_ f2_ f3_; have f4_ := f1_.symm; have f5_ := f3_.symm; clear f1_ f2_ f3_; subst f4_; subst f5_)); have HRb213 := Aside0.mk gb213_; have HCb213 := Aside0.mk lb213_; clear gb213_ lb213_; (try clear HO211); (try (have n_ := Aside0.mk (Kd.C_below HR0.out hbw_); clear HR0; have HR0 := n_; clear n_)); (try (have n_ := Aside0.mk (OB.below hbw_ HO_t206.out); clear HO_t206; have HO_t206 := n_; clear n_)); (first | (have n_ := Aside0.mk (HB00.out.trans (hbw_.mono HB00.out.size)); clear HB00; have HB00 := n_; clear n_) | have HB00 := Aside0.mk hbw_); clear HB hb hbw_; have HO_t212 := Aside0.mk hob0; clear hob0; obtain ⟨w, rfl⟩ : ∃ w_ : World, w_ = w11 := ⟨_, rfl⟩; have HB := Aside0.mk (Below.refl w.heap.size w)))
    (try simp only [Act.put, List.setIfInBounds_toArray, List.set_cons_zero, List.set_cons_succ])
    go_cut [55] (fun v55 wc => ∃ (kq : Nat) (x55_7 : Bool), v55 = .bool x55_7 ∧ Aside0 (juratlaw12_BucketTells.j0 kq a1 x55_7 = some r) ∧ Aside0 (kq ≤ k) ∧ Aside0 (Below w.heap.size w wc))
    case first =>
      have H := HC8.out
      clear HC8
      by_cases c12 : t207 = t209
      · rw [if_pos c12] at H
        have c12b0 : (t207 == t209) = true := beq_iff_eq.mpr c12
        have c12b1 : (t207 != t209) = false := bne_eq_false_iff_eq.mpr c12
        clear c12
        (first | rw [c12b0] | rw [c12b1] | (simp only [i64_w, i32_w]; rw [c12b0]) | skip)
        replace H := Option.bind_eq_some_iff.mp H
        obtain ⟨t214, A130, H⟩ := H
        replace H : ((juratref12_Of.f k t208 a1).bind fun t217 => ((juratref01_Same.f k t214 t217).bind fun t220 => (if t220 = true then ((bucket_Buckets_Least.f t212 a1).bind fun t221 => ((juratref12_Least.f k t208 a1).bind fun t222 => (if t221 = t222 then ((bucket_Buckets_Bytes.f t212).bind fun t223 => ((juratref12_Bytes.f k t208).bind fun t224 => (juratlaw12_BucketTells.j0 k a1 (t223.toList != t224.toList)))) else (juratlaw12_BucketTells.j0 k a1 true)))) else (juratlaw12_BucketTells.j0 k a1 true)))) = some r := H
        have A13 := Aside0.mk A130
        clear A130
        replace H := Option.bind_eq_some_iff.mp H
        obtain ⟨t217, A140, H⟩ := H
        replace H : ((juratref01_Same.f k t214 t217).bind fun t220 => (if t220 = true then ((bucket_Buckets_Least.f t212 a1).bind fun t221 => ((juratref12_Least.f k t208 a1).bind fun t222 => (if t221 = t222 then ((bucket_Buckets_Bytes.f t212).bind fun t223 => ((juratref12_Bytes.f k t208).bind fun t224 => (juratlaw12_BucketTells.j0 k a1 (t223.toList != t224.toList)))) else (juratlaw12_BucketTells.j0 k a1 true)))) else (juratlaw12_BucketTells.j0 k a1 true))) = some r := H
        have A14 := Aside0.mk A140
        clear A140
        replace H := Option.bind_eq_some_iff.mp H
        obtain ⟨t220, A150, H⟩ := H
        replace H : (if t220 = true then ((bucket_Buckets_Least.f t212 a1).bind fun t221 => ((juratref12_Least.f k t208 a1).bind fun t222 => (if t221 = t222 then ((bucket_Buckets_Bytes.f t212).bind fun t223 => ((juratref12_Bytes.f k t208).bind fun t224 => (juratlaw12_BucketTells.j0 k a1 (t223.toList != t224.toList)))) else (juratlaw12_BucketTells.j0 k a1 true)))) else (juratlaw12_BucketTells.j0 k a1 true)) = some r := H
        have A15 := Aside0.mk A150
        clear A150
        by_cases c16 : t220 = true
        · subst c16
          have H1 : ((bucket_Buckets_Least.f t212 a1).bind fun t221 => ((juratref12_Least.f k t208 a1).bind fun t222 => (if t221 = t222 then ((bucket_Buckets_Bytes.f t212).bind fun t223 => ((juratref12_Bytes.f k t208).bind fun t224 => (juratlaw12_BucketTells.j0 k a1 (t223.toList != t224.toList)))) else (juratlaw12_BucketTells.j0 k a1 true)))) = some r := by rw [if_pos rfl] at H; exact H
          clear H
          have H := H1
          clear H1
          replace H := Option.bind_eq_some_iff.mp H
          obtain ⟨t221, A170, H⟩ := H
          replace H : ((juratref12_Least.f k t208 a1).bind fun t222 => (if t221 = t222 then ((bucket_Buckets_Bytes.f t212).bind fun t223 => ((juratref12_Bytes.f k t208).bind fun t224 => (juratlaw12_BucketTells.j0 k a1 (t223.toList != t224.toList)))) else (juratlaw12_BucketTells.j0 k a1 true))) = some r := H
          have A17 := Aside0.mk A170
          clear A170
          replace H := Option.bind_eq_some_iff.mp H
          obtain ⟨t222, A180, H⟩ := H
          replace H : (if t221 = t222 then ((bucket_Buckets_Bytes.f t212).bind fun t223 => ((juratref12_Bytes.f k t208).bind fun t224 => (juratlaw12_BucketTells.j0 k a1 (t223.toList != t224.toList)))) else (juratlaw12_BucketTells.j0 k a1 true)) = some r := H
          have A18 := Aside0.mk A180
          clear A180
          by_cases c19 : t221 = t222
          · rw [if_pos c19] at H
            have c19b0 : (t221 == t222) = true := beq_iff_eq.mpr c19
            have c19b1 : (t221 != t222) = false := bne_eq_false_iff_eq.mpr c19
            clear c19
            replace H := Option.bind_eq_some_iff.mp H
            obtain ⟨t223, A200, H⟩ := H
            replace H : ((juratref12_Bytes.f k t208).bind fun t224 => (juratlaw12_BucketTells.j0 k a1 (t223.toList != t224.toList))) = some r := H
            have A20 := Aside0.mk A200
            clear A200
            replace H := Option.bind_eq_some_iff.mp H
            obtain ⟨t224, A210, H⟩ := H
            replace H : (juratlaw12_BucketTells.j0 k a1 (t223.toList != t224.toList)) = some r := H
            have A21 := Aside0.mk A210
            clear A210
            have H' := Aside0.mk H
            clear H
            go_wp2_with (first | (go_at_call 16; (with_reducible refine (bucket_Buckets_Of.calls _ t212 a1 t214 _ ?side1 A13.out).mono ?_); (case side1 => first | exact HO_t212.out | exact OB.drewN HO_t212.out _ | exact OB.below (by repeat (first | (with_reducible first | exact HB.out | apply below_alloc | apply pw_below_drewN | apply below_drew1) | exact HB.out)) HO_t212.out); rintro e w22 ⟨v215, rfl, ho0, hb⟩; have n0_ := Aside0.mk (Kd.R_lower ho0 (below_size (by repeat (first | (with_reducible first | exact HB.out | apply below_alloc | apply pw_below_drewN | apply below_drew1) | exact HB.out)))); have n1_ := Aside0.mk (below_step (by repeat (first | (with_reducible first | exact HB.out | apply below_alloc | apply pw_below_drewN | apply below_drew1) | exact HB.out)) hb); clear HB; have HO216 := n0_; have HB := n1_; clear n0_ n1_; (try clear hb); (try clear hb2); (try clear hk); (try clear hi); (try clear ho0)) | (go_at_call 17; (with_reducible refine (juratref12_Of.calls k _ _ t208 a1 t217 _ ?side1 ?side2 A14.out).mono ?_); (case side1 => repeat (first | exact (Kd.C_below HRb213.out HB.out) | (with_reducible refine Kd.C_alloc ?_ _) | (with_reducible refine Kd.C_drewN ?_ _) | (with_reducible refine Kd.C_drew ?_))); (case side2 => exact HCb213.out); rintro e w23 ⟨v218, rfl, ho0, hb⟩; have n0_ := Aside0.mk (Kd.R_elder' (by (with_reducible repeat (first | apply Kd.R_alloc | apply Kd.R_drewN | apply Kd.R_drew)); exact HO216.out) (Kd.R_base ho0) hb); have n1_ := Aside0.mk (Kd.R_lower (Kd.R_new' ho0 (Kd.R_lt (by (with_reducible repeat (first | apply Kd.R_alloc | apply Kd.R_drewN | apply Kd.R_drew)); exact HO216.out))) (below_size (by repeat (first | (with_reducible first | exact HB.out | apply below_alloc | apply pw_below_drewN | apply below_drew1) | exact HB.out)))); have n2_ := Aside0.mk (below_step (by repeat (first | (with_reducible first | exact HB.out | apply below_alloc | apply pw_below_drewN | apply below_drew1) | exact HB.out)) hb); clear HO216; clear HB; have HO216 := n0_; have HO219 := n1_; have HB := n2_; clear n0_ n1_ n2_; (try clear hb); (try clear hb2); (try clear hk); (try clear hi); (try clear ho0); obtain ⟨Ao24, co24, eo24⟩ := Kd.R_slice HO216.out; subst eo24; obtain ⟨Ao25, co25, eo25⟩ := Kd.R_slice HO219.out; subst eo25) | (go_at_call 15; (with_reducible refine (juratref01_Same.calls k _ _ t214 _ _ t217 true _ ?side1 ?side2 ?side3 ?side4 A15.out).mono ?_); (case side1 => repeat (first | exact (Kd.R_reads' HO216.out).2.2 | (with_reducible refine Kd.C_alloc ?_ _) | (with_reducible refine Kd.C_drewN ?_ _) | (with_reducible refine Kd.C_drew ?_))); (case side2 => exact (Kd.R_reads' HO216.out).2.1); (case side3 => repeat (first | exact (Kd.R_reads' HO219.out).2.2 | (with_reducible refine Kd.C_alloc ?_ _) | (with_reducible refine Kd.C_drewN ?_ _) | (with_reducible refine Kd.C_drew ?_))); (case side4 => exact (Kd.R_reads' HO219.out).2.1); rintro e w' ⟨rfl, ⟨nd, rfl⟩⟩) | (go_at_call 18; (with_reducible refine (bucket_Buckets_Least.calls _ t212 a1 t221 _ ?side1 A17.out).mono ?_); (case side1 => first | exact HO_t212.out | exact OB.drewN HO_t212.out _ | exact OB.below (by repeat (first | (with_reducible first | exact HB.out | apply below_alloc | apply pw_below_drewN | apply below_drew1) | exact HB.out)) HO_t212.out); rintro e w' ⟨rfl, ⟨nd, rfl⟩⟩) | (go_at_call 19; (with_reducible refine (juratref12_Least.calls k _ _ t208 a1 t222 _ ?side1 ?side2 A18.out).mono ?_); (case side1 => repeat (first | exact (Kd.C_below HRb213.out (by repeat (first | (with_reducible first | exact HB.out | apply below_alloc | apply pw_below_drewN | apply below_drew1) | exact HB.out))) | (with_reducible refine Kd.C_alloc ?_ _) | (with_reducible refine Kd.C_drewN ?_ _) | (with_reducible refine Kd.C_drew ?_))); (case side2 => exact HCb213.out); rintro e w26 ⟨rfl, hb⟩; have n0_ := Aside0.mk (Kd.R_below (by (with_reducible repeat (first | apply Kd.R_alloc | apply Kd.R_drewN | apply Kd.R_drew)); exact HO216.out) hb); have n1_ := Aside0.mk (Kd.R_below (by (with_reducible repeat (first | apply Kd.R_alloc | apply Kd.R_drewN | apply Kd.R_drew)); exact HO219.out) hb); have n2_ := Aside0.mk (below_step (by repeat (first | (with_reducible first | exact HB.out | apply below_alloc | apply pw_below_drewN | apply below_drew1) | exact HB.out)) hb); clear HO216; clear HO219; clear HB; have HO216 := n0_; have HO219 := n1_; have HB := n2_; clear n0_ n1_ n2_; (try clear hb); (try clear hb2); (try clear hk); (try clear hi)) | (go_at_call 20; (with_reducible refine (bucket_Buckets_Bytes.calls _ t212 t223 _ ?side1 A20.out).mono ?_); (case side1 => first | exact HO_t212.out | exact OB.drewN HO_t212.out _ | exact OB.below (by repeat (first | (with_reducible first | exact HB.out | apply below_alloc | apply pw_below_drewN | apply below_drew1) | exact HB.out)) HO_t212.out); rintro e w27 ⟨rfl, hb⟩; have n0_ := Aside0.mk (Kd.R_below (by (with_reducible repeat (first | apply Kd.R_alloc | apply Kd.R_drewN | apply Kd.R_drew)); exact HO216.out) hb); have n1_ := Aside0.mk (Kd.R_below (by (with_reducible repeat (first | apply Kd.R_alloc | apply Kd.R_drewN | apply Kd.R_drew)); exact HO219.out) hb); have n2_ := Aside0.mk (below_step (by repeat (first | (with_reducible first | exact HB.out | apply below_alloc | apply pw_below_drewN | apply below_drew1) | exact HB.out)) hb); clear HO216; clear HO219; clear HB; have HO216 := n0_; have HO219 := n1_; have HB := n2_; clear n0_ n1_ n2_; (try clear hb); (try clear hb2); (try clear hk); (try clear hi)) | (go_at_call 21; (with_reducible refine (juratref12_Bytes.calls k _ _ t208 t224 _ ?side1 ?side2 A21.out).mono ?_); (case side1 => repeat (first | exact (Kd.C_below HRb213.out HB.out) | (with_reducible refine Kd.C_alloc ?_ _) | (with_reducible refine Kd.C_drewN ?_ _) | (with_reducible refine Kd.C_drew ?_))); (case side2 => exact HCb213.out); rintro e w28 ⟨rfl, hb⟩; have n0_ := Aside0.mk (Kd.R_below (by (with_reducible repeat (first | apply Kd.R_alloc | apply Kd.R_drewN | apply Kd.R_drew)); exact HO216.out) hb); have n1_ := Aside0.mk (Kd.R_below (by (with_reducible repeat (first | apply Kd.R_alloc | apply Kd.R_drewN | apply Kd.R_drew)); exact HO219.out) hb); have n2_ := Aside0.mk (below_step (by repeat (first | (with_reducible first | exact HB.out | apply below_alloc | apply pw_below_drewN | apply below_drew1) | exact HB.out)) hb); clear HO216; clear HO219; clear HB; have HO216 := n0_; have HO219 := n1_; have HB := n2_; clear n0_ n1_ n2_; (try clear hb); (try clear hb2); (try clear hk); (try clear hi)))
            go_meet
            case rel => exact ⟨_, ((t223.toList != t224.toList)), (by first | rfl | exact isE_ _ | exact isE2_ _ | (simp; done) | (simp [*]; done)), H', ⟨by first | omega | exact Nat.le_refl _⟩, ⟨by repeat (first | (with_reducible first | exact HB.out | apply below_alloc | apply pw_below_drewN | apply below_drew1) | exact HB.out)⟩⟩
          · rw [if_neg c19] at H
            have c19b0 : (t221 == t222) = false := beq_eq_false_iff_ne.mpr c19
            have c19b1 : (t221 != t222) = true := bne_iff_ne.mpr c19
            have H' := Aside0.mk H
            clear H
            go_wp2_with (first | (go_at_call 16; (with_reducible refine (bucket_Buckets_Of.calls _ t212 a1 t214 _ ?side1 A13.out).mono ?_); (case side1 => first | exact HO_t212.out | exact OB.drewN HO_t212.out _ | exact OB.below (by repeat (first | (with_reducible first | exact HB.out | apply below_alloc | apply pw_below_drewN | apply below_drew1) | exact HB.out)) HO_t212.out); rintro e w29 ⟨v215, rfl, ho0, hb⟩; have n0_ := Aside0.mk (Kd.R_lower ho0 (below_size (by repeat (first | (with_reducible first | exact HB.out | apply below_alloc | apply pw_below_drewN | apply below_drew1) | exact HB.out)))); have n1_ := Aside0.mk (below_step (by repeat (first | (with_reducible first | exact HB.out | apply below_alloc | apply pw_below_drewN | apply below_drew1) | exact HB.out)) hb); clear HB; have HO216 := n0_; have HB := n1_; clear n0_ n1_; (try clear hb); (try clear hb2); (try clear hk); (try clear hi); (try clear ho0)) | (go_at_call 17; (with_reducible refine (juratref12_Of.calls k _ _ t208 a1 t217 _ ?side1 ?side2 A14.out).mono ?_); (case side1 => repeat (first | exact (Kd.C_below HRb213.out HB.out) | (with_reducible refine Kd.C_alloc ?_ _) | (with_reducible refine Kd.C_drewN ?_ _) | (with_reducible refine Kd.C_drew ?_))); (case side2 => exact HCb213.out); rintro e w30 ⟨v218, rfl, ho0, hb⟩; have n0_ := Aside0.mk (Kd.R_elder' (by (with_reducible repeat (first | apply Kd.R_alloc | apply Kd.R_drewN | apply Kd.R_drew)); exact HO216.out) (Kd.R_base ho0) hb); have n1_ := Aside0.mk (Kd.R_lower (Kd.R_new' ho0 (Kd.R_lt (by (with_reducible repeat (first | apply Kd.R_alloc | apply Kd.R_drewN | apply Kd.R_drew)); exact HO216.out))) (below_size (by repeat (first | (with_reducible first | exact HB.out | apply below_alloc | apply pw_below_drewN | apply below_drew1) | exact HB.out)))); have n2_ := Aside0.mk (below_step (by repeat (first | (with_reducible first | exact HB.out | apply below_alloc | apply pw_below_drewN | apply below_drew1) | exact HB.out)) hb); clear HO216; clear HB; have HO216 := n0_; have HO219 := n1_; have HB := n2_; clear n0_ n1_ n2_; (try clear hb); (try clear hb2); (try clear hk); (try clear hi); (try clear ho0); obtain ⟨Ao31, co31, eo31⟩ := Kd.R_slice HO216.out; subst eo31; obtain ⟨Ao32, co32, eo32⟩ := Kd.R_slice HO219.out; subst eo32) | (go_at_call 15; (with_reducible refine (juratref01_Same.calls k _ _ t214 _ _ t217 true _ ?side1 ?side2 ?side3 ?side4 A15.out).mono ?_); (case side1 => repeat (first | exact (Kd.R_reads' HO216.out).2.2 | (with_reducible refine Kd.C_alloc ?_ _) | (with_reducible refine Kd.C_drewN ?_ _) | (with_reducible refine Kd.C_drew ?_))); (case side2 => exact (Kd.R_reads' HO216.out).2.1); (case side3 => repeat (first | exact (Kd.R_reads' HO219.out).2.2 | (with_reducible refine Kd.C_alloc ?_ _) | (with_reducible refine Kd.C_drewN ?_ _) | (with_reducible refine Kd.C_drew ?_))); (case side4 => exact (Kd.R_reads' HO219.out).2.1); rintro e w' ⟨rfl, ⟨nd, rfl⟩⟩) | (go_at_call 18; (with_reducible refine (bucket_Buckets_Least.calls _ t212 a1 t221 _ ?side1 A17.out).mono ?_); (case side1 => first | exact HO_t212.out | exact OB.drewN HO_t212.out _ | exact OB.below (by repeat (first | (with_reducible first | exact HB.out | apply below_alloc | apply pw_below_drewN | apply below_drew1) | exact HB.out)) HO_t212.out); rintro e w' ⟨rfl, ⟨nd, rfl⟩⟩) | (go_at_call 19; (with_reducible refine (juratref12_Least.calls k _ _ t208 a1 t222 _ ?side1 ?side2 A18.out).mono ?_); (case side1 => repeat (first | exact (Kd.C_below HRb213.out (by repeat (first | (with_reducible first | exact HB.out | apply below_alloc | apply pw_below_drewN | apply below_drew1) | exact HB.out))) | (with_reducible refine Kd.C_alloc ?_ _) | (with_reducible refine Kd.C_drewN ?_ _) | (with_reducible refine Kd.C_drew ?_))); (case side2 => exact HCb213.out); rintro e w33 ⟨rfl, hb⟩; have n0_ := Aside0.mk (Kd.R_below (by (with_reducible repeat (first | apply Kd.R_alloc | apply Kd.R_drewN | apply Kd.R_drew)); exact HO216.out) hb); have n1_ := Aside0.mk (Kd.R_below (by (with_reducible repeat (first | apply Kd.R_alloc | apply Kd.R_drewN | apply Kd.R_drew)); exact HO219.out) hb); have n2_ := Aside0.mk (below_step (by repeat (first | (with_reducible first | exact HB.out | apply below_alloc | apply pw_below_drewN | apply below_drew1) | exact HB.out)) hb); clear HO216; clear HO219; clear HB; have HO216 := n0_; have HO219 := n1_; have HB := n2_; clear n0_ n1_ n2_; (try clear hb); (try clear hb2); (try clear hk); (try clear hi)))
            go_meet
            case rel => exact ⟨_, (true), (by first | rfl | exact isE_ _ | exact isE2_ _ | (simp; done) | (simp [*]; done)), H', ⟨by first | omega | exact Nat.le_refl _⟩, ⟨by repeat (first | (with_reducible first | exact HB.out | apply below_alloc | apply pw_below_drewN | apply below_drew1) | exact HB.out)⟩⟩
        · replace c16 := Bool.eq_false_iff.mpr c16
          subst c16
          have H1 : (juratlaw12_BucketTells.j0 k a1 true) = some r := by rw [if_neg (show ¬ (false = true) by decide)] at H; exact H
          clear H
          have H := H1
          clear H1
          have H' := Aside0.mk H
          clear H
          go_wp2_with (first | (go_at_call 16; (with_reducible refine (bucket_Buckets_Of.calls _ t212 a1 t214 _ ?side1 A13.out).mono ?_); (case side1 => first | exact HO_t212.out | exact OB.drewN HO_t212.out _ | exact OB.below (by repeat (first | (with_reducible first | exact HB.out | apply below_alloc | apply pw_below_drewN | apply below_drew1) | exact HB.out)) HO_t212.out); rintro e w34 ⟨v215, rfl, ho0, hb⟩; have n0_ := Aside0.mk (Kd.R_lower ho0 (below_size (by repeat (first | (with_reducible first | exact HB.out | apply below_alloc | apply pw_below_drewN | apply below_drew1) | exact HB.out)))); have n1_ := Aside0.mk (below_step (by repeat (first | (with_reducible first | exact HB.out | apply below_alloc | apply pw_below_drewN | apply below_drew1) | exact HB.out)) hb); clear HB; have HO216 := n0_; have HB := n1_; clear n0_ n1_; (try clear hb); (try clear hb2); (try clear hk); (try clear hi); (try clear ho0)) | (go_at_call 17; (with_reducible refine (juratref12_Of.calls k _ _ t208 a1 t217 _ ?side1 ?side2 A14.out).mono ?_); (case side1 => repeat (first | exact (Kd.C_below HRb213.out HB.out) | (with_reducible refine Kd.C_alloc ?_ _) | (with_reducible refine Kd.C_drewN ?_ _) | (with_reducible refine Kd.C_drew ?_))); (case side2 => exact HCb213.out); rintro e w35 ⟨v218, rfl, ho0, hb⟩; have n0_ := Aside0.mk (Kd.R_elder' (by (with_reducible repeat (first | apply Kd.R_alloc | apply Kd.R_drewN | apply Kd.R_drew)); exact HO216.out) (Kd.R_base ho0) hb); have n1_ := Aside0.mk (Kd.R_lower (Kd.R_new' ho0 (Kd.R_lt (by (with_reducible repeat (first | apply Kd.R_alloc | apply Kd.R_drewN | apply Kd.R_drew)); exact HO216.out))) (below_size (by repeat (first | (with_reducible first | exact HB.out | apply below_alloc | apply pw_below_drewN | apply below_drew1) | exact HB.out)))); have n2_ := Aside0.mk (below_step (by repeat (first | (with_reducible first | exact HB.out | apply below_alloc | apply pw_below_drewN | apply below_drew1) | exact HB.out)) hb); clear HO216; clear HB; have HO216 := n0_; have HO219 := n1_; have HB := n2_; clear n0_ n1_ n2_; (try clear hb); (try clear hb2); (try clear hk); (try clear hi); (try clear ho0); obtain ⟨Ao36, co36, eo36⟩ := Kd.R_slice HO216.out; subst eo36; obtain ⟨Ao37, co37, eo37⟩ := Kd.R_slice HO219.out; subst eo37) | (go_at_call 15; (with_reducible refine (juratref01_Same.calls k _ _ t214 _ _ t217 false _ ?side1 ?side2 ?side3 ?side4 A15.out).mono ?_); (case side1 => repeat (first | exact (Kd.R_reads' HO216.out).2.2 | (with_reducible refine Kd.C_alloc ?_ _) | (with_reducible refine Kd.C_drewN ?_ _) | (with_reducible refine Kd.C_drew ?_))); (case side2 => exact (Kd.R_reads' HO216.out).2.1); (case side3 => repeat (first | exact (Kd.R_reads' HO219.out).2.2 | (with_reducible refine Kd.C_alloc ?_ _) | (with_reducible refine Kd.C_drewN ?_ _) | (with_reducible refine Kd.C_drew ?_))); (case side4 => exact (Kd.R_reads' HO219.out).2.1); rintro e w' ⟨rfl, ⟨nd, rfl⟩⟩))
          go_meet
          case rel => exact ⟨_, (true), (by first | rfl | exact isE_ _ | exact isE2_ _ | (simp; done) | (simp [*]; done)), H', ⟨by first | omega | exact Nat.le_refl _⟩, ⟨by repeat (first | (with_reducible first | exact HB.out | apply below_alloc | apply pw_below_drewN | apply below_drew1) | exact HB.out)⟩⟩
      · rw [if_neg c12] at H
        have c12b0 : (t207 == t209) = false := beq_eq_false_iff_ne.mpr c12
        have c12b1 : (t207 != t209) = true := bne_iff_ne.mpr c12
        (first | rw [c12b0] | rw [c12b1] | (simp only [i64_w, i32_w]; rw [c12b0]) | skip)
        have H' := Aside0.mk H
        clear H
        go_wp2
        go_meet
        case rel => exact ⟨_, (true), (by first | rfl | exact isE_ _ | exact isE2_ _ | (simp; done) | (simp [*]; done)), H', ⟨by first | omega | exact Nat.le_refl _⟩, ⟨by repeat (first | (with_reducible first | exact HB.out | apply below_alloc | apply pw_below_drewN | apply below_drew1) | exact HB.out)⟩⟩
    case rest =>
      clear HC8
      try clear c1
      try clear p2
      try clear c3
      try clear c4
      try clear c10
      try clear c12
      try clear c12b0
      try clear c12b1
      try clear c13
      try clear c14
      try clear c16
      try clear c19
      try clear c19b0
      try clear c19b1
      obtain ⟨kq, x55_7, rfl, HA, HJ7, HB⟩ := hcut
      cases kq with
      | zero => exact absurd HA.out (by simp [juratlaw12_BucketTells.j0])
      | succ kj7 =>
        have H := HA.out
        clear HA
        simp only [juratlaw12_BucketTells.j0] at H
        by_cases c38 : x55_7 = true
        · subst c38
          have H1 : (some false) = some r := by rw [if_pos rfl] at H; exact H
          clear H
          have H := H1
          clear H1
          obtain rfl := Option.some.inj H
          go_wp2
          go_ret
          exact ⟨by first | rfl | (simp [errW_none, errW_some] <;> rfl) | (simp [*, errW_none, errW_some] <;> rfl), by first | (refine HB00.out.trans (Below.mono ?_ HB00.out.size); (repeat (first | (with_reducible first | exact HB.out | apply below_alloc | apply pw_below_drewN | apply below_drew1) | exact HB.out))) | (repeat (first | (with_reducible first | exact HB.out | apply below_alloc | apply pw_below_drewN | apply below_drew1) | exact HB.out))⟩
        · replace c38 := Bool.eq_false_iff.mpr c38
          subst c38
          have H1 : ((bucket_Buckets_Of.f none a1).bind fun t225 => (if (t225.length : Int) = 0 then ((bucket_Buckets_Least.f none a1).bind fun t228 => (if t228 = 0 then ((bucket_Buckets_Bytes.f none).bind fun t229 => (if t229.toList = ([] : List UInt8) then ((juratlaw12_awake.f kj7).bind fun t230 => (some t230)) else (some false))) else (some false))) else (some false))) = some r := by rw [if_neg (show ¬ (false = true) by decide)] at H; exact H
          clear H
          have H := H1
          clear H1
          replace H := Option.bind_eq_some_iff.mp H
          obtain ⟨t225, A390, H⟩ := H
          replace H : (if (t225.length : Int) = 0 then ((bucket_Buckets_Least.f none a1).bind fun t228 => (if t228 = 0 then ((bucket_Buckets_Bytes.f none).bind fun t229 => (if t229.toList = ([] : List UInt8) then ((juratlaw12_awake.f kj7).bind fun t230 => (some t230)) else (some false))) else (some false))) else (some false)) = some r := H
          have A39 := Aside0.mk A390
          clear A390
          by_cases c40 : (t225.length : Int) = 0
          · rw [if_pos c40] at H
            have c40b0 : ((t225.length : Int) == 0) = true := beq_iff_eq.mpr c40
            have c40b1 : ((t225.length : Int) != 0) = false := bne_eq_false_iff_eq.mpr c40
            clear c40
            replace H := Option.bind_eq_some_iff.mp H
            obtain ⟨t228, A410, H⟩ := H
            replace H : (if t228 = 0 then ((bucket_Buckets_Bytes.f none).bind fun t229 => (if t229.toList = ([] : List UInt8) then ((juratlaw12_awake.f kj7).bind fun t230 => (some t230)) else (some false))) else (some false)) = some r := H
            have A41 := Aside0.mk A410
            clear A410
            by_cases c42 : t228 = 0
            · rw [if_pos c42] at H
              have c42b0 : (t228 == 0) = true := beq_iff_eq.mpr c42
              have c42b1 : (t228 != 0) = false := bne_eq_false_iff_eq.mpr c42
              clear c42
              replace H := Option.bind_eq_some_iff.mp H
              obtain ⟨t229, A430, H⟩ := H
              replace H : (if t229.toList = ([] : List UInt8) then ((juratlaw12_awake.f kj7).bind fun t230 => (some t230)) else (some false)) = some r := H
              have A43 := Aside0.mk A430
              clear A430
              by_cases c44 : t229.toList = ([] : List UInt8)
              · rw [if_pos c44] at H
                have c44b0 : (t229.toList == ([] : List UInt8)) = true := beq_iff_eq.mpr c44
                have c44b1 : (t229.toList != ([] : List UInt8)) = false := bne_eq_false_iff_eq.mpr c44
                clear c44
                replace H := Option.bind_eq_some_iff.mp H
                obtain ⟨t230, A450, H⟩ := H
                replace H : (some t230) = some r := H
                have A45 := Aside0.mk A450
                clear A450
                obtain rfl := Option.some.inj H
                go_wp2_with (first | ((with_reducible refine gate_callee (f := 16) rfl ?_); refine goesL_ (some 58) rfl rfl Try.func16 (by kernel_rfl) rfl #[.pointer none, .int .u8 a1] rfl (by (try simp only [List.map_toArray, List.map_cons, List.map_nil]); first | done | rfl | (simp only [List.length_drop, List.length_take]; rfl)) ?_; (with_reducible refine (bucket_Buckets_Of.calls _ none a1 t225 _ ?side1 A39.out).mono ?_); (case side1 => exact OB.nil _ _); rintro e w46 ⟨v226, rfl, ho0, hb⟩; refine ⟨_, rfl, ?_⟩; have n0_ := Aside0.mk (Kd.R_lower ho0 (below_size (by repeat (first | (with_reducible first | exact HB.out | apply below_alloc | apply pw_below_drewN | apply below_drew1) | exact HB.out)))); have n1_ := Aside0.mk (below_step (by repeat (first | (with_reducible first | exact HB.out | apply below_alloc | apply pw_below_drewN | apply below_drew1) | exact HB.out)) hb); clear HB; have HO227 := n0_; have HB := n1_; clear n0_ n1_; (try clear hb); (try clear hb2); (try clear hk); (try clear hi); (try clear ho0); obtain ⟨Ao47, co47, eo47⟩ := Kd.R_slice HO227.out; subst eo47) | (go_at_call 18; (with_reducible refine (bucket_Buckets_Least.calls _ none a1 t228 _ ?side1 A41.out).mono ?_); (case side1 => exact OB.nil _ _); rintro e w' ⟨rfl, ⟨nd, rfl⟩⟩) | (go_at_call 20; (with_reducible refine (bucket_Buckets_Bytes.calls _ none t229 _ ?side1 A43.out).mono ?_); (case side1 => exact OB.nil _ _); rintro e w48 ⟨rfl, hb⟩; have n0_ := Aside0.mk (Kd.R_below (by (with_reducible repeat (first | apply Kd.R_alloc | apply Kd.R_drewN | apply Kd.R_drew)); exact HO227.out) hb); have n1_ := Aside0.mk (below_step (by repeat (first | (with_reducible first | exact HB.out | apply below_alloc | apply pw_below_drewN | apply below_drew1) | exact HB.out)) hb); clear HO227; clear HB; have HO227 := n0_; have HB := n1_; clear n0_ n1_; (try clear hb); (try clear hb2); (try clear hk); (try clear hi)) | (go_at_call 11; (with_reducible refine (juratlaw12_awake.calls kj7  t230 _ A45.out).mono ?_); rintro e w49 ⟨rfl, hb⟩; have n0_ := Aside0.mk (Kd.R_below (by (with_reducible repeat (first | apply Kd.R_alloc | apply Kd.R_drewN | apply Kd.R_drew)); exact HO227.out) hb); have n1_ := Aside0.mk (below_step (by repeat (first | (with_reducible first | exact HB.out | apply below_alloc | apply pw_below_drewN | apply below_drew1) | exact HB.out)) hb); clear HO227; clear HB; have HO227 := n0_; have HB := n1_; clear n0_ n1_; (try clear hb); (try clear hb2); (try clear hk); (try clear hi)))
                go_ret
                exact ⟨by first | rfl | (simp [errW_none, errW_some] <;> rfl) | (simp [*, errW_none, errW_some] <;> rfl), by first | (refine HB00.out.trans (Below.mono ?_ HB00.out.size); (repeat (first | (with_reducible first | exact HB.out | apply below_alloc | apply pw_below_drewN | apply below_drew1) | exact HB.out))) | (repeat (first | (with_reducible first | exact HB.out | apply below_alloc | apply pw_below_drewN | apply below_drew1) | exact HB.out))⟩
              · rw [if_neg c44] at H
                have c44b0 : (t229.toList == ([] : List UInt8)) = false := beq_eq_false_iff_ne.mpr c44
                have c44b1 : (t229.toList != ([] : List UInt8)) = true := bne_iff_ne.mpr c44
                obtain rfl := Option.some.inj H
                go_wp2_with (first | ((with_reducible refine gate_callee (f := 16) rfl ?_); refine goesL_ (some 58) rfl rfl Try.func16 (by kernel_rfl) rfl #[.pointer none, .int .u8 a1] rfl (by (try simp only [List.map_toArray, List.map_cons, List.map_nil]); first | done | rfl | (simp only [List.length_drop, List.length_take]; rfl)) ?_; (with_reducible refine (bucket_Buckets_Of.calls _ none a1 t225 _ ?side1 A39.out).mono ?_); (case side1 => exact OB.nil _ _); rintro e w50 ⟨v226, rfl, ho0, hb⟩; refine ⟨_, rfl, ?_⟩; have n0_ := Aside0.mk (Kd.R_lower ho0 (below_size (by repeat (first | (with_reducible first | exact HB.out | apply below_alloc | apply pw_below_drewN | apply below_drew1) | exact HB.out)))); have n1_ := Aside0.mk (below_step (by repeat (first | (with_reducible first | exact HB.out | apply below_alloc | apply pw_below_drewN | apply below_drew1) | exact HB.out)) hb); clear HB; have HO227 := n0_; have HB := n1_; clear n0_ n1_; (try clear hb); (try clear hb2); (try clear hk); (try clear hi); (try clear ho0); obtain ⟨Ao51, co51, eo51⟩ := Kd.R_slice HO227.out; subst eo51) | (go_at_call 18; (with_reducible refine (bucket_Buckets_Least.calls _ none a1 t228 _ ?side1 A41.out).mono ?_); (case side1 => exact OB.nil _ _); rintro e w' ⟨rfl, ⟨nd, rfl⟩⟩) | (go_at_call 20; (with_reducible refine (bucket_Buckets_Bytes.calls _ none t229 _ ?side1 A43.out).mono ?_); (case side1 => exact OB.nil _ _); rintro e w52 ⟨rfl, hb⟩; have n0_ := Aside0.mk (Kd.R_below (by (with_reducible repeat (first | apply Kd.R_alloc | apply Kd.R_drewN | apply Kd.R_drew)); exact HO227.out) hb); have n1_ := Aside0.mk (below_step (by repeat (first | (with_reducible first | exact HB.out | apply below_alloc | apply pw_below_drewN | apply below_drew1) | exact HB.out)) hb); clear HO227; clear HB; have HO227 := n0_; have HB := n1_; clear n0_ n1_; (try clear hb); (try clear hb2); (try clear hk); (try clear hi)))
                go_ret
                exact ⟨by first | rfl | (simp [errW_none, errW_some] <;> rfl) | (simp [*, errW_none, errW_some] <;> rfl), by first | (refine HB00.out.trans (Below.mono ?_ HB00.out.size); (repeat (first | (with_reducible first | exact HB.out | apply below_alloc | apply pw_below_drewN | apply below_drew1) | exact HB.out))) | (repeat (first | (with_reducible first | exact HB.out | apply below_alloc | apply pw_below_drewN | apply below_drew1) | exact HB.out))⟩
            · rw [if_neg c42] at H
              have c42b0 : (t228 == 0) = false := beq_eq_false_iff_ne.mpr c42
              have c42b1 : (t228 != 0) = true := bne_iff_ne.mpr c42
              obtain rfl := Option.some.inj H
              go_wp2_with (first | ((with_reducible refine gate_callee (f := 16) rfl ?_); refine goesL_ (some 58) rfl rfl Try.func16 (by kernel_rfl) rfl #[.pointer none, .int .u8 a1] rfl (by (try simp only [List.map_toArray, List.map_cons, List.map_nil]); first | done | rfl | (simp only [List.length_drop, List.length_take]; rfl)) ?_; (with_reducible refine (bucket_Buckets_Of.calls _ none a1 t225 _ ?side1 A39.out).mono ?_); (case side1 => exact OB.nil _ _); rintro e w53 ⟨v226, rfl, ho0, hb⟩; refine ⟨_, rfl, ?_⟩; have n0_ := Aside0.mk (Kd.R_lower ho0 (below_size (by repeat (first | (with_reducible first | exact HB.out | apply below_alloc | apply pw_below_drewN | apply below_drew1) | exact HB.out)))); have n1_ := Aside0.mk (below_step (by repeat (first | (with_reducible first | exact HB.out | apply below_alloc | apply pw_below_drewN | apply below_drew1) | exact HB.out)) hb); clear HB; have HO227 := n0_; have HB := n1_; clear n0_ n1_; (try clear hb); (try clear hb2); (try clear hk); (try clear hi); (try clear ho0); obtain ⟨Ao54, co54, eo54⟩ := Kd.R_slice HO227.out; subst eo54) | (go_at_call 18; (with_reducible refine (bucket_Buckets_Least.calls _ none a1 t228 _ ?side1 A41.out).mono ?_); (case side1 => exact OB.nil _ _); rintro e w' ⟨rfl, ⟨nd, rfl⟩⟩))
              go_ret
              exact ⟨by first | rfl | (simp [errW_none, errW_some] <;> rfl) | (simp [*, errW_none, errW_some] <;> rfl), by first | (refine HB00.out.trans (Below.mono ?_ HB00.out.size); (repeat (first | (with_reducible first | exact HB.out | apply below_alloc | apply pw_below_drewN | apply below_drew1) | exact HB.out))) | (repeat (first | (with_reducible first | exact HB.out | apply below_alloc | apply pw_below_drewN | apply below_drew1) | exact HB.out))⟩
          · rw [if_neg c40] at H
            have c40b0 : ((t225.length : Int) == 0) = false := beq_eq_false_iff_ne.mpr c40
            have c40b1 : ((t225.length : Int) != 0) = true := bne_iff_ne.mpr c40
            have c40b2 : ¬ (t225 = []) := fun h_ => c40 (by rw [h_]; rfl)
            obtain rfl := Option.some.inj H
            go_wp2_with (first | ((with_reducible refine gate_callee (f := 16) rfl ?_); refine goesL_ (some 58) rfl rfl Try.func16 (by kernel_rfl) rfl #[.pointer none, .int .u8 a1] rfl (by (try simp only [List.map_toArray, List.map_cons, List.map_nil]); first | done | rfl | (simp only [List.length_drop, List.length_take]; rfl)) ?_; (with_reducible refine (bucket_Buckets_Of.calls _ none a1 t225 _ ?side1 A39.out).mono ?_); (case side1 => exact OB.nil _ _); rintro e w55 ⟨v226, rfl, ho0, hb⟩; refine ⟨_, rfl, ?_⟩; have n0_ := Aside0.mk (Kd.R_lower ho0 (below_size (by repeat (first | (with_reducible first | exact HB.out | apply below_alloc | apply pw_below_drewN | apply below_drew1) | exact HB.out)))); have n1_ := Aside0.mk (below_step (by repeat (first | (with_reducible first | exact HB.out | apply below_alloc | apply pw_below_drewN | apply below_drew1) | exact HB.out)) hb); clear HB; have HO227 := n0_; have HB := n1_; clear n0_ n1_; (try clear hb); (try clear hb2); (try clear hk); (try clear hi); (try clear ho0); obtain ⟨Ao56, co56, eo56⟩ := Kd.R_slice HO227.out; subst eo56))
            go_ret
            exact ⟨by first | rfl | (simp [errW_none, errW_some] <;> rfl) | (simp [*, errW_none, errW_some] <;> rfl), by first | (refine HB00.out.trans (Below.mono ?_ HB00.out.size); (repeat (first | (with_reducible first | exact HB.out | apply below_alloc | apply pw_below_drewN | apply below_drew1) | exact HB.out))) | (repeat (first | (with_reducible first | exact HB.out | apply below_alloc | apply pw_below_drewN | apply below_drew1) | exact HB.out))⟩
  · replace c4 := Bool.eq_false_iff.mpr c4
    subst c4
    have H1 : ((juratlaw12_awake.f k).bind fun t205 => (some t205)) = some r := by rw [if_neg (show ¬ (false = true) by decide)] at H; exact H
    clear H
    have H := H1
    clear H1
    replace H := Option.bind_eq_some_iff.mp H
    obtain ⟨t205, A570, H⟩ := H
    replace H : (some t205) = some r := H
    have A57 := Aside0.mk A570
    clear A570
    obtain rfl := Option.some.inj H
    go_enter Try.func3, Try.ntmps3
    go_wp2_with (first | ((with_reducible refine gate_callee (f := 10) rfl ?_); refine goesL_ (some 12) rfl rfl Try.func10 (by kernel_rfl) rfl #[.slice A0 l0.length c0, .int .i64 20, .int .i64 50] rfl (by (try simp only [List.map_toArray, List.map_cons, List.map_nil]); first | done | rfl | (simp only [List.length_drop, List.length_take]; rfl)) ?_; (with_reducible refine (juratref09_Few.calls k _ _ l0 20 50 false _ ?side1 ?side2 A3.out).mono ?_); (case side1 => repeat (first | exact HR0.out | (with_reducible refine Kd.C_alloc ?_ _) | (with_reducible refine Kd.C_drewN ?_ _) | (with_reducible refine Kd.C_drew ?_))); (case side2 => exact HC0.out); rintro e w' ⟨rfl, ⟨nd, rfl⟩⟩; refine ⟨_, rfl, ?_⟩) | ((with_reducible refine gate_callee (f := 11) rfl ?_); refine goesL_ (some 14) rfl rfl Try.func11 (by kernel_rfl) rfl #[] rfl (by (try simp only [List.map_toArray, List.map_cons, List.map_nil]); first | done | rfl | (simp only [List.length_drop, List.length_take]; rfl)) ?_; (with_reducible refine (juratlaw12_awake.calls k  t205 _ A57.out).mono ?_); rintro e w58 ⟨rfl, hb⟩; refine ⟨_, rfl, ?_⟩; have n0_ := Aside0.mk (below_step (by repeat (first | (with_reducible first | exact HB.out | apply below_alloc | apply pw_below_drewN | apply below_drew1) | exact HB.out)) hb); clear HB; have HB := n0_; clear n0_; (try clear hb); (try clear hb2); (try clear hk); (try clear hi)))
    go_ret
    exact ⟨by first | rfl | (simp [errW_none, errW_some] <;> rfl) | (simp [*, errW_none, errW_some] <;> rfl), by first | (refine HB00.out.trans (Below.mono ?_ HB00.out.size); (repeat (first | (with_reducible first | exact HB.out | apply below_alloc | apply pw_below_drewN | apply below_drew1) | exact HB.out))) | (repeat (first | (with_reducible first | exact HB.out | apply below_alloc | apply pw_below_drewN | apply below_drew1) | exact HB.out))⟩

end Go.Proofs.Ytnpkbnfiadkgnaa.P
