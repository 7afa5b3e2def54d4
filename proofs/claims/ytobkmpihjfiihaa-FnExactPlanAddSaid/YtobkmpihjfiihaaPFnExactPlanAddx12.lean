-- The machine side of a law: written by a program of this session (wip/tools), a turned print.
import Derived.Test.YtobkmpihjfiihaaPFnExactPlanAddx0
import Derived.Test.YtobkmpihjfiihaaPFnExactPlanAddx2
import Derived.Test.YtobkmpihjfiihaaPFnExactPlanAddx10
import Derived.Test.YtobkmpihjfiihaaPFnExactPlanAddx11
namespace Go.Proofs.Ytobkmpihjfiihaa.PFnExactPlanAdd
open Go.RowKit Go.Proofs.YtobkmpihjfiihaaW.PrintWords Go.Proofs.YtobkmpihjfiihaaW.PrintLast Go.Proofs.YtobkmpihjfiihaaW.PrintMore
attribute [local go_sem] max2_int min2_int max_two min_two max_three min_three max_four min_four   -- for this text's walks alone
set_option linter.unusedVariables false
set_option linter.unusedSimpArgs false

attribute [local go_sem high] eqA146
/-! ### impl_Changes: function 63 -/
mutual
def impl_Changes.j0 : Nat → Bool → Int → Int → Int → Int → List (S146) → Int → Int → Int → Int → List (S146) → Option ((List (S96)) × Bool)
 | 0, _, _, _, _, _, _, _, _, _, _, _ => none
 | k + 1, x34, x280000, x280001, x280002, x280003, x280004, x281000, x281001, x281002, x281003, x281004 => if x34 = true then (some (([] : List (S96)), false)) else ((some (([] : List (S96)) : List (S96))).bind fun y283 => (if x280000 = x281000 then (impl_Changes.j1 k y283 (x280001 != x281001) x280000 x280001 x280002 x280003 x280004 x281000 x281001 x281002 x281003 x281004) else (impl_Changes.j1 k y283 true x280000 x280001 x280002 x280003 x280004 x281000 x281001 x281002 x281003 x281004)))
def impl_Changes.j1 : Nat → List (S96) → Bool → Int → Int → Int → Int → List (S146) → Int → Int → Int → Int → List (S146) → Option ((List (S96)) × Bool)
 | 0, _, _, _, _, _, _, _, _, _, _, _, _ => none
 | k + 1, x6, x47, x280000, x280001, x280002, x280003, x280004, x281000, x281001, x281002, x281003, x281004 => if x47 = true then ((impl_WalStep.f k x280000 x280001 x280002 x280003 x280004 1 x281000 0 x281001 (⟨#[]⟩ : ByteArray)).bind fun bt287 => (if bt287.2.2.2.2.2 = true then (if x6.length < 2932031007402 then (impl_Changes.j2 k (x6 ++ [(⟨1, x281000, 0, x281001, (⟨#[]⟩ : ByteArray)⟩ : S96)]) x280000 x280001 x280002 x280003 x280004 x281000 x281001 x281002 x281003 x281004) else (none)) else (some (([] : List (S96)), false)))) else (impl_Changes.j2 k x6 x280000 x280001 x280002 x280003 x280004 x281000 x281001 x281002 x281003 x281004)
def impl_Changes.j2 : Nat → List (S96) → Int → Int → Int → Int → List (S146) → Int → Int → Int → Int → List (S146) → Option ((List (S96)) × Bool)
 | 0, _, _, _, _, _, _, _, _, _, _, _ => none
 | k + 1, x6, x280000, x280001, x280002, x280003, x280004, x281000, x281001, x281002, x281003, x281004 => impl_Changes.l0 k x6 0 x280000 x280001 x280002 x280003 x280004 x281000 x281001 x281002 x281003 x281004
def impl_Changes.j4 : Nat → List (S96) → Int → Int → Int → Int → Int → List (S146) → Int → Int → Int → Int → List (S146) → Option ((List (S96)) × Bool)
 | 0, _, _, _, _, _, _, _, _, _, _, _, _ => none
 | k + 1, x6, x10, x280000, x280001, x280002, x280003, x280004, x281000, x281001, x281002, x281003, x281004 => if x10 < (x280004.length : Int) then (if x6.length < 2932031007402 then (impl_Changes.j5 k (x6 ++ [(⟨3, 0, wrap64 ((wrap64 (x280002 + x10)) + 1), 0, (⟨#[]⟩ : ByteArray)⟩ : S96)]) x10 x280000 x280001 x280002 x280003 x280004 x281000 x281001 x281002 x281003 x281004) else (none)) else (impl_Changes.j5 k x6 x10 x280000 x280001 x280002 x280003 x280004 x281000 x281001 x281002 x281003 x281004)
def impl_Changes.j5 : Nat → List (S96) → Int → Int → Int → Int → Int → List (S146) → Int → Int → Int → Int → List (S146) → Option ((List (S96)) × Bool)
 | 0, _, _, _, _, _, _, _, _, _, _, _, _ => none
 | k + 1, x6, x10, x280000, x280001, x280002, x280003, x280004, x281000, x281001, x281002, x281003, x281004 => if 0 ≤ x10 then (if x10 ≤ (x281004.length : Int) then ((some (x281004.drop (x10 : Int).toNat : List (S146))).bind fun y304 => (impl_Changes.l1 k x6 x10 y304 (y304.length : Int) 0 x280000 x280001 x280002 x280003 x280004)) else (none)) else (none)
def impl_Changes.l1 : Nat → List (S96) → Int → List (S146) → Int → Int → Int → Int → Int → Int → List (S146) → Option ((List (S96)) × Bool)
 | 0, _, _, _, _, _, _, _, _, _, _ => none
 | k + 1, x6, x10, x109, x110, x111, x280000, x280001, x280002, x280003, x280004 => if x111 < x110 then (if 0 ≤ x111 then (if x111 < (x109.length : Int) then (if x6.length < 2932031007402 then (impl_Changes.l1 k (x6 ++ [(⟨2, (rd_T146 x109 x111).f0, wrap64 ((wrap64 ((wrap64 (x280002 + x10)) + x111)) + 1), 0, (rd_T146 x109 x111).f1⟩ : S96)]) x10 x109 x110 (wrap64 (x111 + 1)) x280000 x280001 x280002 x280003 x280004) else (none)) else (none)) else (none)) else (some (x6, true))
def impl_Changes.l0 : Nat → List (S96) → Int → Int → Int → Int → Int → List (S146) → Int → Int → Int → Int → List (S146) → Option ((List (S96)) × Bool)
 | 0, _, _, _, _, _, _, _, _, _, _, _, _ => none
 | k + 1, x6, x10, x280000, x280001, x280002, x280003, x280004, x281000, x281001, x281002, x281003, x281004 => if x10 < (x280004.length : Int) then (if x10 < (x281004.length : Int) then (if 0 ≤ x10 then (if (((rd_T146 x280004 x10).f0) == ((rd_T146 x281004 x10).f0) && ((((rd_T146 x280004 x10).f1).toList) == (((rd_T146 x281004 x10).f1).toList))) = true then (impl_Changes.l0 k x6 (wrap64 (x10 + 1)) x280000 x280001 x280002 x280003 x280004 x281000 x281001 x281002 x281003 x281004) else (impl_Changes.j4 k x6 x10 x280000 x280001 x280002 x280003 x280004 x281000 x281001 x281002 x281003 x281004)) else (none)) else (impl_Changes.j4 k x6 x10 x280000 x280001 x280002 x280003 x280004 x281000 x281001 x281002 x281003 x281004)) else (impl_Changes.j4 k x6 x10 x280000 x280001 x280002 x280003 x280004 x281000 x281001 x281002 x281003 x281004)
end
def impl_Changes.f (k : Nat) (a0_0 : Int) (a0_1 : Int) (a0_2 : Int) (a0_3 : Int) (l0_4 : List (S146)) (a1_0 : Int) (a1_1 : Int) (a1_2 : Int) (a1_3 : Int) (l1_4 : List (S146)) : Option ((List (S96)) × Bool) := (impl_WalOk.f k a0_0 a0_1 a0_2 a0_3 l0_4).bind fun t281 => (if t281 = true then ((impl_WalOk.f k a1_0 a1_1 a1_2 a1_3 l1_4).bind fun t282 => (if t282 = true then (if a0_2 = a1_2 then (impl_Changes.j0 k (a0_3 != a1_3) a0_0 a0_1 a0_2 a0_3 l0_4 a1_0 a1_1 a1_2 a1_3 l1_4) else (impl_Changes.j0 k true a0_0 a0_1 a0_2 a0_3 l0_4 a1_0 a1_1 a1_2 a1_3 l1_4)) else (impl_Changes.j0 k true a0_0 a0_1 a0_2 a0_3 l0_4 a1_0 a1_1 a1_2 a1_3 l1_4))) else (impl_Changes.j0 k true a0_0 a0_1 a0_2 a0_3 l0_4 a1_0 a1_1 a1_2 a1_3 l1_4))
theorem impl_Changes.mono_l : ∀ k, (∀ y0 y1 y2 y3 y4 y5 y6 y7 y8 y9 y10, LeO (impl_Changes.j0 k y0 y1 y2 y3 y4 y5 y6 y7 y8 y9 y10) (impl_Changes.j0 (k + 1) y0 y1 y2 y3 y4 y5 y6 y7 y8 y9 y10)) ∧ (∀ y0 y1 y2 y3 y4 y5 y6 y7 y8 y9 y10 y11, LeO (impl_Changes.j1 k y0 y1 y2 y3 y4 y5 y6 y7 y8 y9 y10 y11) (impl_Changes.j1 (k + 1) y0 y1 y2 y3 y4 y5 y6 y7 y8 y9 y10 y11)) ∧ (∀ y0 y1 y2 y3 y4 y5 y6 y7 y8 y9 y10, LeO (impl_Changes.j2 k y0 y1 y2 y3 y4 y5 y6 y7 y8 y9 y10) (impl_Changes.j2 (k + 1) y0 y1 y2 y3 y4 y5 y6 y7 y8 y9 y10)) ∧ (∀ y0 y1 y2 y3 y4 y5 y6 y7 y8 y9 y10 y11, LeO (impl_Changes.j4 k y0 y1 y2 y3 y4 y5 y6 y7 y8 y9 y10 y11) (impl_Changes.j4 (k + 1) y0 y1 y2 y3 y4 y5 y6 y7 y8 y9 y10 y11)) ∧ (∀ y0 y1 y2 y3 y4 y5 y6 y7 y8 y9 y10 y11, LeO (impl_Changes.j5 k y0 y1 y2 y3 y4 y5 y6 y7 y8 y9 y10 y11) (impl_Changes.j5 (k + 1) y0 y1 y2 y3 y4 y5 y6 y7 y8 y9 y10 y11)) ∧ (∀ y0 y1 y2 y3 y4 y5 y6 y7 y8 y9, LeO (impl_Changes.l1 k y0 y1 y2 y3 y4 y5 y6 y7 y8 y9) (impl_Changes.l1 (k + 1) y0 y1 y2 y3 y4 y5 y6 y7 y8 y9)) ∧ (∀ y0 y1 y2 y3 y4 y5 y6 y7 y8 y9 y10 y11, LeO (impl_Changes.l0 k y0 y1 y2 y3 y4 y5 y6 y7 y8 y9 y10 y11) (impl_Changes.l0 (k + 1) y0 y1 y2 y3 y4 y5 y6 y7 y8 y9 y10 y11))
 | 0 => ⟨fun _ _ _ _ _ _ _ _ _ _ _ r h => by simp [impl_Changes.j0] at h, fun _ _ _ _ _ _ _ _ _ _ _ _ r h => by simp [impl_Changes.j1] at h, fun _ _ _ _ _ _ _ _ _ _ _ r h => by simp [impl_Changes.j2] at h, fun _ _ _ _ _ _ _ _ _ _ _ _ r h => by simp [impl_Changes.j4] at h, fun _ _ _ _ _ _ _ _ _ _ _ _ r h => by simp [impl_Changes.j5] at h, fun _ _ _ _ _ _ _ _ _ _ r h => by simp [impl_Changes.l1] at h, fun _ _ _ _ _ _ _ _ _ _ _ _ r h => by simp [impl_Changes.l0] at h⟩
 | k + 1 => by
  obtain ⟨ih0, ih1, ih2, ih3, ih4, ih5, ih6⟩ := impl_Changes.mono_l k
  refine ⟨?_, ?_, ?_, ?_, ?_, ?_, ?_⟩
  ·intro y0 y1 y2 y3 y4 y5 y6 y7 y8 y9 y10
   unfold impl_Changes.j0
   repeat' first
   | (with_reducible exact ih0 _ _ _ _ _ _ _ _ _ _ _)
   | (with_reducible exact ih1 _ _ _ _ _ _ _ _ _ _ _ _)
   | (with_reducible exact ih2 _ _ _ _ _ _ _ _ _ _ _)
   | (with_reducible exact ih3 _ _ _ _ _ _ _ _ _ _ _ _)
   | (with_reducible exact ih4 _ _ _ _ _ _ _ _ _ _ _ _)
   | (with_reducible exact ih5 _ _ _ _ _ _ _ _ _ _)
   | (with_reducible exact ih6 _ _ _ _ _ _ _ _ _ _ _ _)
   | (with_reducible exact impl_WalOk.mono _ _ _ _ _ _)
   | (with_reducible exact impl_WalStep.mono _ _ _ _ _ _ _ _ _ _ _)
   | (with_reducible exact LeO.refl _)
   | (with_reducible exact LeO.none _)
   | (with_reducible refine LeO.ite ?_ ?_)
   | (with_reducible refine LeO.bind ?_ (fun _ => ?_))
   | exact ih0 _ _ _ _ _ _ _ _ _ _ _
   | exact ih1 _ _ _ _ _ _ _ _ _ _ _ _
   | exact ih2 _ _ _ _ _ _ _ _ _ _ _
   | exact ih3 _ _ _ _ _ _ _ _ _ _ _ _
   | exact ih4 _ _ _ _ _ _ _ _ _ _ _ _
   | exact ih5 _ _ _ _ _ _ _ _ _ _
   | exact ih6 _ _ _ _ _ _ _ _ _ _ _ _
   | exact impl_WalOk.mono _ _ _ _ _ _
   | exact impl_WalStep.mono _ _ _ _ _ _ _ _ _ _ _
   | exact LeO.none _
   | refine LeO.ite ?_ ?_
   | refine LeO.bind ?_ (fun _ => ?_)
  ·intro y0 y1 y2 y3 y4 y5 y6 y7 y8 y9 y10 y11
   unfold impl_Changes.j1
   repeat' first
   | (with_reducible exact ih0 _ _ _ _ _ _ _ _ _ _ _)
   | (with_reducible exact ih1 _ _ _ _ _ _ _ _ _ _ _ _)
   | (with_reducible exact ih2 _ _ _ _ _ _ _ _ _ _ _)
   | (with_reducible exact ih3 _ _ _ _ _ _ _ _ _ _ _ _)
   | (with_reducible exact ih4 _ _ _ _ _ _ _ _ _ _ _ _)
   | (with_reducible exact ih5 _ _ _ _ _ _ _ _ _ _)
   | (with_reducible exact ih6 _ _ _ _ _ _ _ _ _ _ _ _)
   | (with_reducible exact impl_WalOk.mono _ _ _ _ _ _)
   | (with_reducible exact impl_WalStep.mono _ _ _ _ _ _ _ _ _ _ _)
   | (with_reducible exact LeO.refl _)
   | (with_reducible exact LeO.none _)
   | (with_reducible refine LeO.ite ?_ ?_)
   | (with_reducible refine LeO.bind ?_ (fun _ => ?_))
   | exact ih0 _ _ _ _ _ _ _ _ _ _ _
   | exact ih1 _ _ _ _ _ _ _ _ _ _ _ _
   | exact ih2 _ _ _ _ _ _ _ _ _ _ _
   | exact ih3 _ _ _ _ _ _ _ _ _ _ _ _
   | exact ih4 _ _ _ _ _ _ _ _ _ _ _ _
   | exact ih5 _ _ _ _ _ _ _ _ _ _
   | exact ih6 _ _ _ _ _ _ _ _ _ _ _ _
   | exact impl_WalOk.mono _ _ _ _ _ _
   | exact impl_WalStep.mono _ _ _ _ _ _ _ _ _ _ _
   | exact LeO.none _
   | refine LeO.ite ?_ ?_
   | refine LeO.bind ?_ (fun _ => ?_)
  ·intro y0 y1 y2 y3 y4 y5 y6 y7 y8 y9 y10
   unfold impl_Changes.j2
   repeat' first
   | (with_reducible exact ih0 _ _ _ _ _ _ _ _ _ _ _)
   | (with_reducible exact ih1 _ _ _ _ _ _ _ _ _ _ _ _)
   | (with_reducible exact ih2 _ _ _ _ _ _ _ _ _ _ _)
   | (with_reducible exact ih3 _ _ _ _ _ _ _ _ _ _ _ _)
   | (with_reducible exact ih4 _ _ _ _ _ _ _ _ _ _ _ _)
   | (with_reducible exact ih5 _ _ _ _ _ _ _ _ _ _)
   | (with_reducible exact ih6 _ _ _ _ _ _ _ _ _ _ _ _)
   | (with_reducible exact impl_WalOk.mono _ _ _ _ _ _)
   | (with_reducible exact impl_WalStep.mono _ _ _ _ _ _ _ _ _ _ _)
   | (with_reducible exact LeO.refl _)
   | (with_reducible exact LeO.none _)
   | (with_reducible refine LeO.ite ?_ ?_)
   | (with_reducible refine LeO.bind ?_ (fun _ => ?_))
   | exact ih0 _ _ _ _ _ _ _ _ _ _ _
   | exact ih1 _ _ _ _ _ _ _ _ _ _ _ _
   | exact ih2 _ _ _ _ _ _ _ _ _ _ _
   | exact ih3 _ _ _ _ _ _ _ _ _ _ _ _
   | exact ih4 _ _ _ _ _ _ _ _ _ _ _ _
   | exact ih5 _ _ _ _ _ _ _ _ _ _
   | exact ih6 _ _ _ _ _ _ _ _ _ _ _ _
   | exact impl_WalOk.mono _ _ _ _ _ _
   | exact impl_WalStep.mono _ _ _ _ _ _ _ _ _ _ _
   | exact LeO.none _
   | refine LeO.ite ?_ ?_
   | refine LeO.bind ?_ (fun _ => ?_)
  ·intro y0 y1 y2 y3 y4 y5 y6 y7 y8 y9 y10 y11
   unfold impl_Changes.j4
   repeat' first
   | (with_reducible exact ih0 _ _ _ _ _ _ _ _ _ _ _)
   | (with_reducible exact ih1 _ _ _ _ _ _ _ _ _ _ _ _)
   | (with_reducible exact ih2 _ _ _ _ _ _ _ _ _ _ _)
   | (with_reducible exact ih3 _ _ _ _ _ _ _ _ _ _ _ _)
   | (with_reducible exact ih4 _ _ _ _ _ _ _ _ _ _ _ _)
   | (with_reducible exact ih5 _ _ _ _ _ _ _ _ _ _)
   | (with_reducible exact ih6 _ _ _ _ _ _ _ _ _ _ _ _)
   | (with_reducible exact impl_WalOk.mono _ _ _ _ _ _)
   | (with_reducible exact impl_WalStep.mono _ _ _ _ _ _ _ _ _ _ _)
   | (with_reducible exact LeO.refl _)
   | (with_reducible exact LeO.none _)
   | (with_reducible refine LeO.ite ?_ ?_)
   | (with_reducible refine LeO.bind ?_ (fun _ => ?_))
   | exact ih0 _ _ _ _ _ _ _ _ _ _ _
   | exact ih1 _ _ _ _ _ _ _ _ _ _ _ _
   | exact ih2 _ _ _ _ _ _ _ _ _ _ _
   | exact ih3 _ _ _ _ _ _ _ _ _ _ _ _
   | exact ih4 _ _ _ _ _ _ _ _ _ _ _ _
   | exact ih5 _ _ _ _ _ _ _ _ _ _
   | exact ih6 _ _ _ _ _ _ _ _ _ _ _ _
   | exact impl_WalOk.mono _ _ _ _ _ _
   | exact impl_WalStep.mono _ _ _ _ _ _ _ _ _ _ _
   | exact LeO.none _
   | refine LeO.ite ?_ ?_
   | refine LeO.bind ?_ (fun _ => ?_)
  ·intro y0 y1 y2 y3 y4 y5 y6 y7 y8 y9 y10 y11
   unfold impl_Changes.j5
   repeat' first
   | (with_reducible exact ih0 _ _ _ _ _ _ _ _ _ _ _)
   | (with_reducible exact ih1 _ _ _ _ _ _ _ _ _ _ _ _)
   | (with_reducible exact ih2 _ _ _ _ _ _ _ _ _ _ _)
   | (with_reducible exact ih3 _ _ _ _ _ _ _ _ _ _ _ _)
   | (with_reducible exact ih4 _ _ _ _ _ _ _ _ _ _ _ _)
   | (with_reducible exact ih5 _ _ _ _ _ _ _ _ _ _)
   | (with_reducible exact ih6 _ _ _ _ _ _ _ _ _ _ _ _)
   | (with_reducible exact impl_WalOk.mono _ _ _ _ _ _)
   | (with_reducible exact impl_WalStep.mono _ _ _ _ _ _ _ _ _ _ _)
   | (with_reducible exact LeO.refl _)
   | (with_reducible exact LeO.none _)
   | (with_reducible refine LeO.ite ?_ ?_)
   | (with_reducible refine LeO.bind ?_ (fun _ => ?_))
   | exact ih0 _ _ _ _ _ _ _ _ _ _ _
   | exact ih1 _ _ _ _ _ _ _ _ _ _ _ _
   | exact ih2 _ _ _ _ _ _ _ _ _ _ _
   | exact ih3 _ _ _ _ _ _ _ _ _ _ _ _
   | exact ih4 _ _ _ _ _ _ _ _ _ _ _ _
   | exact ih5 _ _ _ _ _ _ _ _ _ _
   | exact ih6 _ _ _ _ _ _ _ _ _ _ _ _
   | exact impl_WalOk.mono _ _ _ _ _ _
   | exact impl_WalStep.mono _ _ _ _ _ _ _ _ _ _ _
   | exact LeO.none _
   | refine LeO.ite ?_ ?_
   | refine LeO.bind ?_ (fun _ => ?_)
  ·intro y0 y1 y2 y3 y4 y5 y6 y7 y8 y9
   unfold impl_Changes.l1
   repeat' first
   | (with_reducible exact ih0 _ _ _ _ _ _ _ _ _ _ _)
   | (with_reducible exact ih1 _ _ _ _ _ _ _ _ _ _ _ _)
   | (with_reducible exact ih2 _ _ _ _ _ _ _ _ _ _ _)
   | (with_reducible exact ih3 _ _ _ _ _ _ _ _ _ _ _ _)
   | (with_reducible exact ih4 _ _ _ _ _ _ _ _ _ _ _ _)
   | (with_reducible exact ih5 _ _ _ _ _ _ _ _ _ _)
   | (with_reducible exact ih6 _ _ _ _ _ _ _ _ _ _ _ _)
   | (with_reducible exact impl_WalOk.mono _ _ _ _ _ _)
   | (with_reducible exact impl_WalStep.mono _ _ _ _ _ _ _ _ _ _ _)
   | (with_reducible exact LeO.refl _)
   | (with_reducible exact LeO.none _)
   | (with_reducible refine LeO.ite ?_ ?_)
   | (with_reducible refine LeO.bind ?_ (fun _ => ?_))
   | exact ih0 _ _ _ _ _ _ _ _ _ _ _
   | exact ih1 _ _ _ _ _ _ _ _ _ _ _ _
   | exact ih2 _ _ _ _ _ _ _ _ _ _ _
   | exact ih3 _ _ _ _ _ _ _ _ _ _ _ _
   | exact ih4 _ _ _ _ _ _ _ _ _ _ _ _
   | exact ih5 _ _ _ _ _ _ _ _ _ _
   | exact ih6 _ _ _ _ _ _ _ _ _ _ _ _
   | exact impl_WalOk.mono _ _ _ _ _ _
   | exact impl_WalStep.mono _ _ _ _ _ _ _ _ _ _ _
   | exact LeO.none _
   | refine LeO.ite ?_ ?_
   | refine LeO.bind ?_ (fun _ => ?_)
  ·intro y0 y1 y2 y3 y4 y5 y6 y7 y8 y9 y10 y11
   unfold impl_Changes.l0
   repeat' first
   | (with_reducible exact ih0 _ _ _ _ _ _ _ _ _ _ _)
   | (with_reducible exact ih1 _ _ _ _ _ _ _ _ _ _ _ _)
   | (with_reducible exact ih2 _ _ _ _ _ _ _ _ _ _ _)
   | (with_reducible exact ih3 _ _ _ _ _ _ _ _ _ _ _ _)
   | (with_reducible exact ih4 _ _ _ _ _ _ _ _ _ _ _ _)
   | (with_reducible exact ih5 _ _ _ _ _ _ _ _ _ _)
   | (with_reducible exact ih6 _ _ _ _ _ _ _ _ _ _ _ _)
   | (with_reducible exact impl_WalOk.mono _ _ _ _ _ _)
   | (with_reducible exact impl_WalStep.mono _ _ _ _ _ _ _ _ _ _ _)
   | (with_reducible exact LeO.refl _)
   | (with_reducible exact LeO.none _)
   | (with_reducible refine LeO.ite ?_ ?_)
   | (with_reducible refine LeO.bind ?_ (fun _ => ?_))
   | exact ih0 _ _ _ _ _ _ _ _ _ _ _
   | exact ih1 _ _ _ _ _ _ _ _ _ _ _ _
   | exact ih2 _ _ _ _ _ _ _ _ _ _ _
   | exact ih3 _ _ _ _ _ _ _ _ _ _ _ _
   | exact ih4 _ _ _ _ _ _ _ _ _ _ _ _
   | exact ih5 _ _ _ _ _ _ _ _ _ _
   | exact ih6 _ _ _ _ _ _ _ _ _ _ _ _
   | exact impl_WalOk.mono _ _ _ _ _ _
   | exact impl_WalStep.mono _ _ _ _ _ _ _ _ _ _ _
   | exact LeO.none _
   | refine LeO.ite ?_ ?_
   | refine LeO.bind ?_ (fun _ => ?_)
theorem impl_Changes.mono : ∀ a0 a1 a2 a3 a4 a5 a6 a7 a8 a9 k, LeO (impl_Changes.f k a0 a1 a2 a3 a4 a5 a6 a7 a8 a9) (impl_Changes.f (k + 1) a0 a1 a2 a3 a4 a5 a6 a7 a8 a9) := by
 intro a0 a1 a2 a3 a4 a5 a6 a7 a8 a9 k
 obtain ⟨ih0, ih1, ih2, ih3, ih4, ih5, ih6⟩ := impl_Changes.mono_l k
 unfold impl_Changes.f
 repeat' first
   | (with_reducible exact ih0 _ _ _ _ _ _ _ _ _ _ _)
   | (with_reducible exact ih1 _ _ _ _ _ _ _ _ _ _ _ _)
   | (with_reducible exact ih2 _ _ _ _ _ _ _ _ _ _ _)
   | (with_reducible exact ih3 _ _ _ _ _ _ _ _ _ _ _ _)
   | (with_reducible exact ih4 _ _ _ _ _ _ _ _ _ _ _ _)
   | (with_reducible exact ih5 _ _ _ _ _ _ _ _ _ _)
   | (with_reducible exact ih6 _ _ _ _ _ _ _ _ _ _ _ _)
   | (with_reducible exact impl_WalOk.mono _ _ _ _ _ _)
   | (with_reducible exact impl_WalStep.mono _ _ _ _ _ _ _ _ _ _ _)
   | (with_reducible exact LeO.refl _)
   | (with_reducible exact LeO.none _)
   | (with_reducible refine LeO.ite ?_ ?_)
   | (with_reducible refine LeO.bind ?_ (fun _ => ?_))
   | exact ih0 _ _ _ _ _ _ _ _ _ _ _
   | exact ih1 _ _ _ _ _ _ _ _ _ _ _ _
   | exact ih2 _ _ _ _ _ _ _ _ _ _ _
   | exact ih3 _ _ _ _ _ _ _ _ _ _ _ _
   | exact ih4 _ _ _ _ _ _ _ _ _ _ _ _
   | exact ih5 _ _ _ _ _ _ _ _ _ _
   | exact ih6 _ _ _ _ _ _ _ _ _ _ _ _
   | exact impl_WalOk.mono _ _ _ _ _ _
   | exact impl_WalStep.mono _ _ _ _ _ _ _ _ _ _ _
   | exact LeO.none _
   | refine LeO.ite ?_ ?_
   | refine LeO.bind ?_ (fun _ => ?_)
set_option maxHeartbeats 8000000 in
set_option maxRecDepth 100000 in
theorem impl_Changes.calls (k : Nat) (a0_0 : Int) (a0_1 : Int) (a0_2 : Int) (a0_3 : Int) (A0_4 : Option Addr) (c0_4 : Nat) (l0_4 : List (S146)) (a1_0 : Int) (a1_1 : Int) (a1_2 : Int) (a1_3 : Int) (A1_4 : Option Addr) (c1_4 : Nat) (l1_4 : List (S146)) (r1 : List (S96)) (r2 : Bool) (w : World) (hr0_4 : Kd.C k146 w A0_4 l0_4.length l0_4) (hc0_4 : l0_4.length ≤ c0_4) (hr1_4 : Kd.C k146 w A1_4 l1_4.length l1_4) (hc1_4 : l1_4.length ≤ c1_4) (h : impl_Changes.f k a0_0 a0_1 a0_2 a0_3 l0_4 a1_0 a1_1 a1_2 a1_3 l1_4 = some (r1, r2)) :
  Calls Try.prog 63 #[.agg #[.int .i64 a0_0, .int .i64 a0_1, .int .i64 a0_2, .int .i64 a0_3, .slice A0_4 l0_4.length c0_4], .agg #[.int .i64 a1_0, .int .i64 a1_1, .int .i64 a1_2, .int .i64 a1_3, .slice A1_4 l1_4.length c1_4]] w fun e w' => ∃ v0_ : Value, e = .returned (.tuple #[v0_, .bool r2]) ∧ Kd.R k96 96 w' w.heap.size (fun _ => True) v0_ r1 ∧ Below w.heap.size w w' := by
 have hu50 := Try.underlying50
 have hu96 := Try.underlying96
 have hu146 := Try.underlying146
 have HR0_4 := Aside0.mk hr0_4
 have HC0_4 := Aside0.mk hc0_4
 clear hr0_4 hc0_4; have HR1_4 := Aside0.mk hr1_4
 have HC1_4 := Aside0.mk hc1_4
 clear hr1_4 hc1_4; have HB := Aside0.mk (Below.refl w.heap.size w)
 have H : ((impl_WalOk.f k a0_0 a0_1 a0_2 a0_3 l0_4).bind fun t281 => (if t281 = true then ((impl_WalOk.f k a1_0 a1_1 a1_2 a1_3 l1_4).bind fun t282 => (if t282 = true then (if a0_2 = a1_2 then (impl_Changes.j0 k (a0_3 != a1_3) a0_0 a0_1 a0_2 a0_3 l0_4 a1_0 a1_1 a1_2 a1_3 l1_4) else (impl_Changes.j0 k true a0_0 a0_1 a0_2 a0_3 l0_4 a1_0 a1_1 a1_2 a1_3 l1_4)) else (impl_Changes.j0 k true a0_0 a0_1 a0_2 a0_3 l0_4 a1_0 a1_1 a1_2 a1_3 l1_4))) else (impl_Changes.j0 k true a0_0 a0_1 a0_2 a0_3 l0_4 a1_0 a1_1 a1_2 a1_3 l1_4))) = some (r1, r2) := h
 clear h; have HC3 := Aside0.mk H
 clear H
 go_enter Try.func63, Try.ntmps63
 go_upto_region 1 with (first | ((with_reducible refine gate_dst (N := 2) rfl ?_); (try (refine gate_guard (by rfl) ?_; dsimp only)); refine box_event ?hg (N := 2) ?hd (cs := #[.int .i64 a0_0, .int .i64 a0_1, .int .i64 a0_2, .int .i64 a0_3, .slice A0_4 l0_4.length c0_4]) (t := 50) ?hr ?_; (case hd => rfl); (case hg => rfl); (case hr => first | (go_simp; done) | (go_simp; rfl)); intro gb279 hg w4 hbox hb; have BK279 := Aside0.mk (hbox); have GW279 := bs HB hg; have GE279 := bs HB hg; replace HB := bh HB hb; clear hb hbox hg) | ((with_reducible refine gate_dst (N := 3) rfl ?_); (try (refine gate_guard (by rfl) ?_; dsimp only)); refine box_event ?hg (N := 3) ?hd (cs := #[.int .i64 a1_0, .int .i64 a1_1, .int .i64 a1_2, .int .i64 a1_3, .slice A1_4 l1_4.length c1_4]) (t := 50) ?hr ?_; (case hd => rfl); (case hg => rfl); (case hr => first | (go_simp; done) | (go_simp; rfl)); intro gb280 hg w5 hbox hb; have BK280 := Aside0.mk (hbox); have GW280 := bs HB hg; have GE280 := bs HB hg; have NB279_280 := bl BK279 hg; have NB280_279 := bg BK279 hg; replace BK279 := bq BK279 hb; replace HB := bh HB hb; clear hb hbox hg))
 repeat (go_quiet (first | ((with_reducible refine gate_dst (N := 2) rfl ?_); (try (refine gate_guard (by rfl) ?_; dsimp only)); refine box_event ?hg (N := 2) ?hd (cs := #[.int .i64 a0_0, .int .i64 a0_1, .int .i64 a0_2, .int .i64 a0_3, .slice A0_4 l0_4.length c0_4]) (t := 50) ?hr ?_; (case hd => rfl); (case hg => rfl); (case hr => first | (go_simp; done) | (go_simp; rfl)); intro gb279 hg w4 hbox hb; have BK279 := Aside0.mk (hbox); have GW279 := bs HB hg; have GE279 := bs HB hg; replace HB := bh HB hb; clear hb hbox hg) | ((with_reducible refine gate_dst (N := 3) rfl ?_); (try (refine gate_guard (by rfl) ?_; dsimp only)); refine box_event ?hg (N := 3) ?hd (cs := #[.int .i64 a1_0, .int .i64 a1_1, .int .i64 a1_2, .int .i64 a1_3, .slice A1_4 l1_4.length c1_4]) (t := 50) ?hr ?_; (case hd => rfl); (case hg => rfl); (case hr => first | (go_simp; done) | (go_simp; rfl)); intro gb280 hg w5 hbox hb; have BK280 := Aside0.mk (hbox); have GW280 := bs HB hg; have GE280 := bs HB hg; have NB279_280 := bl BK279 hg; have NB280_279 := bg BK279 hg; replace BK279 := bq BK279 hb; replace HB := bh HB hb; clear hb hbox hg)); go_upto_region 1 with (first | ((with_reducible refine gate_dst (N := 2) rfl ?_); (try (refine gate_guard (by rfl) ?_; dsimp only)); refine box_event ?hg (N := 2) ?hd (cs := #[.int .i64 a0_0, .int .i64 a0_1, .int .i64 a0_2, .int .i64 a0_3, .slice A0_4 l0_4.length c0_4]) (t := 50) ?hr ?_; (case hd => rfl); (case hg => rfl); (case hr => first | (go_simp; done) | (go_simp; rfl)); intro gb279 hg w4 hbox hb; have BK279 := Aside0.mk (hbox); have GW279 := bs HB hg; have GE279 := bs HB hg; replace HB := bh HB hb; clear hb hbox hg) | ((with_reducible refine gate_dst (N := 3) rfl ?_); (try (refine gate_guard (by rfl) ?_; dsimp only)); refine box_event ?hg (N := 3) ?hd (cs := #[.int .i64 a1_0, .int .i64 a1_1, .int .i64 a1_2, .int .i64 a1_3, .slice A1_4 l1_4.length c1_4]) (t := 50) ?hr ?_; (case hd => rfl); (case hg => rfl); (case hr => first | (go_simp; done) | (go_simp; rfl)); intro gb280 hg w5 hbox hb; have BK280 := Aside0.mk (hbox); have GW280 := bs HB hg; have GE280 := bs HB hg; have NB279_280 := bl BK279 hg; have NB280_279 := bg BK279 hg; replace BK279 := bq BK279 hb; replace HB := bh HB hb; clear hb hbox hg)))
 (try simp only [putL])
 go_cut [34] (fun v34 wc => ∃ (kq : Nat) (x34_2 : Bool), v34 = .bool x34_2 ∧ Aside0 (impl_Changes.j0 kq x34_2 a0_0 a0_1 a0_2 a0_3 l0_4 a1_0 a1_1 a1_2 a1_3 l1_4 = some (r1, r2)) ∧ Aside0 (kq ≤ k) ∧ Aside0 (wc.heap[gb279]? = some (.cells #[.int .i64 a0_0, .int .i64 a0_1, .int .i64 a0_2, .int .i64 a0_3, (.slice A0_4 l0_4.length c0_4)] 50 (0, 0))) ∧ Aside0 (wc.heap[gb280]? = some (.cells #[.int .i64 a1_0, .int .i64 a1_1, .int .i64 a1_2, .int .i64 a1_3, (.slice A1_4 l1_4.length c1_4)] 50 (0, 0))) ∧ Aside0 (Below w.heap.size w wc))
 case first =>
  have H := HC3.out; clear HC3; replace H := Option.bind_eq_some_iff.mp H
  obtain ⟨t281, A60, H⟩ := H
  replace H : (if t281 = true then ((impl_WalOk.f k a1_0 a1_1 a1_2 a1_3 l1_4).bind fun t282 => (if t282 = true then (if a0_2 = a1_2 then (impl_Changes.j0 k (a0_3 != a1_3) a0_0 a0_1 a0_2 a0_3 l0_4 a1_0 a1_1 a1_2 a1_3 l1_4) else (impl_Changes.j0 k true a0_0 a0_1 a0_2 a0_3 l0_4 a1_0 a1_1 a1_2 a1_3 l1_4)) else (impl_Changes.j0 k true a0_0 a0_1 a0_2 a0_3 l0_4 a1_0 a1_1 a1_2 a1_3 l1_4))) else (impl_Changes.j0 k true a0_0 a0_1 a0_2 a0_3 l0_4 a1_0 a1_1 a1_2 a1_3 l1_4)) = some (r1, r2) := H
  have A6 := Aside0.mk A60
  clear A60
  by_cases c7 : t281 = true
  ·subst c7
   have H1 : ((impl_WalOk.f k a1_0 a1_1 a1_2 a1_3 l1_4).bind fun t282 => (if t282 = true then (if a0_2 = a1_2 then (impl_Changes.j0 k (a0_3 != a1_3) a0_0 a0_1 a0_2 a0_3 l0_4 a1_0 a1_1 a1_2 a1_3 l1_4) else (impl_Changes.j0 k true a0_0 a0_1 a0_2 a0_3 l0_4 a1_0 a1_1 a1_2 a1_3 l1_4)) else (impl_Changes.j0 k true a0_0 a0_1 a0_2 a0_3 l0_4 a1_0 a1_1 a1_2 a1_3 l1_4))) = some (r1, r2) := by rw [if_pos rfl] at H; exact H
   clear H; have H := H1
   clear H1; replace H := Option.bind_eq_some_iff.mp H
   obtain ⟨t282, A80, H⟩ := H
   replace H : (if t282 = true then (if a0_2 = a1_2 then (impl_Changes.j0 k (a0_3 != a1_3) a0_0 a0_1 a0_2 a0_3 l0_4 a1_0 a1_1 a1_2 a1_3 l1_4) else (impl_Changes.j0 k true a0_0 a0_1 a0_2 a0_3 l0_4 a1_0 a1_1 a1_2 a1_3 l1_4)) else (impl_Changes.j0 k true a0_0 a0_1 a0_2 a0_3 l0_4 a1_0 a1_1 a1_2 a1_3 l1_4)) = some (r1, r2) := H
   have A8 := Aside0.mk A80
   clear A80
   by_cases c9 : t282 = true
   ·subst c9
    have H1 : (if a0_2 = a1_2 then (impl_Changes.j0 k (a0_3 != a1_3) a0_0 a0_1 a0_2 a0_3 l0_4 a1_0 a1_1 a1_2 a1_3 l1_4) else (impl_Changes.j0 k true a0_0 a0_1 a0_2 a0_3 l0_4 a1_0 a1_1 a1_2 a1_3 l1_4)) = some (r1, r2) := by rw [if_pos rfl] at H; exact H
    clear H; have H := H1
    clear H1
    by_cases c10 : a0_2 = a1_2
    ·rw [if_pos c10] at H
     have c10b0 : (a0_2 == a1_2) = true := beq_iff_eq.mpr c10
     have c10b1 : (a0_2 != a1_2) = false := bne_eq_false_iff_eq.mpr c10
     clear c10
     (first | rw [c10b0] | (simp only [i64_w, i32_w]; rw [c10b0]) | skip)
     have H' := Aside0.mk H
     clear H; have hnb11 := NB279_280.out; have hnc11 := NB280_279.out; obtain ⟨hcz12_0, hcz12_1, hcz12_2, hcz12_3, hcz12_4⟩ := cs5 BK279; obtain ⟨hfz12_0, hfz12_1, hfz12_2, hfz12_3, hfz12_4⟩ := fs5 BK279
     go_wp2_with (first | (go_at_call 111; (with_reducible refine (impl_WalOk.calls k a0_0 a0_1 a0_2 a0_3 _ _ l0_4 true _ ?side1 ?side2 A6.out).mono ?_); (case side1 => repeat (first | exact (Kd.C_below HR0_4.out HB.out) | (with_reducible refine Kd.C_alloc ?_ _) | (with_reducible refine Kd.C_drewN ?_ _) | (with_reducible refine Kd.C_drew ?_))); (case side2 => exact HC0_4.out); rintro e w13 ⟨rfl, hb⟩; replace BK279 := bq BK279 hb; replace BK280 := bq BK280 hb; replace HB := bh HB hb; (try clear hb); (try clear hb2); (try clear hk); (try clear hi); obtain ⟨hcz14_0, hcz14_1, hcz14_2, hcz14_3, hcz14_4⟩ := cs5 BK280; obtain ⟨hfz14_0, hfz14_1, hfz14_2, hfz14_3, hfz14_4⟩ := fs5 BK280) | (go_at_call 111; (with_reducible refine (impl_WalOk.calls k a1_0 a1_1 a1_2 a1_3 _ _ l1_4 true _ ?side1 ?side2 A8.out).mono ?_); (case side1 => repeat (first | exact (Kd.C_below HR1_4.out HB.out) | (with_reducible refine Kd.C_alloc ?_ _) | (with_reducible refine Kd.C_drewN ?_ _) | (with_reducible refine Kd.C_drew ?_))); (case side2 => exact HC1_4.out); rintro e w15 ⟨rfl, hb⟩; replace BK279 := bq BK279 hb; replace BK280 := bq BK280 hb; replace HB := bh HB hb; (try clear hb); (try clear hb2); (try clear hk); (try clear hi); obtain ⟨hcz16_0, hcz16_1, hcz16_2, hcz16_3, hcz16_4⟩ := cs5 BK279; obtain ⟨hfz16_0, hfz16_1, hfz16_2, hfz16_3, hfz16_4⟩ := fs5 BK279; obtain ⟨hcz17_0, hcz17_1, hcz17_2, hcz17_3, hcz17_4⟩ := cs5 BK280; obtain ⟨hfz17_0, hfz17_1, hfz17_2, hfz17_3, hfz17_4⟩ := fs5 BK280))
     repeat (go_quiet (first | (go_at_call 111; (with_reducible refine (impl_WalOk.calls k a0_0 a0_1 a0_2 a0_3 _ _ l0_4 true _ ?side1 ?side2 A6.out).mono ?_); (case side1 => repeat (first | exact (Kd.C_below HR0_4.out HB.out) | (with_reducible refine Kd.C_alloc ?_ _) | (with_reducible refine Kd.C_drewN ?_ _) | (with_reducible refine Kd.C_drew ?_))); (case side2 => exact HC0_4.out); rintro e w13 ⟨rfl, hb⟩; replace BK279 := bq BK279 hb; replace BK280 := bq BK280 hb; replace HB := bh HB hb; (try clear hb); (try clear hb2); (try clear hk); (try clear hi); obtain ⟨hcz14_0, hcz14_1, hcz14_2, hcz14_3, hcz14_4⟩ := cs5 BK280; obtain ⟨hfz14_0, hfz14_1, hfz14_2, hfz14_3, hfz14_4⟩ := fs5 BK280) | (go_at_call 111; (with_reducible refine (impl_WalOk.calls k a1_0 a1_1 a1_2 a1_3 _ _ l1_4 true _ ?side1 ?side2 A8.out).mono ?_); (case side1 => repeat (first | exact (Kd.C_below HR1_4.out HB.out) | (with_reducible refine Kd.C_alloc ?_ _) | (with_reducible refine Kd.C_drewN ?_ _) | (with_reducible refine Kd.C_drew ?_))); (case side2 => exact HC1_4.out); rintro e w15 ⟨rfl, hb⟩; replace BK279 := bq BK279 hb; replace BK280 := bq BK280 hb; replace HB := bh HB hb; (try clear hb); (try clear hb2); (try clear hk); (try clear hi); obtain ⟨hcz16_0, hcz16_1, hcz16_2, hcz16_3, hcz16_4⟩ := cs5 BK279; obtain ⟨hfz16_0, hfz16_1, hfz16_2, hfz16_3, hfz16_4⟩ := fs5 BK279; obtain ⟨hcz17_0, hcz17_1, hcz17_2, hcz17_3, hcz17_4⟩ := cs5 BK280; obtain ⟨hfz17_0, hfz17_1, hfz17_2, hfz17_3, hfz17_4⟩ := fs5 BK280)); try go_wp2_with (first | (go_at_call 111; (with_reducible refine (impl_WalOk.calls k a0_0 a0_1 a0_2 a0_3 _ _ l0_4 true _ ?side1 ?side2 A6.out).mono ?_); (case side1 => repeat (first | exact (Kd.C_below HR0_4.out HB.out) | (with_reducible refine Kd.C_alloc ?_ _) | (with_reducible refine Kd.C_drewN ?_ _) | (with_reducible refine Kd.C_drew ?_))); (case side2 => exact HC0_4.out); rintro e w13 ⟨rfl, hb⟩; replace BK279 := bq BK279 hb; replace BK280 := bq BK280 hb; replace HB := bh HB hb; (try clear hb); (try clear hb2); (try clear hk); (try clear hi); obtain ⟨hcz14_0, hcz14_1, hcz14_2, hcz14_3, hcz14_4⟩ := cs5 BK280; obtain ⟨hfz14_0, hfz14_1, hfz14_2, hfz14_3, hfz14_4⟩ := fs5 BK280) | (go_at_call 111; (with_reducible refine (impl_WalOk.calls k a1_0 a1_1 a1_2 a1_3 _ _ l1_4 true _ ?side1 ?side2 A8.out).mono ?_); (case side1 => repeat (first | exact (Kd.C_below HR1_4.out HB.out) | (with_reducible refine Kd.C_alloc ?_ _) | (with_reducible refine Kd.C_drewN ?_ _) | (with_reducible refine Kd.C_drew ?_))); (case side2 => exact HC1_4.out); rintro e w15 ⟨rfl, hb⟩; replace BK279 := bq BK279 hb; replace BK280 := bq BK280 hb; replace HB := bh HB hb; (try clear hb); (try clear hb2); (try clear hk); (try clear hi); obtain ⟨hcz16_0, hcz16_1, hcz16_2, hcz16_3, hcz16_4⟩ := cs5 BK279; obtain ⟨hfz16_0, hfz16_1, hfz16_2, hfz16_3, hfz16_4⟩ := fs5 BK279; obtain ⟨hcz17_0, hcz17_1, hcz17_2, hcz17_3, hcz17_4⟩ := cs5 BK280; obtain ⟨hfz17_0, hfz17_1, hfz17_2, hfz17_3, hfz17_4⟩ := fs5 BK280)))
     go_meet
     case rel => exact ⟨_, ((a0_3 != a1_3)), (by first | rfl | (simp; done) | (simp [*]; done)), H', ⟨by first | omega | exact Nat.le_refl _⟩, ⟨bb BK279⟩, ⟨bb BK280⟩, ⟨by repeat (first | (with_reducible first | exact HB.out | apply below_alloc | apply pw_below_drewN | apply below_drew1 | refine below_set ?_ GE279.out | refine below_set ?_ GE280.out) | exact HB.out)⟩⟩
    ·rw [if_neg c10] at H
     have c10b0 : (a0_2 == a1_2) = false := beq_eq_false_iff_ne.mpr c10
     have c10b1 : (a0_2 != a1_2) = true := bne_iff_ne.mpr c10
     (first | rw [c10b0] | (simp only [i64_w, i32_w]; rw [c10b0]) | skip)
     have H' := Aside0.mk H
     clear H; have hnb18 := NB279_280.out; have hnc18 := NB280_279.out; obtain ⟨hcz19_0, hcz19_1, hcz19_2, hcz19_3, hcz19_4⟩ := cs5 BK279; obtain ⟨hfz19_0, hfz19_1, hfz19_2, hfz19_3, hfz19_4⟩ := fs5 BK279
     go_wp2_with (first | (go_at_call 111; (with_reducible refine (impl_WalOk.calls k a0_0 a0_1 a0_2 a0_3 _ _ l0_4 true _ ?side1 ?side2 A6.out).mono ?_); (case side1 => repeat (first | exact (Kd.C_below HR0_4.out HB.out) | (with_reducible refine Kd.C_alloc ?_ _) | (with_reducible refine Kd.C_drewN ?_ _) | (with_reducible refine Kd.C_drew ?_))); (case side2 => exact HC0_4.out); rintro e w20 ⟨rfl, hb⟩; replace BK279 := bq BK279 hb; replace BK280 := bq BK280 hb; replace HB := bh HB hb; (try clear hb); (try clear hb2); (try clear hk); (try clear hi); obtain ⟨hcz21_0, hcz21_1, hcz21_2, hcz21_3, hcz21_4⟩ := cs5 BK280; obtain ⟨hfz21_0, hfz21_1, hfz21_2, hfz21_3, hfz21_4⟩ := fs5 BK280) | (go_at_call 111; (with_reducible refine (impl_WalOk.calls k a1_0 a1_1 a1_2 a1_3 _ _ l1_4 true _ ?side1 ?side2 A8.out).mono ?_); (case side1 => repeat (first | exact (Kd.C_below HR1_4.out HB.out) | (with_reducible refine Kd.C_alloc ?_ _) | (with_reducible refine Kd.C_drewN ?_ _) | (with_reducible refine Kd.C_drew ?_))); (case side2 => exact HC1_4.out); rintro e w22 ⟨rfl, hb⟩; replace BK279 := bq BK279 hb; replace BK280 := bq BK280 hb; replace HB := bh HB hb; (try clear hb); (try clear hb2); (try clear hk); (try clear hi); obtain ⟨hcz23_0, hcz23_1, hcz23_2, hcz23_3, hcz23_4⟩ := cs5 BK279; obtain ⟨hfz23_0, hfz23_1, hfz23_2, hfz23_3, hfz23_4⟩ := fs5 BK279; obtain ⟨hcz24_0, hcz24_1, hcz24_2, hcz24_3, hcz24_4⟩ := cs5 BK280; obtain ⟨hfz24_0, hfz24_1, hfz24_2, hfz24_3, hfz24_4⟩ := fs5 BK280))
     repeat (go_quiet (first | (go_at_call 111; (with_reducible refine (impl_WalOk.calls k a0_0 a0_1 a0_2 a0_3 _ _ l0_4 true _ ?side1 ?side2 A6.out).mono ?_); (case side1 => repeat (first | exact (Kd.C_below HR0_4.out HB.out) | (with_reducible refine Kd.C_alloc ?_ _) | (with_reducible refine Kd.C_drewN ?_ _) | (with_reducible refine Kd.C_drew ?_))); (case side2 => exact HC0_4.out); rintro e w20 ⟨rfl, hb⟩; replace BK279 := bq BK279 hb; replace BK280 := bq BK280 hb; replace HB := bh HB hb; (try clear hb); (try clear hb2); (try clear hk); (try clear hi); obtain ⟨hcz21_0, hcz21_1, hcz21_2, hcz21_3, hcz21_4⟩ := cs5 BK280; obtain ⟨hfz21_0, hfz21_1, hfz21_2, hfz21_3, hfz21_4⟩ := fs5 BK280) | (go_at_call 111; (with_reducible refine (impl_WalOk.calls k a1_0 a1_1 a1_2 a1_3 _ _ l1_4 true _ ?side1 ?side2 A8.out).mono ?_); (case side1 => repeat (first | exact (Kd.C_below HR1_4.out HB.out) | (with_reducible refine Kd.C_alloc ?_ _) | (with_reducible refine Kd.C_drewN ?_ _) | (with_reducible refine Kd.C_drew ?_))); (case side2 => exact HC1_4.out); rintro e w22 ⟨rfl, hb⟩; replace BK279 := bq BK279 hb; replace BK280 := bq BK280 hb; replace HB := bh HB hb; (try clear hb); (try clear hb2); (try clear hk); (try clear hi); obtain ⟨hcz23_0, hcz23_1, hcz23_2, hcz23_3, hcz23_4⟩ := cs5 BK279; obtain ⟨hfz23_0, hfz23_1, hfz23_2, hfz23_3, hfz23_4⟩ := fs5 BK279; obtain ⟨hcz24_0, hcz24_1, hcz24_2, hcz24_3, hcz24_4⟩ := cs5 BK280; obtain ⟨hfz24_0, hfz24_1, hfz24_2, hfz24_3, hfz24_4⟩ := fs5 BK280)); try go_wp2_with (first | (go_at_call 111; (with_reducible refine (impl_WalOk.calls k a0_0 a0_1 a0_2 a0_3 _ _ l0_4 true _ ?side1 ?side2 A6.out).mono ?_); (case side1 => repeat (first | exact (Kd.C_below HR0_4.out HB.out) | (with_reducible refine Kd.C_alloc ?_ _) | (with_reducible refine Kd.C_drewN ?_ _) | (with_reducible refine Kd.C_drew ?_))); (case side2 => exact HC0_4.out); rintro e w20 ⟨rfl, hb⟩; replace BK279 := bq BK279 hb; replace BK280 := bq BK280 hb; replace HB := bh HB hb; (try clear hb); (try clear hb2); (try clear hk); (try clear hi); obtain ⟨hcz21_0, hcz21_1, hcz21_2, hcz21_3, hcz21_4⟩ := cs5 BK280; obtain ⟨hfz21_0, hfz21_1, hfz21_2, hfz21_3, hfz21_4⟩ := fs5 BK280) | (go_at_call 111; (with_reducible refine (impl_WalOk.calls k a1_0 a1_1 a1_2 a1_3 _ _ l1_4 true _ ?side1 ?side2 A8.out).mono ?_); (case side1 => repeat (first | exact (Kd.C_below HR1_4.out HB.out) | (with_reducible refine Kd.C_alloc ?_ _) | (with_reducible refine Kd.C_drewN ?_ _) | (with_reducible refine Kd.C_drew ?_))); (case side2 => exact HC1_4.out); rintro e w22 ⟨rfl, hb⟩; replace BK279 := bq BK279 hb; replace BK280 := bq BK280 hb; replace HB := bh HB hb; (try clear hb); (try clear hb2); (try clear hk); (try clear hi); obtain ⟨hcz23_0, hcz23_1, hcz23_2, hcz23_3, hcz23_4⟩ := cs5 BK279; obtain ⟨hfz23_0, hfz23_1, hfz23_2, hfz23_3, hfz23_4⟩ := fs5 BK279; obtain ⟨hcz24_0, hcz24_1, hcz24_2, hcz24_3, hcz24_4⟩ := cs5 BK280; obtain ⟨hfz24_0, hfz24_1, hfz24_2, hfz24_3, hfz24_4⟩ := fs5 BK280)))
     go_meet
     case rel => exact ⟨_, (true), (by first | rfl | (simp; done) | (simp [*]; done)), H', ⟨by first | omega | exact Nat.le_refl _⟩, ⟨bb BK279⟩, ⟨bb BK280⟩, ⟨by repeat (first | (with_reducible first | exact HB.out | apply below_alloc | apply pw_below_drewN | apply below_drew1 | refine below_set ?_ GE279.out | refine below_set ?_ GE280.out) | exact HB.out)⟩⟩
   ·replace c9 := Bool.eq_false_iff.mpr c9
    subst c9
    have H1 : (impl_Changes.j0 k true a0_0 a0_1 a0_2 a0_3 l0_4 a1_0 a1_1 a1_2 a1_3 l1_4) = some (r1, r2) := by rw [if_neg (show ¬ (false = true) by decide)] at H; exact H
    clear H; have H := H1
    clear H1; have H' := Aside0.mk H
    clear H; have hnb25 := NB279_280.out; have hnc25 := NB280_279.out; obtain ⟨hcz26_0, hcz26_1, hcz26_2, hcz26_3, hcz26_4⟩ := cs5 BK279; obtain ⟨hfz26_0, hfz26_1, hfz26_2, hfz26_3, hfz26_4⟩ := fs5 BK279
    go_wp2_with (first | (go_at_call 111; (with_reducible refine (impl_WalOk.calls k a0_0 a0_1 a0_2 a0_3 _ _ l0_4 true _ ?side1 ?side2 A6.out).mono ?_); (case side1 => repeat (first | exact (Kd.C_below HR0_4.out HB.out) | (with_reducible refine Kd.C_alloc ?_ _) | (with_reducible refine Kd.C_drewN ?_ _) | (with_reducible refine Kd.C_drew ?_))); (case side2 => exact HC0_4.out); rintro e w27 ⟨rfl, hb⟩; replace BK279 := bq BK279 hb; replace BK280 := bq BK280 hb; replace HB := bh HB hb; (try clear hb); (try clear hb2); (try clear hk); (try clear hi); obtain ⟨hcz28_0, hcz28_1, hcz28_2, hcz28_3, hcz28_4⟩ := cs5 BK280; obtain ⟨hfz28_0, hfz28_1, hfz28_2, hfz28_3, hfz28_4⟩ := fs5 BK280) | (go_at_call 111; (with_reducible refine (impl_WalOk.calls k a1_0 a1_1 a1_2 a1_3 _ _ l1_4 false _ ?side1 ?side2 A8.out).mono ?_); (case side1 => repeat (first | exact (Kd.C_below HR1_4.out HB.out) | (with_reducible refine Kd.C_alloc ?_ _) | (with_reducible refine Kd.C_drewN ?_ _) | (with_reducible refine Kd.C_drew ?_))); (case side2 => exact HC1_4.out); rintro e w29 ⟨rfl, hb⟩; replace BK279 := bq BK279 hb; replace BK280 := bq BK280 hb; replace HB := bh HB hb; (try clear hb); (try clear hb2); (try clear hk); (try clear hi)))
    repeat (go_quiet (first | (go_at_call 111; (with_reducible refine (impl_WalOk.calls k a0_0 a0_1 a0_2 a0_3 _ _ l0_4 true _ ?side1 ?side2 A6.out).mono ?_); (case side1 => repeat (first | exact (Kd.C_below HR0_4.out HB.out) | (with_reducible refine Kd.C_alloc ?_ _) | (with_reducible refine Kd.C_drewN ?_ _) | (with_reducible refine Kd.C_drew ?_))); (case side2 => exact HC0_4.out); rintro e w27 ⟨rfl, hb⟩; replace BK279 := bq BK279 hb; replace BK280 := bq BK280 hb; replace HB := bh HB hb; (try clear hb); (try clear hb2); (try clear hk); (try clear hi); obtain ⟨hcz28_0, hcz28_1, hcz28_2, hcz28_3, hcz28_4⟩ := cs5 BK280; obtain ⟨hfz28_0, hfz28_1, hfz28_2, hfz28_3, hfz28_4⟩ := fs5 BK280) | (go_at_call 111; (with_reducible refine (impl_WalOk.calls k a1_0 a1_1 a1_2 a1_3 _ _ l1_4 false _ ?side1 ?side2 A8.out).mono ?_); (case side1 => repeat (first | exact (Kd.C_below HR1_4.out HB.out) | (with_reducible refine Kd.C_alloc ?_ _) | (with_reducible refine Kd.C_drewN ?_ _) | (with_reducible refine Kd.C_drew ?_))); (case side2 => exact HC1_4.out); rintro e w29 ⟨rfl, hb⟩; replace BK279 := bq BK279 hb; replace BK280 := bq BK280 hb; replace HB := bh HB hb; (try clear hb); (try clear hb2); (try clear hk); (try clear hi))); try go_wp2_with (first | (go_at_call 111; (with_reducible refine (impl_WalOk.calls k a0_0 a0_1 a0_2 a0_3 _ _ l0_4 true _ ?side1 ?side2 A6.out).mono ?_); (case side1 => repeat (first | exact (Kd.C_below HR0_4.out HB.out) | (with_reducible refine Kd.C_alloc ?_ _) | (with_reducible refine Kd.C_drewN ?_ _) | (with_reducible refine Kd.C_drew ?_))); (case side2 => exact HC0_4.out); rintro e w27 ⟨rfl, hb⟩; replace BK279 := bq BK279 hb; replace BK280 := bq BK280 hb; replace HB := bh HB hb; (try clear hb); (try clear hb2); (try clear hk); (try clear hi); obtain ⟨hcz28_0, hcz28_1, hcz28_2, hcz28_3, hcz28_4⟩ := cs5 BK280; obtain ⟨hfz28_0, hfz28_1, hfz28_2, hfz28_3, hfz28_4⟩ := fs5 BK280) | (go_at_call 111; (with_reducible refine (impl_WalOk.calls k a1_0 a1_1 a1_2 a1_3 _ _ l1_4 false _ ?side1 ?side2 A8.out).mono ?_); (case side1 => repeat (first | exact (Kd.C_below HR1_4.out HB.out) | (with_reducible refine Kd.C_alloc ?_ _) | (with_reducible refine Kd.C_drewN ?_ _) | (with_reducible refine Kd.C_drew ?_))); (case side2 => exact HC1_4.out); rintro e w29 ⟨rfl, hb⟩; replace BK279 := bq BK279 hb; replace BK280 := bq BK280 hb; replace HB := bh HB hb; (try clear hb); (try clear hb2); (try clear hk); (try clear hi))))
    go_meet
    case rel => exact ⟨_, (true), (by first | rfl | (simp; done) | (simp [*]; done)), H', ⟨by first | omega | exact Nat.le_refl _⟩, ⟨bb BK279⟩, ⟨bb BK280⟩, ⟨by repeat (first | (with_reducible first | exact HB.out | apply below_alloc | apply pw_below_drewN | apply below_drew1 | refine below_set ?_ GE279.out | refine below_set ?_ GE280.out) | exact HB.out)⟩⟩
  ·replace c7 := Bool.eq_false_iff.mpr c7
   subst c7
   have H1 : (impl_Changes.j0 k true a0_0 a0_1 a0_2 a0_3 l0_4 a1_0 a1_1 a1_2 a1_3 l1_4) = some (r1, r2) := by rw [if_neg (show ¬ (false = true) by decide)] at H; exact H
   clear H; have H := H1
   clear H1; have H' := Aside0.mk H
   clear H; have hnb30 := NB279_280.out; have hnc30 := NB280_279.out; obtain ⟨hcz31_0, hcz31_1, hcz31_2, hcz31_3, hcz31_4⟩ := cs5 BK279; obtain ⟨hfz31_0, hfz31_1, hfz31_2, hfz31_3, hfz31_4⟩ := fs5 BK279
   go_wp2_with (first | (go_at_call 111; (with_reducible refine (impl_WalOk.calls k a0_0 a0_1 a0_2 a0_3 _ _ l0_4 false _ ?side1 ?side2 A6.out).mono ?_); (case side1 => repeat (first | exact (Kd.C_below HR0_4.out HB.out) | (with_reducible refine Kd.C_alloc ?_ _) | (with_reducible refine Kd.C_drewN ?_ _) | (with_reducible refine Kd.C_drew ?_))); (case side2 => exact HC0_4.out); rintro e w32 ⟨rfl, hb⟩; replace BK279 := bq BK279 hb; replace BK280 := bq BK280 hb; replace HB := bh HB hb; (try clear hb); (try clear hb2); (try clear hk); (try clear hi)))
   repeat (go_quiet (first | (go_at_call 111; (with_reducible refine (impl_WalOk.calls k a0_0 a0_1 a0_2 a0_3 _ _ l0_4 false _ ?side1 ?side2 A6.out).mono ?_); (case side1 => repeat (first | exact (Kd.C_below HR0_4.out HB.out) | (with_reducible refine Kd.C_alloc ?_ _) | (with_reducible refine Kd.C_drewN ?_ _) | (with_reducible refine Kd.C_drew ?_))); (case side2 => exact HC0_4.out); rintro e w32 ⟨rfl, hb⟩; replace BK279 := bq BK279 hb; replace BK280 := bq BK280 hb; replace HB := bh HB hb; (try clear hb); (try clear hb2); (try clear hk); (try clear hi))); try go_wp2_with (first | (go_at_call 111; (with_reducible refine (impl_WalOk.calls k a0_0 a0_1 a0_2 a0_3 _ _ l0_4 false _ ?side1 ?side2 A6.out).mono ?_); (case side1 => repeat (first | exact (Kd.C_below HR0_4.out HB.out) | (with_reducible refine Kd.C_alloc ?_ _) | (with_reducible refine Kd.C_drewN ?_ _) | (with_reducible refine Kd.C_drew ?_))); (case side2 => exact HC0_4.out); rintro e w32 ⟨rfl, hb⟩; replace BK279 := bq BK279 hb; replace BK280 := bq BK280 hb; replace HB := bh HB hb; (try clear hb); (try clear hb2); (try clear hk); (try clear hi))))
   go_meet
   case rel => exact ⟨_, (true), (by first | rfl | (simp; done) | (simp [*]; done)), H', ⟨by first | omega | exact Nat.le_refl _⟩, ⟨bb BK279⟩, ⟨bb BK280⟩, ⟨by repeat (first | (with_reducible first | exact HB.out | apply below_alloc | apply pw_below_drewN | apply below_drew1 | refine below_set ?_ GE279.out | refine below_set ?_ GE280.out) | exact HB.out)⟩⟩
 case rest =>
  clear HC3; obtain ⟨kq, x34_2, rfl, HA, HJ2, BK279, BK280, HB⟩ := hcut
  cases kq with
  | zero => exact absurd HA.out (by simp [impl_Changes.j0])
  | succ kj2 =>
   have H := HA.out; clear HA; simp only [impl_Changes.j0] at H
   by_cases c33 : x34_2 = true
   ·subst c33
    have H1 : (some (([] : List (S96)), false)) = some (r1, r2) := by rw [if_pos rfl] at H; exact H
    clear H; have H := H1
    clear H1; simp only [Option.some.injEq, Prod.mk.injEq] at H
    obtain ⟨rfl, rfl⟩ := H
    go_wp2
    repeat (go_quiet (fail); try go_wp2)
    go_ret2
    exact ⟨_, by first | rfl | (simp [errW_none, errW_some] <;> rfl) | (simp [*, errW_none, errW_some] <;> rfl), by first | exact Kd.R_nil _ _ _ _ _ | exact Kd.N_nil _ _ _ _ _ | exact Kd.V_nil _ _ _ _ _ | exact Kd.Q_nil _ _ _ _ _ | exact Kd.S_nil _ _ _ _ _, by repeat (first | (with_reducible first | exact HB.out | apply below_alloc | apply pw_below_drewN | apply below_drew1 | refine below_set ?_ GE279.out | refine below_set ?_ GE280.out) | exact HB.out)⟩
   ·replace c33 := Bool.eq_false_iff.mpr c33
    subst c33
    have H1 : ((some (([] : List (S96)) : List (S96))).bind fun y283 => (if a0_0 = a1_0 then (impl_Changes.j1 kj2 y283 (a0_1 != a1_1) a0_0 a0_1 a0_2 a0_3 l0_4 a1_0 a1_1 a1_2 a1_3 l1_4) else (impl_Changes.j1 kj2 y283 true a0_0 a0_1 a0_2 a0_3 l0_4 a1_0 a1_1 a1_2 a1_3 l1_4))) = some (r1, r2) := by rw [if_neg (show ¬ (false = true) by decide)] at H; exact H
    clear H; have H := H1
    clear H1; obtain ⟨y283, hy283⟩ : ∃ y_ : List (S96), y_ = (([] : List (S96))) := ⟨_, rfl⟩
    replace H : (if a0_0 = a1_0 then (impl_Changes.j1 kj2 y283 (a0_1 != a1_1) a0_0 a0_1 a0_2 a0_3 l0_4 a1_0 a1_1 a1_2 a1_3 l1_4) else (impl_Changes.j1 kj2 y283 true a0_0 a0_1 a0_2 a0_3 l0_4 a1_0 a1_1 a1_2 a1_3 l1_4)) = some (r1, r2) := by first | (rw [hy283]; with_reducible exact H) | (have H2_ := (Option.bind_some _ _).symm.trans H; rw [hy283]; with_reducible exact H2_) | (have H2_ := (Option.bind_some _ _).symm.trans H; with_reducible exact H2_) | with_reducible exact H | (rw [hy283]; exact H) | exact H
    have Ny283 := Aside0.mk hy283
    clear hy283; have HC34 := Aside0.mk H
    clear H
    go_upto_region 4 with (first | ((with_reducible refine gate_dst (N := 35) rfl ?_); (try (refine gate_guard (by rfl) ?_; dsimp only)); refine Kd.R_lit k96 _ 96 ?hg (N := 35) ?hd (xs := ([] : List (S96))) (inner := []) (ok := fun _ => True) (okp := fun _ => True) ?hr ?hp (fun _ hk => hk) trivial (Below.refl _ _) (Nat.le_refl _) (by simp) ?_; (case hd => rfl); (case hg => rfl); (case hr => first | (go_simp; done) | (go_simp; rfl)); (case hp => exact (Reps.none _ _)); intro v284 w35 ho36 hb hg_ hnew_; clear hg_ hnew_; (first | rw [← Ny283.out] at ho36 | (simp only [Int.reduceToNat] at ho36; rw [← Ny283.out] at ho36)); have HO285 := Aside0.mk (Kd.R_lower ho36 (below_size (be HB))); replace BK279 := bq BK279 hb; replace BK280 := bq BK280 hb; replace HB := bh HB hb; clear hb ho36))
    repeat (go_quiet (first | ((with_reducible refine gate_dst (N := 35) rfl ?_); (try (refine gate_guard (by rfl) ?_; dsimp only)); refine Kd.R_lit k96 _ 96 ?hg (N := 35) ?hd (xs := ([] : List (S96))) (inner := []) (ok := fun _ => True) (okp := fun _ => True) ?hr ?hp (fun _ hk => hk) trivial (Below.refl _ _) (Nat.le_refl _) (by simp) ?_; (case hd => rfl); (case hg => rfl); (case hr => first | (go_simp; done) | (go_simp; rfl)); (case hp => exact (Reps.none _ _)); intro v284 w35 ho36 hb hg_ hnew_; clear hg_ hnew_; (first | rw [← Ny283.out] at ho36 | (simp only [Int.reduceToNat] at ho36; rw [← Ny283.out] at ho36)); have HO285 := Aside0.mk (Kd.R_lower ho36 (below_size (be HB))); replace BK279 := bq BK279 hb; replace BK280 := bq BK280 hb; replace HB := bh HB hb; clear hb ho36)); go_upto_region 4 with (first | ((with_reducible refine gate_dst (N := 35) rfl ?_); (try (refine gate_guard (by rfl) ?_; dsimp only)); refine Kd.R_lit k96 _ 96 ?hg (N := 35) ?hd (xs := ([] : List (S96))) (inner := []) (ok := fun _ => True) (okp := fun _ => True) ?hr ?hp (fun _ hk => hk) trivial (Below.refl _ _) (Nat.le_refl _) (by simp) ?_; (case hd => rfl); (case hg => rfl); (case hr => first | (go_simp; done) | (go_simp; rfl)); (case hp => exact (Reps.none _ _)); intro v284 w35 ho36 hb hg_ hnew_; clear hg_ hnew_; (first | rw [← Ny283.out] at ho36 | (simp only [Int.reduceToNat] at ho36; rw [← Ny283.out] at ho36)); have HO285 := Aside0.mk (Kd.R_lower ho36 (below_size (be HB))); replace BK279 := bq BK279 hb; replace BK280 := bq BK280 hb; replace HB := bh HB hb; clear hb ho36)))
    (try simp only [putL])
    go_cut [47] (fun v47 wc => ∃ (kq : Nat) (x47_33 : Bool), v47 = .bool x47_33 ∧ Aside0 (impl_Changes.j1 kq y283 x47_33 a0_0 a0_1 a0_2 a0_3 l0_4 a1_0 a1_1 a1_2 a1_3 l1_4 = some (r1, r2)) ∧ Aside0 (kq ≤ kj2) ∧ Aside0 (Kd.R k96 96 wc w.heap.size (fun _ => True) v284 y283) ∧ Aside0 (wc.heap[gb279]? = some (.cells #[.int .i64 a0_0, .int .i64 a0_1, .int .i64 a0_2, .int .i64 a0_3, (.slice A0_4 l0_4.length c0_4)] 50 (0, 0))) ∧ Aside0 (wc.heap[gb280]? = some (.cells #[.int .i64 a1_0, .int .i64 a1_1, .int .i64 a1_2, .int .i64 a1_3, (.slice A1_4 l1_4.length c1_4)] 50 (0, 0))) ∧ Aside0 (Below w.heap.size w wc))
    case first =>
     have H := HC34.out; clear HC34
     by_cases c37 : a0_0 = a1_0
     ·rw [if_pos c37] at H
      have c37b0 : (a0_0 == a1_0) = true := beq_iff_eq.mpr c37
      have c37b1 : (a0_0 != a1_0) = false := bne_eq_false_iff_eq.mpr c37
      clear c37
      (first | rw [c37b0] | (simp only [i64_w, i32_w]; rw [c37b0]) | skip)
      have H' := Aside0.mk H
      clear H; have hnb38 := NB279_280.out; have hnc38 := NB280_279.out; obtain ⟨hcz39_0, hcz39_1, hcz39_2, hcz39_3, hcz39_4⟩ := cs5 BK279; obtain ⟨hfz39_0, hfz39_1, hfz39_2, hfz39_3, hfz39_4⟩ := fs5 BK279; obtain ⟨hcz40_0, hcz40_1, hcz40_2, hcz40_3, hcz40_4⟩ := cs5 BK280; obtain ⟨hfz40_0, hfz40_1, hfz40_2, hfz40_3, hfz40_4⟩ := fs5 BK280
      go_wp2
      repeat (go_quiet (fail); try go_wp2)
      go_meet
      case rel => exact ⟨_, ((a0_1 != a1_1)), (by first | rfl | (simp; done) | (simp [*]; done)), H', ⟨by have := HJ2.out; first | omega | exact Nat.le_refl _⟩, ⟨rr HO285⟩, ⟨bb BK279⟩, ⟨bb BK280⟩, ⟨by repeat (first | (with_reducible first | exact HB.out | apply below_alloc | apply pw_below_drewN | apply below_drew1 | refine below_set ?_ GE279.out | refine below_set ?_ GE280.out) | exact HB.out)⟩⟩
     ·rw [if_neg c37] at H
      have c37b0 : (a0_0 == a1_0) = false := beq_eq_false_iff_ne.mpr c37
      have c37b1 : (a0_0 != a1_0) = true := bne_iff_ne.mpr c37
      (first | rw [c37b0] | (simp only [i64_w, i32_w]; rw [c37b0]) | skip)
      have H' := Aside0.mk H
      clear H; have hnb41 := NB279_280.out; have hnc41 := NB280_279.out; obtain ⟨hcz42_0, hcz42_1, hcz42_2, hcz42_3, hcz42_4⟩ := cs5 BK279; obtain ⟨hfz42_0, hfz42_1, hfz42_2, hfz42_3, hfz42_4⟩ := fs5 BK279; obtain ⟨hcz43_0, hcz43_1, hcz43_2, hcz43_3, hcz43_4⟩ := cs5 BK280; obtain ⟨hfz43_0, hfz43_1, hfz43_2, hfz43_3, hfz43_4⟩ := fs5 BK280
      go_wp2
      repeat (go_quiet (fail); try go_wp2)
      go_meet
      case rel => exact ⟨_, (true), (by first | rfl | (simp; done) | (simp [*]; done)), H', ⟨by have := HJ2.out; first | omega | exact Nat.le_refl _⟩, ⟨rr HO285⟩, ⟨bb BK279⟩, ⟨bb BK280⟩, ⟨by repeat (first | (with_reducible first | exact HB.out | apply below_alloc | apply pw_below_drewN | apply below_drew1 | refine below_set ?_ GE279.out | refine below_set ?_ GE280.out) | exact HB.out)⟩⟩
    case rest =>
     clear HC34
     obtain ⟨kq, x47_33, rfl, HA, HJ33, HO_6, BK279, BK280, HB⟩ := hcut
     cases kq with
     | zero => exact absurd HA.out (by simp [impl_Changes.j1])
     | succ kj33 =>
      have H := HA.out; clear HA; simp only [impl_Changes.j1] at H
      have HC44 := Aside0.mk H
      clear H
      go_upto_if 47 with (fail)
      repeat (go_quiet (fail); go_upto_if 47 with (fail))
      go_cut [6] (fun v6 wc => ∃ (kq : Nat) (x6_43 : List (S96)), Aside0 (impl_Changes.j2 kq x6_43 a0_0 a0_1 a0_2 a0_3 l0_4 a1_0 a1_1 a1_2 a1_3 l1_4 = some (r1, r2)) ∧ Aside0 (kq ≤ kj33) ∧ Aside0 (Kd.R k96 96 wc w.heap.size (fun _ => True) v6 x6_43) ∧ Aside0 (wc.heap[gb279]? = some (.cells #[.int .i64 a0_0, .int .i64 a0_1, .int .i64 a0_2, .int .i64 a0_3, (.slice A0_4 l0_4.length c0_4)] 50 (0, 0))) ∧ Aside0 (wc.heap[gb280]? = some (.cells #[.int .i64 a1_0, .int .i64 a1_1, .int .i64 a1_2, .int .i64 a1_3, (.slice A1_4 l1_4.length c1_4)] 50 (0, 0))) ∧ Aside0 (Below w.heap.size w wc))
      case first =>
       have H := HC44.out; clear HC44
       by_cases c45 : x47_33 = true
       ·subst c45
        have H1 : ((impl_WalStep.f kj33 a0_0 a0_1 a0_2 a0_3 l0_4 1 a1_0 0 a1_1 (⟨#[]⟩ : ByteArray)).bind fun bt287 => (if bt287.2.2.2.2.2 = true then (if y283.length < 2932031007402 then (impl_Changes.j2 kj33 (y283 ++ [(⟨1, a1_0, 0, a1_1, (⟨#[]⟩ : ByteArray)⟩ : S96)]) a0_0 a0_1 a0_2 a0_3 l0_4 a1_0 a1_1 a1_2 a1_3 l1_4) else (none)) else (some (([] : List (S96)), false)))) = some (r1, r2) := by rw [if_pos rfl] at H; exact H
        clear H; have H := H1
        clear H1; replace H := Option.bind_eq_some_iff.mp H
        obtain ⟨⟨t287, t288, t289, t290, t291, t294⟩, A460, H⟩ := H
        replace H : (if t294 = true then (if y283.length < 2932031007402 then (impl_Changes.j2 kj33 (y283 ++ [(⟨1, a1_0, 0, a1_1, (⟨#[]⟩ : ByteArray)⟩ : S96)]) a0_0 a0_1 a0_2 a0_3 l0_4 a1_0 a1_1 a1_2 a1_3 l1_4) else (none)) else (some (([] : List (S96)), false))) = some (r1, r2) := H
        have A46 := Aside0.mk A460
        clear A460
        by_cases c47 : t294 = true
        ·subst c47
         have H1 : (if y283.length < 2932031007402 then (impl_Changes.j2 kj33 (y283 ++ [(⟨1, a1_0, 0, a1_1, (⟨#[]⟩ : ByteArray)⟩ : S96)]) a0_0 a0_1 a0_2 a0_3 l0_4 a1_0 a1_1 a1_2 a1_3 l1_4) else (none)) = some (r1, r2) := by rw [if_pos rfl] at H; exact H
         clear H; have H := H1
         clear H1
         by_cases c48 : y283.length < 2932031007402
         ·rw [if_pos c48] at H
          have LMc48 := Aside0.mk c48
          clear c48; obtain ⟨y296, hy296⟩ : ∃ y_ : List (S96), y_ = (y283 ++ [(⟨1, a1_0, 0, a1_1, (⟨#[]⟩ : ByteArray)⟩ : S96)]) := ⟨_, rfl⟩
          replace H : (impl_Changes.j2 kj33 y296 a0_0 a0_1 a0_2 a0_3 l0_4 a1_0 a1_1 a1_2 a1_3 l1_4) = some (r1, r2) := by first | (rw [hy296]; with_reducible exact H) | (have H2_ := (Option.bind_some _ _).symm.trans H; rw [hy296]; with_reducible exact H2_) | (have H2_ := (Option.bind_some _ _).symm.trans H; with_reducible exact H2_) | with_reducible exact H | (rw [hy296]; exact H) | exact H
          have Ny296 := Aside0.mk hy296
          clear hy296; have H' := Aside0.mk H
          clear H; have hnb49 := NB280_279.out; have hnc49 := NB279_280.out; obtain ⟨hcz50_0, hcz50_1, hcz50_2, hcz50_3, hcz50_4⟩ := cs5 BK280; obtain ⟨hfz50_0, hfz50_1, hfz50_2, hfz50_3, hfz50_4⟩ := fs5 BK280
          go_wp2_with (first | ((with_reducible refine gate_dst (N := 7) rfl ?_); (try (refine gate_guard (by rfl) ?_; dsimp only)); refine box_event ?hg (N := 7) ?hd (cs := #[.int .i64 0, .int .i64 0, .int .i64 0, .int .i64 0, .string (⟨#[]⟩ : ByteArray)]) (t := 96) ?hr ?_; (case hd => rfl); (case hg => rfl); (case hr => first | (go_simp; done) | (go_simp; rfl)); intro gb286 hg w51 hbox hb; have n0_ := Aside0.mk (Kd.R_below (Kd.R_elderB (rr HO_6) gb286 (Nat.le_of_eq hg.symm)) hb); have BK286 := Aside0.mk (hbox); have GW286 := bs HB hg; have GE286 := bs HB hg; have NB279_286 := bl BK279 hg; have NB286_279 := bg BK279 hg; have NB280_286 := bl BK280 hg; have NB286_280 := bg BK280 hg; replace BK279 := bq BK279 hb; replace BK280 := bq BK280 hb; replace HB := bh HB hb; clear HO_6; have HO_6 := n0_; clear n0_; clear hb hbox hg; have hnb52 := NB286_279.out; have hnc52 := NB279_286.out; have hnb53 := NB286_280.out; have hnc53 := NB280_286.out; obtain ⟨hcz54_0, hcz54_1, hcz54_2, hcz54_3, hcz54_4⟩ := cs5 BK286; obtain ⟨hfz54_0, hfz54_1, hfz54_2, hfz54_3, hfz54_4⟩ := fs5 BK286; obtain ⟨hcz55_0, hcz55_1, hcz55_2, hcz55_3, hcz55_4⟩ := cs5 BK279; obtain ⟨hfz55_0, hfz55_1, hfz55_2, hfz55_3, hfz55_4⟩ := fs5 BK279) | (go_at_call 112; (with_reducible refine (impl_WalStep.calls kj33 a0_0 a0_1 a0_2 a0_3 _ _ l0_4 1 a1_0 0 a1_1 (⟨#[]⟩ : ByteArray) t287 t288 t289 t290 t291 true _ ?side1 ?side2 A46.out).mono ?_); (case side1 => exact Kd.C_below HR0_4.out (be HB)); (case side2 => exact HC0_4.out); rintro e w56 ⟨v292, rfl, ho0, hb⟩; have n0_ := Aside0.mk (Kd.R_below (by (with_reducible repeat (first | apply Kd.R_alloc | apply Kd.R_drewN | apply Kd.R_drew)); exact (Kd.R_mono (Kd.R_far (p := ⟨gb286, 4, none⟩) (Kd.R_far (p := ⟨gb286, 3, none⟩) (Kd.R_far (p := ⟨gb286, 2, none⟩) (Kd.R_far (p := ⟨gb286, 1, none⟩) (Kd.R_far (p := ⟨gb286, 0, none⟩) (Kd.R_mono HO_6.out (fun k_ hk => (⟨hk, hk.2⟩ : _ ∧ k_ ≠ gb286))) (fun _ hk => hk.2) (.int .i64 1)) (fun _ hk => hk.2) (.int .i64 a1_0)) (fun _ hk => hk.2) (.int .i64 0)) (fun _ hk => hk.2) (.int .i64 a1_1)) (fun _ hk => hk.2) (.string (⟨#[]⟩ : ByteArray))) (fun _ h_ => h_.1))) hb); have n2_ := bf BK279 hb; have n3_ := bf BK280 hb; have n4_ := bp #[.int .i64 1, .int .i64 a1_0, .int .i64 0, .int .i64 a1_1, .string (⟨#[]⟩ : ByteArray)] BK286 hb; have HO293 := Aside0.mk (Kd.R_lower ho0 (below_size (be HB))); replace HB := bh HB hb; clear HO_6 BK279 BK280 BK286; have HO_6 := n0_; have BK279 := n2_; have BK280 := n3_; have BK286 := n4_; clear n0_ n2_ n3_ n4_; (try clear hb); (try clear hb2); (try clear hk); (try clear hi)) | ((with_reducible refine gate_dst (N := 8) rfl ?_); (try (refine gate_guard (by rfl) ?_; dsimp only)); refine box_event ?hg (N := 8) ?hd (cs := #[.int .i64 0, .int .i64 0, .int .i64 0, .int .i64 0, .slice none 0 0]) (t := 50) ?hr ?_; (case hd => rfl); (case hg => rfl); (case hr => first | (go_simp; done) | (go_simp; rfl)); intro gb295 hg w57 hbox hb; have BK295 := Aside0.mk (hbox); have GW295 := bs HB hg; have GE295 := bs HB hg; have NB279_295 := bl BK279 hg; have NB295_279 := bg BK279 hg; have NB280_295 := bl BK280 hg; have NB295_280 := bg BK280 hg; have NB286_295 := bl BK286 hg; have NB295_286 := bg BK286 hg; replace HO_6 := Aside0.mk (Kd.R_below (rr HO_6) hb); replace HO293 := Aside0.mk (Kd.R_below (rr HO293) hb); replace BK279 := bq BK279 hb; replace BK280 := bq BK280 hb; replace BK286 := bq BK286 hb; replace HB := bh HB hb; clear hb hbox hg; have hnb58 := NB295_279.out; have hnc58 := NB279_295.out; have hnb59 := NB295_280.out; have hnc59 := NB280_295.out; have hnb60 := NB295_286.out; have hnc60 := NB286_295.out; obtain ⟨hcz61_0, hcz61_1, hcz61_2, hcz61_3, hcz61_4⟩ := cs5 BK295; obtain ⟨hfz61_0, hfz61_1, hfz61_2, hfz61_3, hfz61_4⟩ := fs5 BK295; obtain ⟨Ao62, co62, eo62⟩ := Kd.R_slice HO293.out; subst eo62; obtain ⟨hcz63_0, hcz63_1, hcz63_2, hcz63_3, hcz63_4⟩ := cs5 BK286; obtain ⟨hfz63_0, hfz63_1, hfz63_2, hfz63_3, hfz63_4⟩ := fs5 BK286) | ((with_reducible refine gate_builtin (b := .append) (xs := #[.tmp 61, .tmp 63]) rfl ?_); (try (refine gate_guard (by rfl) ?_; dsimp only)); at_builtin; refine Kd.R_append k96 (w0 := w) w.heap.size rfl (.tmp 61) (.tmp 63) 90 96 (.agg #[(.int .i64 0), (.int .i64 0), (.int .i64 0), (.int .i64 0), (.string ⟨#[]⟩)]) 48 rfl Try.underlying90 info96 rfl (by decide) (by omega) v284 y283 (⟨1, a1_0, 0, a1_1, (⟨#[]⟩ : ByteArray)⟩ : S96) [.int .i64 1, .int .i64 a1_0, .int .i64 0, .int .i64 a1_1, .string (⟨#[]⟩ : ByteArray)] (fun k_ => k_ ≠ gb286) (fun _ => False) rfl (by first | (go_simp; done) | (go_simp; rfl)) ?aP (fun _ hk => hk.elim) ?aF ?aO ?aB ?aS ?aL ?_; (case aP => exact k96_mkM _ _ _ (⟨1, a1_0, 0, a1_1, (⟨#[]⟩ : ByteArray)⟩ : S96)); (case aB => exact (be HB)); (case aF => exact (fun k_ hk => Kd.freshB (g := gb286) (o := .cells #[.int .i64 1, .int .i64 a1_0, .int .i64 0, .int .i64 a1_1, .string (⟨#[]⟩ : ByteArray)] 96 (0, 0)) (by (with_reducible repeat first | refine bkN ?_ _ | refine bkD ?_ | refine bkA ?_ _ | refine blk_far ?_ NB286_295.out _); exact BK286.out) k_ hk)); (case aO => exact (by (with_reducible repeat (first | apply Kd.R_alloc | apply Kd.R_drewN | apply Kd.R_drew)); exact Kd.R_mono (Kd.R_far (p := ⟨gb295, 4, none⟩) (Kd.R_far (p := ⟨gb295, 3, none⟩) (Kd.R_far (p := ⟨gb295, 2, none⟩) (Kd.R_far (p := ⟨gb295, 1, none⟩) (Kd.R_far (p := ⟨gb295, 0, none⟩) (Kd.R_types HO_6.out BK295.out (by decide)) (fun _ hk => hk.2) (.int .i64 t287)) (fun _ hk => hk.2) (.int .i64 t288)) (fun _ hk => hk.2) (.int .i64 t289)) (fun _ hk => hk.2) (.int .i64 t290)) (fun _ hk => hk.2) (.slice Ao62 t291.length co62)) (fun _ hk => hk.1.2))); (case aS => exact (below_size (be HB))); (case aL => have := LMc48.out; omega); intro v297 w64 ho hb hg hat; rw [← Ny296.out] at ho; have n0_ := Aside0.mk (blk_grown (g := gb279) (o := .cells #[.int .i64 a0_0, .int .i64 a0_1, .int .i64 a0_2, .int .i64 a0_3, .slice A0_4 l0_4.length c0_4] 50 (0, 0)) (by (with_reducible repeat first | refine bkN ?_ _ | refine bkD ?_ | refine bkA ?_ _ | refine blk_far ?_ NB279_295.out _); exact BK279.out) hg (Kd.R_ne HO_6.out BK279.out (by decide))); have n1_ := Aside0.mk (blk_grown (g := gb280) (o := .cells #[.int .i64 a1_0, .int .i64 a1_1, .int .i64 a1_2, .int .i64 a1_3, .slice A1_4 l1_4.length c1_4] 50 (0, 0)) (by (with_reducible repeat first | refine bkN ?_ _ | refine bkD ?_ | refine bkA ?_ _ | refine blk_far ?_ NB280_295.out _); exact BK280.out) hg (Kd.R_ne HO_6.out BK280.out (by decide))); have n2_ := Aside0.mk (blk_grown (g := gb286) (o := .cells #[.int .i64 1, .int .i64 a1_0, .int .i64 0, .int .i64 a1_1, .string (⟨#[]⟩ : ByteArray)] 96 (0, 0)) (by (with_reducible repeat first | refine bkN ?_ _ | refine bkD ?_ | refine bkA ?_ _ | refine blk_far ?_ NB286_295.out _); exact BK286.out) hg (Kd.R_away HO_6.out (fun _ hk => hk.2))); have n3_ := Aside0.mk (Kd.R_over' (by (with_reducible repeat (first | apply Kd.R_alloc | apply Kd.R_drewN | apply Kd.R_drew)); exact (Kd.R_mono (Kd.R_far (p := ⟨gb295, 4, none⟩) (Kd.R_far (p := ⟨gb295, 3, none⟩) (Kd.R_far (p := ⟨gb295, 2, none⟩) (Kd.R_far (p := ⟨gb295, 1, none⟩) (Kd.R_far (p := ⟨gb295, 0, none⟩) (Kd.R_types HO293.out BK295.out (by decide)) (fun _ hk => hk.2) (.int .i64 t287)) (fun _ hk => hk.2) (.int .i64 t288)) (fun _ hk => hk.2) (.int .i64 t289)) (fun _ hk => hk.2) (.int .i64 t290)) (fun _ hk => hk.2) (.slice Ao62 t291.length co62)) (fun _ h_ => h_.1))) (Kd.R_typed (by (with_reducible repeat (first | apply Kd.R_alloc | apply Kd.R_drewN | apply Kd.R_drew)); exact (Kd.R_mono (Kd.R_far (p := ⟨gb295, 4, none⟩) (Kd.R_far (p := ⟨gb295, 3, none⟩) (Kd.R_far (p := ⟨gb295, 2, none⟩) (Kd.R_far (p := ⟨gb295, 1, none⟩) (Kd.R_far (p := ⟨gb295, 0, none⟩) (Kd.R_types HO_6.out BK295.out (by decide)) (fun _ hk => hk.2) (.int .i64 t287)) (fun _ hk => hk.2) (.int .i64 t288)) (fun _ hk => hk.2) (.int .i64 t289)) (fun _ hk => hk.2) (.int .i64 t290)) (fun _ hk => hk.2) (.slice Ao62 t291.length co62)) (fun _ h_ => h_.1)))) (by decide) hg); have n4_ := Aside0.mk (blk_grown (g := gb295) (o := .cells #[.int .i64 t287, .int .i64 t288, .int .i64 t289, .int .i64 t290, .slice Ao62 t291.length co62] 50 (0, 0)) (by (with_reducible repeat first | refine bkN ?_ _ | refine bkD ?_ | refine bkA ?_ _); refine blk_put (cs := #[.int .i64 t287, .int .i64 t288, .int .i64 t289, .int .i64 t290, .slice none 0 0]) ?_ 4 _ rfl; (with_reducible repeat first | refine bkN ?_ _ | refine bkD ?_ | refine bkA ?_ _); refine blk_put (cs := #[.int .i64 t287, .int .i64 t288, .int .i64 t289, .int .i64 0, .slice none 0 0]) ?_ 3 _ rfl; (with_reducible repeat first | refine bkN ?_ _ | refine bkD ?_ | refine bkA ?_ _); refine blk_put (cs := #[.int .i64 t287, .int .i64 t288, .int .i64 0, .int .i64 0, .slice none 0 0]) ?_ 2 _ rfl; (with_reducible repeat first | refine bkN ?_ _ | refine bkD ?_ | refine bkA ?_ _); refine blk_put (cs := #[.int .i64 t287, .int .i64 0, .int .i64 0, .int .i64 0, .slice none 0 0]) ?_ 1 _ rfl; (with_reducible repeat first | refine bkN ?_ _ | refine bkD ?_ | refine bkA ?_ _); refine blk_put (cs := #[.int .i64 0, .int .i64 0, .int .i64 0, .int .i64 0, .slice none 0 0]) ?_ 0 _ rfl; (with_reducible repeat first | refine bkN ?_ _ | refine bkD ?_ | refine bkA ?_ _); exact BK295.out) hg (Kd.R_ne HO_6.out BK295.out (by decide))); have n5_ := Aside0.mk (hb); have HO298 := Aside0.mk (ho); clear HO_6 BK279 BK280 BK286 HO293 BK295 HB; have BK279 := n0_; have BK280 := n1_; have BK286 := n2_; have HO293 := n3_; have BK295 := n4_; have HB := n5_; clear n0_ n1_ n2_ n3_ n4_ n5_; clear ho hb hg hat))
          repeat (go_quiet (first | ((with_reducible refine gate_dst (N := 7) rfl ?_); (try (refine gate_guard (by rfl) ?_; dsimp only)); refine box_event ?hg (N := 7) ?hd (cs := #[.int .i64 0, .int .i64 0, .int .i64 0, .int .i64 0, .string (⟨#[]⟩ : ByteArray)]) (t := 96) ?hr ?_; (case hd => rfl); (case hg => rfl); (case hr => first | (go_simp; done) | (go_simp; rfl)); intro gb286 hg w51 hbox hb; have n0_ := Aside0.mk (Kd.R_below (Kd.R_elderB (rr HO_6) gb286 (Nat.le_of_eq hg.symm)) hb); have BK286 := Aside0.mk (hbox); have GW286 := bs HB hg; have GE286 := bs HB hg; have NB279_286 := bl BK279 hg; have NB286_279 := bg BK279 hg; have NB280_286 := bl BK280 hg; have NB286_280 := bg BK280 hg; replace BK279 := bq BK279 hb; replace BK280 := bq BK280 hb; replace HB := bh HB hb; clear HO_6; have HO_6 := n0_; clear n0_; clear hb hbox hg; have hnb52 := NB286_279.out; have hnc52 := NB279_286.out; have hnb53 := NB286_280.out; have hnc53 := NB280_286.out; obtain ⟨hcz54_0, hcz54_1, hcz54_2, hcz54_3, hcz54_4⟩ := cs5 BK286; obtain ⟨hfz54_0, hfz54_1, hfz54_2, hfz54_3, hfz54_4⟩ := fs5 BK286; obtain ⟨hcz55_0, hcz55_1, hcz55_2, hcz55_3, hcz55_4⟩ := cs5 BK279; obtain ⟨hfz55_0, hfz55_1, hfz55_2, hfz55_3, hfz55_4⟩ := fs5 BK279) | (go_at_call 112; (with_reducible refine (impl_WalStep.calls kj33 a0_0 a0_1 a0_2 a0_3 _ _ l0_4 1 a1_0 0 a1_1 (⟨#[]⟩ : ByteArray) t287 t288 t289 t290 t291 true _ ?side1 ?side2 A46.out).mono ?_); (case side1 => exact Kd.C_below HR0_4.out (be HB)); (case side2 => exact HC0_4.out); rintro e w56 ⟨v292, rfl, ho0, hb⟩; have n0_ := Aside0.mk (Kd.R_below (by (with_reducible repeat (first | apply Kd.R_alloc | apply Kd.R_drewN | apply Kd.R_drew)); exact (Kd.R_mono (Kd.R_far (p := ⟨gb286, 4, none⟩) (Kd.R_far (p := ⟨gb286, 3, none⟩) (Kd.R_far (p := ⟨gb286, 2, none⟩) (Kd.R_far (p := ⟨gb286, 1, none⟩) (Kd.R_far (p := ⟨gb286, 0, none⟩) (Kd.R_mono HO_6.out (fun k_ hk => (⟨hk, hk.2⟩ : _ ∧ k_ ≠ gb286))) (fun _ hk => hk.2) (.int .i64 1)) (fun _ hk => hk.2) (.int .i64 a1_0)) (fun _ hk => hk.2) (.int .i64 0)) (fun _ hk => hk.2) (.int .i64 a1_1)) (fun _ hk => hk.2) (.string (⟨#[]⟩ : ByteArray))) (fun _ h_ => h_.1))) hb); have n2_ := bf BK279 hb; have n3_ := bf BK280 hb; have n4_ := bp #[.int .i64 1, .int .i64 a1_0, .int .i64 0, .int .i64 a1_1, .string (⟨#[]⟩ : ByteArray)] BK286 hb; have HO293 := Aside0.mk (Kd.R_lower ho0 (below_size (be HB))); replace HB := bh HB hb; clear HO_6 BK279 BK280 BK286; have HO_6 := n0_; have BK279 := n2_; have BK280 := n3_; have BK286 := n4_; clear n0_ n2_ n3_ n4_; (try clear hb); (try clear hb2); (try clear hk); (try clear hi)) | ((with_reducible refine gate_dst (N := 8) rfl ?_); (try (refine gate_guard (by rfl) ?_; dsimp only)); refine box_event ?hg (N := 8) ?hd (cs := #[.int .i64 0, .int .i64 0, .int .i64 0, .int .i64 0, .slice none 0 0]) (t := 50) ?hr ?_; (case hd => rfl); (case hg => rfl); (case hr => first | (go_simp; done) | (go_simp; rfl)); intro gb295 hg w57 hbox hb; have BK295 := Aside0.mk (hbox); have GW295 := bs HB hg; have GE295 := bs HB hg; have NB279_295 := bl BK279 hg; have NB295_279 := bg BK279 hg; have NB280_295 := bl BK280 hg; have NB295_280 := bg BK280 hg; have NB286_295 := bl BK286 hg; have NB295_286 := bg BK286 hg; replace HO_6 := Aside0.mk (Kd.R_below (rr HO_6) hb); replace HO293 := Aside0.mk (Kd.R_below (rr HO293) hb); replace BK279 := bq BK279 hb; replace BK280 := bq BK280 hb; replace BK286 := bq BK286 hb; replace HB := bh HB hb; clear hb hbox hg; have hnb58 := NB295_279.out; have hnc58 := NB279_295.out; have hnb59 := NB295_280.out; have hnc59 := NB280_295.out; have hnb60 := NB295_286.out; have hnc60 := NB286_295.out; obtain ⟨hcz61_0, hcz61_1, hcz61_2, hcz61_3, hcz61_4⟩ := cs5 BK295; obtain ⟨hfz61_0, hfz61_1, hfz61_2, hfz61_3, hfz61_4⟩ := fs5 BK295; obtain ⟨Ao62, co62, eo62⟩ := Kd.R_slice HO293.out; subst eo62; obtain ⟨hcz63_0, hcz63_1, hcz63_2, hcz63_3, hcz63_4⟩ := cs5 BK286; obtain ⟨hfz63_0, hfz63_1, hfz63_2, hfz63_3, hfz63_4⟩ := fs5 BK286) | ((with_reducible refine gate_builtin (b := .append) (xs := #[.tmp 61, .tmp 63]) rfl ?_); (try (refine gate_guard (by rfl) ?_; dsimp only)); at_builtin; refine Kd.R_append k96 (w0 := w) w.heap.size rfl (.tmp 61) (.tmp 63) 90 96 (.agg #[(.int .i64 0), (.int .i64 0), (.int .i64 0), (.int .i64 0), (.string ⟨#[]⟩)]) 48 rfl Try.underlying90 info96 rfl (by decide) (by omega) v284 y283 (⟨1, a1_0, 0, a1_1, (⟨#[]⟩ : ByteArray)⟩ : S96) [.int .i64 1, .int .i64 a1_0, .int .i64 0, .int .i64 a1_1, .string (⟨#[]⟩ : ByteArray)] (fun k_ => k_ ≠ gb286) (fun _ => False) rfl (by first | (go_simp; done) | (go_simp; rfl)) ?aP (fun _ hk => hk.elim) ?aF ?aO ?aB ?aS ?aL ?_; (case aP => exact k96_mkM _ _ _ (⟨1, a1_0, 0, a1_1, (⟨#[]⟩ : ByteArray)⟩ : S96)); (case aB => exact (be HB)); (case aF => exact (fun k_ hk => Kd.freshB (g := gb286) (o := .cells #[.int .i64 1, .int .i64 a1_0, .int .i64 0, .int .i64 a1_1, .string (⟨#[]⟩ : ByteArray)] 96 (0, 0)) (by (with_reducible repeat first | refine bkN ?_ _ | refine bkD ?_ | refine bkA ?_ _ | refine blk_far ?_ NB286_295.out _); exact BK286.out) k_ hk)); (case aO => exact (by (with_reducible repeat (first | apply Kd.R_alloc | apply Kd.R_drewN | apply Kd.R_drew)); exact Kd.R_mono (Kd.R_far (p := ⟨gb295, 4, none⟩) (Kd.R_far (p := ⟨gb295, 3, none⟩) (Kd.R_far (p := ⟨gb295, 2, none⟩) (Kd.R_far (p := ⟨gb295, 1, none⟩) (Kd.R_far (p := ⟨gb295, 0, none⟩) (Kd.R_types HO_6.out BK295.out (by decide)) (fun _ hk => hk.2) (.int .i64 t287)) (fun _ hk => hk.2) (.int .i64 t288)) (fun _ hk => hk.2) (.int .i64 t289)) (fun _ hk => hk.2) (.int .i64 t290)) (fun _ hk => hk.2) (.slice Ao62 t291.length co62)) (fun _ hk => hk.1.2))); (case aS => exact (below_size (be HB))); (case aL => have := LMc48.out; omega); intro v297 w64 ho hb hg hat; rw [← Ny296.out] at ho; have n0_ := Aside0.mk (blk_grown (g := gb279) (o := .cells #[.int .i64 a0_0, .int .i64 a0_1, .int .i64 a0_2, .int .i64 a0_3, .slice A0_4 l0_4.length c0_4] 50 (0, 0)) (by (with_reducible repeat first | refine bkN ?_ _ | refine bkD ?_ | refine bkA ?_ _ | refine blk_far ?_ NB279_295.out _); exact BK279.out) hg (Kd.R_ne HO_6.out BK279.out (by decide))); have n1_ := Aside0.mk (blk_grown (g := gb280) (o := .cells #[.int .i64 a1_0, .int .i64 a1_1, .int .i64 a1_2, .int .i64 a1_3, .slice A1_4 l1_4.length c1_4] 50 (0, 0)) (by (with_reducible repeat first | refine bkN ?_ _ | refine bkD ?_ | refine bkA ?_ _ | refine blk_far ?_ NB280_295.out _); exact BK280.out) hg (Kd.R_ne HO_6.out BK280.out (by decide))); have n2_ := Aside0.mk (blk_grown (g := gb286) (o := .cells #[.int .i64 1, .int .i64 a1_0, .int .i64 0, .int .i64 a1_1, .string (⟨#[]⟩ : ByteArray)] 96 (0, 0)) (by (with_reducible repeat first | refine bkN ?_ _ | refine bkD ?_ | refine bkA ?_ _ | refine blk_far ?_ NB286_295.out _); exact BK286.out) hg (Kd.R_away HO_6.out (fun _ hk => hk.2))); have n3_ := Aside0.mk (Kd.R_over' (by (with_reducible repeat (first | apply Kd.R_alloc | apply Kd.R_drewN | apply Kd.R_drew)); exact (Kd.R_mono (Kd.R_far (p := ⟨gb295, 4, none⟩) (Kd.R_far (p := ⟨gb295, 3, none⟩) (Kd.R_far (p := ⟨gb295, 2, none⟩) (Kd.R_far (p := ⟨gb295, 1, none⟩) (Kd.R_far (p := ⟨gb295, 0, none⟩) (Kd.R_types HO293.out BK295.out (by decide)) (fun _ hk => hk.2) (.int .i64 t287)) (fun _ hk => hk.2) (.int .i64 t288)) (fun _ hk => hk.2) (.int .i64 t289)) (fun _ hk => hk.2) (.int .i64 t290)) (fun _ hk => hk.2) (.slice Ao62 t291.length co62)) (fun _ h_ => h_.1))) (Kd.R_typed (by (with_reducible repeat (first | apply Kd.R_alloc | apply Kd.R_drewN | apply Kd.R_drew)); exact (Kd.R_mono (Kd.R_far (p := ⟨gb295, 4, none⟩) (Kd.R_far (p := ⟨gb295, 3, none⟩) (Kd.R_far (p := ⟨gb295, 2, none⟩) (Kd.R_far (p := ⟨gb295, 1, none⟩) (Kd.R_far (p := ⟨gb295, 0, none⟩) (Kd.R_types HO_6.out BK295.out (by decide)) (fun _ hk => hk.2) (.int .i64 t287)) (fun _ hk => hk.2) (.int .i64 t288)) (fun _ hk => hk.2) (.int .i64 t289)) (fun _ hk => hk.2) (.int .i64 t290)) (fun _ hk => hk.2) (.slice Ao62 t291.length co62)) (fun _ h_ => h_.1)))) (by decide) hg); have n4_ := Aside0.mk (blk_grown (g := gb295) (o := .cells #[.int .i64 t287, .int .i64 t288, .int .i64 t289, .int .i64 t290, .slice Ao62 t291.length co62] 50 (0, 0)) (by (with_reducible repeat first | refine bkN ?_ _ | refine bkD ?_ | refine bkA ?_ _); refine blk_put (cs := #[.int .i64 t287, .int .i64 t288, .int .i64 t289, .int .i64 t290, .slice none 0 0]) ?_ 4 _ rfl; (with_reducible repeat first | refine bkN ?_ _ | refine bkD ?_ | refine bkA ?_ _); refine blk_put (cs := #[.int .i64 t287, .int .i64 t288, .int .i64 t289, .int .i64 0, .slice none 0 0]) ?_ 3 _ rfl; (with_reducible repeat first | refine bkN ?_ _ | refine bkD ?_ | refine bkA ?_ _); refine blk_put (cs := #[.int .i64 t287, .int .i64 t288, .int .i64 0, .int .i64 0, .slice none 0 0]) ?_ 2 _ rfl; (with_reducible repeat first | refine bkN ?_ _ | refine bkD ?_ | refine bkA ?_ _); refine blk_put (cs := #[.int .i64 t287, .int .i64 0, .int .i64 0, .int .i64 0, .slice none 0 0]) ?_ 1 _ rfl; (with_reducible repeat first | refine bkN ?_ _ | refine bkD ?_ | refine bkA ?_ _); refine blk_put (cs := #[.int .i64 0, .int .i64 0, .int .i64 0, .int .i64 0, .slice none 0 0]) ?_ 0 _ rfl; (with_reducible repeat first | refine bkN ?_ _ | refine bkD ?_ | refine bkA ?_ _); exact BK295.out) hg (Kd.R_ne HO_6.out BK295.out (by decide))); have n5_ := Aside0.mk (hb); have HO298 := Aside0.mk (ho); clear HO_6 BK279 BK280 BK286 HO293 BK295 HB; have BK279 := n0_; have BK280 := n1_; have BK286 := n2_; have HO293 := n3_; have BK295 := n4_; have HB := n5_; clear n0_ n1_ n2_ n3_ n4_ n5_; clear ho hb hg hat)); try go_wp2_with (first | ((with_reducible refine gate_dst (N := 7) rfl ?_); (try (refine gate_guard (by rfl) ?_; dsimp only)); refine box_event ?hg (N := 7) ?hd (cs := #[.int .i64 0, .int .i64 0, .int .i64 0, .int .i64 0, .string (⟨#[]⟩ : ByteArray)]) (t := 96) ?hr ?_; (case hd => rfl); (case hg => rfl); (case hr => first | (go_simp; done) | (go_simp; rfl)); intro gb286 hg w51 hbox hb; have n0_ := Aside0.mk (Kd.R_below (Kd.R_elderB (rr HO_6) gb286 (Nat.le_of_eq hg.symm)) hb); have BK286 := Aside0.mk (hbox); have GW286 := bs HB hg; have GE286 := bs HB hg; have NB279_286 := bl BK279 hg; have NB286_279 := bg BK279 hg; have NB280_286 := bl BK280 hg; have NB286_280 := bg BK280 hg; replace BK279 := bq BK279 hb; replace BK280 := bq BK280 hb; replace HB := bh HB hb; clear HO_6; have HO_6 := n0_; clear n0_; clear hb hbox hg; have hnb52 := NB286_279.out; have hnc52 := NB279_286.out; have hnb53 := NB286_280.out; have hnc53 := NB280_286.out; obtain ⟨hcz54_0, hcz54_1, hcz54_2, hcz54_3, hcz54_4⟩ := cs5 BK286; obtain ⟨hfz54_0, hfz54_1, hfz54_2, hfz54_3, hfz54_4⟩ := fs5 BK286; obtain ⟨hcz55_0, hcz55_1, hcz55_2, hcz55_3, hcz55_4⟩ := cs5 BK279; obtain ⟨hfz55_0, hfz55_1, hfz55_2, hfz55_3, hfz55_4⟩ := fs5 BK279) | (go_at_call 112; (with_reducible refine (impl_WalStep.calls kj33 a0_0 a0_1 a0_2 a0_3 _ _ l0_4 1 a1_0 0 a1_1 (⟨#[]⟩ : ByteArray) t287 t288 t289 t290 t291 true _ ?side1 ?side2 A46.out).mono ?_); (case side1 => exact Kd.C_below HR0_4.out (be HB)); (case side2 => exact HC0_4.out); rintro e w56 ⟨v292, rfl, ho0, hb⟩; have n0_ := Aside0.mk (Kd.R_below (by (with_reducible repeat (first | apply Kd.R_alloc | apply Kd.R_drewN | apply Kd.R_drew)); exact (Kd.R_mono (Kd.R_far (p := ⟨gb286, 4, none⟩) (Kd.R_far (p := ⟨gb286, 3, none⟩) (Kd.R_far (p := ⟨gb286, 2, none⟩) (Kd.R_far (p := ⟨gb286, 1, none⟩) (Kd.R_far (p := ⟨gb286, 0, none⟩) (Kd.R_mono HO_6.out (fun k_ hk => (⟨hk, hk.2⟩ : _ ∧ k_ ≠ gb286))) (fun _ hk => hk.2) (.int .i64 1)) (fun _ hk => hk.2) (.int .i64 a1_0)) (fun _ hk => hk.2) (.int .i64 0)) (fun _ hk => hk.2) (.int .i64 a1_1)) (fun _ hk => hk.2) (.string (⟨#[]⟩ : ByteArray))) (fun _ h_ => h_.1))) hb); have n2_ := bf BK279 hb; have n3_ := bf BK280 hb; have n4_ := bp #[.int .i64 1, .int .i64 a1_0, .int .i64 0, .int .i64 a1_1, .string (⟨#[]⟩ : ByteArray)] BK286 hb; have HO293 := Aside0.mk (Kd.R_lower ho0 (below_size (be HB))); replace HB := bh HB hb; clear HO_6 BK279 BK280 BK286; have HO_6 := n0_; have BK279 := n2_; have BK280 := n3_; have BK286 := n4_; clear n0_ n2_ n3_ n4_; (try clear hb); (try clear hb2); (try clear hk); (try clear hi)) | ((with_reducible refine gate_dst (N := 8) rfl ?_); (try (refine gate_guard (by rfl) ?_; dsimp only)); refine box_event ?hg (N := 8) ?hd (cs := #[.int .i64 0, .int .i64 0, .int .i64 0, .int .i64 0, .slice none 0 0]) (t := 50) ?hr ?_; (case hd => rfl); (case hg => rfl); (case hr => first | (go_simp; done) | (go_simp; rfl)); intro gb295 hg w57 hbox hb; have BK295 := Aside0.mk (hbox); have GW295 := bs HB hg; have GE295 := bs HB hg; have NB279_295 := bl BK279 hg; have NB295_279 := bg BK279 hg; have NB280_295 := bl BK280 hg; have NB295_280 := bg BK280 hg; have NB286_295 := bl BK286 hg; have NB295_286 := bg BK286 hg; replace HO_6 := Aside0.mk (Kd.R_below (rr HO_6) hb); replace HO293 := Aside0.mk (Kd.R_below (rr HO293) hb); replace BK279 := bq BK279 hb; replace BK280 := bq BK280 hb; replace BK286 := bq BK286 hb; replace HB := bh HB hb; clear hb hbox hg; have hnb58 := NB295_279.out; have hnc58 := NB279_295.out; have hnb59 := NB295_280.out; have hnc59 := NB280_295.out; have hnb60 := NB295_286.out; have hnc60 := NB286_295.out; obtain ⟨hcz61_0, hcz61_1, hcz61_2, hcz61_3, hcz61_4⟩ := cs5 BK295; obtain ⟨hfz61_0, hfz61_1, hfz61_2, hfz61_3, hfz61_4⟩ := fs5 BK295; obtain ⟨Ao62, co62, eo62⟩ := Kd.R_slice HO293.out; subst eo62; obtain ⟨hcz63_0, hcz63_1, hcz63_2, hcz63_3, hcz63_4⟩ := cs5 BK286; obtain ⟨hfz63_0, hfz63_1, hfz63_2, hfz63_3, hfz63_4⟩ := fs5 BK286) | ((with_reducible refine gate_builtin (b := .append) (xs := #[.tmp 61, .tmp 63]) rfl ?_); (try (refine gate_guard (by rfl) ?_; dsimp only)); at_builtin; refine Kd.R_append k96 (w0 := w) w.heap.size rfl (.tmp 61) (.tmp 63) 90 96 (.agg #[(.int .i64 0), (.int .i64 0), (.int .i64 0), (.int .i64 0), (.string ⟨#[]⟩)]) 48 rfl Try.underlying90 info96 rfl (by decide) (by omega) v284 y283 (⟨1, a1_0, 0, a1_1, (⟨#[]⟩ : ByteArray)⟩ : S96) [.int .i64 1, .int .i64 a1_0, .int .i64 0, .int .i64 a1_1, .string (⟨#[]⟩ : ByteArray)] (fun k_ => k_ ≠ gb286) (fun _ => False) rfl (by first | (go_simp; done) | (go_simp; rfl)) ?aP (fun _ hk => hk.elim) ?aF ?aO ?aB ?aS ?aL ?_; (case aP => exact k96_mkM _ _ _ (⟨1, a1_0, 0, a1_1, (⟨#[]⟩ : ByteArray)⟩ : S96)); (case aB => exact (be HB)); (case aF => exact (fun k_ hk => Kd.freshB (g := gb286) (o := .cells #[.int .i64 1, .int .i64 a1_0, .int .i64 0, .int .i64 a1_1, .string (⟨#[]⟩ : ByteArray)] 96 (0, 0)) (by (with_reducible repeat first | refine bkN ?_ _ | refine bkD ?_ | refine bkA ?_ _ | refine blk_far ?_ NB286_295.out _); exact BK286.out) k_ hk)); (case aO => exact (by (with_reducible repeat (first | apply Kd.R_alloc | apply Kd.R_drewN | apply Kd.R_drew)); exact Kd.R_mono (Kd.R_far (p := ⟨gb295, 4, none⟩) (Kd.R_far (p := ⟨gb295, 3, none⟩) (Kd.R_far (p := ⟨gb295, 2, none⟩) (Kd.R_far (p := ⟨gb295, 1, none⟩) (Kd.R_far (p := ⟨gb295, 0, none⟩) (Kd.R_types HO_6.out BK295.out (by decide)) (fun _ hk => hk.2) (.int .i64 t287)) (fun _ hk => hk.2) (.int .i64 t288)) (fun _ hk => hk.2) (.int .i64 t289)) (fun _ hk => hk.2) (.int .i64 t290)) (fun _ hk => hk.2) (.slice Ao62 t291.length co62)) (fun _ hk => hk.1.2))); (case aS => exact (below_size (be HB))); (case aL => have := LMc48.out; omega); intro v297 w64 ho hb hg hat; rw [← Ny296.out] at ho; have n0_ := Aside0.mk (blk_grown (g := gb279) (o := .cells #[.int .i64 a0_0, .int .i64 a0_1, .int .i64 a0_2, .int .i64 a0_3, .slice A0_4 l0_4.length c0_4] 50 (0, 0)) (by (with_reducible repeat first | refine bkN ?_ _ | refine bkD ?_ | refine bkA ?_ _ | refine blk_far ?_ NB279_295.out _); exact BK279.out) hg (Kd.R_ne HO_6.out BK279.out (by decide))); have n1_ := Aside0.mk (blk_grown (g := gb280) (o := .cells #[.int .i64 a1_0, .int .i64 a1_1, .int .i64 a1_2, .int .i64 a1_3, .slice A1_4 l1_4.length c1_4] 50 (0, 0)) (by (with_reducible repeat first | refine bkN ?_ _ | refine bkD ?_ | refine bkA ?_ _ | refine blk_far ?_ NB280_295.out _); exact BK280.out) hg (Kd.R_ne HO_6.out BK280.out (by decide))); have n2_ := Aside0.mk (blk_grown (g := gb286) (o := .cells #[.int .i64 1, .int .i64 a1_0, .int .i64 0, .int .i64 a1_1, .string (⟨#[]⟩ : ByteArray)] 96 (0, 0)) (by (with_reducible repeat first | refine bkN ?_ _ | refine bkD ?_ | refine bkA ?_ _ | refine blk_far ?_ NB286_295.out _); exact BK286.out) hg (Kd.R_away HO_6.out (fun _ hk => hk.2))); have n3_ := Aside0.mk (Kd.R_over' (by (with_reducible repeat (first | apply Kd.R_alloc | apply Kd.R_drewN | apply Kd.R_drew)); exact (Kd.R_mono (Kd.R_far (p := ⟨gb295, 4, none⟩) (Kd.R_far (p := ⟨gb295, 3, none⟩) (Kd.R_far (p := ⟨gb295, 2, none⟩) (Kd.R_far (p := ⟨gb295, 1, none⟩) (Kd.R_far (p := ⟨gb295, 0, none⟩) (Kd.R_types HO293.out BK295.out (by decide)) (fun _ hk => hk.2) (.int .i64 t287)) (fun _ hk => hk.2) (.int .i64 t288)) (fun _ hk => hk.2) (.int .i64 t289)) (fun _ hk => hk.2) (.int .i64 t290)) (fun _ hk => hk.2) (.slice Ao62 t291.length co62)) (fun _ h_ => h_.1))) (Kd.R_typed (by (with_reducible repeat (first | apply Kd.R_alloc | apply Kd.R_drewN | apply Kd.R_drew)); exact (Kd.R_mono (Kd.R_far (p := ⟨gb295, 4, none⟩) (Kd.R_far (p := ⟨gb295, 3, none⟩) (Kd.R_far (p := ⟨gb295, 2, none⟩) (Kd.R_far (p := ⟨gb295, 1, none⟩) (Kd.R_far (p := ⟨gb295, 0, none⟩) (Kd.R_types HO_6.out BK295.out (by decide)) (fun _ hk => hk.2) (.int .i64 t287)) (fun _ hk => hk.2) (.int .i64 t288)) (fun _ hk => hk.2) (.int .i64 t289)) (fun _ hk => hk.2) (.int .i64 t290)) (fun _ hk => hk.2) (.slice Ao62 t291.length co62)) (fun _ h_ => h_.1)))) (by decide) hg); have n4_ := Aside0.mk (blk_grown (g := gb295) (o := .cells #[.int .i64 t287, .int .i64 t288, .int .i64 t289, .int .i64 t290, .slice Ao62 t291.length co62] 50 (0, 0)) (by (with_reducible repeat first | refine bkN ?_ _ | refine bkD ?_ | refine bkA ?_ _); refine blk_put (cs := #[.int .i64 t287, .int .i64 t288, .int .i64 t289, .int .i64 t290, .slice none 0 0]) ?_ 4 _ rfl; (with_reducible repeat first | refine bkN ?_ _ | refine bkD ?_ | refine bkA ?_ _); refine blk_put (cs := #[.int .i64 t287, .int .i64 t288, .int .i64 t289, .int .i64 0, .slice none 0 0]) ?_ 3 _ rfl; (with_reducible repeat first | refine bkN ?_ _ | refine bkD ?_ | refine bkA ?_ _); refine blk_put (cs := #[.int .i64 t287, .int .i64 t288, .int .i64 0, .int .i64 0, .slice none 0 0]) ?_ 2 _ rfl; (with_reducible repeat first | refine bkN ?_ _ | refine bkD ?_ | refine bkA ?_ _); refine blk_put (cs := #[.int .i64 t287, .int .i64 0, .int .i64 0, .int .i64 0, .slice none 0 0]) ?_ 1 _ rfl; (with_reducible repeat first | refine bkN ?_ _ | refine bkD ?_ | refine bkA ?_ _); refine blk_put (cs := #[.int .i64 0, .int .i64 0, .int .i64 0, .int .i64 0, .slice none 0 0]) ?_ 0 _ rfl; (with_reducible repeat first | refine bkN ?_ _ | refine bkD ?_ | refine bkA ?_ _); exact BK295.out) hg (Kd.R_ne HO_6.out BK295.out (by decide))); have n5_ := Aside0.mk (hb); have HO298 := Aside0.mk (ho); clear HO_6 BK279 BK280 BK286 HO293 BK295 HB; have BK279 := n0_; have BK280 := n1_; have BK286 := n2_; have HO293 := n3_; have BK295 := n4_; have HB := n5_; clear n0_ n1_ n2_ n3_ n4_ n5_; clear ho hb hg hat)))
          go_meet
          case rel => exact ⟨_, (y296), H', ⟨by have := HJ2.out; have := HJ33.out; first | omega | exact Nat.le_refl _⟩, ⟨by (with_reducible repeat (first | apply Kd.R_alloc | apply Kd.R_drewN | apply Kd.R_drew)); exact Kd.R_mono HO298.out (fun _ hk => trivial)⟩, ⟨bb BK279⟩, ⟨bb BK280⟩, ⟨by repeat (first | (with_reducible first | exact HB.out | apply below_alloc | apply pw_below_drewN | apply below_drew1 | refine below_set ?_ GE279.out | refine below_set ?_ GE280.out | refine below_set ?_ GE286.out | refine below_set ?_ GE295.out) | exact HB.out)⟩⟩
         ·rw [if_neg c48] at H
          exact absurd H (by simp)
        ·replace c47 := Bool.eq_false_iff.mpr c47
         subst c47
         have H1 : (some (([] : List (S96)), false)) = some (r1, r2) := by rw [if_neg (show ¬ (false = true) by decide)] at H; exact H
         clear H; have H := H1
         clear H1; simp only [Option.some.injEq, Prod.mk.injEq] at H
         obtain ⟨rfl, rfl⟩ := H
         have hnb65 := NB280_279.out; have hnc65 := NB279_280.out; obtain ⟨hcz66_0, hcz66_1, hcz66_2, hcz66_3, hcz66_4⟩ := cs5 BK280; obtain ⟨hfz66_0, hfz66_1, hfz66_2, hfz66_3, hfz66_4⟩ := fs5 BK280
         go_wp2_with (first | ((with_reducible refine gate_dst (N := 7) rfl ?_); (try (refine gate_guard (by rfl) ?_; dsimp only)); refine box_event ?hg (N := 7) ?hd (cs := #[.int .i64 0, .int .i64 0, .int .i64 0, .int .i64 0, .string (⟨#[]⟩ : ByteArray)]) (t := 96) ?hr ?_; (case hd => rfl); (case hg => rfl); (case hr => first | (go_simp; done) | (go_simp; rfl)); intro gb286 hg w67 hbox hb; have n0_ := Aside0.mk (Kd.R_below (Kd.R_elderB (rr HO_6) gb286 (Nat.le_of_eq hg.symm)) hb); have BK286 := Aside0.mk (hbox); have GW286 := bs HB hg; have GE286 := bs HB hg; have NB279_286 := bl BK279 hg; have NB286_279 := bg BK279 hg; have NB280_286 := bl BK280 hg; have NB286_280 := bg BK280 hg; replace BK279 := bq BK279 hb; replace BK280 := bq BK280 hb; replace HB := bh HB hb; clear HO_6; have HO_6 := n0_; clear n0_; clear hb hbox hg; have hnb68 := NB286_279.out; have hnc68 := NB279_286.out; have hnb69 := NB286_280.out; have hnc69 := NB280_286.out; obtain ⟨hcz70_0, hcz70_1, hcz70_2, hcz70_3, hcz70_4⟩ := cs5 BK286; obtain ⟨hfz70_0, hfz70_1, hfz70_2, hfz70_3, hfz70_4⟩ := fs5 BK286; obtain ⟨hcz71_0, hcz71_1, hcz71_2, hcz71_3, hcz71_4⟩ := cs5 BK279; obtain ⟨hfz71_0, hfz71_1, hfz71_2, hfz71_3, hfz71_4⟩ := fs5 BK279) | (go_at_call 112; (with_reducible refine (impl_WalStep.calls kj33 a0_0 a0_1 a0_2 a0_3 _ _ l0_4 1 a1_0 0 a1_1 (⟨#[]⟩ : ByteArray) t287 t288 t289 t290 t291 false _ ?side1 ?side2 A46.out).mono ?_); (case side1 => exact Kd.C_below HR0_4.out (be HB)); (case side2 => exact HC0_4.out); rintro e w72 ⟨v292, rfl, ho0, hb⟩; have n0_ := Aside0.mk (Kd.R_below (by (with_reducible repeat (first | apply Kd.R_alloc | apply Kd.R_drewN | apply Kd.R_drew)); exact (Kd.R_mono (Kd.R_far (p := ⟨gb286, 4, none⟩) (Kd.R_far (p := ⟨gb286, 3, none⟩) (Kd.R_far (p := ⟨gb286, 2, none⟩) (Kd.R_far (p := ⟨gb286, 1, none⟩) (Kd.R_far (p := ⟨gb286, 0, none⟩) (Kd.R_mono HO_6.out (fun k_ hk => (⟨hk, hk.2⟩ : _ ∧ k_ ≠ gb286))) (fun _ hk => hk.2) (.int .i64 1)) (fun _ hk => hk.2) (.int .i64 a1_0)) (fun _ hk => hk.2) (.int .i64 0)) (fun _ hk => hk.2) (.int .i64 a1_1)) (fun _ hk => hk.2) (.string (⟨#[]⟩ : ByteArray))) (fun _ h_ => h_.1))) hb); have n2_ := bf BK279 hb; have n3_ := bf BK280 hb; have n4_ := bp #[.int .i64 1, .int .i64 a1_0, .int .i64 0, .int .i64 a1_1, .string (⟨#[]⟩ : ByteArray)] BK286 hb; have HO293 := Aside0.mk (Kd.R_lower ho0 (below_size (be HB))); replace HB := bh HB hb; clear HO_6 BK279 BK280 BK286; have HO_6 := n0_; have BK279 := n2_; have BK280 := n3_; have BK286 := n4_; clear n0_ n2_ n3_ n4_; (try clear hb); (try clear hb2); (try clear hk); (try clear hi)) | ((with_reducible refine gate_dst (N := 8) rfl ?_); (try (refine gate_guard (by rfl) ?_; dsimp only)); refine box_event ?hg (N := 8) ?hd (cs := #[.int .i64 0, .int .i64 0, .int .i64 0, .int .i64 0, .slice none 0 0]) (t := 50) ?hr ?_; (case hd => rfl); (case hg => rfl); (case hr => first | (go_simp; done) | (go_simp; rfl)); intro gb295 hg w73 hbox hb; have BK295 := Aside0.mk (hbox); have GW295 := bs HB hg; have GE295 := bs HB hg; have NB279_295 := bl BK279 hg; have NB295_279 := bg BK279 hg; have NB280_295 := bl BK280 hg; have NB295_280 := bg BK280 hg; have NB286_295 := bl BK286 hg; have NB295_286 := bg BK286 hg; replace HO_6 := Aside0.mk (Kd.R_below (rr HO_6) hb); replace HO293 := Aside0.mk (Kd.R_below (rr HO293) hb); replace BK279 := bq BK279 hb; replace BK280 := bq BK280 hb; replace BK286 := bq BK286 hb; replace HB := bh HB hb; clear hb hbox hg; have hnb74 := NB295_279.out; have hnc74 := NB279_295.out; have hnb75 := NB295_280.out; have hnc75 := NB280_295.out; have hnb76 := NB295_286.out; have hnc76 := NB286_295.out; obtain ⟨hcz77_0, hcz77_1, hcz77_2, hcz77_3, hcz77_4⟩ := cs5 BK295; obtain ⟨hfz77_0, hfz77_1, hfz77_2, hfz77_3, hfz77_4⟩ := fs5 BK295; obtain ⟨Ao78, co78, eo78⟩ := Kd.R_slice HO293.out; subst eo78))
         repeat (go_quiet (first | ((with_reducible refine gate_dst (N := 7) rfl ?_); (try (refine gate_guard (by rfl) ?_; dsimp only)); refine box_event ?hg (N := 7) ?hd (cs := #[.int .i64 0, .int .i64 0, .int .i64 0, .int .i64 0, .string (⟨#[]⟩ : ByteArray)]) (t := 96) ?hr ?_; (case hd => rfl); (case hg => rfl); (case hr => first | (go_simp; done) | (go_simp; rfl)); intro gb286 hg w67 hbox hb; have n0_ := Aside0.mk (Kd.R_below (Kd.R_elderB (rr HO_6) gb286 (Nat.le_of_eq hg.symm)) hb); have BK286 := Aside0.mk (hbox); have GW286 := bs HB hg; have GE286 := bs HB hg; have NB279_286 := bl BK279 hg; have NB286_279 := bg BK279 hg; have NB280_286 := bl BK280 hg; have NB286_280 := bg BK280 hg; replace BK279 := bq BK279 hb; replace BK280 := bq BK280 hb; replace HB := bh HB hb; clear HO_6; have HO_6 := n0_; clear n0_; clear hb hbox hg; have hnb68 := NB286_279.out; have hnc68 := NB279_286.out; have hnb69 := NB286_280.out; have hnc69 := NB280_286.out; obtain ⟨hcz70_0, hcz70_1, hcz70_2, hcz70_3, hcz70_4⟩ := cs5 BK286; obtain ⟨hfz70_0, hfz70_1, hfz70_2, hfz70_3, hfz70_4⟩ := fs5 BK286; obtain ⟨hcz71_0, hcz71_1, hcz71_2, hcz71_3, hcz71_4⟩ := cs5 BK279; obtain ⟨hfz71_0, hfz71_1, hfz71_2, hfz71_3, hfz71_4⟩ := fs5 BK279) | (go_at_call 112; (with_reducible refine (impl_WalStep.calls kj33 a0_0 a0_1 a0_2 a0_3 _ _ l0_4 1 a1_0 0 a1_1 (⟨#[]⟩ : ByteArray) t287 t288 t289 t290 t291 false _ ?side1 ?side2 A46.out).mono ?_); (case side1 => exact Kd.C_below HR0_4.out (be HB)); (case side2 => exact HC0_4.out); rintro e w72 ⟨v292, rfl, ho0, hb⟩; have n0_ := Aside0.mk (Kd.R_below (by (with_reducible repeat (first | apply Kd.R_alloc | apply Kd.R_drewN | apply Kd.R_drew)); exact (Kd.R_mono (Kd.R_far (p := ⟨gb286, 4, none⟩) (Kd.R_far (p := ⟨gb286, 3, none⟩) (Kd.R_far (p := ⟨gb286, 2, none⟩) (Kd.R_far (p := ⟨gb286, 1, none⟩) (Kd.R_far (p := ⟨gb286, 0, none⟩) (Kd.R_mono HO_6.out (fun k_ hk => (⟨hk, hk.2⟩ : _ ∧ k_ ≠ gb286))) (fun _ hk => hk.2) (.int .i64 1)) (fun _ hk => hk.2) (.int .i64 a1_0)) (fun _ hk => hk.2) (.int .i64 0)) (fun _ hk => hk.2) (.int .i64 a1_1)) (fun _ hk => hk.2) (.string (⟨#[]⟩ : ByteArray))) (fun _ h_ => h_.1))) hb); have n2_ := bf BK279 hb; have n3_ := bf BK280 hb; have n4_ := bp #[.int .i64 1, .int .i64 a1_0, .int .i64 0, .int .i64 a1_1, .string (⟨#[]⟩ : ByteArray)] BK286 hb; have HO293 := Aside0.mk (Kd.R_lower ho0 (below_size (be HB))); replace HB := bh HB hb; clear HO_6 BK279 BK280 BK286; have HO_6 := n0_; have BK279 := n2_; have BK280 := n3_; have BK286 := n4_; clear n0_ n2_ n3_ n4_; (try clear hb); (try clear hb2); (try clear hk); (try clear hi)) | ((with_reducible refine gate_dst (N := 8) rfl ?_); (try (refine gate_guard (by rfl) ?_; dsimp only)); refine box_event ?hg (N := 8) ?hd (cs := #[.int .i64 0, .int .i64 0, .int .i64 0, .int .i64 0, .slice none 0 0]) (t := 50) ?hr ?_; (case hd => rfl); (case hg => rfl); (case hr => first | (go_simp; done) | (go_simp; rfl)); intro gb295 hg w73 hbox hb; have BK295 := Aside0.mk (hbox); have GW295 := bs HB hg; have GE295 := bs HB hg; have NB279_295 := bl BK279 hg; have NB295_279 := bg BK279 hg; have NB280_295 := bl BK280 hg; have NB295_280 := bg BK280 hg; have NB286_295 := bl BK286 hg; have NB295_286 := bg BK286 hg; replace HO_6 := Aside0.mk (Kd.R_below (rr HO_6) hb); replace HO293 := Aside0.mk (Kd.R_below (rr HO293) hb); replace BK279 := bq BK279 hb; replace BK280 := bq BK280 hb; replace BK286 := bq BK286 hb; replace HB := bh HB hb; clear hb hbox hg; have hnb74 := NB295_279.out; have hnc74 := NB279_295.out; have hnb75 := NB295_280.out; have hnc75 := NB280_295.out; have hnb76 := NB295_286.out; have hnc76 := NB286_295.out; obtain ⟨hcz77_0, hcz77_1, hcz77_2, hcz77_3, hcz77_4⟩ := cs5 BK295; obtain ⟨hfz77_0, hfz77_1, hfz77_2, hfz77_3, hfz77_4⟩ := fs5 BK295; obtain ⟨Ao78, co78, eo78⟩ := Kd.R_slice HO293.out; subst eo78)); try go_wp2_with (first | ((with_reducible refine gate_dst (N := 7) rfl ?_); (try (refine gate_guard (by rfl) ?_; dsimp only)); refine box_event ?hg (N := 7) ?hd (cs := #[.int .i64 0, .int .i64 0, .int .i64 0, .int .i64 0, .string (⟨#[]⟩ : ByteArray)]) (t := 96) ?hr ?_; (case hd => rfl); (case hg => rfl); (case hr => first | (go_simp; done) | (go_simp; rfl)); intro gb286 hg w67 hbox hb; have n0_ := Aside0.mk (Kd.R_below (Kd.R_elderB (rr HO_6) gb286 (Nat.le_of_eq hg.symm)) hb); have BK286 := Aside0.mk (hbox); have GW286 := bs HB hg; have GE286 := bs HB hg; have NB279_286 := bl BK279 hg; have NB286_279 := bg BK279 hg; have NB280_286 := bl BK280 hg; have NB286_280 := bg BK280 hg; replace BK279 := bq BK279 hb; replace BK280 := bq BK280 hb; replace HB := bh HB hb; clear HO_6; have HO_6 := n0_; clear n0_; clear hb hbox hg; have hnb68 := NB286_279.out; have hnc68 := NB279_286.out; have hnb69 := NB286_280.out; have hnc69 := NB280_286.out; obtain ⟨hcz70_0, hcz70_1, hcz70_2, hcz70_3, hcz70_4⟩ := cs5 BK286; obtain ⟨hfz70_0, hfz70_1, hfz70_2, hfz70_3, hfz70_4⟩ := fs5 BK286; obtain ⟨hcz71_0, hcz71_1, hcz71_2, hcz71_3, hcz71_4⟩ := cs5 BK279; obtain ⟨hfz71_0, hfz71_1, hfz71_2, hfz71_3, hfz71_4⟩ := fs5 BK279) | (go_at_call 112; (with_reducible refine (impl_WalStep.calls kj33 a0_0 a0_1 a0_2 a0_3 _ _ l0_4 1 a1_0 0 a1_1 (⟨#[]⟩ : ByteArray) t287 t288 t289 t290 t291 false _ ?side1 ?side2 A46.out).mono ?_); (case side1 => exact Kd.C_below HR0_4.out (be HB)); (case side2 => exact HC0_4.out); rintro e w72 ⟨v292, rfl, ho0, hb⟩; have n0_ := Aside0.mk (Kd.R_below (by (with_reducible repeat (first | apply Kd.R_alloc | apply Kd.R_drewN | apply Kd.R_drew)); exact (Kd.R_mono (Kd.R_far (p := ⟨gb286, 4, none⟩) (Kd.R_far (p := ⟨gb286, 3, none⟩) (Kd.R_far (p := ⟨gb286, 2, none⟩) (Kd.R_far (p := ⟨gb286, 1, none⟩) (Kd.R_far (p := ⟨gb286, 0, none⟩) (Kd.R_mono HO_6.out (fun k_ hk => (⟨hk, hk.2⟩ : _ ∧ k_ ≠ gb286))) (fun _ hk => hk.2) (.int .i64 1)) (fun _ hk => hk.2) (.int .i64 a1_0)) (fun _ hk => hk.2) (.int .i64 0)) (fun _ hk => hk.2) (.int .i64 a1_1)) (fun _ hk => hk.2) (.string (⟨#[]⟩ : ByteArray))) (fun _ h_ => h_.1))) hb); have n2_ := bf BK279 hb; have n3_ := bf BK280 hb; have n4_ := bp #[.int .i64 1, .int .i64 a1_0, .int .i64 0, .int .i64 a1_1, .string (⟨#[]⟩ : ByteArray)] BK286 hb; have HO293 := Aside0.mk (Kd.R_lower ho0 (below_size (be HB))); replace HB := bh HB hb; clear HO_6 BK279 BK280 BK286; have HO_6 := n0_; have BK279 := n2_; have BK280 := n3_; have BK286 := n4_; clear n0_ n2_ n3_ n4_; (try clear hb); (try clear hb2); (try clear hk); (try clear hi)) | ((with_reducible refine gate_dst (N := 8) rfl ?_); (try (refine gate_guard (by rfl) ?_; dsimp only)); refine box_event ?hg (N := 8) ?hd (cs := #[.int .i64 0, .int .i64 0, .int .i64 0, .int .i64 0, .slice none 0 0]) (t := 50) ?hr ?_; (case hd => rfl); (case hg => rfl); (case hr => first | (go_simp; done) | (go_simp; rfl)); intro gb295 hg w73 hbox hb; have BK295 := Aside0.mk (hbox); have GW295 := bs HB hg; have GE295 := bs HB hg; have NB279_295 := bl BK279 hg; have NB295_279 := bg BK279 hg; have NB280_295 := bl BK280 hg; have NB295_280 := bg BK280 hg; have NB286_295 := bl BK286 hg; have NB295_286 := bg BK286 hg; replace HO_6 := Aside0.mk (Kd.R_below (rr HO_6) hb); replace HO293 := Aside0.mk (Kd.R_below (rr HO293) hb); replace BK279 := bq BK279 hb; replace BK280 := bq BK280 hb; replace BK286 := bq BK286 hb; replace HB := bh HB hb; clear hb hbox hg; have hnb74 := NB295_279.out; have hnc74 := NB279_295.out; have hnb75 := NB295_280.out; have hnc75 := NB280_295.out; have hnb76 := NB295_286.out; have hnc76 := NB286_295.out; obtain ⟨hcz77_0, hcz77_1, hcz77_2, hcz77_3, hcz77_4⟩ := cs5 BK295; obtain ⟨hfz77_0, hfz77_1, hfz77_2, hfz77_3, hfz77_4⟩ := fs5 BK295; obtain ⟨Ao78, co78, eo78⟩ := Kd.R_slice HO293.out; subst eo78)))
         go_ret2
         exact ⟨_, by first | rfl | (simp [errW_none, errW_some] <;> rfl) | (simp [*, errW_none, errW_some] <;> rfl), by first | exact Kd.R_nil _ _ _ _ _ | exact Kd.N_nil _ _ _ _ _ | exact Kd.V_nil _ _ _ _ _ | exact Kd.Q_nil _ _ _ _ _ | exact Kd.S_nil _ _ _ _ _, by repeat (first | (with_reducible first | exact HB.out | apply below_alloc | apply pw_below_drewN | apply below_drew1 | refine below_set ?_ GE279.out | refine below_set ?_ GE280.out | refine below_set ?_ GE286.out | refine below_set ?_ GE295.out) | exact HB.out)⟩
       ·replace c45 := Bool.eq_false_iff.mpr c45
        subst c45
        have H1 : (impl_Changes.j2 kj33 y283 a0_0 a0_1 a0_2 a0_3 l0_4 a1_0 a1_1 a1_2 a1_3 l1_4) = some (r1, r2) := by rw [if_neg (show ¬ (false = true) by decide)] at H; exact H
        clear H; have H := H1
        clear H1; have H' := Aside0.mk H
        clear H
        go_wp2
        repeat (go_quiet (fail); try go_wp2)
        go_meet
        case rel => exact ⟨_, (y283), H', ⟨by have := HJ2.out; have := HJ33.out; first | omega | exact Nat.le_refl _⟩, ⟨rr HO_6⟩, ⟨bb BK279⟩, ⟨bb BK280⟩, ⟨by repeat (first | (with_reducible first | exact HB.out | apply below_alloc | apply pw_below_drewN | apply below_drew1 | refine below_set ?_ GE279.out | refine below_set ?_ GE280.out) | exact HB.out)⟩⟩
      case rest =>
       clear HC44
       obtain ⟨kq, x6_43, HA, HJ43, HO_6, BK279, BK280, HB⟩ := hcut
       cases kq with
       | zero => exact absurd HA.out (by simp [impl_Changes.j2])
       | succ kj43 =>
        have H := HA.out; clear HA; simp only [impl_Changes.j2] at H
        have HC79 := Aside0.mk H
        clear H
        go_upto_block 0 with (fail)
        repeat (go_quiet (fail); go_upto_block 0 with (fail))
        go_cut [10] (fun v10 wc => ∃ (kq : Nat) (x10_78 : Int), v10 = .int .i64 x10_78 ∧ Aside0 (impl_Changes.j4 kq x6_43 x10_78 a0_0 a0_1 a0_2 a0_3 l0_4 a1_0 a1_1 a1_2 a1_3 l1_4 = some (r1, r2)) ∧ Aside0 (kq ≤ kj43) ∧ Aside0 (Kd.R k96 96 wc w.heap.size (fun _ => True) u6 x6_43) ∧ Aside0 (wc.heap[gb279]? = some (.cells #[.int .i64 a0_0, .int .i64 a0_1, .int .i64 a0_2, .int .i64 a0_3, (.slice A0_4 l0_4.length c0_4)] 50 (0, 0))) ∧ Aside0 (wc.heap[gb280]? = some (.cells #[.int .i64 a1_0, .int .i64 a1_1, .int .i64 a1_2, .int .i64 a1_3, (.slice A1_4 l1_4.length c1_4)] 50 (0, 0))) ∧ Aside0 (Below w.heap.size w wc))
        case first =>
         have H := HC79.out; clear HC79; have H' := Aside0.mk H
         clear H
         go_wp2
         repeat (go_quiet (fail); try go_wp2)
         go_loopg [10] kj43 (fun kq v10 w' => ∃ (x10_4 : Int), v10 = .int .i64 x10_4 ∧ Aside0 (impl_Changes.l0 kq x6_43 x10_4 a0_0 a0_1 a0_2 a0_3 l0_4 a1_0 a1_1 a1_2 a1_3 l1_4 = some (r1, r2)) ∧ Aside0 (kq ≤ kj43) ∧ Aside0 (Kd.R k96 96 w' w.heap.size (fun _ => True) u6 x6_43) ∧ Aside0 (w'.heap[gb279]? = some (.cells #[.int .i64 a0_0, .int .i64 a0_1, .int .i64 a0_2, .int .i64 a0_3, (.slice A0_4 l0_4.length c0_4)] 50 (0, 0))) ∧ Aside0 (w'.heap[gb280]? = some (.cells #[.int .i64 a1_0, .int .i64 a1_1, .int .i64 a1_2, .int .i64 a1_3, (.slice A1_4 l1_4.length c1_4)] 50 (0, 0))) ∧ Aside0 (Below w.heap.size w w'))
         case atStart => exact ⟨(0), (by first | rfl | (simp; done) | (simp [*]; done)), H', ⟨Nat.le_refl _⟩, ⟨rr HO_6⟩, ⟨bb BK279⟩, ⟨bb BK280⟩, ⟨by repeat (first | (with_reducible first | exact HB.out | apply below_alloc | apply pw_below_drewN | apply below_drew1 | refine below_set ?_ GE279.out | refine below_set ?_ GE280.out) | exact HB.out)⟩⟩
         case round =>
          clear H'
          obtain ⟨x10_4, rfl, HA, HK4, HO_6, BK279, BK280, HB⟩ := hrel
          cases gk with
          | zero => exact absurd HA.out (by simp [impl_Changes.l0])
          | succ k4 =>
           have H := HA.out; clear HA; simp only [impl_Changes.l0] at H
           by_cases c80 : x10_4 < (l0_4.length : Int)
           ·rw [if_pos c80] at H
            have c80b0 : decide (x10_4 < (l0_4.length : Int)) = true := decide_eq_true c80
            clear c80
            (first | rw [c80b0] | (simp only [i64_w, i32_w]; rw [c80b0]) | skip)
            by_cases c81 : x10_4 < (l1_4.length : Int)
            ·rw [if_pos c81] at H
             have c81b0 : decide (x10_4 < (l1_4.length : Int)) = true := decide_eq_true c81
             clear c81
             by_cases c82 : 0 ≤ x10_4
             ·rw [if_pos c82] at H
              have c82b0 : decide (0 ≤ x10_4) = true := decide_eq_true c82
              clear c82
              by_cases c83 : (((rd_T146 l0_4 x10_4).f0) == ((rd_T146 l1_4 x10_4).f0) && ((((rd_T146 l0_4 x10_4).f1).toList) == (((rd_T146 l1_4 x10_4).f1).toList))) = true
              ·rw [if_pos c83] at H
               have c83b0 : (((rd_T146 l0_4 x10_4).f0) == ((rd_T146 l1_4 x10_4).f0) && ((((rd_T146 l0_4 x10_4).f1).toList) == (((rd_T146 l1_4 x10_4).f1).toList))) = true := c83
               (try (have c83b1 : decide (((rd_T146 l0_4 x10_4).f0) = ((rd_T146 l1_4 x10_4).f0) && ((((rd_T146 l0_4 x10_4).f1).toList) == (((rd_T146 l1_4 x10_4).f1).toList))) = true := by simpa using c83))
               (try (have c83b2 : (((rd_T146 l0_4 x10_4).f0) == ((rd_T146 l1_4 x10_4).f0) && ((((rd_T146 l0_4 x10_4).f1).toList) == (((rd_T146 l1_4 x10_4).f1).toList))) = true := by simpa using c83))
               clear c83; have H' := Aside0.mk H
               clear H; have hnb84 := NB279_280.out; have hnc84 := NB280_279.out; obtain ⟨hcz85_0, hcz85_1, hcz85_2, hcz85_3, hcz85_4⟩ := cs5 BK279; obtain ⟨hfz85_0, hfz85_1, hfz85_2, hfz85_3, hfz85_4⟩ := fs5 BK279; obtain ⟨hcz86_0, hcz86_1, hcz86_2, hcz86_3, hcz86_4⟩ := cs5 BK280; obtain ⟨hfz86_0, hfz86_1, hfz86_2, hfz86_3, hfz86_4⟩ := fs5 BK280; have p299 : 0 ≤ (x10_4 : Int) := of_decide_eq_true (by first | (with_reducible assumption) | assumption)
               have q299 : x10_4 < (l0_4.length : Int) := of_decide_eq_true (by first | (with_reducible assumption) | assumption)
               obtain ⟨ad299, e299, hx299_0, hx299_1⟩ := at_T146 HR0_4.out x10_4 p299 q299
               cases e299
               replace hx299_0 := (HB.out.cell (World.block_lt_of_cell? w _ hx299_0)).trans hx299_0
               replace hx299_1 := (HB.out.cell (World.block_lt_of_cell? w _ hx299_1)).trans hx299_1
               replace p299 := eq_true p299
               replace q299 := eq_true q299
               have p300 : 0 ≤ (x10_4 : Int) := of_decide_eq_true (by first | (with_reducible assumption) | assumption)
               have q300 : x10_4 < (l1_4.length : Int) := of_decide_eq_true (by first | (with_reducible assumption) | assumption)
               obtain ⟨ad300, e300, hx300_0, hx300_1⟩ := at_T146 HR1_4.out x10_4 p300 q300
               cases e300
               replace hx300_0 := (HB.out.cell (World.block_lt_of_cell? w _ hx300_0)).trans hx300_0
               replace hx300_1 := (HB.out.cell (World.block_lt_of_cell? w _ hx300_1)).trans hx300_1
               replace p300 := eq_true p300
               replace q300 := eq_true q300
               go_wp2
               repeat (go_quiet (fail); try go_wp2)
               go_roundg k4
               case measure => have := HJ2.out; have := HJ33.out; have := HJ43.out; have := HK4.out; omega
               case rel => exact ⟨(wrap64 (x10_4 + 1)), (by first | rfl | (simp; done) | (simp [*]; done)), H', ⟨by have := HJ2.out; have := HJ33.out; have := HJ43.out; have := HK4.out; omega⟩, ⟨rr HO_6⟩, ⟨bb BK279⟩, ⟨bb BK280⟩, ⟨by repeat (first | (with_reducible first | exact HB.out | apply below_alloc | apply pw_below_drewN | apply below_drew1 | refine below_set ?_ GE279.out | refine below_set ?_ GE280.out) | exact HB.out)⟩⟩
              ·rw [if_neg c83] at H
               have c83b0 : (((rd_T146 l0_4 x10_4).f0) == ((rd_T146 l1_4 x10_4).f0) && ((((rd_T146 l0_4 x10_4).f1).toList) == (((rd_T146 l1_4 x10_4).f1).toList))) = false := by simpa using c83
               (try (have c83b1 : decide (((rd_T146 l0_4 x10_4).f0) = ((rd_T146 l1_4 x10_4).f0) && ((((rd_T146 l0_4 x10_4).f1).toList) == (((rd_T146 l1_4 x10_4).f1).toList))) = false := by simpa using c83))
               (try (have c83b2 : (((rd_T146 l0_4 x10_4).f0) == ((rd_T146 l1_4 x10_4).f0) && ((((rd_T146 l0_4 x10_4).f1).toList) == (((rd_T146 l1_4 x10_4).f1).toList))) = false := by simpa using c83))
               (try (have c83b3 : ¬ (((rd_T146 l0_4 x10_4).f0) = ((rd_T146 l1_4 x10_4).f0) && ((((rd_T146 l0_4 x10_4).f1).toList) == (((rd_T146 l1_4 x10_4).f1).toList))) := by simpa using c83))
               clear c83; have H' := Aside0.mk H
               clear H; have hnb87 := NB279_280.out; have hnc87 := NB280_279.out; obtain ⟨hcz88_0, hcz88_1, hcz88_2, hcz88_3, hcz88_4⟩ := cs5 BK279; obtain ⟨hfz88_0, hfz88_1, hfz88_2, hfz88_3, hfz88_4⟩ := fs5 BK279; obtain ⟨hcz89_0, hcz89_1, hcz89_2, hcz89_3, hcz89_4⟩ := cs5 BK280; obtain ⟨hfz89_0, hfz89_1, hfz89_2, hfz89_3, hfz89_4⟩ := fs5 BK280; have p299 : 0 ≤ (x10_4 : Int) := of_decide_eq_true (by first | (with_reducible assumption) | assumption)
               have q299 : x10_4 < (l0_4.length : Int) := of_decide_eq_true (by first | (with_reducible assumption) | assumption)
               obtain ⟨ad299, e299, hx299_0, hx299_1⟩ := at_T146 HR0_4.out x10_4 p299 q299
               cases e299
               replace hx299_0 := (HB.out.cell (World.block_lt_of_cell? w _ hx299_0)).trans hx299_0
               replace hx299_1 := (HB.out.cell (World.block_lt_of_cell? w _ hx299_1)).trans hx299_1
               replace p299 := eq_true p299
               replace q299 := eq_true q299
               have p300 : 0 ≤ (x10_4 : Int) := of_decide_eq_true (by first | (with_reducible assumption) | assumption)
               have q300 : x10_4 < (l1_4.length : Int) := of_decide_eq_true (by first | (with_reducible assumption) | assumption)
               obtain ⟨ad300, e300, hx300_0, hx300_1⟩ := at_T146 HR1_4.out x10_4 p300 q300
               cases e300
               replace hx300_0 := (HB.out.cell (World.block_lt_of_cell? w _ hx300_0)).trans hx300_0
               replace hx300_1 := (HB.out.cell (World.block_lt_of_cell? w _ hx300_1)).trans hx300_1
               replace p300 := eq_true p300
               replace q300 := eq_true q300
               go_wp2
               repeat (go_quiet (fail); try go_wp2)
               go_meet
               case rel => exact ⟨_, (x10_4), (by first | rfl | (simp; done) | (simp [*]; done)), H', ⟨by have := HJ2.out; have := HJ33.out; have := HJ43.out; have := HK4.out; first | omega | exact Nat.le_refl _⟩, ⟨rr HO_6⟩, ⟨bb BK279⟩, ⟨bb BK280⟩, ⟨by repeat (first | (with_reducible first | exact HB.out | apply below_alloc | apply pw_below_drewN | apply below_drew1 | refine below_set ?_ GE279.out | refine below_set ?_ GE280.out) | exact HB.out)⟩⟩
             ·rw [if_neg c82] at H
              exact absurd H (by simp)
            ·rw [if_neg c81] at H
             have c81b0 : decide (x10_4 < (l1_4.length : Int)) = false := decide_eq_false c81
             clear c81; have H' := Aside0.mk H
             clear H; have hnb90 := NB279_280.out; have hnc90 := NB280_279.out; obtain ⟨hcz91_0, hcz91_1, hcz91_2, hcz91_3, hcz91_4⟩ := cs5 BK279; obtain ⟨hfz91_0, hfz91_1, hfz91_2, hfz91_3, hfz91_4⟩ := fs5 BK279; obtain ⟨hcz92_0, hcz92_1, hcz92_2, hcz92_3, hcz92_4⟩ := cs5 BK280; obtain ⟨hfz92_0, hfz92_1, hfz92_2, hfz92_3, hfz92_4⟩ := fs5 BK280
             go_wp2
             repeat (go_quiet (fail); try go_wp2)
             go_meet
             case rel => exact ⟨_, (x10_4), (by first | rfl | (simp; done) | (simp [*]; done)), H', ⟨by have := HJ2.out; have := HJ33.out; have := HJ43.out; have := HK4.out; first | omega | exact Nat.le_refl _⟩, ⟨rr HO_6⟩, ⟨bb BK279⟩, ⟨bb BK280⟩, ⟨by repeat (first | (with_reducible first | exact HB.out | apply below_alloc | apply pw_below_drewN | apply below_drew1 | refine below_set ?_ GE279.out | refine below_set ?_ GE280.out) | exact HB.out)⟩⟩
           ·rw [if_neg c80] at H
            have c80b0 : decide (x10_4 < (l0_4.length : Int)) = false := decide_eq_false c80
            clear c80
            (first | rw [c80b0] | (simp only [i64_w, i32_w]; rw [c80b0]) | skip)
            have H' := Aside0.mk H
            clear H; have hnb93 := NB279_280.out; have hnc93 := NB280_279.out; obtain ⟨hcz94_0, hcz94_1, hcz94_2, hcz94_3, hcz94_4⟩ := cs5 BK279; obtain ⟨hfz94_0, hfz94_1, hfz94_2, hfz94_3, hfz94_4⟩ := fs5 BK279
            go_wp2
            repeat (go_quiet (fail); try go_wp2)
            go_meet
            case rel => exact ⟨_, (x10_4), (by first | rfl | (simp; done) | (simp [*]; done)), H', ⟨by have := HJ2.out; have := HJ33.out; have := HJ43.out; have := HK4.out; first | omega | exact Nat.le_refl _⟩, ⟨rr HO_6⟩, ⟨bb BK279⟩, ⟨bb BK280⟩, ⟨by repeat (first | (with_reducible first | exact HB.out | apply below_alloc | apply pw_below_drewN | apply below_drew1 | refine below_set ?_ GE279.out | refine below_set ?_ GE280.out) | exact HB.out)⟩⟩
        case rest =>
         clear HC79
         obtain ⟨kq, x10_78, rfl, HA, HJ78, HO_6, BK279, BK280, HB⟩ := hcut
         cases kq with
         | zero => exact absurd HA.out (by simp [impl_Changes.j4])
         | succ kj78 =>
          have H := HA.out; clear HA; simp only [impl_Changes.j4] at H
          have HC95 := Aside0.mk H
          clear H; have hnb96 := NB279_280.out; have hnc96 := NB280_279.out; obtain ⟨hcz97_0, hcz97_1, hcz97_2, hcz97_3, hcz97_4⟩ := cs5 BK279; obtain ⟨hfz97_0, hfz97_1, hfz97_2, hfz97_3, hfz97_4⟩ := fs5 BK279
          go_upto_if 96 with (fail)
          repeat (go_quiet (fail); go_upto_if 96 with (fail))
          go_cut [6] (fun v6 wc => ∃ (kq : Nat) (x6_94 : List (S96)), Aside0 (impl_Changes.j5 kq x6_94 x10_78 a0_0 a0_1 a0_2 a0_3 l0_4 a1_0 a1_1 a1_2 a1_3 l1_4 = some (r1, r2)) ∧ Aside0 (kq ≤ kj78) ∧ Aside0 (Kd.R k96 96 wc w.heap.size (fun _ => True) v6 x6_94) ∧ Aside0 (wc.heap[gb279]? = some (.cells #[.int .i64 a0_0, .int .i64 a0_1, .int .i64 a0_2, .int .i64 a0_3, (.slice A0_4 l0_4.length c0_4)] 50 (0, 0))) ∧ Aside0 (wc.heap[gb280]? = some (.cells #[.int .i64 a1_0, .int .i64 a1_1, .int .i64 a1_2, .int .i64 a1_3, (.slice A1_4 l1_4.length c1_4)] 50 (0, 0))) ∧ Aside0 (Below w.heap.size w wc))
          case first =>
           have H := HC95.out; clear HC95
           by_cases c98 : x10_78 < (l0_4.length : Int)
           ·rw [if_pos c98] at H
            have c98b0 : decide (x10_78 < (l0_4.length : Int)) = true := decide_eq_true c98
            clear c98
            (first | rw [c98b0] | (simp only [i64_w, i32_w]; rw [c98b0]) | skip)
            by_cases c99 : x6_43.length < 2932031007402
            ·rw [if_pos c99] at H
             have LMc99 := Aside0.mk c99
             clear c99; obtain ⟨y301, hy301⟩ : ∃ y_ : List (S96), y_ = (x6_43 ++ [(⟨3, 0, wrap64 ((wrap64 (a0_2 + x10_78)) + 1), 0, (⟨#[]⟩ : ByteArray)⟩ : S96)]) := ⟨_, rfl⟩
             replace H : (impl_Changes.j5 kj78 y301 x10_78 a0_0 a0_1 a0_2 a0_3 l0_4 a1_0 a1_1 a1_2 a1_3 l1_4) = some (r1, r2) := by first | (rw [hy301]; with_reducible exact H) | (have H2_ := (Option.bind_some _ _).symm.trans H; rw [hy301]; with_reducible exact H2_) | (have H2_ := (Option.bind_some _ _).symm.trans H; with_reducible exact H2_) | with_reducible exact H | (rw [hy301]; exact H) | exact H
             have Ny301 := Aside0.mk hy301
             clear hy301; have H' := Aside0.mk H
             clear H; have hnb100 := NB279_280.out; have hnc100 := NB280_279.out; obtain ⟨hcz101_0, hcz101_1, hcz101_2, hcz101_3, hcz101_4⟩ := cs5 BK279; obtain ⟨hfz101_0, hfz101_1, hfz101_2, hfz101_3, hfz101_4⟩ := fs5 BK279
             go_wp2_with (first | ((with_reducible refine gate_builtin (b := .append) (xs := #[.tmp 97, .tmp 104]) rfl ?_); (try (refine gate_guard (by rfl) ?_; dsimp only)); at_builtin; refine Kd.R_append k96 (w0 := w) w.heap.size rfl (.tmp 97) (.tmp 104) 90 96 (.agg #[(.int .i64 0), (.int .i64 0), (.int .i64 0), (.int .i64 0), (.string ⟨#[]⟩)]) 48 rfl Try.underlying90 info96 rfl (by decide) (by omega) u6 x6_43 (⟨3, 0, wrap64 ((wrap64 (a0_2 + x10_78)) + 1), 0, (⟨#[]⟩ : ByteArray)⟩ : S96) [.int .i64 3, .int .i64 0, .int .i64 (wrap64 ((wrap64 (a0_2 + x10_78)) + 1)), .int .i64 0, .string (⟨#[]⟩ : ByteArray)] (fun _ => True) (fun _ => False) rfl rfl ?aP (fun _ hk => hk.elim) ?aF ?aO ?aB ?aS ?aL ?_; (case aP => exact k96_mkM _ _ _ (⟨3, 0, wrap64 ((wrap64 (a0_2 + x10_78)) + 1), 0, (⟨#[]⟩ : ByteArray)⟩ : S96)); (case aB => exact (be HB)); (case aF => exact (fun _ _ => trivial)); (case aO => exact (rr HO_6)); (case aS => exact (below_size (be HB))); (case aL => have := LMc99.out; omega); intro v302 w102 ho hb hg hat; rw [← Ny301.out] at ho; have n0_ := Aside0.mk (blk_grown (g := gb279) (o := .cells #[.int .i64 a0_0, .int .i64 a0_1, .int .i64 a0_2, .int .i64 a0_3, .slice A0_4 l0_4.length c0_4] 50 (0, 0)) (by (with_reducible repeat first | refine bkN ?_ _ | refine bkD ?_ | refine bkA ?_ _); exact BK279.out) hg (Kd.R_ne HO_6.out BK279.out (by decide))); have n1_ := Aside0.mk (blk_grown (g := gb280) (o := .cells #[.int .i64 a1_0, .int .i64 a1_1, .int .i64 a1_2, .int .i64 a1_3, .slice A1_4 l1_4.length c1_4] 50 (0, 0)) (by (with_reducible repeat first | refine bkN ?_ _ | refine bkD ?_ | refine bkA ?_ _); exact BK280.out) hg (Kd.R_ne HO_6.out BK280.out (by decide))); have n2_ := Aside0.mk (hb); have HO303 := Aside0.mk (ho); clear HO_6 BK279 BK280 HB; have BK279 := n0_; have BK280 := n1_; have HB := n2_; clear n0_ n1_ n2_; clear ho hb hg hat))
             repeat (go_quiet (first | ((with_reducible refine gate_builtin (b := .append) (xs := #[.tmp 97, .tmp 104]) rfl ?_); (try (refine gate_guard (by rfl) ?_; dsimp only)); at_builtin; refine Kd.R_append k96 (w0 := w) w.heap.size rfl (.tmp 97) (.tmp 104) 90 96 (.agg #[(.int .i64 0), (.int .i64 0), (.int .i64 0), (.int .i64 0), (.string ⟨#[]⟩)]) 48 rfl Try.underlying90 info96 rfl (by decide) (by omega) u6 x6_43 (⟨3, 0, wrap64 ((wrap64 (a0_2 + x10_78)) + 1), 0, (⟨#[]⟩ : ByteArray)⟩ : S96) [.int .i64 3, .int .i64 0, .int .i64 (wrap64 ((wrap64 (a0_2 + x10_78)) + 1)), .int .i64 0, .string (⟨#[]⟩ : ByteArray)] (fun _ => True) (fun _ => False) rfl rfl ?aP (fun _ hk => hk.elim) ?aF ?aO ?aB ?aS ?aL ?_; (case aP => exact k96_mkM _ _ _ (⟨3, 0, wrap64 ((wrap64 (a0_2 + x10_78)) + 1), 0, (⟨#[]⟩ : ByteArray)⟩ : S96)); (case aB => exact (be HB)); (case aF => exact (fun _ _ => trivial)); (case aO => exact (rr HO_6)); (case aS => exact (below_size (be HB))); (case aL => have := LMc99.out; omega); intro v302 w102 ho hb hg hat; rw [← Ny301.out] at ho; have n0_ := Aside0.mk (blk_grown (g := gb279) (o := .cells #[.int .i64 a0_0, .int .i64 a0_1, .int .i64 a0_2, .int .i64 a0_3, .slice A0_4 l0_4.length c0_4] 50 (0, 0)) (by (with_reducible repeat first | refine bkN ?_ _ | refine bkD ?_ | refine bkA ?_ _); exact BK279.out) hg (Kd.R_ne HO_6.out BK279.out (by decide))); have n1_ := Aside0.mk (blk_grown (g := gb280) (o := .cells #[.int .i64 a1_0, .int .i64 a1_1, .int .i64 a1_2, .int .i64 a1_3, .slice A1_4 l1_4.length c1_4] 50 (0, 0)) (by (with_reducible repeat first | refine bkN ?_ _ | refine bkD ?_ | refine bkA ?_ _); exact BK280.out) hg (Kd.R_ne HO_6.out BK280.out (by decide))); have n2_ := Aside0.mk (hb); have HO303 := Aside0.mk (ho); clear HO_6 BK279 BK280 HB; have BK279 := n0_; have BK280 := n1_; have HB := n2_; clear n0_ n1_ n2_; clear ho hb hg hat)); try go_wp2_with (first | ((with_reducible refine gate_builtin (b := .append) (xs := #[.tmp 97, .tmp 104]) rfl ?_); (try (refine gate_guard (by rfl) ?_; dsimp only)); at_builtin; refine Kd.R_append k96 (w0 := w) w.heap.size rfl (.tmp 97) (.tmp 104) 90 96 (.agg #[(.int .i64 0), (.int .i64 0), (.int .i64 0), (.int .i64 0), (.string ⟨#[]⟩)]) 48 rfl Try.underlying90 info96 rfl (by decide) (by omega) u6 x6_43 (⟨3, 0, wrap64 ((wrap64 (a0_2 + x10_78)) + 1), 0, (⟨#[]⟩ : ByteArray)⟩ : S96) [.int .i64 3, .int .i64 0, .int .i64 (wrap64 ((wrap64 (a0_2 + x10_78)) + 1)), .int .i64 0, .string (⟨#[]⟩ : ByteArray)] (fun _ => True) (fun _ => False) rfl rfl ?aP (fun _ hk => hk.elim) ?aF ?aO ?aB ?aS ?aL ?_; (case aP => exact k96_mkM _ _ _ (⟨3, 0, wrap64 ((wrap64 (a0_2 + x10_78)) + 1), 0, (⟨#[]⟩ : ByteArray)⟩ : S96)); (case aB => exact (be HB)); (case aF => exact (fun _ _ => trivial)); (case aO => exact (rr HO_6)); (case aS => exact (below_size (be HB))); (case aL => have := LMc99.out; omega); intro v302 w102 ho hb hg hat; rw [← Ny301.out] at ho; have n0_ := Aside0.mk (blk_grown (g := gb279) (o := .cells #[.int .i64 a0_0, .int .i64 a0_1, .int .i64 a0_2, .int .i64 a0_3, .slice A0_4 l0_4.length c0_4] 50 (0, 0)) (by (with_reducible repeat first | refine bkN ?_ _ | refine bkD ?_ | refine bkA ?_ _); exact BK279.out) hg (Kd.R_ne HO_6.out BK279.out (by decide))); have n1_ := Aside0.mk (blk_grown (g := gb280) (o := .cells #[.int .i64 a1_0, .int .i64 a1_1, .int .i64 a1_2, .int .i64 a1_3, .slice A1_4 l1_4.length c1_4] 50 (0, 0)) (by (with_reducible repeat first | refine bkN ?_ _ | refine bkD ?_ | refine bkA ?_ _); exact BK280.out) hg (Kd.R_ne HO_6.out BK280.out (by decide))); have n2_ := Aside0.mk (hb); have HO303 := Aside0.mk (ho); clear HO_6 BK279 BK280 HB; have BK279 := n0_; have BK280 := n1_; have HB := n2_; clear n0_ n1_ n2_; clear ho hb hg hat)))
             go_meet
             case rel => exact ⟨_, (y301), H', ⟨by have := HJ2.out; have := HJ33.out; have := HJ43.out; have := HJ78.out; first | omega | exact Nat.le_refl _⟩, ⟨rr HO303⟩, ⟨bb BK279⟩, ⟨bb BK280⟩, ⟨by repeat (first | (with_reducible first | exact HB.out | apply below_alloc | apply pw_below_drewN | apply below_drew1 | refine below_set ?_ GE279.out | refine below_set ?_ GE280.out) | exact HB.out)⟩⟩
            ·rw [if_neg c99] at H
             exact absurd H (by simp)
           ·rw [if_neg c98] at H
            have c98b0 : decide (x10_78 < (l0_4.length : Int)) = false := decide_eq_false c98
            clear c98
            (first | rw [c98b0] | (simp only [i64_w, i32_w]; rw [c98b0]) | skip)
            have H' := Aside0.mk H
            clear H
            go_wp2
            repeat (go_quiet (fail); try go_wp2)
            go_meet
            case rel => exact ⟨_, (x6_43), H', ⟨by have := HJ2.out; have := HJ33.out; have := HJ43.out; have := HJ78.out; first | omega | exact Nat.le_refl _⟩, ⟨rr HO_6⟩, ⟨bb BK279⟩, ⟨bb BK280⟩, ⟨by repeat (first | (with_reducible first | exact HB.out | apply below_alloc | apply pw_below_drewN | apply below_drew1 | refine below_set ?_ GE279.out | refine below_set ?_ GE280.out) | exact HB.out)⟩⟩
          case rest =>
           clear HC95
           obtain ⟨kq, x6_94, HA, HJ94, HO_6, BK279, BK280, HB⟩ := hcut
           cases kq with
           | zero => exact absurd HA.out (by simp [impl_Changes.j5])
           | succ kj94 =>
            have H := HA.out; clear HA; simp only [impl_Changes.j5] at H
            by_cases c103 : 0 ≤ x10_78
            ·rw [if_pos c103] at H
             have c103b0 := eq_true c103
             have c103b1 : decide (0 ≤ x10_78) = true := decide_eq_true c103
             clear c103
             by_cases c104 : x10_78 ≤ (l1_4.length : Int)
             ·rw [if_pos c104] at H
              have c104b0 := eq_true c104
              have c104b1 : decide (x10_78 ≤ (l1_4.length : Int)) = true := decide_eq_true c104
              clear c104; obtain ⟨y304, hy304⟩ : ∃ y_ : List (S146), y_ = (l1_4.drop (x10_78 : Int).toNat) := ⟨_, rfl⟩
              replace H : (impl_Changes.l1 kj94 x6_94 x10_78 y304 (y304.length : Int) 0 a0_0 a0_1 a0_2 a0_3 l0_4) = some (r1, r2) := by first | (rw [hy304]; with_reducible exact H) | (have H2_ := (Option.bind_some _ _).symm.trans H; rw [hy304]; with_reducible exact H2_) | (have H2_ := (Option.bind_some _ _).symm.trans H; with_reducible exact H2_) | with_reducible exact H | (rw [hy304]; exact H) | exact H
              have Ny304 := Aside0.mk hy304
              clear hy304; have H' := Aside0.mk H
              clear H; have hnb105 := NB280_279.out; have hnc105 := NB279_280.out; obtain ⟨hcz106_0, hcz106_1, hcz106_2, hcz106_3, hcz106_4⟩ := cs5 BK280; obtain ⟨hfz106_0, hfz106_1, hfz106_2, hfz106_3, hfz106_4⟩ := fs5 BK280; have q107 : (x10_78 : Int) ≤ ((l1_4.length : Int) : Int) := of_decide_eq_true (by first | (with_reducible assumption) | assumption)
              obtain ⟨i0107, hi0107, _, hsz107, _⟩ := info_parts info146
              have hroom107 : l1_4.length ≤ c1_4 := HC1_4.out
              have hC107 : Kd.C k146 _ A1_4 l1_4.length l1_4 := HR1_4.out
              have q0107 : (0 : Int) ≤ (x10_78 : Int) := of_decide_eq_true (by first | (with_reducible assumption) | assumption)
              have hcut107 := cut_from (P := Try.prog) 48 146 .i64 Try.underlying48 hi0107 2 hsz107 A1_4 l1_4.length c1_4 x10_78 q0107 q107
              have hr107 := Kd.C_drop (m := (x10_78 : Int).toNat) (c := c1_4) hC107 (by omega) hroom107
              obtain ⟨A107, hA107⟩ : ∃ A1, A1 = (if c1_4 = (x10_78 : Int).toNat then A1_4 else (A1_4 : Option Addr).map (·.add ((x10_78 : Int).toNat * 2))) := ⟨_, rfl⟩
              obtain ⟨c107, hc107⟩ : ∃ c1, c1 = c1_4 - (x10_78 : Int).toNat := ⟨_, rfl⟩
              have hy107 : y304.length = l1_4.length - (x10_78 : Int).toNat := (by rw [Ny304.out, List.length_drop] <;> omega)
              rw [show (l1_4).drop (x10_78 : Int).toNat = y304 from Ny304.out.symm] at hr107
              replace hr107 : Kd.C k146 _ A107 y304.length y304 := (by rw [hA107]; exact hr107)
              rw [← hy107, ← hA107, ← hc107] at hcut107
              have HR307 := Aside0.mk hr107
              have HC307 := Aside0.mk (show y304.length ≤ c107 from by rw [hy107, hc107]; exact Nat.sub_le_sub_right hroom107 _)
              clear hr107 hC107 hroom107 hi0107 hsz107 hc107; have KY107 := Aside0.mk hy107
              have KA107 := Aside0.mk hA107
              clear hy107 hA107; replace q107 := eq_true q107
              go_wp2
              repeat (go_quiet (fail); try go_wp2)
              go_loopg [6, 111] kj94 (fun kq v6 v111 w' => ∃ (x6_6 : List (S96)) (x111_6 : Int), v111 = .int .i64 x111_6 ∧ Aside0 (impl_Changes.l1 kq x6_6 x10_78 y304 (y304.length : Int) x111_6 a0_0 a0_1 a0_2 a0_3 l0_4 = some (r1, r2)) ∧ Aside0 (kq ≤ kj94) ∧ Aside0 (Kd.R k96 96 w' w.heap.size (fun _ => True) v6 x6_6) ∧ Aside0 (w'.heap[gb279]? = some (.cells #[.int .i64 a0_0, .int .i64 a0_1, .int .i64 a0_2, .int .i64 a0_3, (.slice A0_4 l0_4.length c0_4)] 50 (0, 0))) ∧ Aside0 (w'.heap[gb280]? = some (.cells #[.int .i64 a1_0, .int .i64 a1_1, .int .i64 a1_2, .int .i64 a1_3, (.slice A1_4 l1_4.length c1_4)] 50 (0, 0))) ∧ Aside0 (Below w.heap.size w w'))
              case atStart => exact ⟨(x6_94), (0), (by first | rfl | (simp; done) | (simp [*]; done)), H', ⟨Nat.le_refl _⟩, ⟨rr HO_6⟩, ⟨bb BK279⟩, ⟨bb BK280⟩, ⟨by repeat (first | (with_reducible first | exact HB.out | apply below_alloc | apply pw_below_drewN | apply below_drew1 | refine below_set ?_ GE279.out | refine below_set ?_ GE280.out) | exact HB.out)⟩⟩
              case round =>
               clear H'
               obtain ⟨x6_6, x111_6, rfl, HA, HK6, HO_6, BK279, BK280, HB⟩ := hrel
               cases gk with
               | zero => exact absurd HA.out (by simp [impl_Changes.l1])
               | succ k6 =>
                have H := HA.out; clear HA; simp only [impl_Changes.l1] at H
                by_cases c108 : x111_6 < (y304.length : Int)
                ·rw [if_pos c108] at H
                 have c108b0 : decide (x111_6 < (y304.length : Int)) = true := decide_eq_true c108
                 clear c108
                 by_cases c109 : 0 ≤ x111_6
                 ·rw [if_pos c109] at H
                  have c109b0 : decide (0 ≤ x111_6) = true := decide_eq_true c109
                  clear c109
                  by_cases c110 : x111_6 < (y304.length : Int)
                  ·rw [if_pos c110] at H
                   have c110b0 : decide (x111_6 < (y304.length : Int)) = true := decide_eq_true c110
                   clear c110
                   by_cases c111 : x6_6.length < 2932031007402
                   ·rw [if_pos c111] at H
                    have LMc111 := Aside0.mk c111
                    clear c111; obtain ⟨y310, hy310⟩ : ∃ y_ : List (S96), y_ = (x6_6 ++ [(⟨2, (rd_T146 y304 x111_6).f0, wrap64 ((wrap64 ((wrap64 (a0_2 + x10_78)) + x111_6)) + 1), 0, (rd_T146 y304 x111_6).f1⟩ : S96)]) := ⟨_, rfl⟩
                    replace H : (impl_Changes.l1 k6 y310 x10_78 y304 (y304.length : Int) (wrap64 (x111_6 + 1)) a0_0 a0_1 a0_2 a0_3 l0_4) = some (r1, r2) := by first | (rw [hy310]; with_reducible exact H) | (have H2_ := (Option.bind_some _ _).symm.trans H; rw [hy310]; with_reducible exact H2_) | (have H2_ := (Option.bind_some _ _).symm.trans H; with_reducible exact H2_) | with_reducible exact H | (rw [hy310]; exact H) | exact H
                    have Ny310 := Aside0.mk hy310
                    clear hy310; have H' := Aside0.mk H
                    clear H; have p308 : 0 ≤ (x111_6 : Int) := of_decide_eq_true (by first | (with_reducible assumption) | assumption)
                    have q308 : x111_6 < (y304.length : Int) := of_decide_eq_true (by first | (with_reducible assumption) | assumption)
                    obtain ⟨ad308, e308, hx308_0, hx308_1⟩ := at_T146 HR307.out x111_6 p308 q308
                    cases e308
                    replace hx308_0 := (HB.out.cell (World.block_lt_of_cell? w _ hx308_0)).trans hx308_0
                    replace hx308_1 := (HB.out.cell (World.block_lt_of_cell? w _ hx308_1)).trans hx308_1
                    replace p308 := eq_true p308
                    replace q308 := eq_true q308
                    go_wp2_with (first | ((with_reducible refine gate_dst (N := 12) rfl ?_); (try (refine gate_guard (by rfl) ?_; dsimp only)); refine box_event ?hg (N := 12) ?hd (cs := #[.int .i64 0, .string (⟨#[]⟩ : ByteArray)]) (t := 146) ?hr ?_; (case hd => rfl); (case hg => rfl); (case hr => first | (go_simp; done) | (go_simp; rfl)); intro gb309 hg w112 hbox hb; have BK309 := Aside0.mk (hbox); have GW309 := bs HB hg; have GE309 := bs HB hg; have NB279_309 := bl BK279 hg; have NB309_279 := bg BK279 hg; have NB280_309 := bl BK280 hg; have NB309_280 := bg BK280 hg; replace HO_6 := Aside0.mk (Kd.R_below (rr HO_6) hb); replace BK279 := bq BK279 hb; replace BK280 := bq BK280 hb; replace HB := bh HB hb; clear hb hbox hg; have hnb113 := NB309_279.out; have hnc113 := NB279_309.out; have hnb114 := NB309_280.out; have hnc114 := NB280_309.out; obtain ⟨hcz115_0, hcz115_1⟩ := cs2 BK309; obtain ⟨hfz115_0, hfz115_1⟩ := fs2 BK309; have hnb116 := NB279_280.out; have hnc116 := NB280_279.out; obtain ⟨hcz117_0, hcz117_1, hcz117_2, hcz117_3, hcz117_4⟩ := cs5 BK279; obtain ⟨hfz117_0, hfz117_1, hfz117_2, hfz117_3, hfz117_4⟩ := fs5 BK279) | ((with_reducible refine gate_builtin (b := .append) (xs := #[.tmp 116, .tmp 129]) rfl ?_); (try (refine gate_guard (by rfl) ?_; dsimp only)); at_builtin; refine Kd.R_append k96 (w0 := w) w.heap.size rfl (.tmp 116) (.tmp 129) 90 96 (.agg #[(.int .i64 0), (.int .i64 0), (.int .i64 0), (.int .i64 0), (.string ⟨#[]⟩)]) 48 rfl Try.underlying90 info96 rfl (by decide) (by omega) u6 x6_6 (⟨2, (rd_T146 y304 x111_6).f0, wrap64 ((wrap64 ((wrap64 (a0_2 + x10_78)) + x111_6)) + 1), 0, (rd_T146 y304 x111_6).f1⟩ : S96) [.int .i64 2, .int .i64 ((rd_T146 y304 x111_6).f0), .int .i64 (wrap64 ((wrap64 ((wrap64 (a0_2 + x10_78)) + x111_6)) + 1)), .int .i64 0, .string ((rd_T146 y304 x111_6).f1)] (fun _ => True) (fun _ => False) rfl (by first | (go_simp; done) | (go_simp; rfl)) ?aP (fun _ hk => hk.elim) ?aF ?aO ?aB ?aS ?aL ?_; (case aP => exact k96_mkM _ _ _ (⟨2, (rd_T146 y304 x111_6).f0, wrap64 ((wrap64 ((wrap64 (a0_2 + x10_78)) + x111_6)) + 1), 0, (rd_T146 y304 x111_6).f1⟩ : S96)); (case aB => exact (be HB)); (case aF => exact (fun _ _ => trivial)); (case aO => exact (by (with_reducible repeat (first | apply Kd.R_alloc | apply Kd.R_drewN | apply Kd.R_drew)); exact Kd.R_mono (Kd.R_far (p := ⟨gb309, 1, none⟩) (Kd.R_far (p := ⟨gb309, 0, none⟩) (Kd.R_types HO_6.out BK309.out (by decide)) (fun _ hk => hk.2) (.int .i64 ((rd_T146 y304 x111_6).f0))) (fun _ hk => hk.2) (.string ((rd_T146 y304 x111_6).f1))) (fun _ hk => trivial))); (case aS => exact (below_size (be HB))); (case aL => have := LMc111.out; omega); intro v311 w118 ho hb hg hat; rw [← Ny310.out] at ho; have n0_ := Aside0.mk (blk_grown (g := gb279) (o := .cells #[.int .i64 a0_0, .int .i64 a0_1, .int .i64 a0_2, .int .i64 a0_3, .slice A0_4 l0_4.length c0_4] 50 (0, 0)) (by (with_reducible repeat first | refine bkN ?_ _ | refine bkD ?_ | refine bkA ?_ _ | refine blk_far ?_ NB279_309.out _); exact BK279.out) hg (Kd.R_ne HO_6.out BK279.out (by decide))); have n1_ := Aside0.mk (blk_grown (g := gb280) (o := .cells #[.int .i64 a1_0, .int .i64 a1_1, .int .i64 a1_2, .int .i64 a1_3, .slice A1_4 l1_4.length c1_4] 50 (0, 0)) (by (with_reducible repeat first | refine bkN ?_ _ | refine bkD ?_ | refine bkA ?_ _ | refine blk_far ?_ NB280_309.out _); exact BK280.out) hg (Kd.R_ne HO_6.out BK280.out (by decide))); have n2_ := Aside0.mk (blk_grown (g := gb309) (o := .cells #[.int .i64 ((rd_T146 y304 x111_6).f0), .string ((rd_T146 y304 x111_6).f1)] 146 (0, 0)) (by (with_reducible repeat first | refine bkN ?_ _ | refine bkD ?_ | refine bkA ?_ _); refine blk_put (cs := #[.int .i64 ((rd_T146 y304 x111_6).f0), .string (⟨#[]⟩ : ByteArray)]) ?_ 1 _ rfl; (with_reducible repeat first | refine bkN ?_ _ | refine bkD ?_ | refine bkA ?_ _); refine blk_put (cs := #[.int .i64 0, .string (⟨#[]⟩ : ByteArray)]) ?_ 0 _ rfl; (with_reducible repeat first | refine bkN ?_ _ | refine bkD ?_ | refine bkA ?_ _); exact BK309.out) hg (Kd.R_ne HO_6.out BK309.out (by decide))); have n3_ := Aside0.mk (hb); have HO312 := Aside0.mk (ho); clear HO_6 BK279 BK280 BK309 HB; have BK279 := n0_; have BK280 := n1_; have BK309 := n2_; have HB := n3_; clear n0_ n1_ n2_ n3_; clear ho hb hg hat))
                    repeat (go_quiet (first | ((with_reducible refine gate_dst (N := 12) rfl ?_); (try (refine gate_guard (by rfl) ?_; dsimp only)); refine box_event ?hg (N := 12) ?hd (cs := #[.int .i64 0, .string (⟨#[]⟩ : ByteArray)]) (t := 146) ?hr ?_; (case hd => rfl); (case hg => rfl); (case hr => first | (go_simp; done) | (go_simp; rfl)); intro gb309 hg w112 hbox hb; have BK309 := Aside0.mk (hbox); have GW309 := bs HB hg; have GE309 := bs HB hg; have NB279_309 := bl BK279 hg; have NB309_279 := bg BK279 hg; have NB280_309 := bl BK280 hg; have NB309_280 := bg BK280 hg; replace HO_6 := Aside0.mk (Kd.R_below (rr HO_6) hb); replace BK279 := bq BK279 hb; replace BK280 := bq BK280 hb; replace HB := bh HB hb; clear hb hbox hg; have hnb113 := NB309_279.out; have hnc113 := NB279_309.out; have hnb114 := NB309_280.out; have hnc114 := NB280_309.out; obtain ⟨hcz115_0, hcz115_1⟩ := cs2 BK309; obtain ⟨hfz115_0, hfz115_1⟩ := fs2 BK309; have hnb116 := NB279_280.out; have hnc116 := NB280_279.out; obtain ⟨hcz117_0, hcz117_1, hcz117_2, hcz117_3, hcz117_4⟩ := cs5 BK279; obtain ⟨hfz117_0, hfz117_1, hfz117_2, hfz117_3, hfz117_4⟩ := fs5 BK279) | ((with_reducible refine gate_builtin (b := .append) (xs := #[.tmp 116, .tmp 129]) rfl ?_); (try (refine gate_guard (by rfl) ?_; dsimp only)); at_builtin; refine Kd.R_append k96 (w0 := w) w.heap.size rfl (.tmp 116) (.tmp 129) 90 96 (.agg #[(.int .i64 0), (.int .i64 0), (.int .i64 0), (.int .i64 0), (.string ⟨#[]⟩)]) 48 rfl Try.underlying90 info96 rfl (by decide) (by omega) u6 x6_6 (⟨2, (rd_T146 y304 x111_6).f0, wrap64 ((wrap64 ((wrap64 (a0_2 + x10_78)) + x111_6)) + 1), 0, (rd_T146 y304 x111_6).f1⟩ : S96) [.int .i64 2, .int .i64 ((rd_T146 y304 x111_6).f0), .int .i64 (wrap64 ((wrap64 ((wrap64 (a0_2 + x10_78)) + x111_6)) + 1)), .int .i64 0, .string ((rd_T146 y304 x111_6).f1)] (fun _ => True) (fun _ => False) rfl (by first | (go_simp; done) | (go_simp; rfl)) ?aP (fun _ hk => hk.elim) ?aF ?aO ?aB ?aS ?aL ?_; (case aP => exact k96_mkM _ _ _ (⟨2, (rd_T146 y304 x111_6).f0, wrap64 ((wrap64 ((wrap64 (a0_2 + x10_78)) + x111_6)) + 1), 0, (rd_T146 y304 x111_6).f1⟩ : S96)); (case aB => exact (be HB)); (case aF => exact (fun _ _ => trivial)); (case aO => exact (by (with_reducible repeat (first | apply Kd.R_alloc | apply Kd.R_drewN | apply Kd.R_drew)); exact Kd.R_mono (Kd.R_far (p := ⟨gb309, 1, none⟩) (Kd.R_far (p := ⟨gb309, 0, none⟩) (Kd.R_types HO_6.out BK309.out (by decide)) (fun _ hk => hk.2) (.int .i64 ((rd_T146 y304 x111_6).f0))) (fun _ hk => hk.2) (.string ((rd_T146 y304 x111_6).f1))) (fun _ hk => trivial))); (case aS => exact (below_size (be HB))); (case aL => have := LMc111.out; omega); intro v311 w118 ho hb hg hat; rw [← Ny310.out] at ho; have n0_ := Aside0.mk (blk_grown (g := gb279) (o := .cells #[.int .i64 a0_0, .int .i64 a0_1, .int .i64 a0_2, .int .i64 a0_3, .slice A0_4 l0_4.length c0_4] 50 (0, 0)) (by (with_reducible repeat first | refine bkN ?_ _ | refine bkD ?_ | refine bkA ?_ _ | refine blk_far ?_ NB279_309.out _); exact BK279.out) hg (Kd.R_ne HO_6.out BK279.out (by decide))); have n1_ := Aside0.mk (blk_grown (g := gb280) (o := .cells #[.int .i64 a1_0, .int .i64 a1_1, .int .i64 a1_2, .int .i64 a1_3, .slice A1_4 l1_4.length c1_4] 50 (0, 0)) (by (with_reducible repeat first | refine bkN ?_ _ | refine bkD ?_ | refine bkA ?_ _ | refine blk_far ?_ NB280_309.out _); exact BK280.out) hg (Kd.R_ne HO_6.out BK280.out (by decide))); have n2_ := Aside0.mk (blk_grown (g := gb309) (o := .cells #[.int .i64 ((rd_T146 y304 x111_6).f0), .string ((rd_T146 y304 x111_6).f1)] 146 (0, 0)) (by (with_reducible repeat first | refine bkN ?_ _ | refine bkD ?_ | refine bkA ?_ _); refine blk_put (cs := #[.int .i64 ((rd_T146 y304 x111_6).f0), .string (⟨#[]⟩ : ByteArray)]) ?_ 1 _ rfl; (with_reducible repeat first | refine bkN ?_ _ | refine bkD ?_ | refine bkA ?_ _); refine blk_put (cs := #[.int .i64 0, .string (⟨#[]⟩ : ByteArray)]) ?_ 0 _ rfl; (with_reducible repeat first | refine bkN ?_ _ | refine bkD ?_ | refine bkA ?_ _); exact BK309.out) hg (Kd.R_ne HO_6.out BK309.out (by decide))); have n3_ := Aside0.mk (hb); have HO312 := Aside0.mk (ho); clear HO_6 BK279 BK280 BK309 HB; have BK279 := n0_; have BK280 := n1_; have BK309 := n2_; have HB := n3_; clear n0_ n1_ n2_ n3_; clear ho hb hg hat)); try go_wp2_with (first | ((with_reducible refine gate_dst (N := 12) rfl ?_); (try (refine gate_guard (by rfl) ?_; dsimp only)); refine box_event ?hg (N := 12) ?hd (cs := #[.int .i64 0, .string (⟨#[]⟩ : ByteArray)]) (t := 146) ?hr ?_; (case hd => rfl); (case hg => rfl); (case hr => first | (go_simp; done) | (go_simp; rfl)); intro gb309 hg w112 hbox hb; have BK309 := Aside0.mk (hbox); have GW309 := bs HB hg; have GE309 := bs HB hg; have NB279_309 := bl BK279 hg; have NB309_279 := bg BK279 hg; have NB280_309 := bl BK280 hg; have NB309_280 := bg BK280 hg; replace HO_6 := Aside0.mk (Kd.R_below (rr HO_6) hb); replace BK279 := bq BK279 hb; replace BK280 := bq BK280 hb; replace HB := bh HB hb; clear hb hbox hg; have hnb113 := NB309_279.out; have hnc113 := NB279_309.out; have hnb114 := NB309_280.out; have hnc114 := NB280_309.out; obtain ⟨hcz115_0, hcz115_1⟩ := cs2 BK309; obtain ⟨hfz115_0, hfz115_1⟩ := fs2 BK309; have hnb116 := NB279_280.out; have hnc116 := NB280_279.out; obtain ⟨hcz117_0, hcz117_1, hcz117_2, hcz117_3, hcz117_4⟩ := cs5 BK279; obtain ⟨hfz117_0, hfz117_1, hfz117_2, hfz117_3, hfz117_4⟩ := fs5 BK279) | ((with_reducible refine gate_builtin (b := .append) (xs := #[.tmp 116, .tmp 129]) rfl ?_); (try (refine gate_guard (by rfl) ?_; dsimp only)); at_builtin; refine Kd.R_append k96 (w0 := w) w.heap.size rfl (.tmp 116) (.tmp 129) 90 96 (.agg #[(.int .i64 0), (.int .i64 0), (.int .i64 0), (.int .i64 0), (.string ⟨#[]⟩)]) 48 rfl Try.underlying90 info96 rfl (by decide) (by omega) u6 x6_6 (⟨2, (rd_T146 y304 x111_6).f0, wrap64 ((wrap64 ((wrap64 (a0_2 + x10_78)) + x111_6)) + 1), 0, (rd_T146 y304 x111_6).f1⟩ : S96) [.int .i64 2, .int .i64 ((rd_T146 y304 x111_6).f0), .int .i64 (wrap64 ((wrap64 ((wrap64 (a0_2 + x10_78)) + x111_6)) + 1)), .int .i64 0, .string ((rd_T146 y304 x111_6).f1)] (fun _ => True) (fun _ => False) rfl (by first | (go_simp; done) | (go_simp; rfl)) ?aP (fun _ hk => hk.elim) ?aF ?aO ?aB ?aS ?aL ?_; (case aP => exact k96_mkM _ _ _ (⟨2, (rd_T146 y304 x111_6).f0, wrap64 ((wrap64 ((wrap64 (a0_2 + x10_78)) + x111_6)) + 1), 0, (rd_T146 y304 x111_6).f1⟩ : S96)); (case aB => exact (be HB)); (case aF => exact (fun _ _ => trivial)); (case aO => exact (by (with_reducible repeat (first | apply Kd.R_alloc | apply Kd.R_drewN | apply Kd.R_drew)); exact Kd.R_mono (Kd.R_far (p := ⟨gb309, 1, none⟩) (Kd.R_far (p := ⟨gb309, 0, none⟩) (Kd.R_types HO_6.out BK309.out (by decide)) (fun _ hk => hk.2) (.int .i64 ((rd_T146 y304 x111_6).f0))) (fun _ hk => hk.2) (.string ((rd_T146 y304 x111_6).f1))) (fun _ hk => trivial))); (case aS => exact (below_size (be HB))); (case aL => have := LMc111.out; omega); intro v311 w118 ho hb hg hat; rw [← Ny310.out] at ho; have n0_ := Aside0.mk (blk_grown (g := gb279) (o := .cells #[.int .i64 a0_0, .int .i64 a0_1, .int .i64 a0_2, .int .i64 a0_3, .slice A0_4 l0_4.length c0_4] 50 (0, 0)) (by (with_reducible repeat first | refine bkN ?_ _ | refine bkD ?_ | refine bkA ?_ _ | refine blk_far ?_ NB279_309.out _); exact BK279.out) hg (Kd.R_ne HO_6.out BK279.out (by decide))); have n1_ := Aside0.mk (blk_grown (g := gb280) (o := .cells #[.int .i64 a1_0, .int .i64 a1_1, .int .i64 a1_2, .int .i64 a1_3, .slice A1_4 l1_4.length c1_4] 50 (0, 0)) (by (with_reducible repeat first | refine bkN ?_ _ | refine bkD ?_ | refine bkA ?_ _ | refine blk_far ?_ NB280_309.out _); exact BK280.out) hg (Kd.R_ne HO_6.out BK280.out (by decide))); have n2_ := Aside0.mk (blk_grown (g := gb309) (o := .cells #[.int .i64 ((rd_T146 y304 x111_6).f0), .string ((rd_T146 y304 x111_6).f1)] 146 (0, 0)) (by (with_reducible repeat first | refine bkN ?_ _ | refine bkD ?_ | refine bkA ?_ _); refine blk_put (cs := #[.int .i64 ((rd_T146 y304 x111_6).f0), .string (⟨#[]⟩ : ByteArray)]) ?_ 1 _ rfl; (with_reducible repeat first | refine bkN ?_ _ | refine bkD ?_ | refine bkA ?_ _); refine blk_put (cs := #[.int .i64 0, .string (⟨#[]⟩ : ByteArray)]) ?_ 0 _ rfl; (with_reducible repeat first | refine bkN ?_ _ | refine bkD ?_ | refine bkA ?_ _); exact BK309.out) hg (Kd.R_ne HO_6.out BK309.out (by decide))); have n3_ := Aside0.mk (hb); have HO312 := Aside0.mk (ho); clear HO_6 BK279 BK280 BK309 HB; have BK279 := n0_; have BK280 := n1_; have BK309 := n2_; have HB := n3_; clear n0_ n1_ n2_ n3_; clear ho hb hg hat)))
                    go_roundg k6
                    case measure => have := HJ2.out; have := HJ33.out; have := HJ43.out; have := HJ78.out; have := HJ94.out; have := HK6.out; omega
                    case rel => exact ⟨(y310), (wrap64 (x111_6 + 1)), (by first | rfl | (simp; done) | (simp [*]; done)), H', ⟨by have := HJ2.out; have := HJ33.out; have := HJ43.out; have := HJ78.out; have := HJ94.out; have := HK6.out; omega⟩, ⟨rr HO312⟩, ⟨bb BK279⟩, ⟨bb BK280⟩, ⟨by repeat (first | (with_reducible first | exact HB.out | apply below_alloc | apply pw_below_drewN | apply below_drew1 | refine below_set ?_ GE279.out | refine below_set ?_ GE280.out | refine below_set ?_ GE309.out) | exact HB.out)⟩⟩
                   ·rw [if_neg c111] at H
                    exact absurd H (by simp)
                  ·rw [if_neg c110] at H
                   exact absurd H (by simp)
                 ·rw [if_neg c109] at H
                  exact absurd H (by simp)
                ·rw [if_neg c108] at H
                 have c108b0 : decide (x111_6 < (y304.length : Int)) = false := decide_eq_false c108
                 clear c108; simp only [Option.some.injEq, Prod.mk.injEq] at H
                 obtain ⟨rfl, rfl⟩ := H
                 go_wp2
                 repeat (go_quiet (fail); try go_wp2)
                 go_ret2
                 exact ⟨_, by first | rfl | (simp [errW_none, errW_some] <;> rfl) | (simp [*, errW_none, errW_some] <;> rfl), by (with_reducible repeat (first | apply Kd.R_alloc | apply Kd.R_drewN | apply Kd.R_drew)); exact HO_6.out, by repeat (first | (with_reducible first | exact HB.out | apply below_alloc | apply pw_below_drewN | apply below_drew1 | refine below_set ?_ GE279.out | refine below_set ?_ GE280.out) | exact HB.out)⟩
             ·rw [if_neg c104] at H
              exact absurd H (by simp)
            ·rw [if_neg c103] at H
             exact absurd H (by simp)

end Go.Proofs.Ytobkmpihjfiihaa.PFnExactPlanAdd
