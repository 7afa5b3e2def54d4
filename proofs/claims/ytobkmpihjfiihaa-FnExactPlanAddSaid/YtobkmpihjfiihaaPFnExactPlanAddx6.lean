-- The machine side of a law: written by a program of this session (wip/tools), a turned print.
import Derived.Test.YtobkmpihjfiihaaPFnExactPlanAddx0
import Derived.Test.YtobkmpihjfiihaaPFnExactPlanAddx2
import Derived.Test.YtobkmpihjfiihaaPFnExactPlanAddx3
import Derived.Test.YtobkmpihjfiihaaPFnExactPlanAddx5
namespace Go.Proofs.Ytobkmpihjfiihaa.PFnExactPlanAdd
open Go.RowKit Go.Proofs.YtobkmpihjfiihaaW.PrintWords Go.Proofs.YtobkmpihjfiihaaW.PrintLast Go.Proofs.YtobkmpihjfiihaaW.PrintMore
attribute [local go_sem] max2_int min2_int max_two min_two max_three min_three max_four min_four   -- for this text's walks alone
set_option linter.unusedVariables false
set_option linter.unusedSimpArgs false

attribute [local go_sem high] eqA146
/-! ### spec_Changes: function 59 -/
mutual
def spec_Changes.j0 : Nat → List (S96) → Bool → Int → Int → Int → Int → List (S146) → Int → Int → Int → Int → List (S146) → Option ((List (S96)) × Bool)
 | 0, _, _, _, _, _, _, _, _, _, _, _, _ => none
 | k + 1, x6, x32, x120000, x120001, x120002, x120003, x120004, x121000, x121001, x121002, x121003, x121004 => if x32 = true then (some (x6, false)) else (if x120000 = x121000 then (spec_Changes.j1 k x6 (x120001 != x121001) x120000 x120001 x120002 x120003 x120004 x121000 x121001 x121002 x121003 x121004) else (spec_Changes.j1 k x6 true x120000 x120001 x120002 x120003 x120004 x121000 x121001 x121002 x121003 x121004))
def spec_Changes.j1 : Nat → List (S96) → Bool → Int → Int → Int → Int → List (S146) → Int → Int → Int → Int → List (S146) → Option ((List (S96)) × Bool)
 | 0, _, _, _, _, _, _, _, _, _, _, _, _ => none
 | k + 1, x6, x45, x120000, x120001, x120002, x120003, x120004, x121000, x121001, x121002, x121003, x121004 => if x45 = true then ((spec_l5Fits.f x120000 x120001 x120002 x120003 x120004 1 x121000 0 x121001 (⟨#[]⟩ : ByteArray)).bind fun t127 => (if t127 = true then (if x6.length < 2932031007402 then (spec_Changes.j2 k (x6 ++ [(⟨1, x121000, 0, x121001, (⟨#[]⟩ : ByteArray)⟩ : S96)]) x120000 x120001 x120002 x120003 x120004 x121000 x121001 x121002 x121003 x121004) else (none)) else (some (x6, false)))) else (spec_Changes.j2 k x6 x120000 x120001 x120002 x120003 x120004 x121000 x121001 x121002 x121003 x121004)
def spec_Changes.j2 : Nat → List (S96) → Int → Int → Int → Int → List (S146) → Int → Int → Int → Int → List (S146) → Option ((List (S96)) × Bool)
 | 0, _, _, _, _, _, _, _, _, _, _, _ => none
 | k + 1, x6, x120000, x120001, x120002, x120003, x120004, x121000, x121001, x121002, x121003, x121004 => spec_Changes.l0 k x6 0 x120000 x120001 x120002 x120003 x120004 x121000 x121001 x121002 x121003 x121004
def spec_Changes.j4 : Nat → List (S96) → Int → Int → Int → Int → Int → List (S146) → Int → Int → Int → Int → List (S146) → Option ((List (S96)) × Bool)
 | 0, _, _, _, _, _, _, _, _, _, _, _, _ => none
 | k + 1, x6, x8, x120000, x120001, x120002, x120003, x120004, x121000, x121001, x121002, x121003, x121004 => if x8 < (x120004.length : Int) then (if x6.length < 2932031007402 then (spec_Changes.j5 k (x6 ++ [(⟨3, 0, wrap64 ((wrap64 (x120002 + x8)) + 1), 0, (⟨#[]⟩ : ByteArray)⟩ : S96)]) x8 x121000 x121001 x121002 x121003 x121004) else (none)) else (spec_Changes.j5 k x6 x8 x121000 x121001 x121002 x121003 x121004)
def spec_Changes.j5 : Nat → List (S96) → Int → Int → Int → Int → Int → List (S146) → Option ((List (S96)) × Bool)
 | 0, _, _, _, _, _, _, _ => none
 | k + 1, x6, x8, x121000, x121001, x121002, x121003, x121004 => spec_Changes.l1 k x6 x8 x121000 x121001 x121002 x121003 x121004
def spec_Changes.l1 : Nat → List (S96) → Int → Int → Int → Int → Int → List (S146) → Option ((List (S96)) × Bool)
 | 0, _, _, _, _, _, _, _ => none
 | k + 1, x6, x9, x121000, x121001, x121002, x121003, x121004 => if x9 < (x121004.length : Int) then (if 0 ≤ x9 then (if x6.length < 2932031007402 then (spec_Changes.l1 k (x6 ++ [(⟨2, (rd_T146 x121004 x9).f0, wrap64 ((wrap64 (x121002 + 1)) + x9), 0, (rd_T146 x121004 x9).f1⟩ : S96)]) (wrap64 (x9 + 1)) x121000 x121001 x121002 x121003 x121004) else (none)) else (none)) else (some (x6, true))
def spec_Changes.l0 : Nat → List (S96) → Int → Int → Int → Int → Int → List (S146) → Int → Int → Int → Int → List (S146) → Option ((List (S96)) × Bool)
 | 0, _, _, _, _, _, _, _, _, _, _, _, _ => none
 | k + 1, x6, x8, x120000, x120001, x120002, x120003, x120004, x121000, x121001, x121002, x121003, x121004 => if x8 < (x120004.length : Int) then (if x8 < (x121004.length : Int) then (if 0 ≤ x8 then (if (((rd_T146 x120004 x8).f0) == ((rd_T146 x121004 x8).f0) && ((((rd_T146 x120004 x8).f1).toList) == (((rd_T146 x121004 x8).f1).toList))) = true then (spec_Changes.l0 k x6 (wrap64 (x8 + 1)) x120000 x120001 x120002 x120003 x120004 x121000 x121001 x121002 x121003 x121004) else (spec_Changes.j4 k x6 x8 x120000 x120001 x120002 x120003 x120004 x121000 x121001 x121002 x121003 x121004)) else (none)) else (spec_Changes.j4 k x6 x8 x120000 x120001 x120002 x120003 x120004 x121000 x121001 x121002 x121003 x121004)) else (spec_Changes.j4 k x6 x8 x120000 x120001 x120002 x120003 x120004 x121000 x121001 x121002 x121003 x121004)
end
def spec_Changes.f (k : Nat) (a0_0 : Int) (a0_1 : Int) (a0_2 : Int) (a0_3 : Int) (l0_4 : List (S146)) (a1_0 : Int) (a1_1 : Int) (a1_2 : Int) (a1_3 : Int) (l1_4 : List (S146)) : Option ((List (S96)) × Bool) := (some (([] : List (S96)) : List (S96))).bind fun y121 => ((spec_WalOk.f k a0_0 a0_1 a0_2 a0_3 l0_4).bind fun t124 => (if t124 = true then ((spec_WalOk.f k a1_0 a1_1 a1_2 a1_3 l1_4).bind fun t125 => (if t125 = true then (if a0_2 = a1_2 then (spec_Changes.j0 k y121 (a0_3 != a1_3) a0_0 a0_1 a0_2 a0_3 l0_4 a1_0 a1_1 a1_2 a1_3 l1_4) else (spec_Changes.j0 k y121 true a0_0 a0_1 a0_2 a0_3 l0_4 a1_0 a1_1 a1_2 a1_3 l1_4)) else (spec_Changes.j0 k y121 true a0_0 a0_1 a0_2 a0_3 l0_4 a1_0 a1_1 a1_2 a1_3 l1_4))) else (spec_Changes.j0 k y121 true a0_0 a0_1 a0_2 a0_3 l0_4 a1_0 a1_1 a1_2 a1_3 l1_4)))
theorem spec_Changes.mono_l : ∀ k, (∀ y0 y1 y2 y3 y4 y5 y6 y7 y8 y9 y10 y11, LeO (spec_Changes.j0 k y0 y1 y2 y3 y4 y5 y6 y7 y8 y9 y10 y11) (spec_Changes.j0 (k + 1) y0 y1 y2 y3 y4 y5 y6 y7 y8 y9 y10 y11)) ∧ (∀ y0 y1 y2 y3 y4 y5 y6 y7 y8 y9 y10 y11, LeO (spec_Changes.j1 k y0 y1 y2 y3 y4 y5 y6 y7 y8 y9 y10 y11) (spec_Changes.j1 (k + 1) y0 y1 y2 y3 y4 y5 y6 y7 y8 y9 y10 y11)) ∧ (∀ y0 y1 y2 y3 y4 y5 y6 y7 y8 y9 y10, LeO (spec_Changes.j2 k y0 y1 y2 y3 y4 y5 y6 y7 y8 y9 y10) (spec_Changes.j2 (k + 1) y0 y1 y2 y3 y4 y5 y6 y7 y8 y9 y10)) ∧ (∀ y0 y1 y2 y3 y4 y5 y6 y7 y8 y9 y10 y11, LeO (spec_Changes.j4 k y0 y1 y2 y3 y4 y5 y6 y7 y8 y9 y10 y11) (spec_Changes.j4 (k + 1) y0 y1 y2 y3 y4 y5 y6 y7 y8 y9 y10 y11)) ∧ (∀ y0 y1 y2 y3 y4 y5 y6, LeO (spec_Changes.j5 k y0 y1 y2 y3 y4 y5 y6) (spec_Changes.j5 (k + 1) y0 y1 y2 y3 y4 y5 y6)) ∧ (∀ y0 y1 y2 y3 y4 y5 y6, LeO (spec_Changes.l1 k y0 y1 y2 y3 y4 y5 y6) (spec_Changes.l1 (k + 1) y0 y1 y2 y3 y4 y5 y6)) ∧ (∀ y0 y1 y2 y3 y4 y5 y6 y7 y8 y9 y10 y11, LeO (spec_Changes.l0 k y0 y1 y2 y3 y4 y5 y6 y7 y8 y9 y10 y11) (spec_Changes.l0 (k + 1) y0 y1 y2 y3 y4 y5 y6 y7 y8 y9 y10 y11))
 | 0 => ⟨fun _ _ _ _ _ _ _ _ _ _ _ _ r h => by simp [spec_Changes.j0] at h, fun _ _ _ _ _ _ _ _ _ _ _ _ r h => by simp [spec_Changes.j1] at h, fun _ _ _ _ _ _ _ _ _ _ _ r h => by simp [spec_Changes.j2] at h, fun _ _ _ _ _ _ _ _ _ _ _ _ r h => by simp [spec_Changes.j4] at h, fun _ _ _ _ _ _ _ r h => by simp [spec_Changes.j5] at h, fun _ _ _ _ _ _ _ r h => by simp [spec_Changes.l1] at h, fun _ _ _ _ _ _ _ _ _ _ _ _ r h => by simp [spec_Changes.l0] at h⟩
 | k + 1 => by
  obtain ⟨ih0, ih1, ih2, ih3, ih4, ih5, ih6⟩ := spec_Changes.mono_l k
  refine ⟨?_, ?_, ?_, ?_, ?_, ?_, ?_⟩
  ·intro y0 y1 y2 y3 y4 y5 y6 y7 y8 y9 y10 y11
   unfold spec_Changes.j0
   repeat' first
   | (with_reducible exact ih0 _ _ _ _ _ _ _ _ _ _ _ _)
   | (with_reducible exact ih1 _ _ _ _ _ _ _ _ _ _ _ _)
   | (with_reducible exact ih2 _ _ _ _ _ _ _ _ _ _ _)
   | (with_reducible exact ih3 _ _ _ _ _ _ _ _ _ _ _ _)
   | (with_reducible exact ih4 _ _ _ _ _ _ _)
   | (with_reducible exact ih5 _ _ _ _ _ _ _)
   | (with_reducible exact ih6 _ _ _ _ _ _ _ _ _ _ _ _)
   | (with_reducible exact spec_WalOk.mono _ _ _ _ _ _)
   | (with_reducible exact LeO.refl _)
   | (with_reducible exact LeO.none _)
   | (with_reducible refine LeO.ite ?_ ?_)
   | (with_reducible refine LeO.bind ?_ (fun _ => ?_))
   | exact ih0 _ _ _ _ _ _ _ _ _ _ _ _
   | exact ih1 _ _ _ _ _ _ _ _ _ _ _ _
   | exact ih2 _ _ _ _ _ _ _ _ _ _ _
   | exact ih3 _ _ _ _ _ _ _ _ _ _ _ _
   | exact ih4 _ _ _ _ _ _ _
   | exact ih5 _ _ _ _ _ _ _
   | exact ih6 _ _ _ _ _ _ _ _ _ _ _ _
   | exact spec_WalOk.mono _ _ _ _ _ _
   | exact LeO.none _
   | refine LeO.ite ?_ ?_
   | refine LeO.bind ?_ (fun _ => ?_)
  ·intro y0 y1 y2 y3 y4 y5 y6 y7 y8 y9 y10 y11
   unfold spec_Changes.j1
   repeat' first
   | (with_reducible exact ih0 _ _ _ _ _ _ _ _ _ _ _ _)
   | (with_reducible exact ih1 _ _ _ _ _ _ _ _ _ _ _ _)
   | (with_reducible exact ih2 _ _ _ _ _ _ _ _ _ _ _)
   | (with_reducible exact ih3 _ _ _ _ _ _ _ _ _ _ _ _)
   | (with_reducible exact ih4 _ _ _ _ _ _ _)
   | (with_reducible exact ih5 _ _ _ _ _ _ _)
   | (with_reducible exact ih6 _ _ _ _ _ _ _ _ _ _ _ _)
   | (with_reducible exact spec_WalOk.mono _ _ _ _ _ _)
   | (with_reducible exact LeO.refl _)
   | (with_reducible exact LeO.none _)
   | (with_reducible refine LeO.ite ?_ ?_)
   | (with_reducible refine LeO.bind ?_ (fun _ => ?_))
   | exact ih0 _ _ _ _ _ _ _ _ _ _ _ _
   | exact ih1 _ _ _ _ _ _ _ _ _ _ _ _
   | exact ih2 _ _ _ _ _ _ _ _ _ _ _
   | exact ih3 _ _ _ _ _ _ _ _ _ _ _ _
   | exact ih4 _ _ _ _ _ _ _
   | exact ih5 _ _ _ _ _ _ _
   | exact ih6 _ _ _ _ _ _ _ _ _ _ _ _
   | exact spec_WalOk.mono _ _ _ _ _ _
   | exact LeO.none _
   | refine LeO.ite ?_ ?_
   | refine LeO.bind ?_ (fun _ => ?_)
  ·intro y0 y1 y2 y3 y4 y5 y6 y7 y8 y9 y10
   unfold spec_Changes.j2
   repeat' first
   | (with_reducible exact ih0 _ _ _ _ _ _ _ _ _ _ _ _)
   | (with_reducible exact ih1 _ _ _ _ _ _ _ _ _ _ _ _)
   | (with_reducible exact ih2 _ _ _ _ _ _ _ _ _ _ _)
   | (with_reducible exact ih3 _ _ _ _ _ _ _ _ _ _ _ _)
   | (with_reducible exact ih4 _ _ _ _ _ _ _)
   | (with_reducible exact ih5 _ _ _ _ _ _ _)
   | (with_reducible exact ih6 _ _ _ _ _ _ _ _ _ _ _ _)
   | (with_reducible exact spec_WalOk.mono _ _ _ _ _ _)
   | (with_reducible exact LeO.refl _)
   | (with_reducible exact LeO.none _)
   | (with_reducible refine LeO.ite ?_ ?_)
   | (with_reducible refine LeO.bind ?_ (fun _ => ?_))
   | exact ih0 _ _ _ _ _ _ _ _ _ _ _ _
   | exact ih1 _ _ _ _ _ _ _ _ _ _ _ _
   | exact ih2 _ _ _ _ _ _ _ _ _ _ _
   | exact ih3 _ _ _ _ _ _ _ _ _ _ _ _
   | exact ih4 _ _ _ _ _ _ _
   | exact ih5 _ _ _ _ _ _ _
   | exact ih6 _ _ _ _ _ _ _ _ _ _ _ _
   | exact spec_WalOk.mono _ _ _ _ _ _
   | exact LeO.none _
   | refine LeO.ite ?_ ?_
   | refine LeO.bind ?_ (fun _ => ?_)
  ·intro y0 y1 y2 y3 y4 y5 y6 y7 y8 y9 y10 y11
   unfold spec_Changes.j4
   repeat' first
   | (with_reducible exact ih0 _ _ _ _ _ _ _ _ _ _ _ _)
   | (with_reducible exact ih1 _ _ _ _ _ _ _ _ _ _ _ _)
   | (with_reducible exact ih2 _ _ _ _ _ _ _ _ _ _ _)
   | (with_reducible exact ih3 _ _ _ _ _ _ _ _ _ _ _ _)
   | (with_reducible exact ih4 _ _ _ _ _ _ _)
   | (with_reducible exact ih5 _ _ _ _ _ _ _)
   | (with_reducible exact ih6 _ _ _ _ _ _ _ _ _ _ _ _)
   | (with_reducible exact spec_WalOk.mono _ _ _ _ _ _)
   | (with_reducible exact LeO.refl _)
   | (with_reducible exact LeO.none _)
   | (with_reducible refine LeO.ite ?_ ?_)
   | (with_reducible refine LeO.bind ?_ (fun _ => ?_))
   | exact ih0 _ _ _ _ _ _ _ _ _ _ _ _
   | exact ih1 _ _ _ _ _ _ _ _ _ _ _ _
   | exact ih2 _ _ _ _ _ _ _ _ _ _ _
   | exact ih3 _ _ _ _ _ _ _ _ _ _ _ _
   | exact ih4 _ _ _ _ _ _ _
   | exact ih5 _ _ _ _ _ _ _
   | exact ih6 _ _ _ _ _ _ _ _ _ _ _ _
   | exact spec_WalOk.mono _ _ _ _ _ _
   | exact LeO.none _
   | refine LeO.ite ?_ ?_
   | refine LeO.bind ?_ (fun _ => ?_)
  ·intro y0 y1 y2 y3 y4 y5 y6
   unfold spec_Changes.j5
   repeat' first
   | (with_reducible exact ih0 _ _ _ _ _ _ _ _ _ _ _ _)
   | (with_reducible exact ih1 _ _ _ _ _ _ _ _ _ _ _ _)
   | (with_reducible exact ih2 _ _ _ _ _ _ _ _ _ _ _)
   | (with_reducible exact ih3 _ _ _ _ _ _ _ _ _ _ _ _)
   | (with_reducible exact ih4 _ _ _ _ _ _ _)
   | (with_reducible exact ih5 _ _ _ _ _ _ _)
   | (with_reducible exact ih6 _ _ _ _ _ _ _ _ _ _ _ _)
   | (with_reducible exact spec_WalOk.mono _ _ _ _ _ _)
   | (with_reducible exact LeO.refl _)
   | (with_reducible exact LeO.none _)
   | (with_reducible refine LeO.ite ?_ ?_)
   | (with_reducible refine LeO.bind ?_ (fun _ => ?_))
   | exact ih0 _ _ _ _ _ _ _ _ _ _ _ _
   | exact ih1 _ _ _ _ _ _ _ _ _ _ _ _
   | exact ih2 _ _ _ _ _ _ _ _ _ _ _
   | exact ih3 _ _ _ _ _ _ _ _ _ _ _ _
   | exact ih4 _ _ _ _ _ _ _
   | exact ih5 _ _ _ _ _ _ _
   | exact ih6 _ _ _ _ _ _ _ _ _ _ _ _
   | exact spec_WalOk.mono _ _ _ _ _ _
   | exact LeO.none _
   | refine LeO.ite ?_ ?_
   | refine LeO.bind ?_ (fun _ => ?_)
  ·intro y0 y1 y2 y3 y4 y5 y6
   unfold spec_Changes.l1
   repeat' first
   | (with_reducible exact ih0 _ _ _ _ _ _ _ _ _ _ _ _)
   | (with_reducible exact ih1 _ _ _ _ _ _ _ _ _ _ _ _)
   | (with_reducible exact ih2 _ _ _ _ _ _ _ _ _ _ _)
   | (with_reducible exact ih3 _ _ _ _ _ _ _ _ _ _ _ _)
   | (with_reducible exact ih4 _ _ _ _ _ _ _)
   | (with_reducible exact ih5 _ _ _ _ _ _ _)
   | (with_reducible exact ih6 _ _ _ _ _ _ _ _ _ _ _ _)
   | (with_reducible exact spec_WalOk.mono _ _ _ _ _ _)
   | (with_reducible exact LeO.refl _)
   | (with_reducible exact LeO.none _)
   | (with_reducible refine LeO.ite ?_ ?_)
   | (with_reducible refine LeO.bind ?_ (fun _ => ?_))
   | exact ih0 _ _ _ _ _ _ _ _ _ _ _ _
   | exact ih1 _ _ _ _ _ _ _ _ _ _ _ _
   | exact ih2 _ _ _ _ _ _ _ _ _ _ _
   | exact ih3 _ _ _ _ _ _ _ _ _ _ _ _
   | exact ih4 _ _ _ _ _ _ _
   | exact ih5 _ _ _ _ _ _ _
   | exact ih6 _ _ _ _ _ _ _ _ _ _ _ _
   | exact spec_WalOk.mono _ _ _ _ _ _
   | exact LeO.none _
   | refine LeO.ite ?_ ?_
   | refine LeO.bind ?_ (fun _ => ?_)
  ·intro y0 y1 y2 y3 y4 y5 y6 y7 y8 y9 y10 y11
   unfold spec_Changes.l0
   repeat' first
   | (with_reducible exact ih0 _ _ _ _ _ _ _ _ _ _ _ _)
   | (with_reducible exact ih1 _ _ _ _ _ _ _ _ _ _ _ _)
   | (with_reducible exact ih2 _ _ _ _ _ _ _ _ _ _ _)
   | (with_reducible exact ih3 _ _ _ _ _ _ _ _ _ _ _ _)
   | (with_reducible exact ih4 _ _ _ _ _ _ _)
   | (with_reducible exact ih5 _ _ _ _ _ _ _)
   | (with_reducible exact ih6 _ _ _ _ _ _ _ _ _ _ _ _)
   | (with_reducible exact spec_WalOk.mono _ _ _ _ _ _)
   | (with_reducible exact LeO.refl _)
   | (with_reducible exact LeO.none _)
   | (with_reducible refine LeO.ite ?_ ?_)
   | (with_reducible refine LeO.bind ?_ (fun _ => ?_))
   | exact ih0 _ _ _ _ _ _ _ _ _ _ _ _
   | exact ih1 _ _ _ _ _ _ _ _ _ _ _ _
   | exact ih2 _ _ _ _ _ _ _ _ _ _ _
   | exact ih3 _ _ _ _ _ _ _ _ _ _ _ _
   | exact ih4 _ _ _ _ _ _ _
   | exact ih5 _ _ _ _ _ _ _
   | exact ih6 _ _ _ _ _ _ _ _ _ _ _ _
   | exact spec_WalOk.mono _ _ _ _ _ _
   | exact LeO.none _
   | refine LeO.ite ?_ ?_
   | refine LeO.bind ?_ (fun _ => ?_)
theorem spec_Changes.mono : ∀ a0 a1 a2 a3 a4 a5 a6 a7 a8 a9 k, LeO (spec_Changes.f k a0 a1 a2 a3 a4 a5 a6 a7 a8 a9) (spec_Changes.f (k + 1) a0 a1 a2 a3 a4 a5 a6 a7 a8 a9) := by
 intro a0 a1 a2 a3 a4 a5 a6 a7 a8 a9 k
 obtain ⟨ih0, ih1, ih2, ih3, ih4, ih5, ih6⟩ := spec_Changes.mono_l k
 unfold spec_Changes.f
 repeat' first
   | (with_reducible exact ih0 _ _ _ _ _ _ _ _ _ _ _ _)
   | (with_reducible exact ih1 _ _ _ _ _ _ _ _ _ _ _ _)
   | (with_reducible exact ih2 _ _ _ _ _ _ _ _ _ _ _)
   | (with_reducible exact ih3 _ _ _ _ _ _ _ _ _ _ _ _)
   | (with_reducible exact ih4 _ _ _ _ _ _ _)
   | (with_reducible exact ih5 _ _ _ _ _ _ _)
   | (with_reducible exact ih6 _ _ _ _ _ _ _ _ _ _ _ _)
   | (with_reducible exact spec_WalOk.mono _ _ _ _ _ _)
   | (with_reducible exact LeO.refl _)
   | (with_reducible exact LeO.none _)
   | (with_reducible refine LeO.ite ?_ ?_)
   | (with_reducible refine LeO.bind ?_ (fun _ => ?_))
   | exact ih0 _ _ _ _ _ _ _ _ _ _ _ _
   | exact ih1 _ _ _ _ _ _ _ _ _ _ _ _
   | exact ih2 _ _ _ _ _ _ _ _ _ _ _
   | exact ih3 _ _ _ _ _ _ _ _ _ _ _ _
   | exact ih4 _ _ _ _ _ _ _
   | exact ih5 _ _ _ _ _ _ _
   | exact ih6 _ _ _ _ _ _ _ _ _ _ _ _
   | exact spec_WalOk.mono _ _ _ _ _ _
   | exact LeO.none _
   | refine LeO.ite ?_ ?_
   | refine LeO.bind ?_ (fun _ => ?_)
def spec_Changes.T10 : Bool × List (List Nat × List Nat) := (true, [([], []), ([], []), ([1], [1]), ([2], [2]), ([0, 3], [0, 3]), ([4], [4]), ([5], [5]), ([5], [5]), ([7, 5], [5, 7]), ([8, 5], [5, 8]), ([6, 9, 5], [5, 6, 9]), ([5, 10], [5, 10]), ([11, 5], [11]), ([12], [12]), ([13, 12], [12, 13]), ([12], [12]), ([14, 15, 12], [12, 14, 15]), ([16, 12], [12, 16]), ([12], [12]), ([18, 12], [12, 18]), ([12], [12]), ([19, 20, 12], [12, 19, 20]), ([21, 12], [12, 21]), ([17, 22, 12], [12, 17, 22]), ([12, 23], [12, 23])])
def spec_Changes.B10 : List Nat := [0, 0, 2, 6, 15, 31, 63, 63, 191, 447, 1023, 2047, 4095, 8191, 16383, 8191, 65535, 131071, 8191, 270335, 8191, 1843199, 3940351, 8388607, 16777215]
theorem spec_Changes.tab10 : rtab .any (opsOf Try.f59 10) = spec_Changes.T10 := by kernel_rfl
theorem spec_Changes.bits10 : waitsOk spec_Changes.T10.2 spec_Changes.B10 = true := by kernel_rfl
def spec_Changes.T17 : Bool × List (List Nat × List Nat) := (true, [([], []), ([], []), ([1], [1]), ([], []), ([2, 3], [2, 3]), ([4], [4]), ([5], [5]), ([], []), ([7], [7]), ([8], [8]), ([], []), ([9, 10], [9, 10]), ([], []), ([12], [12]), ([], []), ([13, 14], [13, 14]), ([15], [15]), ([16], [16]), ([6, 11, 17], [6, 11, 17]), ([18], [18]), ([0, 19], [0, 19]), ([20, 20, 0, 1, 2, 3, 4, 5, 6, 7, 8, 9, 10, 11, 12, 13, 14, 15, 16, 17, 18, 19, 20], [0, 20])])
def spec_Changes.B17 : List Nat := [0, 0, 2, 0, 14, 30, 62, 0, 128, 384, 0, 1920, 0, 4096, 0, 28672, 61440, 126976, 262142, 524286, 1048575, 2097151]
theorem spec_Changes.tab17 : rtab .any (opsOf Try.f59 17) = spec_Changes.T17 := by kernel_rfl
theorem spec_Changes.bits17 : waitsOk spec_Changes.T17.2 spec_Changes.B17 = true := by kernel_rfl
set_option maxHeartbeats 8000000 in
set_option maxRecDepth 100000 in
theorem spec_Changes.calls (k : Nat) (a0_0 : Int) (a0_1 : Int) (a0_2 : Int) (a0_3 : Int) (A0_4 : Option Addr) (c0_4 : Nat) (l0_4 : List (S146)) (a1_0 : Int) (a1_1 : Int) (a1_2 : Int) (a1_3 : Int) (A1_4 : Option Addr) (c1_4 : Nat) (l1_4 : List (S146)) (r1 : List (S96)) (r2 : Bool) (w : World) (hr0_4 : Kd.C k146 w A0_4 l0_4.length l0_4) (hc0_4 : l0_4.length ≤ c0_4) (hr1_4 : Kd.C k146 w A1_4 l1_4.length l1_4) (hc1_4 : l1_4.length ≤ c1_4) (h : spec_Changes.f k a0_0 a0_1 a0_2 a0_3 l0_4 a1_0 a1_1 a1_2 a1_3 l1_4 = some (r1, r2)) :
  Calls Try.prog 59 #[.agg #[.int .i64 a0_0, .int .i64 a0_1, .int .i64 a0_2, .int .i64 a0_3, .slice A0_4 l0_4.length c0_4], .agg #[.int .i64 a1_0, .int .i64 a1_1, .int .i64 a1_2, .int .i64 a1_3, .slice A1_4 l1_4.length c1_4]] w fun e w' => ∃ v0_ : Value, e = .returned (.tuple #[v0_, .bool r2]) ∧ Kd.R k96 96 w' w.heap.size (fun _ => True) v0_ r1 ∧ Below w.heap.size w w' := by
 have hu50 := Try.underlying50
 have hu96 := Try.underlying96
 have hu146 := Try.underlying146
 have HR0_4 := Aside0.mk hr0_4
 have HC0_4 := Aside0.mk hc0_4
 clear hr0_4 hc0_4; have HR1_4 := Aside0.mk hr1_4
 have HC1_4 := Aside0.mk hc1_4
 clear hr1_4 hc1_4; have HB := Aside0.mk (Below.refl w.heap.size w)
 have H : ((some (([] : List (S96)) : List (S96))).bind fun y121 => ((spec_WalOk.f k a0_0 a0_1 a0_2 a0_3 l0_4).bind fun t124 => (if t124 = true then ((spec_WalOk.f k a1_0 a1_1 a1_2 a1_3 l1_4).bind fun t125 => (if t125 = true then (if a0_2 = a1_2 then (spec_Changes.j0 k y121 (a0_3 != a1_3) a0_0 a0_1 a0_2 a0_3 l0_4 a1_0 a1_1 a1_2 a1_3 l1_4) else (spec_Changes.j0 k y121 true a0_0 a0_1 a0_2 a0_3 l0_4 a1_0 a1_1 a1_2 a1_3 l1_4)) else (spec_Changes.j0 k y121 true a0_0 a0_1 a0_2 a0_3 l0_4 a1_0 a1_1 a1_2 a1_3 l1_4))) else (spec_Changes.j0 k y121 true a0_0 a0_1 a0_2 a0_3 l0_4 a1_0 a1_1 a1_2 a1_3 l1_4)))) = some (r1, r2) := h
 clear h; obtain ⟨y121, hy121⟩ : ∃ y_ : List (S96), y_ = (([] : List (S96))) := ⟨_, rfl⟩
 replace H : ((spec_WalOk.f k a0_0 a0_1 a0_2 a0_3 l0_4).bind fun t124 => (if t124 = true then ((spec_WalOk.f k a1_0 a1_1 a1_2 a1_3 l1_4).bind fun t125 => (if t125 = true then (if a0_2 = a1_2 then (spec_Changes.j0 k y121 (a0_3 != a1_3) a0_0 a0_1 a0_2 a0_3 l0_4 a1_0 a1_1 a1_2 a1_3 l1_4) else (spec_Changes.j0 k y121 true a0_0 a0_1 a0_2 a0_3 l0_4 a1_0 a1_1 a1_2 a1_3 l1_4)) else (spec_Changes.j0 k y121 true a0_0 a0_1 a0_2 a0_3 l0_4 a1_0 a1_1 a1_2 a1_3 l1_4))) else (spec_Changes.j0 k y121 true a0_0 a0_1 a0_2 a0_3 l0_4 a1_0 a1_1 a1_2 a1_3 l1_4))) = some (r1, r2) := by first | (rw [hy121]; with_reducible exact H) | (have H2_ := (Option.bind_some _ _).symm.trans H; rw [hy121]; with_reducible exact H2_) | (have H2_ := (Option.bind_some _ _).symm.trans H; with_reducible exact H2_) | with_reducible exact H | (rw [hy121]; exact H) | exact H
 have Ny121 := Aside0.mk hy121
 clear hy121; have HC3 := Aside0.mk H
 clear H
 go_enter Try.func59, Try.ntmps59
 go_upto_region 2 with (first | ((with_reducible refine gate_dst (N := 2) rfl ?_); (try (refine gate_guard (by rfl) ?_; dsimp only)); refine box_event ?hg (N := 2) ?hd (cs := #[.int .i64 a0_0, .int .i64 a0_1, .int .i64 a0_2, .int .i64 a0_3, .slice A0_4 l0_4.length c0_4]) (t := 50) ?hr ?_; (case hd => rfl); (case hg => rfl); (case hr => first | (go_simp; done) | (go_simp; rfl)); intro gb119 hg w4 hbox hb; have BK119 := Aside0.mk (hbox); have GW119 := bs HB hg; have GE119 := bs HB hg; replace HB := bh HB hb; clear hb hbox hg) | ((with_reducible refine gate_dst (N := 3) rfl ?_); (try (refine gate_guard (by rfl) ?_; dsimp only)); refine box_event ?hg (N := 3) ?hd (cs := #[.int .i64 a1_0, .int .i64 a1_1, .int .i64 a1_2, .int .i64 a1_3, .slice A1_4 l1_4.length c1_4]) (t := 50) ?hr ?_; (case hd => rfl); (case hg => rfl); (case hr => first | (go_simp; done) | (go_simp; rfl)); intro gb120 hg w5 hbox hb; have BK120 := Aside0.mk (hbox); have GW120 := bs HB hg; have GE120 := bs HB hg; have NB119_120 := bl BK119 hg; have NB120_119 := bg BK119 hg; replace BK119 := bq BK119 hb; replace HB := bh HB hb; clear hb hbox hg) | ((with_reducible refine gate_dst (N := 10) rfl ?_); (try (refine gate_guard (by rfl) ?_; dsimp only)); refine Kd.R_lit k96 _ 96 ?hg (N := 10) ?hd (xs := ([] : List (S96))) (inner := []) (ok := fun _ => True) (okp := fun _ => True) ?hr ?hp (fun _ hk => hk) trivial (Below.refl _ _) (Nat.le_refl _) (by simp) ?_; (case hd => rfl); (case hg => rfl); (case hr => first | (go_simp; done) | (go_simp; rfl)); (case hp => exact (Reps.none _ _)); intro v122 w6 ho7 hb hg_ hnew_; clear hg_ hnew_; (first | rw [← Ny121.out] at ho7 | (simp only [Int.reduceToNat] at ho7; rw [← Ny121.out] at ho7)); have HO123 := Aside0.mk (Kd.R_lower ho7 (below_size (be HB))); replace BK119 := bq BK119 hb; replace BK120 := bq BK120 hb; replace HB := bh HB hb; clear hb ho7))
 (try simp only [putL])
 go_cut [32] (fun v32 wc => ∃ (kq : Nat) (x32_2 : Bool), v32 = .bool x32_2 ∧ Aside0 (spec_Changes.j0 kq y121 x32_2 a0_0 a0_1 a0_2 a0_3 l0_4 a1_0 a1_1 a1_2 a1_3 l1_4 = some (r1, r2)) ∧ Aside0 (kq ≤ k) ∧ Aside0 (Kd.R k96 96 wc w.heap.size (fun _ => True) v122 y121) ∧ Aside0 (wc.heap[gb119]? = some (.cells #[.int .i64 a0_0, .int .i64 a0_1, .int .i64 a0_2, .int .i64 a0_3, (.slice A0_4 l0_4.length c0_4)] 50 (0, 0))) ∧ Aside0 (wc.heap[gb120]? = some (.cells #[.int .i64 a1_0, .int .i64 a1_1, .int .i64 a1_2, .int .i64 a1_3, (.slice A1_4 l1_4.length c1_4)] 50 (0, 0))) ∧ Aside0 (Below w.heap.size w wc))
 case first =>
  have H := HC3.out; clear HC3; replace H := Option.bind_eq_some_iff.mp H
  obtain ⟨t124, A80, H⟩ := H
  replace H : (if t124 = true then ((spec_WalOk.f k a1_0 a1_1 a1_2 a1_3 l1_4).bind fun t125 => (if t125 = true then (if a0_2 = a1_2 then (spec_Changes.j0 k y121 (a0_3 != a1_3) a0_0 a0_1 a0_2 a0_3 l0_4 a1_0 a1_1 a1_2 a1_3 l1_4) else (spec_Changes.j0 k y121 true a0_0 a0_1 a0_2 a0_3 l0_4 a1_0 a1_1 a1_2 a1_3 l1_4)) else (spec_Changes.j0 k y121 true a0_0 a0_1 a0_2 a0_3 l0_4 a1_0 a1_1 a1_2 a1_3 l1_4))) else (spec_Changes.j0 k y121 true a0_0 a0_1 a0_2 a0_3 l0_4 a1_0 a1_1 a1_2 a1_3 l1_4)) = some (r1, r2) := H
  have A8 := Aside0.mk A80
  clear A80
  by_cases c9 : t124 = true
  ·subst c9
   have H1 : ((spec_WalOk.f k a1_0 a1_1 a1_2 a1_3 l1_4).bind fun t125 => (if t125 = true then (if a0_2 = a1_2 then (spec_Changes.j0 k y121 (a0_3 != a1_3) a0_0 a0_1 a0_2 a0_3 l0_4 a1_0 a1_1 a1_2 a1_3 l1_4) else (spec_Changes.j0 k y121 true a0_0 a0_1 a0_2 a0_3 l0_4 a1_0 a1_1 a1_2 a1_3 l1_4)) else (spec_Changes.j0 k y121 true a0_0 a0_1 a0_2 a0_3 l0_4 a1_0 a1_1 a1_2 a1_3 l1_4))) = some (r1, r2) := by rw [if_pos rfl] at H; exact H
   clear H; have H := H1
   clear H1; replace H := Option.bind_eq_some_iff.mp H
   obtain ⟨t125, A100, H⟩ := H
   replace H : (if t125 = true then (if a0_2 = a1_2 then (spec_Changes.j0 k y121 (a0_3 != a1_3) a0_0 a0_1 a0_2 a0_3 l0_4 a1_0 a1_1 a1_2 a1_3 l1_4) else (spec_Changes.j0 k y121 true a0_0 a0_1 a0_2 a0_3 l0_4 a1_0 a1_1 a1_2 a1_3 l1_4)) else (spec_Changes.j0 k y121 true a0_0 a0_1 a0_2 a0_3 l0_4 a1_0 a1_1 a1_2 a1_3 l1_4)) = some (r1, r2) := H
   have A10 := Aside0.mk A100
   clear A100
   by_cases c11 : t125 = true
   ·subst c11
    have H1 : (if a0_2 = a1_2 then (spec_Changes.j0 k y121 (a0_3 != a1_3) a0_0 a0_1 a0_2 a0_3 l0_4 a1_0 a1_1 a1_2 a1_3 l1_4) else (spec_Changes.j0 k y121 true a0_0 a0_1 a0_2 a0_3 l0_4 a1_0 a1_1 a1_2 a1_3 l1_4)) = some (r1, r2) := by rw [if_pos rfl] at H; exact H
    clear H; have H := H1
    clear H1
    by_cases c12 : a0_2 = a1_2
    ·rw [if_pos c12] at H
     have c12b0 : (a0_2 == a1_2) = true := beq_iff_eq.mpr c12
     have c12b1 : (a0_2 != a1_2) = false := bne_eq_false_iff_eq.mpr c12
     clear c12
     (first | rw [c12b0] | (simp only [i64_w, i32_w]; rw [c12b0]) | skip)
     have H' := Aside0.mk H
     clear H; have hnb13 := NB119_120.out; have hnc13 := NB120_119.out; obtain ⟨hcz14_0, hcz14_1, hcz14_2, hcz14_3, hcz14_4⟩ := cs5 BK119; obtain ⟨hfz14_0, hfz14_1, hfz14_2, hfz14_3, hfz14_4⟩ := fs5 BK119
     go_wp2_with (first | ((with_reducible refine gate_callee (f := 104) rfl ?_); refine goesL_ (some 12) rfl rfl Try.func104 (by kernel_rfl) rfl #[.agg #[.int .i64 a0_0, .int .i64 a0_1, .int .i64 a0_2, .int .i64 a0_3, .slice A0_4 l0_4.length c0_4]] rfl (by (try simp only [List.map_toArray, List.map_cons, List.map_nil]); first | done | rfl | (simp only [List.length_drop, List.length_take]; rfl)) ?_; (with_reducible refine (spec_WalOk.calls k a0_0 a0_1 a0_2 a0_3 _ _ l0_4 true _ ?side1 ?side2 A8.out).mono ?_); (case side1 => repeat (first | exact (Kd.C_below HR0_4.out HB.out) | (with_reducible refine Kd.C_alloc ?_ _) | (with_reducible refine Kd.C_drewN ?_ _) | (with_reducible refine Kd.C_drew ?_))); (case side2 => exact HC0_4.out); rintro e w15 ⟨rfl, hb⟩; refine ⟨_, rfl, ?_⟩; replace HO123 := Aside0.mk (Kd.R_below (rr HO123) hb); replace BK119 := bq BK119 hb; replace BK120 := bq BK120 hb; replace HB := bh HB hb; (try clear hb); (try clear hb2); (try clear hk); (try clear hi); obtain ⟨hcz16_0, hcz16_1, hcz16_2, hcz16_3, hcz16_4⟩ := cs5 BK120; obtain ⟨hfz16_0, hfz16_1, hfz16_2, hfz16_3, hfz16_4⟩ := fs5 BK120) | (go_at_call 104; (with_reducible refine (spec_WalOk.calls k a1_0 a1_1 a1_2 a1_3 _ _ l1_4 true _ ?side1 ?side2 A10.out).mono ?_); (case side1 => repeat (first | exact (Kd.C_below HR1_4.out HB.out) | (with_reducible refine Kd.C_alloc ?_ _) | (with_reducible refine Kd.C_drewN ?_ _) | (with_reducible refine Kd.C_drew ?_))); (case side2 => exact HC1_4.out); rintro e w17 ⟨rfl, hb⟩; replace HO123 := Aside0.mk (Kd.R_below (rr HO123) hb); replace BK119 := bq BK119 hb; replace BK120 := bq BK120 hb; replace HB := bh HB hb; (try clear hb); (try clear hb2); (try clear hk); (try clear hi); obtain ⟨hcz18_0, hcz18_1, hcz18_2, hcz18_3, hcz18_4⟩ := cs5 BK119; obtain ⟨hfz18_0, hfz18_1, hfz18_2, hfz18_3, hfz18_4⟩ := fs5 BK119; obtain ⟨hcz19_0, hcz19_1, hcz19_2, hcz19_3, hcz19_4⟩ := cs5 BK120; obtain ⟨hfz19_0, hfz19_1, hfz19_2, hfz19_3, hfz19_4⟩ := fs5 BK120))
     go_meet
     case rel => exact ⟨_, ((a0_3 != a1_3)), (by first | rfl | (simp; done) | (simp [*]; done)), H', ⟨by first | omega | exact Nat.le_refl _⟩, ⟨rr HO123⟩, ⟨bb BK119⟩, ⟨bb BK120⟩, ⟨by repeat (first | (with_reducible first | exact HB.out | apply below_alloc | apply pw_below_drewN | apply below_drew1 | refine below_set ?_ GE119.out | refine below_set ?_ GE120.out) | exact HB.out)⟩⟩
    ·rw [if_neg c12] at H
     have c12b0 : (a0_2 == a1_2) = false := beq_eq_false_iff_ne.mpr c12
     have c12b1 : (a0_2 != a1_2) = true := bne_iff_ne.mpr c12
     (first | rw [c12b0] | (simp only [i64_w, i32_w]; rw [c12b0]) | skip)
     have H' := Aside0.mk H
     clear H; have hnb20 := NB119_120.out; have hnc20 := NB120_119.out; obtain ⟨hcz21_0, hcz21_1, hcz21_2, hcz21_3, hcz21_4⟩ := cs5 BK119; obtain ⟨hfz21_0, hfz21_1, hfz21_2, hfz21_3, hfz21_4⟩ := fs5 BK119
     go_wp2_with (first | ((with_reducible refine gate_callee (f := 104) rfl ?_); refine goesL_ (some 12) rfl rfl Try.func104 (by kernel_rfl) rfl #[.agg #[.int .i64 a0_0, .int .i64 a0_1, .int .i64 a0_2, .int .i64 a0_3, .slice A0_4 l0_4.length c0_4]] rfl (by (try simp only [List.map_toArray, List.map_cons, List.map_nil]); first | done | rfl | (simp only [List.length_drop, List.length_take]; rfl)) ?_; (with_reducible refine (spec_WalOk.calls k a0_0 a0_1 a0_2 a0_3 _ _ l0_4 true _ ?side1 ?side2 A8.out).mono ?_); (case side1 => repeat (first | exact (Kd.C_below HR0_4.out HB.out) | (with_reducible refine Kd.C_alloc ?_ _) | (with_reducible refine Kd.C_drewN ?_ _) | (with_reducible refine Kd.C_drew ?_))); (case side2 => exact HC0_4.out); rintro e w22 ⟨rfl, hb⟩; refine ⟨_, rfl, ?_⟩; replace HO123 := Aside0.mk (Kd.R_below (rr HO123) hb); replace BK119 := bq BK119 hb; replace BK120 := bq BK120 hb; replace HB := bh HB hb; (try clear hb); (try clear hb2); (try clear hk); (try clear hi); obtain ⟨hcz23_0, hcz23_1, hcz23_2, hcz23_3, hcz23_4⟩ := cs5 BK120; obtain ⟨hfz23_0, hfz23_1, hfz23_2, hfz23_3, hfz23_4⟩ := fs5 BK120) | (go_at_call 104; (with_reducible refine (spec_WalOk.calls k a1_0 a1_1 a1_2 a1_3 _ _ l1_4 true _ ?side1 ?side2 A10.out).mono ?_); (case side1 => repeat (first | exact (Kd.C_below HR1_4.out HB.out) | (with_reducible refine Kd.C_alloc ?_ _) | (with_reducible refine Kd.C_drewN ?_ _) | (with_reducible refine Kd.C_drew ?_))); (case side2 => exact HC1_4.out); rintro e w24 ⟨rfl, hb⟩; replace HO123 := Aside0.mk (Kd.R_below (rr HO123) hb); replace BK119 := bq BK119 hb; replace BK120 := bq BK120 hb; replace HB := bh HB hb; (try clear hb); (try clear hb2); (try clear hk); (try clear hi); obtain ⟨hcz25_0, hcz25_1, hcz25_2, hcz25_3, hcz25_4⟩ := cs5 BK119; obtain ⟨hfz25_0, hfz25_1, hfz25_2, hfz25_3, hfz25_4⟩ := fs5 BK119; obtain ⟨hcz26_0, hcz26_1, hcz26_2, hcz26_3, hcz26_4⟩ := cs5 BK120; obtain ⟨hfz26_0, hfz26_1, hfz26_2, hfz26_3, hfz26_4⟩ := fs5 BK120))
     go_meet
     case rel => exact ⟨_, (true), (by first | rfl | (simp; done) | (simp [*]; done)), H', ⟨by first | omega | exact Nat.le_refl _⟩, ⟨rr HO123⟩, ⟨bb BK119⟩, ⟨bb BK120⟩, ⟨by repeat (first | (with_reducible first | exact HB.out | apply below_alloc | apply pw_below_drewN | apply below_drew1 | refine below_set ?_ GE119.out | refine below_set ?_ GE120.out) | exact HB.out)⟩⟩
   ·replace c11 := Bool.eq_false_iff.mpr c11
    subst c11
    have H1 : (spec_Changes.j0 k y121 true a0_0 a0_1 a0_2 a0_3 l0_4 a1_0 a1_1 a1_2 a1_3 l1_4) = some (r1, r2) := by rw [if_neg (show ¬ (false = true) by decide)] at H; exact H
    clear H; have H := H1
    clear H1; have H' := Aside0.mk H
    clear H; have hnb27 := NB119_120.out; have hnc27 := NB120_119.out; obtain ⟨hcz28_0, hcz28_1, hcz28_2, hcz28_3, hcz28_4⟩ := cs5 BK119; obtain ⟨hfz28_0, hfz28_1, hfz28_2, hfz28_3, hfz28_4⟩ := fs5 BK119
    go_wp2_with (first | ((with_reducible refine gate_callee (f := 104) rfl ?_); refine goesL_ (some 12) rfl rfl Try.func104 (by kernel_rfl) rfl #[.agg #[.int .i64 a0_0, .int .i64 a0_1, .int .i64 a0_2, .int .i64 a0_3, .slice A0_4 l0_4.length c0_4]] rfl (by (try simp only [List.map_toArray, List.map_cons, List.map_nil]); first | done | rfl | (simp only [List.length_drop, List.length_take]; rfl)) ?_; (with_reducible refine (spec_WalOk.calls k a0_0 a0_1 a0_2 a0_3 _ _ l0_4 true _ ?side1 ?side2 A8.out).mono ?_); (case side1 => repeat (first | exact (Kd.C_below HR0_4.out HB.out) | (with_reducible refine Kd.C_alloc ?_ _) | (with_reducible refine Kd.C_drewN ?_ _) | (with_reducible refine Kd.C_drew ?_))); (case side2 => exact HC0_4.out); rintro e w29 ⟨rfl, hb⟩; refine ⟨_, rfl, ?_⟩; replace HO123 := Aside0.mk (Kd.R_below (rr HO123) hb); replace BK119 := bq BK119 hb; replace BK120 := bq BK120 hb; replace HB := bh HB hb; (try clear hb); (try clear hb2); (try clear hk); (try clear hi); obtain ⟨hcz30_0, hcz30_1, hcz30_2, hcz30_3, hcz30_4⟩ := cs5 BK120; obtain ⟨hfz30_0, hfz30_1, hfz30_2, hfz30_3, hfz30_4⟩ := fs5 BK120) | (go_at_call 104; (with_reducible refine (spec_WalOk.calls k a1_0 a1_1 a1_2 a1_3 _ _ l1_4 false _ ?side1 ?side2 A10.out).mono ?_); (case side1 => repeat (first | exact (Kd.C_below HR1_4.out HB.out) | (with_reducible refine Kd.C_alloc ?_ _) | (with_reducible refine Kd.C_drewN ?_ _) | (with_reducible refine Kd.C_drew ?_))); (case side2 => exact HC1_4.out); rintro e w31 ⟨rfl, hb⟩; replace HO123 := Aside0.mk (Kd.R_below (rr HO123) hb); replace BK119 := bq BK119 hb; replace BK120 := bq BK120 hb; replace HB := bh HB hb; (try clear hb); (try clear hb2); (try clear hk); (try clear hi)))
    go_meet
    case rel => exact ⟨_, (true), (by first | rfl | (simp; done) | (simp [*]; done)), H', ⟨by first | omega | exact Nat.le_refl _⟩, ⟨rr HO123⟩, ⟨bb BK119⟩, ⟨bb BK120⟩, ⟨by repeat (first | (with_reducible first | exact HB.out | apply below_alloc | apply pw_below_drewN | apply below_drew1 | refine below_set ?_ GE119.out | refine below_set ?_ GE120.out) | exact HB.out)⟩⟩
  ·replace c9 := Bool.eq_false_iff.mpr c9
   subst c9
   have H1 : (spec_Changes.j0 k y121 true a0_0 a0_1 a0_2 a0_3 l0_4 a1_0 a1_1 a1_2 a1_3 l1_4) = some (r1, r2) := by rw [if_neg (show ¬ (false = true) by decide)] at H; exact H
   clear H; have H := H1
   clear H1; have H' := Aside0.mk H
   clear H; have hnb32 := NB119_120.out; have hnc32 := NB120_119.out; obtain ⟨hcz33_0, hcz33_1, hcz33_2, hcz33_3, hcz33_4⟩ := cs5 BK119; obtain ⟨hfz33_0, hfz33_1, hfz33_2, hfz33_3, hfz33_4⟩ := fs5 BK119
   go_wp2_with (first | ((with_reducible refine gate_callee (f := 104) rfl ?_); refine goesL_ (some 12) rfl rfl Try.func104 (by kernel_rfl) rfl #[.agg #[.int .i64 a0_0, .int .i64 a0_1, .int .i64 a0_2, .int .i64 a0_3, .slice A0_4 l0_4.length c0_4]] rfl (by (try simp only [List.map_toArray, List.map_cons, List.map_nil]); first | done | rfl | (simp only [List.length_drop, List.length_take]; rfl)) ?_; (with_reducible refine (spec_WalOk.calls k a0_0 a0_1 a0_2 a0_3 _ _ l0_4 false _ ?side1 ?side2 A8.out).mono ?_); (case side1 => repeat (first | exact (Kd.C_below HR0_4.out HB.out) | (with_reducible refine Kd.C_alloc ?_ _) | (with_reducible refine Kd.C_drewN ?_ _) | (with_reducible refine Kd.C_drew ?_))); (case side2 => exact HC0_4.out); rintro e w34 ⟨rfl, hb⟩; refine ⟨_, rfl, ?_⟩; replace HO123 := Aside0.mk (Kd.R_below (rr HO123) hb); replace BK119 := bq BK119 hb; replace BK120 := bq BK120 hb; replace HB := bh HB hb; (try clear hb); (try clear hb2); (try clear hk); (try clear hi)))
   go_meet
   case rel => exact ⟨_, (true), (by first | rfl | (simp; done) | (simp [*]; done)), H', ⟨by first | omega | exact Nat.le_refl _⟩, ⟨rr HO123⟩, ⟨bb BK119⟩, ⟨bb BK120⟩, ⟨by repeat (first | (with_reducible first | exact HB.out | apply below_alloc | apply pw_below_drewN | apply below_drew1 | refine below_set ?_ GE119.out | refine below_set ?_ GE120.out) | exact HB.out)⟩⟩
 case rest =>
  clear HC3; obtain ⟨kq, x32_2, rfl, HA, HJ2, HO_6, BK119, BK120, HB⟩ := hcut
  cases kq with
  | zero => exact absurd HA.out (by simp [spec_Changes.j0])
  | succ kj2 =>
   have H := HA.out; clear HA; simp only [spec_Changes.j0] at H
   by_cases c35 : x32_2 = true
   ·subst c35
    have H1 : (some (y121, false)) = some (r1, r2) := by rw [if_pos rfl] at H; exact H
    clear H; have H := H1
    clear H1; simp only [Option.some.injEq, Prod.mk.injEq] at H
    obtain ⟨rfl, rfl⟩ := H
    go_wp2
    go_ret2
    exact ⟨_, by first | rfl | (simp [errW_none, errW_some] <;> rfl) | (simp [*, errW_none, errW_some] <;> rfl), by (with_reducible repeat (first | apply Kd.R_alloc | apply Kd.R_drewN | apply Kd.R_drew)); exact HO_6.out, by repeat (first | (with_reducible first | exact HB.out | apply below_alloc | apply pw_below_drewN | apply below_drew1 | refine below_set ?_ GE119.out | refine below_set ?_ GE120.out) | exact HB.out)⟩
   ·replace c35 := Bool.eq_false_iff.mpr c35
    subst c35
    have H1 : (if a0_0 = a1_0 then (spec_Changes.j1 kj2 y121 (a0_1 != a1_1) a0_0 a0_1 a0_2 a0_3 l0_4 a1_0 a1_1 a1_2 a1_3 l1_4) else (spec_Changes.j1 kj2 y121 true a0_0 a0_1 a0_2 a0_3 l0_4 a1_0 a1_1 a1_2 a1_3 l1_4)) = some (r1, r2) := by rw [if_neg (show ¬ (false = true) by decide)] at H; exact H
    clear H; have H := H1
    clear H1; have HC36 := Aside0.mk H
    clear H
    go_upto_region 4 with (fail)
    go_cut [45] (fun v45 wc => ∃ (kq : Nat) (x45_35 : Bool), v45 = .bool x45_35 ∧ Aside0 (spec_Changes.j1 kq y121 x45_35 a0_0 a0_1 a0_2 a0_3 l0_4 a1_0 a1_1 a1_2 a1_3 l1_4 = some (r1, r2)) ∧ Aside0 (kq ≤ kj2) ∧ Aside0 (Kd.R k96 96 wc w.heap.size (fun _ => True) v122 y121) ∧ Aside0 (wc.heap[gb119]? = some (.cells #[.int .i64 a0_0, .int .i64 a0_1, .int .i64 a0_2, .int .i64 a0_3, (.slice A0_4 l0_4.length c0_4)] 50 (0, 0))) ∧ Aside0 (wc.heap[gb120]? = some (.cells #[.int .i64 a1_0, .int .i64 a1_1, .int .i64 a1_2, .int .i64 a1_3, (.slice A1_4 l1_4.length c1_4)] 50 (0, 0))) ∧ Aside0 (Below w.heap.size w wc))
    case first =>
     have H := HC36.out; clear HC36
     by_cases c37 : a0_0 = a1_0
     ·rw [if_pos c37] at H
      have c37b0 : (a0_0 == a1_0) = true := beq_iff_eq.mpr c37
      have c37b1 : (a0_0 != a1_0) = false := bne_eq_false_iff_eq.mpr c37
      clear c37
      (first | rw [c37b0] | (simp only [i64_w, i32_w]; rw [c37b0]) | skip)
      have H' := Aside0.mk H
      clear H; have hnb38 := NB119_120.out; have hnc38 := NB120_119.out; obtain ⟨hcz39_0, hcz39_1, hcz39_2, hcz39_3, hcz39_4⟩ := cs5 BK119; obtain ⟨hfz39_0, hfz39_1, hfz39_2, hfz39_3, hfz39_4⟩ := fs5 BK119; obtain ⟨hcz40_0, hcz40_1, hcz40_2, hcz40_3, hcz40_4⟩ := cs5 BK120; obtain ⟨hfz40_0, hfz40_1, hfz40_2, hfz40_3, hfz40_4⟩ := fs5 BK120
      go_wp2
      go_meet
      case rel => exact ⟨_, ((a0_1 != a1_1)), (by first | rfl | (simp; done) | (simp [*]; done)), H', ⟨by have := HJ2.out; first | omega | exact Nat.le_refl _⟩, ⟨rr HO_6⟩, ⟨bb BK119⟩, ⟨bb BK120⟩, ⟨by repeat (first | (with_reducible first | exact HB.out | apply below_alloc | apply pw_below_drewN | apply below_drew1 | refine below_set ?_ GE119.out | refine below_set ?_ GE120.out) | exact HB.out)⟩⟩
     ·rw [if_neg c37] at H
      have c37b0 : (a0_0 == a1_0) = false := beq_eq_false_iff_ne.mpr c37
      have c37b1 : (a0_0 != a1_0) = true := bne_iff_ne.mpr c37
      (first | rw [c37b0] | (simp only [i64_w, i32_w]; rw [c37b0]) | skip)
      have H' := Aside0.mk H
      clear H; have hnb41 := NB119_120.out; have hnc41 := NB120_119.out; obtain ⟨hcz42_0, hcz42_1, hcz42_2, hcz42_3, hcz42_4⟩ := cs5 BK119; obtain ⟨hfz42_0, hfz42_1, hfz42_2, hfz42_3, hfz42_4⟩ := fs5 BK119; obtain ⟨hcz43_0, hcz43_1, hcz43_2, hcz43_3, hcz43_4⟩ := cs5 BK120; obtain ⟨hfz43_0, hfz43_1, hfz43_2, hfz43_3, hfz43_4⟩ := fs5 BK120
      go_wp2
      go_meet
      case rel => exact ⟨_, (true), (by first | rfl | (simp; done) | (simp [*]; done)), H', ⟨by have := HJ2.out; first | omega | exact Nat.le_refl _⟩, ⟨rr HO_6⟩, ⟨bb BK119⟩, ⟨bb BK120⟩, ⟨by repeat (first | (with_reducible first | exact HB.out | apply below_alloc | apply pw_below_drewN | apply below_drew1 | refine below_set ?_ GE119.out | refine below_set ?_ GE120.out) | exact HB.out)⟩⟩
    case rest =>
     clear HC36
     obtain ⟨kq, x45_35, rfl, HA, HJ35, HO_6, BK119, BK120, HB⟩ := hcut
     cases kq with
     | zero => exact absurd HA.out (by simp [spec_Changes.j1])
     | succ kj35 =>
      have H := HA.out; clear HA; simp only [spec_Changes.j1] at H
      have HC44 := Aside0.mk H
      clear H
      go_upto_if 45 with (fail)
      go_cut [6] (fun v6 wc => ∃ (kq : Nat) (x6_43 : List (S96)), Aside0 (spec_Changes.j2 kq x6_43 a0_0 a0_1 a0_2 a0_3 l0_4 a1_0 a1_1 a1_2 a1_3 l1_4 = some (r1, r2)) ∧ Aside0 (kq ≤ kj35) ∧ Aside0 (Kd.R k96 96 wc w.heap.size (fun _ => True) v6 x6_43) ∧ Aside0 (wc.heap[gb119]? = some (.cells #[.int .i64 a0_0, .int .i64 a0_1, .int .i64 a0_2, .int .i64 a0_3, (.slice A0_4 l0_4.length c0_4)] 50 (0, 0))) ∧ Aside0 (wc.heap[gb120]? = some (.cells #[.int .i64 a1_0, .int .i64 a1_1, .int .i64 a1_2, .int .i64 a1_3, (.slice A1_4 l1_4.length c1_4)] 50 (0, 0))) ∧ Aside0 (Below w.heap.size w wc))
      case first =>
       have H := HC44.out; clear HC44
       by_cases c45 : x45_35 = true
       ·subst c45
        have H1 : ((spec_l5Fits.f a0_0 a0_1 a0_2 a0_3 l0_4 1 a1_0 0 a1_1 (⟨#[]⟩ : ByteArray)).bind fun t127 => (if t127 = true then (if y121.length < 2932031007402 then (spec_Changes.j2 kj35 (y121 ++ [(⟨1, a1_0, 0, a1_1, (⟨#[]⟩ : ByteArray)⟩ : S96)]) a0_0 a0_1 a0_2 a0_3 l0_4 a1_0 a1_1 a1_2 a1_3 l1_4) else (none)) else (some (y121, false)))) = some (r1, r2) := by rw [if_pos rfl] at H; exact H
        clear H; have H := H1
        clear H1; replace H := Option.bind_eq_some_iff.mp H
        obtain ⟨t127, A460, H⟩ := H
        replace H : (if t127 = true then (if y121.length < 2932031007402 then (spec_Changes.j2 kj35 (y121 ++ [(⟨1, a1_0, 0, a1_1, (⟨#[]⟩ : ByteArray)⟩ : S96)]) a0_0 a0_1 a0_2 a0_3 l0_4 a1_0 a1_1 a1_2 a1_3 l1_4) else (none)) else (some (y121, false))) = some (r1, r2) := H
        have A46 := Aside0.mk A460
        clear A460
        by_cases c47 : t127 = true
        ·subst c47
         have H1 : (if y121.length < 2932031007402 then (spec_Changes.j2 kj35 (y121 ++ [(⟨1, a1_0, 0, a1_1, (⟨#[]⟩ : ByteArray)⟩ : S96)]) a0_0 a0_1 a0_2 a0_3 l0_4 a1_0 a1_1 a1_2 a1_3 l1_4) else (none)) = some (r1, r2) := by rw [if_pos rfl] at H; exact H
         clear H; have H := H1
         clear H1
         by_cases c48 : y121.length < 2932031007402
         ·rw [if_pos c48] at H
          have LMc48 := Aside0.mk c48
          clear c48; obtain ⟨y128, hy128⟩ : ∃ y_ : List (S96), y_ = (y121 ++ [(⟨1, a1_0, 0, a1_1, (⟨#[]⟩ : ByteArray)⟩ : S96)]) := ⟨_, rfl⟩
          replace H : (spec_Changes.j2 kj35 y128 a0_0 a0_1 a0_2 a0_3 l0_4 a1_0 a1_1 a1_2 a1_3 l1_4) = some (r1, r2) := by first | (rw [hy128]; with_reducible exact H) | (have H2_ := (Option.bind_some _ _).symm.trans H; rw [hy128]; with_reducible exact H2_) | (have H2_ := (Option.bind_some _ _).symm.trans H; with_reducible exact H2_) | with_reducible exact H | (rw [hy128]; exact H) | exact H
          have Ny128 := Aside0.mk hy128
          clear hy128; have H' := Aside0.mk H
          clear H; have hnb49 := NB120_119.out; have hnc49 := NB119_120.out; obtain ⟨hcz50_0, hcz50_1, hcz50_2, hcz50_3, hcz50_4⟩ := cs5 BK120; obtain ⟨hfz50_0, hfz50_1, hfz50_2, hfz50_3, hfz50_4⟩ := fs5 BK120
          go_wp2_with (first | ((with_reducible refine gate_dst (N := 7) rfl ?_); (try (refine gate_guard (by rfl) ?_; dsimp only)); refine box_event ?hg (N := 7) ?hd (cs := #[.int .i64 0, .int .i64 0, .int .i64 0, .int .i64 0, .string (⟨#[]⟩ : ByteArray)]) (t := 96) ?hr ?_; (case hd => rfl); (case hg => rfl); (case hr => first | (go_simp; done) | (go_simp; rfl)); intro gb126 hg w51 hbox hb; have n0_ := Aside0.mk (Kd.R_below (Kd.R_elderB (rr HO_6) gb126 (Nat.le_of_eq hg.symm)) hb); have BK126 := Aside0.mk (hbox); have GW126 := bs HB hg; have GE126 := bs HB hg; have NB119_126 := bl BK119 hg; have NB126_119 := bg BK119 hg; have NB120_126 := bl BK120 hg; have NB126_120 := bg BK120 hg; replace BK119 := bq BK119 hb; replace BK120 := bq BK120 hb; replace HB := bh HB hb; clear HO_6; have HO_6 := n0_; clear n0_; clear hb hbox hg; have hnb52 := NB126_119.out; have hnc52 := NB119_126.out; have hnb53 := NB126_120.out; have hnc53 := NB120_126.out; obtain ⟨hcz54_0, hcz54_1, hcz54_2, hcz54_3, hcz54_4⟩ := cs5 BK126; obtain ⟨hfz54_0, hfz54_1, hfz54_2, hfz54_3, hfz54_4⟩ := fs5 BK126; obtain ⟨hcz55_0, hcz55_1, hcz55_2, hcz55_3, hcz55_4⟩ := cs5 BK119; obtain ⟨hfz55_0, hfz55_1, hfz55_2, hfz55_3, hfz55_4⟩ := fs5 BK119) | ((with_reducible refine gate_callee (f := 105) rfl ?_); refine goesL_ (some 53) rfl rfl Try.func105 (by kernel_rfl) rfl #[.agg #[.int .i64 a0_0, .int .i64 a0_1, .int .i64 a0_2, .int .i64 a0_3, .slice A0_4 l0_4.length c0_4], .agg #[.int .i64 1, .int .i64 a1_0, .int .i64 0, .int .i64 a1_1, .string (⟨#[]⟩ : ByteArray)]] rfl (by (try simp only [List.map_toArray, List.map_cons, List.map_nil]); first | done | rfl | (simp only [List.length_drop, List.length_take]; rfl)) ?_; (with_reducible refine (spec_l5Fits.calls a0_0 a0_1 a0_2 a0_3 _ _ l0_4 1 a1_0 0 a1_1 (⟨#[]⟩ : ByteArray) true _ ?side1 ?side2 A46.out).mono ?_); (case side1 => exact Kd.C_below HR0_4.out (be HB)); (case side2 => exact HC0_4.out); rintro e w56 ⟨rfl, hb⟩; refine ⟨_, rfl, ?_⟩; have n0_ := Aside0.mk (Kd.R_below (by (with_reducible repeat (first | apply Kd.R_alloc | apply Kd.R_drewN | apply Kd.R_drew)); exact (Kd.R_mono (Kd.R_far (p := ⟨gb126, 4, none⟩) (Kd.R_far (p := ⟨gb126, 3, none⟩) (Kd.R_far (p := ⟨gb126, 2, none⟩) (Kd.R_far (p := ⟨gb126, 1, none⟩) (Kd.R_far (p := ⟨gb126, 0, none⟩) (Kd.R_mono HO_6.out (fun k_ hk => (⟨hk, hk.2⟩ : _ ∧ k_ ≠ gb126))) (fun _ hk => hk.2) (.int .i64 1)) (fun _ hk => hk.2) (.int .i64 a1_0)) (fun _ hk => hk.2) (.int .i64 0)) (fun _ hk => hk.2) (.int .i64 a1_1)) (fun _ hk => hk.2) (.string (⟨#[]⟩ : ByteArray))) (fun _ h_ => h_.1))) hb); have n1_ := bf BK119 hb; have n2_ := bf BK120 hb; have n3_ := bp #[.int .i64 1, .int .i64 a1_0, .int .i64 0, .int .i64 a1_1, .string (⟨#[]⟩ : ByteArray)] BK126 hb; replace HB := bh HB hb; clear HO_6 BK119 BK120 BK126; have HO_6 := n0_; have BK119 := n1_; have BK120 := n2_; have BK126 := n3_; clear n0_ n1_ n2_ n3_; (try clear hb); (try clear hb2); (try clear hk); (try clear hi); obtain ⟨hcz57_0, hcz57_1, hcz57_2, hcz57_3, hcz57_4⟩ := cs5 BK126; obtain ⟨hfz57_0, hfz57_1, hfz57_2, hfz57_3, hfz57_4⟩ := fs5 BK126) | ((with_reducible refine gate_builtin (b := .append) (xs := #[.tmp 56, .tmp 58]) rfl ?_); (try (refine gate_guard (by rfl) ?_; dsimp only)); at_builtin; refine Kd.R_append k96 (w0 := w) w.heap.size rfl (.tmp 56) (.tmp 58) 90 96 (.agg #[(.int .i64 0), (.int .i64 0), (.int .i64 0), (.int .i64 0), (.string ⟨#[]⟩)]) 48 rfl Try.underlying90 info96 rfl (by decide) (by omega) v122 y121 (⟨1, a1_0, 0, a1_1, (⟨#[]⟩ : ByteArray)⟩ : S96) [.int .i64 1, .int .i64 a1_0, .int .i64 0, .int .i64 a1_1, .string (⟨#[]⟩ : ByteArray)] (fun k_ => k_ ≠ gb126) (fun _ => False) rfl rfl ?aP (fun _ hk => hk.elim) ?aF ?aO ?aB ?aS ?aL ?_; (case aP => exact k96_mkM _ _ _ (⟨1, a1_0, 0, a1_1, (⟨#[]⟩ : ByteArray)⟩ : S96)); (case aB => exact (be HB)); (case aF => exact (fun k_ hk => Kd.freshB (g := gb126) (o := .cells #[.int .i64 1, .int .i64 a1_0, .int .i64 0, .int .i64 a1_1, .string (⟨#[]⟩ : ByteArray)] 96 (0, 0)) (by (with_reducible repeat first | refine bkN ?_ _ | refine bkD ?_ | refine bkA ?_ _); exact BK126.out) k_ hk)); (case aO => exact (by (with_reducible repeat (first | apply Kd.R_alloc | apply Kd.R_drewN | apply Kd.R_drew)); exact Kd.R_mono HO_6.out (fun _ hk => hk.2))); (case aS => exact (below_size (be HB))); (case aL => have := LMc48.out; omega); intro v129 w58 ho hb hg hat; rw [← Ny128.out] at ho; have n0_ := Aside0.mk (blk_grown (g := gb119) (o := .cells #[.int .i64 a0_0, .int .i64 a0_1, .int .i64 a0_2, .int .i64 a0_3, .slice A0_4 l0_4.length c0_4] 50 (0, 0)) (by (with_reducible repeat first | refine bkN ?_ _ | refine bkD ?_ | refine bkA ?_ _); exact BK119.out) hg (Kd.R_ne HO_6.out BK119.out (by decide))); have n1_ := Aside0.mk (blk_grown (g := gb120) (o := .cells #[.int .i64 a1_0, .int .i64 a1_1, .int .i64 a1_2, .int .i64 a1_3, .slice A1_4 l1_4.length c1_4] 50 (0, 0)) (by (with_reducible repeat first | refine bkN ?_ _ | refine bkD ?_ | refine bkA ?_ _); exact BK120.out) hg (Kd.R_ne HO_6.out BK120.out (by decide))); have n2_ := Aside0.mk (blk_grown (g := gb126) (o := .cells #[.int .i64 1, .int .i64 a1_0, .int .i64 0, .int .i64 a1_1, .string (⟨#[]⟩ : ByteArray)] 96 (0, 0)) (by (with_reducible repeat first | refine bkN ?_ _ | refine bkD ?_ | refine bkA ?_ _); exact BK126.out) hg (Kd.R_away HO_6.out (fun _ hk => hk.2))); have n3_ := Aside0.mk (hb); have HO130 := Aside0.mk (ho); clear HO_6 BK119 BK120 BK126 HB; have BK119 := n0_; have BK120 := n1_; have BK126 := n2_; have HB := n3_; clear n0_ n1_ n2_ n3_; clear ho hb hg hat))
          go_meet
          case rel => exact ⟨_, (y128), H', ⟨by have := HJ2.out; have := HJ35.out; first | omega | exact Nat.le_refl _⟩, ⟨by (with_reducible repeat (first | apply Kd.R_alloc | apply Kd.R_drewN | apply Kd.R_drew)); exact Kd.R_mono HO130.out (fun _ hk => trivial)⟩, ⟨bb BK119⟩, ⟨bb BK120⟩, ⟨by repeat (first | (with_reducible first | exact HB.out | apply below_alloc | apply pw_below_drewN | apply below_drew1 | refine below_set ?_ GE119.out | refine below_set ?_ GE120.out | refine below_set ?_ GE126.out) | exact HB.out)⟩⟩
         ·rw [if_neg c48] at H
          exact absurd H (by simp)
        ·replace c47 := Bool.eq_false_iff.mpr c47
         subst c47
         have H1 : (some (y121, false)) = some (r1, r2) := by rw [if_neg (show ¬ (false = true) by decide)] at H; exact H
         clear H; have H := H1
         clear H1; simp only [Option.some.injEq, Prod.mk.injEq] at H
         obtain ⟨rfl, rfl⟩ := H
         have hnb59 := NB120_119.out; have hnc59 := NB119_120.out; obtain ⟨hcz60_0, hcz60_1, hcz60_2, hcz60_3, hcz60_4⟩ := cs5 BK120; obtain ⟨hfz60_0, hfz60_1, hfz60_2, hfz60_3, hfz60_4⟩ := fs5 BK120
         go_wp2_with (first | ((with_reducible refine gate_dst (N := 7) rfl ?_); (try (refine gate_guard (by rfl) ?_; dsimp only)); refine box_event ?hg (N := 7) ?hd (cs := #[.int .i64 0, .int .i64 0, .int .i64 0, .int .i64 0, .string (⟨#[]⟩ : ByteArray)]) (t := 96) ?hr ?_; (case hd => rfl); (case hg => rfl); (case hr => first | (go_simp; done) | (go_simp; rfl)); intro gb126 hg w61 hbox hb; have n0_ := Aside0.mk (Kd.R_below (Kd.R_elderB (rr HO_6) gb126 (Nat.le_of_eq hg.symm)) hb); have BK126 := Aside0.mk (hbox); have GW126 := bs HB hg; have GE126 := bs HB hg; have NB119_126 := bl BK119 hg; have NB126_119 := bg BK119 hg; have NB120_126 := bl BK120 hg; have NB126_120 := bg BK120 hg; replace BK119 := bq BK119 hb; replace BK120 := bq BK120 hb; replace HB := bh HB hb; clear HO_6; have HO_6 := n0_; clear n0_; clear hb hbox hg; have hnb62 := NB126_119.out; have hnc62 := NB119_126.out; have hnb63 := NB126_120.out; have hnc63 := NB120_126.out; obtain ⟨hcz64_0, hcz64_1, hcz64_2, hcz64_3, hcz64_4⟩ := cs5 BK126; obtain ⟨hfz64_0, hfz64_1, hfz64_2, hfz64_3, hfz64_4⟩ := fs5 BK126; obtain ⟨hcz65_0, hcz65_1, hcz65_2, hcz65_3, hcz65_4⟩ := cs5 BK119; obtain ⟨hfz65_0, hfz65_1, hfz65_2, hfz65_3, hfz65_4⟩ := fs5 BK119) | ((with_reducible refine gate_callee (f := 105) rfl ?_); refine goesL_ (some 53) rfl rfl Try.func105 (by kernel_rfl) rfl #[.agg #[.int .i64 a0_0, .int .i64 a0_1, .int .i64 a0_2, .int .i64 a0_3, .slice A0_4 l0_4.length c0_4], .agg #[.int .i64 1, .int .i64 a1_0, .int .i64 0, .int .i64 a1_1, .string (⟨#[]⟩ : ByteArray)]] rfl (by (try simp only [List.map_toArray, List.map_cons, List.map_nil]); first | done | rfl | (simp only [List.length_drop, List.length_take]; rfl)) ?_; (with_reducible refine (spec_l5Fits.calls a0_0 a0_1 a0_2 a0_3 _ _ l0_4 1 a1_0 0 a1_1 (⟨#[]⟩ : ByteArray) false _ ?side1 ?side2 A46.out).mono ?_); (case side1 => exact Kd.C_below HR0_4.out (be HB)); (case side2 => exact HC0_4.out); rintro e w66 ⟨rfl, hb⟩; refine ⟨_, rfl, ?_⟩; have n0_ := Aside0.mk (Kd.R_below (by (with_reducible repeat (first | apply Kd.R_alloc | apply Kd.R_drewN | apply Kd.R_drew)); exact (Kd.R_mono (Kd.R_far (p := ⟨gb126, 4, none⟩) (Kd.R_far (p := ⟨gb126, 3, none⟩) (Kd.R_far (p := ⟨gb126, 2, none⟩) (Kd.R_far (p := ⟨gb126, 1, none⟩) (Kd.R_far (p := ⟨gb126, 0, none⟩) (Kd.R_mono HO_6.out (fun k_ hk => (⟨hk, hk.2⟩ : _ ∧ k_ ≠ gb126))) (fun _ hk => hk.2) (.int .i64 1)) (fun _ hk => hk.2) (.int .i64 a1_0)) (fun _ hk => hk.2) (.int .i64 0)) (fun _ hk => hk.2) (.int .i64 a1_1)) (fun _ hk => hk.2) (.string (⟨#[]⟩ : ByteArray))) (fun _ h_ => h_.1))) hb); have n1_ := bf BK119 hb; have n2_ := bf BK120 hb; have n3_ := bp #[.int .i64 1, .int .i64 a1_0, .int .i64 0, .int .i64 a1_1, .string (⟨#[]⟩ : ByteArray)] BK126 hb; replace HB := bh HB hb; clear HO_6 BK119 BK120 BK126; have HO_6 := n0_; have BK119 := n1_; have BK120 := n2_; have BK126 := n3_; clear n0_ n1_ n2_ n3_; (try clear hb); (try clear hb2); (try clear hk); (try clear hi)))
         go_ret2
         exact ⟨_, by first | rfl | (simp [errW_none, errW_some] <;> rfl) | (simp [*, errW_none, errW_some] <;> rfl), by (with_reducible repeat (first | apply Kd.R_alloc | apply Kd.R_drewN | apply Kd.R_drew)); exact Kd.R_mono HO_6.out (fun _ hk => trivial), by repeat (first | (with_reducible first | exact HB.out | apply below_alloc | apply pw_below_drewN | apply below_drew1 | refine below_set ?_ GE119.out | refine below_set ?_ GE120.out | refine below_set ?_ GE126.out) | exact HB.out)⟩
       ·replace c45 := Bool.eq_false_iff.mpr c45
        subst c45
        have H1 : (spec_Changes.j2 kj35 y121 a0_0 a0_1 a0_2 a0_3 l0_4 a1_0 a1_1 a1_2 a1_3 l1_4) = some (r1, r2) := by rw [if_neg (show ¬ (false = true) by decide)] at H; exact H
        clear H; have H := H1
        clear H1; have H' := Aside0.mk H
        clear H
        go_wp2
        go_meet
        case rel => exact ⟨_, (y121), H', ⟨by have := HJ2.out; have := HJ35.out; first | omega | exact Nat.le_refl _⟩, ⟨rr HO_6⟩, ⟨bb BK119⟩, ⟨bb BK120⟩, ⟨by repeat (first | (with_reducible first | exact HB.out | apply below_alloc | apply pw_below_drewN | apply below_drew1 | refine below_set ?_ GE119.out | refine below_set ?_ GE120.out) | exact HB.out)⟩⟩
      case rest =>
       clear HC44
       obtain ⟨kq, x6_43, HA, HJ43, HO_6, BK119, BK120, HB⟩ := hcut
       cases kq with
       | zero => exact absurd HA.out (by simp [spec_Changes.j2])
       | succ kj43 =>
        have H := HA.out; clear HA; simp only [spec_Changes.j2] at H
        have HC67 := Aside0.mk H
        clear H
        go_upto_block 0 with (fail)
        go_cut [8] (fun v8 wc => ∃ (kq : Nat) (x8_66 : Int), v8 = .int .i64 x8_66 ∧ Aside0 (spec_Changes.j4 kq x6_43 x8_66 a0_0 a0_1 a0_2 a0_3 l0_4 a1_0 a1_1 a1_2 a1_3 l1_4 = some (r1, r2)) ∧ Aside0 (kq ≤ kj43) ∧ Aside0 (Kd.R k96 96 wc w.heap.size (fun _ => True) u6 x6_43) ∧ Aside0 (wc.heap[gb119]? = some (.cells #[.int .i64 a0_0, .int .i64 a0_1, .int .i64 a0_2, .int .i64 a0_3, (.slice A0_4 l0_4.length c0_4)] 50 (0, 0))) ∧ Aside0 (wc.heap[gb120]? = some (.cells #[.int .i64 a1_0, .int .i64 a1_1, .int .i64 a1_2, .int .i64 a1_3, (.slice A1_4 l1_4.length c1_4)] 50 (0, 0))) ∧ Aside0 (Below w.heap.size w wc))
        case first =>
         have H := HC67.out; clear HC67; have H' := Aside0.mk H
         clear H
         go_wp2
         go_loopg [8] kj43 (fun kq v8 w' => ∃ (x8_4 : Int), v8 = .int .i64 x8_4 ∧ Aside0 (spec_Changes.l0 kq x6_43 x8_4 a0_0 a0_1 a0_2 a0_3 l0_4 a1_0 a1_1 a1_2 a1_3 l1_4 = some (r1, r2)) ∧ Aside0 (kq ≤ kj43) ∧ Aside0 (Kd.R k96 96 w' w.heap.size (fun _ => True) u6 x6_43) ∧ Aside0 (w'.heap[gb119]? = some (.cells #[.int .i64 a0_0, .int .i64 a0_1, .int .i64 a0_2, .int .i64 a0_3, (.slice A0_4 l0_4.length c0_4)] 50 (0, 0))) ∧ Aside0 (w'.heap[gb120]? = some (.cells #[.int .i64 a1_0, .int .i64 a1_1, .int .i64 a1_2, .int .i64 a1_3, (.slice A1_4 l1_4.length c1_4)] 50 (0, 0))) ∧ Aside0 (Below w.heap.size w w'))
         case atStart => exact ⟨(0), (by first | rfl | (simp; done) | (simp [*]; done)), H', ⟨Nat.le_refl _⟩, ⟨rr HO_6⟩, ⟨bb BK119⟩, ⟨bb BK120⟩, ⟨by repeat (first | (with_reducible first | exact HB.out | apply below_alloc | apply pw_below_drewN | apply below_drew1 | refine below_set ?_ GE119.out | refine below_set ?_ GE120.out) | exact HB.out)⟩⟩
         case round =>
          clear H'
          obtain ⟨x8_4, rfl, HA, HK4, HO_6, BK119, BK120, HB⟩ := hrel
          cases gk with
          | zero => exact absurd HA.out (by simp [spec_Changes.l0])
          | succ k4 =>
           have H := HA.out; clear HA; simp only [spec_Changes.l0] at H
           by_cases c68 : x8_4 < (l0_4.length : Int)
           ·rw [if_pos c68] at H
            have c68b0 : decide (x8_4 < (l0_4.length : Int)) = true := decide_eq_true c68
            clear c68
            (first | rw [c68b0] | (simp only [i64_w, i32_w]; rw [c68b0]) | skip)
            by_cases c69 : x8_4 < (l1_4.length : Int)
            ·rw [if_pos c69] at H
             have c69b0 : decide (x8_4 < (l1_4.length : Int)) = true := decide_eq_true c69
             clear c69
             by_cases c70 : 0 ≤ x8_4
             ·rw [if_pos c70] at H
              have c70b0 : decide (0 ≤ x8_4) = true := decide_eq_true c70
              clear c70
              by_cases c71 : (((rd_T146 l0_4 x8_4).f0) == ((rd_T146 l1_4 x8_4).f0) && ((((rd_T146 l0_4 x8_4).f1).toList) == (((rd_T146 l1_4 x8_4).f1).toList))) = true
              ·rw [if_pos c71] at H
               have c71b0 : (((rd_T146 l0_4 x8_4).f0) == ((rd_T146 l1_4 x8_4).f0) && ((((rd_T146 l0_4 x8_4).f1).toList) == (((rd_T146 l1_4 x8_4).f1).toList))) = true := c71
               (try (have c71b1 : decide (((rd_T146 l0_4 x8_4).f0) = ((rd_T146 l1_4 x8_4).f0) && ((((rd_T146 l0_4 x8_4).f1).toList) == (((rd_T146 l1_4 x8_4).f1).toList))) = true := by simpa using c71))
               (try (have c71b2 : (((rd_T146 l0_4 x8_4).f0) == ((rd_T146 l1_4 x8_4).f0) && ((((rd_T146 l0_4 x8_4).f1).toList) == (((rd_T146 l1_4 x8_4).f1).toList))) = true := by simpa using c71))
               clear c71; have H' := Aside0.mk H
               clear H
               try go_wp2
               have n0_ := Aside0.mk (Kd.R_drew HO_6.out)
               have n1_ := Aside0.mk (blk_drew BK119.out)
               have n2_ := Aside0.mk (blk_drew BK120.out)
               have n3_ := Aside0.mk (below_drew1 HB.out)
               clear HO_6 BK119 BK120 HB; have HO_6 := n0_; have BK119 := n1_; have BK120 := n2_; have HB := n3_; clear n0_ n1_ n2_ n3_; have p131 : 0 ≤ (x8_4 : Int) := of_decide_eq_true (by first | (with_reducible assumption) | assumption)
               have q131 : x8_4 < (l0_4.length : Int) := of_decide_eq_true (by first | (with_reducible assumption) | assumption)
               obtain ⟨ad131, e131, hx131_0, hx131_1⟩ := at_T146 HR0_4.out x8_4 p131 q131
               have hw131_1 := hx131_1
               have hw131_0 := hx131_0
               cases e131
               replace hx131_0 := (HB.out.cell (World.block_lt_of_cell? w _ hx131_0)).trans hx131_0
               replace hx131_1 := (HB.out.cell (World.block_lt_of_cell? w _ hx131_1)).trans hx131_1
               replace p131 := eq_true p131
               replace q131 := eq_true q131
               have p132 : 0 ≤ (x8_4 : Int) := of_decide_eq_true (by first | (with_reducible assumption) | assumption)
               have q132 : x8_4 < (l1_4.length : Int) := of_decide_eq_true (by first | (with_reducible assumption) | assumption)
               obtain ⟨ad132, e132, hx132_0, hx132_1⟩ := at_T146 HR1_4.out x8_4 p132 q132
               have hw132_1 := hx132_1
               have hw132_0 := hx132_0
               cases e132
               replace hx132_0 := (HB.out.cell (World.block_lt_of_cell? w _ hx132_0)).trans hx132_0
               replace hx132_1 := (HB.out.cell (World.block_lt_of_cell? w _ hx132_1)).trans hx132_1
               replace p132 := eq_true p132
               replace q132 := eq_true q132
               refine start_ (n := 25) (S := fun w' => w'.cell? ⟨gb119, 0, none⟩ = some (.int .i64 a0_0) ∧ w'.cell? ⟨gb119, 1, none⟩ = some (.int .i64 a0_1) ∧ w'.cell? ⟨gb119, 2, none⟩ = some (.int .i64 a0_2) ∧ w'.cell? ⟨gb119, 3, none⟩ = some (.int .i64 a0_3) ∧ w'.cell? ⟨gb119, 4, none⟩ = some (.slice (some ad131) l0_4.length c0_4) ∧ w'.cell? ⟨gb120, 0, none⟩ = some (.int .i64 a1_0) ∧ w'.cell? ⟨gb120, 1, none⟩ = some (.int .i64 a1_1) ∧ w'.cell? ⟨gb120, 2, none⟩ = some (.int .i64 a1_2) ∧ w'.cell? ⟨gb120, 3, none⟩ = some (.int .i64 a1_3) ∧ w'.cell? ⟨gb120, 4, none⟩ = some (.slice (some ad132) l1_4.length c1_4) ∧ w'.cell? (ad131.add ((x8_4).toNat * 2)) = some (.int .i64 ((rd_T146 l0_4 x8_4).f0)) ∧ w'.cell? ⟨(ad131.add ((x8_4).toNat * 2)).block, (ad131.add ((x8_4).toNat * 2)).off + 1, none⟩ = some (.string ((rd_T146 l0_4 x8_4).f1)) ∧ w'.cell? (ad132.add ((x8_4).toNat * 2)) = some (.int .i64 ((rd_T146 l1_4 x8_4).f0)) ∧ w'.cell? ⟨(ad132.add ((x8_4).toNat * 2)).block, (ad132.add ((x8_4).toNat * 2)).off + 1, none⟩ = some (.string ((rd_T146 l1_4 x8_4).f1))) (ds := []) #[ff,ff,ff,ff,ff,ff,ff,ff,ff,ff,ff,ff,ff,ff,ff,ff,ff,ff,ff,ff,ff,ff,ff,ff,ff] (by kernel_rfl) rfl rfl ⟨bc BK119 0, bc BK119 1, bc BK119 2, bc BK119 3, bc BK119 4, bc BK120 0, bc BK120 1, bc BK120 2, bc BK120 3, bc BK120 4, ((HB.out.cell (World.block_lt_of_cell? w _ hw131_0)).trans hw131_0), ((HB.out.cell (World.block_lt_of_cell? w _ hw131_1)).trans hw131_1), ((HB.out.cell (World.block_lt_of_cell? w _ hw132_0)).trans hw132_0), ((HB.out.cell (World.block_lt_of_cell? w _ hw132_1)).trans hw132_1)⟩ (fun hHeld => ?_); refine with_tabW spec_Changes.tab10 spec_Changes.bits10 (fun HT_ HW_ => ?_)
               generalize wr.drew = w72 at HO_6 BK119 BK120 HB hx131_0 hx131_1 hx132_0 hx132_1 hHeld ⊢
               refine pu 0 60 (tb 25 1) HT_ ?_
               refine pu 1 61 (tb 25 3) HT_ ?_
               refine tk 2 62 (tb 25 7) rfl rfl HT_ HW_ hHeld (by rintro w' ⟨s0, s1, s2, s3, s4, s5, s6, s7, s8, s9, s10, s11, s12, s13⟩; go_simp; with_reducible rfl) ?_
               refine pu 3 63 (tb 25 15) HT_ ?_
               refine pu 4 64 (tb 25 31) HT_ ?_
               refine pu 5 65 (tb 25 63) HT_ ?_
               refine pu 6 66 (tb 25 127) HT_ ?_
               refine pu 7 67 (tb 25 255) HT_ ?_
               refine tk 8 68 (tb 25 511) rfl rfl HT_ HW_ hHeld (by rintro w' ⟨s0, s1, s2, s3, s4, s5, s6, s7, s8, s9, s10, s11, s12, s13⟩; go_simp; with_reducible rfl) ?_
               refine pu 9 69 (tb 25 1023) HT_ ?_
               refine pu 10 70 (tb 25 2047) HT_ ?_
               refine pu 11 71 (tb 25 4095) HT_ ?_
               refine pu 12 72 (tb 25 8191) HT_ ?_
               refine pu 13 73 (tb 25 16383) HT_ ?_
               refine pu 15 75 (tb 25 49151) HT_ ?_
               refine pu 18 78 (tb 25 311295) HT_ ?_
               refine pu 20 80 (tb 25 1359871) HT_ ?_
               refine tk 14 74 (tb 25 1376255) rfl rfl HT_ HW_ hHeld (by rintro w' ⟨s0, s1, s2, s3, s4, s5, s6, s7, s8, s9, s10, s11, s12, s13⟩; go_simp; with_reducible rfl) ?_
               refine pu 16 76 (tb 25 1441791) HT_ ?_
               refine tk 17 77 (tb 25 1572863) rfl rfl HT_ HW_ hHeld (by rintro w' ⟨s0, s1, s2, s3, s4, s5, s6, s7, s8, s9, s10, s11, s12, s13⟩; go_simp; with_reducible rfl) ?_
               refine tk 19 79 (tb 25 2097151) rfl rfl HT_ HW_ hHeld (by rintro w' ⟨s0, s1, s2, s3, s4, s5, s6, s7, s8, s9, s10, s11, s12, s13⟩; go_simp; with_reducible rfl) ?_
               refine pu 21 81 (tb 25 4194303) HT_ ?_
               refine tk 22 82 (tb 25 8388607) rfl rfl HT_ HW_ hHeld (by rintro w' ⟨s0, s1, s2, s3, s4, s5, s6, s7, s8, s9, s10, s11, s12, s13⟩; go_simp; with_reducible rfl) ?_
               refine pu 23 83 (tb 25 16777215) HT_ ?_
               refine pu 24 84 (tb 25 33554431) HT_ ?_
               refine done_ (done_of HT_.out (by kernel_rfl)) ?_
               try go_wp2
               go_roundg k4
               case measure => have := HJ2.out; have := HJ35.out; have := HJ43.out; have := HK4.out; omega
               case rel => exact ⟨(wrap64 (x8_4 + 1)), (by first | rfl | (simp; done) | (simp [*]; done)), H', ⟨by have := HJ2.out; have := HJ35.out; have := HJ43.out; have := HK4.out; omega⟩, ⟨rr HO_6⟩, ⟨bb BK119⟩, ⟨bb BK120⟩, ⟨by repeat (first | (with_reducible first | exact HB.out | apply below_alloc | apply pw_below_drewN | apply below_drew1 | refine below_set ?_ GE119.out | refine below_set ?_ GE120.out) | exact HB.out)⟩⟩
              ·rw [if_neg c71] at H
               have c71b0 : (((rd_T146 l0_4 x8_4).f0) == ((rd_T146 l1_4 x8_4).f0) && ((((rd_T146 l0_4 x8_4).f1).toList) == (((rd_T146 l1_4 x8_4).f1).toList))) = false := by simpa using c71
               (try (have c71b1 : decide (((rd_T146 l0_4 x8_4).f0) = ((rd_T146 l1_4 x8_4).f0) && ((((rd_T146 l0_4 x8_4).f1).toList) == (((rd_T146 l1_4 x8_4).f1).toList))) = false := by simpa using c71))
               (try (have c71b2 : (((rd_T146 l0_4 x8_4).f0) == ((rd_T146 l1_4 x8_4).f0) && ((((rd_T146 l0_4 x8_4).f1).toList) == (((rd_T146 l1_4 x8_4).f1).toList))) = false := by simpa using c71))
               (try (have c71b3 : ¬ (((rd_T146 l0_4 x8_4).f0) = ((rd_T146 l1_4 x8_4).f0) && ((((rd_T146 l0_4 x8_4).f1).toList) == (((rd_T146 l1_4 x8_4).f1).toList))) := by simpa using c71))
               clear c71; have H' := Aside0.mk H
               clear H
               try go_wp2
               have n0_ := Aside0.mk (Kd.R_drew HO_6.out)
               have n1_ := Aside0.mk (blk_drew BK119.out)
               have n2_ := Aside0.mk (blk_drew BK120.out)
               have n3_ := Aside0.mk (below_drew1 HB.out)
               clear HO_6 BK119 BK120 HB; have HO_6 := n0_; have BK119 := n1_; have BK120 := n2_; have HB := n3_; clear n0_ n1_ n2_ n3_; have p131 : 0 ≤ (x8_4 : Int) := of_decide_eq_true (by first | (with_reducible assumption) | assumption)
               have q131 : x8_4 < (l0_4.length : Int) := of_decide_eq_true (by first | (with_reducible assumption) | assumption)
               obtain ⟨ad131, e131, hx131_0, hx131_1⟩ := at_T146 HR0_4.out x8_4 p131 q131
               have hw131_1 := hx131_1
               have hw131_0 := hx131_0
               cases e131
               replace hx131_0 := (HB.out.cell (World.block_lt_of_cell? w _ hx131_0)).trans hx131_0
               replace hx131_1 := (HB.out.cell (World.block_lt_of_cell? w _ hx131_1)).trans hx131_1
               replace p131 := eq_true p131
               replace q131 := eq_true q131
               have p132 : 0 ≤ (x8_4 : Int) := of_decide_eq_true (by first | (with_reducible assumption) | assumption)
               have q132 : x8_4 < (l1_4.length : Int) := of_decide_eq_true (by first | (with_reducible assumption) | assumption)
               obtain ⟨ad132, e132, hx132_0, hx132_1⟩ := at_T146 HR1_4.out x8_4 p132 q132
               have hw132_1 := hx132_1
               have hw132_0 := hx132_0
               cases e132
               replace hx132_0 := (HB.out.cell (World.block_lt_of_cell? w _ hx132_0)).trans hx132_0
               replace hx132_1 := (HB.out.cell (World.block_lt_of_cell? w _ hx132_1)).trans hx132_1
               replace p132 := eq_true p132
               replace q132 := eq_true q132
               refine start_ (n := 25) (S := fun w' => w'.cell? ⟨gb119, 0, none⟩ = some (.int .i64 a0_0) ∧ w'.cell? ⟨gb119, 1, none⟩ = some (.int .i64 a0_1) ∧ w'.cell? ⟨gb119, 2, none⟩ = some (.int .i64 a0_2) ∧ w'.cell? ⟨gb119, 3, none⟩ = some (.int .i64 a0_3) ∧ w'.cell? ⟨gb119, 4, none⟩ = some (.slice (some ad131) l0_4.length c0_4) ∧ w'.cell? ⟨gb120, 0, none⟩ = some (.int .i64 a1_0) ∧ w'.cell? ⟨gb120, 1, none⟩ = some (.int .i64 a1_1) ∧ w'.cell? ⟨gb120, 2, none⟩ = some (.int .i64 a1_2) ∧ w'.cell? ⟨gb120, 3, none⟩ = some (.int .i64 a1_3) ∧ w'.cell? ⟨gb120, 4, none⟩ = some (.slice (some ad132) l1_4.length c1_4) ∧ w'.cell? (ad131.add ((x8_4).toNat * 2)) = some (.int .i64 ((rd_T146 l0_4 x8_4).f0)) ∧ w'.cell? ⟨(ad131.add ((x8_4).toNat * 2)).block, (ad131.add ((x8_4).toNat * 2)).off + 1, none⟩ = some (.string ((rd_T146 l0_4 x8_4).f1)) ∧ w'.cell? (ad132.add ((x8_4).toNat * 2)) = some (.int .i64 ((rd_T146 l1_4 x8_4).f0)) ∧ w'.cell? ⟨(ad132.add ((x8_4).toNat * 2)).block, (ad132.add ((x8_4).toNat * 2)).off + 1, none⟩ = some (.string ((rd_T146 l1_4 x8_4).f1))) (ds := []) #[ff,ff,ff,ff,ff,ff,ff,ff,ff,ff,ff,ff,ff,ff,ff,ff,ff,ff,ff,ff,ff,ff,ff,ff,ff] (by kernel_rfl) rfl rfl ⟨bc BK119 0, bc BK119 1, bc BK119 2, bc BK119 3, bc BK119 4, bc BK120 0, bc BK120 1, bc BK120 2, bc BK120 3, bc BK120 4, ((HB.out.cell (World.block_lt_of_cell? w _ hw131_0)).trans hw131_0), ((HB.out.cell (World.block_lt_of_cell? w _ hw131_1)).trans hw131_1), ((HB.out.cell (World.block_lt_of_cell? w _ hw132_0)).trans hw132_0), ((HB.out.cell (World.block_lt_of_cell? w _ hw132_1)).trans hw132_1)⟩ (fun hHeld => ?_); refine with_tabW spec_Changes.tab10 spec_Changes.bits10 (fun HT_ HW_ => ?_)
               generalize wr.drew = w73 at HO_6 BK119 BK120 HB hx131_0 hx131_1 hx132_0 hx132_1 hHeld ⊢
               refine pu 0 60 (tb 25 1) HT_ ?_
               refine pu 1 61 (tb 25 3) HT_ ?_
               refine tk 2 62 (tb 25 7) rfl rfl HT_ HW_ hHeld (by rintro w' ⟨s0, s1, s2, s3, s4, s5, s6, s7, s8, s9, s10, s11, s12, s13⟩; go_simp; with_reducible rfl) ?_
               refine pu 3 63 (tb 25 15) HT_ ?_
               refine pu 4 64 (tb 25 31) HT_ ?_
               refine pu 5 65 (tb 25 63) HT_ ?_
               refine pu 6 66 (tb 25 127) HT_ ?_
               refine pu 7 67 (tb 25 255) HT_ ?_
               refine tk 8 68 (tb 25 511) rfl rfl HT_ HW_ hHeld (by rintro w' ⟨s0, s1, s2, s3, s4, s5, s6, s7, s8, s9, s10, s11, s12, s13⟩; go_simp; with_reducible rfl) ?_
               refine pu 9 69 (tb 25 1023) HT_ ?_
               refine pu 10 70 (tb 25 2047) HT_ ?_
               refine pu 11 71 (tb 25 4095) HT_ ?_
               refine pu 12 72 (tb 25 8191) HT_ ?_
               refine pu 13 73 (tb 25 16383) HT_ ?_
               refine pu 15 75 (tb 25 49151) HT_ ?_
               refine pu 18 78 (tb 25 311295) HT_ ?_
               refine pu 20 80 (tb 25 1359871) HT_ ?_
               refine tk 14 74 (tb 25 1376255) rfl rfl HT_ HW_ hHeld (by rintro w' ⟨s0, s1, s2, s3, s4, s5, s6, s7, s8, s9, s10, s11, s12, s13⟩; go_simp; with_reducible rfl) ?_
               refine pu 16 76 (tb 25 1441791) HT_ ?_
               refine tk 17 77 (tb 25 1572863) rfl rfl HT_ HW_ hHeld (by rintro w' ⟨s0, s1, s2, s3, s4, s5, s6, s7, s8, s9, s10, s11, s12, s13⟩; go_simp; with_reducible rfl) ?_
               refine tk 19 79 (tb 25 2097151) rfl rfl HT_ HW_ hHeld (by rintro w' ⟨s0, s1, s2, s3, s4, s5, s6, s7, s8, s9, s10, s11, s12, s13⟩; go_simp; with_reducible rfl) ?_
               refine pu 21 81 (tb 25 4194303) HT_ ?_
               refine tk 22 82 (tb 25 8388607) rfl rfl HT_ HW_ hHeld (by rintro w' ⟨s0, s1, s2, s3, s4, s5, s6, s7, s8, s9, s10, s11, s12, s13⟩; go_simp; with_reducible rfl) ?_
               refine pu 23 83 (tb 25 16777215) HT_ ?_
               refine pu 24 84 (tb 25 33554431) HT_ ?_
               refine done_ (done_of HT_.out (by kernel_rfl)) ?_
               try go_wp2
               go_meet
               case rel => exact ⟨_, (x8_4), (by first | rfl | (simp; done) | (simp [*]; done)), H', ⟨by have := HJ2.out; have := HJ35.out; have := HJ43.out; have := HK4.out; first | omega | exact Nat.le_refl _⟩, ⟨rr HO_6⟩, ⟨bb BK119⟩, ⟨bb BK120⟩, ⟨by repeat (first | (with_reducible first | exact HB.out | apply below_alloc | apply pw_below_drewN | apply below_drew1 | refine below_set ?_ GE119.out | refine below_set ?_ GE120.out) | exact HB.out)⟩⟩
             ·rw [if_neg c70] at H
              exact absurd H (by simp)
            ·rw [if_neg c69] at H
             have c69b0 : decide (x8_4 < (l1_4.length : Int)) = false := decide_eq_false c69
             clear c69; have H' := Aside0.mk H
             clear H
             try go_wp2
             have n0_ := Aside0.mk (Kd.R_drew HO_6.out)
             have n1_ := Aside0.mk (blk_drew BK119.out)
             have n2_ := Aside0.mk (blk_drew BK120.out)
             have n3_ := Aside0.mk (below_drew1 HB.out)
             clear HO_6 BK119 BK120 HB; have HO_6 := n0_; have BK119 := n1_; have BK120 := n2_; have HB := n3_; clear n0_ n1_ n2_ n3_; refine start_ (n := 25) (S := fun w' => w'.cell? ⟨gb119, 0, none⟩ = some (.int .i64 a0_0) ∧ w'.cell? ⟨gb119, 1, none⟩ = some (.int .i64 a0_1) ∧ w'.cell? ⟨gb119, 2, none⟩ = some (.int .i64 a0_2) ∧ w'.cell? ⟨gb119, 3, none⟩ = some (.int .i64 a0_3) ∧ w'.cell? ⟨gb119, 4, none⟩ = some (.slice A0_4 l0_4.length c0_4) ∧ w'.cell? ⟨gb120, 0, none⟩ = some (.int .i64 a1_0) ∧ w'.cell? ⟨gb120, 1, none⟩ = some (.int .i64 a1_1) ∧ w'.cell? ⟨gb120, 2, none⟩ = some (.int .i64 a1_2) ∧ w'.cell? ⟨gb120, 3, none⟩ = some (.int .i64 a1_3) ∧ w'.cell? ⟨gb120, 4, none⟩ = some (.slice A1_4 l1_4.length c1_4)) (ds := []) #[ff,ff,ff,ff,ff,ff,ff,ff,ff,ff,ff,ff,ff,ff,ff,ff,ff,ff,ff,ff,ff,ff,ff,ff,ff] (by kernel_rfl) rfl rfl ⟨bc BK119 0, bc BK119 1, bc BK119 2, bc BK119 3, bc BK119 4, bc BK120 0, bc BK120 1, bc BK120 2, bc BK120 3, bc BK120 4⟩ (fun hHeld => ?_); refine with_tabW spec_Changes.tab10 spec_Changes.bits10 (fun HT_ HW_ => ?_)
             generalize wr.drew = w74 at HO_6 BK119 BK120 HB hHeld ⊢
             refine pu 0 60 (tb 25 1) HT_ ?_
             refine pu 1 61 (tb 25 3) HT_ ?_
             refine tk 2 62 (tb 25 7) rfl rfl HT_ HW_ hHeld (by rintro w' ⟨s0, s1, s2, s3, s4, s5, s6, s7, s8, s9⟩; go_simp; with_reducible rfl) ?_
             refine pu 3 63 (tb 25 15) HT_ ?_
             refine pu 4 64 (tb 25 31) HT_ ?_
             refine pu 5 65 (tb 25 63) HT_ ?_
             refine pu 6 66 (tb 25 127) HT_ ?_
             refine pu 7 67 (tb 25 255) HT_ ?_
             refine tk 8 68 (tb 25 511) rfl rfl HT_ HW_ hHeld (by rintro w' ⟨s0, s1, s2, s3, s4, s5, s6, s7, s8, s9⟩; go_simp; with_reducible rfl) ?_
             refine pu 9 69 (tb 25 1023) HT_ ?_
             refine pu 10 70 (tb 25 2047) HT_ ?_
             refine pu 11 71 (tb 25 4095) HT_ ?_
             refine pu 12 72 (tb 25 8191) HT_ ?_
             refine pn 13 73 (tb 25 16383) HT_ ?_
             refine pn 14 74 (tb 25 32767) HT_ ?_
             refine pn 15 75 (tb 25 65535) HT_ ?_
             refine pn 16 76 (tb 25 131071) HT_ ?_
             refine pn 17 77 (tb 25 262143) HT_ ?_
             refine pn 18 78 (tb 25 524287) HT_ ?_
             refine pn 19 79 (tb 25 1048575) HT_ ?_
             refine pn 20 80 (tb 25 2097151) HT_ ?_
             refine pn 21 81 (tb 25 4194303) HT_ ?_
             refine pn 22 82 (tb 25 8388607) HT_ ?_
             refine pn 23 83 (tb 25 16777215) HT_ ?_
             refine pu 24 84 (tb 25 33554431) HT_ ?_
             refine done_ (done_of HT_.out (by kernel_rfl)) ?_
             try go_wp2
             go_meet
             case rel => exact ⟨_, (x8_4), (by first | rfl | (simp; done) | (simp [*]; done)), H', ⟨by have := HJ2.out; have := HJ35.out; have := HJ43.out; have := HK4.out; first | omega | exact Nat.le_refl _⟩, ⟨rr HO_6⟩, ⟨bb BK119⟩, ⟨bb BK120⟩, ⟨by repeat (first | (with_reducible first | exact HB.out | apply below_alloc | apply pw_below_drewN | apply below_drew1 | refine below_set ?_ GE119.out | refine below_set ?_ GE120.out) | exact HB.out)⟩⟩
           ·rw [if_neg c68] at H
            have c68b0 : decide (x8_4 < (l0_4.length : Int)) = false := decide_eq_false c68
            clear c68
            (first | rw [c68b0] | (simp only [i64_w, i32_w]; rw [c68b0]) | skip)
            have H' := Aside0.mk H
            clear H
            try go_wp2
            have n0_ := Aside0.mk (Kd.R_drew HO_6.out)
            have n1_ := Aside0.mk (blk_drew BK119.out)
            have n2_ := Aside0.mk (blk_drew BK120.out)
            have n3_ := Aside0.mk (below_drew1 HB.out)
            clear HO_6 BK119 BK120 HB; have HO_6 := n0_; have BK119 := n1_; have BK120 := n2_; have HB := n3_; clear n0_ n1_ n2_ n3_; refine start_ (n := 25) (S := fun w' => w'.cell? ⟨gb119, 0, none⟩ = some (.int .i64 a0_0) ∧ w'.cell? ⟨gb119, 1, none⟩ = some (.int .i64 a0_1) ∧ w'.cell? ⟨gb119, 2, none⟩ = some (.int .i64 a0_2) ∧ w'.cell? ⟨gb119, 3, none⟩ = some (.int .i64 a0_3) ∧ w'.cell? ⟨gb119, 4, none⟩ = some (.slice A0_4 l0_4.length c0_4)) (ds := []) #[ff,ff,ff,ff,ff,ff,ff,ff,ff,ff,ff,ff,ff,ff,ff,ff,ff,ff,ff,ff,ff,ff,ff,ff,ff] (by kernel_rfl) rfl rfl ⟨bc BK119 0, bc BK119 1, bc BK119 2, bc BK119 3, bc BK119 4⟩ (fun hHeld => ?_); refine with_tabW spec_Changes.tab10 spec_Changes.bits10 (fun HT_ HW_ => ?_)
            generalize wr.drew = w75 at HO_6 BK119 BK120 HB hHeld ⊢
            refine pu 0 60 (tb 25 1) HT_ ?_
            refine pu 1 61 (tb 25 3) HT_ ?_
            refine tk 2 62 (tb 25 7) rfl rfl HT_ HW_ hHeld (by rintro w' ⟨s0, s1, s2, s3, s4⟩; go_simp; with_reducible rfl) ?_
            refine pu 3 63 (tb 25 15) HT_ ?_
            refine pu 4 64 (tb 25 31) HT_ ?_
            refine pu 5 65 (tb 25 63) HT_ ?_
            refine pn 6 66 (tb 25 127) HT_ ?_
            refine pn 7 67 (tb 25 255) HT_ ?_
            refine pn 8 68 (tb 25 511) HT_ ?_
            refine pn 9 69 (tb 25 1023) HT_ ?_
            refine pn 10 70 (tb 25 2047) HT_ ?_
            refine pu 11 71 (tb 25 4095) HT_ ?_
            refine pu 12 72 (tb 25 8191) HT_ ?_
            refine pn 13 73 (tb 25 16383) HT_ ?_
            refine pn 14 74 (tb 25 32767) HT_ ?_
            refine pn 15 75 (tb 25 65535) HT_ ?_
            refine pn 16 76 (tb 25 131071) HT_ ?_
            refine pn 17 77 (tb 25 262143) HT_ ?_
            refine pn 18 78 (tb 25 524287) HT_ ?_
            refine pn 19 79 (tb 25 1048575) HT_ ?_
            refine pn 20 80 (tb 25 2097151) HT_ ?_
            refine pn 21 81 (tb 25 4194303) HT_ ?_
            refine pn 22 82 (tb 25 8388607) HT_ ?_
            refine pn 23 83 (tb 25 16777215) HT_ ?_
            refine pu 24 84 (tb 25 33554431) HT_ ?_
            refine done_ (done_of HT_.out (by kernel_rfl)) ?_
            try go_wp2
            go_meet
            case rel => exact ⟨_, (x8_4), (by first | rfl | (simp; done) | (simp [*]; done)), H', ⟨by have := HJ2.out; have := HJ35.out; have := HJ43.out; have := HK4.out; first | omega | exact Nat.le_refl _⟩, ⟨rr HO_6⟩, ⟨bb BK119⟩, ⟨bb BK120⟩, ⟨by repeat (first | (with_reducible first | exact HB.out | apply below_alloc | apply pw_below_drewN | apply below_drew1 | refine below_set ?_ GE119.out | refine below_set ?_ GE120.out) | exact HB.out)⟩⟩
        case rest =>
         clear HC67; obtain ⟨kq, x8_66, rfl, HA, HJ66, HO_6, BK119, BK120, HB⟩ := hcut
         cases kq with
         | zero => exact absurd HA.out (by simp [spec_Changes.j4])
         | succ kj66 =>
          have H := HA.out; clear HA; simp only [spec_Changes.j4] at H
          have HC76 := Aside0.mk H
          clear H; have hnb77 := NB119_120.out; have hnc77 := NB120_119.out; obtain ⟨hcz78_0, hcz78_1, hcz78_2, hcz78_3, hcz78_4⟩ := cs5 BK119; obtain ⟨hfz78_0, hfz78_1, hfz78_2, hfz78_3, hfz78_4⟩ := fs5 BK119
          go_upto_if 91 with (fail)
          go_cut [6] (fun v6 wc => ∃ (kq : Nat) (x6_75 : List (S96)), Aside0 (spec_Changes.j5 kq x6_75 x8_66 a1_0 a1_1 a1_2 a1_3 l1_4 = some (r1, r2)) ∧ Aside0 (kq ≤ kj66) ∧ Aside0 (Kd.R k96 96 wc w.heap.size (fun _ => True) v6 x6_75) ∧ Aside0 (wc.heap[gb119]? = some (.cells #[.int .i64 a0_0, .int .i64 a0_1, .int .i64 a0_2, .int .i64 a0_3, (.slice A0_4 l0_4.length c0_4)] 50 (0, 0))) ∧ Aside0 (wc.heap[gb120]? = some (.cells #[.int .i64 a1_0, .int .i64 a1_1, .int .i64 a1_2, .int .i64 a1_3, (.slice A1_4 l1_4.length c1_4)] 50 (0, 0))) ∧ Aside0 (Below w.heap.size w wc))
          case first =>
           have H := HC76.out; clear HC76
           by_cases c79 : x8_66 < (l0_4.length : Int)
           ·rw [if_pos c79] at H
            have c79b0 : decide (x8_66 < (l0_4.length : Int)) = true := decide_eq_true c79
            clear c79
            (first | rw [c79b0] | (simp only [i64_w, i32_w]; rw [c79b0]) | skip)
            by_cases c80 : x6_43.length < 2932031007402
            ·rw [if_pos c80] at H
             have LMc80 := Aside0.mk c80
             clear c80; obtain ⟨y133, hy133⟩ : ∃ y_ : List (S96), y_ = (x6_43 ++ [(⟨3, 0, wrap64 ((wrap64 (a0_2 + x8_66)) + 1), 0, (⟨#[]⟩ : ByteArray)⟩ : S96)]) := ⟨_, rfl⟩
             replace H : (spec_Changes.j5 kj66 y133 x8_66 a1_0 a1_1 a1_2 a1_3 l1_4) = some (r1, r2) := by first | (rw [hy133]; with_reducible exact H) | (have H2_ := (Option.bind_some _ _).symm.trans H; rw [hy133]; with_reducible exact H2_) | (have H2_ := (Option.bind_some _ _).symm.trans H; with_reducible exact H2_) | with_reducible exact H | (rw [hy133]; exact H) | exact H
             have Ny133 := Aside0.mk hy133
             clear hy133; have H' := Aside0.mk H
             clear H; have hnb81 := NB119_120.out; have hnc81 := NB120_119.out; obtain ⟨hcz82_0, hcz82_1, hcz82_2, hcz82_3, hcz82_4⟩ := cs5 BK119; obtain ⟨hfz82_0, hfz82_1, hfz82_2, hfz82_3, hfz82_4⟩ := fs5 BK119
             go_wp2_with (first | ((with_reducible refine gate_builtin (b := .append) (xs := #[.tmp 92, .tmp 99]) rfl ?_); (try (refine gate_guard (by rfl) ?_; dsimp only)); at_builtin; refine Kd.R_append k96 (w0 := w) w.heap.size rfl (.tmp 92) (.tmp 99) 90 96 (.agg #[(.int .i64 0), (.int .i64 0), (.int .i64 0), (.int .i64 0), (.string ⟨#[]⟩)]) 48 rfl Try.underlying90 info96 rfl (by decide) (by omega) u6 x6_43 (⟨3, 0, wrap64 ((wrap64 (a0_2 + x8_66)) + 1), 0, (⟨#[]⟩ : ByteArray)⟩ : S96) [.int .i64 3, .int .i64 0, .int .i64 (wrap64 ((wrap64 (a0_2 + x8_66)) + 1)), .int .i64 0, .string (⟨#[]⟩ : ByteArray)] (fun _ => True) (fun _ => False) rfl rfl ?aP (fun _ hk => hk.elim) ?aF ?aO ?aB ?aS ?aL ?_; (case aP => exact k96_mkM _ _ _ (⟨3, 0, wrap64 ((wrap64 (a0_2 + x8_66)) + 1), 0, (⟨#[]⟩ : ByteArray)⟩ : S96)); (case aB => exact (be HB)); (case aF => exact (fun _ _ => trivial)); (case aO => exact (rr HO_6)); (case aS => exact (below_size (be HB))); (case aL => have := LMc80.out; omega); intro v134 w83 ho hb hg hat; rw [← Ny133.out] at ho; have n0_ := Aside0.mk (blk_grown (g := gb119) (o := .cells #[.int .i64 a0_0, .int .i64 a0_1, .int .i64 a0_2, .int .i64 a0_3, .slice A0_4 l0_4.length c0_4] 50 (0, 0)) (by (with_reducible repeat first | refine bkN ?_ _ | refine bkD ?_ | refine bkA ?_ _); exact BK119.out) hg (Kd.R_ne HO_6.out BK119.out (by decide))); have n1_ := Aside0.mk (blk_grown (g := gb120) (o := .cells #[.int .i64 a1_0, .int .i64 a1_1, .int .i64 a1_2, .int .i64 a1_3, .slice A1_4 l1_4.length c1_4] 50 (0, 0)) (by (with_reducible repeat first | refine bkN ?_ _ | refine bkD ?_ | refine bkA ?_ _); exact BK120.out) hg (Kd.R_ne HO_6.out BK120.out (by decide))); have n2_ := Aside0.mk (hb); have HO135 := Aside0.mk (ho); clear HO_6 BK119 BK120 HB; have BK119 := n0_; have BK120 := n1_; have HB := n2_; clear n0_ n1_ n2_; clear ho hb hg hat))
             go_meet
             case rel => exact ⟨_, (y133), H', ⟨by have := HJ2.out; have := HJ35.out; have := HJ43.out; have := HJ66.out; first | omega | exact Nat.le_refl _⟩, ⟨rr HO135⟩, ⟨bb BK119⟩, ⟨bb BK120⟩, ⟨by repeat (first | (with_reducible first | exact HB.out | apply below_alloc | apply pw_below_drewN | apply below_drew1 | refine below_set ?_ GE119.out | refine below_set ?_ GE120.out) | exact HB.out)⟩⟩
            ·rw [if_neg c80] at H
             exact absurd H (by simp)
           ·rw [if_neg c79] at H
            have c79b0 : decide (x8_66 < (l0_4.length : Int)) = false := decide_eq_false c79
            clear c79
            (first | rw [c79b0] | (simp only [i64_w, i32_w]; rw [c79b0]) | skip)
            have H' := Aside0.mk H
            clear H
            go_wp2
            go_meet
            case rel => exact ⟨_, (x6_43), H', ⟨by have := HJ2.out; have := HJ35.out; have := HJ43.out; have := HJ66.out; first | omega | exact Nat.le_refl _⟩, ⟨rr HO_6⟩, ⟨bb BK119⟩, ⟨bb BK120⟩, ⟨by repeat (first | (with_reducible first | exact HB.out | apply below_alloc | apply pw_below_drewN | apply below_drew1 | refine below_set ?_ GE119.out | refine below_set ?_ GE120.out) | exact HB.out)⟩⟩
          case rest =>
           clear HC76; obtain ⟨kq, x6_75, HA, HJ75, HO_6, BK119, BK120, HB⟩ := hcut
           cases kq with
           | zero => exact absurd HA.out (by simp [spec_Changes.j5])
           | succ kj75 =>
            have H := HA.out; clear HA; simp only [spec_Changes.j5] at H
            have H' := Aside0.mk H
            clear H
            go_wp2
            go_loopg [6, 9] kj75 (fun kq v6 v9 w' => ∃ (x6_6 : List (S96)) (x9_6 : Int), v9 = .int .i64 x9_6 ∧ Aside0 (spec_Changes.l1 kq x6_6 x9_6 a1_0 a1_1 a1_2 a1_3 l1_4 = some (r1, r2)) ∧ Aside0 (kq ≤ kj75) ∧ Aside0 (Kd.R k96 96 w' w.heap.size (fun _ => True) v6 x6_6) ∧ Aside0 (w'.heap[gb119]? = some (.cells #[.int .i64 a0_0, .int .i64 a0_1, .int .i64 a0_2, .int .i64 a0_3, (.slice A0_4 l0_4.length c0_4)] 50 (0, 0))) ∧ Aside0 (w'.heap[gb120]? = some (.cells #[.int .i64 a1_0, .int .i64 a1_1, .int .i64 a1_2, .int .i64 a1_3, (.slice A1_4 l1_4.length c1_4)] 50 (0, 0))) ∧ Aside0 (Below w.heap.size w w'))
            case atStart => exact ⟨(x6_75), (x8_66), (by first | rfl | (simp; done) | (simp [*]; done)), H', ⟨Nat.le_refl _⟩, ⟨rr HO_6⟩, ⟨bb BK119⟩, ⟨bb BK120⟩, ⟨by repeat (first | (with_reducible first | exact HB.out | apply below_alloc | apply pw_below_drewN | apply below_drew1 | refine below_set ?_ GE119.out | refine below_set ?_ GE120.out) | exact HB.out)⟩⟩
            case round =>
             clear H'
             obtain ⟨x6_6, x9_6, rfl, HA, HK6, HO_6, BK119, BK120, HB⟩ := hrel
             cases gk with
             | zero => exact absurd HA.out (by simp [spec_Changes.l1])
             | succ k6 =>
              have H := HA.out; clear HA; simp only [spec_Changes.l1] at H
              by_cases c84 : x9_6 < (l1_4.length : Int)
              ·rw [if_pos c84] at H
               have c84b0 : decide (x9_6 < (l1_4.length : Int)) = true := decide_eq_true c84
               clear c84
               by_cases c85 : 0 ≤ x9_6
               ·rw [if_pos c85] at H
                have c85b0 : decide (0 ≤ x9_6) = true := decide_eq_true c85
                clear c85
                by_cases c86 : x6_6.length < 2932031007402
                ·rw [if_pos c86] at H
                 have LMc86 := Aside0.mk c86
                 clear c86; obtain ⟨y138, hy138⟩ : ∃ y_ : List (S96), y_ = (x6_6 ++ [(⟨2, (rd_T146 l1_4 x9_6).f0, wrap64 ((wrap64 (a1_2 + 1)) + x9_6), 0, (rd_T146 l1_4 x9_6).f1⟩ : S96)]) := ⟨_, rfl⟩
                 replace H : (spec_Changes.l1 k6 y138 (wrap64 (x9_6 + 1)) a1_0 a1_1 a1_2 a1_3 l1_4) = some (r1, r2) := by first | (rw [hy138]; with_reducible exact H) | (have H2_ := (Option.bind_some _ _).symm.trans H; rw [hy138]; with_reducible exact H2_) | (have H2_ := (Option.bind_some _ _).symm.trans H; with_reducible exact H2_) | with_reducible exact H | (rw [hy138]; exact H) | exact H
                 have Ny138 := Aside0.mk hy138
                 clear hy138; have H' := Aside0.mk H
                 clear H; have hnb87 := NB120_119.out; have hnc87 := NB119_120.out; obtain ⟨hcz88_0, hcz88_1, hcz88_2, hcz88_3, hcz88_4⟩ := cs5 BK120; obtain ⟨hfz88_0, hfz88_1, hfz88_2, hfz88_3, hfz88_4⟩ := fs5 BK120
                 try go_wp2
                 have n0_ := Aside0.mk (Kd.R_drew HO_6.out)
                 have n1_ := Aside0.mk (blk_drew BK119.out)
                 have n2_ := Aside0.mk (blk_drew BK120.out)
                 have n3_ := Aside0.mk (below_drew1 HB.out)
                 clear HO_6 BK119 BK120 HB; have HO_6 := n0_; have BK119 := n1_; have BK120 := n2_; have HB := n3_; clear n0_ n1_ n2_ n3_; have p136 : 0 ≤ (x9_6 : Int) := of_decide_eq_true (by first | (with_reducible assumption) | assumption)
                 have q136 : x9_6 < (l1_4.length : Int) := of_decide_eq_true (by first | (with_reducible assumption) | assumption)
                 obtain ⟨ad136, e136, hx136_0, hx136_1⟩ := at_T146 HR1_4.out x9_6 p136 q136
                 have hw136_1 := hx136_1
                 have hw136_0 := hx136_0
                 cases e136
                 replace hx136_0 := (HB.out.cell (World.block_lt_of_cell? w _ hx136_0)).trans hx136_0
                 replace hx136_1 := (HB.out.cell (World.block_lt_of_cell? w _ hx136_1)).trans hx136_1
                 replace p136 := eq_true p136
                 replace q136 := eq_true q136
                 have p137 : 0 ≤ (x9_6 : Int) := of_decide_eq_true (by first | (with_reducible assumption) | assumption)
                 have q137 : x9_6 < (l1_4.length : Int) := of_decide_eq_true (by first | (with_reducible assumption) | assumption)
                 obtain ⟨ad137, e137, hx137_0, hx137_1⟩ := at_T146 HR1_4.out x9_6 p137 q137
                 have hw137_1 := hx137_1
                 have hw137_0 := hx137_0
                 obtain rfl : ad136 = ad137 := (by injection e137)
                 replace hx137_0 := (HB.out.cell (World.block_lt_of_cell? w _ hx137_0)).trans hx137_0
                 replace hx137_1 := (HB.out.cell (World.block_lt_of_cell? w _ hx137_1)).trans hx137_1
                 replace p137 := eq_true p137
                 replace q137 := eq_true q137
                 refine start_ (n := 22) (S := fun w' => w'.cell? ⟨gb120, 0, none⟩ = some (.int .i64 a1_0) ∧ w'.cell? ⟨gb120, 1, none⟩ = some (.int .i64 a1_1) ∧ w'.cell? ⟨gb120, 2, none⟩ = some (.int .i64 a1_2) ∧ w'.cell? ⟨gb120, 3, none⟩ = some (.int .i64 a1_3) ∧ w'.cell? ⟨gb120, 4, none⟩ = some (.slice (some ad136) l1_4.length c1_4) ∧ w'.cell? (ad136.add ((x9_6).toNat * 2)) = some (.int .i64 ((rd_T146 l1_4 x9_6).f0)) ∧ w'.cell? ⟨(ad136.add ((x9_6).toNat * 2)).block, (ad136.add ((x9_6).toNat * 2)).off + 1, none⟩ = some (.string ((rd_T146 l1_4 x9_6).f1)) ∧ w'.cell? (ad136.add ((x9_6).toNat * 2)) = some (.int .i64 ((rd_T146 l1_4 x9_6).f0)) ∧ w'.cell? ⟨(ad136.add ((x9_6).toNat * 2)).block, (ad136.add ((x9_6).toNat * 2)).off + 1, none⟩ = some (.string ((rd_T146 l1_4 x9_6).f1))) (ds := []) #[ff,ff,ff,ff,ff,ff,ff,ff,ff,ff,ff,ff,ff,ff,ff,ff,ff,ff,ff,ff,ff,ff] (by kernel_rfl) rfl rfl ⟨bc BK120 0, bc BK120 1, bc BK120 2, bc BK120 3, bc BK120 4, ((HB.out.cell (World.block_lt_of_cell? w _ hw136_0)).trans hw136_0), ((HB.out.cell (World.block_lt_of_cell? w _ hw136_1)).trans hw136_1), ((HB.out.cell (World.block_lt_of_cell? w _ hw137_0)).trans hw137_0), ((HB.out.cell (World.block_lt_of_cell? w _ hw137_1)).trans hw137_1)⟩ (fun hHeld => ?_); refine with_tabW spec_Changes.tab17 spec_Changes.bits17 (fun HT_ HW_ => ?_)
                 generalize wr.drew = w89 at HO_6 BK119 BK120 HB hx136_0 hx136_1 hx137_0 hx137_1 hHeld ⊢
                 refine pu 0 109 (tb 22 1) HT_ ?_
                 refine pu 1 110 (tb 22 3) HT_ ?_
                 refine pu 3 112 (tb 22 11) HT_ ?_
                 refine pu 7 116 (tb 22 139) HT_ ?_
                 refine pu 10 119 (tb 22 1163) HT_ ?_
                 refine pu 12 121 (tb 22 5259) HT_ ?_
                 refine pu 14 123 (tb 22 21643) HT_ ?_
                 refine tk 2 111 (tb 22 21647) rfl rfl HT_ HW_ hHeld (by rintro w' ⟨s0, s1, s2, s3, s4, s5, s6, s7, s8⟩; go_simp; with_reducible rfl) ?_
                 refine pu 4 113 (tb 22 21663) HT_ ?_
                 refine pu 5 114 (tb 22 21695) HT_ ?_
                 refine tk 6 115 (tb 22 21759) rfl rfl HT_ HW_ hHeld (by rintro w' ⟨s0, s1, s2, s3, s4, s5, s6, s7, s8⟩; go_simp; with_reducible rfl) ?_
                 refine tk 8 117 (tb 22 22015) rfl rfl HT_ HW_ hHeld (by rintro w' ⟨s0, s1, s2, s3, s4, s5, s6, s7, s8⟩; go_simp; with_reducible rfl) ?_
                 refine pu 9 118 (tb 22 22527) HT_ ?_
                 refine pu 11 120 (tb 22 24575) HT_ ?_
                 refine tk 13 122 (tb 22 32767) rfl rfl HT_ HW_ hHeld (by rintro w' ⟨s0, s1, s2, s3, s4, s5, s6, s7, s8⟩; go_simp; with_reducible rfl) ?_
                 refine pu 15 124 (tb 22 65535) HT_ ?_
                 refine pu 16 125 (tb 22 131071) HT_ ?_
                 refine tk 17 126 (tb 22 262143) rfl rfl HT_ HW_ hHeld (by rintro w' ⟨s0, s1, s2, s3, s4, s5, s6, s7, s8⟩; go_simp; with_reducible rfl) ?_
                 refine pu 18 127 (tb 22 524287) HT_ ?_
                 refine one_ (i := 19) (N := some 128) #[tt,tt,tt,tt,tt,tt,tt,tt,tt,tt,tt,tt,tt,tt,tt,tt,tt,tt,tt,tt,ff,ff] rfl rfl (one_of HT_.out (by kernel_rfl)) (by decide) (fun K hK => ?_)
                 refine value_ (w1 := ?_) (v := ?_) (by rfl) rfl ?_ ?_
                 rotate_left 2
                 ·go_simp
                  constructor
                  ·rfl
                  ·rfl
                 refine hK.out _ _ ⟨(blk_cell (blk_alloc BK120.out _) 0).trans rfl, (blk_cell (blk_alloc BK120.out _) 1).trans rfl, (blk_cell (blk_alloc BK120.out _) 2).trans rfl, (blk_cell (blk_alloc BK120.out _) 3).trans rfl, (blk_cell (blk_alloc BK120.out _) 4).trans rfl, (World.cell?_alloc_lt _ _ _ (World.block_lt_of_cell? _ _ (((HB.out.cell (World.block_lt_of_cell? w _ hw136_0)).trans hw136_0)))).trans (((HB.out.cell (World.block_lt_of_cell? w _ hw136_0)).trans hw136_0)), (World.cell?_alloc_lt _ _ _ (World.block_lt_of_cell? _ _ (((HB.out.cell (World.block_lt_of_cell? w _ hw136_1)).trans hw136_1)))).trans (((HB.out.cell (World.block_lt_of_cell? w _ hw136_1)).trans hw136_1)), (World.cell?_alloc_lt _ _ _ (World.block_lt_of_cell? _ _ (((HB.out.cell (World.block_lt_of_cell? w _ hw137_0)).trans hw137_0)))).trans (((HB.out.cell (World.block_lt_of_cell? w _ hw137_0)).trans hw137_0)), (World.cell?_alloc_lt _ _ _ (World.block_lt_of_cell? _ _ (((HB.out.cell (World.block_lt_of_cell? w _ hw137_1)).trans hw137_1)))).trans (((HB.out.cell (World.block_lt_of_cell? w _ hw137_1)).trans hw137_1))⟩ (fun hHeld => ?_)
                 clear hK K; refine norm_ (a' := ?_) ?_ ?_
                 rotate_left
                 ·show Act.put _ (some 128) _ = _
                  simp only [putL, i64_w, i32_w]; rfl
                 refine one_ (i := 20) (N := some 129) #[tt,tt,tt,tt,tt,tt,tt,tt,tt,tt,tt,tt,tt,tt,tt,tt,tt,tt,tt,tt,tt,ff] rfl rfl (one_of HT_.out (by kernel_rfl)) (by decide) (fun K hK => ?_)
                 refine Kd.R_append_step k96 (w0 := w) w.heap.size (by rfl) (.tmp 109) (.tmp 128) 90 96 (.agg #[(.int .i64 0), (.int .i64 0), (.int .i64 0), (.int .i64 0), (.string ⟨#[]⟩)]) 48 rfl Try.underlying90 info96 rfl (by decide) (by omega) u6 x6_6 (⟨2, (rd_T146 l1_4 x9_6).f0, wrap64 ((wrap64 (a1_2 + 1)) + x9_6), 0, (rd_T146 l1_4 x9_6).f1⟩ : S96) [.int .i64 2, .int .i64 ((rd_T146 l1_4 x9_6).f0), .int .i64 (wrap64 ((wrap64 (a1_2 + 1)) + x9_6)), .int .i64 0, .string ((rd_T146 l1_4 x9_6).f1)] (fun _ => True) (fun _ => False) rfl rfl ?aP (fun _ hk => hk.elim) ?aF ?aO ?aB ?aS ?aL ?_
                 (case aP => exact k96_mkM _ _ _ (⟨2, (rd_T146 l1_4 x9_6).f0, wrap64 ((wrap64 (a1_2 + 1)) + x9_6), 0, (rd_T146 l1_4 x9_6).f1⟩ : S96))
                 (case aB => exact (be HB))
                 (case aF => exact (fun _ _ => trivial))
                 (case aO => exact (rr HO_6))
                 (case aS => exact (below_size (be HB)))
                 (case aL => have := LMc86.out; omega)
                 intro v139 w90 ho hb hg hat
                 rw [← Ny138.out] at ho
                 have n0_ := Aside0.mk (blk_grown (g := gb119) (o := .cells #[.int .i64 a0_0, .int .i64 a0_1, .int .i64 a0_2, .int .i64 a0_3, .slice A0_4 l0_4.length c0_4] 50 (0, 0)) (by (with_reducible repeat first | refine bkN ?_ _ | refine bkD ?_ | refine bkA ?_ _); exact BK119.out) hg (Kd.R_ne HO_6.out BK119.out (by decide)))
                 have n1_ := Aside0.mk (blk_grown (g := gb120) (o := .cells #[.int .i64 a1_0, .int .i64 a1_1, .int .i64 a1_2, .int .i64 a1_3, .slice (some ad136) l1_4.length c1_4] 50 (0, 0)) (by (with_reducible repeat first | refine bkN ?_ _ | refine bkD ?_ | refine bkA ?_ _); exact BK120.out) hg (Kd.R_ne HO_6.out BK120.out (by decide)))
                 have n2_ := Aside0.mk (hb)
                 have HO140 := Aside0.mk (ho)
                 clear HO_6 BK119 BK120 HB; have BK119 := n0_; have BK120 := n1_; have HB := n2_; clear n0_ n1_ n2_; clear ho hb hg hat; refine hK.out _ _ ⟨bc BK120 0, bc BK120 1, bc BK120 2, bc BK120 3, bc BK120 4, ((HB.out.cell (World.block_lt_of_cell? w _ hw136_0)).trans hw136_0), ((HB.out.cell (World.block_lt_of_cell? w _ hw136_1)).trans hw136_1), ((HB.out.cell (World.block_lt_of_cell? w _ hw137_0)).trans hw137_0), ((HB.out.cell (World.block_lt_of_cell? w _ hw137_1)).trans hw137_1)⟩ (fun hHeld => ?_)
                 clear hK K; refine norm_ (a' := ?_) ?_ ?_
                 rotate_left
                 ·show Act.put _ (some 129) _ = _
                  simp only [putL, i64_w, i32_w]; rfl
                 refine pu 21 6 (tb 22 4194303) HT_ ?_
                 refine done_ (done_of HT_.out (by kernel_rfl)) ?_
                 try go_wp2
                 go_roundg k6
                 case measure => have := HJ2.out; have := HJ35.out; have := HJ43.out; have := HJ66.out; have := HJ75.out; have := HK6.out; omega
                 case rel => exact ⟨(y138), (wrap64 (x9_6 + 1)), (by first | rfl | (simp; done) | (simp [*]; done)), H', ⟨by have := HJ2.out; have := HJ35.out; have := HJ43.out; have := HJ66.out; have := HJ75.out; have := HK6.out; omega⟩, ⟨rr HO140⟩, ⟨bb BK119⟩, ⟨bb BK120⟩, ⟨by repeat (first | (with_reducible first | exact HB.out | apply below_alloc | apply pw_below_drewN | apply below_drew1 | refine below_set ?_ GE119.out | refine below_set ?_ GE120.out) | exact HB.out)⟩⟩
                ·rw [if_neg c86] at H
                 exact absurd H (by simp)
               ·rw [if_neg c85] at H
                exact absurd H (by simp)
              ·rw [if_neg c84] at H
               have c84b0 : decide (x9_6 < (l1_4.length : Int)) = false := decide_eq_false c84
               clear c84; simp only [Option.some.injEq, Prod.mk.injEq] at H
               obtain ⟨rfl, rfl⟩ := H
               have hnb91 := NB120_119.out; have hnc91 := NB119_120.out; obtain ⟨hcz92_0, hcz92_1, hcz92_2, hcz92_3, hcz92_4⟩ := cs5 BK120; obtain ⟨hfz92_0, hfz92_1, hfz92_2, hfz92_3, hfz92_4⟩ := fs5 BK120
               go_wp2
               go_ret2
               exact ⟨_, by first | rfl | (simp [errW_none, errW_some] <;> rfl) | (simp [*, errW_none, errW_some] <;> rfl), by (with_reducible repeat (first | apply Kd.R_alloc | apply Kd.R_drewN | apply Kd.R_drew)); exact HO_6.out, by repeat (first | (with_reducible first | exact HB.out | apply below_alloc | apply pw_below_drewN | apply below_drew1 | refine below_set ?_ GE119.out | refine below_set ?_ GE120.out) | exact HB.out)⟩

end Go.Proofs.Ytobkmpihjfiihaa.PFnExactPlanAdd
