-- The machine side of a law: written by a program of this session (wip/tools), a turned print.
import Derived.Test.YtopnfbnfmaghaaaPFnExactWalStepx0
import Derived.Test.YtopnfbnfmaghaaaPFnExactWalStepx2
import Derived.Test.YtopnfbnfmaghaaaPFnExactWalStepx6
import Derived.Test.YtopnfbnfmaghaaaPFnExactWalStepx8
import Derived.Test.YtopnfbnfmaghaaaPFnExactWalStepx9
namespace Go.Proofs.Ytopnfbnfmaghaaa.PFnExactWalStep
open Go.RowKit Go.Proofs.YtopnfbnfmaghaaaW.PrintWords Go.Proofs.YtopnfbnfmaghaaaW.PrintLast Go.Proofs.YtopnfbnfmaghaaaW.PrintMore
attribute [local go_sem] max2_int min2_int max_two min_two max_three min_three max_four min_four   -- for this text's walks alone
set_option linter.unusedVariables false
set_option linter.unusedSimpArgs false

/-! ### laws_FnExactWalStep: function 8 -/
mutual
def laws_FnExactWalStep.j0 : Nat → Bool → Bool → Bool → Int → Int → Int → Int → List (S148) → Int → Int → Int → Int → ByteArray → Int → Int → Int → Int → List (S125) → Int → Int → Int → Int → List (S125) → Int → Int → Int → Int → List (S125) → Option (Bool)
 | 0, _, _, _, _, _, _, _, _, _, _, _, _, _, _, _, _, _, _, _, _, _, _, _, _, _, _, _, _ => none
 | k + 1, x7, x10, x51, x271000, x271001, x271002, x271003, x271004, x272000, x272001, x272002, x272003, x272004, x295000, x295001, x295002, x295003, x295004, x303000, x303001, x303002, x303003, x303004, x317000, x317001, x317002, x317003, x317004 => if x51 = true then (none) else ((laws_toWal.f k x271000 x271001 x271002 x271003 x271004).bind fun bt318 => ((laws_eqWal.f k x303000 x303001 x303002 x303003 x303004 bt318.1 bt318.2.1 bt318.2.2.1 bt318.2.2.2.1 bt318.2.2.2.2).bind fun t325 => (if t325 = true then ((laws_markWal.f k x303000 x303001 x303002 x303003 x303004 1).bind fun bt326 => (if bt326.1 < 0 then (laws_FnExactWalStep.j1 k x7 true x271000 x271001 x271002 x271003 x271004 x272000 x272001 x272002 x272003 x272004 x295000 x295001 x295002 x295003 x295004 x317000 x317001 x317002 x317003 x317004) else ((laws_eqWal.f k x317000 x317001 x317002 x317003 x317004 x295000 x295001 x295002 x295003 x295004).bind fun t328 => (if t328 = true then (laws_FnExactWalStep.j1 k x7 (x10 != x7) x271000 x271001 x271002 x271003 x271004 x272000 x272001 x272002 x272003 x272004 x295000 x295001 x295002 x295003 x295004 x317000 x317001 x317002 x317003 x317004) else (laws_FnExactWalStep.j1 k x7 true x271000 x271001 x271002 x271003 x271004 x272000 x272001 x272002 x272003 x272004 x295000 x295001 x295002 x295003 x295004 x317000 x317001 x317002 x317003 x317004))))) else (none))))
def laws_FnExactWalStep.j1 : Nat → Bool → Bool → Int → Int → Int → Int → List (S148) → Int → Int → Int → Int → ByteArray → Int → Int → Int → Int → List (S125) → Int → Int → Int → Int → List (S125) → Option (Bool)
 | 0, _, _, _, _, _, _, _, _, _, _, _, _, _, _, _, _, _, _, _, _, _, _ => none
 | k + 1, x7, x72, x271000, x271001, x271002, x271003, x271004, x272000, x272001, x272002, x272003, x272004, x295000, x295001, x295002, x295003, x295004, x317000, x317001, x317002, x317003, x317004 => if x72 = true then (none) else ((laws_markWal.f k x317000 x317001 x317002 x317003 x317004 1).bind fun bt329 => ((laws_heldWal.f k x317000 x317001 x317002 x317003 bt329.2 1).bind fun t331 => (if t331 < 0 then (none) else (if t331 = bt329.1 then ((laws_toWal.f k x271000 x271001 x271002 x271003 x271004).bind fun bt332 => ((laws_toRec.f x272000 x272001 x272002 x272003 x272004).bind fun bt339 => ((impl_WalStep.f k bt332.1 bt332.2.1 bt332.2.2.1 bt332.2.2.2.1 bt332.2.2.2.2 bt339.1 bt339.2.1 bt339.2.2.1 bt339.2.2.2.1 bt339.2.2.2.2).bind fun bt344 => ((laws_eqWal.f k bt344.1 bt344.2.1 bt344.2.2.1 bt344.2.2.2.1 bt344.2.2.2.2.1 x295000 x295001 x295002 x295003 x295004).bind fun t353 => (if t353 = true then (laws_FnExactWalStep.j2 k bt329.1 (bt344.2.2.2.2.2 != x7) x317000 x317001 x317002 x317003 bt329.2) else (laws_FnExactWalStep.j2 k bt329.1 true x317000 x317001 x317002 x317003 bt329.2)))))) else (none)))))
def laws_FnExactWalStep.j2 : Nat → Int → Bool → Int → Int → Int → Int → List (S125) → Option (Bool)
 | 0, _, _, _, _, _, _, _ => none
 | k + 1, x12, x100, x317000, x317001, x317002, x317003, x317004 => if x100 = true then (none) else ((laws_heldWal.f k x317000 x317001 x317002 x317003 x317004 1).bind fun t354 => (if t354 < 0 then (none) else (if t354 = x12 then (some true) else (none))))
end
def laws_FnExactWalStep.f (k : Nat) (a0_0 : Int) (a0_1 : Int) (a0_2 : Int) (a0_3 : Int) (l0_4 : List (S148)) (a1_0 : Int) (a1_1 : Int) (a1_2 : Int) (a1_3 : Int) (a1_4 : ByteArray) : Option (Bool) := (laws_szWal.f k a0_0 a0_1 a0_2 a0_3 l0_4 1048576).bind fun t272 => (if t272 < 0 then (some true) else ((laws_szRec.f a1_0 a1_1 a1_2 a1_3 a1_4 t272).bind fun t273 => (if t273 < 0 then (some true) else ((laws_toWal.f k a0_0 a0_1 a0_2 a0_3 l0_4).bind fun bt274 => ((laws_toRec.f a1_0 a1_1 a1_2 a1_3 a1_4).bind fun bt281 => ((spec_WalStep.f k bt274.1 bt274.2.1 bt274.2.2.1 bt274.2.2.2.1 bt274.2.2.2.2 bt281.1 bt281.2.1 bt281.2.2.1 bt281.2.2.2.1 bt281.2.2.2.2).bind fun bt286 => ((laws_toWal.f k a0_0 a0_1 a0_2 a0_3 l0_4).bind fun bt295 => ((laws_toRec.f a1_0 a1_1 a1_2 a1_3 a1_4).bind fun bt303 => ((impl_WalStep.f k bt295.1 bt295.2.1 bt295.2.2.1 bt295.2.2.2.1 bt295.2.2.2.2 bt303.1 bt303.2.1 bt303.2.2.1 bt303.2.2.2.1 bt303.2.2.2.2).bind fun bt308 => ((laws_eqWal.f k bt308.1 bt308.2.1 bt308.2.2.1 bt308.2.2.2.1 bt308.2.2.2.2.1 bt286.1 bt286.2.1 bt286.2.2.1 bt286.2.2.2.1 bt286.2.2.2.2.1).bind fun t317 => (if t317 = true then (laws_FnExactWalStep.j0 k bt286.2.2.2.2.2 bt308.2.2.2.2.2 (bt308.2.2.2.2.2 != bt286.2.2.2.2.2) a0_0 a0_1 a0_2 a0_3 l0_4 a1_0 a1_1 a1_2 a1_3 a1_4 bt286.1 bt286.2.1 bt286.2.2.1 bt286.2.2.2.1 bt286.2.2.2.2.1 bt295.1 bt295.2.1 bt295.2.2.1 bt295.2.2.2.1 bt295.2.2.2.2 bt308.1 bt308.2.1 bt308.2.2.1 bt308.2.2.2.1 bt308.2.2.2.2.1) else (laws_FnExactWalStep.j0 k bt286.2.2.2.2.2 bt308.2.2.2.2.2 true a0_0 a0_1 a0_2 a0_3 l0_4 a1_0 a1_1 a1_2 a1_3 a1_4 bt286.1 bt286.2.1 bt286.2.2.1 bt286.2.2.2.1 bt286.2.2.2.2.1 bt295.1 bt295.2.1 bt295.2.2.1 bt295.2.2.2.1 bt295.2.2.2.2 bt308.1 bt308.2.1 bt308.2.2.1 bt308.2.2.2.1 bt308.2.2.2.2.1))))))))))))
theorem laws_FnExactWalStep.mono_l : ∀ k, (∀ y0 y1 y2 y3 y4 y5 y6 y7 y8 y9 y10 y11 y12 y13 y14 y15 y16 y17 y18 y19 y20 y21 y22 y23 y24 y25 y26 y27, LeO (laws_FnExactWalStep.j0 k y0 y1 y2 y3 y4 y5 y6 y7 y8 y9 y10 y11 y12 y13 y14 y15 y16 y17 y18 y19 y20 y21 y22 y23 y24 y25 y26 y27) (laws_FnExactWalStep.j0 (k + 1) y0 y1 y2 y3 y4 y5 y6 y7 y8 y9 y10 y11 y12 y13 y14 y15 y16 y17 y18 y19 y20 y21 y22 y23 y24 y25 y26 y27)) ∧ (∀ y0 y1 y2 y3 y4 y5 y6 y7 y8 y9 y10 y11 y12 y13 y14 y15 y16 y17 y18 y19 y20 y21, LeO (laws_FnExactWalStep.j1 k y0 y1 y2 y3 y4 y5 y6 y7 y8 y9 y10 y11 y12 y13 y14 y15 y16 y17 y18 y19 y20 y21) (laws_FnExactWalStep.j1 (k + 1) y0 y1 y2 y3 y4 y5 y6 y7 y8 y9 y10 y11 y12 y13 y14 y15 y16 y17 y18 y19 y20 y21)) ∧ (∀ y0 y1 y2 y3 y4 y5 y6, LeO (laws_FnExactWalStep.j2 k y0 y1 y2 y3 y4 y5 y6) (laws_FnExactWalStep.j2 (k + 1) y0 y1 y2 y3 y4 y5 y6))
 | 0 => ⟨fun _ _ _ _ _ _ _ _ _ _ _ _ _ _ _ _ _ _ _ _ _ _ _ _ _ _ _ _ r h => by simp [laws_FnExactWalStep.j0] at h, fun _ _ _ _ _ _ _ _ _ _ _ _ _ _ _ _ _ _ _ _ _ _ r h => by simp [laws_FnExactWalStep.j1] at h, fun _ _ _ _ _ _ _ r h => by simp [laws_FnExactWalStep.j2] at h⟩
 | k + 1 => by
  obtain ⟨ih0, ih1, ih2⟩ := laws_FnExactWalStep.mono_l k
  refine ⟨?_, ?_, ?_⟩
  ·intro y0 y1 y2 y3 y4 y5 y6 y7 y8 y9 y10 y11 y12 y13 y14 y15 y16 y17 y18 y19 y20 y21 y22 y23 y24 y25 y26 y27
   unfold laws_FnExactWalStep.j0
   repeat' first
   | (with_reducible exact ih0 _ _ _ _ _ _ _ _ _ _ _ _ _ _ _ _ _ _ _ _ _ _ _ _ _ _ _ _)
   | (with_reducible exact ih1 _ _ _ _ _ _ _ _ _ _ _ _ _ _ _ _ _ _ _ _ _ _)
   | (with_reducible exact ih2 _ _ _ _ _ _ _)
   | (with_reducible exact impl_WalStep.mono _ _ _ _ _ _ _ _ _ _ _)
   | (with_reducible exact laws_eqWal.mono _ _ _ _ _ _ _ _ _ _ _)
   | (with_reducible exact laws_heldWal.mono _ _ _ _ _ _ _)
   | (with_reducible exact laws_markWal.mono _ _ _ _ _ _ _)
   | (with_reducible exact laws_szWal.mono _ _ _ _ _ _ _)
   | (with_reducible exact laws_toWal.mono _ _ _ _ _ _)
   | (with_reducible exact spec_WalStep.mono _ _ _ _ _ _ _ _ _ _ _)
   | (with_reducible exact LeO.refl _)
   | (with_reducible exact LeO.none _)
   | (with_reducible refine LeO.ite ?_ ?_)
   | (with_reducible refine LeO.bind ?_ (fun _ => ?_))
   | exact ih0 _ _ _ _ _ _ _ _ _ _ _ _ _ _ _ _ _ _ _ _ _ _ _ _ _ _ _ _
   | exact ih1 _ _ _ _ _ _ _ _ _ _ _ _ _ _ _ _ _ _ _ _ _ _
   | exact ih2 _ _ _ _ _ _ _
   | exact impl_WalStep.mono _ _ _ _ _ _ _ _ _ _ _
   | exact laws_eqWal.mono _ _ _ _ _ _ _ _ _ _ _
   | exact laws_heldWal.mono _ _ _ _ _ _ _
   | exact laws_markWal.mono _ _ _ _ _ _ _
   | exact laws_szWal.mono _ _ _ _ _ _ _
   | exact laws_toWal.mono _ _ _ _ _ _
   | exact spec_WalStep.mono _ _ _ _ _ _ _ _ _ _ _
   | exact LeO.none _
   | refine LeO.ite ?_ ?_
   | refine LeO.bind ?_ (fun _ => ?_)
  ·intro y0 y1 y2 y3 y4 y5 y6 y7 y8 y9 y10 y11 y12 y13 y14 y15 y16 y17 y18 y19 y20 y21
   unfold laws_FnExactWalStep.j1
   repeat' first
   | (with_reducible exact ih0 _ _ _ _ _ _ _ _ _ _ _ _ _ _ _ _ _ _ _ _ _ _ _ _ _ _ _ _)
   | (with_reducible exact ih1 _ _ _ _ _ _ _ _ _ _ _ _ _ _ _ _ _ _ _ _ _ _)
   | (with_reducible exact ih2 _ _ _ _ _ _ _)
   | (with_reducible exact impl_WalStep.mono _ _ _ _ _ _ _ _ _ _ _)
   | (with_reducible exact laws_eqWal.mono _ _ _ _ _ _ _ _ _ _ _)
   | (with_reducible exact laws_heldWal.mono _ _ _ _ _ _ _)
   | (with_reducible exact laws_markWal.mono _ _ _ _ _ _ _)
   | (with_reducible exact laws_szWal.mono _ _ _ _ _ _ _)
   | (with_reducible exact laws_toWal.mono _ _ _ _ _ _)
   | (with_reducible exact spec_WalStep.mono _ _ _ _ _ _ _ _ _ _ _)
   | (with_reducible exact LeO.refl _)
   | (with_reducible exact LeO.none _)
   | (with_reducible refine LeO.ite ?_ ?_)
   | (with_reducible refine LeO.bind ?_ (fun _ => ?_))
   | exact ih0 _ _ _ _ _ _ _ _ _ _ _ _ _ _ _ _ _ _ _ _ _ _ _ _ _ _ _ _
   | exact ih1 _ _ _ _ _ _ _ _ _ _ _ _ _ _ _ _ _ _ _ _ _ _
   | exact ih2 _ _ _ _ _ _ _
   | exact impl_WalStep.mono _ _ _ _ _ _ _ _ _ _ _
   | exact laws_eqWal.mono _ _ _ _ _ _ _ _ _ _ _
   | exact laws_heldWal.mono _ _ _ _ _ _ _
   | exact laws_markWal.mono _ _ _ _ _ _ _
   | exact laws_szWal.mono _ _ _ _ _ _ _
   | exact laws_toWal.mono _ _ _ _ _ _
   | exact spec_WalStep.mono _ _ _ _ _ _ _ _ _ _ _
   | exact LeO.none _
   | refine LeO.ite ?_ ?_
   | refine LeO.bind ?_ (fun _ => ?_)
  ·intro y0 y1 y2 y3 y4 y5 y6
   unfold laws_FnExactWalStep.j2
   repeat' first
   | (with_reducible exact ih0 _ _ _ _ _ _ _ _ _ _ _ _ _ _ _ _ _ _ _ _ _ _ _ _ _ _ _ _)
   | (with_reducible exact ih1 _ _ _ _ _ _ _ _ _ _ _ _ _ _ _ _ _ _ _ _ _ _)
   | (with_reducible exact ih2 _ _ _ _ _ _ _)
   | (with_reducible exact impl_WalStep.mono _ _ _ _ _ _ _ _ _ _ _)
   | (with_reducible exact laws_eqWal.mono _ _ _ _ _ _ _ _ _ _ _)
   | (with_reducible exact laws_heldWal.mono _ _ _ _ _ _ _)
   | (with_reducible exact laws_markWal.mono _ _ _ _ _ _ _)
   | (with_reducible exact laws_szWal.mono _ _ _ _ _ _ _)
   | (with_reducible exact laws_toWal.mono _ _ _ _ _ _)
   | (with_reducible exact spec_WalStep.mono _ _ _ _ _ _ _ _ _ _ _)
   | (with_reducible exact LeO.refl _)
   | (with_reducible exact LeO.none _)
   | (with_reducible refine LeO.ite ?_ ?_)
   | (with_reducible refine LeO.bind ?_ (fun _ => ?_))
   | exact ih0 _ _ _ _ _ _ _ _ _ _ _ _ _ _ _ _ _ _ _ _ _ _ _ _ _ _ _ _
   | exact ih1 _ _ _ _ _ _ _ _ _ _ _ _ _ _ _ _ _ _ _ _ _ _
   | exact ih2 _ _ _ _ _ _ _
   | exact impl_WalStep.mono _ _ _ _ _ _ _ _ _ _ _
   | exact laws_eqWal.mono _ _ _ _ _ _ _ _ _ _ _
   | exact laws_heldWal.mono _ _ _ _ _ _ _
   | exact laws_markWal.mono _ _ _ _ _ _ _
   | exact laws_szWal.mono _ _ _ _ _ _ _
   | exact laws_toWal.mono _ _ _ _ _ _
   | exact spec_WalStep.mono _ _ _ _ _ _ _ _ _ _ _
   | exact LeO.none _
   | refine LeO.ite ?_ ?_
   | refine LeO.bind ?_ (fun _ => ?_)
theorem laws_FnExactWalStep.mono : ∀ a0 a1 a2 a3 a4 a5 a6 a7 a8 a9 k, LeO (laws_FnExactWalStep.f k a0 a1 a2 a3 a4 a5 a6 a7 a8 a9) (laws_FnExactWalStep.f (k + 1) a0 a1 a2 a3 a4 a5 a6 a7 a8 a9) := by
 intro a0 a1 a2 a3 a4 a5 a6 a7 a8 a9 k
 obtain ⟨ih0, ih1, ih2⟩ := laws_FnExactWalStep.mono_l k
 unfold laws_FnExactWalStep.f
 repeat' first
   | (with_reducible exact ih0 _ _ _ _ _ _ _ _ _ _ _ _ _ _ _ _ _ _ _ _ _ _ _ _ _ _ _ _)
   | (with_reducible exact ih1 _ _ _ _ _ _ _ _ _ _ _ _ _ _ _ _ _ _ _ _ _ _)
   | (with_reducible exact ih2 _ _ _ _ _ _ _)
   | (with_reducible exact impl_WalStep.mono _ _ _ _ _ _ _ _ _ _ _)
   | (with_reducible exact laws_eqWal.mono _ _ _ _ _ _ _ _ _ _ _)
   | (with_reducible exact laws_heldWal.mono _ _ _ _ _ _ _)
   | (with_reducible exact laws_markWal.mono _ _ _ _ _ _ _)
   | (with_reducible exact laws_szWal.mono _ _ _ _ _ _ _)
   | (with_reducible exact laws_toWal.mono _ _ _ _ _ _)
   | (with_reducible exact spec_WalStep.mono _ _ _ _ _ _ _ _ _ _ _)
   | (with_reducible exact LeO.refl _)
   | (with_reducible exact LeO.none _)
   | (with_reducible refine LeO.ite ?_ ?_)
   | (with_reducible refine LeO.bind ?_ (fun _ => ?_))
   | exact ih0 _ _ _ _ _ _ _ _ _ _ _ _ _ _ _ _ _ _ _ _ _ _ _ _ _ _ _ _
   | exact ih1 _ _ _ _ _ _ _ _ _ _ _ _ _ _ _ _ _ _ _ _ _ _
   | exact ih2 _ _ _ _ _ _ _
   | exact impl_WalStep.mono _ _ _ _ _ _ _ _ _ _ _
   | exact laws_eqWal.mono _ _ _ _ _ _ _ _ _ _ _
   | exact laws_heldWal.mono _ _ _ _ _ _ _
   | exact laws_markWal.mono _ _ _ _ _ _ _
   | exact laws_szWal.mono _ _ _ _ _ _ _
   | exact laws_toWal.mono _ _ _ _ _ _
   | exact spec_WalStep.mono _ _ _ _ _ _ _ _ _ _ _
   | exact LeO.none _
   | refine LeO.ite ?_ ?_
   | refine LeO.bind ?_ (fun _ => ?_)
def laws_FnExactWalStep.T8 : Bool × List (List Nat × List Nat) := (true, [([], []), ([0], [0]), ([], []), ([2, 1], [2]), ([1, 3, 3], [1, 3]), ([4], [4]), ([5], [5]), ([5], [5]), ([], []), ([8, 6, 4, 0, 1, 2, 3, 4, 5, 6, 8], [6, 8]), ([7, 9, 0, 1, 2, 3, 4, 5, 6, 7, 8, 9], [7])])
def laws_FnExactWalStep.B8 : List Nat := [0, 1, 0, 7, 15, 31, 63, 63, 0, 383, 1023]
theorem laws_FnExactWalStep.tab8 : rtab .any (opsOf Try.f8 8) = laws_FnExactWalStep.T8 := by kernel_rfl
theorem laws_FnExactWalStep.bits8 : waitsOk laws_FnExactWalStep.T8.2 laws_FnExactWalStep.B8 = true := by kernel_rfl
def laws_FnExactWalStep.T10 : Bool × List (List Nat × List Nat) := (true, [([], []), ([], []), ([1], [1]), ([0, 2, 2], [0, 2]), ([3], [3]), ([4], [4]), ([4], [4]), ([], []), ([7, 5, 3, 0, 1, 2, 3, 4, 5, 7], [5, 7]), ([6, 8, 0, 1, 2, 3, 4, 5, 6, 7, 8], [6])])
def laws_FnExactWalStep.B10 : List Nat := [0, 0, 2, 7, 15, 31, 31, 0, 191, 511]
theorem laws_FnExactWalStep.tab10 : rtab .any (opsOf Try.f8 10) = laws_FnExactWalStep.T10 := by kernel_rfl
theorem laws_FnExactWalStep.bits10 : waitsOk laws_FnExactWalStep.T10.2 laws_FnExactWalStep.B10 = true := by kernel_rfl
def laws_FnExactWalStep.T27 : Bool × List (List Nat × List Nat) := (true, [([], []), ([0], [0]), ([], []), ([2, 1], [2]), ([1, 3, 3], [1, 3]), ([4], [4]), ([5], [5]), ([5], [5]), ([], []), ([8, 6, 4, 0, 1, 2, 3, 4, 5, 6, 8], [6, 8]), ([7, 9, 0, 1, 2, 3, 4, 5, 6, 7, 8, 9], [7])])
def laws_FnExactWalStep.B27 : List Nat := [0, 1, 0, 7, 15, 31, 63, 63, 0, 383, 1023]
theorem laws_FnExactWalStep.tab27 : rtab .any (opsOf Try.f8 27) = laws_FnExactWalStep.T27 := by kernel_rfl
theorem laws_FnExactWalStep.bits27 : waitsOk laws_FnExactWalStep.T27.2 laws_FnExactWalStep.B27 = true := by kernel_rfl
set_option maxHeartbeats 8000000 in
set_option maxRecDepth 100000 in
theorem laws_FnExactWalStep.calls (k : Nat) (a0_0 : Int) (a0_1 : Int) (a0_2 : Int) (a0_3 : Int) (A0_4 : Option Addr) (c0_4 : Nat) (l0_4 : List (S148)) (a1_0 : Int) (a1_1 : Int) (a1_2 : Int) (a1_3 : Int) (a1_4 : ByteArray) (r : Bool) (w : World) (hr0_4 : Kd.C k148 w A0_4 l0_4.length l0_4) (hc0_4 : l0_4.length ≤ c0_4) (h : laws_FnExactWalStep.f k a0_0 a0_1 a0_2 a0_3 l0_4 a1_0 a1_1 a1_2 a1_3 a1_4 = some r) :
  Calls Try.prog 8 #[.agg #[.int .i64 a0_0, .int .i64 a0_1, .int .i64 a0_2, .int .i64 a0_3, .slice A0_4 l0_4.length c0_4], .agg #[.int .i64 a1_0, .int .i64 a1_1, .int .i64 a1_2, .int .i64 a1_3, .string a1_4]] w fun e w' => e = .returned (.bool r) ∧ Below w.heap.size w w' := by
 have hu56 := Try.underlying56
 have hu57 := Try.underlying57
 have hu62 := Try.underlying62
 have HR0_4 := Aside0.mk hr0_4
 have HC0_4 := Aside0.mk hc0_4
 clear hr0_4 hc0_4; have HB := Aside0.mk (Below.refl w.heap.size w)
 have H : ((laws_szWal.f k a0_0 a0_1 a0_2 a0_3 l0_4 1048576).bind fun t272 => (if t272 < 0 then (some true) else ((laws_szRec.f a1_0 a1_1 a1_2 a1_3 a1_4 t272).bind fun t273 => (if t273 < 0 then (some true) else ((laws_toWal.f k a0_0 a0_1 a0_2 a0_3 l0_4).bind fun bt274 => ((laws_toRec.f a1_0 a1_1 a1_2 a1_3 a1_4).bind fun bt281 => ((spec_WalStep.f k bt274.1 bt274.2.1 bt274.2.2.1 bt274.2.2.2.1 bt274.2.2.2.2 bt281.1 bt281.2.1 bt281.2.2.1 bt281.2.2.2.1 bt281.2.2.2.2).bind fun bt286 => ((laws_toWal.f k a0_0 a0_1 a0_2 a0_3 l0_4).bind fun bt295 => ((laws_toRec.f a1_0 a1_1 a1_2 a1_3 a1_4).bind fun bt303 => ((impl_WalStep.f k bt295.1 bt295.2.1 bt295.2.2.1 bt295.2.2.2.1 bt295.2.2.2.2 bt303.1 bt303.2.1 bt303.2.2.1 bt303.2.2.2.1 bt303.2.2.2.2).bind fun bt308 => ((laws_eqWal.f k bt308.1 bt308.2.1 bt308.2.2.1 bt308.2.2.2.1 bt308.2.2.2.2.1 bt286.1 bt286.2.1 bt286.2.2.1 bt286.2.2.2.1 bt286.2.2.2.2.1).bind fun t317 => (if t317 = true then (laws_FnExactWalStep.j0 k bt286.2.2.2.2.2 bt308.2.2.2.2.2 (bt308.2.2.2.2.2 != bt286.2.2.2.2.2) a0_0 a0_1 a0_2 a0_3 l0_4 a1_0 a1_1 a1_2 a1_3 a1_4 bt286.1 bt286.2.1 bt286.2.2.1 bt286.2.2.2.1 bt286.2.2.2.2.1 bt295.1 bt295.2.1 bt295.2.2.1 bt295.2.2.2.1 bt295.2.2.2.2 bt308.1 bt308.2.1 bt308.2.2.1 bt308.2.2.2.1 bt308.2.2.2.2.1) else (laws_FnExactWalStep.j0 k bt286.2.2.2.2.2 bt308.2.2.2.2.2 true a0_0 a0_1 a0_2 a0_3 l0_4 a1_0 a1_1 a1_2 a1_3 a1_4 bt286.1 bt286.2.1 bt286.2.2.1 bt286.2.2.2.1 bt286.2.2.2.2.1 bt295.1 bt295.2.1 bt295.2.2.1 bt295.2.2.2.1 bt295.2.2.2.2 bt308.1 bt308.2.1 bt308.2.2.1 bt308.2.2.2.1 bt308.2.2.2.2.1))))))))))))) = some r := h
 clear h; replace H := Option.bind_eq_some_iff.mp H
 obtain ⟨t272, A30, H⟩ := H
 replace H : (if t272 < 0 then (some true) else ((laws_szRec.f a1_0 a1_1 a1_2 a1_3 a1_4 t272).bind fun t273 => (if t273 < 0 then (some true) else ((laws_toWal.f k a0_0 a0_1 a0_2 a0_3 l0_4).bind fun bt274 => ((laws_toRec.f a1_0 a1_1 a1_2 a1_3 a1_4).bind fun bt281 => ((spec_WalStep.f k bt274.1 bt274.2.1 bt274.2.2.1 bt274.2.2.2.1 bt274.2.2.2.2 bt281.1 bt281.2.1 bt281.2.2.1 bt281.2.2.2.1 bt281.2.2.2.2).bind fun bt286 => ((laws_toWal.f k a0_0 a0_1 a0_2 a0_3 l0_4).bind fun bt295 => ((laws_toRec.f a1_0 a1_1 a1_2 a1_3 a1_4).bind fun bt303 => ((impl_WalStep.f k bt295.1 bt295.2.1 bt295.2.2.1 bt295.2.2.2.1 bt295.2.2.2.2 bt303.1 bt303.2.1 bt303.2.2.1 bt303.2.2.2.1 bt303.2.2.2.2).bind fun bt308 => ((laws_eqWal.f k bt308.1 bt308.2.1 bt308.2.2.1 bt308.2.2.2.1 bt308.2.2.2.2.1 bt286.1 bt286.2.1 bt286.2.2.1 bt286.2.2.2.1 bt286.2.2.2.2.1).bind fun t317 => (if t317 = true then (laws_FnExactWalStep.j0 k bt286.2.2.2.2.2 bt308.2.2.2.2.2 (bt308.2.2.2.2.2 != bt286.2.2.2.2.2) a0_0 a0_1 a0_2 a0_3 l0_4 a1_0 a1_1 a1_2 a1_3 a1_4 bt286.1 bt286.2.1 bt286.2.2.1 bt286.2.2.2.1 bt286.2.2.2.2.1 bt295.1 bt295.2.1 bt295.2.2.1 bt295.2.2.2.1 bt295.2.2.2.2 bt308.1 bt308.2.1 bt308.2.2.1 bt308.2.2.2.1 bt308.2.2.2.2.1) else (laws_FnExactWalStep.j0 k bt286.2.2.2.2.2 bt308.2.2.2.2.2 true a0_0 a0_1 a0_2 a0_3 l0_4 a1_0 a1_1 a1_2 a1_3 a1_4 bt286.1 bt286.2.1 bt286.2.2.1 bt286.2.2.2.1 bt286.2.2.2.2.1 bt295.1 bt295.2.1 bt295.2.2.1 bt295.2.2.2.1 bt295.2.2.2.2 bt308.1 bt308.2.1 bt308.2.2.1 bt308.2.2.2.1 bt308.2.2.2.2.1)))))))))))) = some r := H
 have A3 := Aside0.mk A30
 clear A30
 by_cases c4 : t272 < 0
 ·rw [if_pos c4] at H
  have c4b0 : decide (t272 < 0) = true := decide_eq_true c4
  clear c4; obtain rfl := Option.some.inj H
  go_enter Try.func8, Try.ntmps8
  go_wp2_with (first | ((with_reducible refine gate_dst (N := 2) rfl ?_); refine box_event ?hg (N := 2) ?hd (cs := #[.int .i64 a0_0, .int .i64 a0_1, .int .i64 a0_2, .int .i64 a0_3, .slice A0_4 l0_4.length c0_4]) (t := 56) ?hr ?_; (case hd => rfl); (case hg => rfl); (case hr => first | (go_simp; done) | (go_simp; rfl)); intro gb270 hg w5 hbox hb; have n0_ := Aside0.mk (below_step (be HB) hb); have BK270 := Aside0.mk (hbox); have GW270 := bs HB hg; have GE270 := bs HB hg; clear HB; have HB := n0_; clear n0_; clear hb hbox hg) | ((with_reducible refine gate_dst (N := 3) rfl ?_); refine box_event ?hg (N := 3) ?hd (cs := #[.int .i64 a1_0, .int .i64 a1_1, .int .i64 a1_2, .int .i64 a1_3, .string a1_4]) (t := 57) ?hr ?_; (case hd => rfl); (case hg => rfl); (case hr => first | (go_simp; done) | (go_simp; rfl)); intro gb271 hg w6 hbox hb; have n1_ := Aside0.mk (below_step (be HB) hb); have BK271 := Aside0.mk (hbox); have GW271 := bs HB hg; have GE271 := bs HB hg; have NB270_271 := bl BK270 hg; have NB271_270 := bg BK270 hg; replace BK270 := bq BK270 hb; clear HB; have HB := n1_; clear n1_; clear hb hbox hg; have hnb7 := NB270_271.out; have hnc7 := NB271_270.out; obtain ⟨hcz8_0, hcz8_1, hcz8_2, hcz8_3, hcz8_4⟩ := cs5 BK270; obtain ⟨hfz8_0, hfz8_1, hfz8_2, hfz8_3, hfz8_4⟩ := fs5 BK270) | ((with_reducible refine gate_callee (f := 35) rfl ?_); refine goesL_ (some 18) rfl rfl Try.func35 (by kernel_rfl) rfl #[.agg #[.int .i64 a0_0, .int .i64 a0_1, .int .i64 a0_2, .int .i64 a0_3, .slice A0_4 l0_4.length c0_4], .int .i64 1048576] rfl (by (try simp only [List.map_toArray, List.map_cons, List.map_nil]); first | done | rfl | (simp only [List.length_drop, List.length_take]; rfl)) ?_; (with_reducible refine (laws_szWal.calls k a0_0 a0_1 a0_2 a0_3 _ _ l0_4 1048576 t272 _ ?side1 ?side2 A3.out).mono ?_); (case side1 => repeat (first | exact (Kd.C_below HR0_4.out HB.out) | (with_reducible refine Kd.C_alloc ?_ _) | (with_reducible refine Kd.C_drewN ?_ _) | (with_reducible refine Kd.C_drew ?_))); (case side2 => exact HC0_4.out); rintro e w9 ⟨rfl, hb⟩; refine ⟨_, rfl, ?_⟩; have n2_ := Aside0.mk (below_step (be HB) hb); replace BK270 := bq BK270 hb; replace BK271 := bq BK271 hb; clear HB; have HB := n2_; clear n2_; (try clear hb); (try clear hb2); (try clear hk); (try clear hi)))
  go_ret
  exact ⟨by first | rfl | (simp [errW_none, errW_some] <;> rfl) | (simp [*, errW_none, errW_some] <;> rfl), by repeat (first | (with_reducible first | exact HB.out | apply below_alloc | apply pw_below_drewN | apply below_drew1 | refine below_set ?_ GE270.out | refine below_set ?_ GE271.out) | exact HB.out)⟩
 ·rw [if_neg c4] at H
  have c4b0 : decide (t272 < 0) = false := decide_eq_false c4
  clear c4; replace H := Option.bind_eq_some_iff.mp H
  obtain ⟨t273, A100, H⟩ := H
  replace H : (if t273 < 0 then (some true) else ((laws_toWal.f k a0_0 a0_1 a0_2 a0_3 l0_4).bind fun bt274 => ((laws_toRec.f a1_0 a1_1 a1_2 a1_3 a1_4).bind fun bt281 => ((spec_WalStep.f k bt274.1 bt274.2.1 bt274.2.2.1 bt274.2.2.2.1 bt274.2.2.2.2 bt281.1 bt281.2.1 bt281.2.2.1 bt281.2.2.2.1 bt281.2.2.2.2).bind fun bt286 => ((laws_toWal.f k a0_0 a0_1 a0_2 a0_3 l0_4).bind fun bt295 => ((laws_toRec.f a1_0 a1_1 a1_2 a1_3 a1_4).bind fun bt303 => ((impl_WalStep.f k bt295.1 bt295.2.1 bt295.2.2.1 bt295.2.2.2.1 bt295.2.2.2.2 bt303.1 bt303.2.1 bt303.2.2.1 bt303.2.2.2.1 bt303.2.2.2.2).bind fun bt308 => ((laws_eqWal.f k bt308.1 bt308.2.1 bt308.2.2.1 bt308.2.2.2.1 bt308.2.2.2.2.1 bt286.1 bt286.2.1 bt286.2.2.1 bt286.2.2.2.1 bt286.2.2.2.2.1).bind fun t317 => (if t317 = true then (laws_FnExactWalStep.j0 k bt286.2.2.2.2.2 bt308.2.2.2.2.2 (bt308.2.2.2.2.2 != bt286.2.2.2.2.2) a0_0 a0_1 a0_2 a0_3 l0_4 a1_0 a1_1 a1_2 a1_3 a1_4 bt286.1 bt286.2.1 bt286.2.2.1 bt286.2.2.2.1 bt286.2.2.2.2.1 bt295.1 bt295.2.1 bt295.2.2.1 bt295.2.2.2.1 bt295.2.2.2.2 bt308.1 bt308.2.1 bt308.2.2.1 bt308.2.2.2.1 bt308.2.2.2.2.1) else (laws_FnExactWalStep.j0 k bt286.2.2.2.2.2 bt308.2.2.2.2.2 true a0_0 a0_1 a0_2 a0_3 l0_4 a1_0 a1_1 a1_2 a1_3 a1_4 bt286.1 bt286.2.1 bt286.2.2.1 bt286.2.2.2.1 bt286.2.2.2.2.1 bt295.1 bt295.2.1 bt295.2.2.1 bt295.2.2.2.1 bt295.2.2.2.2 bt308.1 bt308.2.1 bt308.2.2.1 bt308.2.2.2.1 bt308.2.2.2.2.1)))))))))) = some r := H
  have A10 := Aside0.mk A100
  clear A100
  by_cases c11 : t273 < 0
  ·rw [if_pos c11] at H
   have c11b0 : decide (t273 < 0) = true := decide_eq_true c11
   clear c11; obtain rfl := Option.some.inj H
   go_enter Try.func8, Try.ntmps8
   go_wp2_with (first | ((with_reducible refine gate_dst (N := 2) rfl ?_); refine box_event ?hg (N := 2) ?hd (cs := #[.int .i64 a0_0, .int .i64 a0_1, .int .i64 a0_2, .int .i64 a0_3, .slice A0_4 l0_4.length c0_4]) (t := 56) ?hr ?_; (case hd => rfl); (case hg => rfl); (case hr => first | (go_simp; done) | (go_simp; rfl)); intro gb270 hg w12 hbox hb; have n0_ := Aside0.mk (below_step (be HB) hb); have BK270 := Aside0.mk (hbox); have GW270 := bs HB hg; have GE270 := bs HB hg; clear HB; have HB := n0_; clear n0_; clear hb hbox hg) | ((with_reducible refine gate_dst (N := 3) rfl ?_); refine box_event ?hg (N := 3) ?hd (cs := #[.int .i64 a1_0, .int .i64 a1_1, .int .i64 a1_2, .int .i64 a1_3, .string a1_4]) (t := 57) ?hr ?_; (case hd => rfl); (case hg => rfl); (case hr => first | (go_simp; done) | (go_simp; rfl)); intro gb271 hg w13 hbox hb; have n1_ := Aside0.mk (below_step (be HB) hb); have BK271 := Aside0.mk (hbox); have GW271 := bs HB hg; have GE271 := bs HB hg; have NB270_271 := bl BK270 hg; have NB271_270 := bg BK270 hg; replace BK270 := bq BK270 hb; clear HB; have HB := n1_; clear n1_; clear hb hbox hg; have hnb14 := NB270_271.out; have hnc14 := NB271_270.out; obtain ⟨hcz15_0, hcz15_1, hcz15_2, hcz15_3, hcz15_4⟩ := cs5 BK270; obtain ⟨hfz15_0, hfz15_1, hfz15_2, hfz15_3, hfz15_4⟩ := fs5 BK270) | ((with_reducible refine gate_callee (f := 35) rfl ?_); refine goesL_ (some 18) rfl rfl Try.func35 (by kernel_rfl) rfl #[.agg #[.int .i64 a0_0, .int .i64 a0_1, .int .i64 a0_2, .int .i64 a0_3, .slice A0_4 l0_4.length c0_4], .int .i64 1048576] rfl (by (try simp only [List.map_toArray, List.map_cons, List.map_nil]); first | done | rfl | (simp only [List.length_drop, List.length_take]; rfl)) ?_; (with_reducible refine (laws_szWal.calls k a0_0 a0_1 a0_2 a0_3 _ _ l0_4 1048576 t272 _ ?side1 ?side2 A3.out).mono ?_); (case side1 => repeat (first | exact (Kd.C_below HR0_4.out HB.out) | (with_reducible refine Kd.C_alloc ?_ _) | (with_reducible refine Kd.C_drewN ?_ _) | (with_reducible refine Kd.C_drew ?_))); (case side2 => exact HC0_4.out); rintro e w16 ⟨rfl, hb⟩; refine ⟨_, rfl, ?_⟩; have n2_ := Aside0.mk (below_step (be HB) hb); replace BK270 := bq BK270 hb; replace BK271 := bq BK271 hb; clear HB; have HB := n2_; clear n2_; (try clear hb); (try clear hb2); (try clear hk); (try clear hi); obtain ⟨hcz17_0, hcz17_1, hcz17_2, hcz17_3, hcz17_4⟩ := cs5 BK271; obtain ⟨hfz17_0, hfz17_1, hfz17_2, hfz17_3, hfz17_4⟩ := fs5 BK271) | ((with_reducible refine gate_callee (f := 36) rfl ?_); refine goesL_ (some 23) rfl rfl Try.func36 (by kernel_rfl) rfl #[.agg #[.int .i64 a1_0, .int .i64 a1_1, .int .i64 a1_2, .int .i64 a1_3, .string a1_4], .int .i64 t272] rfl (by (try simp only [List.map_toArray, List.map_cons, List.map_nil]); first | done | rfl | (simp only [List.length_drop, List.length_take]; rfl)) ?_; (with_reducible refine (laws_szRec.calls a1_0 a1_1 a1_2 a1_3 a1_4 t272 t273 _ A10.out).mono ?_); rintro e w18 ⟨rfl, hb⟩; refine ⟨_, rfl, ?_⟩; have n2_ := Aside0.mk (below_step (be HB) hb); replace BK270 := bq BK270 hb; replace BK271 := bq BK271 hb; clear HB; have HB := n2_; clear n2_; (try clear hb); (try clear hb2); (try clear hk); (try clear hi)))
   go_ret
   exact ⟨by first | rfl | (simp [errW_none, errW_some] <;> rfl) | (simp [*, errW_none, errW_some] <;> rfl), by repeat (first | (with_reducible first | exact HB.out | apply below_alloc | apply pw_below_drewN | apply below_drew1 | refine below_set ?_ GE270.out | refine below_set ?_ GE271.out) | exact HB.out)⟩
  ·rw [if_neg c11] at H
   have c11b0 : decide (t273 < 0) = false := decide_eq_false c11
   clear c11; replace H := Option.bind_eq_some_iff.mp H
   obtain ⟨⟨t274, t275, t276, t277, t278⟩, A190, H⟩ := H
   replace H : ((laws_toRec.f a1_0 a1_1 a1_2 a1_3 a1_4).bind fun bt281 => ((spec_WalStep.f k t274 t275 t276 t277 t278 bt281.1 bt281.2.1 bt281.2.2.1 bt281.2.2.2.1 bt281.2.2.2.2).bind fun bt286 => ((laws_toWal.f k a0_0 a0_1 a0_2 a0_3 l0_4).bind fun bt295 => ((laws_toRec.f a1_0 a1_1 a1_2 a1_3 a1_4).bind fun bt303 => ((impl_WalStep.f k bt295.1 bt295.2.1 bt295.2.2.1 bt295.2.2.2.1 bt295.2.2.2.2 bt303.1 bt303.2.1 bt303.2.2.1 bt303.2.2.2.1 bt303.2.2.2.2).bind fun bt308 => ((laws_eqWal.f k bt308.1 bt308.2.1 bt308.2.2.1 bt308.2.2.2.1 bt308.2.2.2.2.1 bt286.1 bt286.2.1 bt286.2.2.1 bt286.2.2.2.1 bt286.2.2.2.2.1).bind fun t317 => (if t317 = true then (laws_FnExactWalStep.j0 k bt286.2.2.2.2.2 bt308.2.2.2.2.2 (bt308.2.2.2.2.2 != bt286.2.2.2.2.2) a0_0 a0_1 a0_2 a0_3 l0_4 a1_0 a1_1 a1_2 a1_3 a1_4 bt286.1 bt286.2.1 bt286.2.2.1 bt286.2.2.2.1 bt286.2.2.2.2.1 bt295.1 bt295.2.1 bt295.2.2.1 bt295.2.2.2.1 bt295.2.2.2.2 bt308.1 bt308.2.1 bt308.2.2.1 bt308.2.2.2.1 bt308.2.2.2.2.1) else (laws_FnExactWalStep.j0 k bt286.2.2.2.2.2 bt308.2.2.2.2.2 true a0_0 a0_1 a0_2 a0_3 l0_4 a1_0 a1_1 a1_2 a1_3 a1_4 bt286.1 bt286.2.1 bt286.2.2.1 bt286.2.2.2.1 bt286.2.2.2.2.1 bt295.1 bt295.2.1 bt295.2.2.1 bt295.2.2.2.1 bt295.2.2.2.2 bt308.1 bt308.2.1 bt308.2.2.1 bt308.2.2.2.1 bt308.2.2.2.2.1)))))))) = some r := H
   have A19 := Aside0.mk A190
   clear A190; replace H := Option.bind_eq_some_iff.mp H
   obtain ⟨⟨t281, t282, t283, t284, t285⟩, A200, H⟩ := H
   replace H : ((spec_WalStep.f k t274 t275 t276 t277 t278 t281 t282 t283 t284 t285).bind fun bt286 => ((laws_toWal.f k a0_0 a0_1 a0_2 a0_3 l0_4).bind fun bt295 => ((laws_toRec.f a1_0 a1_1 a1_2 a1_3 a1_4).bind fun bt303 => ((impl_WalStep.f k bt295.1 bt295.2.1 bt295.2.2.1 bt295.2.2.2.1 bt295.2.2.2.2 bt303.1 bt303.2.1 bt303.2.2.1 bt303.2.2.2.1 bt303.2.2.2.2).bind fun bt308 => ((laws_eqWal.f k bt308.1 bt308.2.1 bt308.2.2.1 bt308.2.2.2.1 bt308.2.2.2.2.1 bt286.1 bt286.2.1 bt286.2.2.1 bt286.2.2.2.1 bt286.2.2.2.2.1).bind fun t317 => (if t317 = true then (laws_FnExactWalStep.j0 k bt286.2.2.2.2.2 bt308.2.2.2.2.2 (bt308.2.2.2.2.2 != bt286.2.2.2.2.2) a0_0 a0_1 a0_2 a0_3 l0_4 a1_0 a1_1 a1_2 a1_3 a1_4 bt286.1 bt286.2.1 bt286.2.2.1 bt286.2.2.2.1 bt286.2.2.2.2.1 bt295.1 bt295.2.1 bt295.2.2.1 bt295.2.2.2.1 bt295.2.2.2.2 bt308.1 bt308.2.1 bt308.2.2.1 bt308.2.2.2.1 bt308.2.2.2.2.1) else (laws_FnExactWalStep.j0 k bt286.2.2.2.2.2 bt308.2.2.2.2.2 true a0_0 a0_1 a0_2 a0_3 l0_4 a1_0 a1_1 a1_2 a1_3 a1_4 bt286.1 bt286.2.1 bt286.2.2.1 bt286.2.2.2.1 bt286.2.2.2.2.1 bt295.1 bt295.2.1 bt295.2.2.1 bt295.2.2.2.1 bt295.2.2.2.2 bt308.1 bt308.2.1 bt308.2.2.1 bt308.2.2.2.1 bt308.2.2.2.2.1))))))) = some r := H
   have A20 := Aside0.mk A200
   clear A200; replace H := Option.bind_eq_some_iff.mp H
   obtain ⟨⟨t286, t287, t288, t289, t290, t293⟩, A210, H⟩ := H
   replace H : ((laws_toWal.f k a0_0 a0_1 a0_2 a0_3 l0_4).bind fun bt295 => ((laws_toRec.f a1_0 a1_1 a1_2 a1_3 a1_4).bind fun bt303 => ((impl_WalStep.f k bt295.1 bt295.2.1 bt295.2.2.1 bt295.2.2.2.1 bt295.2.2.2.2 bt303.1 bt303.2.1 bt303.2.2.1 bt303.2.2.2.1 bt303.2.2.2.2).bind fun bt308 => ((laws_eqWal.f k bt308.1 bt308.2.1 bt308.2.2.1 bt308.2.2.2.1 bt308.2.2.2.2.1 t286 t287 t288 t289 t290).bind fun t317 => (if t317 = true then (laws_FnExactWalStep.j0 k t293 bt308.2.2.2.2.2 (bt308.2.2.2.2.2 != t293) a0_0 a0_1 a0_2 a0_3 l0_4 a1_0 a1_1 a1_2 a1_3 a1_4 t286 t287 t288 t289 t290 bt295.1 bt295.2.1 bt295.2.2.1 bt295.2.2.2.1 bt295.2.2.2.2 bt308.1 bt308.2.1 bt308.2.2.1 bt308.2.2.2.1 bt308.2.2.2.2.1) else (laws_FnExactWalStep.j0 k t293 bt308.2.2.2.2.2 true a0_0 a0_1 a0_2 a0_3 l0_4 a1_0 a1_1 a1_2 a1_3 a1_4 t286 t287 t288 t289 t290 bt295.1 bt295.2.1 bt295.2.2.1 bt295.2.2.2.1 bt295.2.2.2.2 bt308.1 bt308.2.1 bt308.2.2.1 bt308.2.2.2.1 bt308.2.2.2.2.1)))))) = some r := H
   have A21 := Aside0.mk A210
   clear A210; replace H := Option.bind_eq_some_iff.mp H
   obtain ⟨⟨t295, t296, t297, t298, t299⟩, A220, H⟩ := H
   replace H : ((laws_toRec.f a1_0 a1_1 a1_2 a1_3 a1_4).bind fun bt303 => ((impl_WalStep.f k t295 t296 t297 t298 t299 bt303.1 bt303.2.1 bt303.2.2.1 bt303.2.2.2.1 bt303.2.2.2.2).bind fun bt308 => ((laws_eqWal.f k bt308.1 bt308.2.1 bt308.2.2.1 bt308.2.2.2.1 bt308.2.2.2.2.1 t286 t287 t288 t289 t290).bind fun t317 => (if t317 = true then (laws_FnExactWalStep.j0 k t293 bt308.2.2.2.2.2 (bt308.2.2.2.2.2 != t293) a0_0 a0_1 a0_2 a0_3 l0_4 a1_0 a1_1 a1_2 a1_3 a1_4 t286 t287 t288 t289 t290 t295 t296 t297 t298 t299 bt308.1 bt308.2.1 bt308.2.2.1 bt308.2.2.2.1 bt308.2.2.2.2.1) else (laws_FnExactWalStep.j0 k t293 bt308.2.2.2.2.2 true a0_0 a0_1 a0_2 a0_3 l0_4 a1_0 a1_1 a1_2 a1_3 a1_4 t286 t287 t288 t289 t290 t295 t296 t297 t298 t299 bt308.1 bt308.2.1 bt308.2.2.1 bt308.2.2.2.1 bt308.2.2.2.2.1))))) = some r := H
   have A22 := Aside0.mk A220
   clear A220; replace H := Option.bind_eq_some_iff.mp H
   obtain ⟨⟨t303, t304, t305, t306, t307⟩, A230, H⟩ := H
   replace H : ((impl_WalStep.f k t295 t296 t297 t298 t299 t303 t304 t305 t306 t307).bind fun bt308 => ((laws_eqWal.f k bt308.1 bt308.2.1 bt308.2.2.1 bt308.2.2.2.1 bt308.2.2.2.2.1 t286 t287 t288 t289 t290).bind fun t317 => (if t317 = true then (laws_FnExactWalStep.j0 k t293 bt308.2.2.2.2.2 (bt308.2.2.2.2.2 != t293) a0_0 a0_1 a0_2 a0_3 l0_4 a1_0 a1_1 a1_2 a1_3 a1_4 t286 t287 t288 t289 t290 t295 t296 t297 t298 t299 bt308.1 bt308.2.1 bt308.2.2.1 bt308.2.2.2.1 bt308.2.2.2.2.1) else (laws_FnExactWalStep.j0 k t293 bt308.2.2.2.2.2 true a0_0 a0_1 a0_2 a0_3 l0_4 a1_0 a1_1 a1_2 a1_3 a1_4 t286 t287 t288 t289 t290 t295 t296 t297 t298 t299 bt308.1 bt308.2.1 bt308.2.2.1 bt308.2.2.2.1 bt308.2.2.2.2.1)))) = some r := H
   have A23 := Aside0.mk A230
   clear A230; replace H := Option.bind_eq_some_iff.mp H
   obtain ⟨⟨t308, t309, t310, t311, t312, t315⟩, A240, H⟩ := H
   replace H : ((laws_eqWal.f k t308 t309 t310 t311 t312 t286 t287 t288 t289 t290).bind fun t317 => (if t317 = true then (laws_FnExactWalStep.j0 k t293 t315 (t315 != t293) a0_0 a0_1 a0_2 a0_3 l0_4 a1_0 a1_1 a1_2 a1_3 a1_4 t286 t287 t288 t289 t290 t295 t296 t297 t298 t299 t308 t309 t310 t311 t312) else (laws_FnExactWalStep.j0 k t293 t315 true a0_0 a0_1 a0_2 a0_3 l0_4 a1_0 a1_1 a1_2 a1_3 a1_4 t286 t287 t288 t289 t290 t295 t296 t297 t298 t299 t308 t309 t310 t311 t312))) = some r := H
   have A24 := Aside0.mk A240
   clear A240; have HC25 := Aside0.mk H
   clear H
   go_enter Try.func8, Try.ntmps8
   try go_wp2_with (first | ((with_reducible refine gate_dst (N := 2) rfl ?_); refine box_event ?hg (N := 2) ?hd (cs := #[.int .i64 a0_0, .int .i64 a0_1, .int .i64 a0_2, .int .i64 a0_3, .slice A0_4 l0_4.length c0_4]) (t := 56) ?hr ?_; (case hd => rfl); (case hg => rfl); (case hr => first | (go_simp; done) | (go_simp; rfl)); intro gb270 hg w26 hbox hb; have n0_ := Aside0.mk (below_step (be HB) hb); have BK270 := Aside0.mk (hbox); have GW270 := bs HB hg; have GE270 := bs HB hg; clear HB; have HB := n0_; clear n0_; clear hb hbox hg) | ((with_reducible refine gate_dst (N := 3) rfl ?_); refine box_event ?hg (N := 3) ?hd (cs := #[.int .i64 a1_0, .int .i64 a1_1, .int .i64 a1_2, .int .i64 a1_3, .string a1_4]) (t := 57) ?hr ?_; (case hd => rfl); (case hg => rfl); (case hr => first | (go_simp; done) | (go_simp; rfl)); intro gb271 hg w27 hbox hb; have n1_ := Aside0.mk (below_step (be HB) hb); have BK271 := Aside0.mk (hbox); have GW271 := bs HB hg; have GE271 := bs HB hg; have NB270_271 := bl BK270 hg; have NB271_270 := bg BK270 hg; replace BK270 := bq BK270 hb; clear HB; have HB := n1_; clear n1_; clear hb hbox hg; have hnb28 := NB270_271.out; have hnc28 := NB271_270.out; obtain ⟨hcz29_0, hcz29_1, hcz29_2, hcz29_3, hcz29_4⟩ := cs5 BK270; obtain ⟨hfz29_0, hfz29_1, hfz29_2, hfz29_3, hfz29_4⟩ := fs5 BK270) | ((with_reducible refine gate_callee (f := 35) rfl ?_); refine goesL_ (some 18) rfl rfl Try.func35 (by kernel_rfl) rfl #[.agg #[.int .i64 a0_0, .int .i64 a0_1, .int .i64 a0_2, .int .i64 a0_3, .slice A0_4 l0_4.length c0_4], .int .i64 1048576] rfl (by (try simp only [List.map_toArray, List.map_cons, List.map_nil]); first | done | rfl | (simp only [List.length_drop, List.length_take]; rfl)) ?_; (with_reducible refine (laws_szWal.calls k a0_0 a0_1 a0_2 a0_3 _ _ l0_4 1048576 t272 _ ?side1 ?side2 A3.out).mono ?_); (case side1 => repeat (first | exact (Kd.C_below HR0_4.out HB.out) | (with_reducible refine Kd.C_alloc ?_ _) | (with_reducible refine Kd.C_drewN ?_ _) | (with_reducible refine Kd.C_drew ?_))); (case side2 => exact HC0_4.out); rintro e w30 ⟨rfl, hb⟩; refine ⟨_, rfl, ?_⟩; have n2_ := Aside0.mk (below_step (be HB) hb); replace BK270 := bq BK270 hb; replace BK271 := bq BK271 hb; clear HB; have HB := n2_; clear n2_; (try clear hb); (try clear hb2); (try clear hk); (try clear hi); obtain ⟨hcz31_0, hcz31_1, hcz31_2, hcz31_3, hcz31_4⟩ := cs5 BK271; obtain ⟨hfz31_0, hfz31_1, hfz31_2, hfz31_3, hfz31_4⟩ := fs5 BK271) | ((with_reducible refine gate_callee (f := 36) rfl ?_); refine goesL_ (some 23) rfl rfl Try.func36 (by kernel_rfl) rfl #[.agg #[.int .i64 a1_0, .int .i64 a1_1, .int .i64 a1_2, .int .i64 a1_3, .string a1_4], .int .i64 t272] rfl (by (try simp only [List.map_toArray, List.map_cons, List.map_nil]); first | done | rfl | (simp only [List.length_drop, List.length_take]; rfl)) ?_; (with_reducible refine (laws_szRec.calls a1_0 a1_1 a1_2 a1_3 a1_4 t272 t273 _ A10.out).mono ?_); rintro e w32 ⟨rfl, hb⟩; refine ⟨_, rfl, ?_⟩; have n2_ := Aside0.mk (below_step (be HB) hb); replace BK270 := bq BK270 hb; replace BK271 := bq BK271 hb; clear HB; have HB := n2_; clear n2_; (try clear hb); (try clear hb2); (try clear hk); (try clear hi)))
   have n0_ := Aside0.mk (blk_drew BK270.out)
   have n1_ := Aside0.mk (blk_drew BK271.out)
   have n2_ := Aside0.mk (below_drew1 HB.out)
   clear BK270 BK271 HB; have BK270 := n0_; have BK271 := n1_; have HB := n2_; clear n0_ n1_ n2_; refine start_ (n := 11) (S := fun w' => w'.cell? ⟨gb270, 0, none⟩ = some (.int .i64 a0_0) ∧ w'.cell? ⟨gb270, 1, none⟩ = some (.int .i64 a0_1) ∧ w'.cell? ⟨gb270, 2, none⟩ = some (.int .i64 a0_2) ∧ w'.cell? ⟨gb270, 3, none⟩ = some (.int .i64 a0_3) ∧ w'.cell? ⟨gb270, 4, none⟩ = some (.slice A0_4 l0_4.length c0_4) ∧ w'.cell? ⟨gb271, 0, none⟩ = some (.int .i64 a1_0) ∧ w'.cell? ⟨gb271, 1, none⟩ = some (.int .i64 a1_1) ∧ w'.cell? ⟨gb271, 2, none⟩ = some (.int .i64 a1_2) ∧ w'.cell? ⟨gb271, 3, none⟩ = some (.int .i64 a1_3) ∧ w'.cell? ⟨gb271, 4, none⟩ = some (.string a1_4)) (ds := []) #[false, false, false, false, false, false, false, false, false, false, false] (by kernel_rfl) rfl rfl ⟨bc BK270 0, bc BK270 1, bc BK270 2, bc BK270 3, bc BK270 4, bc BK271 0, bc BK271 1, bc BK271 2, bc BK271 3, bc BK271 4⟩ (fun hHeld => ?_); refine with_tabW laws_FnExactWalStep.tab8 laws_FnExactWalStep.bits8 (fun HT_ HW_ => ?_)
   generalize w32.drew = w33 at BK270 BK271 HB hHeld ⊢
   refine take_ (i := 0) (N := some 27) (v := ?_) (a' := ?_) #[true, false, false, false, false, false, false, false, false, false, false] rfl rfl (take_ofW HT_.out HW_.out (by kernel_rfl)) (fun _ _ _ h => h) (Or.inl ⟨by rfl, ?_⟩) hHeld ?_ ?_
   rotate_left
   ·rintro w' ⟨s0, s1, s2, s3, s4, s5, s6, s7, s8, s9⟩
    go_simp; with_reducible rfl
   rotate_left
   ·simp only [putL, i64_w, i32_w]; rfl
   refine take_ (i := 2) (N := some 29) (v := ?_) (a' := ?_) #[true, false, true, false, false, false, false, false, false, false, false] rfl rfl (take_ofW HT_.out HW_.out (by kernel_rfl)) (fun _ _ _ h => h) (Or.inl ⟨by rfl, ?_⟩) hHeld ?_ ?_
   rotate_left
   ·rintro w' ⟨s0, s1, s2, s3, s4, s5, s6, s7, s8, s9⟩
    go_simp; with_reducible rfl
   rotate_left
   ·simp only [putL, i64_w, i32_w]; rfl
   refine join_ (σ := Value × Value × Nat) 2 #[true, true, true, true, true, true, true, true, true, false, false] (fun s_ => [(28, .agg #[.int .i64 t274, .int .i64 t275, .int .i64 t276, .int .i64 t277, s_.1]), (30, .agg #[.int .i64 t281, .int .i64 t282, .int .i64 t283, .int .i64 t284, .string t285]), (31, .tuple #[.agg #[.int .i64 t286, .int .i64 t287, .int .i64 t288, .int .i64 t289, s_.2.1], .bool t293]), (6, .pointer (some ⟨s_.2.2, 0, none⟩)), (26, .tuple #[.agg #[.int .i64 t286, .int .i64 t287, .int .i64 t288, .int .i64 t289, s_.2.1], .bool t293]), (32, .agg #[.int .i64 t286, .int .i64 t287, .int .i64 t288, .int .i64 t289, s_.2.1]), (33, .bool t293)]) (fun s_ w' => (w'.cell? ⟨gb270, 0, none⟩ = some (.int .i64 a0_0) ∧ w'.cell? ⟨gb270, 1, none⟩ = some (.int .i64 a0_1) ∧ w'.cell? ⟨gb270, 2, none⟩ = some (.int .i64 a0_2) ∧ w'.cell? ⟨gb270, 3, none⟩ = some (.int .i64 a0_3) ∧ w'.cell? ⟨gb270, 4, none⟩ = some (.slice A0_4 l0_4.length c0_4) ∧ w'.cell? ⟨gb271, 0, none⟩ = some (.int .i64 a1_0) ∧ w'.cell? ⟨gb271, 1, none⟩ = some (.int .i64 a1_1) ∧ w'.cell? ⟨gb271, 2, none⟩ = some (.int .i64 a1_2) ∧ w'.cell? ⟨gb271, 3, none⟩ = some (.int .i64 a1_3) ∧ w'.cell? ⟨gb271, 4, none⟩ = some (.string a1_4)) ∧ (Kd.R k125 125 w' w.heap.size (fun k_ => some k_ ≠ (s_.2.1 : Value).ownBlock) s_.1 t278) ∧ (Kd.R k125 125 w' w.heap.size (fun k_ => some k_ ≠ (s_.1 : Value).ownBlock) s_.2.1 t290) ∧ (w'.heap[gb270]? = some (.cells #[.int .i64 a0_0, .int .i64 a0_1, .int .i64 a0_2, .int .i64 a0_3, .slice A0_4 l0_4.length c0_4] 56 (0, 0))) ∧ (w'.heap[gb271]? = some (.cells #[.int .i64 a1_0, .int .i64 a1_1, .int .i64 a1_2, .int .i64 a1_3, .string a1_4] 57 (0, 0))) ∧ (w'.heap[s_.2.2]? = some (.cells #[.int .i64 0, .int .i64 0, .int .i64 0, .int .i64 0, .slice none 0 0] 62 (0, 0))) ∧ (w.heap.size ≤ s_.2.2) ∧ (w.heap.size ≤ s_.2.2) ∧ (gb270 ≠ s_.2.2) ∧ (s_.2.2 ≠ gb270) ∧ (gb271 ≠ s_.2.2) ∧ (s_.2.2 ≠ gb271) ∧ (Below w.heap.size w w')) ?_ ?_
   rotate_left
   ·intro hCont; refine two_ (i := 1) (j := 8) (Ni := some 28) (Nj := some 6) #[true, true, true, false, false, false, false, false, false, false, false] #[true, false, true, false, false, false, false, false, true, false, false] rfl rfl rfl rfl (two_of HT_.out (by kernel_rfl)) (by decide) (by decide) (fun K hK => ?_) (fun K hK => ?_)
    ·skip
     refine goes_ Try.func38 (by kernel_rfl) rfl #[.agg #[.int .i64 a0_0, .int .i64 a0_1, .int .i64 a0_2, .int .i64 a0_3, .slice A0_4 l0_4.length c0_4]] (by rfl) rfl rfl (by (try simp only [List.map_toArray, List.map_cons, List.map_nil]); first | done | rfl | (simp only [List.length_drop, List.length_take]; rfl)) ?_
     with_reducible refine (laws_toWal.calls k a0_0 a0_1 a0_2 a0_3 _ _ l0_4 t274 t275 t276 t277 t278 _ ?side1 ?side2 A19.out).mono ?_
     (case side1 => repeat (first | exact (Kd.C_below HR0_4.out HB.out) | (with_reducible refine Kd.C_alloc ?_ _) | (with_reducible refine Kd.C_drewN ?_ _) | (with_reducible refine Kd.C_drew ?_)))
     (case side2 => exact HC0_4.out)
     rintro e w34 ⟨v279, rfl, ho0, hb⟩
     refine ⟨_, rfl, ?_⟩
     have n3_ := Aside0.mk (below_step (be HB) hb)
     have HO280 := Aside0.mk (Kd.R_lower ho0 (below_size (be HB)))
     replace BK270 := bq BK270 hb; replace BK271 := bq BK271 hb; clear HB; have HB := n3_; clear n3_; (try clear hb); (try clear hb2); (try clear hk); (try clear hi); (try clear ho0); refine hK.out _ _ ⟨bc BK270 0, bc BK270 1, bc BK270 2, bc BK270 3, bc BK270 4, bc BK271 0, bc BK271 1, bc BK271 2, bc BK271 3, bc BK271 4⟩ (fun hHeld => ?_)
     clear hK K; refine norm_ (a' := ?_) ?_ ?_
     rotate_left
     ·show Act.put _ (some 28) _ = _
      simp only [putL, i64_w, i32_w]; rfl
     refine two_ (i := 3) (j := 8) (Ni := some 30) (Nj := some 6) #[true, true, true, true, false, false, false, false, false, false, false] #[true, true, true, false, false, false, false, false, true, false, false] rfl rfl rfl rfl (two_of HT_.out (by kernel_rfl)) (by decide) (by decide) (fun K hK => ?_) (fun K hK => ?_)
     ·skip
      refine goes_ Try.func39 (by kernel_rfl) rfl #[.agg #[.int .i64 a1_0, .int .i64 a1_1, .int .i64 a1_2, .int .i64 a1_3, .string a1_4]] (by rfl) rfl rfl (by (try simp only [List.map_toArray, List.map_cons, List.map_nil]); first | done | rfl | (simp only [List.length_drop, List.length_take]; rfl)) ?_
      with_reducible refine (laws_toRec.calls a1_0 a1_1 a1_2 a1_3 a1_4 t281 t282 t283 t284 t285 _ A20.out).mono ?_
      rintro e w35 ⟨rfl, hb⟩
      refine ⟨_, rfl, ?_⟩
      have n3_ := Aside0.mk (below_step (be HB) hb)
      replace HO280 := Aside0.mk (Kd.R_below (rr HO280) hb); replace BK270 := bq BK270 hb; replace BK271 := bq BK271 hb; clear HB; have HB := n3_; clear n3_; (try clear hb); (try clear hb2); (try clear hk); (try clear hi); obtain ⟨Ao36, co36, eo36⟩ := Kd.R_slice HO280.out
      (first | subst eo36 | (injection eo36 with f1_ f2_ f3_; have f4_ := f1_.symm; have f5_ := f3_.symm; clear f1_ f2_ f3_; subst f4_; subst f5_))
      refine hK.out _ _ ⟨bc BK270 0, bc BK270 1, bc BK270 2, bc BK270 3, bc BK270 4, bc BK271 0, bc BK271 1, bc BK271 2, bc BK271 3, bc BK271 4⟩ (fun hHeld => ?_)
      clear hK K; refine norm_ (a' := ?_) ?_ ?_
      rotate_left
      ·show Act.put _ (some 30) _ = _
       simp only [putL, i64_w, i32_w]; rfl
      refine two_ (i := 4) (j := 8) (Ni := some 31) (Nj := some 6) #[true, true, true, true, true, false, false, false, false, false, false] #[true, true, true, true, false, false, false, false, true, false, false] rfl rfl rfl rfl (two_of HT_.out (by kernel_rfl)) (by decide) (by decide) (fun K hK => ?_) (fun K hK => ?_)
      ·skip
       refine goes_ Try.func37 (by kernel_rfl) rfl #[.agg #[.int .i64 t274, .int .i64 t275, .int .i64 t276, .int .i64 t277, .slice Ao36 t278.length co36], .agg #[.int .i64 t281, .int .i64 t282, .int .i64 t283, .int .i64 t284, .string t285]] (by rfl) rfl rfl (by (try simp only [List.map_toArray, List.map_cons, List.map_nil]); first | done | rfl | (simp only [List.length_drop, List.length_take]; rfl)) ?_
       with_reducible refine (spec_WalStep.calls k t274 t275 t276 t277 _ _ t278 t281 t282 t283 t284 t285 t286 t287 t288 t289 t290 t293 _ ?side1 ?side2 A21.out).mono ?_
       (case side1 => repeat (first | exact (Kd.R_reads' HO280.out).2.2 | (with_reducible refine Kd.C_alloc ?_ _) | (with_reducible refine Kd.C_drewN ?_ _) | (with_reducible refine Kd.C_drew ?_)))
       (case side2 => exact (Kd.R_reads' HO280.out).2.1)
       rintro e w37 ⟨v291, rfl, ho0, hb⟩
       refine ⟨_, rfl, ?_⟩
       have n0_ := Aside0.mk (Kd.R_elder' (rr HO280) (Kd.R_base ho0) hb)
       have n4_ := Aside0.mk (below_step (be HB) hb)
       have HO292 := Aside0.mk (Kd.R_lower (Kd.R_new' ho0 (Kd.R_lt (rr HO280))) (below_size (be HB)))
       replace BK270 := bq BK270 hb; replace BK271 := bq BK271 hb; clear HO280 HB; have HO280 := n0_; have HB := n4_; clear n0_ n4_; (try clear hb); (try clear hb2); (try clear hk); (try clear hi); (try clear ho0); refine hK.out _ _ ⟨bc BK270 0, bc BK270 1, bc BK270 2, bc BK270 3, bc BK270 4, bc BK271 0, bc BK271 1, bc BK271 2, bc BK271 3, bc BK271 4⟩ (fun hHeld => ?_)
       clear hK K; refine norm_ (a' := ?_) ?_ ?_
       rotate_left
       ·show Act.put _ (some 31) _ = _
        simp only [putL, i64_w, i32_w]; rfl
       refine pure_ (i := 5) (N := some 26) (v := ?_) (a' := ?_) #[true, true, true, true, true, true, false, false, false, false, false] rfl rfl (any_of HT_.out (by kernel_rfl)) (fun _ _ _ h => h) (Or.inl ⟨by rfl, ?_⟩) ?_ ?_
       rotate_left
       ·intro w'; go_simp; with_reducible rfl
       rotate_left
       ·simp only [putL, i64_w, i32_w]; rfl
       refine pure_ (i := 6) (N := some 32) (v := ?_) (a' := ?_) #[true, true, true, true, true, true, true, false, false, false, false] rfl rfl (any_of HT_.out (by kernel_rfl)) (fun _ _ _ h => h) (Or.inl ⟨by rfl, ?_⟩) ?_ ?_
       rotate_left
       ·intro w'; go_simp; with_reducible rfl
       rotate_left
       ·simp only [putL, i64_w, i32_w]; rfl
       refine pure_ (i := 7) (N := some 33) (v := ?_) (a' := ?_) #[true, true, true, true, true, true, true, true, false, false, false] rfl rfl (any_of HT_.out (by kernel_rfl)) (fun _ _ _ h => h) (Or.inl ⟨by rfl, ?_⟩) ?_ ?_
       rotate_left
       ·intro w'; go_simp; with_reducible rfl
       rotate_left
       ·simp only [putL, i64_w, i32_w]; rfl
       refine one_ (i := 8) (N := some 6) #[true, true, true, true, true, true, true, true, true, false, false] rfl rfl (one_of HT_.out (by kernel_rfl)) (by decide) (fun K hK => ?_)
       refine box_step ?hg (N := 6) ?hd (cs := #[.int .i64 0, .int .i64 0, .int .i64 0, .int .i64 0, .slice none 0 0]) (t := 62) ?hr ?_; (case hd => rfl); (case hg => rfl); (case hr => first | (go_simp; done) | (go_simp; rfl))
       intro gb294 hg w38 hbox hb
       have n4_ := Aside0.mk (below_step (be HB) hb)
       have BK294 := Aside0.mk (hbox)
       have GW294 := bs HB hg; have GE294 := bs HB hg; have NB270_294 := bl BK270 hg; have NB294_270 := bg BK270 hg; have NB271_294 := bl BK271 hg; have NB294_271 := bg BK271 hg; replace HO280 := Aside0.mk (Kd.R_below (rr HO280) hb); replace HO292 := Aside0.mk (Kd.R_below (rr HO292) hb); replace BK270 := bq BK270 hb; replace BK271 := bq BK271 hb; clear HB; have HB := n4_; clear n4_; clear hb hbox hg; refine hK.out _ _ ⟨bc BK270 0, bc BK270 1, bc BK270 2, bc BK270 3, bc BK270 4, bc BK271 0, bc BK271 1, bc BK271 2, bc BK271 3, bc BK271 4⟩ (fun hHeld => ?_)
       clear hK K; refine norm_ (a' := ?_) ?_ ?_
       rotate_left
       ·show Act.put _ (some 6) _ = _
        simp only [putL, i64_w, i32_w]; rfl
       exact norm_ (by simp only [putAll, putL]) (hCont (.slice Ao36 t278.length co36, v291, gb294) _ ⟨hHeld, (by (with_reducible repeat (first | apply Kd.R_alloc | apply Kd.R_drewN | apply Kd.R_drew)); exact Kd.R_mono HO280.out (fun _ hk => hk.2)), (by (with_reducible repeat (first | apply Kd.R_alloc | apply Kd.R_drewN | apply Kd.R_drew)); exact Kd.R_mono HO292.out (fun _ hk => hk.2)), (by (with_reducible repeat first | refine bkN ?_ _ | refine bkD ?_ | refine bkA ?_ _); exact BK270.out), (by (with_reducible repeat first | refine bkN ?_ _ | refine bkD ?_ | refine bkA ?_ _); exact BK271.out), (by (with_reducible repeat first | refine bkN ?_ _ | refine bkD ?_ | refine bkA ?_ _); exact BK294.out), GW294.out, GE294.out, NB270_294.out, NB294_270.out, NB271_294.out, NB294_271.out, (be HB)⟩)
      ·skip
       refine box_step ?hg (N := 6) ?hd (cs := #[.int .i64 0, .int .i64 0, .int .i64 0, .int .i64 0, .slice none 0 0]) (t := 62) ?hr ?_; (case hd => rfl); (case hg => rfl); (case hr => first | (go_simp; done) | (go_simp; rfl))
       intro gb294 hg w36 hbox hb
       have n3_ := Aside0.mk (below_step (be HB) hb)
       have BK294 := Aside0.mk (hbox)
       have GW294 := bs HB hg; have GE294 := bs HB hg; have NB270_294 := bl BK270 hg; have NB294_270 := bg BK270 hg; have NB271_294 := bl BK271 hg; have NB294_271 := bg BK271 hg; replace HO280 := Aside0.mk (Kd.R_below (rr HO280) hb); replace BK270 := bq BK270 hb; replace BK271 := bq BK271 hb; clear HB; have HB := n3_; clear n3_; clear hb hbox hg; obtain ⟨Ao37, co37, eo37⟩ := Kd.R_slice HO280.out
       (first | subst eo37 | (injection eo37 with f1_ f2_ f3_; have f4_ := f1_.symm; have f5_ := f3_.symm; clear f1_ f2_ f3_; subst f4_; subst f5_))
       refine hK.out _ _ ⟨bc BK270 0, bc BK270 1, bc BK270 2, bc BK270 3, bc BK270 4, bc BK271 0, bc BK271 1, bc BK271 2, bc BK271 3, bc BK271 4⟩ (fun hHeld => ?_)
       clear hK K; refine norm_ (a' := ?_) ?_ ?_
       rotate_left
       ·show Act.put _ (some 6) _ = _
        simp only [putL, i64_w, i32_w]; rfl
       refine one_ (i := 4) (N := some 31) #[true, true, true, true, true, false, false, false, true, false, false] rfl rfl (one_of HT_.out (by kernel_rfl)) (by decide) (fun K hK => ?_)
       refine goes_ Try.func37 (by kernel_rfl) rfl #[.agg #[.int .i64 t274, .int .i64 t275, .int .i64 t276, .int .i64 t277, .slice Ao37 t278.length co37], .agg #[.int .i64 t281, .int .i64 t282, .int .i64 t283, .int .i64 t284, .string t285]] (by rfl) rfl rfl (by (try simp only [List.map_toArray, List.map_cons, List.map_nil]); first | done | rfl | (simp only [List.length_drop, List.length_take]; rfl)) ?_
       with_reducible refine (spec_WalStep.calls k t274 t275 t276 t277 _ _ t278 t281 t282 t283 t284 t285 t286 t287 t288 t289 t290 t293 _ ?side1 ?side2 A21.out).mono ?_
       (case side1 => repeat (first | exact (Kd.R_reads' HO280.out).2.2 | (with_reducible refine Kd.C_alloc ?_ _) | (with_reducible refine Kd.C_drewN ?_ _) | (with_reducible refine Kd.C_drew ?_)))
       (case side2 => exact (Kd.R_reads' HO280.out).2.1)
       rintro e w38 ⟨v291, rfl, ho0, hb⟩
       refine ⟨_, rfl, ?_⟩
       have n0_ := Aside0.mk (Kd.R_elder' (rr HO280) (Kd.R_base ho0) hb)
       have n5_ := Aside0.mk (below_step (be HB) hb)
       have HO292 := Aside0.mk (Kd.R_lower (Kd.R_new' ho0 (Kd.R_lt (rr HO280))) (below_size (be HB)))
       replace BK270 := bq BK270 hb; replace BK271 := bq BK271 hb; replace BK294 := bq BK294 hb; clear HO280 HB; have HO280 := n0_; have HB := n5_; clear n0_ n5_; (try clear hb); (try clear hb2); (try clear hk); (try clear hi); (try clear ho0); refine hK.out _ _ ⟨bc BK270 0, bc BK270 1, bc BK270 2, bc BK270 3, bc BK270 4, bc BK271 0, bc BK271 1, bc BK271 2, bc BK271 3, bc BK271 4⟩ (fun hHeld => ?_)
       clear hK K; refine norm_ (a' := ?_) ?_ ?_
       rotate_left
       ·show Act.put _ (some 31) _ = _
        simp only [putL, i64_w, i32_w]; rfl
       refine pure_ (i := 5) (N := some 26) (v := ?_) (a' := ?_) #[true, true, true, true, true, true, false, false, true, false, false] rfl rfl (any_of HT_.out (by kernel_rfl)) (fun _ _ _ h => h) (Or.inl ⟨by rfl, ?_⟩) ?_ ?_
       rotate_left
       ·intro w'; go_simp; with_reducible rfl
       rotate_left
       ·simp only [putL, i64_w, i32_w]; rfl
       refine pure_ (i := 6) (N := some 32) (v := ?_) (a' := ?_) #[true, true, true, true, true, true, true, false, true, false, false] rfl rfl (any_of HT_.out (by kernel_rfl)) (fun _ _ _ h => h) (Or.inl ⟨by rfl, ?_⟩) ?_ ?_
       rotate_left
       ·intro w'; go_simp; with_reducible rfl
       rotate_left
       ·simp only [putL, i64_w, i32_w]; rfl
       refine pure_ (i := 7) (N := some 33) (v := ?_) (a' := ?_) #[true, true, true, true, true, true, true, true, true, false, false] rfl rfl (any_of HT_.out (by kernel_rfl)) (fun _ _ _ h => h) (Or.inl ⟨by rfl, ?_⟩) ?_ ?_
       rotate_left
       ·intro w'; go_simp; with_reducible rfl
       rotate_left
       ·simp only [putL, i64_w, i32_w]; rfl
       exact norm_ (by simp only [putAll, putL]) (hCont (.slice Ao37 t278.length co37, v291, gb294) _ ⟨hHeld, (by (with_reducible repeat (first | apply Kd.R_alloc | apply Kd.R_drewN | apply Kd.R_drew)); exact Kd.R_mono HO280.out (fun _ hk => hk.2)), (by (with_reducible repeat (first | apply Kd.R_alloc | apply Kd.R_drewN | apply Kd.R_drew)); exact Kd.R_mono HO292.out (fun _ hk => hk.2)), (by (with_reducible repeat first | refine bkN ?_ _ | refine bkD ?_ | refine bkA ?_ _); exact BK270.out), (by (with_reducible repeat first | refine bkN ?_ _ | refine bkD ?_ | refine bkA ?_ _); exact BK271.out), (by (with_reducible repeat first | refine bkN ?_ _ | refine bkD ?_ | refine bkA ?_ _); exact BK294.out), GW294.out, GE294.out, NB270_294.out, NB294_270.out, NB271_294.out, NB294_271.out, (be HB)⟩)
     ·skip
      refine box_step ?hg (N := 6) ?hd (cs := #[.int .i64 0, .int .i64 0, .int .i64 0, .int .i64 0, .slice none 0 0]) (t := 62) ?hr ?_; (case hd => rfl); (case hg => rfl); (case hr => first | (go_simp; done) | (go_simp; rfl))
      intro gb294 hg w35 hbox hb
      have n3_ := Aside0.mk (below_step (be HB) hb)
      have BK294 := Aside0.mk (hbox)
      have GW294 := bs HB hg; have GE294 := bs HB hg; have NB270_294 := bl BK270 hg; have NB294_270 := bg BK270 hg; have NB271_294 := bl BK271 hg; have NB294_271 := bg BK271 hg; replace HO280 := Aside0.mk (Kd.R_below (rr HO280) hb); replace BK270 := bq BK270 hb; replace BK271 := bq BK271 hb; clear HB; have HB := n3_; clear n3_; clear hb hbox hg; refine hK.out _ _ ⟨bc BK270 0, bc BK270 1, bc BK270 2, bc BK270 3, bc BK270 4, bc BK271 0, bc BK271 1, bc BK271 2, bc BK271 3, bc BK271 4⟩ (fun hHeld => ?_)
      clear hK K; refine norm_ (a' := ?_) ?_ ?_
      rotate_left
      ·show Act.put _ (some 6) _ = _
       simp only [putL, i64_w, i32_w]; rfl
      refine one_ (i := 3) (N := some 30) #[true, true, true, true, false, false, false, false, true, false, false] rfl rfl (one_of HT_.out (by kernel_rfl)) (by decide) (fun K hK => ?_)
      refine goes_ Try.func39 (by kernel_rfl) rfl #[.agg #[.int .i64 a1_0, .int .i64 a1_1, .int .i64 a1_2, .int .i64 a1_3, .string a1_4]] (by rfl) rfl rfl (by (try simp only [List.map_toArray, List.map_cons, List.map_nil]); first | done | rfl | (simp only [List.length_drop, List.length_take]; rfl)) ?_
      with_reducible refine (laws_toRec.calls a1_0 a1_1 a1_2 a1_3 a1_4 t281 t282 t283 t284 t285 _ A20.out).mono ?_
      rintro e w36 ⟨rfl, hb⟩
      refine ⟨_, rfl, ?_⟩
      have n4_ := Aside0.mk (below_step (be HB) hb)
      replace HO280 := Aside0.mk (Kd.R_below (rr HO280) hb); replace BK270 := bq BK270 hb; replace BK271 := bq BK271 hb; replace BK294 := bq BK294 hb; clear HB; have HB := n4_; clear n4_; (try clear hb); (try clear hb2); (try clear hk); (try clear hi); obtain ⟨Ao37, co37, eo37⟩ := Kd.R_slice HO280.out
      (first | subst eo37 | (injection eo37 with f1_ f2_ f3_; have f4_ := f1_.symm; have f5_ := f3_.symm; clear f1_ f2_ f3_; subst f4_; subst f5_))
      refine hK.out _ _ ⟨bc BK270 0, bc BK270 1, bc BK270 2, bc BK270 3, bc BK270 4, bc BK271 0, bc BK271 1, bc BK271 2, bc BK271 3, bc BK271 4⟩ (fun hHeld => ?_)
      clear hK K; refine norm_ (a' := ?_) ?_ ?_
      rotate_left
      ·show Act.put _ (some 30) _ = _
       simp only [putL, i64_w, i32_w]; rfl
      refine one_ (i := 4) (N := some 31) #[true, true, true, true, true, false, false, false, true, false, false] rfl rfl (one_of HT_.out (by kernel_rfl)) (by decide) (fun K hK => ?_)
      refine goes_ Try.func37 (by kernel_rfl) rfl #[.agg #[.int .i64 t274, .int .i64 t275, .int .i64 t276, .int .i64 t277, .slice Ao37 t278.length co37], .agg #[.int .i64 t281, .int .i64 t282, .int .i64 t283, .int .i64 t284, .string t285]] (by rfl) rfl rfl (by (try simp only [List.map_toArray, List.map_cons, List.map_nil]); first | done | rfl | (simp only [List.length_drop, List.length_take]; rfl)) ?_
      with_reducible refine (spec_WalStep.calls k t274 t275 t276 t277 _ _ t278 t281 t282 t283 t284 t285 t286 t287 t288 t289 t290 t293 _ ?side1 ?side2 A21.out).mono ?_
      (case side1 => repeat (first | exact (Kd.R_reads' HO280.out).2.2 | (with_reducible refine Kd.C_alloc ?_ _) | (with_reducible refine Kd.C_drewN ?_ _) | (with_reducible refine Kd.C_drew ?_)))
      (case side2 => exact (Kd.R_reads' HO280.out).2.1)
      rintro e w38 ⟨v291, rfl, ho0, hb⟩
      refine ⟨_, rfl, ?_⟩
      have n0_ := Aside0.mk (Kd.R_elder' (rr HO280) (Kd.R_base ho0) hb)
      have n5_ := Aside0.mk (below_step (be HB) hb)
      have HO292 := Aside0.mk (Kd.R_lower (Kd.R_new' ho0 (Kd.R_lt (rr HO280))) (below_size (be HB)))
      replace BK270 := bq BK270 hb; replace BK271 := bq BK271 hb; replace BK294 := bq BK294 hb; clear HO280 HB; have HO280 := n0_; have HB := n5_; clear n0_ n5_; (try clear hb); (try clear hb2); (try clear hk); (try clear hi); (try clear ho0); refine hK.out _ _ ⟨bc BK270 0, bc BK270 1, bc BK270 2, bc BK270 3, bc BK270 4, bc BK271 0, bc BK271 1, bc BK271 2, bc BK271 3, bc BK271 4⟩ (fun hHeld => ?_)
      clear hK K; refine norm_ (a' := ?_) ?_ ?_
      rotate_left
      ·show Act.put _ (some 31) _ = _
       simp only [putL, i64_w, i32_w]; rfl
      refine pure_ (i := 5) (N := some 26) (v := ?_) (a' := ?_) #[true, true, true, true, true, true, false, false, true, false, false] rfl rfl (any_of HT_.out (by kernel_rfl)) (fun _ _ _ h => h) (Or.inl ⟨by rfl, ?_⟩) ?_ ?_
      rotate_left
      ·intro w'; go_simp; with_reducible rfl
      rotate_left
      ·simp only [putL, i64_w, i32_w]; rfl
      refine pure_ (i := 6) (N := some 32) (v := ?_) (a' := ?_) #[true, true, true, true, true, true, true, false, true, false, false] rfl rfl (any_of HT_.out (by kernel_rfl)) (fun _ _ _ h => h) (Or.inl ⟨by rfl, ?_⟩) ?_ ?_
      rotate_left
      ·intro w'; go_simp; with_reducible rfl
      rotate_left
      ·simp only [putL, i64_w, i32_w]; rfl
      refine pure_ (i := 7) (N := some 33) (v := ?_) (a' := ?_) #[true, true, true, true, true, true, true, true, true, false, false] rfl rfl (any_of HT_.out (by kernel_rfl)) (fun _ _ _ h => h) (Or.inl ⟨by rfl, ?_⟩) ?_ ?_
      rotate_left
      ·intro w'; go_simp; with_reducible rfl
      rotate_left
      ·simp only [putL, i64_w, i32_w]; rfl
      exact norm_ (by simp only [putAll, putL]) (hCont (.slice Ao37 t278.length co37, v291, gb294) _ ⟨hHeld, (by (with_reducible repeat (first | apply Kd.R_alloc | apply Kd.R_drewN | apply Kd.R_drew)); exact Kd.R_mono HO280.out (fun _ hk => hk.2)), (by (with_reducible repeat (first | apply Kd.R_alloc | apply Kd.R_drewN | apply Kd.R_drew)); exact Kd.R_mono HO292.out (fun _ hk => hk.2)), (by (with_reducible repeat first | refine bkN ?_ _ | refine bkD ?_ | refine bkA ?_ _); exact BK270.out), (by (with_reducible repeat first | refine bkN ?_ _ | refine bkD ?_ | refine bkA ?_ _); exact BK271.out), (by (with_reducible repeat first | refine bkN ?_ _ | refine bkD ?_ | refine bkA ?_ _); exact BK294.out), GW294.out, GE294.out, NB270_294.out, NB294_270.out, NB271_294.out, NB294_271.out, (be HB)⟩)
    ·skip
     refine box_step ?hg (N := 6) ?hd (cs := #[.int .i64 0, .int .i64 0, .int .i64 0, .int .i64 0, .slice none 0 0]) (t := 62) ?hr ?_; (case hd => rfl); (case hg => rfl); (case hr => first | (go_simp; done) | (go_simp; rfl))
     intro gb294 hg w34 hbox hb
     have n2_ := Aside0.mk (below_step (be HB) hb)
     have BK294 := Aside0.mk (hbox)
     have GW294 := bs HB hg; have GE294 := bs HB hg; have NB270_294 := bl BK270 hg; have NB294_270 := bg BK270 hg; have NB271_294 := bl BK271 hg; have NB294_271 := bg BK271 hg; replace BK270 := bq BK270 hb; replace BK271 := bq BK271 hb; clear HB; have HB := n2_; clear n2_; clear hb hbox hg; refine hK.out _ _ ⟨bc BK270 0, bc BK270 1, bc BK270 2, bc BK270 3, bc BK270 4, bc BK271 0, bc BK271 1, bc BK271 2, bc BK271 3, bc BK271 4⟩ (fun hHeld => ?_)
     clear hK K; refine norm_ (a' := ?_) ?_ ?_
     rotate_left
     ·show Act.put _ (some 6) _ = _
      simp only [putL, i64_w, i32_w]; rfl
     refine one_ (i := 1) (N := some 28) #[true, true, true, false, false, false, false, false, true, false, false] rfl rfl (one_of HT_.out (by kernel_rfl)) (by decide) (fun K hK => ?_)
     refine goes_ Try.func38 (by kernel_rfl) rfl #[.agg #[.int .i64 a0_0, .int .i64 a0_1, .int .i64 a0_2, .int .i64 a0_3, .slice A0_4 l0_4.length c0_4]] (by rfl) rfl rfl (by (try simp only [List.map_toArray, List.map_cons, List.map_nil]); first | done | rfl | (simp only [List.length_drop, List.length_take]; rfl)) ?_
     with_reducible refine (laws_toWal.calls k a0_0 a0_1 a0_2 a0_3 _ _ l0_4 t274 t275 t276 t277 t278 _ ?side1 ?side2 A19.out).mono ?_
     (case side1 => repeat (first | exact (Kd.C_below HR0_4.out HB.out) | (with_reducible refine Kd.C_alloc ?_ _) | (with_reducible refine Kd.C_drewN ?_ _) | (with_reducible refine Kd.C_drew ?_)))
     (case side2 => exact HC0_4.out)
     rintro e w35 ⟨v279, rfl, ho0, hb⟩
     refine ⟨_, rfl, ?_⟩
     have n4_ := Aside0.mk (below_step (be HB) hb)
     have HO280 := Aside0.mk (Kd.R_lower ho0 (below_size (be HB)))
     replace BK270 := bq BK270 hb; replace BK271 := bq BK271 hb; replace BK294 := bq BK294 hb; clear HB; have HB := n4_; clear n4_; (try clear hb); (try clear hb2); (try clear hk); (try clear hi); (try clear ho0); refine hK.out _ _ ⟨bc BK270 0, bc BK270 1, bc BK270 2, bc BK270 3, bc BK270 4, bc BK271 0, bc BK271 1, bc BK271 2, bc BK271 3, bc BK271 4⟩ (fun hHeld => ?_)
     clear hK K; refine norm_ (a' := ?_) ?_ ?_
     rotate_left
     ·show Act.put _ (some 28) _ = _
      simp only [putL, i64_w, i32_w]; rfl
     refine one_ (i := 3) (N := some 30) #[true, true, true, true, false, false, false, false, true, false, false] rfl rfl (one_of HT_.out (by kernel_rfl)) (by decide) (fun K hK => ?_)
     refine goes_ Try.func39 (by kernel_rfl) rfl #[.agg #[.int .i64 a1_0, .int .i64 a1_1, .int .i64 a1_2, .int .i64 a1_3, .string a1_4]] (by rfl) rfl rfl (by (try simp only [List.map_toArray, List.map_cons, List.map_nil]); first | done | rfl | (simp only [List.length_drop, List.length_take]; rfl)) ?_
     with_reducible refine (laws_toRec.calls a1_0 a1_1 a1_2 a1_3 a1_4 t281 t282 t283 t284 t285 _ A20.out).mono ?_
     rintro e w36 ⟨rfl, hb⟩
     refine ⟨_, rfl, ?_⟩
     have n4_ := Aside0.mk (below_step (be HB) hb)
     replace HO280 := Aside0.mk (Kd.R_below (rr HO280) hb); replace BK270 := bq BK270 hb; replace BK271 := bq BK271 hb; replace BK294 := bq BK294 hb; clear HB; have HB := n4_; clear n4_; (try clear hb); (try clear hb2); (try clear hk); (try clear hi); obtain ⟨Ao37, co37, eo37⟩ := Kd.R_slice HO280.out
     (first | subst eo37 | (injection eo37 with f1_ f2_ f3_; have f4_ := f1_.symm; have f5_ := f3_.symm; clear f1_ f2_ f3_; subst f4_; subst f5_))
     refine hK.out _ _ ⟨bc BK270 0, bc BK270 1, bc BK270 2, bc BK270 3, bc BK270 4, bc BK271 0, bc BK271 1, bc BK271 2, bc BK271 3, bc BK271 4⟩ (fun hHeld => ?_)
     clear hK K; refine norm_ (a' := ?_) ?_ ?_
     rotate_left
     ·show Act.put _ (some 30) _ = _
      simp only [putL, i64_w, i32_w]; rfl
     refine one_ (i := 4) (N := some 31) #[true, true, true, true, true, false, false, false, true, false, false] rfl rfl (one_of HT_.out (by kernel_rfl)) (by decide) (fun K hK => ?_)
     refine goes_ Try.func37 (by kernel_rfl) rfl #[.agg #[.int .i64 t274, .int .i64 t275, .int .i64 t276, .int .i64 t277, .slice Ao37 t278.length co37], .agg #[.int .i64 t281, .int .i64 t282, .int .i64 t283, .int .i64 t284, .string t285]] (by rfl) rfl rfl (by (try simp only [List.map_toArray, List.map_cons, List.map_nil]); first | done | rfl | (simp only [List.length_drop, List.length_take]; rfl)) ?_
     with_reducible refine (spec_WalStep.calls k t274 t275 t276 t277 _ _ t278 t281 t282 t283 t284 t285 t286 t287 t288 t289 t290 t293 _ ?side1 ?side2 A21.out).mono ?_
     (case side1 => repeat (first | exact (Kd.R_reads' HO280.out).2.2 | (with_reducible refine Kd.C_alloc ?_ _) | (with_reducible refine Kd.C_drewN ?_ _) | (with_reducible refine Kd.C_drew ?_)))
     (case side2 => exact (Kd.R_reads' HO280.out).2.1)
     rintro e w38 ⟨v291, rfl, ho0, hb⟩
     refine ⟨_, rfl, ?_⟩
     have n0_ := Aside0.mk (Kd.R_elder' (rr HO280) (Kd.R_base ho0) hb)
     have n5_ := Aside0.mk (below_step (be HB) hb)
     have HO292 := Aside0.mk (Kd.R_lower (Kd.R_new' ho0 (Kd.R_lt (rr HO280))) (below_size (be HB)))
     replace BK270 := bq BK270 hb; replace BK271 := bq BK271 hb; replace BK294 := bq BK294 hb; clear HO280 HB; have HO280 := n0_; have HB := n5_; clear n0_ n5_; (try clear hb); (try clear hb2); (try clear hk); (try clear hi); (try clear ho0); refine hK.out _ _ ⟨bc BK270 0, bc BK270 1, bc BK270 2, bc BK270 3, bc BK270 4, bc BK271 0, bc BK271 1, bc BK271 2, bc BK271 3, bc BK271 4⟩ (fun hHeld => ?_)
     clear hK K; refine norm_ (a' := ?_) ?_ ?_
     rotate_left
     ·show Act.put _ (some 31) _ = _
      simp only [putL, i64_w, i32_w]; rfl
     refine pure_ (i := 5) (N := some 26) (v := ?_) (a' := ?_) #[true, true, true, true, true, true, false, false, true, false, false] rfl rfl (any_of HT_.out (by kernel_rfl)) (fun _ _ _ h => h) (Or.inl ⟨by rfl, ?_⟩) ?_ ?_
     rotate_left
     ·intro w'; go_simp; with_reducible rfl
     rotate_left
     ·simp only [putL, i64_w, i32_w]; rfl
     refine pure_ (i := 6) (N := some 32) (v := ?_) (a' := ?_) #[true, true, true, true, true, true, true, false, true, false, false] rfl rfl (any_of HT_.out (by kernel_rfl)) (fun _ _ _ h => h) (Or.inl ⟨by rfl, ?_⟩) ?_ ?_
     rotate_left
     ·intro w'; go_simp; with_reducible rfl
     rotate_left
     ·simp only [putL, i64_w, i32_w]; rfl
     refine pure_ (i := 7) (N := some 33) (v := ?_) (a' := ?_) #[true, true, true, true, true, true, true, true, true, false, false] rfl rfl (any_of HT_.out (by kernel_rfl)) (fun _ _ _ h => h) (Or.inl ⟨by rfl, ?_⟩) ?_ ?_
     rotate_left
     ·intro w'; go_simp; with_reducible rfl
     rotate_left
     ·simp only [putL, i64_w, i32_w]; rfl
     exact norm_ (by simp only [putAll, putL]) (hCont (.slice Ao37 t278.length co37, v291, gb294) _ ⟨hHeld, (by (with_reducible repeat (first | apply Kd.R_alloc | apply Kd.R_drewN | apply Kd.R_drew)); exact Kd.R_mono HO280.out (fun _ hk => hk.2)), (by (with_reducible repeat (first | apply Kd.R_alloc | apply Kd.R_drewN | apply Kd.R_drew)); exact Kd.R_mono HO292.out (fun _ hk => hk.2)), (by (with_reducible repeat first | refine bkN ?_ _ | refine bkD ?_ | refine bkA ?_ _); exact BK270.out), (by (with_reducible repeat first | refine bkN ?_ _ | refine bkD ?_ | refine bkA ?_ _); exact BK271.out), (by (with_reducible repeat first | refine bkN ?_ _ | refine bkD ?_ | refine bkA ?_ _); exact BK294.out), GW294.out, GE294.out, NB270_294.out, NB294_270.out, NB271_294.out, NB294_271.out, (be HB)⟩)
   rintro ⟨v279, v291, gb294⟩ w39 ⟨hS_, h0_, h1_, h2_, h3_, h4_, h5_, h6_, h7_, h8_, h9_, h10_, h11_⟩
   have n0_ : Aside0 (Kd.R k125 125 w39 w.heap.size (fun k_ => some k_ ≠ (v291 : Value).ownBlock) v279 t278) := ⟨h0_⟩
   have n1_ : Aside0 (Kd.R k125 125 w39 w.heap.size (fun k_ => some k_ ≠ (v279 : Value).ownBlock) v291 t290) := ⟨h1_⟩
   have n2_ : Aside0 (w39.heap[gb270]? = some (.cells #[.int .i64 a0_0, .int .i64 a0_1, .int .i64 a0_2, .int .i64 a0_3, .slice A0_4 l0_4.length c0_4] 56 (0, 0))) := ⟨h2_⟩
   have n3_ : Aside0 (w39.heap[gb271]? = some (.cells #[.int .i64 a1_0, .int .i64 a1_1, .int .i64 a1_2, .int .i64 a1_3, .string a1_4] 57 (0, 0))) := ⟨h3_⟩
   have n4_ : Aside0 (w39.heap[gb294]? = some (.cells #[.int .i64 0, .int .i64 0, .int .i64 0, .int .i64 0, .slice none 0 0] 62 (0, 0))) := ⟨h4_⟩
   have n5_ : Aside0 (w.heap.size ≤ gb294) := ⟨h5_⟩
   have n6_ : Aside0 (w.heap.size ≤ gb294) := ⟨h6_⟩
   have n7_ : Aside0 (gb270 ≠ gb294) := ⟨h7_⟩
   have n8_ : Aside0 (gb294 ≠ gb270) := ⟨h8_⟩
   have n9_ : Aside0 (gb271 ≠ gb294) := ⟨h9_⟩
   have n10_ : Aside0 (gb294 ≠ gb271) := ⟨h10_⟩
   have n11_ : Aside0 (Below w.heap.size w w39) := ⟨h11_⟩
   clear BK270; clear BK271; clear HB; clear h0_ h1_ h2_ h3_ h4_ h5_ h6_ h7_ h8_ h9_ h10_ h11_; have HO280 := n0_; have HO292 := n1_; have BK270 := n2_; have BK271 := n3_; have BK294 := n4_; have GW294 := n5_; have GE294 := n6_; have NB270_294 := n7_; have NB294_270 := n8_; have NB271_294 := n9_; have NB294_271 := n10_; have HB := n11_; clear n0_ n1_ n2_ n3_ n4_ n5_ n6_ n7_ n8_ n9_ n10_ n11_; have hHeld : w39.cell? ⟨gb270, 0, none⟩ = some (.int .i64 a0_0) ∧ w39.cell? ⟨gb270, 1, none⟩ = some (.int .i64 a0_1) ∧ w39.cell? ⟨gb270, 2, none⟩ = some (.int .i64 a0_2) ∧ w39.cell? ⟨gb270, 3, none⟩ = some (.int .i64 a0_3) ∧ w39.cell? ⟨gb270, 4, none⟩ = some (.slice A0_4 l0_4.length c0_4) ∧ w39.cell? ⟨gb271, 0, none⟩ = some (.int .i64 a1_0) ∧ w39.cell? ⟨gb271, 1, none⟩ = some (.int .i64 a1_1) ∧ w39.cell? ⟨gb271, 2, none⟩ = some (.int .i64 a1_2) ∧ w39.cell? ⟨gb271, 3, none⟩ = some (.int .i64 a1_3) ∧ w39.cell? ⟨gb271, 4, none⟩ = some (.string a1_4) := hS_
   obtain ⟨Ao44, co44, eo44⟩ := Kd.R_slice HO292.out
   (first | subst eo44 | (injection eo44 with f1_ f2_ f3_; have f4_ := f1_.symm; have f5_ := f3_.symm; clear f1_ f2_ f3_; subst f4_; subst f5_))
   refine norm_ (a' := ?_) ?_ ?_
   rotate_left
   ·simp only [putAll, putL]; rfl
   refine one_ (i := 9) (N := none) #[true, true, true, true, true, true, true, true, true, true, false] rfl rfl (one_of HT_.out (by kernel_rfl)) (by decide) (fun K hK => ?_)
   have hs40 : w39.cell? ⟨gb294, 0, none⟩ = some (.int .i64 0) := bc BK294 0
   have hfs40 := blk_frozen BK294.out 0; have hns40_0 := NB270_294.out; have hns40_1 := NB271_294.out; have hms40_0 := NB294_270.out; have hms40_1 := NB294_271.out; have hs41 : w39.cell? ⟨gb294, 1, none⟩ = some (.int .i64 0) := bc BK294 1
   have hfs41 := blk_frozen BK294.out 1; have hns41_0 := NB270_294.out; have hns41_1 := NB271_294.out; have hms41_0 := NB294_270.out; have hms41_1 := NB294_271.out; have hs42 : w39.cell? ⟨gb294, 2, none⟩ = some (.int .i64 0) := bc BK294 2
   have hfs42 := blk_frozen BK294.out 2; have hns42_0 := NB270_294.out; have hns42_1 := NB271_294.out; have hms42_0 := NB294_270.out; have hms42_1 := NB294_271.out; have hs43 : w39.cell? ⟨gb294, 3, none⟩ = some (.int .i64 0) := bc BK294 3
   have hfs43 := blk_frozen BK294.out 3; have hns43_0 := NB270_294.out; have hns43_1 := NB271_294.out; have hms43_0 := NB294_270.out; have hms43_1 := NB294_271.out; have hs45 : w39.cell? ⟨gb294, 4, none⟩ = some (.slice none 0 0) := bc BK294 4
   have hfs45 := blk_frozen BK294.out 4; have hns45_0 := NB270_294.out; have hns45_1 := NB271_294.out; have hms45_0 := NB294_270.out; have hms45_1 := NB294_271.out; refine skip_ (w1 := ?_) (by rfl) rfl ?_ ?_
   rotate_left
   ·go_simp; rfl
   refine hK.out _ _ ⟨((cell_far (p := ⟨gb294, _, none⟩) NB270_294.out _).trans (((cell_far (p := ⟨gb294, _, none⟩) NB270_294.out _).trans (((cell_far (p := ⟨gb294, _, none⟩) NB270_294.out _).trans (((cell_far (p := ⟨gb294, _, none⟩) NB270_294.out _).trans (((cell_far (p := ⟨gb294, _, none⟩) NB270_294.out _).trans (hHeld.1)))))))))), ((cell_far (p := ⟨gb294, _, none⟩) NB270_294.out _).trans (((cell_far (p := ⟨gb294, _, none⟩) NB270_294.out _).trans (((cell_far (p := ⟨gb294, _, none⟩) NB270_294.out _).trans (((cell_far (p := ⟨gb294, _, none⟩) NB270_294.out _).trans (((cell_far (p := ⟨gb294, _, none⟩) NB270_294.out _).trans (hHeld.2.1)))))))))), ((cell_far (p := ⟨gb294, _, none⟩) NB270_294.out _).trans (((cell_far (p := ⟨gb294, _, none⟩) NB270_294.out _).trans (((cell_far (p := ⟨gb294, _, none⟩) NB270_294.out _).trans (((cell_far (p := ⟨gb294, _, none⟩) NB270_294.out _).trans (((cell_far (p := ⟨gb294, _, none⟩) NB270_294.out _).trans (hHeld.2.2.1)))))))))), ((cell_far (p := ⟨gb294, _, none⟩) NB270_294.out _).trans (((cell_far (p := ⟨gb294, _, none⟩) NB270_294.out _).trans (((cell_far (p := ⟨gb294, _, none⟩) NB270_294.out _).trans (((cell_far (p := ⟨gb294, _, none⟩) NB270_294.out _).trans (((cell_far (p := ⟨gb294, _, none⟩) NB270_294.out _).trans (hHeld.2.2.2.1)))))))))), ((cell_far (p := ⟨gb294, _, none⟩) NB270_294.out _).trans (((cell_far (p := ⟨gb294, _, none⟩) NB270_294.out _).trans (((cell_far (p := ⟨gb294, _, none⟩) NB270_294.out _).trans (((cell_far (p := ⟨gb294, _, none⟩) NB270_294.out _).trans (((cell_far (p := ⟨gb294, _, none⟩) NB270_294.out _).trans (hHeld.2.2.2.2.1)))))))))), ((cell_far (p := ⟨gb294, _, none⟩) NB271_294.out _).trans (((cell_far (p := ⟨gb294, _, none⟩) NB271_294.out _).trans (((cell_far (p := ⟨gb294, _, none⟩) NB271_294.out _).trans (((cell_far (p := ⟨gb294, _, none⟩) NB271_294.out _).trans (((cell_far (p := ⟨gb294, _, none⟩) NB271_294.out _).trans (hHeld.2.2.2.2.2.1)))))))))), ((cell_far (p := ⟨gb294, _, none⟩) NB271_294.out _).trans (((cell_far (p := ⟨gb294, _, none⟩) NB271_294.out _).trans (((cell_far (p := ⟨gb294, _, none⟩) NB271_294.out _).trans (((cell_far (p := ⟨gb294, _, none⟩) NB271_294.out _).trans (((cell_far (p := ⟨gb294, _, none⟩) NB271_294.out _).trans (hHeld.2.2.2.2.2.2.1)))))))))), ((cell_far (p := ⟨gb294, _, none⟩) NB271_294.out _).trans (((cell_far (p := ⟨gb294, _, none⟩) NB271_294.out _).trans (((cell_far (p := ⟨gb294, _, none⟩) NB271_294.out _).trans (((cell_far (p := ⟨gb294, _, none⟩) NB271_294.out _).trans (((cell_far (p := ⟨gb294, _, none⟩) NB271_294.out _).trans (hHeld.2.2.2.2.2.2.2.1)))))))))), ((cell_far (p := ⟨gb294, _, none⟩) NB271_294.out _).trans (((cell_far (p := ⟨gb294, _, none⟩) NB271_294.out _).trans (((cell_far (p := ⟨gb294, _, none⟩) NB271_294.out _).trans (((cell_far (p := ⟨gb294, _, none⟩) NB271_294.out _).trans (((cell_far (p := ⟨gb294, _, none⟩) NB271_294.out _).trans (hHeld.2.2.2.2.2.2.2.2.1)))))))))), ((cell_far (p := ⟨gb294, _, none⟩) NB271_294.out _).trans (((cell_far (p := ⟨gb294, _, none⟩) NB271_294.out _).trans (((cell_far (p := ⟨gb294, _, none⟩) NB271_294.out _).trans (((cell_far (p := ⟨gb294, _, none⟩) NB271_294.out _).trans (((cell_far (p := ⟨gb294, _, none⟩) NB271_294.out _).trans (hHeld.2.2.2.2.2.2.2.2.2))))))))))⟩ (fun hHeld => ?_)
   clear hK K; refine pure_ (i := 10) (N := some 7) (v := ?_) (a' := ?_) #[true, true, true, true, true, true, true, true, true, true, true] rfl rfl (any_of HT_.out (by kernel_rfl)) (fun _ _ _ h => h) (Or.inl ⟨by rfl, ?_⟩) ?_ ?_
   rotate_left
   ·intro w'; go_simp; with_reducible rfl
   rotate_left
   ·simp only [putL, i64_w, i32_w]; rfl
   refine done_ (done_of HT_.out (by kernel_rfl)) ?_
   have hnb46 := NB270_294.out; have hnc46 := NB294_270.out; obtain ⟨hcz47_0, hcz47_1, hcz47_2, hcz47_3, hcz47_4⟩ := cs5 BK270; obtain ⟨hfz47_0, hfz47_1, hfz47_2, hfz47_3, hfz47_4⟩ := fs5 BK270
   try go_wp2_with (first | ((with_reducible refine gate_callee (f := 38) rfl ?_); refine goesL_ (some 35) rfl rfl Try.func38 (by kernel_rfl) rfl #[.agg #[.int .i64 a0_0, .int .i64 a0_1, .int .i64 a0_2, .int .i64 a0_3, .slice A0_4 l0_4.length c0_4]] rfl (by (try simp only [List.map_toArray, List.map_cons, List.map_nil]); first | done | rfl | (simp only [List.length_drop, List.length_take]; rfl)) ?_; (with_reducible refine (laws_toWal.calls k a0_0 a0_1 a0_2 a0_3 _ _ l0_4 t295 t296 t297 t298 t299 _ ?side1 ?side2 A22.out).mono ?_); (case side1 => exact Kd.C_below HR0_4.out (be HB)); (case side2 => exact HC0_4.out); rintro e w48 ⟨v300, rfl, ho0, hb⟩; refine ⟨_, rfl, ?_⟩; have n0_ := Aside0.mk (Kd.R_elder' (by (with_reducible repeat (first | apply Kd.R_alloc | apply Kd.R_drewN | apply Kd.R_drew)); exact (Kd.R_mono (Kd.R_far (p := ⟨gb294, 4, none⟩) (Kd.R_far (p := ⟨gb294, 3, none⟩) (Kd.R_far (p := ⟨gb294, 2, none⟩) (Kd.R_far (p := ⟨gb294, 1, none⟩) (Kd.R_far (p := ⟨gb294, 0, none⟩) (Kd.R_types HO280.out BK294.out (by decide)) (fun _ hk => hk.2) (.int .i64 t286)) (fun _ hk => hk.2) (.int .i64 t287)) (fun _ hk => hk.2) (.int .i64 t288)) (fun _ hk => hk.2) (.int .i64 t289)) (fun _ hk => hk.2) (.slice Ao44 t290.length co44)) (fun _ h_ => h_.1))) (Kd.R_base ho0) hb); have n1_ := Aside0.mk (Kd.R_elder' (by (with_reducible repeat (first | apply Kd.R_alloc | apply Kd.R_drewN | apply Kd.R_drew)); exact (Kd.R_mono (Kd.R_far (p := ⟨gb294, 4, none⟩) (Kd.R_far (p := ⟨gb294, 3, none⟩) (Kd.R_far (p := ⟨gb294, 2, none⟩) (Kd.R_far (p := ⟨gb294, 1, none⟩) (Kd.R_far (p := ⟨gb294, 0, none⟩) (Kd.R_types HO292.out BK294.out (by decide)) (fun _ hk => hk.2) (.int .i64 t286)) (fun _ hk => hk.2) (.int .i64 t287)) (fun _ hk => hk.2) (.int .i64 t288)) (fun _ hk => hk.2) (.int .i64 t289)) (fun _ hk => hk.2) (.slice Ao44 t290.length co44)) (fun _ h_ => h_.1))) (Kd.R_base ho0) hb); have n3_ := bf BK270 hb; have n4_ := bf BK271 hb; have n5_ := bp #[.int .i64 t286, .int .i64 t287, .int .i64 t288, .int .i64 t289, .slice Ao44 t290.length co44] BK294 hb; have n6_ := Aside0.mk (below_step (be HB) hb); have HO301 := Aside0.mk (Kd.R_lower (Kd.R_new' (Kd.R_new' ho0 (Kd.R_lt (by (with_reducible repeat (first | apply Kd.R_alloc | apply Kd.R_drewN | apply Kd.R_drew)); exact (Kd.R_mono (Kd.R_far (p := ⟨gb294, 4, none⟩) (Kd.R_far (p := ⟨gb294, 3, none⟩) (Kd.R_far (p := ⟨gb294, 2, none⟩) (Kd.R_far (p := ⟨gb294, 1, none⟩) (Kd.R_far (p := ⟨gb294, 0, none⟩) (Kd.R_types HO280.out BK294.out (by decide)) (fun _ hk => hk.2) (.int .i64 t286)) (fun _ hk => hk.2) (.int .i64 t287)) (fun _ hk => hk.2) (.int .i64 t288)) (fun _ hk => hk.2) (.int .i64 t289)) (fun _ hk => hk.2) (.slice Ao44 t290.length co44)) (fun _ h_ => h_.1))))) (Kd.R_lt (by (with_reducible repeat (first | apply Kd.R_alloc | apply Kd.R_drewN | apply Kd.R_drew)); exact (Kd.R_mono (Kd.R_far (p := ⟨gb294, 4, none⟩) (Kd.R_far (p := ⟨gb294, 3, none⟩) (Kd.R_far (p := ⟨gb294, 2, none⟩) (Kd.R_far (p := ⟨gb294, 1, none⟩) (Kd.R_far (p := ⟨gb294, 0, none⟩) (Kd.R_types HO292.out BK294.out (by decide)) (fun _ hk => hk.2) (.int .i64 t286)) (fun _ hk => hk.2) (.int .i64 t287)) (fun _ hk => hk.2) (.int .i64 t288)) (fun _ hk => hk.2) (.int .i64 t289)) (fun _ hk => hk.2) (.slice Ao44 t290.length co44)) (fun _ h_ => h_.1))))) (below_size (be HB))); clear HO280 HO292 BK270 BK271 BK294 HB; have HO280 := n0_; have HO292 := n1_; have BK270 := n3_; have BK271 := n4_; have BK294 := n5_; have HB := n6_; clear n0_ n1_ n3_ n4_ n5_ n6_; (try clear hb); (try clear hb2); (try clear hk); (try clear hi); (try clear ho0)) | ((with_reducible refine gate_dst (N := 8) rfl ?_); refine box_event ?hg (N := 8) ?hd (cs := #[.int .i64 0, .int .i64 0, .int .i64 0, .int .i64 0, .slice none 0 0]) (t := 62) ?hr ?_; (case hd => rfl); (case hg => rfl); (case hr => first | (go_simp; done) | (go_simp; rfl)); intro gb302 hg w49 hbox hb; have n6_ := Aside0.mk (below_step (be HB) hb); have BK302 := Aside0.mk (hbox); have GW302 := bs HB hg; have GE302 := bs HB hg; have NB270_302 := bl BK270 hg; have NB302_270 := bg BK270 hg; have NB271_302 := bl BK271 hg; have NB302_271 := bg BK271 hg; have NB294_302 := bl BK294 hg; have NB302_294 := bg BK294 hg; replace HO280 := Aside0.mk (Kd.R_below (rr HO280) hb); replace HO292 := Aside0.mk (Kd.R_below (rr HO292) hb); replace HO301 := Aside0.mk (Kd.R_below (rr HO301) hb); replace BK270 := bq BK270 hb; replace BK271 := bq BK271 hb; replace BK294 := bq BK294 hb; clear HB; have HB := n6_; clear n6_; clear hb hbox hg; have hnb50 := NB302_270.out; have hnc50 := NB270_302.out; have hnb51 := NB302_271.out; have hnc51 := NB271_302.out; have hnb52 := NB302_294.out; have hnc52 := NB294_302.out; obtain ⟨hcz53_0, hcz53_1, hcz53_2, hcz53_3, hcz53_4⟩ := cs5 BK302; obtain ⟨hfz53_0, hfz53_1, hfz53_2, hfz53_3, hfz53_4⟩ := fs5 BK302; obtain ⟨Ao54, co54, eo54⟩ := Kd.R_slice HO301.out; subst eo54))
   have n0_ : Aside0 (Kd.R k125 125 (((((w49.setCell ⟨gb302, 0, none⟩ (.int .i64 t295)).setCell ⟨gb302, 1, none⟩ (.int .i64 t296)).setCell ⟨gb302, 2, none⟩ (.int .i64 t297)).setCell ⟨gb302, 3, none⟩ (.int .i64 t298)).setCell ⟨gb302, 4, none⟩ (.slice Ao54 t299.length co54)) w.heap.size (fun k_ => some k_ ≠ (.slice Ao44 t290.length co44 : Value).ownBlock ∧ some k_ ≠ (.slice Ao54 t299.length co54 : Value).ownBlock) v279 t278) := ⟨by (with_reducible repeat (first | apply Kd.R_alloc | apply Kd.R_drewN | apply Kd.R_drew)); exact Kd.R_mono (Kd.R_far (p := ⟨gb302, 4, none⟩) (Kd.R_far (p := ⟨gb302, 3, none⟩) (Kd.R_far (p := ⟨gb302, 2, none⟩) (Kd.R_far (p := ⟨gb302, 1, none⟩) (Kd.R_far (p := ⟨gb302, 0, none⟩) (Kd.R_types HO280.out BK302.out (by decide)) (fun _ hk => hk.2) (.int .i64 t295)) (fun _ hk => hk.2) (.int .i64 t296)) (fun _ hk => hk.2) (.int .i64 t297)) (fun _ hk => hk.2) (.int .i64 t298)) (fun _ hk => hk.2) (.slice Ao54 t299.length co54)) (fun _ hk => ⟨hk.1.1, hk.1.2⟩)⟩
   have n1_ : Aside0 (Kd.R k125 125 (((((w49.setCell ⟨gb302, 0, none⟩ (.int .i64 t295)).setCell ⟨gb302, 1, none⟩ (.int .i64 t296)).setCell ⟨gb302, 2, none⟩ (.int .i64 t297)).setCell ⟨gb302, 3, none⟩ (.int .i64 t298)).setCell ⟨gb302, 4, none⟩ (.slice Ao54 t299.length co54)) w.heap.size (fun k_ => some k_ ≠ (v279 : Value).ownBlock ∧ some k_ ≠ (.slice Ao54 t299.length co54 : Value).ownBlock) (.slice Ao44 t290.length co44) t290) := ⟨by (with_reducible repeat (first | apply Kd.R_alloc | apply Kd.R_drewN | apply Kd.R_drew)); exact Kd.R_mono (Kd.R_far (p := ⟨gb302, 4, none⟩) (Kd.R_far (p := ⟨gb302, 3, none⟩) (Kd.R_far (p := ⟨gb302, 2, none⟩) (Kd.R_far (p := ⟨gb302, 1, none⟩) (Kd.R_far (p := ⟨gb302, 0, none⟩) (Kd.R_types HO292.out BK302.out (by decide)) (fun _ hk => hk.2) (.int .i64 t295)) (fun _ hk => hk.2) (.int .i64 t296)) (fun _ hk => hk.2) (.int .i64 t297)) (fun _ hk => hk.2) (.int .i64 t298)) (fun _ hk => hk.2) (.slice Ao54 t299.length co54)) (fun _ hk => ⟨hk.1.1, hk.1.2⟩)⟩
   have n2_ : Aside0 (Kd.R k125 125 (((((w49.setCell ⟨gb302, 0, none⟩ (.int .i64 t295)).setCell ⟨gb302, 1, none⟩ (.int .i64 t296)).setCell ⟨gb302, 2, none⟩ (.int .i64 t297)).setCell ⟨gb302, 3, none⟩ (.int .i64 t298)).setCell ⟨gb302, 4, none⟩ (.slice Ao54 t299.length co54)) w.heap.size (fun k_ => some k_ ≠ (v279 : Value).ownBlock ∧ some k_ ≠ (.slice Ao44 t290.length co44 : Value).ownBlock) (.slice Ao54 t299.length co54) t299) := ⟨by (with_reducible repeat (first | apply Kd.R_alloc | apply Kd.R_drewN | apply Kd.R_drew)); exact Kd.R_mono (Kd.R_far (p := ⟨gb302, 4, none⟩) (Kd.R_far (p := ⟨gb302, 3, none⟩) (Kd.R_far (p := ⟨gb302, 2, none⟩) (Kd.R_far (p := ⟨gb302, 1, none⟩) (Kd.R_far (p := ⟨gb302, 0, none⟩) (Kd.R_types HO301.out BK302.out (by decide)) (fun _ hk => hk.2) (.int .i64 t295)) (fun _ hk => hk.2) (.int .i64 t296)) (fun _ hk => hk.2) (.int .i64 t297)) (fun _ hk => hk.2) (.int .i64 t298)) (fun _ hk => hk.2) (.slice Ao54 t299.length co54)) (fun _ hk => ⟨hk.1.1.2, hk.1.2⟩)⟩
   have n3_ : Aside0 ((((((w49.setCell ⟨gb302, 0, none⟩ (.int .i64 t295)).setCell ⟨gb302, 1, none⟩ (.int .i64 t296)).setCell ⟨gb302, 2, none⟩ (.int .i64 t297)).setCell ⟨gb302, 3, none⟩ (.int .i64 t298)).setCell ⟨gb302, 4, none⟩ (.slice Ao54 t299.length co54)).heap[gb270]? = some (.cells #[.int .i64 a0_0, .int .i64 a0_1, .int .i64 a0_2, .int .i64 a0_3, .slice A0_4 l0_4.length c0_4] 56 (0, 0))) := ⟨by (with_reducible repeat first | refine bkN ?_ _ | refine bkD ?_ | refine bkA ?_ _ | refine blk_far ?_ NB270_302.out _); exact BK270.out⟩
   have n4_ : Aside0 ((((((w49.setCell ⟨gb302, 0, none⟩ (.int .i64 t295)).setCell ⟨gb302, 1, none⟩ (.int .i64 t296)).setCell ⟨gb302, 2, none⟩ (.int .i64 t297)).setCell ⟨gb302, 3, none⟩ (.int .i64 t298)).setCell ⟨gb302, 4, none⟩ (.slice Ao54 t299.length co54)).heap[gb271]? = some (.cells #[.int .i64 a1_0, .int .i64 a1_1, .int .i64 a1_2, .int .i64 a1_3, .string a1_4] 57 (0, 0))) := ⟨by (with_reducible repeat first | refine bkN ?_ _ | refine bkD ?_ | refine bkA ?_ _ | refine blk_far ?_ NB271_302.out _); exact BK271.out⟩
   have n5_ : Aside0 ((((((w49.setCell ⟨gb302, 0, none⟩ (.int .i64 t295)).setCell ⟨gb302, 1, none⟩ (.int .i64 t296)).setCell ⟨gb302, 2, none⟩ (.int .i64 t297)).setCell ⟨gb302, 3, none⟩ (.int .i64 t298)).setCell ⟨gb302, 4, none⟩ (.slice Ao54 t299.length co54)).heap[gb294]? = some (.cells #[.int .i64 t286, .int .i64 t287, .int .i64 t288, .int .i64 t289, .slice Ao44 t290.length co44] 62 (0, 0))) := ⟨by (with_reducible repeat first | refine bkN ?_ _ | refine bkD ?_ | refine bkA ?_ _ | refine blk_far ?_ NB294_302.out _); exact BK294.out⟩
   have n6_ : Aside0 ((((((w49.setCell ⟨gb302, 0, none⟩ (.int .i64 t295)).setCell ⟨gb302, 1, none⟩ (.int .i64 t296)).setCell ⟨gb302, 2, none⟩ (.int .i64 t297)).setCell ⟨gb302, 3, none⟩ (.int .i64 t298)).setCell ⟨gb302, 4, none⟩ (.slice Ao54 t299.length co54)).heap[gb302]? = some (.cells #[.int .i64 t295, .int .i64 t296, .int .i64 t297, .int .i64 t298, .slice Ao54 t299.length co54] 62 (0, 0))) := ⟨by (with_reducible repeat first | refine bkN ?_ _ | refine bkD ?_ | refine bkA ?_ _); refine blk_put (cs := #[.int .i64 t295, .int .i64 t296, .int .i64 t297, .int .i64 t298, .slice none 0 0]) ?_ 4 _ rfl; (with_reducible repeat first | refine bkN ?_ _ | refine bkD ?_ | refine bkA ?_ _); refine blk_put (cs := #[.int .i64 t295, .int .i64 t296, .int .i64 t297, .int .i64 0, .slice none 0 0]) ?_ 3 _ rfl; (with_reducible repeat first | refine bkN ?_ _ | refine bkD ?_ | refine bkA ?_ _); refine blk_put (cs := #[.int .i64 t295, .int .i64 t296, .int .i64 0, .int .i64 0, .slice none 0 0]) ?_ 2 _ rfl; (with_reducible repeat first | refine bkN ?_ _ | refine bkD ?_ | refine bkA ?_ _); refine blk_put (cs := #[.int .i64 t295, .int .i64 0, .int .i64 0, .int .i64 0, .slice none 0 0]) ?_ 1 _ rfl; (with_reducible repeat first | refine bkN ?_ _ | refine bkD ?_ | refine bkA ?_ _); refine blk_put (cs := #[.int .i64 0, .int .i64 0, .int .i64 0, .int .i64 0, .slice none 0 0]) ?_ 0 _ rfl; (with_reducible repeat first | refine bkN ?_ _ | refine bkD ?_ | refine bkA ?_ _); exact BK302.out⟩
   have n7_ : Aside0 (Below w.heap.size w (((((w49.setCell ⟨gb302, 0, none⟩ (.int .i64 t295)).setCell ⟨gb302, 1, none⟩ (.int .i64 t296)).setCell ⟨gb302, 2, none⟩ (.int .i64 t297)).setCell ⟨gb302, 3, none⟩ (.int .i64 t298)).setCell ⟨gb302, 4, none⟩ (.slice Ao54 t299.length co54))) := ⟨by repeat (first | (with_reducible first | exact HB.out | apply below_alloc | apply pw_below_drewN | apply below_drew1 | refine below_set ?_ GE270.out | refine below_set ?_ GE271.out | refine below_set ?_ GE294.out | refine below_set ?_ GE302.out) | exact HB.out)⟩
   (try clear HO280); (try clear HO292); (try clear HO301); (try clear BK270); (try clear BK271); (try clear BK294); (try clear BK302); (try clear HB); generalize (((((w49.setCell ⟨gb302, 0, none⟩ (.int .i64 t295)).setCell ⟨gb302, 1, none⟩ (.int .i64 t296)).setCell ⟨gb302, 2, none⟩ (.int .i64 t297)).setCell ⟨gb302, 3, none⟩ (.int .i64 t298)).setCell ⟨gb302, 4, none⟩ (.slice Ao54 t299.length co54)) = w55 at n0_ n1_ n2_ n3_ n4_ n5_ n6_ n7_ ⊢
   have HO280 := n0_; have HO292 := n1_; have HO301 := n2_; have BK270 := n3_; have BK271 := n4_; have BK294 := n5_; have BK302 := n6_; have HB := n7_; clear n0_ n1_ n2_ n3_ n4_ n5_ n6_ n7_; have n0_ := Aside0.mk (Kd.R_drew HO280.out)
   have n1_ := Aside0.mk (Kd.R_drew HO292.out)
   have n2_ := Aside0.mk (Kd.R_drew HO301.out)
   have n3_ := Aside0.mk (blk_drew BK270.out)
   have n4_ := Aside0.mk (blk_drew BK271.out)
   have n5_ := Aside0.mk (blk_drew BK294.out)
   have n6_ := Aside0.mk (blk_drew BK302.out)
   have n7_ := Aside0.mk (below_drew1 HB.out)
   clear HO280 HO292 HO301 BK270 BK271 BK294 BK302 HB; have HO280 := n0_; have HO292 := n1_; have HO301 := n2_; have BK270 := n3_; have BK271 := n4_; have BK294 := n5_; have BK302 := n6_; have HB := n7_; clear n0_ n1_ n2_ n3_ n4_ n5_ n6_ n7_; refine start_ (n := 10) (S := fun w' => w'.cell? ⟨gb302, 0, none⟩ = some (.int .i64 t295) ∧ w'.cell? ⟨gb302, 1, none⟩ = some (.int .i64 t296) ∧ w'.cell? ⟨gb302, 2, none⟩ = some (.int .i64 t297) ∧ w'.cell? ⟨gb302, 3, none⟩ = some (.int .i64 t298) ∧ w'.cell? ⟨gb302, 4, none⟩ = some (.slice Ao54 t299.length co54) ∧ w'.cell? ⟨gb271, 0, none⟩ = some (.int .i64 a1_0) ∧ w'.cell? ⟨gb271, 1, none⟩ = some (.int .i64 a1_1) ∧ w'.cell? ⟨gb271, 2, none⟩ = some (.int .i64 a1_2) ∧ w'.cell? ⟨gb271, 3, none⟩ = some (.int .i64 a1_3) ∧ w'.cell? ⟨gb271, 4, none⟩ = some (.string a1_4)) (ds := []) #[false, false, false, false, false, false, false, false, false, false] (by kernel_rfl) rfl rfl ⟨bc BK302 0, bc BK302 1, bc BK302 2, bc BK302 3, bc BK302 4, bc BK271 0, bc BK271 1, bc BK271 2, bc BK271 3, bc BK271 4⟩ (fun hHeld => ?_); refine with_tabW laws_FnExactWalStep.tab10 laws_FnExactWalStep.bits10 (fun HT_ HW_ => ?_)
   generalize w55.drew = w56 at HO280 HO292 HO301 BK270 BK271 BK294 BK302 HB hHeld ⊢
   refine take_ (i := 0) (N := some 37) (v := ?_) (a' := ?_) #[true, false, false, false, false, false, false, false, false, false] rfl rfl (take_ofW HT_.out HW_.out (by kernel_rfl)) (fun _ _ _ h => h) (Or.inl ⟨by rfl, ?_⟩) hHeld ?_ ?_
   rotate_left
   ·rintro w' ⟨s0, s1, s2, s3, s4, s5, s6, s7, s8, s9⟩
    go_simp; with_reducible rfl
   rotate_left
   ·simp only [putL, i64_w, i32_w]; rfl
   refine take_ (i := 1) (N := some 38) (v := ?_) (a' := ?_) #[true, true, false, false, false, false, false, false, false, false] rfl rfl (take_ofW HT_.out HW_.out (by kernel_rfl)) (fun _ _ _ h => h) (Or.inl ⟨by rfl, ?_⟩) hHeld ?_ ?_
   rotate_left
   ·rintro w' ⟨s0, s1, s2, s3, s4, s5, s6, s7, s8, s9⟩
    go_simp; with_reducible rfl
   rotate_left
   ·simp only [putL, i64_w, i32_w]; rfl
   refine join_ (σ := Value × Nat) 2 #[true, true, true, true, true, true, true, true, false, false] (fun s_ => [(39, .agg #[.int .i64 t303, .int .i64 t304, .int .i64 t305, .int .i64 t306, .string t307]), (40, .tuple #[.agg #[.int .i64 t308, .int .i64 t309, .int .i64 t310, .int .i64 t311, s_.1], .bool t315]), (9, .pointer (some ⟨s_.2, 0, none⟩)), (36, .tuple #[.agg #[.int .i64 t308, .int .i64 t309, .int .i64 t310, .int .i64 t311, s_.1], .bool t315]), (41, .agg #[.int .i64 t308, .int .i64 t309, .int .i64 t310, .int .i64 t311, s_.1]), (42, .bool t315)]) (fun s_ w' => (w'.cell? ⟨gb302, 0, none⟩ = some (.int .i64 t295) ∧ w'.cell? ⟨gb302, 1, none⟩ = some (.int .i64 t296) ∧ w'.cell? ⟨gb302, 2, none⟩ = some (.int .i64 t297) ∧ w'.cell? ⟨gb302, 3, none⟩ = some (.int .i64 t298) ∧ w'.cell? ⟨gb302, 4, none⟩ = some (.slice Ao54 t299.length co54) ∧ w'.cell? ⟨gb271, 0, none⟩ = some (.int .i64 a1_0) ∧ w'.cell? ⟨gb271, 1, none⟩ = some (.int .i64 a1_1) ∧ w'.cell? ⟨gb271, 2, none⟩ = some (.int .i64 a1_2) ∧ w'.cell? ⟨gb271, 3, none⟩ = some (.int .i64 a1_3) ∧ w'.cell? ⟨gb271, 4, none⟩ = some (.string a1_4)) ∧ (Kd.R k125 125 w' w.heap.size (fun k_ => some k_ ≠ (.slice Ao44 t290.length co44 : Value).ownBlock ∧ some k_ ≠ (.slice Ao54 t299.length co54 : Value).ownBlock ∧ some k_ ≠ (s_.1 : Value).ownBlock) v279 t278) ∧ (Kd.R k125 125 w' w.heap.size (fun k_ => some k_ ≠ (v279 : Value).ownBlock ∧ some k_ ≠ (.slice Ao54 t299.length co54 : Value).ownBlock ∧ some k_ ≠ (s_.1 : Value).ownBlock) (.slice Ao44 t290.length co44) t290) ∧ (Kd.R k125 125 w' w.heap.size (fun k_ => some k_ ≠ (v279 : Value).ownBlock ∧ some k_ ≠ (.slice Ao44 t290.length co44 : Value).ownBlock ∧ some k_ ≠ (s_.1 : Value).ownBlock) (.slice Ao54 t299.length co54) t299) ∧ (Kd.R k125 125 w' w.heap.size (fun k_ => some k_ ≠ (v279 : Value).ownBlock ∧ some k_ ≠ (.slice Ao44 t290.length co44 : Value).ownBlock ∧ some k_ ≠ (.slice Ao54 t299.length co54 : Value).ownBlock) s_.1 t312) ∧ (w'.heap[gb270]? = some (.cells #[.int .i64 a0_0, .int .i64 a0_1, .int .i64 a0_2, .int .i64 a0_3, .slice A0_4 l0_4.length c0_4] 56 (0, 0))) ∧ (w'.heap[gb271]? = some (.cells #[.int .i64 a1_0, .int .i64 a1_1, .int .i64 a1_2, .int .i64 a1_3, .string a1_4] 57 (0, 0))) ∧ (w'.heap[gb294]? = some (.cells #[.int .i64 t286, .int .i64 t287, .int .i64 t288, .int .i64 t289, .slice Ao44 t290.length co44] 62 (0, 0))) ∧ (w'.heap[gb302]? = some (.cells #[.int .i64 t295, .int .i64 t296, .int .i64 t297, .int .i64 t298, .slice Ao54 t299.length co54] 62 (0, 0))) ∧ (w'.heap[s_.2]? = some (.cells #[.int .i64 0, .int .i64 0, .int .i64 0, .int .i64 0, .slice none 0 0] 62 (0, 0))) ∧ (w.heap.size ≤ s_.2) ∧ (w.heap.size ≤ s_.2) ∧ (gb270 ≠ s_.2) ∧ (s_.2 ≠ gb270) ∧ (gb271 ≠ s_.2) ∧ (s_.2 ≠ gb271) ∧ (gb294 ≠ s_.2) ∧ (s_.2 ≠ gb294) ∧ (gb302 ≠ s_.2) ∧ (s_.2 ≠ gb302) ∧ (Below w.heap.size w w')) ?_ ?_
   rotate_left
   ·intro hCont; refine two_ (i := 2) (j := 7) (Ni := some 39) (Nj := some 9) #[true, true, true, false, false, false, false, false, false, false] #[true, true, false, false, false, false, false, true, false, false] rfl rfl rfl rfl (two_of HT_.out (by kernel_rfl)) (by decide) (by decide) (fun K hK => ?_) (fun K hK => ?_)
    ·skip
     refine goes_ Try.func39 (by kernel_rfl) rfl #[.agg #[.int .i64 a1_0, .int .i64 a1_1, .int .i64 a1_2, .int .i64 a1_3, .string a1_4]] (by rfl) rfl rfl (by (try simp only [List.map_toArray, List.map_cons, List.map_nil]); first | done | rfl | (simp only [List.length_drop, List.length_take]; rfl)) ?_
     with_reducible refine (laws_toRec.calls a1_0 a1_1 a1_2 a1_3 a1_4 t303 t304 t305 t306 t307 _ A23.out).mono ?_
     rintro e w57 ⟨rfl, hb⟩
     refine ⟨_, rfl, ?_⟩
     have n7_ := Aside0.mk (below_step (be HB) hb)
     replace HO280 := Aside0.mk (Kd.R_below (rr HO280) hb); replace HO292 := Aside0.mk (Kd.R_below (rr HO292) hb); replace HO301 := Aside0.mk (Kd.R_below (rr HO301) hb); replace BK270 := bq BK270 hb; replace BK271 := bq BK271 hb; replace BK294 := bq BK294 hb; replace BK302 := bq BK302 hb; clear HB; have HB := n7_; clear n7_; (try clear hb); (try clear hb2); (try clear hk); (try clear hi); refine hK.out _ _ ⟨bc BK302 0, bc BK302 1, bc BK302 2, bc BK302 3, bc BK302 4, bc BK271 0, bc BK271 1, bc BK271 2, bc BK271 3, bc BK271 4⟩ (fun hHeld => ?_)
     clear hK K; refine norm_ (a' := ?_) ?_ ?_
     rotate_left
     ·show Act.put _ (some 39) _ = _
      simp only [putL, i64_w, i32_w]; rfl
     refine two_ (i := 3) (j := 7) (Ni := some 40) (Nj := some 9) #[true, true, true, true, false, false, false, false, false, false] #[true, true, true, false, false, false, false, true, false, false] rfl rfl rfl rfl (two_of HT_.out (by kernel_rfl)) (by decide) (by decide) (fun K hK => ?_) (fun K hK => ?_)
     ·skip
      refine goes_ Try.func40 (by kernel_rfl) rfl #[.agg #[.int .i64 t295, .int .i64 t296, .int .i64 t297, .int .i64 t298, .slice Ao54 t299.length co54], .agg #[.int .i64 t303, .int .i64 t304, .int .i64 t305, .int .i64 t306, .string t307]] (by rfl) rfl rfl (by (try simp only [List.map_toArray, List.map_cons, List.map_nil]); first | done | rfl | (simp only [List.length_drop, List.length_take]; rfl)) ?_
      with_reducible refine (impl_WalStep.calls k t295 t296 t297 t298 _ _ t299 t303 t304 t305 t306 t307 t308 t309 t310 t311 t312 t315 _ ?side1 ?side2 A24.out).mono ?_
      (case side1 => repeat (first | exact (Kd.R_reads' HO301.out).2.2 | (with_reducible refine Kd.C_alloc ?_ _) | (with_reducible refine Kd.C_drewN ?_ _) | (with_reducible refine Kd.C_drew ?_)))
      (case side2 => exact (Kd.R_reads' HO301.out).2.1)
      rintro e w58 ⟨v313, rfl, ho0, hb⟩
      refine ⟨_, rfl, ?_⟩
      have n0_ := Aside0.mk (Kd.R_elder' (rr HO280) (Kd.R_base ho0) hb)
      have n1_ := Aside0.mk (Kd.R_elder' (rr HO292) (Kd.R_base ho0) hb)
      have n2_ := Aside0.mk (Kd.R_elder' (rr HO301) (Kd.R_base ho0) hb)
      have n8_ := Aside0.mk (below_step (be HB) hb)
      have HO314 := Aside0.mk (Kd.R_lower (Kd.R_new' (Kd.R_new' (Kd.R_new' ho0 (Kd.R_lt (rr HO280))) (Kd.R_lt (rr HO292))) (Kd.R_lt (rr HO301))) (below_size (be HB)))
      replace BK270 := bq BK270 hb; replace BK271 := bq BK271 hb; replace BK294 := bq BK294 hb; replace BK302 := bq BK302 hb; clear HO280 HO292 HO301 HB; have HO280 := n0_; have HO292 := n1_; have HO301 := n2_; have HB := n8_; clear n0_ n1_ n2_ n8_; (try clear hb); (try clear hb2); (try clear hk); (try clear hi); (try clear ho0); refine hK.out _ _ ⟨bc BK302 0, bc BK302 1, bc BK302 2, bc BK302 3, bc BK302 4, bc BK271 0, bc BK271 1, bc BK271 2, bc BK271 3, bc BK271 4⟩ (fun hHeld => ?_)
      clear hK K; refine norm_ (a' := ?_) ?_ ?_
      rotate_left
      ·show Act.put _ (some 40) _ = _
       simp only [putL, i64_w, i32_w]; rfl
      refine pure_ (i := 4) (N := some 36) (v := ?_) (a' := ?_) #[true, true, true, true, true, false, false, false, false, false] rfl rfl (any_of HT_.out (by kernel_rfl)) (fun _ _ _ h => h) (Or.inl ⟨by rfl, ?_⟩) ?_ ?_
      rotate_left
      ·intro w'; go_simp; with_reducible rfl
      rotate_left
      ·simp only [putL, i64_w, i32_w]; rfl
      refine pure_ (i := 5) (N := some 41) (v := ?_) (a' := ?_) #[true, true, true, true, true, true, false, false, false, false] rfl rfl (any_of HT_.out (by kernel_rfl)) (fun _ _ _ h => h) (Or.inl ⟨by rfl, ?_⟩) ?_ ?_
      rotate_left
      ·intro w'; go_simp; with_reducible rfl
      rotate_left
      ·simp only [putL, i64_w, i32_w]; rfl
      refine pure_ (i := 6) (N := some 42) (v := ?_) (a' := ?_) #[true, true, true, true, true, true, true, false, false, false] rfl rfl (any_of HT_.out (by kernel_rfl)) (fun _ _ _ h => h) (Or.inl ⟨by rfl, ?_⟩) ?_ ?_
      rotate_left
      ·intro w'; go_simp; with_reducible rfl
      rotate_left
      ·simp only [putL, i64_w, i32_w]; rfl
      refine one_ (i := 7) (N := some 9) #[true, true, true, true, true, true, true, true, false, false] rfl rfl (one_of HT_.out (by kernel_rfl)) (by decide) (fun K hK => ?_)
      refine box_step ?hg (N := 9) ?hd (cs := #[.int .i64 0, .int .i64 0, .int .i64 0, .int .i64 0, .slice none 0 0]) (t := 62) ?hr ?_; (case hd => rfl); (case hg => rfl); (case hr => first | (go_simp; done) | (go_simp; rfl))
      intro gb316 hg w59 hbox hb
      have n8_ := Aside0.mk (below_step (be HB) hb)
      have BK316 := Aside0.mk (hbox)
      have GW316 := bs HB hg; have GE316 := bs HB hg; have NB270_316 := bl BK270 hg; have NB316_270 := bg BK270 hg; have NB271_316 := bl BK271 hg; have NB316_271 := bg BK271 hg; have NB294_316 := bl BK294 hg; have NB316_294 := bg BK294 hg; have NB302_316 := bl BK302 hg; have NB316_302 := bg BK302 hg; replace HO280 := Aside0.mk (Kd.R_below (rr HO280) hb); replace HO292 := Aside0.mk (Kd.R_below (rr HO292) hb); replace HO301 := Aside0.mk (Kd.R_below (rr HO301) hb); replace HO314 := Aside0.mk (Kd.R_below (rr HO314) hb); replace BK270 := bq BK270 hb; replace BK271 := bq BK271 hb; replace BK294 := bq BK294 hb; replace BK302 := bq BK302 hb; clear HB; have HB := n8_; clear n8_; clear hb hbox hg; refine hK.out _ _ ⟨bc BK302 0, bc BK302 1, bc BK302 2, bc BK302 3, bc BK302 4, bc BK271 0, bc BK271 1, bc BK271 2, bc BK271 3, bc BK271 4⟩ (fun hHeld => ?_)
      clear hK K; refine norm_ (a' := ?_) ?_ ?_
      rotate_left
      ·show Act.put _ (some 9) _ = _
       simp only [putL, i64_w, i32_w]; rfl
      exact norm_ (by simp only [putAll, putL]) (hCont (v313, gb316) _ ⟨hHeld, (by (with_reducible repeat (first | apply Kd.R_alloc | apply Kd.R_drewN | apply Kd.R_drew)); exact Kd.R_mono HO280.out (fun _ hk => ⟨hk.1.1, ⟨hk.1.2, hk.2⟩⟩)), (by (with_reducible repeat (first | apply Kd.R_alloc | apply Kd.R_drewN | apply Kd.R_drew)); exact Kd.R_mono HO292.out (fun _ hk => ⟨hk.1.1, ⟨hk.1.2, hk.2⟩⟩)), (by (with_reducible repeat (first | apply Kd.R_alloc | apply Kd.R_drewN | apply Kd.R_drew)); exact Kd.R_mono HO301.out (fun _ hk => ⟨hk.1.1, ⟨hk.1.2, hk.2⟩⟩)), (by (with_reducible repeat (first | apply Kd.R_alloc | apply Kd.R_drewN | apply Kd.R_drew)); exact Kd.R_mono HO314.out (fun _ hk => ⟨hk.1.1.2, ⟨hk.1.2, hk.2⟩⟩)), (by (with_reducible repeat first | refine bkN ?_ _ | refine bkD ?_ | refine bkA ?_ _); exact BK270.out), (by (with_reducible repeat first | refine bkN ?_ _ | refine bkD ?_ | refine bkA ?_ _); exact BK271.out), (by (with_reducible repeat first | refine bkN ?_ _ | refine bkD ?_ | refine bkA ?_ _); exact BK294.out), (by (with_reducible repeat first | refine bkN ?_ _ | refine bkD ?_ | refine bkA ?_ _); exact BK302.out), (by (with_reducible repeat first | refine bkN ?_ _ | refine bkD ?_ | refine bkA ?_ _); exact BK316.out), GW316.out, GE316.out, NB270_316.out, NB316_270.out, NB271_316.out, NB316_271.out, NB294_316.out, NB316_294.out, NB302_316.out, NB316_302.out, (be HB)⟩)
     ·skip
      refine box_step ?hg (N := 9) ?hd (cs := #[.int .i64 0, .int .i64 0, .int .i64 0, .int .i64 0, .slice none 0 0]) (t := 62) ?hr ?_; (case hd => rfl); (case hg => rfl); (case hr => first | (go_simp; done) | (go_simp; rfl))
      intro gb316 hg w58 hbox hb
      have n7_ := Aside0.mk (below_step (be HB) hb)
      have BK316 := Aside0.mk (hbox)
      have GW316 := bs HB hg; have GE316 := bs HB hg; have NB270_316 := bl BK270 hg; have NB316_270 := bg BK270 hg; have NB271_316 := bl BK271 hg; have NB316_271 := bg BK271 hg; have NB294_316 := bl BK294 hg; have NB316_294 := bg BK294 hg; have NB302_316 := bl BK302 hg; have NB316_302 := bg BK302 hg; replace HO280 := Aside0.mk (Kd.R_below (rr HO280) hb); replace HO292 := Aside0.mk (Kd.R_below (rr HO292) hb); replace HO301 := Aside0.mk (Kd.R_below (rr HO301) hb); replace BK270 := bq BK270 hb; replace BK271 := bq BK271 hb; replace BK294 := bq BK294 hb; replace BK302 := bq BK302 hb; clear HB; have HB := n7_; clear n7_; clear hb hbox hg; refine hK.out _ _ ⟨bc BK302 0, bc BK302 1, bc BK302 2, bc BK302 3, bc BK302 4, bc BK271 0, bc BK271 1, bc BK271 2, bc BK271 3, bc BK271 4⟩ (fun hHeld => ?_)
      clear hK K; refine norm_ (a' := ?_) ?_ ?_
      rotate_left
      ·show Act.put _ (some 9) _ = _
       simp only [putL, i64_w, i32_w]; rfl
      refine one_ (i := 3) (N := some 40) #[true, true, true, true, false, false, false, true, false, false] rfl rfl (one_of HT_.out (by kernel_rfl)) (by decide) (fun K hK => ?_)
      refine goes_ Try.func40 (by kernel_rfl) rfl #[.agg #[.int .i64 t295, .int .i64 t296, .int .i64 t297, .int .i64 t298, .slice Ao54 t299.length co54], .agg #[.int .i64 t303, .int .i64 t304, .int .i64 t305, .int .i64 t306, .string t307]] (by rfl) rfl rfl (by (try simp only [List.map_toArray, List.map_cons, List.map_nil]); first | done | rfl | (simp only [List.length_drop, List.length_take]; rfl)) ?_
      with_reducible refine (impl_WalStep.calls k t295 t296 t297 t298 _ _ t299 t303 t304 t305 t306 t307 t308 t309 t310 t311 t312 t315 _ ?side1 ?side2 A24.out).mono ?_
      (case side1 => repeat (first | exact (Kd.R_reads' HO301.out).2.2 | (with_reducible refine Kd.C_alloc ?_ _) | (with_reducible refine Kd.C_drewN ?_ _) | (with_reducible refine Kd.C_drew ?_)))
      (case side2 => exact (Kd.R_reads' HO301.out).2.1)
      rintro e w59 ⟨v313, rfl, ho0, hb⟩
      refine ⟨_, rfl, ?_⟩
      have n0_ := Aside0.mk (Kd.R_elder' (rr HO280) (Kd.R_base ho0) hb)
      have n1_ := Aside0.mk (Kd.R_elder' (rr HO292) (Kd.R_base ho0) hb)
      have n2_ := Aside0.mk (Kd.R_elder' (rr HO301) (Kd.R_base ho0) hb)
      have n9_ := Aside0.mk (below_step (be HB) hb)
      have HO314 := Aside0.mk (Kd.R_lower (Kd.R_new' (Kd.R_new' (Kd.R_new' ho0 (Kd.R_lt (rr HO280))) (Kd.R_lt (rr HO292))) (Kd.R_lt (rr HO301))) (below_size (be HB)))
      replace BK270 := bq BK270 hb; replace BK271 := bq BK271 hb; replace BK294 := bq BK294 hb; replace BK302 := bq BK302 hb; replace BK316 := bq BK316 hb; clear HO280 HO292 HO301 HB; have HO280 := n0_; have HO292 := n1_; have HO301 := n2_; have HB := n9_; clear n0_ n1_ n2_ n9_; (try clear hb); (try clear hb2); (try clear hk); (try clear hi); (try clear ho0); refine hK.out _ _ ⟨bc BK302 0, bc BK302 1, bc BK302 2, bc BK302 3, bc BK302 4, bc BK271 0, bc BK271 1, bc BK271 2, bc BK271 3, bc BK271 4⟩ (fun hHeld => ?_)
      clear hK K; refine norm_ (a' := ?_) ?_ ?_
      rotate_left
      ·show Act.put _ (some 40) _ = _
       simp only [putL, i64_w, i32_w]; rfl
      refine pure_ (i := 4) (N := some 36) (v := ?_) (a' := ?_) #[true, true, true, true, true, false, false, true, false, false] rfl rfl (any_of HT_.out (by kernel_rfl)) (fun _ _ _ h => h) (Or.inl ⟨by rfl, ?_⟩) ?_ ?_
      rotate_left
      ·intro w'; go_simp; with_reducible rfl
      rotate_left
      ·simp only [putL, i64_w, i32_w]; rfl
      refine pure_ (i := 5) (N := some 41) (v := ?_) (a' := ?_) #[true, true, true, true, true, true, false, true, false, false] rfl rfl (any_of HT_.out (by kernel_rfl)) (fun _ _ _ h => h) (Or.inl ⟨by rfl, ?_⟩) ?_ ?_
      rotate_left
      ·intro w'; go_simp; with_reducible rfl
      rotate_left
      ·simp only [putL, i64_w, i32_w]; rfl
      refine pure_ (i := 6) (N := some 42) (v := ?_) (a' := ?_) #[true, true, true, true, true, true, true, true, false, false] rfl rfl (any_of HT_.out (by kernel_rfl)) (fun _ _ _ h => h) (Or.inl ⟨by rfl, ?_⟩) ?_ ?_
      rotate_left
      ·intro w'; go_simp; with_reducible rfl
      rotate_left
      ·simp only [putL, i64_w, i32_w]; rfl
      exact norm_ (by simp only [putAll, putL]) (hCont (v313, gb316) _ ⟨hHeld, (by (with_reducible repeat (first | apply Kd.R_alloc | apply Kd.R_drewN | apply Kd.R_drew)); exact Kd.R_mono HO280.out (fun _ hk => ⟨hk.1.1, ⟨hk.1.2, hk.2⟩⟩)), (by (with_reducible repeat (first | apply Kd.R_alloc | apply Kd.R_drewN | apply Kd.R_drew)); exact Kd.R_mono HO292.out (fun _ hk => ⟨hk.1.1, ⟨hk.1.2, hk.2⟩⟩)), (by (with_reducible repeat (first | apply Kd.R_alloc | apply Kd.R_drewN | apply Kd.R_drew)); exact Kd.R_mono HO301.out (fun _ hk => ⟨hk.1.1, ⟨hk.1.2, hk.2⟩⟩)), (by (with_reducible repeat (first | apply Kd.R_alloc | apply Kd.R_drewN | apply Kd.R_drew)); exact Kd.R_mono HO314.out (fun _ hk => ⟨hk.1.1.2, ⟨hk.1.2, hk.2⟩⟩)), (by (with_reducible repeat first | refine bkN ?_ _ | refine bkD ?_ | refine bkA ?_ _); exact BK270.out), (by (with_reducible repeat first | refine bkN ?_ _ | refine bkD ?_ | refine bkA ?_ _); exact BK271.out), (by (with_reducible repeat first | refine bkN ?_ _ | refine bkD ?_ | refine bkA ?_ _); exact BK294.out), (by (with_reducible repeat first | refine bkN ?_ _ | refine bkD ?_ | refine bkA ?_ _); exact BK302.out), (by (with_reducible repeat first | refine bkN ?_ _ | refine bkD ?_ | refine bkA ?_ _); exact BK316.out), GW316.out, GE316.out, NB270_316.out, NB316_270.out, NB271_316.out, NB316_271.out, NB294_316.out, NB316_294.out, NB302_316.out, NB316_302.out, (be HB)⟩)
    ·skip
     refine box_step ?hg (N := 9) ?hd (cs := #[.int .i64 0, .int .i64 0, .int .i64 0, .int .i64 0, .slice none 0 0]) (t := 62) ?hr ?_; (case hd => rfl); (case hg => rfl); (case hr => first | (go_simp; done) | (go_simp; rfl))
     intro gb316 hg w57 hbox hb
     have n7_ := Aside0.mk (below_step (be HB) hb)
     have BK316 := Aside0.mk (hbox)
     have GW316 := bs HB hg; have GE316 := bs HB hg; have NB270_316 := bl BK270 hg; have NB316_270 := bg BK270 hg; have NB271_316 := bl BK271 hg; have NB316_271 := bg BK271 hg; have NB294_316 := bl BK294 hg; have NB316_294 := bg BK294 hg; have NB302_316 := bl BK302 hg; have NB316_302 := bg BK302 hg; replace HO280 := Aside0.mk (Kd.R_below (rr HO280) hb); replace HO292 := Aside0.mk (Kd.R_below (rr HO292) hb); replace HO301 := Aside0.mk (Kd.R_below (rr HO301) hb); replace BK270 := bq BK270 hb; replace BK271 := bq BK271 hb; replace BK294 := bq BK294 hb; replace BK302 := bq BK302 hb; clear HB; have HB := n7_; clear n7_; clear hb hbox hg; refine hK.out _ _ ⟨bc BK302 0, bc BK302 1, bc BK302 2, bc BK302 3, bc BK302 4, bc BK271 0, bc BK271 1, bc BK271 2, bc BK271 3, bc BK271 4⟩ (fun hHeld => ?_)
     clear hK K; refine norm_ (a' := ?_) ?_ ?_
     rotate_left
     ·show Act.put _ (some 9) _ = _
      simp only [putL, i64_w, i32_w]; rfl
     refine one_ (i := 2) (N := some 39) #[true, true, true, false, false, false, false, true, false, false] rfl rfl (one_of HT_.out (by kernel_rfl)) (by decide) (fun K hK => ?_)
     refine goes_ Try.func39 (by kernel_rfl) rfl #[.agg #[.int .i64 a1_0, .int .i64 a1_1, .int .i64 a1_2, .int .i64 a1_3, .string a1_4]] (by rfl) rfl rfl (by (try simp only [List.map_toArray, List.map_cons, List.map_nil]); first | done | rfl | (simp only [List.length_drop, List.length_take]; rfl)) ?_
     with_reducible refine (laws_toRec.calls a1_0 a1_1 a1_2 a1_3 a1_4 t303 t304 t305 t306 t307 _ A23.out).mono ?_
     rintro e w58 ⟨rfl, hb⟩
     refine ⟨_, rfl, ?_⟩
     have n8_ := Aside0.mk (below_step (be HB) hb)
     replace HO280 := Aside0.mk (Kd.R_below (rr HO280) hb); replace HO292 := Aside0.mk (Kd.R_below (rr HO292) hb); replace HO301 := Aside0.mk (Kd.R_below (rr HO301) hb); replace BK270 := bq BK270 hb; replace BK271 := bq BK271 hb; replace BK294 := bq BK294 hb; replace BK302 := bq BK302 hb; replace BK316 := bq BK316 hb; clear HB; have HB := n8_; clear n8_; (try clear hb); (try clear hb2); (try clear hk); (try clear hi); refine hK.out _ _ ⟨bc BK302 0, bc BK302 1, bc BK302 2, bc BK302 3, bc BK302 4, bc BK271 0, bc BK271 1, bc BK271 2, bc BK271 3, bc BK271 4⟩ (fun hHeld => ?_)
     clear hK K; refine norm_ (a' := ?_) ?_ ?_
     rotate_left
     ·show Act.put _ (some 39) _ = _
      simp only [putL, i64_w, i32_w]; rfl
     refine one_ (i := 3) (N := some 40) #[true, true, true, true, false, false, false, true, false, false] rfl rfl (one_of HT_.out (by kernel_rfl)) (by decide) (fun K hK => ?_)
     refine goes_ Try.func40 (by kernel_rfl) rfl #[.agg #[.int .i64 t295, .int .i64 t296, .int .i64 t297, .int .i64 t298, .slice Ao54 t299.length co54], .agg #[.int .i64 t303, .int .i64 t304, .int .i64 t305, .int .i64 t306, .string t307]] (by rfl) rfl rfl (by (try simp only [List.map_toArray, List.map_cons, List.map_nil]); first | done | rfl | (simp only [List.length_drop, List.length_take]; rfl)) ?_
     with_reducible refine (impl_WalStep.calls k t295 t296 t297 t298 _ _ t299 t303 t304 t305 t306 t307 t308 t309 t310 t311 t312 t315 _ ?side1 ?side2 A24.out).mono ?_
     (case side1 => repeat (first | exact (Kd.R_reads' HO301.out).2.2 | (with_reducible refine Kd.C_alloc ?_ _) | (with_reducible refine Kd.C_drewN ?_ _) | (with_reducible refine Kd.C_drew ?_)))
     (case side2 => exact (Kd.R_reads' HO301.out).2.1)
     rintro e w59 ⟨v313, rfl, ho0, hb⟩
     refine ⟨_, rfl, ?_⟩
     have n0_ := Aside0.mk (Kd.R_elder' (rr HO280) (Kd.R_base ho0) hb)
     have n1_ := Aside0.mk (Kd.R_elder' (rr HO292) (Kd.R_base ho0) hb)
     have n2_ := Aside0.mk (Kd.R_elder' (rr HO301) (Kd.R_base ho0) hb)
     have n9_ := Aside0.mk (below_step (be HB) hb)
     have HO314 := Aside0.mk (Kd.R_lower (Kd.R_new' (Kd.R_new' (Kd.R_new' ho0 (Kd.R_lt (rr HO280))) (Kd.R_lt (rr HO292))) (Kd.R_lt (rr HO301))) (below_size (be HB)))
     replace BK270 := bq BK270 hb; replace BK271 := bq BK271 hb; replace BK294 := bq BK294 hb; replace BK302 := bq BK302 hb; replace BK316 := bq BK316 hb; clear HO280 HO292 HO301 HB; have HO280 := n0_; have HO292 := n1_; have HO301 := n2_; have HB := n9_; clear n0_ n1_ n2_ n9_; (try clear hb); (try clear hb2); (try clear hk); (try clear hi); (try clear ho0); refine hK.out _ _ ⟨bc BK302 0, bc BK302 1, bc BK302 2, bc BK302 3, bc BK302 4, bc BK271 0, bc BK271 1, bc BK271 2, bc BK271 3, bc BK271 4⟩ (fun hHeld => ?_)
     clear hK K; refine norm_ (a' := ?_) ?_ ?_
     rotate_left
     ·show Act.put _ (some 40) _ = _
      simp only [putL, i64_w, i32_w]; rfl
     refine pure_ (i := 4) (N := some 36) (v := ?_) (a' := ?_) #[true, true, true, true, true, false, false, true, false, false] rfl rfl (any_of HT_.out (by kernel_rfl)) (fun _ _ _ h => h) (Or.inl ⟨by rfl, ?_⟩) ?_ ?_
     rotate_left
     ·intro w'; go_simp; with_reducible rfl
     rotate_left
     ·simp only [putL, i64_w, i32_w]; rfl
     refine pure_ (i := 5) (N := some 41) (v := ?_) (a' := ?_) #[true, true, true, true, true, true, false, true, false, false] rfl rfl (any_of HT_.out (by kernel_rfl)) (fun _ _ _ h => h) (Or.inl ⟨by rfl, ?_⟩) ?_ ?_
     rotate_left
     ·intro w'; go_simp; with_reducible rfl
     rotate_left
     ·simp only [putL, i64_w, i32_w]; rfl
     refine pure_ (i := 6) (N := some 42) (v := ?_) (a' := ?_) #[true, true, true, true, true, true, true, true, false, false] rfl rfl (any_of HT_.out (by kernel_rfl)) (fun _ _ _ h => h) (Or.inl ⟨by rfl, ?_⟩) ?_ ?_
     rotate_left
     ·intro w'; go_simp; with_reducible rfl
     rotate_left
     ·simp only [putL, i64_w, i32_w]; rfl
     exact norm_ (by simp only [putAll, putL]) (hCont (v313, gb316) _ ⟨hHeld, (by (with_reducible repeat (first | apply Kd.R_alloc | apply Kd.R_drewN | apply Kd.R_drew)); exact Kd.R_mono HO280.out (fun _ hk => ⟨hk.1.1, ⟨hk.1.2, hk.2⟩⟩)), (by (with_reducible repeat (first | apply Kd.R_alloc | apply Kd.R_drewN | apply Kd.R_drew)); exact Kd.R_mono HO292.out (fun _ hk => ⟨hk.1.1, ⟨hk.1.2, hk.2⟩⟩)), (by (with_reducible repeat (first | apply Kd.R_alloc | apply Kd.R_drewN | apply Kd.R_drew)); exact Kd.R_mono HO301.out (fun _ hk => ⟨hk.1.1, ⟨hk.1.2, hk.2⟩⟩)), (by (with_reducible repeat (first | apply Kd.R_alloc | apply Kd.R_drewN | apply Kd.R_drew)); exact Kd.R_mono HO314.out (fun _ hk => ⟨hk.1.1.2, ⟨hk.1.2, hk.2⟩⟩)), (by (with_reducible repeat first | refine bkN ?_ _ | refine bkD ?_ | refine bkA ?_ _); exact BK270.out), (by (with_reducible repeat first | refine bkN ?_ _ | refine bkD ?_ | refine bkA ?_ _); exact BK271.out), (by (with_reducible repeat first | refine bkN ?_ _ | refine bkD ?_ | refine bkA ?_ _); exact BK294.out), (by (with_reducible repeat first | refine bkN ?_ _ | refine bkD ?_ | refine bkA ?_ _); exact BK302.out), (by (with_reducible repeat first | refine bkN ?_ _ | refine bkD ?_ | refine bkA ?_ _); exact BK316.out), GW316.out, GE316.out, NB270_316.out, NB316_270.out, NB271_316.out, NB316_271.out, NB294_316.out, NB316_294.out, NB302_316.out, NB316_302.out, (be HB)⟩)
   rintro ⟨v313, gb316⟩ w60 ⟨hS_, h0_, h1_, h2_, h3_, h4_, h5_, h6_, h7_, h8_, h9_, h10_, h11_, h12_, h13_, h14_, h15_, h16_, h17_, h18_, h19_⟩
   have n0_ : Aside0 (Kd.R k125 125 w60 w.heap.size (fun k_ => some k_ ≠ (.slice Ao44 t290.length co44 : Value).ownBlock ∧ some k_ ≠ (.slice Ao54 t299.length co54 : Value).ownBlock ∧ some k_ ≠ (v313 : Value).ownBlock) v279 t278) := ⟨h0_⟩
   have n1_ : Aside0 (Kd.R k125 125 w60 w.heap.size (fun k_ => some k_ ≠ (v279 : Value).ownBlock ∧ some k_ ≠ (.slice Ao54 t299.length co54 : Value).ownBlock ∧ some k_ ≠ (v313 : Value).ownBlock) (.slice Ao44 t290.length co44) t290) := ⟨h1_⟩
   have n2_ : Aside0 (Kd.R k125 125 w60 w.heap.size (fun k_ => some k_ ≠ (v279 : Value).ownBlock ∧ some k_ ≠ (.slice Ao44 t290.length co44 : Value).ownBlock ∧ some k_ ≠ (v313 : Value).ownBlock) (.slice Ao54 t299.length co54) t299) := ⟨h2_⟩
   have n3_ : Aside0 (Kd.R k125 125 w60 w.heap.size (fun k_ => some k_ ≠ (v279 : Value).ownBlock ∧ some k_ ≠ (.slice Ao44 t290.length co44 : Value).ownBlock ∧ some k_ ≠ (.slice Ao54 t299.length co54 : Value).ownBlock) v313 t312) := ⟨h3_⟩
   have n4_ : Aside0 (w60.heap[gb270]? = some (.cells #[.int .i64 a0_0, .int .i64 a0_1, .int .i64 a0_2, .int .i64 a0_3, .slice A0_4 l0_4.length c0_4] 56 (0, 0))) := ⟨h4_⟩
   have n5_ : Aside0 (w60.heap[gb271]? = some (.cells #[.int .i64 a1_0, .int .i64 a1_1, .int .i64 a1_2, .int .i64 a1_3, .string a1_4] 57 (0, 0))) := ⟨h5_⟩
   have n6_ : Aside0 (w60.heap[gb294]? = some (.cells #[.int .i64 t286, .int .i64 t287, .int .i64 t288, .int .i64 t289, .slice Ao44 t290.length co44] 62 (0, 0))) := ⟨h6_⟩
   have n7_ : Aside0 (w60.heap[gb302]? = some (.cells #[.int .i64 t295, .int .i64 t296, .int .i64 t297, .int .i64 t298, .slice Ao54 t299.length co54] 62 (0, 0))) := ⟨h7_⟩
   have n8_ : Aside0 (w60.heap[gb316]? = some (.cells #[.int .i64 0, .int .i64 0, .int .i64 0, .int .i64 0, .slice none 0 0] 62 (0, 0))) := ⟨h8_⟩
   have n9_ : Aside0 (w.heap.size ≤ gb316) := ⟨h9_⟩
   have n10_ : Aside0 (w.heap.size ≤ gb316) := ⟨h10_⟩
   have n11_ : Aside0 (gb270 ≠ gb316) := ⟨h11_⟩
   have n12_ : Aside0 (gb316 ≠ gb270) := ⟨h12_⟩
   have n13_ : Aside0 (gb271 ≠ gb316) := ⟨h13_⟩
   have n14_ : Aside0 (gb316 ≠ gb271) := ⟨h14_⟩
   have n15_ : Aside0 (gb294 ≠ gb316) := ⟨h15_⟩
   have n16_ : Aside0 (gb316 ≠ gb294) := ⟨h16_⟩
   have n17_ : Aside0 (gb302 ≠ gb316) := ⟨h17_⟩
   have n18_ : Aside0 (gb316 ≠ gb302) := ⟨h18_⟩
   have n19_ : Aside0 (Below w.heap.size w w60) := ⟨h19_⟩
   clear HO280; clear HO292; clear HO301; clear BK270; clear BK271; clear BK294; clear BK302; clear HB; clear h0_ h1_ h2_ h3_ h4_ h5_ h6_ h7_ h8_ h9_ h10_ h11_ h12_ h13_ h14_ h15_ h16_ h17_ h18_ h19_; have HO280 := n0_; have HO292 := n1_; have HO301 := n2_; have HO314 := n3_; have BK270 := n4_; have BK271 := n5_; have BK294 := n6_; have BK302 := n7_; have BK316 := n8_; have GW316 := n9_; have GE316 := n10_; have NB270_316 := n11_; have NB316_270 := n12_; have NB271_316 := n13_; have NB316_271 := n14_; have NB294_316 := n15_; have NB316_294 := n16_; have NB302_316 := n17_; have NB316_302 := n18_; have HB := n19_; clear n0_ n1_ n2_ n3_ n4_ n5_ n6_ n7_ n8_ n9_ n10_ n11_ n12_ n13_ n14_ n15_ n16_ n17_ n18_ n19_; have hHeld : w60.cell? ⟨gb302, 0, none⟩ = some (.int .i64 t295) ∧ w60.cell? ⟨gb302, 1, none⟩ = some (.int .i64 t296) ∧ w60.cell? ⟨gb302, 2, none⟩ = some (.int .i64 t297) ∧ w60.cell? ⟨gb302, 3, none⟩ = some (.int .i64 t298) ∧ w60.cell? ⟨gb302, 4, none⟩ = some (.slice Ao54 t299.length co54) ∧ w60.cell? ⟨gb271, 0, none⟩ = some (.int .i64 a1_0) ∧ w60.cell? ⟨gb271, 1, none⟩ = some (.int .i64 a1_1) ∧ w60.cell? ⟨gb271, 2, none⟩ = some (.int .i64 a1_2) ∧ w60.cell? ⟨gb271, 3, none⟩ = some (.int .i64 a1_3) ∧ w60.cell? ⟨gb271, 4, none⟩ = some (.string a1_4) := hS_
   obtain ⟨Ao65, co65, eo65⟩ := Kd.R_slice HO314.out
   (first | subst eo65 | (injection eo65 with f1_ f2_ f3_; have f4_ := f1_.symm; have f5_ := f3_.symm; clear f1_ f2_ f3_; subst f4_; subst f5_))
   refine norm_ (a' := ?_) ?_ ?_
   rotate_left
   ·simp only [putAll, putL]; rfl
   refine one_ (i := 8) (N := none) #[true, true, true, true, true, true, true, true, true, false] rfl rfl (one_of HT_.out (by kernel_rfl)) (by decide) (fun K hK => ?_)
   have hs61 : w60.cell? ⟨gb316, 0, none⟩ = some (.int .i64 0) := bc BK316 0
   have hfs61 := blk_frozen BK316.out 0; have hns61_0 := NB270_316.out; have hns61_1 := NB271_316.out; have hns61_2 := NB294_316.out; have hns61_3 := NB302_316.out; have hms61_0 := NB316_270.out; have hms61_1 := NB316_271.out; have hms61_2 := NB316_294.out; have hms61_3 := NB316_302.out; have hs62 : w60.cell? ⟨gb316, 1, none⟩ = some (.int .i64 0) := bc BK316 1
   have hfs62 := blk_frozen BK316.out 1; have hns62_0 := NB270_316.out; have hns62_1 := NB271_316.out; have hns62_2 := NB294_316.out; have hns62_3 := NB302_316.out; have hms62_0 := NB316_270.out; have hms62_1 := NB316_271.out; have hms62_2 := NB316_294.out; have hms62_3 := NB316_302.out; have hs63 : w60.cell? ⟨gb316, 2, none⟩ = some (.int .i64 0) := bc BK316 2
   have hfs63 := blk_frozen BK316.out 2; have hns63_0 := NB270_316.out; have hns63_1 := NB271_316.out; have hns63_2 := NB294_316.out; have hns63_3 := NB302_316.out; have hms63_0 := NB316_270.out; have hms63_1 := NB316_271.out; have hms63_2 := NB316_294.out; have hms63_3 := NB316_302.out; have hs64 : w60.cell? ⟨gb316, 3, none⟩ = some (.int .i64 0) := bc BK316 3
   have hfs64 := blk_frozen BK316.out 3; have hns64_0 := NB270_316.out; have hns64_1 := NB271_316.out; have hns64_2 := NB294_316.out; have hns64_3 := NB302_316.out; have hms64_0 := NB316_270.out; have hms64_1 := NB316_271.out; have hms64_2 := NB316_294.out; have hms64_3 := NB316_302.out; have hs66 : w60.cell? ⟨gb316, 4, none⟩ = some (.slice none 0 0) := bc BK316 4
   have hfs66 := blk_frozen BK316.out 4; have hns66_0 := NB270_316.out; have hns66_1 := NB271_316.out; have hns66_2 := NB294_316.out; have hns66_3 := NB302_316.out; have hms66_0 := NB316_270.out; have hms66_1 := NB316_271.out; have hms66_2 := NB316_294.out; have hms66_3 := NB316_302.out; refine skip_ (w1 := ?_) (by rfl) rfl ?_ ?_
   rotate_left
   ·go_simp; rfl
   refine hK.out _ _ ⟨((cell_far (p := ⟨gb316, _, none⟩) NB302_316.out _).trans (((cell_far (p := ⟨gb316, _, none⟩) NB302_316.out _).trans (((cell_far (p := ⟨gb316, _, none⟩) NB302_316.out _).trans (((cell_far (p := ⟨gb316, _, none⟩) NB302_316.out _).trans (((cell_far (p := ⟨gb316, _, none⟩) NB302_316.out _).trans (hHeld.1)))))))))), ((cell_far (p := ⟨gb316, _, none⟩) NB302_316.out _).trans (((cell_far (p := ⟨gb316, _, none⟩) NB302_316.out _).trans (((cell_far (p := ⟨gb316, _, none⟩) NB302_316.out _).trans (((cell_far (p := ⟨gb316, _, none⟩) NB302_316.out _).trans (((cell_far (p := ⟨gb316, _, none⟩) NB302_316.out _).trans (hHeld.2.1)))))))))), ((cell_far (p := ⟨gb316, _, none⟩) NB302_316.out _).trans (((cell_far (p := ⟨gb316, _, none⟩) NB302_316.out _).trans (((cell_far (p := ⟨gb316, _, none⟩) NB302_316.out _).trans (((cell_far (p := ⟨gb316, _, none⟩) NB302_316.out _).trans (((cell_far (p := ⟨gb316, _, none⟩) NB302_316.out _).trans (hHeld.2.2.1)))))))))), ((cell_far (p := ⟨gb316, _, none⟩) NB302_316.out _).trans (((cell_far (p := ⟨gb316, _, none⟩) NB302_316.out _).trans (((cell_far (p := ⟨gb316, _, none⟩) NB302_316.out _).trans (((cell_far (p := ⟨gb316, _, none⟩) NB302_316.out _).trans (((cell_far (p := ⟨gb316, _, none⟩) NB302_316.out _).trans (hHeld.2.2.2.1)))))))))), ((cell_far (p := ⟨gb316, _, none⟩) NB302_316.out _).trans (((cell_far (p := ⟨gb316, _, none⟩) NB302_316.out _).trans (((cell_far (p := ⟨gb316, _, none⟩) NB302_316.out _).trans (((cell_far (p := ⟨gb316, _, none⟩) NB302_316.out _).trans (((cell_far (p := ⟨gb316, _, none⟩) NB302_316.out _).trans (hHeld.2.2.2.2.1)))))))))), ((cell_far (p := ⟨gb316, _, none⟩) NB271_316.out _).trans (((cell_far (p := ⟨gb316, _, none⟩) NB271_316.out _).trans (((cell_far (p := ⟨gb316, _, none⟩) NB271_316.out _).trans (((cell_far (p := ⟨gb316, _, none⟩) NB271_316.out _).trans (((cell_far (p := ⟨gb316, _, none⟩) NB271_316.out _).trans (hHeld.2.2.2.2.2.1)))))))))), ((cell_far (p := ⟨gb316, _, none⟩) NB271_316.out _).trans (((cell_far (p := ⟨gb316, _, none⟩) NB271_316.out _).trans (((cell_far (p := ⟨gb316, _, none⟩) NB271_316.out _).trans (((cell_far (p := ⟨gb316, _, none⟩) NB271_316.out _).trans (((cell_far (p := ⟨gb316, _, none⟩) NB271_316.out _).trans (hHeld.2.2.2.2.2.2.1)))))))))), ((cell_far (p := ⟨gb316, _, none⟩) NB271_316.out _).trans (((cell_far (p := ⟨gb316, _, none⟩) NB271_316.out _).trans (((cell_far (p := ⟨gb316, _, none⟩) NB271_316.out _).trans (((cell_far (p := ⟨gb316, _, none⟩) NB271_316.out _).trans (((cell_far (p := ⟨gb316, _, none⟩) NB271_316.out _).trans (hHeld.2.2.2.2.2.2.2.1)))))))))), ((cell_far (p := ⟨gb316, _, none⟩) NB271_316.out _).trans (((cell_far (p := ⟨gb316, _, none⟩) NB271_316.out _).trans (((cell_far (p := ⟨gb316, _, none⟩) NB271_316.out _).trans (((cell_far (p := ⟨gb316, _, none⟩) NB271_316.out _).trans (((cell_far (p := ⟨gb316, _, none⟩) NB271_316.out _).trans (hHeld.2.2.2.2.2.2.2.2.1)))))))))), ((cell_far (p := ⟨gb316, _, none⟩) NB271_316.out _).trans (((cell_far (p := ⟨gb316, _, none⟩) NB271_316.out _).trans (((cell_far (p := ⟨gb316, _, none⟩) NB271_316.out _).trans (((cell_far (p := ⟨gb316, _, none⟩) NB271_316.out _).trans (((cell_far (p := ⟨gb316, _, none⟩) NB271_316.out _).trans (hHeld.2.2.2.2.2.2.2.2.2))))))))))⟩ (fun hHeld => ?_)
   clear hK K; refine pure_ (i := 9) (N := some 10) (v := ?_) (a' := ?_) #[true, true, true, true, true, true, true, true, true, true] rfl rfl (any_of HT_.out (by kernel_rfl)) (fun _ _ _ h => h) (Or.inl ⟨by rfl, ?_⟩) ?_ ?_
   rotate_left
   ·intro w'; go_simp; with_reducible rfl
   rotate_left
   ·simp only [putL, i64_w, i32_w]; rfl
   refine done_ (done_of HT_.out (by kernel_rfl)) ?_
   go_upto_region 11 with (fail)
   go_cut [51] (fun v51 wc => ∃ (kq : Nat) (x51_24 : Bool), v51 = .bool x51_24 ∧ Aside0 (laws_FnExactWalStep.j0 kq t293 t315 x51_24 a0_0 a0_1 a0_2 a0_3 l0_4 a1_0 a1_1 a1_2 a1_3 a1_4 t286 t287 t288 t289 t290 t295 t296 t297 t298 t299 t308 t309 t310 t311 t312 = some r) ∧ Aside0 (kq ≤ k) ∧ Aside0 (Kd.R k125 125 wc w.heap.size (fun k_ => some k_ ≠ ((.slice Ao54 t299.length co54) : Value).ownBlock ∧ some k_ ≠ ((.slice Ao65 t312.length co65) : Value).ownBlock) (.slice Ao44 t290.length co44) t290) ∧ Aside0 (Kd.R k125 125 wc w.heap.size (fun k_ => some k_ ≠ ((.slice Ao44 t290.length co44) : Value).ownBlock ∧ some k_ ≠ ((.slice Ao65 t312.length co65) : Value).ownBlock) (.slice Ao54 t299.length co54) t299) ∧ Aside0 (Kd.R k125 125 wc w.heap.size (fun k_ => some k_ ≠ ((.slice Ao44 t290.length co44) : Value).ownBlock ∧ some k_ ≠ ((.slice Ao54 t299.length co54) : Value).ownBlock) (.slice Ao65 t312.length co65) t312) ∧ Aside0 (wc.heap[gb270]? = some (.cells #[.int .i64 a0_0, .int .i64 a0_1, .int .i64 a0_2, .int .i64 a0_3, (.slice A0_4 l0_4.length c0_4)] 56 (0, 0))) ∧ Aside0 (wc.heap[gb271]? = some (.cells #[.int .i64 a1_0, .int .i64 a1_1, .int .i64 a1_2, .int .i64 a1_3, .string a1_4] 57 (0, 0))) ∧ Aside0 (wc.heap[gb294]? = some (.cells #[.int .i64 t286, .int .i64 t287, .int .i64 t288, .int .i64 t289, (.slice Ao44 t290.length co44)] 62 (0, 0))) ∧ Aside0 (wc.heap[gb302]? = some (.cells #[.int .i64 t295, .int .i64 t296, .int .i64 t297, .int .i64 t298, (.slice Ao54 t299.length co54)] 62 (0, 0))) ∧ Aside0 (wc.heap[gb316]? = some (.cells #[.int .i64 t308, .int .i64 t309, .int .i64 t310, .int .i64 t311, (.slice Ao65 t312.length co65)] 62 (0, 0))) ∧ Aside0 (Below w.heap.size w wc))
   case first =>
    have H := HC25.out; clear HC25; replace H := Option.bind_eq_some_iff.mp H
    obtain ⟨t317, A670, H⟩ := H
    replace H : (if t317 = true then (laws_FnExactWalStep.j0 k t293 t315 (t315 != t293) a0_0 a0_1 a0_2 a0_3 l0_4 a1_0 a1_1 a1_2 a1_3 a1_4 t286 t287 t288 t289 t290 t295 t296 t297 t298 t299 t308 t309 t310 t311 t312) else (laws_FnExactWalStep.j0 k t293 t315 true a0_0 a0_1 a0_2 a0_3 l0_4 a1_0 a1_1 a1_2 a1_3 a1_4 t286 t287 t288 t289 t290 t295 t296 t297 t298 t299 t308 t309 t310 t311 t312)) = some r := H
    have A67 := Aside0.mk A670
    clear A670
    by_cases c68 : t317 = true
    ·subst c68
     have H1 : (laws_FnExactWalStep.j0 k t293 t315 (t315 != t293) a0_0 a0_1 a0_2 a0_3 l0_4 a1_0 a1_1 a1_2 a1_3 a1_4 t286 t287 t288 t289 t290 t295 t296 t297 t298 t299 t308 t309 t310 t311 t312) = some r := by rw [if_pos rfl] at H; exact H
     clear H; have H := H1
     clear H1; have H' := Aside0.mk H
     clear H; have hnb69 := NB316_270.out; have hnc69 := NB270_316.out; have hnb70 := NB316_271.out; have hnc70 := NB271_316.out; have hnb71 := NB316_294.out; have hnc71 := NB294_316.out; have hnb72 := NB316_302.out; have hnc72 := NB302_316.out; obtain ⟨hcz73_0, hcz73_1, hcz73_2, hcz73_3, hcz73_4⟩ := cs5 BK316; obtain ⟨hfz73_0, hfz73_1, hfz73_2, hfz73_3, hfz73_4⟩ := fs5 BK316; have hnb74 := NB294_270.out; have hnc74 := NB270_294.out; have hnb75 := NB294_271.out; have hnc75 := NB271_294.out; have hnb76 := NB294_302.out; have hnc76 := NB302_294.out; obtain ⟨hcz77_0, hcz77_1, hcz77_2, hcz77_3, hcz77_4⟩ := cs5 BK294; obtain ⟨hfz77_0, hfz77_1, hfz77_2, hfz77_3, hfz77_4⟩ := fs5 BK294
     go_wp2_with (first | ((with_reducible refine gate_callee (f := 41) rfl ?_); refine goesL_ (some 45) rfl rfl Try.func41 (by kernel_rfl) rfl #[.agg #[.int .i64 t308, .int .i64 t309, .int .i64 t310, .int .i64 t311, .slice Ao65 t312.length co65], .agg #[.int .i64 t286, .int .i64 t287, .int .i64 t288, .int .i64 t289, .slice Ao44 t290.length co44]] rfl (by (try simp only [List.map_toArray, List.map_cons, List.map_nil]); first | done | rfl | (simp only [List.length_drop, List.length_take]; rfl)) ?_; (with_reducible refine (laws_eqWal.calls k t308 t309 t310 t311 _ _ t312 t286 t287 t288 t289 _ _ t290 true _ ?side1 ?side2 ?side3 ?side4 A67.out).mono ?_); (case side1 => refine (Kd.R_reads' (e := 125) (base := w.heap.size) (ok := fun k_ => (some k_ ≠ (v279 : Value).ownBlock ∧ (some k_ ≠ (.slice Ao44 t290.length co44 : Value).ownBlock ∧ some k_ ≠ (.slice Ao54 t299.length co54 : Value).ownBlock))) (n := t312.length) (c := co65) ?_).2.2; exact (by (with_reducible repeat (first | apply Kd.R_alloc | apply Kd.R_drewN | apply Kd.R_drew)); exact (Kd.R_mono (Kd.R_far (p := ⟨gb316, 4, none⟩) (Kd.R_far (p := ⟨gb316, 3, none⟩) (Kd.R_far (p := ⟨gb316, 2, none⟩) (Kd.R_far (p := ⟨gb316, 1, none⟩) (Kd.R_far (p := ⟨gb316, 0, none⟩) (Kd.R_types HO314.out BK316.out (by decide)) (fun _ hk => hk.2) (.int .i64 t308)) (fun _ hk => hk.2) (.int .i64 t309)) (fun _ hk => hk.2) (.int .i64 t310)) (fun _ hk => hk.2) (.int .i64 t311)) (fun _ hk => hk.2) (.slice Ao65 t312.length co65)) (fun _ h_ => h_.1)))); (case side2 => exact (Kd.R_reads' HO314.out).2.1); (case side3 => refine (Kd.R_reads' (e := 125) (base := w.heap.size) (ok := fun k_ => (some k_ ≠ (v279 : Value).ownBlock ∧ (some k_ ≠ (.slice Ao54 t299.length co54 : Value).ownBlock ∧ some k_ ≠ (.slice Ao65 t312.length co65 : Value).ownBlock))) (n := t290.length) (c := co44) ?_).2.2; exact (by (with_reducible repeat (first | apply Kd.R_alloc | apply Kd.R_drewN | apply Kd.R_drew)); exact (Kd.R_mono (Kd.R_far (p := ⟨gb316, 4, none⟩) (Kd.R_far (p := ⟨gb316, 3, none⟩) (Kd.R_far (p := ⟨gb316, 2, none⟩) (Kd.R_far (p := ⟨gb316, 1, none⟩) (Kd.R_far (p := ⟨gb316, 0, none⟩) (Kd.R_types HO292.out BK316.out (by decide)) (fun _ hk => hk.2) (.int .i64 t308)) (fun _ hk => hk.2) (.int .i64 t309)) (fun _ hk => hk.2) (.int .i64 t310)) (fun _ hk => hk.2) (.int .i64 t311)) (fun _ hk => hk.2) (.slice Ao65 t312.length co65)) (fun _ h_ => h_.1)))); (case side4 => exact (Kd.R_reads' HO292.out).2.1); rintro e w78 ⟨rfl, hb⟩; refine ⟨_, rfl, ?_⟩; have n0_ := Aside0.mk (Kd.R_below (by (with_reducible repeat (first | apply Kd.R_alloc | apply Kd.R_drewN | apply Kd.R_drew)); exact (Kd.R_mono (Kd.R_far (p := ⟨gb316, 4, none⟩) (Kd.R_far (p := ⟨gb316, 3, none⟩) (Kd.R_far (p := ⟨gb316, 2, none⟩) (Kd.R_far (p := ⟨gb316, 1, none⟩) (Kd.R_far (p := ⟨gb316, 0, none⟩) (Kd.R_types HO280.out BK316.out (by decide)) (fun _ hk => hk.2) (.int .i64 t308)) (fun _ hk => hk.2) (.int .i64 t309)) (fun _ hk => hk.2) (.int .i64 t310)) (fun _ hk => hk.2) (.int .i64 t311)) (fun _ hk => hk.2) (.slice Ao65 t312.length co65)) (fun _ h_ => h_.1))) hb); have n1_ := Aside0.mk (Kd.R_below (by (with_reducible repeat (first | apply Kd.R_alloc | apply Kd.R_drewN | apply Kd.R_drew)); exact (Kd.R_mono (Kd.R_far (p := ⟨gb316, 4, none⟩) (Kd.R_far (p := ⟨gb316, 3, none⟩) (Kd.R_far (p := ⟨gb316, 2, none⟩) (Kd.R_far (p := ⟨gb316, 1, none⟩) (Kd.R_far (p := ⟨gb316, 0, none⟩) (Kd.R_types HO292.out BK316.out (by decide)) (fun _ hk => hk.2) (.int .i64 t308)) (fun _ hk => hk.2) (.int .i64 t309)) (fun _ hk => hk.2) (.int .i64 t310)) (fun _ hk => hk.2) (.int .i64 t311)) (fun _ hk => hk.2) (.slice Ao65 t312.length co65)) (fun _ h_ => h_.1))) hb); have n2_ := Aside0.mk (Kd.R_below (by (with_reducible repeat (first | apply Kd.R_alloc | apply Kd.R_drewN | apply Kd.R_drew)); exact (Kd.R_mono (Kd.R_far (p := ⟨gb316, 4, none⟩) (Kd.R_far (p := ⟨gb316, 3, none⟩) (Kd.R_far (p := ⟨gb316, 2, none⟩) (Kd.R_far (p := ⟨gb316, 1, none⟩) (Kd.R_far (p := ⟨gb316, 0, none⟩) (Kd.R_types HO301.out BK316.out (by decide)) (fun _ hk => hk.2) (.int .i64 t308)) (fun _ hk => hk.2) (.int .i64 t309)) (fun _ hk => hk.2) (.int .i64 t310)) (fun _ hk => hk.2) (.int .i64 t311)) (fun _ hk => hk.2) (.slice Ao65 t312.length co65)) (fun _ h_ => h_.1))) hb); have n3_ := Aside0.mk (Kd.R_below (by (with_reducible repeat (first | apply Kd.R_alloc | apply Kd.R_drewN | apply Kd.R_drew)); exact (Kd.R_mono (Kd.R_far (p := ⟨gb316, 4, none⟩) (Kd.R_far (p := ⟨gb316, 3, none⟩) (Kd.R_far (p := ⟨gb316, 2, none⟩) (Kd.R_far (p := ⟨gb316, 1, none⟩) (Kd.R_far (p := ⟨gb316, 0, none⟩) (Kd.R_types HO314.out BK316.out (by decide)) (fun _ hk => hk.2) (.int .i64 t308)) (fun _ hk => hk.2) (.int .i64 t309)) (fun _ hk => hk.2) (.int .i64 t310)) (fun _ hk => hk.2) (.int .i64 t311)) (fun _ hk => hk.2) (.slice Ao65 t312.length co65)) (fun _ h_ => h_.1))) hb); have n4_ := bf BK270 hb; have n5_ := bf BK271 hb; have n6_ := bf BK294 hb; have n7_ := bf BK302 hb; have n8_ := bp #[.int .i64 t308, .int .i64 t309, .int .i64 t310, .int .i64 t311, .slice Ao65 t312.length co65] BK316 hb; have n9_ := Aside0.mk (below_step (be HB) hb); clear HO280 HO292 HO301 HO314 BK270 BK271 BK294 BK302 BK316 HB; have HO280 := n0_; have HO292 := n1_; have HO301 := n2_; have HO314 := n3_; have BK270 := n4_; have BK271 := n5_; have BK294 := n6_; have BK302 := n7_; have BK316 := n8_; have HB := n9_; clear n0_ n1_ n2_ n3_ n4_ n5_ n6_ n7_ n8_ n9_; (try clear hb); (try clear hb2); (try clear hk); (try clear hi)))
     go_meet
     case rel => exact ⟨_, ((t315 != t293)), (by first | rfl | (simp; done) | (simp [*]; done)), H', ⟨by first | omega | exact Nat.le_refl _⟩, ⟨by (with_reducible repeat (first | apply Kd.R_alloc | apply Kd.R_drewN | apply Kd.R_drew)); exact Kd.R_mono HO292.out (fun _ hk => ⟨hk.2.1, hk.2.2⟩)⟩, ⟨by (with_reducible repeat (first | apply Kd.R_alloc | apply Kd.R_drewN | apply Kd.R_drew)); exact Kd.R_mono HO301.out (fun _ hk => ⟨hk.2.1, hk.2.2⟩)⟩, ⟨by (with_reducible repeat (first | apply Kd.R_alloc | apply Kd.R_drewN | apply Kd.R_drew)); exact Kd.R_mono HO314.out (fun _ hk => ⟨hk.2.1, hk.2.2⟩)⟩, ⟨bb BK270⟩, ⟨bb BK271⟩, ⟨bb BK294⟩, ⟨bb BK302⟩, ⟨bb BK316⟩, ⟨by repeat (first | (with_reducible first | exact HB.out | apply below_alloc | apply pw_below_drewN | apply below_drew1 | refine below_set ?_ GE270.out | refine below_set ?_ GE271.out | refine below_set ?_ GE294.out | refine below_set ?_ GE302.out | refine below_set ?_ GE316.out) | exact HB.out)⟩⟩
    ·replace c68 := Bool.eq_false_iff.mpr c68
     subst c68
     have H1 : (laws_FnExactWalStep.j0 k t293 t315 true a0_0 a0_1 a0_2 a0_3 l0_4 a1_0 a1_1 a1_2 a1_3 a1_4 t286 t287 t288 t289 t290 t295 t296 t297 t298 t299 t308 t309 t310 t311 t312) = some r := by rw [if_neg (show ¬ (false = true) by decide)] at H; exact H
     clear H; have H := H1
     clear H1; have H' := Aside0.mk H
     clear H; have hnb79 := NB316_270.out; have hnc79 := NB270_316.out; have hnb80 := NB316_271.out; have hnc80 := NB271_316.out; have hnb81 := NB316_294.out; have hnc81 := NB294_316.out; have hnb82 := NB316_302.out; have hnc82 := NB302_316.out; obtain ⟨hcz83_0, hcz83_1, hcz83_2, hcz83_3, hcz83_4⟩ := cs5 BK316; obtain ⟨hfz83_0, hfz83_1, hfz83_2, hfz83_3, hfz83_4⟩ := fs5 BK316; have hnb84 := NB294_270.out; have hnc84 := NB270_294.out; have hnb85 := NB294_271.out; have hnc85 := NB271_294.out; have hnb86 := NB294_302.out; have hnc86 := NB302_294.out; obtain ⟨hcz87_0, hcz87_1, hcz87_2, hcz87_3, hcz87_4⟩ := cs5 BK294; obtain ⟨hfz87_0, hfz87_1, hfz87_2, hfz87_3, hfz87_4⟩ := fs5 BK294
     go_wp2_with (first | ((with_reducible refine gate_callee (f := 41) rfl ?_); refine goesL_ (some 45) rfl rfl Try.func41 (by kernel_rfl) rfl #[.agg #[.int .i64 t308, .int .i64 t309, .int .i64 t310, .int .i64 t311, .slice Ao65 t312.length co65], .agg #[.int .i64 t286, .int .i64 t287, .int .i64 t288, .int .i64 t289, .slice Ao44 t290.length co44]] rfl (by (try simp only [List.map_toArray, List.map_cons, List.map_nil]); first | done | rfl | (simp only [List.length_drop, List.length_take]; rfl)) ?_; (with_reducible refine (laws_eqWal.calls k t308 t309 t310 t311 _ _ t312 t286 t287 t288 t289 _ _ t290 false _ ?side1 ?side2 ?side3 ?side4 A67.out).mono ?_); (case side1 => refine (Kd.R_reads' (e := 125) (base := w.heap.size) (ok := fun k_ => (some k_ ≠ (v279 : Value).ownBlock ∧ (some k_ ≠ (.slice Ao44 t290.length co44 : Value).ownBlock ∧ some k_ ≠ (.slice Ao54 t299.length co54 : Value).ownBlock))) (n := t312.length) (c := co65) ?_).2.2; exact (by (with_reducible repeat (first | apply Kd.R_alloc | apply Kd.R_drewN | apply Kd.R_drew)); exact (Kd.R_mono (Kd.R_far (p := ⟨gb316, 4, none⟩) (Kd.R_far (p := ⟨gb316, 3, none⟩) (Kd.R_far (p := ⟨gb316, 2, none⟩) (Kd.R_far (p := ⟨gb316, 1, none⟩) (Kd.R_far (p := ⟨gb316, 0, none⟩) (Kd.R_types HO314.out BK316.out (by decide)) (fun _ hk => hk.2) (.int .i64 t308)) (fun _ hk => hk.2) (.int .i64 t309)) (fun _ hk => hk.2) (.int .i64 t310)) (fun _ hk => hk.2) (.int .i64 t311)) (fun _ hk => hk.2) (.slice Ao65 t312.length co65)) (fun _ h_ => h_.1)))); (case side2 => exact (Kd.R_reads' HO314.out).2.1); (case side3 => refine (Kd.R_reads' (e := 125) (base := w.heap.size) (ok := fun k_ => (some k_ ≠ (v279 : Value).ownBlock ∧ (some k_ ≠ (.slice Ao54 t299.length co54 : Value).ownBlock ∧ some k_ ≠ (.slice Ao65 t312.length co65 : Value).ownBlock))) (n := t290.length) (c := co44) ?_).2.2; exact (by (with_reducible repeat (first | apply Kd.R_alloc | apply Kd.R_drewN | apply Kd.R_drew)); exact (Kd.R_mono (Kd.R_far (p := ⟨gb316, 4, none⟩) (Kd.R_far (p := ⟨gb316, 3, none⟩) (Kd.R_far (p := ⟨gb316, 2, none⟩) (Kd.R_far (p := ⟨gb316, 1, none⟩) (Kd.R_far (p := ⟨gb316, 0, none⟩) (Kd.R_types HO292.out BK316.out (by decide)) (fun _ hk => hk.2) (.int .i64 t308)) (fun _ hk => hk.2) (.int .i64 t309)) (fun _ hk => hk.2) (.int .i64 t310)) (fun _ hk => hk.2) (.int .i64 t311)) (fun _ hk => hk.2) (.slice Ao65 t312.length co65)) (fun _ h_ => h_.1)))); (case side4 => exact (Kd.R_reads' HO292.out).2.1); rintro e w88 ⟨rfl, hb⟩; refine ⟨_, rfl, ?_⟩; have n0_ := Aside0.mk (Kd.R_below (by (with_reducible repeat (first | apply Kd.R_alloc | apply Kd.R_drewN | apply Kd.R_drew)); exact (Kd.R_mono (Kd.R_far (p := ⟨gb316, 4, none⟩) (Kd.R_far (p := ⟨gb316, 3, none⟩) (Kd.R_far (p := ⟨gb316, 2, none⟩) (Kd.R_far (p := ⟨gb316, 1, none⟩) (Kd.R_far (p := ⟨gb316, 0, none⟩) (Kd.R_types HO280.out BK316.out (by decide)) (fun _ hk => hk.2) (.int .i64 t308)) (fun _ hk => hk.2) (.int .i64 t309)) (fun _ hk => hk.2) (.int .i64 t310)) (fun _ hk => hk.2) (.int .i64 t311)) (fun _ hk => hk.2) (.slice Ao65 t312.length co65)) (fun _ h_ => h_.1))) hb); have n1_ := Aside0.mk (Kd.R_below (by (with_reducible repeat (first | apply Kd.R_alloc | apply Kd.R_drewN | apply Kd.R_drew)); exact (Kd.R_mono (Kd.R_far (p := ⟨gb316, 4, none⟩) (Kd.R_far (p := ⟨gb316, 3, none⟩) (Kd.R_far (p := ⟨gb316, 2, none⟩) (Kd.R_far (p := ⟨gb316, 1, none⟩) (Kd.R_far (p := ⟨gb316, 0, none⟩) (Kd.R_types HO292.out BK316.out (by decide)) (fun _ hk => hk.2) (.int .i64 t308)) (fun _ hk => hk.2) (.int .i64 t309)) (fun _ hk => hk.2) (.int .i64 t310)) (fun _ hk => hk.2) (.int .i64 t311)) (fun _ hk => hk.2) (.slice Ao65 t312.length co65)) (fun _ h_ => h_.1))) hb); have n2_ := Aside0.mk (Kd.R_below (by (with_reducible repeat (first | apply Kd.R_alloc | apply Kd.R_drewN | apply Kd.R_drew)); exact (Kd.R_mono (Kd.R_far (p := ⟨gb316, 4, none⟩) (Kd.R_far (p := ⟨gb316, 3, none⟩) (Kd.R_far (p := ⟨gb316, 2, none⟩) (Kd.R_far (p := ⟨gb316, 1, none⟩) (Kd.R_far (p := ⟨gb316, 0, none⟩) (Kd.R_types HO301.out BK316.out (by decide)) (fun _ hk => hk.2) (.int .i64 t308)) (fun _ hk => hk.2) (.int .i64 t309)) (fun _ hk => hk.2) (.int .i64 t310)) (fun _ hk => hk.2) (.int .i64 t311)) (fun _ hk => hk.2) (.slice Ao65 t312.length co65)) (fun _ h_ => h_.1))) hb); have n3_ := Aside0.mk (Kd.R_below (by (with_reducible repeat (first | apply Kd.R_alloc | apply Kd.R_drewN | apply Kd.R_drew)); exact (Kd.R_mono (Kd.R_far (p := ⟨gb316, 4, none⟩) (Kd.R_far (p := ⟨gb316, 3, none⟩) (Kd.R_far (p := ⟨gb316, 2, none⟩) (Kd.R_far (p := ⟨gb316, 1, none⟩) (Kd.R_far (p := ⟨gb316, 0, none⟩) (Kd.R_types HO314.out BK316.out (by decide)) (fun _ hk => hk.2) (.int .i64 t308)) (fun _ hk => hk.2) (.int .i64 t309)) (fun _ hk => hk.2) (.int .i64 t310)) (fun _ hk => hk.2) (.int .i64 t311)) (fun _ hk => hk.2) (.slice Ao65 t312.length co65)) (fun _ h_ => h_.1))) hb); have n4_ := bf BK270 hb; have n5_ := bf BK271 hb; have n6_ := bf BK294 hb; have n7_ := bf BK302 hb; have n8_ := bp #[.int .i64 t308, .int .i64 t309, .int .i64 t310, .int .i64 t311, .slice Ao65 t312.length co65] BK316 hb; have n9_ := Aside0.mk (below_step (be HB) hb); clear HO280 HO292 HO301 HO314 BK270 BK271 BK294 BK302 BK316 HB; have HO280 := n0_; have HO292 := n1_; have HO301 := n2_; have HO314 := n3_; have BK270 := n4_; have BK271 := n5_; have BK294 := n6_; have BK302 := n7_; have BK316 := n8_; have HB := n9_; clear n0_ n1_ n2_ n3_ n4_ n5_ n6_ n7_ n8_ n9_; (try clear hb); (try clear hb2); (try clear hk); (try clear hi)))
     go_meet
     case rel => exact ⟨_, (true), (by first | rfl | (simp; done) | (simp [*]; done)), H', ⟨by first | omega | exact Nat.le_refl _⟩, ⟨by (with_reducible repeat (first | apply Kd.R_alloc | apply Kd.R_drewN | apply Kd.R_drew)); exact Kd.R_mono HO292.out (fun _ hk => ⟨hk.2.1, hk.2.2⟩)⟩, ⟨by (with_reducible repeat (first | apply Kd.R_alloc | apply Kd.R_drewN | apply Kd.R_drew)); exact Kd.R_mono HO301.out (fun _ hk => ⟨hk.2.1, hk.2.2⟩)⟩, ⟨by (with_reducible repeat (first | apply Kd.R_alloc | apply Kd.R_drewN | apply Kd.R_drew)); exact Kd.R_mono HO314.out (fun _ hk => ⟨hk.2.1, hk.2.2⟩)⟩, ⟨bb BK270⟩, ⟨bb BK271⟩, ⟨bb BK294⟩, ⟨bb BK302⟩, ⟨bb BK316⟩, ⟨by repeat (first | (with_reducible first | exact HB.out | apply below_alloc | apply pw_below_drewN | apply below_drew1 | refine below_set ?_ GE270.out | refine below_set ?_ GE271.out | refine below_set ?_ GE294.out | refine below_set ?_ GE302.out | refine below_set ?_ GE316.out) | exact HB.out)⟩⟩
   case rest =>
    clear HC25; (try clear p2); (try clear c3); (try clear c4); (try clear c6); (try clear c7); (try clear c8); (try clear c39); (try clear c40); (try clear c41); (try clear c68); (try clear c69); (try clear c70); (try clear c71); (try clear c72); (try clear c74); (try clear c75); (try clear c76); (try clear c79); (try clear c80); (try clear c81); (try clear c82); (try clear c84); (try clear c85); (try clear c86); (try clear hcz73_0); (try clear hcz73_1); (try clear hcz73_2); (try clear hcz73_3); (try clear hcz73_4); (try clear hcz77_0); (try clear hcz77_1); (try clear hcz77_2); (try clear hcz77_3); (try clear hcz77_4); (try clear hcz83_0); (try clear hcz83_1); (try clear hcz83_2); (try clear hcz83_3); (try clear hcz83_4); (try clear hcz87_0); (try clear hcz87_1); (try clear hcz87_2); (try clear hcz87_3); (try clear hcz87_4); (try clear hfz73_0); (try clear hfz73_1); (try clear hfz73_2); (try clear hfz73_3); (try clear hfz73_4); (try clear hfz77_0); (try clear hfz77_1); (try clear hfz77_2); (try clear hfz77_3); (try clear hfz77_4); (try clear hfz83_0); (try clear hfz83_1); (try clear hfz83_2); (try clear hfz83_3); (try clear hfz83_4); (try clear hfz87_0); (try clear hfz87_1); (try clear hfz87_2); (try clear hfz87_3); (try clear hfz87_4); obtain ⟨kq, x51_24, rfl, HA, HJ24, HO_295004, HO_303004, HO_317004, BK270, BK271, BK294, BK302, BK316, HB⟩ := hcut
    cases kq with
    | zero => exact absurd HA.out (by simp [laws_FnExactWalStep.j0])
    | succ kj24 =>
     have H := HA.out; clear HA; simp only [laws_FnExactWalStep.j0] at H
     by_cases c89 : x51_24 = true
     ·subst c89
      have H1 : (none) = some r := by rw [if_pos rfl] at H; exact H
      clear H; have H := H1
      clear H1; exact absurd H (by simp)
     ·replace c89 := Bool.eq_false_iff.mpr c89
      subst c89
      have H1 : ((laws_toWal.f kj24 a0_0 a0_1 a0_2 a0_3 l0_4).bind fun bt318 => ((laws_eqWal.f kj24 t295 t296 t297 t298 t299 bt318.1 bt318.2.1 bt318.2.2.1 bt318.2.2.2.1 bt318.2.2.2.2).bind fun t325 => (if t325 = true then ((laws_markWal.f kj24 t295 t296 t297 t298 t299 1).bind fun bt326 => (if bt326.1 < 0 then (laws_FnExactWalStep.j1 kj24 t293 true a0_0 a0_1 a0_2 a0_3 l0_4 a1_0 a1_1 a1_2 a1_3 a1_4 t286 t287 t288 t289 t290 t308 t309 t310 t311 t312) else ((laws_eqWal.f kj24 t308 t309 t310 t311 t312 t286 t287 t288 t289 t290).bind fun t328 => (if t328 = true then (laws_FnExactWalStep.j1 kj24 t293 (t315 != t293) a0_0 a0_1 a0_2 a0_3 l0_4 a1_0 a1_1 a1_2 a1_3 a1_4 t286 t287 t288 t289 t290 t308 t309 t310 t311 t312) else (laws_FnExactWalStep.j1 kj24 t293 true a0_0 a0_1 a0_2 a0_3 l0_4 a1_0 a1_1 a1_2 a1_3 a1_4 t286 t287 t288 t289 t290 t308 t309 t310 t311 t312))))) else (none)))) = some r := by rw [if_neg (show ¬ (false = true) by decide)] at H; exact H
      clear H; have H := H1
      clear H1; replace H := Option.bind_eq_some_iff.mp H
      obtain ⟨⟨t318, t319, t320, t321, t322⟩, A900, H⟩ := H
      replace H : ((laws_eqWal.f kj24 t295 t296 t297 t298 t299 t318 t319 t320 t321 t322).bind fun t325 => (if t325 = true then ((laws_markWal.f kj24 t295 t296 t297 t298 t299 1).bind fun bt326 => (if bt326.1 < 0 then (laws_FnExactWalStep.j1 kj24 t293 true a0_0 a0_1 a0_2 a0_3 l0_4 a1_0 a1_1 a1_2 a1_3 a1_4 t286 t287 t288 t289 t290 t308 t309 t310 t311 t312) else ((laws_eqWal.f kj24 t308 t309 t310 t311 t312 t286 t287 t288 t289 t290).bind fun t328 => (if t328 = true then (laws_FnExactWalStep.j1 kj24 t293 (t315 != t293) a0_0 a0_1 a0_2 a0_3 l0_4 a1_0 a1_1 a1_2 a1_3 a1_4 t286 t287 t288 t289 t290 t308 t309 t310 t311 t312) else (laws_FnExactWalStep.j1 kj24 t293 true a0_0 a0_1 a0_2 a0_3 l0_4 a1_0 a1_1 a1_2 a1_3 a1_4 t286 t287 t288 t289 t290 t308 t309 t310 t311 t312))))) else (none))) = some r := H
      have A90 := Aside0.mk A900
      clear A900; replace H := Option.bind_eq_some_iff.mp H
      obtain ⟨t325, A910, H⟩ := H
      replace H : (if t325 = true then ((laws_markWal.f kj24 t295 t296 t297 t298 t299 1).bind fun bt326 => (if bt326.1 < 0 then (laws_FnExactWalStep.j1 kj24 t293 true a0_0 a0_1 a0_2 a0_3 l0_4 a1_0 a1_1 a1_2 a1_3 a1_4 t286 t287 t288 t289 t290 t308 t309 t310 t311 t312) else ((laws_eqWal.f kj24 t308 t309 t310 t311 t312 t286 t287 t288 t289 t290).bind fun t328 => (if t328 = true then (laws_FnExactWalStep.j1 kj24 t293 (t315 != t293) a0_0 a0_1 a0_2 a0_3 l0_4 a1_0 a1_1 a1_2 a1_3 a1_4 t286 t287 t288 t289 t290 t308 t309 t310 t311 t312) else (laws_FnExactWalStep.j1 kj24 t293 true a0_0 a0_1 a0_2 a0_3 l0_4 a1_0 a1_1 a1_2 a1_3 a1_4 t286 t287 t288 t289 t290 t308 t309 t310 t311 t312))))) else (none)) = some r := H
      have A91 := Aside0.mk A910
      clear A910
      by_cases c92 : t325 = true
      ·subst c92
       have H1 : ((laws_markWal.f kj24 t295 t296 t297 t298 t299 1).bind fun bt326 => (if bt326.1 < 0 then (laws_FnExactWalStep.j1 kj24 t293 true a0_0 a0_1 a0_2 a0_3 l0_4 a1_0 a1_1 a1_2 a1_3 a1_4 t286 t287 t288 t289 t290 t308 t309 t310 t311 t312) else ((laws_eqWal.f kj24 t308 t309 t310 t311 t312 t286 t287 t288 t289 t290).bind fun t328 => (if t328 = true then (laws_FnExactWalStep.j1 kj24 t293 (t315 != t293) a0_0 a0_1 a0_2 a0_3 l0_4 a1_0 a1_1 a1_2 a1_3 a1_4 t286 t287 t288 t289 t290 t308 t309 t310 t311 t312) else (laws_FnExactWalStep.j1 kj24 t293 true a0_0 a0_1 a0_2 a0_3 l0_4 a1_0 a1_1 a1_2 a1_3 a1_4 t286 t287 t288 t289 t290 t308 t309 t310 t311 t312))))) = some r := by rw [if_pos rfl] at H; exact H
       clear H; have H := H1
       clear H1; replace H := Option.bind_eq_some_iff.mp H
       obtain ⟨⟨t326, t327⟩, A930, H⟩ := H
       replace H : (if t326 < 0 then (laws_FnExactWalStep.j1 kj24 t293 true a0_0 a0_1 a0_2 a0_3 l0_4 a1_0 a1_1 a1_2 a1_3 a1_4 t286 t287 t288 t289 t290 t308 t309 t310 t311 t312) else ((laws_eqWal.f kj24 t308 t309 t310 t311 t312 t286 t287 t288 t289 t290).bind fun t328 => (if t328 = true then (laws_FnExactWalStep.j1 kj24 t293 (t315 != t293) a0_0 a0_1 a0_2 a0_3 l0_4 a1_0 a1_1 a1_2 a1_3 a1_4 t286 t287 t288 t289 t290 t308 t309 t310 t311 t312) else (laws_FnExactWalStep.j1 kj24 t293 true a0_0 a0_1 a0_2 a0_3 l0_4 a1_0 a1_1 a1_2 a1_3 a1_4 t286 t287 t288 t289 t290 t308 t309 t310 t311 t312)))) = some r := H
       have A93 := Aside0.mk A930
       clear A930; have HC94 := Aside0.mk H
       clear H
       try go_wp2
       have n0_ := Aside0.mk (Kd.R_drew HO_295004.out)
       have n1_ := Aside0.mk (Kd.R_drew HO_303004.out)
       have n2_ := Aside0.mk (Kd.R_drew HO_317004.out)
       have n3_ := Aside0.mk (blk_drew BK270.out)
       have n4_ := Aside0.mk (blk_drew BK271.out)
       have n5_ := Aside0.mk (blk_drew BK294.out)
       have n6_ := Aside0.mk (blk_drew BK302.out)
       have n7_ := Aside0.mk (blk_drew BK316.out)
       have n8_ := Aside0.mk (below_drew1 HB.out)
       clear HO_295004 HO_303004 HO_317004 BK270 BK271 BK294 BK302 BK316 HB; have HO_295004 := n0_; have HO_303004 := n1_; have HO_317004 := n2_; have BK270 := n3_; have BK271 := n4_; have BK294 := n5_; have BK302 := n6_; have BK316 := n7_; have HB := n8_; clear n0_ n1_ n2_ n3_ n4_ n5_ n6_ n7_ n8_; refine start_ (n := 5) (S := fun w' => w'.cell? ⟨gb302, 0, none⟩ = some (.int .i64 t295) ∧ w'.cell? ⟨gb302, 1, none⟩ = some (.int .i64 t296) ∧ w'.cell? ⟨gb302, 2, none⟩ = some (.int .i64 t297) ∧ w'.cell? ⟨gb302, 3, none⟩ = some (.int .i64 t298) ∧ w'.cell? ⟨gb302, 4, none⟩ = some (.slice Ao54 t299.length co54) ∧ w'.cell? ⟨gb270, 0, none⟩ = some (.int .i64 a0_0) ∧ w'.cell? ⟨gb270, 1, none⟩ = some (.int .i64 a0_1) ∧ w'.cell? ⟨gb270, 2, none⟩ = some (.int .i64 a0_2) ∧ w'.cell? ⟨gb270, 3, none⟩ = some (.int .i64 a0_3) ∧ w'.cell? ⟨gb270, 4, none⟩ = some (.slice A0_4 l0_4.length c0_4)) (ds := []) #[false, false, false, false, false] (by kernel_rfl) rfl rfl ⟨bc BK302 0, bc BK302 1, bc BK302 2, bc BK302 3, bc BK302 4, bc BK270 0, bc BK270 1, bc BK270 2, bc BK270 3, bc BK270 4⟩ (fun hHeld => ?_)
       generalize wc.drew = w95 at HO_295004 HO_303004 HO_317004 BK270 BK271 BK294 BK302 BK316 HB hHeld ⊢
       refine take_ (i := 0) (N := some 52) (v := ?_) (a' := ?_) #[true, false, false, false, false] rfl rfl (by kernel_rfl) (fun _ _ _ h => h) (Or.inl ⟨by rfl, ?_⟩) hHeld ?_ ?_
       rotate_left
       ·rintro w' ⟨s0, s1, s2, s3, s4, s5, s6, s7, s8, s9⟩
        go_simp; with_reducible rfl
       rotate_left
       ·simp only [putL, i64_w, i32_w]; rfl
       refine take_ (i := 1) (N := some 53) (v := ?_) (a' := ?_) #[true, true, false, false, false] rfl rfl (by kernel_rfl) (fun _ _ _ h => h) (Or.inl ⟨by rfl, ?_⟩) hHeld ?_ ?_
       rotate_left
       ·rintro w' ⟨s0, s1, s2, s3, s4, s5, s6, s7, s8, s9⟩
        go_simp; with_reducible rfl
       rotate_left
       ·simp only [putL, i64_w, i32_w]; rfl
       refine one_ (i := 2) (N := some 54) #[true, true, true, false, false] rfl rfl (by kernel_rfl) (by decide) (fun K hK => ?_)
       refine goes_ Try.func38 (by kernel_rfl) rfl #[.agg #[.int .i64 a0_0, .int .i64 a0_1, .int .i64 a0_2, .int .i64 a0_3, .slice A0_4 l0_4.length c0_4]] (by rfl) rfl rfl (by (try simp only [List.map_toArray, List.map_cons, List.map_nil]); first | done | rfl | (simp only [List.length_drop, List.length_take]; rfl)) ?_
       with_reducible refine (laws_toWal.calls kj24 a0_0 a0_1 a0_2 a0_3 _ _ l0_4 t318 t319 t320 t321 t322 _ ?side1 ?side2 A90.out).mono ?_
       (case side1 => repeat (first | exact (Kd.C_below HR0_4.out HB.out) | (with_reducible refine Kd.C_alloc ?_ _) | (with_reducible refine Kd.C_drewN ?_ _) | (with_reducible refine Kd.C_drew ?_)))
       (case side2 => exact HC0_4.out)
       rintro e w96 ⟨v323, rfl, ho0, hb⟩
       refine ⟨_, rfl, ?_⟩
       have n0_ := Aside0.mk (Kd.R_elder' (rr HO_295004) (Kd.R_base ho0) hb)
       have n1_ := Aside0.mk (Kd.R_elder' (rr HO_303004) (Kd.R_base ho0) hb)
       have n2_ := Aside0.mk (Kd.R_elder' (rr HO_317004) (Kd.R_base ho0) hb)
       have n9_ := Aside0.mk (below_step (be HB) hb)
       have HO324 := Aside0.mk (Kd.R_lower (Kd.R_new' (Kd.R_new' (Kd.R_new' ho0 (Kd.R_lt (rr HO_295004))) (Kd.R_lt (rr HO_303004))) (Kd.R_lt (rr HO_317004))) (below_size (be HB)))
       replace BK270 := bq BK270 hb; replace BK271 := bq BK271 hb; replace BK294 := bq BK294 hb; replace BK302 := bq BK302 hb; replace BK316 := bq BK316 hb; clear HO_295004 HO_303004 HO_317004 HB; have HO_295004 := n0_; have HO_303004 := n1_; have HO_317004 := n2_; have HB := n9_; clear n0_ n1_ n2_ n9_; (try clear hb); (try clear hb2); (try clear hk); (try clear hi); (try clear ho0); obtain ⟨Ao97, co97, eo97⟩ := Kd.R_slice HO324.out
       (first | subst eo97 | (injection eo97 with f1_ f2_ f3_; have f4_ := f1_.symm; have f5_ := f3_.symm; clear f1_ f2_ f3_; subst f4_; subst f5_))
       refine hK.out _ _ ⟨bc BK302 0, bc BK302 1, bc BK302 2, bc BK302 3, bc BK302 4, bc BK270 0, bc BK270 1, bc BK270 2, bc BK270 3, bc BK270 4⟩ (fun hHeld => ?_)
       clear hK K; refine norm_ (a' := ?_) ?_ ?_
       rotate_left
       ·show Act.put _ (some 54) _ = _
        simp only [putL, i64_w, i32_w]; rfl
       refine one_ (i := 3) (N := some 55) #[true, true, true, true, false] rfl rfl (by kernel_rfl) (by decide) (fun K hK => ?_)
       refine goes_ Try.func41 (by kernel_rfl) rfl #[.agg #[.int .i64 t295, .int .i64 t296, .int .i64 t297, .int .i64 t298, .slice Ao54 t299.length co54], .agg #[.int .i64 t318, .int .i64 t319, .int .i64 t320, .int .i64 t321, .slice Ao97 t322.length co97]] (by rfl) rfl rfl (by (try simp only [List.map_toArray, List.map_cons, List.map_nil]); first | done | rfl | (simp only [List.length_drop, List.length_take]; rfl)) ?_
       with_reducible refine (laws_eqWal.calls kj24 t295 t296 t297 t298 _ _ t299 t318 t319 t320 t321 _ _ t322 true _ ?side1 ?side2 ?side3 ?side4 A91.out).mono ?_
       (case side1 => repeat (first | exact (Kd.R_reads' HO_303004.out).2.2 | (with_reducible refine Kd.C_alloc ?_ _) | (with_reducible refine Kd.C_drewN ?_ _) | (with_reducible refine Kd.C_drew ?_)))
       (case side2 => exact (Kd.R_reads' HO_303004.out).2.1)
       (case side3 => repeat (first | exact (Kd.R_reads' HO324.out).2.2 | (with_reducible refine Kd.C_alloc ?_ _) | (with_reducible refine Kd.C_drewN ?_ _) | (with_reducible refine Kd.C_drew ?_)))
       (case side4 => exact (Kd.R_reads' HO324.out).2.1)
       rintro e w98 ⟨rfl, hb⟩
       refine ⟨_, rfl, ?_⟩
       have n9_ := Aside0.mk (below_step (be HB) hb)
       replace HO_295004 := Aside0.mk (Kd.R_below (rr HO_295004) hb); replace HO_303004 := Aside0.mk (Kd.R_below (rr HO_303004) hb); replace HO_317004 := Aside0.mk (Kd.R_below (rr HO_317004) hb); replace HO324 := Aside0.mk (Kd.R_below (rr HO324) hb); replace BK270 := bq BK270 hb; replace BK271 := bq BK271 hb; replace BK294 := bq BK294 hb; replace BK302 := bq BK302 hb; replace BK316 := bq BK316 hb; clear HB; have HB := n9_; clear n9_; (try clear hb); (try clear hb2); (try clear hk); (try clear hi); refine hK.out _ _ ⟨bc BK302 0, bc BK302 1, bc BK302 2, bc BK302 3, bc BK302 4, bc BK270 0, bc BK270 1, bc BK270 2, bc BK270 3, bc BK270 4⟩ (fun hHeld => ?_)
       clear hK K; refine norm_ (a' := ?_) ?_ ?_
       rotate_left
       ·show Act.put _ (some 55) _ = _
        simp only [putL, i64_w, i32_w]; rfl
       refine pure_ (i := 4) (N := some 56) (v := ?_) (a' := ?_) #[true, true, true, true, true] rfl rfl (by kernel_rfl) (fun _ _ _ h => h) (Or.inl ⟨by rfl, ?_⟩) ?_ ?_
       rotate_left
       ·intro w'; go_simp; with_reducible rfl
       rotate_left
       ·simp only [putL, i64_w, i32_w]; rfl
       refine done_ (by kernel_rfl) ?_
       have hnb99 := NB302_270.out; have hnc99 := NB270_302.out; have hnb100 := NB302_271.out; have hnc100 := NB271_302.out; have hnb101 := NB302_294.out; have hnc101 := NB294_302.out; have hnb102 := NB302_316.out; have hnc102 := NB316_302.out; obtain ⟨hcz103_0, hcz103_1, hcz103_2, hcz103_3, hcz103_4⟩ := cs5 BK302; obtain ⟨hfz103_0, hfz103_1, hfz103_2, hfz103_3, hfz103_4⟩ := fs5 BK302
       go_upto_region 17 with (first | ((with_reducible refine gate_callee (f := 42) rfl ?_); refine goesL_ (some 59) rfl rfl Try.func42 (by kernel_rfl) rfl #[.agg #[.int .i64 t295, .int .i64 t296, .int .i64 t297, .int .i64 t298, .slice Ao54 t299.length co54], .int .i64 1] rfl (by (try simp only [List.map_toArray, List.map_cons, List.map_nil]); first | done | rfl | (simp only [List.length_drop, List.length_take]; rfl)) ?_; (with_reducible refine (laws_markWal.calls kj24 t295 t296 t297 t298 (fun k_ => some k_ = (.slice Ao54 t299.length co54 : Value).ownBlock) (.slice Ao54 t299.length co54) t299 1 t326 t327 w _ ?side1 ?side2 A93.out).mono ?_); (case side1 => repeat (first | (with_reducible first | exact HB.out | apply below_alloc | apply pw_below_drewN | apply below_drew1 | refine below_set ?_ GE270.out | refine below_set ?_ GE271.out | refine below_set ?_ GE294.out | refine below_set ?_ GE302.out | refine below_set ?_ GE316.out) | exact HB.out)); (case side2 => exact Kd.R_tight rfl HO_303004.out); rintro e w104 ⟨rfl, hy0, hb, hkp⟩; refine ⟨_, rfl, ?_⟩; have n0_ := Aside0.mk (Kd.R_mono (ok' := fun k_ => some k_ ≠ (.slice Ao54 t299.length co54 : Value).ownBlock ∧ some k_ ≠ (.slice Ao65 t312.length co65 : Value).ownBlock ∧ some k_ ≠ (.slice Ao97 t322.length co97 : Value).ownBlock) (Kd.R_keptB (HO_295004.out) hkp (fun k_ hk_ hs_ => (by first | exact hk_.1.1 hs_ | exact hk_ hs_ | exact hk_.1 hs_ | exact hk_.2 hs_ | exact hk_.1.1 hs_ | exact hk_.1.2 hs_ | exact hk_.2.1 hs_ | exact hk_.2.2 hs_ | exact hk_.1.1.1 hs_ | exact hk_.1.1.2 hs_ | exact hk_.1.2.1 hs_ | exact hk_.1.2.2 hs_ | exact hk_.2.1.1 hs_ | exact hk_.2.1.2 hs_ | exact hk_.2.2.1 hs_ | exact hk_.2.2.2 hs_ | exact hk_.1.1.1.1 hs_ | exact hk_.1.1.1.2 hs_ | exact hk_.1.1.2.1 hs_ | exact hk_.1.1.2.2 hs_ | exact hk_.1.2.1.1 hs_ | exact hk_.1.2.1.2 hs_ | exact hk_.1.2.2.1 hs_ | exact hk_.1.2.2.2 hs_ | exact hk_.2.1.1.1 hs_ | exact hk_.2.1.1.2 hs_ | exact hk_.2.1.2.1 hs_ | exact hk_.2.1.2.2 hs_ | exact hk_.2.2.1.1 hs_ | exact hk_.2.2.1.2 hs_ | exact hk_.2.2.2.1 hs_ | exact hk_.2.2.2.2 hs_))) (fun k_ hk_ => (by first | exact ⟨hk_.1.1.1, hk_.1.1.2, hk_.1.2⟩ | (and_intros <;> first | exact hk_ | exact hk_.1 | exact hk_.2 | exact hk_.1.1 | exact hk_.1.2 | exact hk_.2.1 | exact hk_.2.2 | exact hk_.1.1.1 | exact hk_.1.1.2 | exact hk_.1.2.1 | exact hk_.1.2.2 | exact hk_.2.1.1 | exact hk_.2.1.2 | exact hk_.2.2.1 | exact hk_.2.2.2 | exact hk_.1.1.1.1 | exact hk_.1.1.1.2 | exact hk_.1.1.2.1 | exact hk_.1.1.2.2 | exact hk_.1.2.1.1 | exact hk_.1.2.1.2 | exact hk_.1.2.2.1 | exact hk_.1.2.2.2 | exact hk_.2.1.1.1 | exact hk_.2.1.1.2 | exact hk_.2.1.2.1 | exact hk_.2.1.2.2 | exact hk_.2.2.1.1 | exact hk_.2.2.1.2 | exact hk_.2.2.2.1 | exact hk_.2.2.2.2)))); have n1_ := Aside0.mk (Kd.R_reok rfl hy0 (fun k_ e_ => HO_303004.out.1 k_ e_)); have n2_ := Aside0.mk (Kd.R_mono (ok' := fun k_ => some k_ ≠ (.slice Ao44 t290.length co44 : Value).ownBlock ∧ some k_ ≠ (.slice Ao54 t299.length co54 : Value).ownBlock ∧ some k_ ≠ (.slice Ao97 t322.length co97 : Value).ownBlock) (Kd.R_keptB (HO_317004.out) hkp (fun k_ hk_ hs_ => (by first | exact hk_.1.2 hs_ | exact hk_ hs_ | exact hk_.1 hs_ | exact hk_.2 hs_ | exact hk_.1.1 hs_ | exact hk_.1.2 hs_ | exact hk_.2.1 hs_ | exact hk_.2.2 hs_ | exact hk_.1.1.1 hs_ | exact hk_.1.1.2 hs_ | exact hk_.1.2.1 hs_ | exact hk_.1.2.2 hs_ | exact hk_.2.1.1 hs_ | exact hk_.2.1.2 hs_ | exact hk_.2.2.1 hs_ | exact hk_.2.2.2 hs_ | exact hk_.1.1.1.1 hs_ | exact hk_.1.1.1.2 hs_ | exact hk_.1.1.2.1 hs_ | exact hk_.1.1.2.2 hs_ | exact hk_.1.2.1.1 hs_ | exact hk_.1.2.1.2 hs_ | exact hk_.1.2.2.1 hs_ | exact hk_.1.2.2.2 hs_ | exact hk_.2.1.1.1 hs_ | exact hk_.2.1.1.2 hs_ | exact hk_.2.1.2.1 hs_ | exact hk_.2.1.2.2 hs_ | exact hk_.2.2.1.1 hs_ | exact hk_.2.2.1.2 hs_ | exact hk_.2.2.2.1 hs_ | exact hk_.2.2.2.2 hs_))) (fun k_ hk_ => (by first | exact ⟨hk_.1.1.1, hk_.1.1.2, hk_.1.2⟩ | (and_intros <;> first | exact hk_ | exact hk_.1 | exact hk_.2 | exact hk_.1.1 | exact hk_.1.2 | exact hk_.2.1 | exact hk_.2.2 | exact hk_.1.1.1 | exact hk_.1.1.2 | exact hk_.1.2.1 | exact hk_.1.2.2 | exact hk_.2.1.1 | exact hk_.2.1.2 | exact hk_.2.2.1 | exact hk_.2.2.2 | exact hk_.1.1.1.1 | exact hk_.1.1.1.2 | exact hk_.1.1.2.1 | exact hk_.1.1.2.2 | exact hk_.1.2.1.1 | exact hk_.1.2.1.2 | exact hk_.1.2.2.1 | exact hk_.1.2.2.2 | exact hk_.2.1.1.1 | exact hk_.2.1.1.2 | exact hk_.2.1.2.1 | exact hk_.2.1.2.2 | exact hk_.2.2.1.1 | exact hk_.2.2.1.2 | exact hk_.2.2.2.1 | exact hk_.2.2.2.2)))); have n3_ := Aside0.mk (blk_kept (by (with_reducible repeat first | refine bkN ?_ _ | refine bkD ?_ | refine bkA ?_ _); exact BK270.out) hkp (fun hs_ => (fun e_ => (Kd.R_ne HO_303004.out BK270.out (by decide)) e_) hs_)); have n4_ := Aside0.mk (blk_kept (by (with_reducible repeat first | refine bkN ?_ _ | refine bkD ?_ | refine bkA ?_ _); exact BK271.out) hkp (fun hs_ => (fun e_ => (Kd.R_ne HO_303004.out BK271.out (by decide)) e_) hs_)); have n5_ := Aside0.mk (blk_kept (by (with_reducible repeat first | refine bkN ?_ _ | refine bkD ?_ | refine bkA ?_ _); exact BK294.out) hkp (fun hs_ => (fun e_ => (Kd.R_ne HO_303004.out BK294.out (by decide)) e_) hs_)); have n6_ := Aside0.mk (blk_kept (by (with_reducible repeat first | refine bkN ?_ _ | refine bkD ?_ | refine bkA ?_ _); exact BK302.out) hkp (fun hs_ => (fun e_ => (Kd.R_ne HO_303004.out BK302.out (by decide)) e_) hs_)); have n7_ := Aside0.mk (blk_kept (by (with_reducible repeat first | refine bkN ?_ _ | refine bkD ?_ | refine bkA ?_ _); exact BK316.out) hkp (fun hs_ => (fun e_ => (Kd.R_ne HO_303004.out BK316.out (by decide)) e_) hs_)); have n8_ := Aside0.mk (Kd.R_mono (ok' := fun k_ => some k_ ≠ (.slice Ao44 t290.length co44 : Value).ownBlock ∧ some k_ ≠ (.slice Ao54 t299.length co54 : Value).ownBlock ∧ some k_ ≠ (.slice Ao65 t312.length co65 : Value).ownBlock) (Kd.R_keptB (HO324.out) hkp (fun k_ hk_ hs_ => (by first | exact hk_.1.2 hs_ | exact hk_ hs_ | exact hk_.1 hs_ | exact hk_.2 hs_ | exact hk_.1.1 hs_ | exact hk_.1.2 hs_ | exact hk_.2.1 hs_ | exact hk_.2.2 hs_ | exact hk_.1.1.1 hs_ | exact hk_.1.1.2 hs_ | exact hk_.1.2.1 hs_ | exact hk_.1.2.2 hs_ | exact hk_.2.1.1 hs_ | exact hk_.2.1.2 hs_ | exact hk_.2.2.1 hs_ | exact hk_.2.2.2 hs_ | exact hk_.1.1.1.1 hs_ | exact hk_.1.1.1.2 hs_ | exact hk_.1.1.2.1 hs_ | exact hk_.1.1.2.2 hs_ | exact hk_.1.2.1.1 hs_ | exact hk_.1.2.1.2 hs_ | exact hk_.1.2.2.1 hs_ | exact hk_.1.2.2.2 hs_ | exact hk_.2.1.1.1 hs_ | exact hk_.2.1.1.2 hs_ | exact hk_.2.1.2.1 hs_ | exact hk_.2.1.2.2 hs_ | exact hk_.2.2.1.1 hs_ | exact hk_.2.2.1.2 hs_ | exact hk_.2.2.2.1 hs_ | exact hk_.2.2.2.2 hs_))) (fun k_ hk_ => (by first | exact ⟨hk_.1.1.1.2, hk_.1.1.2, hk_.1.2⟩ | (and_intros <;> first | exact hk_ | exact hk_.1 | exact hk_.2 | exact hk_.1.1 | exact hk_.1.2 | exact hk_.2.1 | exact hk_.2.2 | exact hk_.1.1.1 | exact hk_.1.1.2 | exact hk_.1.2.1 | exact hk_.1.2.2 | exact hk_.2.1.1 | exact hk_.2.1.2 | exact hk_.2.2.1 | exact hk_.2.2.2 | exact hk_.1.1.1.1 | exact hk_.1.1.1.2 | exact hk_.1.1.2.1 | exact hk_.1.1.2.2 | exact hk_.1.2.1.1 | exact hk_.1.2.1.2 | exact hk_.1.2.2.1 | exact hk_.1.2.2.2 | exact hk_.2.1.1.1 | exact hk_.2.1.1.2 | exact hk_.2.1.2.1 | exact hk_.2.1.2.2 | exact hk_.2.2.1.1 | exact hk_.2.2.1.2 | exact hk_.2.2.2.1 | exact hk_.2.2.2.2)))); have n9_ := Aside0.mk (hb); clear HO_295004 HO_303004 HO_317004 BK270 BK271 BK294 BK302 BK316 HO324 HB; have HO_295004 := n0_; have HO_303004 := n1_; have HO_317004 := n2_; have BK270 := n3_; have BK271 := n4_; have BK294 := n5_; have BK302 := n6_; have BK316 := n7_; have HO324 := n8_; have HB := n9_; clear n0_ n1_ n2_ n3_ n4_ n5_ n6_ n7_ n8_ n9_; (try clear hb); (try clear hkp); (try clear hy0)))
       (try simp only [putL])
       go_cut [72] (fun v72 wc => ∃ (kq : Nat) (x72_93 : Bool), v72 = .bool x72_93 ∧ Aside0 (laws_FnExactWalStep.j1 kq t293 x72_93 a0_0 a0_1 a0_2 a0_3 l0_4 a1_0 a1_1 a1_2 a1_3 a1_4 t286 t287 t288 t289 t290 t308 t309 t310 t311 t312 = some r) ∧ Aside0 (kq ≤ kj24) ∧ Aside0 (Kd.R k125 125 wc w.heap.size (fun k_ => some k_ ≠ ((.slice Ao54 t299.length co54) : Value).ownBlock ∧ some k_ ≠ ((.slice Ao65 t312.length co65) : Value).ownBlock) (.slice Ao44 t290.length co44) t290) ∧ Aside0 (Kd.R k125 125 wc w.heap.size (fun k_ => some k_ ≠ ((.slice Ao44 t290.length co44) : Value).ownBlock ∧ some k_ ≠ ((.slice Ao65 t312.length co65) : Value).ownBlock) (.slice Ao54 t299.length co54) t327) ∧ Aside0 (Kd.R k125 125 wc w.heap.size (fun k_ => some k_ ≠ ((.slice Ao44 t290.length co44) : Value).ownBlock ∧ some k_ ≠ ((.slice Ao54 t299.length co54) : Value).ownBlock) (.slice Ao65 t312.length co65) t312) ∧ Aside0 (wc.heap[gb270]? = some (.cells #[.int .i64 a0_0, .int .i64 a0_1, .int .i64 a0_2, .int .i64 a0_3, (.slice A0_4 l0_4.length c0_4)] 56 (0, 0))) ∧ Aside0 (wc.heap[gb271]? = some (.cells #[.int .i64 a1_0, .int .i64 a1_1, .int .i64 a1_2, .int .i64 a1_3, .string a1_4] 57 (0, 0))) ∧ Aside0 (wc.heap[gb294]? = some (.cells #[.int .i64 t286, .int .i64 t287, .int .i64 t288, .int .i64 t289, (.slice Ao44 t290.length co44)] 62 (0, 0))) ∧ Aside0 (wc.heap[gb302]? = some (.cells #[.int .i64 t295, .int .i64 t296, .int .i64 t297, .int .i64 t298, (.slice Ao54 t299.length co54)] 62 (0, 0))) ∧ Aside0 (wc.heap[gb316]? = some (.cells #[.int .i64 t308, .int .i64 t309, .int .i64 t310, .int .i64 t311, (.slice Ao65 t312.length co65)] 62 (0, 0))) ∧ Aside0 (Below w.heap.size w wc))
       case first =>
        have H := HC94.out; clear HC94
        by_cases c105 : t326 < 0
        ·rw [if_pos c105] at H
         have c105b0 : decide (t326 < 0) = true := decide_eq_true c105
         clear c105
         (first | rw [c105b0] | (simp only [i64_w, i32_w]; rw [c105b0]) | skip)
         have H' := Aside0.mk H
         clear H
         go_wp2
         go_meet
         case rel => exact ⟨_, (true), (by first | rfl | (simp; done) | (simp [*]; done)), H', ⟨by have := HJ24.out; first | omega | exact Nat.le_refl _⟩, ⟨by (with_reducible repeat (first | apply Kd.R_alloc | apply Kd.R_drewN | apply Kd.R_drew)); exact Kd.R_mono HO_295004.out (fun _ hk => ⟨hk.1, hk.2.1⟩)⟩, ⟨by (with_reducible repeat (first | apply Kd.R_alloc | apply Kd.R_drewN | apply Kd.R_drew)); exact Kd.R_mono HO_303004.out (fun _ hk => ⟨hk.1.1, hk.1.2⟩)⟩, ⟨by (with_reducible repeat (first | apply Kd.R_alloc | apply Kd.R_drewN | apply Kd.R_drew)); exact Kd.R_mono HO_317004.out (fun _ hk => ⟨hk.1, hk.2.1⟩)⟩, ⟨bb BK270⟩, ⟨bb BK271⟩, ⟨bb BK294⟩, ⟨bb BK302⟩, ⟨bb BK316⟩, ⟨by repeat (first | (with_reducible first | exact HB.out | apply below_alloc | apply pw_below_drewN | apply below_drew1 | refine below_set ?_ GE270.out | refine below_set ?_ GE271.out | refine below_set ?_ GE294.out | refine below_set ?_ GE302.out | refine below_set ?_ GE316.out) | exact HB.out)⟩⟩
        ·rw [if_neg c105] at H
         have c105b0 : decide (t326 < 0) = false := decide_eq_false c105
         clear c105
         (first | rw [c105b0] | (simp only [i64_w, i32_w]; rw [c105b0]) | skip)
         replace H := Option.bind_eq_some_iff.mp H
         obtain ⟨t328, A1060, H⟩ := H
         replace H : (if t328 = true then (laws_FnExactWalStep.j1 kj24 t293 (t315 != t293) a0_0 a0_1 a0_2 a0_3 l0_4 a1_0 a1_1 a1_2 a1_3 a1_4 t286 t287 t288 t289 t290 t308 t309 t310 t311 t312) else (laws_FnExactWalStep.j1 kj24 t293 true a0_0 a0_1 a0_2 a0_3 l0_4 a1_0 a1_1 a1_2 a1_3 a1_4 t286 t287 t288 t289 t290 t308 t309 t310 t311 t312)) = some r := H
         have A106 := Aside0.mk A1060
         clear A1060
         by_cases c107 : t328 = true
         ·subst c107
          have H1 : (laws_FnExactWalStep.j1 kj24 t293 (t315 != t293) a0_0 a0_1 a0_2 a0_3 l0_4 a1_0 a1_1 a1_2 a1_3 a1_4 t286 t287 t288 t289 t290 t308 t309 t310 t311 t312) = some r := by rw [if_pos rfl] at H; exact H
          clear H; have H := H1
          clear H1; have H' := Aside0.mk H
          clear H; have hnb108 := NB316_270.out; have hnc108 := NB270_316.out; have hnb109 := NB316_271.out; have hnc109 := NB271_316.out; have hnb110 := NB316_294.out; have hnc110 := NB294_316.out; have hnb111 := NB316_302.out; have hnc111 := NB302_316.out; obtain ⟨hcz112_0, hcz112_1, hcz112_2, hcz112_3, hcz112_4⟩ := cs5 BK316; obtain ⟨hfz112_0, hfz112_1, hfz112_2, hfz112_3, hfz112_4⟩ := fs5 BK316; have hnb113 := NB294_270.out; have hnc113 := NB270_294.out; have hnb114 := NB294_271.out; have hnc114 := NB271_294.out; have hnb115 := NB294_302.out; have hnc115 := NB302_294.out; obtain ⟨hcz116_0, hcz116_1, hcz116_2, hcz116_3, hcz116_4⟩ := cs5 BK294; obtain ⟨hfz116_0, hfz116_1, hfz116_2, hfz116_3, hfz116_4⟩ := fs5 BK294
          go_wp2_with (first | (go_at_call 41; (with_reducible refine (laws_eqWal.calls kj24 t308 t309 t310 t311 _ _ t312 t286 t287 t288 t289 _ _ t290 true _ ?side1 ?side2 ?side3 ?side4 A106.out).mono ?_); (case side1 => repeat (first | exact (Kd.R_reads' HO_317004.out).2.2 | (with_reducible refine Kd.C_alloc ?_ _) | (with_reducible refine Kd.C_drewN ?_ _) | (with_reducible refine Kd.C_drew ?_))); (case side2 => exact (Kd.R_reads' HO_317004.out).2.1); (case side3 => repeat (first | exact (Kd.R_reads' HO_295004.out).2.2 | (with_reducible refine Kd.C_alloc ?_ _) | (with_reducible refine Kd.C_drewN ?_ _) | (with_reducible refine Kd.C_drew ?_))); (case side4 => exact (Kd.R_reads' HO_295004.out).2.1); rintro e w117 ⟨rfl, hb⟩; have n9_ := Aside0.mk (below_step (be HB) hb); replace HO_295004 := Aside0.mk (Kd.R_below (rr HO_295004) hb); replace HO_303004 := Aside0.mk (Kd.R_below (rr HO_303004) hb); replace HO_317004 := Aside0.mk (Kd.R_below (rr HO_317004) hb); replace HO324 := Aside0.mk (Kd.R_below (rr HO324) hb); replace BK270 := bq BK270 hb; replace BK271 := bq BK271 hb; replace BK294 := bq BK294 hb; replace BK302 := bq BK302 hb; replace BK316 := bq BK316 hb; clear HB; have HB := n9_; clear n9_; (try clear hb); (try clear hb2); (try clear hk); (try clear hi)))
          go_meet
          case rel => exact ⟨_, ((t315 != t293)), (by first | rfl | (simp; done) | (simp [*]; done)), H', ⟨by have := HJ24.out; first | omega | exact Nat.le_refl _⟩, ⟨by (with_reducible repeat (first | apply Kd.R_alloc | apply Kd.R_drewN | apply Kd.R_drew)); exact Kd.R_mono HO_295004.out (fun _ hk => ⟨hk.1, hk.2.1⟩)⟩, ⟨by (with_reducible repeat (first | apply Kd.R_alloc | apply Kd.R_drewN | apply Kd.R_drew)); exact Kd.R_mono HO_303004.out (fun _ hk => ⟨hk.1.1, hk.1.2⟩)⟩, ⟨by (with_reducible repeat (first | apply Kd.R_alloc | apply Kd.R_drewN | apply Kd.R_drew)); exact Kd.R_mono HO_317004.out (fun _ hk => ⟨hk.1, hk.2.1⟩)⟩, ⟨bb BK270⟩, ⟨bb BK271⟩, ⟨bb BK294⟩, ⟨bb BK302⟩, ⟨bb BK316⟩, ⟨by repeat (first | (with_reducible first | exact HB.out | apply below_alloc | apply pw_below_drewN | apply below_drew1 | refine below_set ?_ GE270.out | refine below_set ?_ GE271.out | refine below_set ?_ GE294.out | refine below_set ?_ GE302.out | refine below_set ?_ GE316.out) | exact HB.out)⟩⟩
         ·replace c107 := Bool.eq_false_iff.mpr c107
          subst c107
          have H1 : (laws_FnExactWalStep.j1 kj24 t293 true a0_0 a0_1 a0_2 a0_3 l0_4 a1_0 a1_1 a1_2 a1_3 a1_4 t286 t287 t288 t289 t290 t308 t309 t310 t311 t312) = some r := by rw [if_neg (show ¬ (false = true) by decide)] at H; exact H
          clear H; have H := H1
          clear H1; have H' := Aside0.mk H
          clear H; have hnb118 := NB316_270.out; have hnc118 := NB270_316.out; have hnb119 := NB316_271.out; have hnc119 := NB271_316.out; have hnb120 := NB316_294.out; have hnc120 := NB294_316.out; have hnb121 := NB316_302.out; have hnc121 := NB302_316.out; obtain ⟨hcz122_0, hcz122_1, hcz122_2, hcz122_3, hcz122_4⟩ := cs5 BK316; obtain ⟨hfz122_0, hfz122_1, hfz122_2, hfz122_3, hfz122_4⟩ := fs5 BK316; have hnb123 := NB294_270.out; have hnc123 := NB270_294.out; have hnb124 := NB294_271.out; have hnc124 := NB271_294.out; have hnb125 := NB294_302.out; have hnc125 := NB302_294.out; obtain ⟨hcz126_0, hcz126_1, hcz126_2, hcz126_3, hcz126_4⟩ := cs5 BK294; obtain ⟨hfz126_0, hfz126_1, hfz126_2, hfz126_3, hfz126_4⟩ := fs5 BK294
          go_wp2_with (first | (go_at_call 41; (with_reducible refine (laws_eqWal.calls kj24 t308 t309 t310 t311 _ _ t312 t286 t287 t288 t289 _ _ t290 false _ ?side1 ?side2 ?side3 ?side4 A106.out).mono ?_); (case side1 => repeat (first | exact (Kd.R_reads' HO_317004.out).2.2 | (with_reducible refine Kd.C_alloc ?_ _) | (with_reducible refine Kd.C_drewN ?_ _) | (with_reducible refine Kd.C_drew ?_))); (case side2 => exact (Kd.R_reads' HO_317004.out).2.1); (case side3 => repeat (first | exact (Kd.R_reads' HO_295004.out).2.2 | (with_reducible refine Kd.C_alloc ?_ _) | (with_reducible refine Kd.C_drewN ?_ _) | (with_reducible refine Kd.C_drew ?_))); (case side4 => exact (Kd.R_reads' HO_295004.out).2.1); rintro e w127 ⟨rfl, hb⟩; have n9_ := Aside0.mk (below_step (be HB) hb); replace HO_295004 := Aside0.mk (Kd.R_below (rr HO_295004) hb); replace HO_303004 := Aside0.mk (Kd.R_below (rr HO_303004) hb); replace HO_317004 := Aside0.mk (Kd.R_below (rr HO_317004) hb); replace HO324 := Aside0.mk (Kd.R_below (rr HO324) hb); replace BK270 := bq BK270 hb; replace BK271 := bq BK271 hb; replace BK294 := bq BK294 hb; replace BK302 := bq BK302 hb; replace BK316 := bq BK316 hb; clear HB; have HB := n9_; clear n9_; (try clear hb); (try clear hb2); (try clear hk); (try clear hi)))
          go_meet
          case rel => exact ⟨_, (true), (by first | rfl | (simp; done) | (simp [*]; done)), H', ⟨by have := HJ24.out; first | omega | exact Nat.le_refl _⟩, ⟨by (with_reducible repeat (first | apply Kd.R_alloc | apply Kd.R_drewN | apply Kd.R_drew)); exact Kd.R_mono HO_295004.out (fun _ hk => ⟨hk.1, hk.2.1⟩)⟩, ⟨by (with_reducible repeat (first | apply Kd.R_alloc | apply Kd.R_drewN | apply Kd.R_drew)); exact Kd.R_mono HO_303004.out (fun _ hk => ⟨hk.1.1, hk.1.2⟩)⟩, ⟨by (with_reducible repeat (first | apply Kd.R_alloc | apply Kd.R_drewN | apply Kd.R_drew)); exact Kd.R_mono HO_317004.out (fun _ hk => ⟨hk.1, hk.2.1⟩)⟩, ⟨bb BK270⟩, ⟨bb BK271⟩, ⟨bb BK294⟩, ⟨bb BK302⟩, ⟨bb BK316⟩, ⟨by repeat (first | (with_reducible first | exact HB.out | apply below_alloc | apply pw_below_drewN | apply below_drew1 | refine below_set ?_ GE270.out | refine below_set ?_ GE271.out | refine below_set ?_ GE294.out | refine below_set ?_ GE302.out | refine below_set ?_ GE316.out) | exact HB.out)⟩⟩
       case rest =>
        clear HC94; (try clear c1); (try clear p2); (try clear c3); (try clear c4); (try clear c6); (try clear c7); (try clear c8); (try clear c9); (try clear c10); (try clear c11); (try clear c12); (try clear c38); (try clear c39); (try clear c40); (try clear c41); (try clear c42); (try clear c68); (try clear c69); (try clear c70); (try clear c71); (try clear c72); (try clear c74); (try clear c75); (try clear c76); (try clear c79); (try clear c80); (try clear c81); (try clear c82); (try clear c84); (try clear c85); (try clear c86); (try clear c89); (try clear c92); (try clear c99); (try clear c100); (try clear c101); (try clear c102); (try clear c105); (try clear c105b0); (try clear c107); (try clear c108); (try clear c109); (try clear c110); (try clear c111); (try clear c113); (try clear c114); (try clear c115); (try clear c118); (try clear c119); (try clear c120); (try clear c121); (try clear c123); (try clear c124); (try clear c125); (try clear hcz103_0); (try clear hcz103_1); (try clear hcz103_2); (try clear hcz103_3); (try clear hcz103_4); (try clear hcz112_0); (try clear hcz112_1); (try clear hcz112_2); (try clear hcz112_3); (try clear hcz112_4); (try clear hcz116_0); (try clear hcz116_1); (try clear hcz116_2); (try clear hcz116_3); (try clear hcz116_4); (try clear hcz122_0); (try clear hcz122_1); (try clear hcz122_2); (try clear hcz122_3); (try clear hcz122_4); (try clear hcz126_0); (try clear hcz126_1); (try clear hcz126_2); (try clear hcz126_3); (try clear hcz126_4); (try clear hcz73_0); (try clear hcz73_1); (try clear hcz73_2); (try clear hcz73_3); (try clear hcz73_4); (try clear hcz77_0); (try clear hcz77_1); (try clear hcz77_2); (try clear hcz77_3); (try clear hcz77_4); (try clear hcz83_0); (try clear hcz83_1); (try clear hcz83_2); (try clear hcz83_3); (try clear hcz83_4); (try clear hcz87_0); (try clear hcz87_1); (try clear hcz87_2); (try clear hcz87_3); (try clear hcz87_4); (try clear hfz103_0); (try clear hfz103_1); (try clear hfz103_2); (try clear hfz103_3); (try clear hfz103_4); (try clear hfz112_0); (try clear hfz112_1); (try clear hfz112_2); (try clear hfz112_3); (try clear hfz112_4); (try clear hfz116_0); (try clear hfz116_1); (try clear hfz116_2); (try clear hfz116_3); (try clear hfz116_4); (try clear hfz122_0); (try clear hfz122_1); (try clear hfz122_2); (try clear hfz122_3); (try clear hfz122_4); (try clear hfz126_0); (try clear hfz126_1); (try clear hfz126_2); (try clear hfz126_3); (try clear hfz126_4); (try clear hfz73_0); (try clear hfz73_1); (try clear hfz73_2); (try clear hfz73_3); (try clear hfz73_4); (try clear hfz77_0); (try clear hfz77_1); (try clear hfz77_2); (try clear hfz77_3); (try clear hfz77_4); (try clear hfz83_0); (try clear hfz83_1); (try clear hfz83_2); (try clear hfz83_3); (try clear hfz83_4); (try clear hfz87_0); (try clear hfz87_1); (try clear hfz87_2); (try clear hfz87_3); (try clear hfz87_4); (try clear p2); obtain ⟨kq, x72_93, rfl, HA, HJ93, HO_295004, HO_303004, HO_317004, BK270, BK271, BK294, BK302, BK316, HB⟩ := hcut
        have hl303004_93 := (Kd.R_reads' HO_303004.out).1
        rw [hl303004_93] at HO_303004
        (try simp only [hl303004_93])
        (try simp only [hl303004_93] at BK270)
        (try simp only [hl303004_93] at BK271)
        (try simp only [hl303004_93] at BK294)
        (try simp only [hl303004_93] at BK302)
        (try simp only [hl303004_93] at BK316)
        (try simp only [hl303004_93] at HO_295004)
        (try simp only [hl303004_93] at HO_317004)
        cases kq with
        | zero => exact absurd HA.out (by simp [laws_FnExactWalStep.j1])
        | succ kj93 =>
         have H := HA.out; clear HA; simp only [laws_FnExactWalStep.j1] at H
         by_cases c128 : x72_93 = true
         ·subst c128
          have H1 : (none) = some r := by rw [if_pos rfl] at H; exact H
          clear H; have H := H1
          clear H1; exact absurd H (by simp)
         ·replace c128 := Bool.eq_false_iff.mpr c128
          subst c128
          have H1 : ((laws_markWal.f kj93 t308 t309 t310 t311 t312 1).bind fun bt329 => ((laws_heldWal.f kj93 t308 t309 t310 t311 bt329.2 1).bind fun t331 => (if t331 < 0 then (none) else (if t331 = bt329.1 then ((laws_toWal.f kj93 a0_0 a0_1 a0_2 a0_3 l0_4).bind fun bt332 => ((laws_toRec.f a1_0 a1_1 a1_2 a1_3 a1_4).bind fun bt339 => ((impl_WalStep.f kj93 bt332.1 bt332.2.1 bt332.2.2.1 bt332.2.2.2.1 bt332.2.2.2.2 bt339.1 bt339.2.1 bt339.2.2.1 bt339.2.2.2.1 bt339.2.2.2.2).bind fun bt344 => ((laws_eqWal.f kj93 bt344.1 bt344.2.1 bt344.2.2.1 bt344.2.2.2.1 bt344.2.2.2.2.1 t286 t287 t288 t289 t290).bind fun t353 => (if t353 = true then (laws_FnExactWalStep.j2 kj93 bt329.1 (bt344.2.2.2.2.2 != t293) t308 t309 t310 t311 bt329.2) else (laws_FnExactWalStep.j2 kj93 bt329.1 true t308 t309 t310 t311 bt329.2)))))) else (none))))) = some r := by rw [if_neg (show ¬ (false = true) by decide)] at H; exact H
          clear H; have H := H1
          clear H1; replace H := Option.bind_eq_some_iff.mp H
          obtain ⟨⟨t329, t330⟩, A1290, H⟩ := H
          replace H : ((laws_heldWal.f kj93 t308 t309 t310 t311 t330 1).bind fun t331 => (if t331 < 0 then (none) else (if t331 = t329 then ((laws_toWal.f kj93 a0_0 a0_1 a0_2 a0_3 l0_4).bind fun bt332 => ((laws_toRec.f a1_0 a1_1 a1_2 a1_3 a1_4).bind fun bt339 => ((impl_WalStep.f kj93 bt332.1 bt332.2.1 bt332.2.2.1 bt332.2.2.2.1 bt332.2.2.2.2 bt339.1 bt339.2.1 bt339.2.2.1 bt339.2.2.2.1 bt339.2.2.2.2).bind fun bt344 => ((laws_eqWal.f kj93 bt344.1 bt344.2.1 bt344.2.2.1 bt344.2.2.2.1 bt344.2.2.2.2.1 t286 t287 t288 t289 t290).bind fun t353 => (if t353 = true then (laws_FnExactWalStep.j2 kj93 t329 (bt344.2.2.2.2.2 != t293) t308 t309 t310 t311 t330) else (laws_FnExactWalStep.j2 kj93 t329 true t308 t309 t310 t311 t330)))))) else (none)))) = some r := H
          have A129 := Aside0.mk A1290
          clear A1290; replace H := Option.bind_eq_some_iff.mp H
          obtain ⟨t331, A1300, H⟩ := H
          replace H : (if t331 < 0 then (none) else (if t331 = t329 then ((laws_toWal.f kj93 a0_0 a0_1 a0_2 a0_3 l0_4).bind fun bt332 => ((laws_toRec.f a1_0 a1_1 a1_2 a1_3 a1_4).bind fun bt339 => ((impl_WalStep.f kj93 bt332.1 bt332.2.1 bt332.2.2.1 bt332.2.2.2.1 bt332.2.2.2.2 bt339.1 bt339.2.1 bt339.2.2.1 bt339.2.2.2.1 bt339.2.2.2.2).bind fun bt344 => ((laws_eqWal.f kj93 bt344.1 bt344.2.1 bt344.2.2.1 bt344.2.2.2.1 bt344.2.2.2.2.1 t286 t287 t288 t289 t290).bind fun t353 => (if t353 = true then (laws_FnExactWalStep.j2 kj93 t329 (bt344.2.2.2.2.2 != t293) t308 t309 t310 t311 t330) else (laws_FnExactWalStep.j2 kj93 t329 true t308 t309 t310 t311 t330)))))) else (none))) = some r := H
          have A130 := Aside0.mk A1300
          clear A1300
          by_cases c131 : t331 < 0
          ·rw [if_pos c131] at H
           exact absurd H (by simp)
          ·rw [if_neg c131] at H
           have c131b0 : decide (t331 < 0) = false := decide_eq_false c131
           clear c131
           by_cases c132 : t331 = t329
           ·rw [if_pos c132] at H
            have c132b0 : (t331 == t329) = true := beq_iff_eq.mpr c132
            have c132b1 : (t331 != t329) = false := bne_eq_false_iff_eq.mpr c132
            clear c132; replace H := Option.bind_eq_some_iff.mp H
            obtain ⟨⟨t332, t333, t334, t335, t336⟩, A1330, H⟩ := H
            replace H : ((laws_toRec.f a1_0 a1_1 a1_2 a1_3 a1_4).bind fun bt339 => ((impl_WalStep.f kj93 t332 t333 t334 t335 t336 bt339.1 bt339.2.1 bt339.2.2.1 bt339.2.2.2.1 bt339.2.2.2.2).bind fun bt344 => ((laws_eqWal.f kj93 bt344.1 bt344.2.1 bt344.2.2.1 bt344.2.2.2.1 bt344.2.2.2.2.1 t286 t287 t288 t289 t290).bind fun t353 => (if t353 = true then (laws_FnExactWalStep.j2 kj93 t329 (bt344.2.2.2.2.2 != t293) t308 t309 t310 t311 t330) else (laws_FnExactWalStep.j2 kj93 t329 true t308 t309 t310 t311 t330))))) = some r := H
            have A133 := Aside0.mk A1330
            clear A1330; replace H := Option.bind_eq_some_iff.mp H
            obtain ⟨⟨t339, t340, t341, t342, t343⟩, A1340, H⟩ := H
            replace H : ((impl_WalStep.f kj93 t332 t333 t334 t335 t336 t339 t340 t341 t342 t343).bind fun bt344 => ((laws_eqWal.f kj93 bt344.1 bt344.2.1 bt344.2.2.1 bt344.2.2.2.1 bt344.2.2.2.2.1 t286 t287 t288 t289 t290).bind fun t353 => (if t353 = true then (laws_FnExactWalStep.j2 kj93 t329 (bt344.2.2.2.2.2 != t293) t308 t309 t310 t311 t330) else (laws_FnExactWalStep.j2 kj93 t329 true t308 t309 t310 t311 t330)))) = some r := H
            have A134 := Aside0.mk A1340
            clear A1340; replace H := Option.bind_eq_some_iff.mp H
            obtain ⟨⟨t344, t345, t346, t347, t348, t351⟩, A1350, H⟩ := H
            replace H : ((laws_eqWal.f kj93 t344 t345 t346 t347 t348 t286 t287 t288 t289 t290).bind fun t353 => (if t353 = true then (laws_FnExactWalStep.j2 kj93 t329 (t351 != t293) t308 t309 t310 t311 t330) else (laws_FnExactWalStep.j2 kj93 t329 true t308 t309 t310 t311 t330))) = some r := H
            have A135 := Aside0.mk A1350
            clear A1350; have HC136 := Aside0.mk H
            clear H; have hnb137 := NB316_270.out; have hnc137 := NB270_316.out; have hnb138 := NB316_271.out; have hnc138 := NB271_316.out; have hnb139 := NB316_294.out; have hnc139 := NB294_316.out; have hnb140 := NB316_302.out; have hnc140 := NB302_316.out; obtain ⟨hcz141_0, hcz141_1, hcz141_2, hcz141_3, hcz141_4⟩ := cs5 BK316; obtain ⟨hfz141_0, hfz141_1, hfz141_2, hfz141_3, hfz141_4⟩ := fs5 BK316
            try go_wp2_with (first | ((with_reducible refine gate_callee (f := 42) rfl ?_); refine goesL_ (some 75) rfl rfl Try.func42 (by kernel_rfl) rfl #[.agg #[.int .i64 t308, .int .i64 t309, .int .i64 t310, .int .i64 t311, .slice Ao65 t312.length co65], .int .i64 1] rfl (by (try simp only [List.map_toArray, List.map_cons, List.map_nil]); first | done | rfl | (simp only [List.length_drop, List.length_take]; rfl)) ?_; (with_reducible refine (laws_markWal.calls kj93 t308 t309 t310 t311 (fun k_ => some k_ = (.slice Ao65 t312.length co65 : Value).ownBlock) (.slice Ao65 t312.length co65) t312 1 t329 t330 w _ ?side1 ?side2 A129.out).mono ?_); (case side1 => repeat (first | (with_reducible first | exact HB.out | apply below_alloc | apply pw_below_drewN | apply below_drew1 | refine below_set ?_ GE270.out | refine below_set ?_ GE271.out | refine below_set ?_ GE294.out | refine below_set ?_ GE302.out | refine below_set ?_ GE316.out) | exact HB.out)); (case side2 => exact Kd.R_tight rfl HO_317004.out); rintro e w142 ⟨rfl, hy0, hb, hkp⟩; refine ⟨_, rfl, ?_⟩; have n0_ := Aside0.mk (Kd.R_mono (ok' := fun k_ => some k_ ≠ (.slice Ao54 t327.length co54 : Value).ownBlock ∧ some k_ ≠ (.slice Ao65 t312.length co65 : Value).ownBlock) (Kd.R_keptB (HO_295004.out) hkp (fun k_ hk_ hs_ => (by first | exact hk_.2 hs_ | exact hk_ hs_ | exact hk_.1 hs_ | exact hk_.2 hs_ | exact hk_.1.1 hs_ | exact hk_.1.2 hs_ | exact hk_.2.1 hs_ | exact hk_.2.2 hs_ | exact hk_.1.1.1 hs_ | exact hk_.1.1.2 hs_ | exact hk_.1.2.1 hs_ | exact hk_.1.2.2 hs_ | exact hk_.2.1.1 hs_ | exact hk_.2.1.2 hs_ | exact hk_.2.2.1 hs_ | exact hk_.2.2.2 hs_ | exact hk_.1.1.1.1 hs_ | exact hk_.1.1.1.2 hs_ | exact hk_.1.1.2.1 hs_ | exact hk_.1.1.2.2 hs_ | exact hk_.1.2.1.1 hs_ | exact hk_.1.2.1.2 hs_ | exact hk_.1.2.2.1 hs_ | exact hk_.1.2.2.2 hs_ | exact hk_.2.1.1.1 hs_ | exact hk_.2.1.1.2 hs_ | exact hk_.2.1.2.1 hs_ | exact hk_.2.1.2.2 hs_ | exact hk_.2.2.1.1 hs_ | exact hk_.2.2.1.2 hs_ | exact hk_.2.2.2.1 hs_ | exact hk_.2.2.2.2 hs_))) (fun k_ hk_ => (by first | exact ⟨hk_.1.1, hk_.1.2⟩ | (and_intros <;> first | exact hk_ | exact hk_.1 | exact hk_.2 | exact hk_.1.1 | exact hk_.1.2 | exact hk_.2.1 | exact hk_.2.2 | exact hk_.1.1.1 | exact hk_.1.1.2 | exact hk_.1.2.1 | exact hk_.1.2.2 | exact hk_.2.1.1 | exact hk_.2.1.2 | exact hk_.2.2.1 | exact hk_.2.2.2 | exact hk_.1.1.1.1 | exact hk_.1.1.1.2 | exact hk_.1.1.2.1 | exact hk_.1.1.2.2 | exact hk_.1.2.1.1 | exact hk_.1.2.1.2 | exact hk_.1.2.2.1 | exact hk_.1.2.2.2 | exact hk_.2.1.1.1 | exact hk_.2.1.1.2 | exact hk_.2.1.2.1 | exact hk_.2.1.2.2 | exact hk_.2.2.1.1 | exact hk_.2.2.1.2 | exact hk_.2.2.2.1 | exact hk_.2.2.2.2)))); have n1_ := Aside0.mk (Kd.R_mono (ok' := fun k_ => some k_ ≠ (.slice Ao44 t290.length co44 : Value).ownBlock ∧ some k_ ≠ (.slice Ao65 t312.length co65 : Value).ownBlock) (Kd.R_keptB (HO_303004.out) hkp (fun k_ hk_ hs_ => (by first | exact hk_.2 hs_ | exact hk_ hs_ | exact hk_.1 hs_ | exact hk_.2 hs_ | exact hk_.1.1 hs_ | exact hk_.1.2 hs_ | exact hk_.2.1 hs_ | exact hk_.2.2 hs_ | exact hk_.1.1.1 hs_ | exact hk_.1.1.2 hs_ | exact hk_.1.2.1 hs_ | exact hk_.1.2.2 hs_ | exact hk_.2.1.1 hs_ | exact hk_.2.1.2 hs_ | exact hk_.2.2.1 hs_ | exact hk_.2.2.2 hs_ | exact hk_.1.1.1.1 hs_ | exact hk_.1.1.1.2 hs_ | exact hk_.1.1.2.1 hs_ | exact hk_.1.1.2.2 hs_ | exact hk_.1.2.1.1 hs_ | exact hk_.1.2.1.2 hs_ | exact hk_.1.2.2.1 hs_ | exact hk_.1.2.2.2 hs_ | exact hk_.2.1.1.1 hs_ | exact hk_.2.1.1.2 hs_ | exact hk_.2.1.2.1 hs_ | exact hk_.2.1.2.2 hs_ | exact hk_.2.2.1.1 hs_ | exact hk_.2.2.1.2 hs_ | exact hk_.2.2.2.1 hs_ | exact hk_.2.2.2.2 hs_))) (fun k_ hk_ => (by first | exact ⟨hk_.1.1, hk_.1.2⟩ | (and_intros <;> first | exact hk_ | exact hk_.1 | exact hk_.2 | exact hk_.1.1 | exact hk_.1.2 | exact hk_.2.1 | exact hk_.2.2 | exact hk_.1.1.1 | exact hk_.1.1.2 | exact hk_.1.2.1 | exact hk_.1.2.2 | exact hk_.2.1.1 | exact hk_.2.1.2 | exact hk_.2.2.1 | exact hk_.2.2.2 | exact hk_.1.1.1.1 | exact hk_.1.1.1.2 | exact hk_.1.1.2.1 | exact hk_.1.1.2.2 | exact hk_.1.2.1.1 | exact hk_.1.2.1.2 | exact hk_.1.2.2.1 | exact hk_.1.2.2.2 | exact hk_.2.1.1.1 | exact hk_.2.1.1.2 | exact hk_.2.1.2.1 | exact hk_.2.1.2.2 | exact hk_.2.2.1.1 | exact hk_.2.2.1.2 | exact hk_.2.2.2.1 | exact hk_.2.2.2.2)))); have n2_ := Aside0.mk (Kd.R_reok rfl hy0 (fun k_ e_ => HO_317004.out.1 k_ e_)); have n3_ := Aside0.mk (blk_kept (by (with_reducible repeat first | refine bkN ?_ _ | refine bkD ?_ | refine bkA ?_ _); exact BK270.out) hkp (fun hs_ => (fun e_ => (Kd.R_ne HO_317004.out BK270.out (by decide)) e_) hs_)); have n4_ := Aside0.mk (blk_kept (by (with_reducible repeat first | refine bkN ?_ _ | refine bkD ?_ | refine bkA ?_ _); exact BK271.out) hkp (fun hs_ => (fun e_ => (Kd.R_ne HO_317004.out BK271.out (by decide)) e_) hs_)); have n5_ := Aside0.mk (blk_kept (by (with_reducible repeat first | refine bkN ?_ _ | refine bkD ?_ | refine bkA ?_ _); exact BK294.out) hkp (fun hs_ => (fun e_ => (Kd.R_ne HO_317004.out BK294.out (by decide)) e_) hs_)); have n6_ := Aside0.mk (blk_kept (by (with_reducible repeat first | refine bkN ?_ _ | refine bkD ?_ | refine bkA ?_ _); exact BK302.out) hkp (fun hs_ => (fun e_ => (Kd.R_ne HO_317004.out BK302.out (by decide)) e_) hs_)); have n7_ := Aside0.mk (blk_kept (by (with_reducible repeat first | refine bkN ?_ _ | refine bkD ?_ | refine bkA ?_ _); exact BK316.out) hkp (fun hs_ => (fun e_ => (Kd.R_ne HO_317004.out BK316.out (by decide)) e_) hs_)); have n8_ := Aside0.mk (hb); clear HO_295004 HO_303004 HO_317004 BK270 BK271 BK294 BK302 BK316 HB; have HO_295004 := n0_; have HO_303004 := n1_; have HO_317004 := n2_; have BK270 := n3_; have BK271 := n4_; have BK294 := n5_; have BK302 := n6_; have BK316 := n7_; have HB := n8_; clear n0_ n1_ n2_ n3_ n4_ n5_ n6_ n7_ n8_; (try clear hb); (try clear hkp); (try clear hy0); obtain ⟨hcz143_0, hcz143_1, hcz143_2, hcz143_3, hcz143_4⟩ := cs5 BK316; obtain ⟨hfz143_0, hfz143_1, hfz143_2, hfz143_3, hfz143_4⟩ := fs5 BK316) | ((with_reducible refine gate_callee (f := 43) rfl ?_); refine goesL_ (some 78) rfl rfl Try.func43 (by kernel_rfl) rfl #[.agg #[.int .i64 t308, .int .i64 t309, .int .i64 t310, .int .i64 t311, .slice Ao65 t330.length co65], .int .i64 1] rfl (by (try simp only [List.map_toArray, List.map_cons, List.map_nil]); first | done | (rw [show t330.length = t312.length from (Kd.R_reads' HO_317004.out).1.symm] <;> rfl) | rfl | (simp only [List.length_drop, List.length_take]; rfl)) ?_; (with_reducible refine (laws_heldWal.calls kj93 t308 t309 t310 t311 _ _ t330 1 t331 _ ?side1 ?side2 A130.out).mono ?_); (case side1 => repeat (first | exact (Kd.R_reads' HO_317004.out).2.2 | (with_reducible refine Kd.C_alloc ?_ _) | (with_reducible refine Kd.C_drewN ?_ _) | (with_reducible refine Kd.C_drew ?_))); (case side2 => rw [show t330.length = t312.length from (Kd.R_reads' HO_317004.out).1.symm]; exact (Kd.R_reads' HO_317004.out).2.1); rintro e w144 ⟨rfl, hb⟩; refine ⟨_, rfl, ?_⟩; have n8_ := Aside0.mk (below_step (be HB) hb); replace HO_295004 := Aside0.mk (Kd.R_below (rr HO_295004) hb); replace HO_303004 := Aside0.mk (Kd.R_below (rr HO_303004) hb); replace HO_317004 := Aside0.mk (Kd.R_below (rr HO_317004) hb); replace BK270 := bq BK270 hb; replace BK271 := bq BK271 hb; replace BK294 := bq BK294 hb; replace BK302 := bq BK302 hb; replace BK316 := bq BK316 hb; clear HB; have HB := n8_; clear n8_; (try clear hb); (try clear hb2); (try clear hk); (try clear hi)))
            have n0_ := Aside0.mk (Kd.R_drew HO_295004.out)
            have n1_ := Aside0.mk (Kd.R_drew HO_303004.out)
            have n2_ := Aside0.mk (Kd.R_drew HO_317004.out)
            have n3_ := Aside0.mk (blk_drew BK270.out)
            have n4_ := Aside0.mk (blk_drew BK271.out)
            have n5_ := Aside0.mk (blk_drew BK294.out)
            have n6_ := Aside0.mk (blk_drew BK302.out)
            have n7_ := Aside0.mk (blk_drew BK316.out)
            have n8_ := Aside0.mk (below_drew1 HB.out)
            clear HO_295004 HO_303004 HO_317004 BK270 BK271 BK294 BK302 BK316 HB; have HO_295004 := n0_; have HO_303004 := n1_; have HO_317004 := n2_; have BK270 := n3_; have BK271 := n4_; have BK294 := n5_; have BK302 := n6_; have BK316 := n7_; have HB := n8_; clear n0_ n1_ n2_ n3_ n4_ n5_ n6_ n7_ n8_; refine start_ (n := 11) (S := fun w' => w'.cell? ⟨gb270, 0, none⟩ = some (.int .i64 a0_0) ∧ w'.cell? ⟨gb270, 1, none⟩ = some (.int .i64 a0_1) ∧ w'.cell? ⟨gb270, 2, none⟩ = some (.int .i64 a0_2) ∧ w'.cell? ⟨gb270, 3, none⟩ = some (.int .i64 a0_3) ∧ w'.cell? ⟨gb270, 4, none⟩ = some (.slice A0_4 l0_4.length c0_4) ∧ w'.cell? ⟨gb271, 0, none⟩ = some (.int .i64 a1_0) ∧ w'.cell? ⟨gb271, 1, none⟩ = some (.int .i64 a1_1) ∧ w'.cell? ⟨gb271, 2, none⟩ = some (.int .i64 a1_2) ∧ w'.cell? ⟨gb271, 3, none⟩ = some (.int .i64 a1_3) ∧ w'.cell? ⟨gb271, 4, none⟩ = some (.string a1_4)) (ds := []) #[false, false, false, false, false, false, false, false, false, false, false] (by kernel_rfl) rfl rfl ⟨bc BK270 0, bc BK270 1, bc BK270 2, bc BK270 3, bc BK270 4, bc BK271 0, bc BK271 1, bc BK271 2, bc BK271 3, bc BK271 4⟩ (fun hHeld => ?_); refine with_tabW laws_FnExactWalStep.tab27 laws_FnExactWalStep.bits27 (fun HT_ HW_ => ?_)
            generalize w144.drew = w145 at HO_295004 HO_303004 HO_317004 BK270 BK271 BK294 BK302 BK316 HB hHeld ⊢
            refine take_ (i := 0) (N := some 85) (v := ?_) (a' := ?_) #[true, false, false, false, false, false, false, false, false, false, false] rfl rfl (take_ofW HT_.out HW_.out (by kernel_rfl)) (fun _ _ _ h => h) (Or.inl ⟨by rfl, ?_⟩) hHeld ?_ ?_
            rotate_left
            ·rintro w' ⟨s0, s1, s2, s3, s4, s5, s6, s7, s8, s9⟩
             go_simp; with_reducible rfl
            rotate_left
            ·simp only [putL, i64_w, i32_w]; rfl
            refine take_ (i := 2) (N := some 87) (v := ?_) (a' := ?_) #[true, false, true, false, false, false, false, false, false, false, false] rfl rfl (take_ofW HT_.out HW_.out (by kernel_rfl)) (fun _ _ _ h => h) (Or.inl ⟨by rfl, ?_⟩) hHeld ?_ ?_
            rotate_left
            ·rintro w' ⟨s0, s1, s2, s3, s4, s5, s6, s7, s8, s9⟩
             go_simp; with_reducible rfl
            rotate_left
            ·simp only [putL, i64_w, i32_w]; rfl
            refine join_ (σ := Value × Value × Nat) 2 #[true, true, true, true, true, true, true, true, true, false, false] (fun s_ => [(86, .agg #[.int .i64 t332, .int .i64 t333, .int .i64 t334, .int .i64 t335, s_.1]), (88, .agg #[.int .i64 t339, .int .i64 t340, .int .i64 t341, .int .i64 t342, .string t343]), (89, .tuple #[.agg #[.int .i64 t344, .int .i64 t345, .int .i64 t346, .int .i64 t347, s_.2.1], .bool t351]), (14, .pointer (some ⟨s_.2.2, 0, none⟩)), (84, .tuple #[.agg #[.int .i64 t344, .int .i64 t345, .int .i64 t346, .int .i64 t347, s_.2.1], .bool t351]), (90, .agg #[.int .i64 t344, .int .i64 t345, .int .i64 t346, .int .i64 t347, s_.2.1]), (91, .bool t351)]) (fun s_ w' => (w'.cell? ⟨gb270, 0, none⟩ = some (.int .i64 a0_0) ∧ w'.cell? ⟨gb270, 1, none⟩ = some (.int .i64 a0_1) ∧ w'.cell? ⟨gb270, 2, none⟩ = some (.int .i64 a0_2) ∧ w'.cell? ⟨gb270, 3, none⟩ = some (.int .i64 a0_3) ∧ w'.cell? ⟨gb270, 4, none⟩ = some (.slice A0_4 l0_4.length c0_4) ∧ w'.cell? ⟨gb271, 0, none⟩ = some (.int .i64 a1_0) ∧ w'.cell? ⟨gb271, 1, none⟩ = some (.int .i64 a1_1) ∧ w'.cell? ⟨gb271, 2, none⟩ = some (.int .i64 a1_2) ∧ w'.cell? ⟨gb271, 3, none⟩ = some (.int .i64 a1_3) ∧ w'.cell? ⟨gb271, 4, none⟩ = some (.string a1_4)) ∧ (Kd.R k125 125 w' w.heap.size (fun k_ => some k_ ≠ (s_.2.1 : Value).ownBlock ∧ some k_ ≠ (.slice Ao44 t290.length co44 : Value).ownBlock ∧ some k_ ≠ (.slice Ao54 t327.length co54 : Value).ownBlock ∧ some k_ ≠ (.slice Ao65 t312.length co65 : Value).ownBlock) s_.1 t336) ∧ (Kd.R k125 125 w' w.heap.size (fun k_ => some k_ ≠ (s_.1 : Value).ownBlock ∧ some k_ ≠ (.slice Ao44 t290.length co44 : Value).ownBlock ∧ some k_ ≠ (.slice Ao54 t327.length co54 : Value).ownBlock ∧ some k_ ≠ (.slice Ao65 t312.length co65 : Value).ownBlock) s_.2.1 t348) ∧ (Kd.R k125 125 w' w.heap.size (fun k_ => some k_ ≠ (s_.1 : Value).ownBlock ∧ some k_ ≠ (s_.2.1 : Value).ownBlock ∧ some k_ ≠ (.slice Ao54 t327.length co54 : Value).ownBlock ∧ some k_ ≠ (.slice Ao65 t312.length co65 : Value).ownBlock) (.slice Ao44 t290.length co44) t290) ∧ (Kd.R k125 125 w' w.heap.size (fun k_ => some k_ ≠ (s_.1 : Value).ownBlock ∧ some k_ ≠ (s_.2.1 : Value).ownBlock ∧ some k_ ≠ (.slice Ao44 t290.length co44 : Value).ownBlock ∧ some k_ ≠ (.slice Ao65 t312.length co65 : Value).ownBlock) (.slice Ao54 t327.length co54) t327) ∧ (Kd.R k125 125 w' w.heap.size (fun k_ => some k_ ≠ (s_.1 : Value).ownBlock ∧ some k_ ≠ (s_.2.1 : Value).ownBlock ∧ some k_ ≠ (.slice Ao44 t290.length co44 : Value).ownBlock ∧ some k_ ≠ (.slice Ao54 t327.length co54 : Value).ownBlock) (.slice Ao65 t312.length co65) t330) ∧ (w'.heap[gb270]? = some (.cells #[.int .i64 a0_0, .int .i64 a0_1, .int .i64 a0_2, .int .i64 a0_3, .slice A0_4 l0_4.length c0_4] 56 (0, 0))) ∧ (w'.heap[gb271]? = some (.cells #[.int .i64 a1_0, .int .i64 a1_1, .int .i64 a1_2, .int .i64 a1_3, .string a1_4] 57 (0, 0))) ∧ (w'.heap[gb294]? = some (.cells #[.int .i64 t286, .int .i64 t287, .int .i64 t288, .int .i64 t289, .slice Ao44 t290.length co44] 62 (0, 0))) ∧ (w'.heap[gb302]? = some (.cells #[.int .i64 t295, .int .i64 t296, .int .i64 t297, .int .i64 t298, .slice Ao54 t327.length co54] 62 (0, 0))) ∧ (w'.heap[gb316]? = some (.cells #[.int .i64 t308, .int .i64 t309, .int .i64 t310, .int .i64 t311, .slice Ao65 t312.length co65] 62 (0, 0))) ∧ (w'.heap[s_.2.2]? = some (.cells #[.int .i64 0, .int .i64 0, .int .i64 0, .int .i64 0, .slice none 0 0] 62 (0, 0))) ∧ (w.heap.size ≤ s_.2.2) ∧ (w.heap.size ≤ s_.2.2) ∧ (gb270 ≠ s_.2.2) ∧ (s_.2.2 ≠ gb270) ∧ (gb271 ≠ s_.2.2) ∧ (s_.2.2 ≠ gb271) ∧ (gb294 ≠ s_.2.2) ∧ (s_.2.2 ≠ gb294) ∧ (gb302 ≠ s_.2.2) ∧ (s_.2.2 ≠ gb302) ∧ (gb316 ≠ s_.2.2) ∧ (s_.2.2 ≠ gb316) ∧ (Below w.heap.size w w')) ?_ ?_
            rotate_left
            ·intro hCont; refine two_ (i := 1) (j := 8) (Ni := some 86) (Nj := some 14) #[true, true, true, false, false, false, false, false, false, false, false] #[true, false, true, false, false, false, false, false, true, false, false] rfl rfl rfl rfl (two_of HT_.out (by kernel_rfl)) (by decide) (by decide) (fun K hK => ?_) (fun K hK => ?_)
             ·skip
              refine goes_ Try.func38 (by kernel_rfl) rfl #[.agg #[.int .i64 a0_0, .int .i64 a0_1, .int .i64 a0_2, .int .i64 a0_3, .slice A0_4 l0_4.length c0_4]] (by rfl) rfl rfl (by (try simp only [List.map_toArray, List.map_cons, List.map_nil]); first | done | rfl | (simp only [List.length_drop, List.length_take]; rfl)) ?_
              with_reducible refine (laws_toWal.calls kj93 a0_0 a0_1 a0_2 a0_3 _ _ l0_4 t332 t333 t334 t335 t336 _ ?side1 ?side2 A133.out).mono ?_
              (case side1 => repeat (first | exact (Kd.C_below HR0_4.out HB.out) | (with_reducible refine Kd.C_alloc ?_ _) | (with_reducible refine Kd.C_drewN ?_ _) | (with_reducible refine Kd.C_drew ?_)))
              (case side2 => exact HC0_4.out)
              rintro e w146 ⟨v337, rfl, ho0, hb⟩
              refine ⟨_, rfl, ?_⟩
              have n0_ := Aside0.mk (Kd.R_elder' (rr HO_295004) (Kd.R_base ho0) hb)
              have n1_ := Aside0.mk (Kd.R_elder' (rr HO_303004) (Kd.R_base ho0) hb)
              have n2_ := Aside0.mk (Kd.R_elder' (rr HO_317004) (Kd.R_base ho0) hb)
              have n9_ := Aside0.mk (below_step (be HB) hb)
              have HO338 := Aside0.mk (Kd.R_lower (Kd.R_new' (Kd.R_new' (Kd.R_new' ho0 (Kd.R_lt (rr HO_295004))) (Kd.R_lt (rr HO_303004))) (Kd.R_lt (rr HO_317004))) (below_size (be HB)))
              replace BK270 := bq BK270 hb; replace BK271 := bq BK271 hb; replace BK294 := bq BK294 hb; replace BK302 := bq BK302 hb; replace BK316 := bq BK316 hb; clear HO_295004 HO_303004 HO_317004 HB; have HO_295004 := n0_; have HO_303004 := n1_; have HO_317004 := n2_; have HB := n9_; clear n0_ n1_ n2_ n9_; (try clear hb); (try clear hb2); (try clear hk); (try clear hi); (try clear ho0); refine hK.out _ _ ⟨bc BK270 0, bc BK270 1, bc BK270 2, bc BK270 3, bc BK270 4, bc BK271 0, bc BK271 1, bc BK271 2, bc BK271 3, bc BK271 4⟩ (fun hHeld => ?_)
              clear hK K; refine norm_ (a' := ?_) ?_ ?_
              rotate_left
              ·show Act.put _ (some 86) _ = _
               simp only [putL, i64_w, i32_w]; rfl
              refine two_ (i := 3) (j := 8) (Ni := some 88) (Nj := some 14) #[true, true, true, true, false, false, false, false, false, false, false] #[true, true, true, false, false, false, false, false, true, false, false] rfl rfl rfl rfl (two_of HT_.out (by kernel_rfl)) (by decide) (by decide) (fun K hK => ?_) (fun K hK => ?_)
              ·skip
               refine goes_ Try.func39 (by kernel_rfl) rfl #[.agg #[.int .i64 a1_0, .int .i64 a1_1, .int .i64 a1_2, .int .i64 a1_3, .string a1_4]] (by rfl) rfl rfl (by (try simp only [List.map_toArray, List.map_cons, List.map_nil]); first | done | rfl | (simp only [List.length_drop, List.length_take]; rfl)) ?_
               with_reducible refine (laws_toRec.calls a1_0 a1_1 a1_2 a1_3 a1_4 t339 t340 t341 t342 t343 _ A134.out).mono ?_
               rintro e w147 ⟨rfl, hb⟩
               refine ⟨_, rfl, ?_⟩
               have n9_ := Aside0.mk (below_step (be HB) hb)
               replace HO_295004 := Aside0.mk (Kd.R_below (rr HO_295004) hb); replace HO_303004 := Aside0.mk (Kd.R_below (rr HO_303004) hb); replace HO_317004 := Aside0.mk (Kd.R_below (rr HO_317004) hb); replace HO338 := Aside0.mk (Kd.R_below (rr HO338) hb); replace BK270 := bq BK270 hb; replace BK271 := bq BK271 hb; replace BK294 := bq BK294 hb; replace BK302 := bq BK302 hb; replace BK316 := bq BK316 hb; clear HB; have HB := n9_; clear n9_; (try clear hb); (try clear hb2); (try clear hk); (try clear hi); obtain ⟨Ao148, co148, eo148⟩ := Kd.R_slice HO338.out
               (first | subst eo148 | (injection eo148 with f1_ f2_ f3_; have f4_ := f1_.symm; have f5_ := f3_.symm; clear f1_ f2_ f3_; subst f4_; subst f5_))
               refine hK.out _ _ ⟨bc BK270 0, bc BK270 1, bc BK270 2, bc BK270 3, bc BK270 4, bc BK271 0, bc BK271 1, bc BK271 2, bc BK271 3, bc BK271 4⟩ (fun hHeld => ?_)
               clear hK K; refine norm_ (a' := ?_) ?_ ?_
               rotate_left
               ·show Act.put _ (some 88) _ = _
                simp only [putL, i64_w, i32_w]; rfl
               refine two_ (i := 4) (j := 8) (Ni := some 89) (Nj := some 14) #[true, true, true, true, true, false, false, false, false, false, false] #[true, true, true, true, false, false, false, false, true, false, false] rfl rfl rfl rfl (two_of HT_.out (by kernel_rfl)) (by decide) (by decide) (fun K hK => ?_) (fun K hK => ?_)
               ·skip
                refine goes_ Try.func40 (by kernel_rfl) rfl #[.agg #[.int .i64 t332, .int .i64 t333, .int .i64 t334, .int .i64 t335, .slice Ao148 t336.length co148], .agg #[.int .i64 t339, .int .i64 t340, .int .i64 t341, .int .i64 t342, .string t343]] (by rfl) rfl rfl (by (try simp only [List.map_toArray, List.map_cons, List.map_nil]); first | done | rfl | (simp only [List.length_drop, List.length_take]; rfl)) ?_
                with_reducible refine (impl_WalStep.calls kj93 t332 t333 t334 t335 _ _ t336 t339 t340 t341 t342 t343 t344 t345 t346 t347 t348 t351 _ ?side1 ?side2 A135.out).mono ?_
                (case side1 => repeat (first | exact (Kd.R_reads' HO338.out).2.2 | (with_reducible refine Kd.C_alloc ?_ _) | (with_reducible refine Kd.C_drewN ?_ _) | (with_reducible refine Kd.C_drew ?_)))
                (case side2 => exact (Kd.R_reads' HO338.out).2.1)
                rintro e w149 ⟨v349, rfl, ho0, hb⟩
                refine ⟨_, rfl, ?_⟩
                have n0_ := Aside0.mk (Kd.R_elder' (rr HO_295004) (Kd.R_base ho0) hb)
                have n1_ := Aside0.mk (Kd.R_elder' (rr HO_303004) (Kd.R_base ho0) hb)
                have n2_ := Aside0.mk (Kd.R_elder' (rr HO_317004) (Kd.R_base ho0) hb)
                have n3_ := Aside0.mk (Kd.R_elder' (rr HO338) (Kd.R_base ho0) hb)
                have n10_ := Aside0.mk (below_step (be HB) hb)
                have HO350 := Aside0.mk (Kd.R_lower (Kd.R_new' (Kd.R_new' (Kd.R_new' (Kd.R_new' ho0 (Kd.R_lt (rr HO_295004))) (Kd.R_lt (rr HO_303004))) (Kd.R_lt (rr HO_317004))) (Kd.R_lt (rr HO338))) (below_size (be HB)))
                replace BK270 := bq BK270 hb; replace BK271 := bq BK271 hb; replace BK294 := bq BK294 hb; replace BK302 := bq BK302 hb; replace BK316 := bq BK316 hb; clear HO_295004 HO_303004 HO_317004 HO338 HB; have HO_295004 := n0_; have HO_303004 := n1_; have HO_317004 := n2_; have HO338 := n3_; have HB := n10_; clear n0_ n1_ n2_ n3_ n10_; (try clear hb); (try clear hb2); (try clear hk); (try clear hi); (try clear ho0); refine hK.out _ _ ⟨bc BK270 0, bc BK270 1, bc BK270 2, bc BK270 3, bc BK270 4, bc BK271 0, bc BK271 1, bc BK271 2, bc BK271 3, bc BK271 4⟩ (fun hHeld => ?_)
                clear hK K; refine norm_ (a' := ?_) ?_ ?_
                rotate_left
                ·show Act.put _ (some 89) _ = _
                 simp only [putL, i64_w, i32_w]; rfl
                refine pure_ (i := 5) (N := some 84) (v := ?_) (a' := ?_) #[true, true, true, true, true, true, false, false, false, false, false] rfl rfl (any_of HT_.out (by kernel_rfl)) (fun _ _ _ h => h) (Or.inl ⟨by rfl, ?_⟩) ?_ ?_
                rotate_left
                ·intro w'; go_simp; with_reducible rfl
                rotate_left
                ·simp only [putL, i64_w, i32_w]; rfl
                refine pure_ (i := 6) (N := some 90) (v := ?_) (a' := ?_) #[true, true, true, true, true, true, true, false, false, false, false] rfl rfl (any_of HT_.out (by kernel_rfl)) (fun _ _ _ h => h) (Or.inl ⟨by rfl, ?_⟩) ?_ ?_
                rotate_left
                ·intro w'; go_simp; with_reducible rfl
                rotate_left
                ·simp only [putL, i64_w, i32_w]; rfl
                refine pure_ (i := 7) (N := some 91) (v := ?_) (a' := ?_) #[true, true, true, true, true, true, true, true, false, false, false] rfl rfl (any_of HT_.out (by kernel_rfl)) (fun _ _ _ h => h) (Or.inl ⟨by rfl, ?_⟩) ?_ ?_
                rotate_left
                ·intro w'; go_simp; with_reducible rfl
                rotate_left
                ·simp only [putL, i64_w, i32_w]; rfl
                refine one_ (i := 8) (N := some 14) #[true, true, true, true, true, true, true, true, true, false, false] rfl rfl (one_of HT_.out (by kernel_rfl)) (by decide) (fun K hK => ?_)
                refine box_step ?hg (N := 14) ?hd (cs := #[.int .i64 0, .int .i64 0, .int .i64 0, .int .i64 0, .slice none 0 0]) (t := 62) ?hr ?_; (case hd => rfl); (case hg => rfl); (case hr => first | (go_simp; done) | (go_simp; rfl))
                intro gb352 hg w150 hbox hb
                have n10_ := Aside0.mk (below_step (be HB) hb)
                have BK352 := Aside0.mk (hbox)
                have GW352 := bs HB hg; have GE352 := bs HB hg; have NB270_352 := bl BK270 hg; have NB352_270 := bg BK270 hg; have NB271_352 := bl BK271 hg; have NB352_271 := bg BK271 hg; have NB294_352 := bl BK294 hg; have NB352_294 := bg BK294 hg; have NB302_352 := bl BK302 hg; have NB352_302 := bg BK302 hg; have NB316_352 := bl BK316 hg; have NB352_316 := bg BK316 hg; replace HO_295004 := Aside0.mk (Kd.R_below (rr HO_295004) hb); replace HO_303004 := Aside0.mk (Kd.R_below (rr HO_303004) hb); replace HO_317004 := Aside0.mk (Kd.R_below (rr HO_317004) hb); replace HO338 := Aside0.mk (Kd.R_below (rr HO338) hb); replace HO350 := Aside0.mk (Kd.R_below (rr HO350) hb); replace BK270 := bq BK270 hb; replace BK271 := bq BK271 hb; replace BK294 := bq BK294 hb; replace BK302 := bq BK302 hb; replace BK316 := bq BK316 hb; clear HB; have HB := n10_; clear n10_; clear hb hbox hg; refine hK.out _ _ ⟨bc BK270 0, bc BK270 1, bc BK270 2, bc BK270 3, bc BK270 4, bc BK271 0, bc BK271 1, bc BK271 2, bc BK271 3, bc BK271 4⟩ (fun hHeld => ?_)
                clear hK K; refine norm_ (a' := ?_) ?_ ?_
                rotate_left
                ·show Act.put _ (some 14) _ = _
                 simp only [putL, i64_w, i32_w]; rfl
                exact norm_ (by simp only [putAll, putL]) (hCont (.slice Ao148 t336.length co148, v349, gb352) _ ⟨hHeld, (by (with_reducible repeat (first | apply Kd.R_alloc | apply Kd.R_drewN | apply Kd.R_drew)); exact Kd.R_mono HO338.out (fun _ hk => ⟨hk.2, ⟨hk.1.1.1.2, ⟨hk.1.1.2, hk.1.2⟩⟩⟩)), (by (with_reducible repeat (first | apply Kd.R_alloc | apply Kd.R_drewN | apply Kd.R_drew)); exact Kd.R_mono HO350.out (fun _ hk => ⟨hk.2, ⟨hk.1.1.1.2, ⟨hk.1.1.2, hk.1.2⟩⟩⟩)), (by (with_reducible repeat (first | apply Kd.R_alloc | apply Kd.R_drewN | apply Kd.R_drew)); exact Kd.R_mono HO_295004.out (fun _ hk => ⟨hk.1.2, ⟨hk.2, ⟨hk.1.1.1, hk.1.1.2⟩⟩⟩)), (by (with_reducible repeat (first | apply Kd.R_alloc | apply Kd.R_drewN | apply Kd.R_drew)); exact Kd.R_mono HO_303004.out (fun _ hk => ⟨hk.1.2, ⟨hk.2, ⟨hk.1.1.1, hk.1.1.2⟩⟩⟩)), (by (with_reducible repeat (first | apply Kd.R_alloc | apply Kd.R_drewN | apply Kd.R_drew)); exact Kd.R_mono HO_317004.out (fun _ hk => ⟨hk.1.2, ⟨hk.2, ⟨hk.1.1.1, hk.1.1.2⟩⟩⟩)), (by (with_reducible repeat first | refine bkN ?_ _ | refine bkD ?_ | refine bkA ?_ _); exact BK270.out), (by (with_reducible repeat first | refine bkN ?_ _ | refine bkD ?_ | refine bkA ?_ _); exact BK271.out), (by (with_reducible repeat first | refine bkN ?_ _ | refine bkD ?_ | refine bkA ?_ _); exact BK294.out), (by (with_reducible repeat first | refine bkN ?_ _ | refine bkD ?_ | refine bkA ?_ _); exact BK302.out), (by (with_reducible repeat first | refine bkN ?_ _ | refine bkD ?_ | refine bkA ?_ _); exact BK316.out), (by (with_reducible repeat first | refine bkN ?_ _ | refine bkD ?_ | refine bkA ?_ _); exact BK352.out), GW352.out, GE352.out, NB270_352.out, NB352_270.out, NB271_352.out, NB352_271.out, NB294_352.out, NB352_294.out, NB302_352.out, NB352_302.out, NB316_352.out, NB352_316.out, (be HB)⟩)
               ·skip
                refine box_step ?hg (N := 14) ?hd (cs := #[.int .i64 0, .int .i64 0, .int .i64 0, .int .i64 0, .slice none 0 0]) (t := 62) ?hr ?_; (case hd => rfl); (case hg => rfl); (case hr => first | (go_simp; done) | (go_simp; rfl))
                intro gb352 hg w148 hbox hb
                have n9_ := Aside0.mk (below_step (be HB) hb)
                have BK352 := Aside0.mk (hbox)
                have GW352 := bs HB hg; have GE352 := bs HB hg; have NB270_352 := bl BK270 hg; have NB352_270 := bg BK270 hg; have NB271_352 := bl BK271 hg; have NB352_271 := bg BK271 hg; have NB294_352 := bl BK294 hg; have NB352_294 := bg BK294 hg; have NB302_352 := bl BK302 hg; have NB352_302 := bg BK302 hg; have NB316_352 := bl BK316 hg; have NB352_316 := bg BK316 hg; replace HO_295004 := Aside0.mk (Kd.R_below (rr HO_295004) hb); replace HO_303004 := Aside0.mk (Kd.R_below (rr HO_303004) hb); replace HO_317004 := Aside0.mk (Kd.R_below (rr HO_317004) hb); replace HO338 := Aside0.mk (Kd.R_below (rr HO338) hb); replace BK270 := bq BK270 hb; replace BK271 := bq BK271 hb; replace BK294 := bq BK294 hb; replace BK302 := bq BK302 hb; replace BK316 := bq BK316 hb; clear HB; have HB := n9_; clear n9_; clear hb hbox hg; obtain ⟨Ao149, co149, eo149⟩ := Kd.R_slice HO338.out
                (first | subst eo149 | (injection eo149 with f1_ f2_ f3_; have f4_ := f1_.symm; have f5_ := f3_.symm; clear f1_ f2_ f3_; subst f4_; subst f5_))
                refine hK.out _ _ ⟨bc BK270 0, bc BK270 1, bc BK270 2, bc BK270 3, bc BK270 4, bc BK271 0, bc BK271 1, bc BK271 2, bc BK271 3, bc BK271 4⟩ (fun hHeld => ?_)
                clear hK K; refine norm_ (a' := ?_) ?_ ?_
                rotate_left
                ·show Act.put _ (some 14) _ = _
                 simp only [putL, i64_w, i32_w]; rfl
                refine one_ (i := 4) (N := some 89) #[true, true, true, true, true, false, false, false, true, false, false] rfl rfl (one_of HT_.out (by kernel_rfl)) (by decide) (fun K hK => ?_)
                refine goes_ Try.func40 (by kernel_rfl) rfl #[.agg #[.int .i64 t332, .int .i64 t333, .int .i64 t334, .int .i64 t335, .slice Ao149 t336.length co149], .agg #[.int .i64 t339, .int .i64 t340, .int .i64 t341, .int .i64 t342, .string t343]] (by rfl) rfl rfl (by (try simp only [List.map_toArray, List.map_cons, List.map_nil]); first | done | rfl | (simp only [List.length_drop, List.length_take]; rfl)) ?_
                with_reducible refine (impl_WalStep.calls kj93 t332 t333 t334 t335 _ _ t336 t339 t340 t341 t342 t343 t344 t345 t346 t347 t348 t351 _ ?side1 ?side2 A135.out).mono ?_
                (case side1 => repeat (first | exact (Kd.R_reads' HO338.out).2.2 | (with_reducible refine Kd.C_alloc ?_ _) | (with_reducible refine Kd.C_drewN ?_ _) | (with_reducible refine Kd.C_drew ?_)))
                (case side2 => exact (Kd.R_reads' HO338.out).2.1)
                rintro e w150 ⟨v349, rfl, ho0, hb⟩
                refine ⟨_, rfl, ?_⟩
                have n0_ := Aside0.mk (Kd.R_elder' (rr HO_295004) (Kd.R_base ho0) hb)
                have n1_ := Aside0.mk (Kd.R_elder' (rr HO_303004) (Kd.R_base ho0) hb)
                have n2_ := Aside0.mk (Kd.R_elder' (rr HO_317004) (Kd.R_base ho0) hb)
                have n3_ := Aside0.mk (Kd.R_elder' (rr HO338) (Kd.R_base ho0) hb)
                have n11_ := Aside0.mk (below_step (be HB) hb)
                have HO350 := Aside0.mk (Kd.R_lower (Kd.R_new' (Kd.R_new' (Kd.R_new' (Kd.R_new' ho0 (Kd.R_lt (rr HO_295004))) (Kd.R_lt (rr HO_303004))) (Kd.R_lt (rr HO_317004))) (Kd.R_lt (rr HO338))) (below_size (be HB)))
                replace BK270 := bq BK270 hb; replace BK271 := bq BK271 hb; replace BK294 := bq BK294 hb; replace BK302 := bq BK302 hb; replace BK316 := bq BK316 hb; replace BK352 := bq BK352 hb; clear HO_295004 HO_303004 HO_317004 HO338 HB; have HO_295004 := n0_; have HO_303004 := n1_; have HO_317004 := n2_; have HO338 := n3_; have HB := n11_; clear n0_ n1_ n2_ n3_ n11_; (try clear hb); (try clear hb2); (try clear hk); (try clear hi); (try clear ho0); refine hK.out _ _ ⟨bc BK270 0, bc BK270 1, bc BK270 2, bc BK270 3, bc BK270 4, bc BK271 0, bc BK271 1, bc BK271 2, bc BK271 3, bc BK271 4⟩ (fun hHeld => ?_)
                clear hK K; refine norm_ (a' := ?_) ?_ ?_
                rotate_left
                ·show Act.put _ (some 89) _ = _
                 simp only [putL, i64_w, i32_w]; rfl
                refine pure_ (i := 5) (N := some 84) (v := ?_) (a' := ?_) #[true, true, true, true, true, true, false, false, true, false, false] rfl rfl (any_of HT_.out (by kernel_rfl)) (fun _ _ _ h => h) (Or.inl ⟨by rfl, ?_⟩) ?_ ?_
                rotate_left
                ·intro w'; go_simp; with_reducible rfl
                rotate_left
                ·simp only [putL, i64_w, i32_w]; rfl
                refine pure_ (i := 6) (N := some 90) (v := ?_) (a' := ?_) #[true, true, true, true, true, true, true, false, true, false, false] rfl rfl (any_of HT_.out (by kernel_rfl)) (fun _ _ _ h => h) (Or.inl ⟨by rfl, ?_⟩) ?_ ?_
                rotate_left
                ·intro w'; go_simp; with_reducible rfl
                rotate_left
                ·simp only [putL, i64_w, i32_w]; rfl
                refine pure_ (i := 7) (N := some 91) (v := ?_) (a' := ?_) #[true, true, true, true, true, true, true, true, true, false, false] rfl rfl (any_of HT_.out (by kernel_rfl)) (fun _ _ _ h => h) (Or.inl ⟨by rfl, ?_⟩) ?_ ?_
                rotate_left
                ·intro w'; go_simp; with_reducible rfl
                rotate_left
                ·simp only [putL, i64_w, i32_w]; rfl
                exact norm_ (by simp only [putAll, putL]) (hCont (.slice Ao149 t336.length co149, v349, gb352) _ ⟨hHeld, (by (with_reducible repeat (first | apply Kd.R_alloc | apply Kd.R_drewN | apply Kd.R_drew)); exact Kd.R_mono HO338.out (fun _ hk => ⟨hk.2, ⟨hk.1.1.1.2, ⟨hk.1.1.2, hk.1.2⟩⟩⟩)), (by (with_reducible repeat (first | apply Kd.R_alloc | apply Kd.R_drewN | apply Kd.R_drew)); exact Kd.R_mono HO350.out (fun _ hk => ⟨hk.2, ⟨hk.1.1.1.2, ⟨hk.1.1.2, hk.1.2⟩⟩⟩)), (by (with_reducible repeat (first | apply Kd.R_alloc | apply Kd.R_drewN | apply Kd.R_drew)); exact Kd.R_mono HO_295004.out (fun _ hk => ⟨hk.1.2, ⟨hk.2, ⟨hk.1.1.1, hk.1.1.2⟩⟩⟩)), (by (with_reducible repeat (first | apply Kd.R_alloc | apply Kd.R_drewN | apply Kd.R_drew)); exact Kd.R_mono HO_303004.out (fun _ hk => ⟨hk.1.2, ⟨hk.2, ⟨hk.1.1.1, hk.1.1.2⟩⟩⟩)), (by (with_reducible repeat (first | apply Kd.R_alloc | apply Kd.R_drewN | apply Kd.R_drew)); exact Kd.R_mono HO_317004.out (fun _ hk => ⟨hk.1.2, ⟨hk.2, ⟨hk.1.1.1, hk.1.1.2⟩⟩⟩)), (by (with_reducible repeat first | refine bkN ?_ _ | refine bkD ?_ | refine bkA ?_ _); exact BK270.out), (by (with_reducible repeat first | refine bkN ?_ _ | refine bkD ?_ | refine bkA ?_ _); exact BK271.out), (by (with_reducible repeat first | refine bkN ?_ _ | refine bkD ?_ | refine bkA ?_ _); exact BK294.out), (by (with_reducible repeat first | refine bkN ?_ _ | refine bkD ?_ | refine bkA ?_ _); exact BK302.out), (by (with_reducible repeat first | refine bkN ?_ _ | refine bkD ?_ | refine bkA ?_ _); exact BK316.out), (by (with_reducible repeat first | refine bkN ?_ _ | refine bkD ?_ | refine bkA ?_ _); exact BK352.out), GW352.out, GE352.out, NB270_352.out, NB352_270.out, NB271_352.out, NB352_271.out, NB294_352.out, NB352_294.out, NB302_352.out, NB352_302.out, NB316_352.out, NB352_316.out, (be HB)⟩)
              ·skip
               refine box_step ?hg (N := 14) ?hd (cs := #[.int .i64 0, .int .i64 0, .int .i64 0, .int .i64 0, .slice none 0 0]) (t := 62) ?hr ?_; (case hd => rfl); (case hg => rfl); (case hr => first | (go_simp; done) | (go_simp; rfl))
               intro gb352 hg w147 hbox hb
               have n9_ := Aside0.mk (below_step (be HB) hb)
               have BK352 := Aside0.mk (hbox)
               have GW352 := bs HB hg; have GE352 := bs HB hg; have NB270_352 := bl BK270 hg; have NB352_270 := bg BK270 hg; have NB271_352 := bl BK271 hg; have NB352_271 := bg BK271 hg; have NB294_352 := bl BK294 hg; have NB352_294 := bg BK294 hg; have NB302_352 := bl BK302 hg; have NB352_302 := bg BK302 hg; have NB316_352 := bl BK316 hg; have NB352_316 := bg BK316 hg; replace HO_295004 := Aside0.mk (Kd.R_below (rr HO_295004) hb); replace HO_303004 := Aside0.mk (Kd.R_below (rr HO_303004) hb); replace HO_317004 := Aside0.mk (Kd.R_below (rr HO_317004) hb); replace HO338 := Aside0.mk (Kd.R_below (rr HO338) hb); replace BK270 := bq BK270 hb; replace BK271 := bq BK271 hb; replace BK294 := bq BK294 hb; replace BK302 := bq BK302 hb; replace BK316 := bq BK316 hb; clear HB; have HB := n9_; clear n9_; clear hb hbox hg; refine hK.out _ _ ⟨bc BK270 0, bc BK270 1, bc BK270 2, bc BK270 3, bc BK270 4, bc BK271 0, bc BK271 1, bc BK271 2, bc BK271 3, bc BK271 4⟩ (fun hHeld => ?_)
               clear hK K; refine norm_ (a' := ?_) ?_ ?_
               rotate_left
               ·show Act.put _ (some 14) _ = _
                simp only [putL, i64_w, i32_w]; rfl
               refine one_ (i := 3) (N := some 88) #[true, true, true, true, false, false, false, false, true, false, false] rfl rfl (one_of HT_.out (by kernel_rfl)) (by decide) (fun K hK => ?_)
               refine goes_ Try.func39 (by kernel_rfl) rfl #[.agg #[.int .i64 a1_0, .int .i64 a1_1, .int .i64 a1_2, .int .i64 a1_3, .string a1_4]] (by rfl) rfl rfl (by (try simp only [List.map_toArray, List.map_cons, List.map_nil]); first | done | rfl | (simp only [List.length_drop, List.length_take]; rfl)) ?_
               with_reducible refine (laws_toRec.calls a1_0 a1_1 a1_2 a1_3 a1_4 t339 t340 t341 t342 t343 _ A134.out).mono ?_
               rintro e w148 ⟨rfl, hb⟩
               refine ⟨_, rfl, ?_⟩
               have n10_ := Aside0.mk (below_step (be HB) hb)
               replace HO_295004 := Aside0.mk (Kd.R_below (rr HO_295004) hb); replace HO_303004 := Aside0.mk (Kd.R_below (rr HO_303004) hb); replace HO_317004 := Aside0.mk (Kd.R_below (rr HO_317004) hb); replace HO338 := Aside0.mk (Kd.R_below (rr HO338) hb); replace BK270 := bq BK270 hb; replace BK271 := bq BK271 hb; replace BK294 := bq BK294 hb; replace BK302 := bq BK302 hb; replace BK316 := bq BK316 hb; replace BK352 := bq BK352 hb; clear HB; have HB := n10_; clear n10_; (try clear hb); (try clear hb2); (try clear hk); (try clear hi); obtain ⟨Ao149, co149, eo149⟩ := Kd.R_slice HO338.out
               (first | subst eo149 | (injection eo149 with f1_ f2_ f3_; have f4_ := f1_.symm; have f5_ := f3_.symm; clear f1_ f2_ f3_; subst f4_; subst f5_))
               refine hK.out _ _ ⟨bc BK270 0, bc BK270 1, bc BK270 2, bc BK270 3, bc BK270 4, bc BK271 0, bc BK271 1, bc BK271 2, bc BK271 3, bc BK271 4⟩ (fun hHeld => ?_)
               clear hK K; refine norm_ (a' := ?_) ?_ ?_
               rotate_left
               ·show Act.put _ (some 88) _ = _
                simp only [putL, i64_w, i32_w]; rfl
               refine one_ (i := 4) (N := some 89) #[true, true, true, true, true, false, false, false, true, false, false] rfl rfl (one_of HT_.out (by kernel_rfl)) (by decide) (fun K hK => ?_)
               refine goes_ Try.func40 (by kernel_rfl) rfl #[.agg #[.int .i64 t332, .int .i64 t333, .int .i64 t334, .int .i64 t335, .slice Ao149 t336.length co149], .agg #[.int .i64 t339, .int .i64 t340, .int .i64 t341, .int .i64 t342, .string t343]] (by rfl) rfl rfl (by (try simp only [List.map_toArray, List.map_cons, List.map_nil]); first | done | rfl | (simp only [List.length_drop, List.length_take]; rfl)) ?_
               with_reducible refine (impl_WalStep.calls kj93 t332 t333 t334 t335 _ _ t336 t339 t340 t341 t342 t343 t344 t345 t346 t347 t348 t351 _ ?side1 ?side2 A135.out).mono ?_
               (case side1 => repeat (first | exact (Kd.R_reads' HO338.out).2.2 | (with_reducible refine Kd.C_alloc ?_ _) | (with_reducible refine Kd.C_drewN ?_ _) | (with_reducible refine Kd.C_drew ?_)))
               (case side2 => exact (Kd.R_reads' HO338.out).2.1)
               rintro e w150 ⟨v349, rfl, ho0, hb⟩
               refine ⟨_, rfl, ?_⟩
               have n0_ := Aside0.mk (Kd.R_elder' (rr HO_295004) (Kd.R_base ho0) hb)
               have n1_ := Aside0.mk (Kd.R_elder' (rr HO_303004) (Kd.R_base ho0) hb)
               have n2_ := Aside0.mk (Kd.R_elder' (rr HO_317004) (Kd.R_base ho0) hb)
               have n3_ := Aside0.mk (Kd.R_elder' (rr HO338) (Kd.R_base ho0) hb)
               have n11_ := Aside0.mk (below_step (be HB) hb)
               have HO350 := Aside0.mk (Kd.R_lower (Kd.R_new' (Kd.R_new' (Kd.R_new' (Kd.R_new' ho0 (Kd.R_lt (rr HO_295004))) (Kd.R_lt (rr HO_303004))) (Kd.R_lt (rr HO_317004))) (Kd.R_lt (rr HO338))) (below_size (be HB)))
               replace BK270 := bq BK270 hb; replace BK271 := bq BK271 hb; replace BK294 := bq BK294 hb; replace BK302 := bq BK302 hb; replace BK316 := bq BK316 hb; replace BK352 := bq BK352 hb; clear HO_295004 HO_303004 HO_317004 HO338 HB; have HO_295004 := n0_; have HO_303004 := n1_; have HO_317004 := n2_; have HO338 := n3_; have HB := n11_; clear n0_ n1_ n2_ n3_ n11_; (try clear hb); (try clear hb2); (try clear hk); (try clear hi); (try clear ho0); refine hK.out _ _ ⟨bc BK270 0, bc BK270 1, bc BK270 2, bc BK270 3, bc BK270 4, bc BK271 0, bc BK271 1, bc BK271 2, bc BK271 3, bc BK271 4⟩ (fun hHeld => ?_)
               clear hK K; refine norm_ (a' := ?_) ?_ ?_
               rotate_left
               ·show Act.put _ (some 89) _ = _
                simp only [putL, i64_w, i32_w]; rfl
               refine pure_ (i := 5) (N := some 84) (v := ?_) (a' := ?_) #[true, true, true, true, true, true, false, false, true, false, false] rfl rfl (any_of HT_.out (by kernel_rfl)) (fun _ _ _ h => h) (Or.inl ⟨by rfl, ?_⟩) ?_ ?_
               rotate_left
               ·intro w'; go_simp; with_reducible rfl
               rotate_left
               ·simp only [putL, i64_w, i32_w]; rfl
               refine pure_ (i := 6) (N := some 90) (v := ?_) (a' := ?_) #[true, true, true, true, true, true, true, false, true, false, false] rfl rfl (any_of HT_.out (by kernel_rfl)) (fun _ _ _ h => h) (Or.inl ⟨by rfl, ?_⟩) ?_ ?_
               rotate_left
               ·intro w'; go_simp; with_reducible rfl
               rotate_left
               ·simp only [putL, i64_w, i32_w]; rfl
               refine pure_ (i := 7) (N := some 91) (v := ?_) (a' := ?_) #[true, true, true, true, true, true, true, true, true, false, false] rfl rfl (any_of HT_.out (by kernel_rfl)) (fun _ _ _ h => h) (Or.inl ⟨by rfl, ?_⟩) ?_ ?_
               rotate_left
               ·intro w'; go_simp; with_reducible rfl
               rotate_left
               ·simp only [putL, i64_w, i32_w]; rfl
               exact norm_ (by simp only [putAll, putL]) (hCont (.slice Ao149 t336.length co149, v349, gb352) _ ⟨hHeld, (by (with_reducible repeat (first | apply Kd.R_alloc | apply Kd.R_drewN | apply Kd.R_drew)); exact Kd.R_mono HO338.out (fun _ hk => ⟨hk.2, ⟨hk.1.1.1.2, ⟨hk.1.1.2, hk.1.2⟩⟩⟩)), (by (with_reducible repeat (first | apply Kd.R_alloc | apply Kd.R_drewN | apply Kd.R_drew)); exact Kd.R_mono HO350.out (fun _ hk => ⟨hk.2, ⟨hk.1.1.1.2, ⟨hk.1.1.2, hk.1.2⟩⟩⟩)), (by (with_reducible repeat (first | apply Kd.R_alloc | apply Kd.R_drewN | apply Kd.R_drew)); exact Kd.R_mono HO_295004.out (fun _ hk => ⟨hk.1.2, ⟨hk.2, ⟨hk.1.1.1, hk.1.1.2⟩⟩⟩)), (by (with_reducible repeat (first | apply Kd.R_alloc | apply Kd.R_drewN | apply Kd.R_drew)); exact Kd.R_mono HO_303004.out (fun _ hk => ⟨hk.1.2, ⟨hk.2, ⟨hk.1.1.1, hk.1.1.2⟩⟩⟩)), (by (with_reducible repeat (first | apply Kd.R_alloc | apply Kd.R_drewN | apply Kd.R_drew)); exact Kd.R_mono HO_317004.out (fun _ hk => ⟨hk.1.2, ⟨hk.2, ⟨hk.1.1.1, hk.1.1.2⟩⟩⟩)), (by (with_reducible repeat first | refine bkN ?_ _ | refine bkD ?_ | refine bkA ?_ _); exact BK270.out), (by (with_reducible repeat first | refine bkN ?_ _ | refine bkD ?_ | refine bkA ?_ _); exact BK271.out), (by (with_reducible repeat first | refine bkN ?_ _ | refine bkD ?_ | refine bkA ?_ _); exact BK294.out), (by (with_reducible repeat first | refine bkN ?_ _ | refine bkD ?_ | refine bkA ?_ _); exact BK302.out), (by (with_reducible repeat first | refine bkN ?_ _ | refine bkD ?_ | refine bkA ?_ _); exact BK316.out), (by (with_reducible repeat first | refine bkN ?_ _ | refine bkD ?_ | refine bkA ?_ _); exact BK352.out), GW352.out, GE352.out, NB270_352.out, NB352_270.out, NB271_352.out, NB352_271.out, NB294_352.out, NB352_294.out, NB302_352.out, NB352_302.out, NB316_352.out, NB352_316.out, (be HB)⟩)
             ·skip
              refine box_step ?hg (N := 14) ?hd (cs := #[.int .i64 0, .int .i64 0, .int .i64 0, .int .i64 0, .slice none 0 0]) (t := 62) ?hr ?_; (case hd => rfl); (case hg => rfl); (case hr => first | (go_simp; done) | (go_simp; rfl))
              intro gb352 hg w146 hbox hb
              have n8_ := Aside0.mk (below_step (be HB) hb)
              have BK352 := Aside0.mk (hbox)
              have GW352 := bs HB hg; have GE352 := bs HB hg; have NB270_352 := bl BK270 hg; have NB352_270 := bg BK270 hg; have NB271_352 := bl BK271 hg; have NB352_271 := bg BK271 hg; have NB294_352 := bl BK294 hg; have NB352_294 := bg BK294 hg; have NB302_352 := bl BK302 hg; have NB352_302 := bg BK302 hg; have NB316_352 := bl BK316 hg; have NB352_316 := bg BK316 hg; replace HO_295004 := Aside0.mk (Kd.R_below (rr HO_295004) hb); replace HO_303004 := Aside0.mk (Kd.R_below (rr HO_303004) hb); replace HO_317004 := Aside0.mk (Kd.R_below (rr HO_317004) hb); replace BK270 := bq BK270 hb; replace BK271 := bq BK271 hb; replace BK294 := bq BK294 hb; replace BK302 := bq BK302 hb; replace BK316 := bq BK316 hb; clear HB; have HB := n8_; clear n8_; clear hb hbox hg; refine hK.out _ _ ⟨bc BK270 0, bc BK270 1, bc BK270 2, bc BK270 3, bc BK270 4, bc BK271 0, bc BK271 1, bc BK271 2, bc BK271 3, bc BK271 4⟩ (fun hHeld => ?_)
              clear hK K; refine norm_ (a' := ?_) ?_ ?_
              rotate_left
              ·show Act.put _ (some 14) _ = _
               simp only [putL, i64_w, i32_w]; rfl
              refine one_ (i := 1) (N := some 86) #[true, true, true, false, false, false, false, false, true, false, false] rfl rfl (one_of HT_.out (by kernel_rfl)) (by decide) (fun K hK => ?_)
              refine goes_ Try.func38 (by kernel_rfl) rfl #[.agg #[.int .i64 a0_0, .int .i64 a0_1, .int .i64 a0_2, .int .i64 a0_3, .slice A0_4 l0_4.length c0_4]] (by rfl) rfl rfl (by (try simp only [List.map_toArray, List.map_cons, List.map_nil]); first | done | rfl | (simp only [List.length_drop, List.length_take]; rfl)) ?_
              with_reducible refine (laws_toWal.calls kj93 a0_0 a0_1 a0_2 a0_3 _ _ l0_4 t332 t333 t334 t335 t336 _ ?side1 ?side2 A133.out).mono ?_
              (case side1 => repeat (first | exact (Kd.C_below HR0_4.out HB.out) | (with_reducible refine Kd.C_alloc ?_ _) | (with_reducible refine Kd.C_drewN ?_ _) | (with_reducible refine Kd.C_drew ?_)))
              (case side2 => exact HC0_4.out)
              rintro e w147 ⟨v337, rfl, ho0, hb⟩
              refine ⟨_, rfl, ?_⟩
              have n0_ := Aside0.mk (Kd.R_elder' (rr HO_295004) (Kd.R_base ho0) hb)
              have n1_ := Aside0.mk (Kd.R_elder' (rr HO_303004) (Kd.R_base ho0) hb)
              have n2_ := Aside0.mk (Kd.R_elder' (rr HO_317004) (Kd.R_base ho0) hb)
              have n10_ := Aside0.mk (below_step (be HB) hb)
              have HO338 := Aside0.mk (Kd.R_lower (Kd.R_new' (Kd.R_new' (Kd.R_new' ho0 (Kd.R_lt (rr HO_295004))) (Kd.R_lt (rr HO_303004))) (Kd.R_lt (rr HO_317004))) (below_size (be HB)))
              replace BK270 := bq BK270 hb; replace BK271 := bq BK271 hb; replace BK294 := bq BK294 hb; replace BK302 := bq BK302 hb; replace BK316 := bq BK316 hb; replace BK352 := bq BK352 hb; clear HO_295004 HO_303004 HO_317004 HB; have HO_295004 := n0_; have HO_303004 := n1_; have HO_317004 := n2_; have HB := n10_; clear n0_ n1_ n2_ n10_; (try clear hb); (try clear hb2); (try clear hk); (try clear hi); (try clear ho0); refine hK.out _ _ ⟨bc BK270 0, bc BK270 1, bc BK270 2, bc BK270 3, bc BK270 4, bc BK271 0, bc BK271 1, bc BK271 2, bc BK271 3, bc BK271 4⟩ (fun hHeld => ?_)
              clear hK K; refine norm_ (a' := ?_) ?_ ?_
              rotate_left
              ·show Act.put _ (some 86) _ = _
               simp only [putL, i64_w, i32_w]; rfl
              refine one_ (i := 3) (N := some 88) #[true, true, true, true, false, false, false, false, true, false, false] rfl rfl (one_of HT_.out (by kernel_rfl)) (by decide) (fun K hK => ?_)
              refine goes_ Try.func39 (by kernel_rfl) rfl #[.agg #[.int .i64 a1_0, .int .i64 a1_1, .int .i64 a1_2, .int .i64 a1_3, .string a1_4]] (by rfl) rfl rfl (by (try simp only [List.map_toArray, List.map_cons, List.map_nil]); first | done | rfl | (simp only [List.length_drop, List.length_take]; rfl)) ?_
              with_reducible refine (laws_toRec.calls a1_0 a1_1 a1_2 a1_3 a1_4 t339 t340 t341 t342 t343 _ A134.out).mono ?_
              rintro e w148 ⟨rfl, hb⟩
              refine ⟨_, rfl, ?_⟩
              have n10_ := Aside0.mk (below_step (be HB) hb)
              replace HO_295004 := Aside0.mk (Kd.R_below (rr HO_295004) hb); replace HO_303004 := Aside0.mk (Kd.R_below (rr HO_303004) hb); replace HO_317004 := Aside0.mk (Kd.R_below (rr HO_317004) hb); replace HO338 := Aside0.mk (Kd.R_below (rr HO338) hb); replace BK270 := bq BK270 hb; replace BK271 := bq BK271 hb; replace BK294 := bq BK294 hb; replace BK302 := bq BK302 hb; replace BK316 := bq BK316 hb; replace BK352 := bq BK352 hb; clear HB; have HB := n10_; clear n10_; (try clear hb); (try clear hb2); (try clear hk); (try clear hi); obtain ⟨Ao149, co149, eo149⟩ := Kd.R_slice HO338.out
              (first | subst eo149 | (injection eo149 with f1_ f2_ f3_; have f4_ := f1_.symm; have f5_ := f3_.symm; clear f1_ f2_ f3_; subst f4_; subst f5_))
              refine hK.out _ _ ⟨bc BK270 0, bc BK270 1, bc BK270 2, bc BK270 3, bc BK270 4, bc BK271 0, bc BK271 1, bc BK271 2, bc BK271 3, bc BK271 4⟩ (fun hHeld => ?_)
              clear hK K; refine norm_ (a' := ?_) ?_ ?_
              rotate_left
              ·show Act.put _ (some 88) _ = _
               simp only [putL, i64_w, i32_w]; rfl
              refine one_ (i := 4) (N := some 89) #[true, true, true, true, true, false, false, false, true, false, false] rfl rfl (one_of HT_.out (by kernel_rfl)) (by decide) (fun K hK => ?_)
              refine goes_ Try.func40 (by kernel_rfl) rfl #[.agg #[.int .i64 t332, .int .i64 t333, .int .i64 t334, .int .i64 t335, .slice Ao149 t336.length co149], .agg #[.int .i64 t339, .int .i64 t340, .int .i64 t341, .int .i64 t342, .string t343]] (by rfl) rfl rfl (by (try simp only [List.map_toArray, List.map_cons, List.map_nil]); first | done | rfl | (simp only [List.length_drop, List.length_take]; rfl)) ?_
              with_reducible refine (impl_WalStep.calls kj93 t332 t333 t334 t335 _ _ t336 t339 t340 t341 t342 t343 t344 t345 t346 t347 t348 t351 _ ?side1 ?side2 A135.out).mono ?_
              (case side1 => repeat (first | exact (Kd.R_reads' HO338.out).2.2 | (with_reducible refine Kd.C_alloc ?_ _) | (with_reducible refine Kd.C_drewN ?_ _) | (with_reducible refine Kd.C_drew ?_)))
              (case side2 => exact (Kd.R_reads' HO338.out).2.1)
              rintro e w150 ⟨v349, rfl, ho0, hb⟩
              refine ⟨_, rfl, ?_⟩
              have n0_ := Aside0.mk (Kd.R_elder' (rr HO_295004) (Kd.R_base ho0) hb)
              have n1_ := Aside0.mk (Kd.R_elder' (rr HO_303004) (Kd.R_base ho0) hb)
              have n2_ := Aside0.mk (Kd.R_elder' (rr HO_317004) (Kd.R_base ho0) hb)
              have n3_ := Aside0.mk (Kd.R_elder' (rr HO338) (Kd.R_base ho0) hb)
              have n11_ := Aside0.mk (below_step (be HB) hb)
              have HO350 := Aside0.mk (Kd.R_lower (Kd.R_new' (Kd.R_new' (Kd.R_new' (Kd.R_new' ho0 (Kd.R_lt (rr HO_295004))) (Kd.R_lt (rr HO_303004))) (Kd.R_lt (rr HO_317004))) (Kd.R_lt (rr HO338))) (below_size (be HB)))
              replace BK270 := bq BK270 hb; replace BK271 := bq BK271 hb; replace BK294 := bq BK294 hb; replace BK302 := bq BK302 hb; replace BK316 := bq BK316 hb; replace BK352 := bq BK352 hb; clear HO_295004 HO_303004 HO_317004 HO338 HB; have HO_295004 := n0_; have HO_303004 := n1_; have HO_317004 := n2_; have HO338 := n3_; have HB := n11_; clear n0_ n1_ n2_ n3_ n11_; (try clear hb); (try clear hb2); (try clear hk); (try clear hi); (try clear ho0); refine hK.out _ _ ⟨bc BK270 0, bc BK270 1, bc BK270 2, bc BK270 3, bc BK270 4, bc BK271 0, bc BK271 1, bc BK271 2, bc BK271 3, bc BK271 4⟩ (fun hHeld => ?_)
              clear hK K; refine norm_ (a' := ?_) ?_ ?_
              rotate_left
              ·show Act.put _ (some 89) _ = _
               simp only [putL, i64_w, i32_w]; rfl
              refine pure_ (i := 5) (N := some 84) (v := ?_) (a' := ?_) #[true, true, true, true, true, true, false, false, true, false, false] rfl rfl (any_of HT_.out (by kernel_rfl)) (fun _ _ _ h => h) (Or.inl ⟨by rfl, ?_⟩) ?_ ?_
              rotate_left
              ·intro w'; go_simp; with_reducible rfl
              rotate_left
              ·simp only [putL, i64_w, i32_w]; rfl
              refine pure_ (i := 6) (N := some 90) (v := ?_) (a' := ?_) #[true, true, true, true, true, true, true, false, true, false, false] rfl rfl (any_of HT_.out (by kernel_rfl)) (fun _ _ _ h => h) (Or.inl ⟨by rfl, ?_⟩) ?_ ?_
              rotate_left
              ·intro w'; go_simp; with_reducible rfl
              rotate_left
              ·simp only [putL, i64_w, i32_w]; rfl
              refine pure_ (i := 7) (N := some 91) (v := ?_) (a' := ?_) #[true, true, true, true, true, true, true, true, true, false, false] rfl rfl (any_of HT_.out (by kernel_rfl)) (fun _ _ _ h => h) (Or.inl ⟨by rfl, ?_⟩) ?_ ?_
              rotate_left
              ·intro w'; go_simp; with_reducible rfl
              rotate_left
              ·simp only [putL, i64_w, i32_w]; rfl
              exact norm_ (by simp only [putAll, putL]) (hCont (.slice Ao149 t336.length co149, v349, gb352) _ ⟨hHeld, (by (with_reducible repeat (first | apply Kd.R_alloc | apply Kd.R_drewN | apply Kd.R_drew)); exact Kd.R_mono HO338.out (fun _ hk => ⟨hk.2, ⟨hk.1.1.1.2, ⟨hk.1.1.2, hk.1.2⟩⟩⟩)), (by (with_reducible repeat (first | apply Kd.R_alloc | apply Kd.R_drewN | apply Kd.R_drew)); exact Kd.R_mono HO350.out (fun _ hk => ⟨hk.2, ⟨hk.1.1.1.2, ⟨hk.1.1.2, hk.1.2⟩⟩⟩)), (by (with_reducible repeat (first | apply Kd.R_alloc | apply Kd.R_drewN | apply Kd.R_drew)); exact Kd.R_mono HO_295004.out (fun _ hk => ⟨hk.1.2, ⟨hk.2, ⟨hk.1.1.1, hk.1.1.2⟩⟩⟩)), (by (with_reducible repeat (first | apply Kd.R_alloc | apply Kd.R_drewN | apply Kd.R_drew)); exact Kd.R_mono HO_303004.out (fun _ hk => ⟨hk.1.2, ⟨hk.2, ⟨hk.1.1.1, hk.1.1.2⟩⟩⟩)), (by (with_reducible repeat (first | apply Kd.R_alloc | apply Kd.R_drewN | apply Kd.R_drew)); exact Kd.R_mono HO_317004.out (fun _ hk => ⟨hk.1.2, ⟨hk.2, ⟨hk.1.1.1, hk.1.1.2⟩⟩⟩)), (by (with_reducible repeat first | refine bkN ?_ _ | refine bkD ?_ | refine bkA ?_ _); exact BK270.out), (by (with_reducible repeat first | refine bkN ?_ _ | refine bkD ?_ | refine bkA ?_ _); exact BK271.out), (by (with_reducible repeat first | refine bkN ?_ _ | refine bkD ?_ | refine bkA ?_ _); exact BK294.out), (by (with_reducible repeat first | refine bkN ?_ _ | refine bkD ?_ | refine bkA ?_ _); exact BK302.out), (by (with_reducible repeat first | refine bkN ?_ _ | refine bkD ?_ | refine bkA ?_ _); exact BK316.out), (by (with_reducible repeat first | refine bkN ?_ _ | refine bkD ?_ | refine bkA ?_ _); exact BK352.out), GW352.out, GE352.out, NB270_352.out, NB352_270.out, NB271_352.out, NB352_271.out, NB294_352.out, NB352_294.out, NB302_352.out, NB352_302.out, NB316_352.out, NB352_316.out, (be HB)⟩)
            rintro ⟨v337, v349, gb352⟩ w151 ⟨hS_, h0_, h1_, h2_, h3_, h4_, h5_, h6_, h7_, h8_, h9_, h10_, h11_, h12_, h13_, h14_, h15_, h16_, h17_, h18_, h19_, h20_, h21_, h22_, h23_⟩
            have n0_ : Aside0 (Kd.R k125 125 w151 w.heap.size (fun k_ => some k_ ≠ (v349 : Value).ownBlock ∧ some k_ ≠ (.slice Ao44 t290.length co44 : Value).ownBlock ∧ some k_ ≠ (.slice Ao54 t327.length co54 : Value).ownBlock ∧ some k_ ≠ (.slice Ao65 t312.length co65 : Value).ownBlock) v337 t336) := ⟨h0_⟩
            have n1_ : Aside0 (Kd.R k125 125 w151 w.heap.size (fun k_ => some k_ ≠ (v337 : Value).ownBlock ∧ some k_ ≠ (.slice Ao44 t290.length co44 : Value).ownBlock ∧ some k_ ≠ (.slice Ao54 t327.length co54 : Value).ownBlock ∧ some k_ ≠ (.slice Ao65 t312.length co65 : Value).ownBlock) v349 t348) := ⟨h1_⟩
            have n2_ : Aside0 (Kd.R k125 125 w151 w.heap.size (fun k_ => some k_ ≠ (v337 : Value).ownBlock ∧ some k_ ≠ (v349 : Value).ownBlock ∧ some k_ ≠ (.slice Ao54 t327.length co54 : Value).ownBlock ∧ some k_ ≠ (.slice Ao65 t312.length co65 : Value).ownBlock) (.slice Ao44 t290.length co44) t290) := ⟨h2_⟩
            have n3_ : Aside0 (Kd.R k125 125 w151 w.heap.size (fun k_ => some k_ ≠ (v337 : Value).ownBlock ∧ some k_ ≠ (v349 : Value).ownBlock ∧ some k_ ≠ (.slice Ao44 t290.length co44 : Value).ownBlock ∧ some k_ ≠ (.slice Ao65 t312.length co65 : Value).ownBlock) (.slice Ao54 t327.length co54) t327) := ⟨h3_⟩
            have n4_ : Aside0 (Kd.R k125 125 w151 w.heap.size (fun k_ => some k_ ≠ (v337 : Value).ownBlock ∧ some k_ ≠ (v349 : Value).ownBlock ∧ some k_ ≠ (.slice Ao44 t290.length co44 : Value).ownBlock ∧ some k_ ≠ (.slice Ao54 t327.length co54 : Value).ownBlock) (.slice Ao65 t312.length co65) t330) := ⟨h4_⟩
            have n5_ : Aside0 (w151.heap[gb270]? = some (.cells #[.int .i64 a0_0, .int .i64 a0_1, .int .i64 a0_2, .int .i64 a0_3, .slice A0_4 l0_4.length c0_4] 56 (0, 0))) := ⟨h5_⟩
            have n6_ : Aside0 (w151.heap[gb271]? = some (.cells #[.int .i64 a1_0, .int .i64 a1_1, .int .i64 a1_2, .int .i64 a1_3, .string a1_4] 57 (0, 0))) := ⟨h6_⟩
            have n7_ : Aside0 (w151.heap[gb294]? = some (.cells #[.int .i64 t286, .int .i64 t287, .int .i64 t288, .int .i64 t289, .slice Ao44 t290.length co44] 62 (0, 0))) := ⟨h7_⟩
            have n8_ : Aside0 (w151.heap[gb302]? = some (.cells #[.int .i64 t295, .int .i64 t296, .int .i64 t297, .int .i64 t298, .slice Ao54 t327.length co54] 62 (0, 0))) := ⟨h8_⟩
            have n9_ : Aside0 (w151.heap[gb316]? = some (.cells #[.int .i64 t308, .int .i64 t309, .int .i64 t310, .int .i64 t311, .slice Ao65 t312.length co65] 62 (0, 0))) := ⟨h9_⟩
            have n10_ : Aside0 (w151.heap[gb352]? = some (.cells #[.int .i64 0, .int .i64 0, .int .i64 0, .int .i64 0, .slice none 0 0] 62 (0, 0))) := ⟨h10_⟩
            have n11_ : Aside0 (w.heap.size ≤ gb352) := ⟨h11_⟩
            have n12_ : Aside0 (w.heap.size ≤ gb352) := ⟨h12_⟩
            have n13_ : Aside0 (gb270 ≠ gb352) := ⟨h13_⟩
            have n14_ : Aside0 (gb352 ≠ gb270) := ⟨h14_⟩
            have n15_ : Aside0 (gb271 ≠ gb352) := ⟨h15_⟩
            have n16_ : Aside0 (gb352 ≠ gb271) := ⟨h16_⟩
            have n17_ : Aside0 (gb294 ≠ gb352) := ⟨h17_⟩
            have n18_ : Aside0 (gb352 ≠ gb294) := ⟨h18_⟩
            have n19_ : Aside0 (gb302 ≠ gb352) := ⟨h19_⟩
            have n20_ : Aside0 (gb352 ≠ gb302) := ⟨h20_⟩
            have n21_ : Aside0 (gb316 ≠ gb352) := ⟨h21_⟩
            have n22_ : Aside0 (gb352 ≠ gb316) := ⟨h22_⟩
            have n23_ : Aside0 (Below w.heap.size w w151) := ⟨h23_⟩
            clear HO_295004; clear HO_303004; clear HO_317004; clear BK270; clear BK271; clear BK294; clear BK302; clear BK316; clear HB; clear h0_ h1_ h2_ h3_ h4_ h5_ h6_ h7_ h8_ h9_ h10_ h11_ h12_ h13_ h14_ h15_ h16_ h17_ h18_ h19_ h20_ h21_ h22_ h23_; have HO338 := n0_; have HO350 := n1_; have HO_295004 := n2_; have HO_303004 := n3_; have HO_317004 := n4_; have BK270 := n5_; have BK271 := n6_; have BK294 := n7_; have BK302 := n8_; have BK316 := n9_; have BK352 := n10_; have GW352 := n11_; have GE352 := n12_; have NB270_352 := n13_; have NB352_270 := n14_; have NB271_352 := n15_; have NB352_271 := n16_; have NB294_352 := n17_; have NB352_294 := n18_; have NB302_352 := n19_; have NB352_302 := n20_; have NB316_352 := n21_; have NB352_316 := n22_; have HB := n23_; clear n0_ n1_ n2_ n3_ n4_ n5_ n6_ n7_ n8_ n9_ n10_ n11_ n12_ n13_ n14_ n15_ n16_ n17_ n18_ n19_ n20_ n21_ n22_ n23_; have hHeld : w151.cell? ⟨gb270, 0, none⟩ = some (.int .i64 a0_0) ∧ w151.cell? ⟨gb270, 1, none⟩ = some (.int .i64 a0_1) ∧ w151.cell? ⟨gb270, 2, none⟩ = some (.int .i64 a0_2) ∧ w151.cell? ⟨gb270, 3, none⟩ = some (.int .i64 a0_3) ∧ w151.cell? ⟨gb270, 4, none⟩ = some (.slice A0_4 l0_4.length c0_4) ∧ w151.cell? ⟨gb271, 0, none⟩ = some (.int .i64 a1_0) ∧ w151.cell? ⟨gb271, 1, none⟩ = some (.int .i64 a1_1) ∧ w151.cell? ⟨gb271, 2, none⟩ = some (.int .i64 a1_2) ∧ w151.cell? ⟨gb271, 3, none⟩ = some (.int .i64 a1_3) ∧ w151.cell? ⟨gb271, 4, none⟩ = some (.string a1_4) := hS_
            obtain ⟨Ao156, co156, eo156⟩ := Kd.R_slice HO350.out
            (first | subst eo156 | (injection eo156 with f1_ f2_ f3_; have f4_ := f1_.symm; have f5_ := f3_.symm; clear f1_ f2_ f3_; subst f4_; subst f5_))
            refine norm_ (a' := ?_) ?_ ?_
            rotate_left
            ·simp only [putAll, putL]; rfl
            refine one_ (i := 9) (N := none) #[true, true, true, true, true, true, true, true, true, true, false] rfl rfl (one_of HT_.out (by kernel_rfl)) (by decide) (fun K hK => ?_)
            have hs152 : w151.cell? ⟨gb352, 0, none⟩ = some (.int .i64 0) := bc BK352 0
            have hfs152 := blk_frozen BK352.out 0; have hns152_0 := NB270_352.out; have hns152_1 := NB271_352.out; have hns152_2 := NB294_352.out; have hns152_3 := NB302_352.out; have hns152_4 := NB316_352.out; have hms152_0 := NB352_270.out; have hms152_1 := NB352_271.out; have hms152_2 := NB352_294.out; have hms152_3 := NB352_302.out; have hms152_4 := NB352_316.out; have hs153 : w151.cell? ⟨gb352, 1, none⟩ = some (.int .i64 0) := bc BK352 1
            have hfs153 := blk_frozen BK352.out 1; have hns153_0 := NB270_352.out; have hns153_1 := NB271_352.out; have hns153_2 := NB294_352.out; have hns153_3 := NB302_352.out; have hns153_4 := NB316_352.out; have hms153_0 := NB352_270.out; have hms153_1 := NB352_271.out; have hms153_2 := NB352_294.out; have hms153_3 := NB352_302.out; have hms153_4 := NB352_316.out; have hs154 : w151.cell? ⟨gb352, 2, none⟩ = some (.int .i64 0) := bc BK352 2
            have hfs154 := blk_frozen BK352.out 2; have hns154_0 := NB270_352.out; have hns154_1 := NB271_352.out; have hns154_2 := NB294_352.out; have hns154_3 := NB302_352.out; have hns154_4 := NB316_352.out; have hms154_0 := NB352_270.out; have hms154_1 := NB352_271.out; have hms154_2 := NB352_294.out; have hms154_3 := NB352_302.out; have hms154_4 := NB352_316.out; have hs155 : w151.cell? ⟨gb352, 3, none⟩ = some (.int .i64 0) := bc BK352 3
            have hfs155 := blk_frozen BK352.out 3; have hns155_0 := NB270_352.out; have hns155_1 := NB271_352.out; have hns155_2 := NB294_352.out; have hns155_3 := NB302_352.out; have hns155_4 := NB316_352.out; have hms155_0 := NB352_270.out; have hms155_1 := NB352_271.out; have hms155_2 := NB352_294.out; have hms155_3 := NB352_302.out; have hms155_4 := NB352_316.out; have hs157 : w151.cell? ⟨gb352, 4, none⟩ = some (.slice none 0 0) := bc BK352 4
            have hfs157 := blk_frozen BK352.out 4; have hns157_0 := NB270_352.out; have hns157_1 := NB271_352.out; have hns157_2 := NB294_352.out; have hns157_3 := NB302_352.out; have hns157_4 := NB316_352.out; have hms157_0 := NB352_270.out; have hms157_1 := NB352_271.out; have hms157_2 := NB352_294.out; have hms157_3 := NB352_302.out; have hms157_4 := NB352_316.out; refine skip_ (w1 := ?_) (by rfl) rfl ?_ ?_
            rotate_left
            ·go_simp; rfl
            refine hK.out _ _ ⟨((cell_far (p := ⟨gb352, _, none⟩) NB270_352.out _).trans (((cell_far (p := ⟨gb352, _, none⟩) NB270_352.out _).trans (((cell_far (p := ⟨gb352, _, none⟩) NB270_352.out _).trans (((cell_far (p := ⟨gb352, _, none⟩) NB270_352.out _).trans (((cell_far (p := ⟨gb352, _, none⟩) NB270_352.out _).trans (hHeld.1)))))))))), ((cell_far (p := ⟨gb352, _, none⟩) NB270_352.out _).trans (((cell_far (p := ⟨gb352, _, none⟩) NB270_352.out _).trans (((cell_far (p := ⟨gb352, _, none⟩) NB270_352.out _).trans (((cell_far (p := ⟨gb352, _, none⟩) NB270_352.out _).trans (((cell_far (p := ⟨gb352, _, none⟩) NB270_352.out _).trans (hHeld.2.1)))))))))), ((cell_far (p := ⟨gb352, _, none⟩) NB270_352.out _).trans (((cell_far (p := ⟨gb352, _, none⟩) NB270_352.out _).trans (((cell_far (p := ⟨gb352, _, none⟩) NB270_352.out _).trans (((cell_far (p := ⟨gb352, _, none⟩) NB270_352.out _).trans (((cell_far (p := ⟨gb352, _, none⟩) NB270_352.out _).trans (hHeld.2.2.1)))))))))), ((cell_far (p := ⟨gb352, _, none⟩) NB270_352.out _).trans (((cell_far (p := ⟨gb352, _, none⟩) NB270_352.out _).trans (((cell_far (p := ⟨gb352, _, none⟩) NB270_352.out _).trans (((cell_far (p := ⟨gb352, _, none⟩) NB270_352.out _).trans (((cell_far (p := ⟨gb352, _, none⟩) NB270_352.out _).trans (hHeld.2.2.2.1)))))))))), ((cell_far (p := ⟨gb352, _, none⟩) NB270_352.out _).trans (((cell_far (p := ⟨gb352, _, none⟩) NB270_352.out _).trans (((cell_far (p := ⟨gb352, _, none⟩) NB270_352.out _).trans (((cell_far (p := ⟨gb352, _, none⟩) NB270_352.out _).trans (((cell_far (p := ⟨gb352, _, none⟩) NB270_352.out _).trans (hHeld.2.2.2.2.1)))))))))), ((cell_far (p := ⟨gb352, _, none⟩) NB271_352.out _).trans (((cell_far (p := ⟨gb352, _, none⟩) NB271_352.out _).trans (((cell_far (p := ⟨gb352, _, none⟩) NB271_352.out _).trans (((cell_far (p := ⟨gb352, _, none⟩) NB271_352.out _).trans (((cell_far (p := ⟨gb352, _, none⟩) NB271_352.out _).trans (hHeld.2.2.2.2.2.1)))))))))), ((cell_far (p := ⟨gb352, _, none⟩) NB271_352.out _).trans (((cell_far (p := ⟨gb352, _, none⟩) NB271_352.out _).trans (((cell_far (p := ⟨gb352, _, none⟩) NB271_352.out _).trans (((cell_far (p := ⟨gb352, _, none⟩) NB271_352.out _).trans (((cell_far (p := ⟨gb352, _, none⟩) NB271_352.out _).trans (hHeld.2.2.2.2.2.2.1)))))))))), ((cell_far (p := ⟨gb352, _, none⟩) NB271_352.out _).trans (((cell_far (p := ⟨gb352, _, none⟩) NB271_352.out _).trans (((cell_far (p := ⟨gb352, _, none⟩) NB271_352.out _).trans (((cell_far (p := ⟨gb352, _, none⟩) NB271_352.out _).trans (((cell_far (p := ⟨gb352, _, none⟩) NB271_352.out _).trans (hHeld.2.2.2.2.2.2.2.1)))))))))), ((cell_far (p := ⟨gb352, _, none⟩) NB271_352.out _).trans (((cell_far (p := ⟨gb352, _, none⟩) NB271_352.out _).trans (((cell_far (p := ⟨gb352, _, none⟩) NB271_352.out _).trans (((cell_far (p := ⟨gb352, _, none⟩) NB271_352.out _).trans (((cell_far (p := ⟨gb352, _, none⟩) NB271_352.out _).trans (hHeld.2.2.2.2.2.2.2.2.1)))))))))), ((cell_far (p := ⟨gb352, _, none⟩) NB271_352.out _).trans (((cell_far (p := ⟨gb352, _, none⟩) NB271_352.out _).trans (((cell_far (p := ⟨gb352, _, none⟩) NB271_352.out _).trans (((cell_far (p := ⟨gb352, _, none⟩) NB271_352.out _).trans (((cell_far (p := ⟨gb352, _, none⟩) NB271_352.out _).trans (hHeld.2.2.2.2.2.2.2.2.2))))))))))⟩ (fun hHeld => ?_)
            clear hK K; refine pure_ (i := 10) (N := some 15) (v := ?_) (a' := ?_) #[true, true, true, true, true, true, true, true, true, true, true] rfl rfl (any_of HT_.out (by kernel_rfl)) (fun _ _ _ h => h) (Or.inl ⟨by rfl, ?_⟩) ?_ ?_
            rotate_left
            ·intro w'; go_simp; with_reducible rfl
            rotate_left
            ·simp only [putL, i64_w, i32_w]; rfl
            refine done_ (done_of HT_.out (by kernel_rfl)) ?_
            go_upto_region 28 with (fail)
            go_cut [100] (fun v100 wc => ∃ (kq : Nat) (x100_135 : Bool), v100 = .bool x100_135 ∧ Aside0 (laws_FnExactWalStep.j2 kq t329 x100_135 t308 t309 t310 t311 t330 = some r) ∧ Aside0 (kq ≤ kj93) ∧ Aside0 (Kd.R k125 125 wc w.heap.size (fun k_ => some k_ ≠ ((.slice Ao54 t327.length co54) : Value).ownBlock ∧ some k_ ≠ ((.slice Ao65 t312.length co65) : Value).ownBlock ∧ some k_ ≠ ((.slice Ao156 t348.length co156) : Value).ownBlock) (.slice Ao44 t290.length co44) t290) ∧ Aside0 (Kd.R k125 125 wc w.heap.size (fun k_ => some k_ ≠ ((.slice Ao44 t290.length co44) : Value).ownBlock ∧ some k_ ≠ ((.slice Ao65 t312.length co65) : Value).ownBlock ∧ some k_ ≠ ((.slice Ao156 t348.length co156) : Value).ownBlock) (.slice Ao54 t327.length co54) t327) ∧ Aside0 (Kd.R k125 125 wc w.heap.size (fun k_ => some k_ ≠ ((.slice Ao44 t290.length co44) : Value).ownBlock ∧ some k_ ≠ ((.slice Ao54 t327.length co54) : Value).ownBlock ∧ some k_ ≠ ((.slice Ao156 t348.length co156) : Value).ownBlock) (.slice Ao65 t312.length co65) t330) ∧ Aside0 (Kd.R k125 125 wc w.heap.size (fun k_ => some k_ ≠ ((.slice Ao44 t290.length co44) : Value).ownBlock ∧ some k_ ≠ ((.slice Ao54 t327.length co54) : Value).ownBlock ∧ some k_ ≠ ((.slice Ao65 t312.length co65) : Value).ownBlock) (.slice Ao156 t348.length co156) t348) ∧ Aside0 (wc.heap[gb270]? = some (.cells #[.int .i64 a0_0, .int .i64 a0_1, .int .i64 a0_2, .int .i64 a0_3, (.slice A0_4 l0_4.length c0_4)] 56 (0, 0))) ∧ Aside0 (wc.heap[gb271]? = some (.cells #[.int .i64 a1_0, .int .i64 a1_1, .int .i64 a1_2, .int .i64 a1_3, .string a1_4] 57 (0, 0))) ∧ Aside0 (wc.heap[gb294]? = some (.cells #[.int .i64 t286, .int .i64 t287, .int .i64 t288, .int .i64 t289, (.slice Ao44 t290.length co44)] 62 (0, 0))) ∧ Aside0 (wc.heap[gb302]? = some (.cells #[.int .i64 t295, .int .i64 t296, .int .i64 t297, .int .i64 t298, (.slice Ao54 t327.length co54)] 62 (0, 0))) ∧ Aside0 (wc.heap[gb316]? = some (.cells #[.int .i64 t308, .int .i64 t309, .int .i64 t310, .int .i64 t311, (.slice Ao65 t312.length co65)] 62 (0, 0))) ∧ Aside0 (wc.heap[gb352]? = some (.cells #[.int .i64 t344, .int .i64 t345, .int .i64 t346, .int .i64 t347, (.slice Ao156 t348.length co156)] 62 (0, 0))) ∧ Aside0 (Below w.heap.size w wc))
            case first =>
             have H := HC136.out; clear HC136; replace H := Option.bind_eq_some_iff.mp H
             obtain ⟨t353, A1580, H⟩ := H
             replace H : (if t353 = true then (laws_FnExactWalStep.j2 kj93 t329 (t351 != t293) t308 t309 t310 t311 t330) else (laws_FnExactWalStep.j2 kj93 t329 true t308 t309 t310 t311 t330)) = some r := H
             have A158 := Aside0.mk A1580
             clear A1580
             by_cases c159 : t353 = true
             ·subst c159
              have H1 : (laws_FnExactWalStep.j2 kj93 t329 (t351 != t293) t308 t309 t310 t311 t330) = some r := by rw [if_pos rfl] at H; exact H
              clear H; have H := H1
              clear H1; have H' := Aside0.mk H
              clear H; have hnb160 := NB352_270.out; have hnc160 := NB270_352.out; have hnb161 := NB352_271.out; have hnc161 := NB271_352.out; have hnb162 := NB352_294.out; have hnc162 := NB294_352.out; have hnb163 := NB352_302.out; have hnc163 := NB302_352.out; have hnb164 := NB352_316.out; have hnc164 := NB316_352.out; obtain ⟨hcz165_0, hcz165_1, hcz165_2, hcz165_3, hcz165_4⟩ := cs5 BK352; obtain ⟨hfz165_0, hfz165_1, hfz165_2, hfz165_3, hfz165_4⟩ := fs5 BK352; have hnb166 := NB294_270.out; have hnc166 := NB270_294.out; have hnb167 := NB294_271.out; have hnc167 := NB271_294.out; have hnb168 := NB294_302.out; have hnc168 := NB302_294.out; have hnb169 := NB294_316.out; have hnc169 := NB316_294.out; obtain ⟨hcz170_0, hcz170_1, hcz170_2, hcz170_3, hcz170_4⟩ := cs5 BK294; obtain ⟨hfz170_0, hfz170_1, hfz170_2, hfz170_3, hfz170_4⟩ := fs5 BK294
              go_wp2_with (first | ((with_reducible refine gate_callee (f := 41) rfl ?_); refine goesL_ (some 94) rfl rfl Try.func41 (by kernel_rfl) rfl #[.agg #[.int .i64 t344, .int .i64 t345, .int .i64 t346, .int .i64 t347, .slice Ao156 t348.length co156], .agg #[.int .i64 t286, .int .i64 t287, .int .i64 t288, .int .i64 t289, .slice Ao44 t290.length co44]] rfl (by (try simp only [List.map_toArray, List.map_cons, List.map_nil]); first | done | rfl | (simp only [List.length_drop, List.length_take]; rfl)) ?_; (with_reducible refine (laws_eqWal.calls kj93 t344 t345 t346 t347 _ _ t348 t286 t287 t288 t289 _ _ t290 true _ ?side1 ?side2 ?side3 ?side4 A158.out).mono ?_); (case side1 => refine (Kd.R_reads' (e := 125) (base := w.heap.size) (ok := fun k_ => (some k_ ≠ (v337 : Value).ownBlock ∧ (some k_ ≠ (.slice Ao44 t290.length co44 : Value).ownBlock ∧ (some k_ ≠ (.slice Ao54 t327.length co54 : Value).ownBlock ∧ some k_ ≠ (.slice Ao65 t312.length co65 : Value).ownBlock)))) (n := t348.length) (c := co156) ?_).2.2; exact (by (with_reducible repeat (first | apply Kd.R_alloc | apply Kd.R_drewN | apply Kd.R_drew)); exact (Kd.R_mono (Kd.R_far (p := ⟨gb352, 4, none⟩) (Kd.R_far (p := ⟨gb352, 3, none⟩) (Kd.R_far (p := ⟨gb352, 2, none⟩) (Kd.R_far (p := ⟨gb352, 1, none⟩) (Kd.R_far (p := ⟨gb352, 0, none⟩) (Kd.R_types HO350.out BK352.out (by decide)) (fun _ hk => hk.2) (.int .i64 t344)) (fun _ hk => hk.2) (.int .i64 t345)) (fun _ hk => hk.2) (.int .i64 t346)) (fun _ hk => hk.2) (.int .i64 t347)) (fun _ hk => hk.2) (.slice Ao156 t348.length co156)) (fun _ h_ => h_.1)))); (case side2 => exact (Kd.R_reads' HO350.out).2.1); (case side3 => refine (Kd.R_reads' (e := 125) (base := w.heap.size) (ok := fun k_ => (some k_ ≠ (v337 : Value).ownBlock ∧ (some k_ ≠ (.slice Ao156 t348.length co156 : Value).ownBlock ∧ (some k_ ≠ (.slice Ao54 t327.length co54 : Value).ownBlock ∧ some k_ ≠ (.slice Ao65 t312.length co65 : Value).ownBlock)))) (n := t290.length) (c := co44) ?_).2.2; exact (by (with_reducible repeat (first | apply Kd.R_alloc | apply Kd.R_drewN | apply Kd.R_drew)); exact (Kd.R_mono (Kd.R_far (p := ⟨gb352, 4, none⟩) (Kd.R_far (p := ⟨gb352, 3, none⟩) (Kd.R_far (p := ⟨gb352, 2, none⟩) (Kd.R_far (p := ⟨gb352, 1, none⟩) (Kd.R_far (p := ⟨gb352, 0, none⟩) (Kd.R_types HO_295004.out BK352.out (by decide)) (fun _ hk => hk.2) (.int .i64 t344)) (fun _ hk => hk.2) (.int .i64 t345)) (fun _ hk => hk.2) (.int .i64 t346)) (fun _ hk => hk.2) (.int .i64 t347)) (fun _ hk => hk.2) (.slice Ao156 t348.length co156)) (fun _ h_ => h_.1)))); (case side4 => exact (Kd.R_reads' HO_295004.out).2.1); rintro e w171 ⟨rfl, hb⟩; refine ⟨_, rfl, ?_⟩; have n0_ := Aside0.mk (Kd.R_below (by (with_reducible repeat (first | apply Kd.R_alloc | apply Kd.R_drewN | apply Kd.R_drew)); exact (Kd.R_mono (Kd.R_far (p := ⟨gb352, 4, none⟩) (Kd.R_far (p := ⟨gb352, 3, none⟩) (Kd.R_far (p := ⟨gb352, 2, none⟩) (Kd.R_far (p := ⟨gb352, 1, none⟩) (Kd.R_far (p := ⟨gb352, 0, none⟩) (Kd.R_types HO_295004.out BK352.out (by decide)) (fun _ hk => hk.2) (.int .i64 t344)) (fun _ hk => hk.2) (.int .i64 t345)) (fun _ hk => hk.2) (.int .i64 t346)) (fun _ hk => hk.2) (.int .i64 t347)) (fun _ hk => hk.2) (.slice Ao156 t348.length co156)) (fun _ h_ => h_.1))) hb); have n1_ := Aside0.mk (Kd.R_below (by (with_reducible repeat (first | apply Kd.R_alloc | apply Kd.R_drewN | apply Kd.R_drew)); exact (Kd.R_mono (Kd.R_far (p := ⟨gb352, 4, none⟩) (Kd.R_far (p := ⟨gb352, 3, none⟩) (Kd.R_far (p := ⟨gb352, 2, none⟩) (Kd.R_far (p := ⟨gb352, 1, none⟩) (Kd.R_far (p := ⟨gb352, 0, none⟩) (Kd.R_types HO_303004.out BK352.out (by decide)) (fun _ hk => hk.2) (.int .i64 t344)) (fun _ hk => hk.2) (.int .i64 t345)) (fun _ hk => hk.2) (.int .i64 t346)) (fun _ hk => hk.2) (.int .i64 t347)) (fun _ hk => hk.2) (.slice Ao156 t348.length co156)) (fun _ h_ => h_.1))) hb); have n2_ := Aside0.mk (Kd.R_below (by (with_reducible repeat (first | apply Kd.R_alloc | apply Kd.R_drewN | apply Kd.R_drew)); exact (Kd.R_mono (Kd.R_far (p := ⟨gb352, 4, none⟩) (Kd.R_far (p := ⟨gb352, 3, none⟩) (Kd.R_far (p := ⟨gb352, 2, none⟩) (Kd.R_far (p := ⟨gb352, 1, none⟩) (Kd.R_far (p := ⟨gb352, 0, none⟩) (Kd.R_types HO_317004.out BK352.out (by decide)) (fun _ hk => hk.2) (.int .i64 t344)) (fun _ hk => hk.2) (.int .i64 t345)) (fun _ hk => hk.2) (.int .i64 t346)) (fun _ hk => hk.2) (.int .i64 t347)) (fun _ hk => hk.2) (.slice Ao156 t348.length co156)) (fun _ h_ => h_.1))) hb); have n3_ := Aside0.mk (Kd.R_below (by (with_reducible repeat (first | apply Kd.R_alloc | apply Kd.R_drewN | apply Kd.R_drew)); exact (Kd.R_mono (Kd.R_far (p := ⟨gb352, 4, none⟩) (Kd.R_far (p := ⟨gb352, 3, none⟩) (Kd.R_far (p := ⟨gb352, 2, none⟩) (Kd.R_far (p := ⟨gb352, 1, none⟩) (Kd.R_far (p := ⟨gb352, 0, none⟩) (Kd.R_types HO338.out BK352.out (by decide)) (fun _ hk => hk.2) (.int .i64 t344)) (fun _ hk => hk.2) (.int .i64 t345)) (fun _ hk => hk.2) (.int .i64 t346)) (fun _ hk => hk.2) (.int .i64 t347)) (fun _ hk => hk.2) (.slice Ao156 t348.length co156)) (fun _ h_ => h_.1))) hb); have n4_ := Aside0.mk (Kd.R_below (by (with_reducible repeat (first | apply Kd.R_alloc | apply Kd.R_drewN | apply Kd.R_drew)); exact (Kd.R_mono (Kd.R_far (p := ⟨gb352, 4, none⟩) (Kd.R_far (p := ⟨gb352, 3, none⟩) (Kd.R_far (p := ⟨gb352, 2, none⟩) (Kd.R_far (p := ⟨gb352, 1, none⟩) (Kd.R_far (p := ⟨gb352, 0, none⟩) (Kd.R_types HO350.out BK352.out (by decide)) (fun _ hk => hk.2) (.int .i64 t344)) (fun _ hk => hk.2) (.int .i64 t345)) (fun _ hk => hk.2) (.int .i64 t346)) (fun _ hk => hk.2) (.int .i64 t347)) (fun _ hk => hk.2) (.slice Ao156 t348.length co156)) (fun _ h_ => h_.1))) hb); have n5_ := bf BK270 hb; have n6_ := bf BK271 hb; have n7_ := bf BK294 hb; have n8_ := bf BK302 hb; have n9_ := bf BK316 hb; have n10_ := bp #[.int .i64 t344, .int .i64 t345, .int .i64 t346, .int .i64 t347, .slice Ao156 t348.length co156] BK352 hb; have n11_ := Aside0.mk (below_step (be HB) hb); clear HO_295004 HO_303004 HO_317004 HO338 HO350 BK270 BK271 BK294 BK302 BK316 BK352 HB; have HO_295004 := n0_; have HO_303004 := n1_; have HO_317004 := n2_; have HO338 := n3_; have HO350 := n4_; have BK270 := n5_; have BK271 := n6_; have BK294 := n7_; have BK302 := n8_; have BK316 := n9_; have BK352 := n10_; have HB := n11_; clear n0_ n1_ n2_ n3_ n4_ n5_ n6_ n7_ n8_ n9_ n10_ n11_; (try clear hb); (try clear hb2); (try clear hk); (try clear hi)))
              go_meet
              case rel => exact ⟨_, ((t351 != t293)), (by first | rfl | (simp; done) | (simp [*]; done)), H', ⟨by have := HJ24.out; have := HJ93.out; first | omega | exact Nat.le_refl _⟩, ⟨by (try simp only [hl303004_93]); (with_reducible repeat (first | apply Kd.R_alloc | apply Kd.R_drewN | apply Kd.R_drew)); exact Kd.R_mono HO_295004.out (fun _ hk => ⟨hk.2.2.1, ⟨hk.2.2.2, hk.2.1⟩⟩)⟩, ⟨by (try simp only [hl303004_93]); (with_reducible repeat (first | apply Kd.R_alloc | apply Kd.R_drewN | apply Kd.R_drew)); exact Kd.R_mono HO_303004.out (fun _ hk => ⟨hk.2.2.1, ⟨hk.2.2.2, hk.2.1⟩⟩)⟩, ⟨by (try simp only [hl303004_93]); (with_reducible repeat (first | apply Kd.R_alloc | apply Kd.R_drewN | apply Kd.R_drew)); exact Kd.R_mono HO_317004.out (fun _ hk => ⟨hk.2.2.1, ⟨hk.2.2.2, hk.2.1⟩⟩)⟩, ⟨by (try simp only [hl303004_93]); (with_reducible repeat (first | apply Kd.R_alloc | apply Kd.R_drewN | apply Kd.R_drew)); exact Kd.R_mono HO350.out (fun _ hk => ⟨hk.2.1, ⟨hk.2.2.1, hk.2.2.2⟩⟩)⟩, ⟨by (try simp only [hl303004_93]); (with_reducible repeat first | refine bkN ?_ _ | refine bkD ?_ | refine bkA ?_ _); exact BK270.out⟩, ⟨by (try simp only [hl303004_93]); (with_reducible repeat first | refine bkN ?_ _ | refine bkD ?_ | refine bkA ?_ _); exact BK271.out⟩, ⟨by (try simp only [hl303004_93]); (with_reducible repeat first | refine bkN ?_ _ | refine bkD ?_ | refine bkA ?_ _); exact BK294.out⟩, ⟨by (try simp only [hl303004_93]); (with_reducible repeat first | refine bkN ?_ _ | refine bkD ?_ | refine bkA ?_ _); exact BK302.out⟩, ⟨by (try simp only [hl303004_93]); (with_reducible repeat first | refine bkN ?_ _ | refine bkD ?_ | refine bkA ?_ _); exact BK316.out⟩, ⟨by (try simp only [hl303004_93]); (with_reducible repeat first | refine bkN ?_ _ | refine bkD ?_ | refine bkA ?_ _); exact BK352.out⟩, ⟨by repeat (first | (with_reducible first | exact HB.out | apply below_alloc | apply pw_below_drewN | apply below_drew1 | refine below_set ?_ GE270.out | refine below_set ?_ GE271.out | refine below_set ?_ GE294.out | refine below_set ?_ GE302.out | refine below_set ?_ GE316.out | refine below_set ?_ GE352.out) | exact HB.out)⟩⟩
             ·replace c159 := Bool.eq_false_iff.mpr c159
              subst c159
              have H1 : (laws_FnExactWalStep.j2 kj93 t329 true t308 t309 t310 t311 t330) = some r := by rw [if_neg (show ¬ (false = true) by decide)] at H; exact H
              clear H; have H := H1
              clear H1; have H' := Aside0.mk H
              clear H; have hnb172 := NB352_270.out; have hnc172 := NB270_352.out; have hnb173 := NB352_271.out; have hnc173 := NB271_352.out; have hnb174 := NB352_294.out; have hnc174 := NB294_352.out; have hnb175 := NB352_302.out; have hnc175 := NB302_352.out; have hnb176 := NB352_316.out; have hnc176 := NB316_352.out; obtain ⟨hcz177_0, hcz177_1, hcz177_2, hcz177_3, hcz177_4⟩ := cs5 BK352; obtain ⟨hfz177_0, hfz177_1, hfz177_2, hfz177_3, hfz177_4⟩ := fs5 BK352; have hnb178 := NB294_270.out; have hnc178 := NB270_294.out; have hnb179 := NB294_271.out; have hnc179 := NB271_294.out; have hnb180 := NB294_302.out; have hnc180 := NB302_294.out; have hnb181 := NB294_316.out; have hnc181 := NB316_294.out; obtain ⟨hcz182_0, hcz182_1, hcz182_2, hcz182_3, hcz182_4⟩ := cs5 BK294; obtain ⟨hfz182_0, hfz182_1, hfz182_2, hfz182_3, hfz182_4⟩ := fs5 BK294
              go_wp2_with (first | ((with_reducible refine gate_callee (f := 41) rfl ?_); refine goesL_ (some 94) rfl rfl Try.func41 (by kernel_rfl) rfl #[.agg #[.int .i64 t344, .int .i64 t345, .int .i64 t346, .int .i64 t347, .slice Ao156 t348.length co156], .agg #[.int .i64 t286, .int .i64 t287, .int .i64 t288, .int .i64 t289, .slice Ao44 t290.length co44]] rfl (by (try simp only [List.map_toArray, List.map_cons, List.map_nil]); first | done | rfl | (simp only [List.length_drop, List.length_take]; rfl)) ?_; (with_reducible refine (laws_eqWal.calls kj93 t344 t345 t346 t347 _ _ t348 t286 t287 t288 t289 _ _ t290 false _ ?side1 ?side2 ?side3 ?side4 A158.out).mono ?_); (case side1 => refine (Kd.R_reads' (e := 125) (base := w.heap.size) (ok := fun k_ => (some k_ ≠ (v337 : Value).ownBlock ∧ (some k_ ≠ (.slice Ao44 t290.length co44 : Value).ownBlock ∧ (some k_ ≠ (.slice Ao54 t327.length co54 : Value).ownBlock ∧ some k_ ≠ (.slice Ao65 t312.length co65 : Value).ownBlock)))) (n := t348.length) (c := co156) ?_).2.2; exact (by (with_reducible repeat (first | apply Kd.R_alloc | apply Kd.R_drewN | apply Kd.R_drew)); exact (Kd.R_mono (Kd.R_far (p := ⟨gb352, 4, none⟩) (Kd.R_far (p := ⟨gb352, 3, none⟩) (Kd.R_far (p := ⟨gb352, 2, none⟩) (Kd.R_far (p := ⟨gb352, 1, none⟩) (Kd.R_far (p := ⟨gb352, 0, none⟩) (Kd.R_types HO350.out BK352.out (by decide)) (fun _ hk => hk.2) (.int .i64 t344)) (fun _ hk => hk.2) (.int .i64 t345)) (fun _ hk => hk.2) (.int .i64 t346)) (fun _ hk => hk.2) (.int .i64 t347)) (fun _ hk => hk.2) (.slice Ao156 t348.length co156)) (fun _ h_ => h_.1)))); (case side2 => exact (Kd.R_reads' HO350.out).2.1); (case side3 => refine (Kd.R_reads' (e := 125) (base := w.heap.size) (ok := fun k_ => (some k_ ≠ (v337 : Value).ownBlock ∧ (some k_ ≠ (.slice Ao156 t348.length co156 : Value).ownBlock ∧ (some k_ ≠ (.slice Ao54 t327.length co54 : Value).ownBlock ∧ some k_ ≠ (.slice Ao65 t312.length co65 : Value).ownBlock)))) (n := t290.length) (c := co44) ?_).2.2; exact (by (with_reducible repeat (first | apply Kd.R_alloc | apply Kd.R_drewN | apply Kd.R_drew)); exact (Kd.R_mono (Kd.R_far (p := ⟨gb352, 4, none⟩) (Kd.R_far (p := ⟨gb352, 3, none⟩) (Kd.R_far (p := ⟨gb352, 2, none⟩) (Kd.R_far (p := ⟨gb352, 1, none⟩) (Kd.R_far (p := ⟨gb352, 0, none⟩) (Kd.R_types HO_295004.out BK352.out (by decide)) (fun _ hk => hk.2) (.int .i64 t344)) (fun _ hk => hk.2) (.int .i64 t345)) (fun _ hk => hk.2) (.int .i64 t346)) (fun _ hk => hk.2) (.int .i64 t347)) (fun _ hk => hk.2) (.slice Ao156 t348.length co156)) (fun _ h_ => h_.1)))); (case side4 => exact (Kd.R_reads' HO_295004.out).2.1); rintro e w183 ⟨rfl, hb⟩; refine ⟨_, rfl, ?_⟩; have n0_ := Aside0.mk (Kd.R_below (by (with_reducible repeat (first | apply Kd.R_alloc | apply Kd.R_drewN | apply Kd.R_drew)); exact (Kd.R_mono (Kd.R_far (p := ⟨gb352, 4, none⟩) (Kd.R_far (p := ⟨gb352, 3, none⟩) (Kd.R_far (p := ⟨gb352, 2, none⟩) (Kd.R_far (p := ⟨gb352, 1, none⟩) (Kd.R_far (p := ⟨gb352, 0, none⟩) (Kd.R_types HO_295004.out BK352.out (by decide)) (fun _ hk => hk.2) (.int .i64 t344)) (fun _ hk => hk.2) (.int .i64 t345)) (fun _ hk => hk.2) (.int .i64 t346)) (fun _ hk => hk.2) (.int .i64 t347)) (fun _ hk => hk.2) (.slice Ao156 t348.length co156)) (fun _ h_ => h_.1))) hb); have n1_ := Aside0.mk (Kd.R_below (by (with_reducible repeat (first | apply Kd.R_alloc | apply Kd.R_drewN | apply Kd.R_drew)); exact (Kd.R_mono (Kd.R_far (p := ⟨gb352, 4, none⟩) (Kd.R_far (p := ⟨gb352, 3, none⟩) (Kd.R_far (p := ⟨gb352, 2, none⟩) (Kd.R_far (p := ⟨gb352, 1, none⟩) (Kd.R_far (p := ⟨gb352, 0, none⟩) (Kd.R_types HO_303004.out BK352.out (by decide)) (fun _ hk => hk.2) (.int .i64 t344)) (fun _ hk => hk.2) (.int .i64 t345)) (fun _ hk => hk.2) (.int .i64 t346)) (fun _ hk => hk.2) (.int .i64 t347)) (fun _ hk => hk.2) (.slice Ao156 t348.length co156)) (fun _ h_ => h_.1))) hb); have n2_ := Aside0.mk (Kd.R_below (by (with_reducible repeat (first | apply Kd.R_alloc | apply Kd.R_drewN | apply Kd.R_drew)); exact (Kd.R_mono (Kd.R_far (p := ⟨gb352, 4, none⟩) (Kd.R_far (p := ⟨gb352, 3, none⟩) (Kd.R_far (p := ⟨gb352, 2, none⟩) (Kd.R_far (p := ⟨gb352, 1, none⟩) (Kd.R_far (p := ⟨gb352, 0, none⟩) (Kd.R_types HO_317004.out BK352.out (by decide)) (fun _ hk => hk.2) (.int .i64 t344)) (fun _ hk => hk.2) (.int .i64 t345)) (fun _ hk => hk.2) (.int .i64 t346)) (fun _ hk => hk.2) (.int .i64 t347)) (fun _ hk => hk.2) (.slice Ao156 t348.length co156)) (fun _ h_ => h_.1))) hb); have n3_ := Aside0.mk (Kd.R_below (by (with_reducible repeat (first | apply Kd.R_alloc | apply Kd.R_drewN | apply Kd.R_drew)); exact (Kd.R_mono (Kd.R_far (p := ⟨gb352, 4, none⟩) (Kd.R_far (p := ⟨gb352, 3, none⟩) (Kd.R_far (p := ⟨gb352, 2, none⟩) (Kd.R_far (p := ⟨gb352, 1, none⟩) (Kd.R_far (p := ⟨gb352, 0, none⟩) (Kd.R_types HO338.out BK352.out (by decide)) (fun _ hk => hk.2) (.int .i64 t344)) (fun _ hk => hk.2) (.int .i64 t345)) (fun _ hk => hk.2) (.int .i64 t346)) (fun _ hk => hk.2) (.int .i64 t347)) (fun _ hk => hk.2) (.slice Ao156 t348.length co156)) (fun _ h_ => h_.1))) hb); have n4_ := Aside0.mk (Kd.R_below (by (with_reducible repeat (first | apply Kd.R_alloc | apply Kd.R_drewN | apply Kd.R_drew)); exact (Kd.R_mono (Kd.R_far (p := ⟨gb352, 4, none⟩) (Kd.R_far (p := ⟨gb352, 3, none⟩) (Kd.R_far (p := ⟨gb352, 2, none⟩) (Kd.R_far (p := ⟨gb352, 1, none⟩) (Kd.R_far (p := ⟨gb352, 0, none⟩) (Kd.R_types HO350.out BK352.out (by decide)) (fun _ hk => hk.2) (.int .i64 t344)) (fun _ hk => hk.2) (.int .i64 t345)) (fun _ hk => hk.2) (.int .i64 t346)) (fun _ hk => hk.2) (.int .i64 t347)) (fun _ hk => hk.2) (.slice Ao156 t348.length co156)) (fun _ h_ => h_.1))) hb); have n5_ := bf BK270 hb; have n6_ := bf BK271 hb; have n7_ := bf BK294 hb; have n8_ := bf BK302 hb; have n9_ := bf BK316 hb; have n10_ := bp #[.int .i64 t344, .int .i64 t345, .int .i64 t346, .int .i64 t347, .slice Ao156 t348.length co156] BK352 hb; have n11_ := Aside0.mk (below_step (be HB) hb); clear HO_295004 HO_303004 HO_317004 HO338 HO350 BK270 BK271 BK294 BK302 BK316 BK352 HB; have HO_295004 := n0_; have HO_303004 := n1_; have HO_317004 := n2_; have HO338 := n3_; have HO350 := n4_; have BK270 := n5_; have BK271 := n6_; have BK294 := n7_; have BK302 := n8_; have BK316 := n9_; have BK352 := n10_; have HB := n11_; clear n0_ n1_ n2_ n3_ n4_ n5_ n6_ n7_ n8_ n9_ n10_ n11_; (try clear hb); (try clear hb2); (try clear hk); (try clear hi)))
              go_meet
              case rel => exact ⟨_, (true), (by first | rfl | (simp; done) | (simp [*]; done)), H', ⟨by have := HJ24.out; have := HJ93.out; first | omega | exact Nat.le_refl _⟩, ⟨by (try simp only [hl303004_93]); (with_reducible repeat (first | apply Kd.R_alloc | apply Kd.R_drewN | apply Kd.R_drew)); exact Kd.R_mono HO_295004.out (fun _ hk => ⟨hk.2.2.1, ⟨hk.2.2.2, hk.2.1⟩⟩)⟩, ⟨by (try simp only [hl303004_93]); (with_reducible repeat (first | apply Kd.R_alloc | apply Kd.R_drewN | apply Kd.R_drew)); exact Kd.R_mono HO_303004.out (fun _ hk => ⟨hk.2.2.1, ⟨hk.2.2.2, hk.2.1⟩⟩)⟩, ⟨by (try simp only [hl303004_93]); (with_reducible repeat (first | apply Kd.R_alloc | apply Kd.R_drewN | apply Kd.R_drew)); exact Kd.R_mono HO_317004.out (fun _ hk => ⟨hk.2.2.1, ⟨hk.2.2.2, hk.2.1⟩⟩)⟩, ⟨by (try simp only [hl303004_93]); (with_reducible repeat (first | apply Kd.R_alloc | apply Kd.R_drewN | apply Kd.R_drew)); exact Kd.R_mono HO350.out (fun _ hk => ⟨hk.2.1, ⟨hk.2.2.1, hk.2.2.2⟩⟩)⟩, ⟨by (try simp only [hl303004_93]); (with_reducible repeat first | refine bkN ?_ _ | refine bkD ?_ | refine bkA ?_ _); exact BK270.out⟩, ⟨by (try simp only [hl303004_93]); (with_reducible repeat first | refine bkN ?_ _ | refine bkD ?_ | refine bkA ?_ _); exact BK271.out⟩, ⟨by (try simp only [hl303004_93]); (with_reducible repeat first | refine bkN ?_ _ | refine bkD ?_ | refine bkA ?_ _); exact BK294.out⟩, ⟨by (try simp only [hl303004_93]); (with_reducible repeat first | refine bkN ?_ _ | refine bkD ?_ | refine bkA ?_ _); exact BK302.out⟩, ⟨by (try simp only [hl303004_93]); (with_reducible repeat first | refine bkN ?_ _ | refine bkD ?_ | refine bkA ?_ _); exact BK316.out⟩, ⟨by (try simp only [hl303004_93]); (with_reducible repeat first | refine bkN ?_ _ | refine bkD ?_ | refine bkA ?_ _); exact BK352.out⟩, ⟨by repeat (first | (with_reducible first | exact HB.out | apply below_alloc | apply pw_below_drewN | apply below_drew1 | refine below_set ?_ GE270.out | refine below_set ?_ GE271.out | refine below_set ?_ GE294.out | refine below_set ?_ GE302.out | refine below_set ?_ GE316.out | refine below_set ?_ GE352.out) | exact HB.out)⟩⟩
            case rest =>
             clear HC136; (try clear c1); (try clear p2); (try clear c3); (try clear c4); (try clear c15); (try clear c16); (try clear c17); (try clear c18); (try clear c38); (try clear c39); (try clear c40); (try clear c41); (try clear c159); (try clear c160); (try clear c161); (try clear c162); (try clear c163); (try clear c164); (try clear c166); (try clear c167); (try clear c168); (try clear c169); (try clear c172); (try clear c173); (try clear c174); (try clear c175); (try clear c176); (try clear c178); (try clear c179); (try clear c180); (try clear c181); (try clear hcz165_0); (try clear hcz165_1); (try clear hcz165_2); (try clear hcz165_3); (try clear hcz165_4); (try clear hcz170_0); (try clear hcz170_1); (try clear hcz170_2); (try clear hcz170_3); (try clear hcz170_4); (try clear hcz177_0); (try clear hcz177_1); (try clear hcz177_2); (try clear hcz177_3); (try clear hcz177_4); (try clear hcz182_0); (try clear hcz182_1); (try clear hcz182_2); (try clear hcz182_3); (try clear hcz182_4); (try clear hfz165_0); (try clear hfz165_1); (try clear hfz165_2); (try clear hfz165_3); (try clear hfz165_4); (try clear hfz170_0); (try clear hfz170_1); (try clear hfz170_2); (try clear hfz170_3); (try clear hfz170_4); (try clear hfz177_0); (try clear hfz177_1); (try clear hfz177_2); (try clear hfz177_3); (try clear hfz177_4); (try clear hfz182_0); (try clear hfz182_1); (try clear hfz182_2); (try clear hfz182_3); (try clear hfz182_4); obtain ⟨kq, x100_135, rfl, HA, HJ135, HO_295004, HO_303004, HO_317004, HO_353004, BK270, BK271, BK294, BK302, BK316, BK352, HB⟩ := hcut
             have hl317004_135 := (Kd.R_reads' HO_317004.out).1
             rw [hl317004_135] at HO_317004
             (try simp only [hl317004_135])
             (try simp only [hl317004_135] at BK270)
             (try simp only [hl317004_135] at BK271)
             (try simp only [hl317004_135] at BK294)
             (try simp only [hl317004_135] at BK302)
             (try simp only [hl317004_135] at BK316)
             (try simp only [hl317004_135] at BK352)
             (try simp only [hl317004_135] at HO_295004)
             (try simp only [hl317004_135] at HO_303004)
             (try simp only [hl317004_135] at HO_353004)
             cases kq with
             | zero => exact absurd HA.out (by simp [laws_FnExactWalStep.j2])
             | succ kj135 =>
              have H := HA.out; clear HA; simp only [laws_FnExactWalStep.j2] at H
              by_cases c184 : x100_135 = true
              ·subst c184
               have H1 : (none) = some r := by rw [if_pos rfl] at H; exact H
               clear H; have H := H1
               clear H1; exact absurd H (by simp)
              ·replace c184 := Bool.eq_false_iff.mpr c184
               subst c184
               have H1 : ((laws_heldWal.f kj135 t308 t309 t310 t311 t330 1).bind fun t354 => (if t354 < 0 then (none) else (if t354 = t329 then (some true) else (none)))) = some r := by rw [if_neg (show ¬ (false = true) by decide)] at H; exact H
               clear H; have H := H1
               clear H1; replace H := Option.bind_eq_some_iff.mp H
               obtain ⟨t354, A1850, H⟩ := H
               replace H : (if t354 < 0 then (none) else (if t354 = t329 then (some true) else (none))) = some r := H
               have A185 := Aside0.mk A1850
               clear A1850
               by_cases c186 : t354 < 0
               ·rw [if_pos c186] at H
                exact absurd H (by simp)
               ·rw [if_neg c186] at H
                have c186b0 : decide (t354 < 0) = false := decide_eq_false c186
                clear c186
                by_cases c187 : t354 = t329
                ·rw [if_pos c187] at H
                 have c187b0 : (t354 == t329) = true := beq_iff_eq.mpr c187
                 have c187b1 : (t354 != t329) = false := bne_eq_false_iff_eq.mpr c187
                 clear c187; obtain rfl := Option.some.inj H
                 have hnb188 := NB316_270.out; have hnc188 := NB270_316.out; have hnb189 := NB316_271.out; have hnc189 := NB271_316.out; have hnb190 := NB316_294.out; have hnc190 := NB294_316.out; have hnb191 := NB316_302.out; have hnc191 := NB302_316.out; have hnb192 := NB316_352.out; have hnc192 := NB352_316.out; obtain ⟨hcz193_0, hcz193_1, hcz193_2, hcz193_3, hcz193_4⟩ := cs5 BK316; obtain ⟨hfz193_0, hfz193_1, hfz193_2, hfz193_3, hfz193_4⟩ := fs5 BK316
                 go_wp2_with (first | ((with_reducible refine gate_callee (f := 43) rfl ?_); refine goesL_ (some 103) rfl rfl Try.func43 (by kernel_rfl) rfl #[.agg #[.int .i64 t308, .int .i64 t309, .int .i64 t310, .int .i64 t311, .slice Ao65 t330.length co65], .int .i64 1] rfl (by (try simp only [List.map_toArray, List.map_cons, List.map_nil]); first | done | rfl | (simp only [List.length_drop, List.length_take]; rfl)) ?_; (with_reducible refine (laws_heldWal.calls kj135 t308 t309 t310 t311 _ _ t330 1 t354 _ ?side1 ?side2 A185.out).mono ?_); (case side1 => repeat (first | exact (Kd.R_reads' HO_317004.out).2.2 | (with_reducible refine Kd.C_alloc ?_ _) | (with_reducible refine Kd.C_drewN ?_ _) | (with_reducible refine Kd.C_drew ?_))); (case side2 => exact (Kd.R_reads' HO_317004.out).2.1); rintro e w194 ⟨rfl, hb⟩; refine ⟨_, rfl, ?_⟩; have n10_ := Aside0.mk (below_step (be HB) hb); replace HO_295004 := Aside0.mk (Kd.R_below (rr HO_295004) hb); replace HO_303004 := Aside0.mk (Kd.R_below (rr HO_303004) hb); replace HO_317004 := Aside0.mk (Kd.R_below (rr HO_317004) hb); replace HO_353004 := Aside0.mk (Kd.R_below (rr HO_353004) hb); replace BK270 := bq BK270 hb; replace BK271 := bq BK271 hb; replace BK294 := bq BK294 hb; replace BK302 := bq BK302 hb; replace BK316 := bq BK316 hb; replace BK352 := bq BK352 hb; clear HB; have HB := n10_; clear n10_; (try clear hb); (try clear hb2); (try clear hk); (try clear hi)))
                 go_ret
                 exact ⟨by first | rfl | (simp [errW_none, errW_some] <;> rfl) | (simp [*, errW_none, errW_some] <;> rfl), by repeat (first | (with_reducible first | exact HB.out | apply below_alloc | apply pw_below_drewN | apply below_drew1 | refine below_set ?_ GE270.out | refine below_set ?_ GE271.out | refine below_set ?_ GE294.out | refine below_set ?_ GE302.out | refine below_set ?_ GE316.out | refine below_set ?_ GE352.out) | exact HB.out)⟩
                ·rw [if_neg c187] at H
                 exact absurd H (by simp)
           ·rw [if_neg c132] at H
            exact absurd H (by simp)
      ·replace c92 := Bool.eq_false_iff.mpr c92
       subst c92
       have H1 : (none) = some r := by rw [if_neg (show ¬ (false = true) by decide)] at H; exact H
       clear H; have H := H1
       clear H1; exact absurd H (by simp)

/-- THE ONE PURE STATEMENT of laws_FnExactWalStep. -/
def laws_FnExactWalStep.Pure : Prop := ∀ (a0_0 : Int) (a0_1 : Int) (a0_2 : Int) (a0_3 : Int) (l0_4 : List (S148)) (a1_0 : Int) (a1_1 : Int) (a1_2 : Int) (a1_3 : Int) (a1_4 : ByteArray), (Lit.int .i64 a0_0).wf = true → (Lit.int .i64 a0_1).wf = true → (Lit.int .i64 a0_2).wf = true → (Lit.int .i64 a0_3).wf = true → (l0_4.length ≤ 9223372036854775807 ∧ ∀ y ∈ l0_4, ((Lit.int .i64 y.f0).wf = true ∧ y.f1.size ≤ 9223372036854775807)) → (Lit.int .i64 a1_0).wf = true → (Lit.int .i64 a1_1).wf = true → (Lit.int .i64 a1_2).wf = true → (Lit.int .i64 a1_3).wf = true → a1_4.size ≤ 9223372036854775807 → ∃ k, laws_FnExactWalStep.f k a0_0 a0_1 a0_2 a0_3 l0_4 a1_0 a1_1 a1_2 a1_3 a1_4 = some true

end Go.Proofs.Ytopnfbnfmaghaaa.PFnExactWalStep
