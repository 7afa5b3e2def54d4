-- The machine side of a law: written by a program of this session (wip/tools), a turned print.
import Derived.Test.YtopnfbnfmaghaaaPFnExactChangesx0
import Derived.Test.YtopnfbnfmaghaaaPFnExactChangesx3
import Derived.Test.YtopnfbnfmaghaaaPFnExactChangesx4
import Derived.Test.YtopnfbnfmaghaaaPFnExactChangesx7
import Derived.Test.YtopnfbnfmaghaaaPFnExactChangesx11
import Derived.Test.YtopnfbnfmaghaaaPFnExactChangesx12
namespace Go.Proofs.Ytopnfbnfmaghaaa.PFnExactChanges
open Go.RowKit Go.Proofs.YtopnfbnfmaghaaaW.PrintWords Go.Proofs.YtopnfbnfmaghaaaW.PrintLast Go.Proofs.YtopnfbnfmaghaaaW.PrintMore
attribute [local go_sem] max2_int min2_int max_two min_two max_three min_three max_four min_four   -- for this text's walks alone
set_option linter.unusedVariables false
set_option linter.unusedSimpArgs false

/-! ### laws_FnExactChanges: function 13 -/
mutual
def laws_FnExactChanges.j0 : Nat → List (S44) → Bool → List (S44) → Bool → Bool → Int → Int → Int → Int → List (S148) → Int → Int → Int → Int → List (S148) → Int → Int → Int → Int → List (S125) → Int → Int → Int → Int → List (S125) → Option (Bool)
 | 0, _, _, _, _, _, _, _, _, _, _, _, _, _, _, _, _, _, _, _, _, _, _, _, _, _ => none
 | k + 1, x6, x7, x10, x11, x53, x301000, x301001, x301002, x301003, x301004, x302000, x302001, x302002, x302003, x302004, x330000, x330001, x330002, x330003, x330004, x338000, x338001, x338002, x338003, x338004 => if x53 = true then (none) else ((laws_toWal.f k x301000 x301001 x301002 x301003 x301004).bind fun bt343 => ((laws_eqWal.f k x330000 x330001 x330002 x330003 x330004 bt343.1 bt343.2.1 bt343.2.2.1 bt343.2.2.2.1 bt343.2.2.2.2).bind fun t350 => (if t350 = true then ((laws_toWal.f k x302000 x302001 x302002 x302003 x302004).bind fun bt351 => ((laws_eqWal.f k x338000 x338001 x338002 x338003 x338004 bt351.1 bt351.2.1 bt351.2.2.1 bt351.2.2.2.1 bt351.2.2.2.2).bind fun t358 => (if t358 = true then ((laws_markWal.f k x330000 x330001 x330002 x330003 x330004 1).bind fun bt359 => ((laws_markWal.f k x338000 x338001 x338002 x338003 x338004 bt359.1).bind fun bt361 => (if bt361.1 < 0 then (laws_FnExactChanges.j1 k x6 x7 x10 true x301000 x301001 x301002 x301003 x301004 x302000 x302001 x302002 x302003 x302004) else ((laws_eqRecS.f k x10 x6).bind fun t363 => (if t363 = true then (laws_FnExactChanges.j1 k x6 x7 x10 (x11 != x7) x301000 x301001 x301002 x301003 x301004 x302000 x302001 x302002 x302003 x302004) else (laws_FnExactChanges.j1 k x6 x7 x10 true x301000 x301001 x301002 x301003 x301004 x302000 x302001 x302002 x302003 x302004)))))) else (none)))) else (none))))
def laws_FnExactChanges.j1 : Nat → List (S44) → Bool → List (S44) → Bool → Int → Int → Int → Int → List (S148) → Int → Int → Int → Int → List (S148) → Option (Bool)
 | 0, _, _, _, _, _, _, _, _, _, _, _, _, _, _ => none
 | k + 1, x6, x7, x10, x82, x301000, x301001, x301002, x301003, x301004, x302000, x302001, x302002, x302003, x302004 => if x82 = true then (none) else ((laws_markRecS.f k x10 1).bind fun bt364 => ((laws_heldRecS.f k bt364.2 1).bind fun t366 => (if t366 < 0 then (none) else (if t366 = bt364.1 then ((laws_toWal.f k x301000 x301001 x301002 x301003 x301004).bind fun bt367 => ((laws_toWal.f k x302000 x302001 x302002 x302003 x302004).bind fun bt374 => ((impl_Changes.f k bt367.1 bt367.2.1 bt367.2.2.1 bt367.2.2.2.1 bt367.2.2.2.2 bt374.1 bt374.2.1 bt374.2.2.1 bt374.2.2.2.1 bt374.2.2.2.2).bind fun bt381 => ((laws_eqRecS.f k bt381.1 x6).bind fun t385 => (if t385 = true then (laws_FnExactChanges.j2 k bt364.2 bt364.1 (bt381.2 != x7)) else (laws_FnExactChanges.j2 k bt364.2 bt364.1 true)))))) else (none)))))
def laws_FnExactChanges.j2 : Nat → List (S44) → Int → Bool → Option (Bool)
 | 0, _, _, _ => none
 | k + 1, x10, x13, x110 => if x110 = true then (none) else ((laws_heldRecS.f k x10 1).bind fun t386 => (if t386 < 0 then (none) else (if t386 = x13 then (some true) else (none))))
end
def laws_FnExactChanges.f (k : Nat) (a0_0 : Int) (a0_1 : Int) (a0_2 : Int) (a0_3 : Int) (l0_4 : List (S148)) (a1_0 : Int) (a1_1 : Int) (a1_2 : Int) (a1_3 : Int) (l1_4 : List (S148)) : Option (Bool) := (laws_szWal.f k a0_0 a0_1 a0_2 a0_3 l0_4 1048576).bind fun t302 => (if t302 < 0 then (some true) else ((laws_szWal.f k a1_0 a1_1 a1_2 a1_3 l1_4 t302).bind fun t303 => (if t303 < 0 then (some true) else ((laws_toWal.f k a0_0 a0_1 a0_2 a0_3 l0_4).bind fun bt304 => ((laws_toWal.f k a1_0 a1_1 a1_2 a1_3 l1_4).bind fun bt311 => ((spec_Changes.f k bt304.1 bt304.2.1 bt304.2.2.1 bt304.2.2.2.1 bt304.2.2.2.2 bt311.1 bt311.2.1 bt311.2.2.1 bt311.2.2.2.1 bt311.2.2.2.2).bind fun bt318 => ((laws_toWal.f k a0_0 a0_1 a0_2 a0_3 l0_4).bind fun bt322 => ((laws_toWal.f k a1_0 a1_1 a1_2 a1_3 l1_4).bind fun bt330 => ((impl_Changes.f k bt322.1 bt322.2.1 bt322.2.2.1 bt322.2.2.2.1 bt322.2.2.2.2 bt330.1 bt330.2.1 bt330.2.2.1 bt330.2.2.2.1 bt330.2.2.2.2).bind fun bt338 => ((laws_eqRecS.f k bt338.1 bt318.1).bind fun t342 => (if t342 = true then (laws_FnExactChanges.j0 k bt318.1 bt318.2 bt338.1 bt338.2 (bt338.2 != bt318.2) a0_0 a0_1 a0_2 a0_3 l0_4 a1_0 a1_1 a1_2 a1_3 l1_4 bt322.1 bt322.2.1 bt322.2.2.1 bt322.2.2.2.1 bt322.2.2.2.2 bt330.1 bt330.2.1 bt330.2.2.1 bt330.2.2.2.1 bt330.2.2.2.2) else (laws_FnExactChanges.j0 k bt318.1 bt318.2 bt338.1 bt338.2 true a0_0 a0_1 a0_2 a0_3 l0_4 a1_0 a1_1 a1_2 a1_3 l1_4 bt322.1 bt322.2.1 bt322.2.2.1 bt322.2.2.2.1 bt322.2.2.2.2 bt330.1 bt330.2.1 bt330.2.2.1 bt330.2.2.2.1 bt330.2.2.2.2))))))))))))
theorem laws_FnExactChanges.mono_l : ∀ k, (∀ y0 y1 y2 y3 y4 y5 y6 y7 y8 y9 y10 y11 y12 y13 y14 y15 y16 y17 y18 y19 y20 y21 y22 y23 y24, LeO (laws_FnExactChanges.j0 k y0 y1 y2 y3 y4 y5 y6 y7 y8 y9 y10 y11 y12 y13 y14 y15 y16 y17 y18 y19 y20 y21 y22 y23 y24) (laws_FnExactChanges.j0 (k + 1) y0 y1 y2 y3 y4 y5 y6 y7 y8 y9 y10 y11 y12 y13 y14 y15 y16 y17 y18 y19 y20 y21 y22 y23 y24)) ∧ (∀ y0 y1 y2 y3 y4 y5 y6 y7 y8 y9 y10 y11 y12 y13, LeO (laws_FnExactChanges.j1 k y0 y1 y2 y3 y4 y5 y6 y7 y8 y9 y10 y11 y12 y13) (laws_FnExactChanges.j1 (k + 1) y0 y1 y2 y3 y4 y5 y6 y7 y8 y9 y10 y11 y12 y13)) ∧ (∀ y0 y1 y2, LeO (laws_FnExactChanges.j2 k y0 y1 y2) (laws_FnExactChanges.j2 (k + 1) y0 y1 y2))
 | 0 => ⟨fun _ _ _ _ _ _ _ _ _ _ _ _ _ _ _ _ _ _ _ _ _ _ _ _ _ r h => by simp [laws_FnExactChanges.j0] at h, fun _ _ _ _ _ _ _ _ _ _ _ _ _ _ r h => by simp [laws_FnExactChanges.j1] at h, fun _ _ _ r h => by simp [laws_FnExactChanges.j2] at h⟩
 | k + 1 => by
  obtain ⟨ih0, ih1, ih2⟩ := laws_FnExactChanges.mono_l k
  refine ⟨?_, ?_, ?_⟩
  ·intro y0 y1 y2 y3 y4 y5 y6 y7 y8 y9 y10 y11 y12 y13 y14 y15 y16 y17 y18 y19 y20 y21 y22 y23 y24
   unfold laws_FnExactChanges.j0
   repeat' first
   | (with_reducible exact ih0 _ _ _ _ _ _ _ _ _ _ _ _ _ _ _ _ _ _ _ _ _ _ _ _ _)
   | (with_reducible exact ih1 _ _ _ _ _ _ _ _ _ _ _ _ _ _)
   | (with_reducible exact ih2 _ _ _)
   | (with_reducible exact impl_Changes.mono _ _ _ _ _ _ _ _ _ _ _)
   | (with_reducible exact laws_eqRecS.mono _ _ _)
   | (with_reducible exact laws_eqWal.mono _ _ _ _ _ _ _ _ _ _ _)
   | (with_reducible exact laws_heldRecS.mono _ _ _)
   | (with_reducible exact laws_markRecS.mono _ _ _)
   | (with_reducible exact laws_markWal.mono _ _ _ _ _ _ _)
   | (with_reducible exact laws_szWal.mono _ _ _ _ _ _ _)
   | (with_reducible exact laws_toWal.mono _ _ _ _ _ _)
   | (with_reducible exact spec_Changes.mono _ _ _ _ _ _ _ _ _ _ _)
   | (with_reducible exact LeO.refl _)
   | (with_reducible exact LeO.none _)
   | (with_reducible refine LeO.ite ?_ ?_)
   | (with_reducible refine LeO.bind ?_ (fun _ => ?_))
   | exact ih0 _ _ _ _ _ _ _ _ _ _ _ _ _ _ _ _ _ _ _ _ _ _ _ _ _
   | exact ih1 _ _ _ _ _ _ _ _ _ _ _ _ _ _
   | exact ih2 _ _ _
   | exact impl_Changes.mono _ _ _ _ _ _ _ _ _ _ _
   | exact laws_eqRecS.mono _ _ _
   | exact laws_eqWal.mono _ _ _ _ _ _ _ _ _ _ _
   | exact laws_heldRecS.mono _ _ _
   | exact laws_markRecS.mono _ _ _
   | exact laws_markWal.mono _ _ _ _ _ _ _
   | exact laws_szWal.mono _ _ _ _ _ _ _
   | exact laws_toWal.mono _ _ _ _ _ _
   | exact spec_Changes.mono _ _ _ _ _ _ _ _ _ _ _
   | exact LeO.none _
   | refine LeO.ite ?_ ?_
   | refine LeO.bind ?_ (fun _ => ?_)
  ·intro y0 y1 y2 y3 y4 y5 y6 y7 y8 y9 y10 y11 y12 y13
   unfold laws_FnExactChanges.j1
   repeat' first
   | (with_reducible exact ih0 _ _ _ _ _ _ _ _ _ _ _ _ _ _ _ _ _ _ _ _ _ _ _ _ _)
   | (with_reducible exact ih1 _ _ _ _ _ _ _ _ _ _ _ _ _ _)
   | (with_reducible exact ih2 _ _ _)
   | (with_reducible exact impl_Changes.mono _ _ _ _ _ _ _ _ _ _ _)
   | (with_reducible exact laws_eqRecS.mono _ _ _)
   | (with_reducible exact laws_eqWal.mono _ _ _ _ _ _ _ _ _ _ _)
   | (with_reducible exact laws_heldRecS.mono _ _ _)
   | (with_reducible exact laws_markRecS.mono _ _ _)
   | (with_reducible exact laws_markWal.mono _ _ _ _ _ _ _)
   | (with_reducible exact laws_szWal.mono _ _ _ _ _ _ _)
   | (with_reducible exact laws_toWal.mono _ _ _ _ _ _)
   | (with_reducible exact spec_Changes.mono _ _ _ _ _ _ _ _ _ _ _)
   | (with_reducible exact LeO.refl _)
   | (with_reducible exact LeO.none _)
   | (with_reducible refine LeO.ite ?_ ?_)
   | (with_reducible refine LeO.bind ?_ (fun _ => ?_))
   | exact ih0 _ _ _ _ _ _ _ _ _ _ _ _ _ _ _ _ _ _ _ _ _ _ _ _ _
   | exact ih1 _ _ _ _ _ _ _ _ _ _ _ _ _ _
   | exact ih2 _ _ _
   | exact impl_Changes.mono _ _ _ _ _ _ _ _ _ _ _
   | exact laws_eqRecS.mono _ _ _
   | exact laws_eqWal.mono _ _ _ _ _ _ _ _ _ _ _
   | exact laws_heldRecS.mono _ _ _
   | exact laws_markRecS.mono _ _ _
   | exact laws_markWal.mono _ _ _ _ _ _ _
   | exact laws_szWal.mono _ _ _ _ _ _ _
   | exact laws_toWal.mono _ _ _ _ _ _
   | exact spec_Changes.mono _ _ _ _ _ _ _ _ _ _ _
   | exact LeO.none _
   | refine LeO.ite ?_ ?_
   | refine LeO.bind ?_ (fun _ => ?_)
  ·intro y0 y1 y2
   unfold laws_FnExactChanges.j2
   repeat' first
   | (with_reducible exact ih0 _ _ _ _ _ _ _ _ _ _ _ _ _ _ _ _ _ _ _ _ _ _ _ _ _)
   | (with_reducible exact ih1 _ _ _ _ _ _ _ _ _ _ _ _ _ _)
   | (with_reducible exact ih2 _ _ _)
   | (with_reducible exact impl_Changes.mono _ _ _ _ _ _ _ _ _ _ _)
   | (with_reducible exact laws_eqRecS.mono _ _ _)
   | (with_reducible exact laws_eqWal.mono _ _ _ _ _ _ _ _ _ _ _)
   | (with_reducible exact laws_heldRecS.mono _ _ _)
   | (with_reducible exact laws_markRecS.mono _ _ _)
   | (with_reducible exact laws_markWal.mono _ _ _ _ _ _ _)
   | (with_reducible exact laws_szWal.mono _ _ _ _ _ _ _)
   | (with_reducible exact laws_toWal.mono _ _ _ _ _ _)
   | (with_reducible exact spec_Changes.mono _ _ _ _ _ _ _ _ _ _ _)
   | (with_reducible exact LeO.refl _)
   | (with_reducible exact LeO.none _)
   | (with_reducible refine LeO.ite ?_ ?_)
   | (with_reducible refine LeO.bind ?_ (fun _ => ?_))
   | exact ih0 _ _ _ _ _ _ _ _ _ _ _ _ _ _ _ _ _ _ _ _ _ _ _ _ _
   | exact ih1 _ _ _ _ _ _ _ _ _ _ _ _ _ _
   | exact ih2 _ _ _
   | exact impl_Changes.mono _ _ _ _ _ _ _ _ _ _ _
   | exact laws_eqRecS.mono _ _ _
   | exact laws_eqWal.mono _ _ _ _ _ _ _ _ _ _ _
   | exact laws_heldRecS.mono _ _ _
   | exact laws_markRecS.mono _ _ _
   | exact laws_markWal.mono _ _ _ _ _ _ _
   | exact laws_szWal.mono _ _ _ _ _ _ _
   | exact laws_toWal.mono _ _ _ _ _ _
   | exact spec_Changes.mono _ _ _ _ _ _ _ _ _ _ _
   | exact LeO.none _
   | refine LeO.ite ?_ ?_
   | refine LeO.bind ?_ (fun _ => ?_)
theorem laws_FnExactChanges.mono : ∀ a0 a1 a2 a3 a4 a5 a6 a7 a8 a9 k, LeO (laws_FnExactChanges.f k a0 a1 a2 a3 a4 a5 a6 a7 a8 a9) (laws_FnExactChanges.f (k + 1) a0 a1 a2 a3 a4 a5 a6 a7 a8 a9) := by
 intro a0 a1 a2 a3 a4 a5 a6 a7 a8 a9 k
 obtain ⟨ih0, ih1, ih2⟩ := laws_FnExactChanges.mono_l k
 unfold laws_FnExactChanges.f
 repeat' first
   | (with_reducible exact ih0 _ _ _ _ _ _ _ _ _ _ _ _ _ _ _ _ _ _ _ _ _ _ _ _ _)
   | (with_reducible exact ih1 _ _ _ _ _ _ _ _ _ _ _ _ _ _)
   | (with_reducible exact ih2 _ _ _)
   | (with_reducible exact impl_Changes.mono _ _ _ _ _ _ _ _ _ _ _)
   | (with_reducible exact laws_eqRecS.mono _ _ _)
   | (with_reducible exact laws_eqWal.mono _ _ _ _ _ _ _ _ _ _ _)
   | (with_reducible exact laws_heldRecS.mono _ _ _)
   | (with_reducible exact laws_markRecS.mono _ _ _)
   | (with_reducible exact laws_markWal.mono _ _ _ _ _ _ _)
   | (with_reducible exact laws_szWal.mono _ _ _ _ _ _ _)
   | (with_reducible exact laws_toWal.mono _ _ _ _ _ _)
   | (with_reducible exact spec_Changes.mono _ _ _ _ _ _ _ _ _ _ _)
   | (with_reducible exact LeO.refl _)
   | (with_reducible exact LeO.none _)
   | (with_reducible refine LeO.ite ?_ ?_)
   | (with_reducible refine LeO.bind ?_ (fun _ => ?_))
   | exact ih0 _ _ _ _ _ _ _ _ _ _ _ _ _ _ _ _ _ _ _ _ _ _ _ _ _
   | exact ih1 _ _ _ _ _ _ _ _ _ _ _ _ _ _
   | exact ih2 _ _ _
   | exact impl_Changes.mono _ _ _ _ _ _ _ _ _ _ _
   | exact laws_eqRecS.mono _ _ _
   | exact laws_eqWal.mono _ _ _ _ _ _ _ _ _ _ _
   | exact laws_heldRecS.mono _ _ _
   | exact laws_markRecS.mono _ _ _
   | exact laws_markWal.mono _ _ _ _ _ _ _
   | exact laws_szWal.mono _ _ _ _ _ _ _
   | exact laws_toWal.mono _ _ _ _ _ _
   | exact spec_Changes.mono _ _ _ _ _ _ _ _ _ _ _
   | exact LeO.none _
   | refine LeO.ite ?_ ?_
   | refine LeO.bind ?_ (fun _ => ?_)
def laws_FnExactChanges.T8 : Bool × List (List Nat × List Nat) := (true, [([], []), ([0], [0]), ([], []), ([2, 1], [2]), ([1, 3, 3], [1, 3]), ([4], [4]), ([5], [5]), ([5], [5]), ([6, 4, 0, 1, 2, 3, 4, 5, 6], [6]), ([7, 8, 0, 1, 2, 3, 4, 5, 6, 7, 8], [7])])
def laws_FnExactChanges.B8 : List Nat := [0, 1, 0, 7, 15, 31, 63, 63, 127, 511]
theorem laws_FnExactChanges.tab8 : rtab .any (opsOf Try.f13 8) = laws_FnExactChanges.T8 := by kernel_rfl
theorem laws_FnExactChanges.bits8 : waitsOk laws_FnExactChanges.T8.2 laws_FnExactChanges.B8 = true := by kernel_rfl
def laws_FnExactChanges.T31 : Bool × List (List Nat × List Nat) := (true, [([], []), ([0], [0]), ([], []), ([2, 1], [2]), ([1, 3, 3], [1, 3]), ([4], [4]), ([5], [5]), ([5], [5]), ([6, 4, 0, 1, 2, 3, 4, 5, 6], [6]), ([7, 8, 0, 1, 2, 3, 4, 5, 6, 7, 8], [7])])
def laws_FnExactChanges.B31 : List Nat := [0, 1, 0, 7, 15, 31, 63, 63, 127, 511]
theorem laws_FnExactChanges.tab31 : rtab .any (opsOf Try.f13 31) = laws_FnExactChanges.T31 := by kernel_rfl
theorem laws_FnExactChanges.bits31 : waitsOk laws_FnExactChanges.T31.2 laws_FnExactChanges.B31 = true := by kernel_rfl
set_option maxHeartbeats 8000000 in
set_option maxRecDepth 100000 in
theorem laws_FnExactChanges.calls (k : Nat) (a0_0 : Int) (a0_1 : Int) (a0_2 : Int) (a0_3 : Int) (A0_4 : Option Addr) (c0_4 : Nat) (l0_4 : List (S148)) (a1_0 : Int) (a1_1 : Int) (a1_2 : Int) (a1_3 : Int) (A1_4 : Option Addr) (c1_4 : Nat) (l1_4 : List (S148)) (r : Bool) (w : World) (hr0_4 : Kd.C k148 w A0_4 l0_4.length l0_4) (hc0_4 : l0_4.length ≤ c0_4) (hr1_4 : Kd.C k148 w A1_4 l1_4.length l1_4) (hc1_4 : l1_4.length ≤ c1_4) (h : laws_FnExactChanges.f k a0_0 a0_1 a0_2 a0_3 l0_4 a1_0 a1_1 a1_2 a1_3 l1_4 = some r) :
  Calls Try.prog 13 #[.agg #[.int .i64 a0_0, .int .i64 a0_1, .int .i64 a0_2, .int .i64 a0_3, .slice A0_4 l0_4.length c0_4], .agg #[.int .i64 a1_0, .int .i64 a1_1, .int .i64 a1_2, .int .i64 a1_3, .slice A1_4 l1_4.length c1_4]] w fun e w' => e = .returned (.bool r) ∧ Below w.heap.size w w' := by
 have hu56 := Try.underlying56
 have hu62 := Try.underlying62
 have HR0_4 := Aside0.mk hr0_4
 have HC0_4 := Aside0.mk hc0_4
 clear hr0_4 hc0_4; have HR1_4 := Aside0.mk hr1_4
 have HC1_4 := Aside0.mk hc1_4
 clear hr1_4 hc1_4; have HB := Aside0.mk (Below.refl w.heap.size w)
 have H : ((laws_szWal.f k a0_0 a0_1 a0_2 a0_3 l0_4 1048576).bind fun t302 => (if t302 < 0 then (some true) else ((laws_szWal.f k a1_0 a1_1 a1_2 a1_3 l1_4 t302).bind fun t303 => (if t303 < 0 then (some true) else ((laws_toWal.f k a0_0 a0_1 a0_2 a0_3 l0_4).bind fun bt304 => ((laws_toWal.f k a1_0 a1_1 a1_2 a1_3 l1_4).bind fun bt311 => ((spec_Changes.f k bt304.1 bt304.2.1 bt304.2.2.1 bt304.2.2.2.1 bt304.2.2.2.2 bt311.1 bt311.2.1 bt311.2.2.1 bt311.2.2.2.1 bt311.2.2.2.2).bind fun bt318 => ((laws_toWal.f k a0_0 a0_1 a0_2 a0_3 l0_4).bind fun bt322 => ((laws_toWal.f k a1_0 a1_1 a1_2 a1_3 l1_4).bind fun bt330 => ((impl_Changes.f k bt322.1 bt322.2.1 bt322.2.2.1 bt322.2.2.2.1 bt322.2.2.2.2 bt330.1 bt330.2.1 bt330.2.2.1 bt330.2.2.2.1 bt330.2.2.2.2).bind fun bt338 => ((laws_eqRecS.f k bt338.1 bt318.1).bind fun t342 => (if t342 = true then (laws_FnExactChanges.j0 k bt318.1 bt318.2 bt338.1 bt338.2 (bt338.2 != bt318.2) a0_0 a0_1 a0_2 a0_3 l0_4 a1_0 a1_1 a1_2 a1_3 l1_4 bt322.1 bt322.2.1 bt322.2.2.1 bt322.2.2.2.1 bt322.2.2.2.2 bt330.1 bt330.2.1 bt330.2.2.1 bt330.2.2.2.1 bt330.2.2.2.2) else (laws_FnExactChanges.j0 k bt318.1 bt318.2 bt338.1 bt338.2 true a0_0 a0_1 a0_2 a0_3 l0_4 a1_0 a1_1 a1_2 a1_3 l1_4 bt322.1 bt322.2.1 bt322.2.2.1 bt322.2.2.2.1 bt322.2.2.2.2 bt330.1 bt330.2.1 bt330.2.2.1 bt330.2.2.2.1 bt330.2.2.2.2))))))))))))) = some r := h
 clear h; replace H := Option.bind_eq_some_iff.mp H
 obtain ⟨t302, A30, H⟩ := H
 replace H : (if t302 < 0 then (some true) else ((laws_szWal.f k a1_0 a1_1 a1_2 a1_3 l1_4 t302).bind fun t303 => (if t303 < 0 then (some true) else ((laws_toWal.f k a0_0 a0_1 a0_2 a0_3 l0_4).bind fun bt304 => ((laws_toWal.f k a1_0 a1_1 a1_2 a1_3 l1_4).bind fun bt311 => ((spec_Changes.f k bt304.1 bt304.2.1 bt304.2.2.1 bt304.2.2.2.1 bt304.2.2.2.2 bt311.1 bt311.2.1 bt311.2.2.1 bt311.2.2.2.1 bt311.2.2.2.2).bind fun bt318 => ((laws_toWal.f k a0_0 a0_1 a0_2 a0_3 l0_4).bind fun bt322 => ((laws_toWal.f k a1_0 a1_1 a1_2 a1_3 l1_4).bind fun bt330 => ((impl_Changes.f k bt322.1 bt322.2.1 bt322.2.2.1 bt322.2.2.2.1 bt322.2.2.2.2 bt330.1 bt330.2.1 bt330.2.2.1 bt330.2.2.2.1 bt330.2.2.2.2).bind fun bt338 => ((laws_eqRecS.f k bt338.1 bt318.1).bind fun t342 => (if t342 = true then (laws_FnExactChanges.j0 k bt318.1 bt318.2 bt338.1 bt338.2 (bt338.2 != bt318.2) a0_0 a0_1 a0_2 a0_3 l0_4 a1_0 a1_1 a1_2 a1_3 l1_4 bt322.1 bt322.2.1 bt322.2.2.1 bt322.2.2.2.1 bt322.2.2.2.2 bt330.1 bt330.2.1 bt330.2.2.1 bt330.2.2.2.1 bt330.2.2.2.2) else (laws_FnExactChanges.j0 k bt318.1 bt318.2 bt338.1 bt338.2 true a0_0 a0_1 a0_2 a0_3 l0_4 a1_0 a1_1 a1_2 a1_3 l1_4 bt322.1 bt322.2.1 bt322.2.2.1 bt322.2.2.2.1 bt322.2.2.2.2 bt330.1 bt330.2.1 bt330.2.2.1 bt330.2.2.2.1 bt330.2.2.2.2)))))))))))) = some r := H
 have A3 := Aside0.mk A30
 clear A30
 by_cases c4 : t302 < 0
 ·rw [if_pos c4] at H
  have c4b0 : decide (t302 < 0) = true := decide_eq_true c4
  clear c4; obtain rfl := Option.some.inj H
  go_enter Try.func13, Try.ntmps13
  go_wp2_with (first | ((with_reducible refine gate_dst (N := 2) rfl ?_); refine box_event ?hg (N := 2) ?hd (cs := #[.int .i64 a0_0, .int .i64 a0_1, .int .i64 a0_2, .int .i64 a0_3, .slice A0_4 l0_4.length c0_4]) (t := 56) ?hr ?_; (case hd => rfl); (case hg => rfl); (case hr => first | (go_simp; done) | (go_simp; rfl)); intro gb300 hg w5 hbox hb; have n0_ := Aside0.mk (below_step (be HB) hb); have BK300 := Aside0.mk (hbox); have GW300 := bs HB hg; have GE300 := bs HB hg; clear HB; have HB := n0_; clear n0_; clear hb hbox hg) | ((with_reducible refine gate_dst (N := 3) rfl ?_); refine box_event ?hg (N := 3) ?hd (cs := #[.int .i64 a1_0, .int .i64 a1_1, .int .i64 a1_2, .int .i64 a1_3, .slice A1_4 l1_4.length c1_4]) (t := 56) ?hr ?_; (case hd => rfl); (case hg => rfl); (case hr => first | (go_simp; done) | (go_simp; rfl)); intro gb301 hg w6 hbox hb; have n1_ := Aside0.mk (below_step (be HB) hb); have BK301 := Aside0.mk (hbox); have GW301 := bs HB hg; have GE301 := bs HB hg; have NB300_301 := bl BK300 hg; have NB301_300 := bg BK300 hg; replace BK300 := bq BK300 hb; clear HB; have HB := n1_; clear n1_; clear hb hbox hg; have hnb7 := NB300_301.out; have hnc7 := NB301_300.out; obtain ⟨hcz8_0, hcz8_1, hcz8_2, hcz8_3, hcz8_4⟩ := cs5 BK300; obtain ⟨hfz8_0, hfz8_1, hfz8_2, hfz8_3, hfz8_4⟩ := fs5 BK300) | ((with_reducible refine gate_callee (f := 35) rfl ?_); refine goesL_ (some 19) rfl rfl Try.func35 (by kernel_rfl) rfl #[.agg #[.int .i64 a0_0, .int .i64 a0_1, .int .i64 a0_2, .int .i64 a0_3, .slice A0_4 l0_4.length c0_4], .int .i64 1048576] rfl (by (try simp only [List.map_toArray, List.map_cons, List.map_nil]); first | done | rfl | (simp only [List.length_drop, List.length_take]; rfl)) ?_; (with_reducible refine (laws_szWal.calls k a0_0 a0_1 a0_2 a0_3 _ _ l0_4 1048576 t302 _ ?side1 ?side2 A3.out).mono ?_); (case side1 => repeat (first | exact (Kd.C_below HR0_4.out HB.out) | (with_reducible refine Kd.C_alloc ?_ _) | (with_reducible refine Kd.C_drewN ?_ _) | (with_reducible refine Kd.C_drew ?_))); (case side2 => exact HC0_4.out); rintro e w9 ⟨rfl, hb⟩; refine ⟨_, rfl, ?_⟩; have n2_ := Aside0.mk (below_step (be HB) hb); replace BK300 := bq BK300 hb; replace BK301 := bq BK301 hb; clear HB; have HB := n2_; clear n2_; (try clear hb); (try clear hb2); (try clear hk); (try clear hi)))
  go_ret
  exact ⟨by first | rfl | (simp [errW_none, errW_some] <;> rfl) | (simp [*, errW_none, errW_some] <;> rfl), by repeat (first | (with_reducible first | exact HB.out | apply below_alloc | apply pw_below_drewN | apply below_drew1 | refine below_set ?_ GE300.out | refine below_set ?_ GE301.out) | exact HB.out)⟩
 ·rw [if_neg c4] at H
  have c4b0 : decide (t302 < 0) = false := decide_eq_false c4
  clear c4; replace H := Option.bind_eq_some_iff.mp H
  obtain ⟨t303, A100, H⟩ := H
  replace H : (if t303 < 0 then (some true) else ((laws_toWal.f k a0_0 a0_1 a0_2 a0_3 l0_4).bind fun bt304 => ((laws_toWal.f k a1_0 a1_1 a1_2 a1_3 l1_4).bind fun bt311 => ((spec_Changes.f k bt304.1 bt304.2.1 bt304.2.2.1 bt304.2.2.2.1 bt304.2.2.2.2 bt311.1 bt311.2.1 bt311.2.2.1 bt311.2.2.2.1 bt311.2.2.2.2).bind fun bt318 => ((laws_toWal.f k a0_0 a0_1 a0_2 a0_3 l0_4).bind fun bt322 => ((laws_toWal.f k a1_0 a1_1 a1_2 a1_3 l1_4).bind fun bt330 => ((impl_Changes.f k bt322.1 bt322.2.1 bt322.2.2.1 bt322.2.2.2.1 bt322.2.2.2.2 bt330.1 bt330.2.1 bt330.2.2.1 bt330.2.2.2.1 bt330.2.2.2.2).bind fun bt338 => ((laws_eqRecS.f k bt338.1 bt318.1).bind fun t342 => (if t342 = true then (laws_FnExactChanges.j0 k bt318.1 bt318.2 bt338.1 bt338.2 (bt338.2 != bt318.2) a0_0 a0_1 a0_2 a0_3 l0_4 a1_0 a1_1 a1_2 a1_3 l1_4 bt322.1 bt322.2.1 bt322.2.2.1 bt322.2.2.2.1 bt322.2.2.2.2 bt330.1 bt330.2.1 bt330.2.2.1 bt330.2.2.2.1 bt330.2.2.2.2) else (laws_FnExactChanges.j0 k bt318.1 bt318.2 bt338.1 bt338.2 true a0_0 a0_1 a0_2 a0_3 l0_4 a1_0 a1_1 a1_2 a1_3 l1_4 bt322.1 bt322.2.1 bt322.2.2.1 bt322.2.2.2.1 bt322.2.2.2.2 bt330.1 bt330.2.1 bt330.2.2.1 bt330.2.2.2.1 bt330.2.2.2.2)))))))))) = some r := H
  have A10 := Aside0.mk A100
  clear A100
  by_cases c11 : t303 < 0
  ·rw [if_pos c11] at H
   have c11b0 : decide (t303 < 0) = true := decide_eq_true c11
   clear c11; obtain rfl := Option.some.inj H
   go_enter Try.func13, Try.ntmps13
   go_wp2_with (first | ((with_reducible refine gate_dst (N := 2) rfl ?_); refine box_event ?hg (N := 2) ?hd (cs := #[.int .i64 a0_0, .int .i64 a0_1, .int .i64 a0_2, .int .i64 a0_3, .slice A0_4 l0_4.length c0_4]) (t := 56) ?hr ?_; (case hd => rfl); (case hg => rfl); (case hr => first | (go_simp; done) | (go_simp; rfl)); intro gb300 hg w12 hbox hb; have n0_ := Aside0.mk (below_step (be HB) hb); have BK300 := Aside0.mk (hbox); have GW300 := bs HB hg; have GE300 := bs HB hg; clear HB; have HB := n0_; clear n0_; clear hb hbox hg) | ((with_reducible refine gate_dst (N := 3) rfl ?_); refine box_event ?hg (N := 3) ?hd (cs := #[.int .i64 a1_0, .int .i64 a1_1, .int .i64 a1_2, .int .i64 a1_3, .slice A1_4 l1_4.length c1_4]) (t := 56) ?hr ?_; (case hd => rfl); (case hg => rfl); (case hr => first | (go_simp; done) | (go_simp; rfl)); intro gb301 hg w13 hbox hb; have n1_ := Aside0.mk (below_step (be HB) hb); have BK301 := Aside0.mk (hbox); have GW301 := bs HB hg; have GE301 := bs HB hg; have NB300_301 := bl BK300 hg; have NB301_300 := bg BK300 hg; replace BK300 := bq BK300 hb; clear HB; have HB := n1_; clear n1_; clear hb hbox hg; have hnb14 := NB300_301.out; have hnc14 := NB301_300.out; obtain ⟨hcz15_0, hcz15_1, hcz15_2, hcz15_3, hcz15_4⟩ := cs5 BK300; obtain ⟨hfz15_0, hfz15_1, hfz15_2, hfz15_3, hfz15_4⟩ := fs5 BK300) | ((with_reducible refine gate_callee (f := 35) rfl ?_); refine goesL_ (some 19) rfl rfl Try.func35 (by kernel_rfl) rfl #[.agg #[.int .i64 a0_0, .int .i64 a0_1, .int .i64 a0_2, .int .i64 a0_3, .slice A0_4 l0_4.length c0_4], .int .i64 1048576] rfl (by (try simp only [List.map_toArray, List.map_cons, List.map_nil]); first | done | rfl | (simp only [List.length_drop, List.length_take]; rfl)) ?_; (with_reducible refine (laws_szWal.calls k a0_0 a0_1 a0_2 a0_3 _ _ l0_4 1048576 t302 _ ?side1 ?side2 A3.out).mono ?_); (case side1 => repeat (first | exact (Kd.C_below HR0_4.out HB.out) | (with_reducible refine Kd.C_alloc ?_ _) | (with_reducible refine Kd.C_drewN ?_ _) | (with_reducible refine Kd.C_drew ?_))); (case side2 => exact HC0_4.out); rintro e w16 ⟨rfl, hb⟩; refine ⟨_, rfl, ?_⟩; have n2_ := Aside0.mk (below_step (be HB) hb); replace BK300 := bq BK300 hb; replace BK301 := bq BK301 hb; clear HB; have HB := n2_; clear n2_; (try clear hb); (try clear hb2); (try clear hk); (try clear hi); obtain ⟨hcz17_0, hcz17_1, hcz17_2, hcz17_3, hcz17_4⟩ := cs5 BK301; obtain ⟨hfz17_0, hfz17_1, hfz17_2, hfz17_3, hfz17_4⟩ := fs5 BK301) | ((with_reducible refine gate_callee (f := 35) rfl ?_); refine goesL_ (some 24) rfl rfl Try.func35 (by kernel_rfl) rfl #[.agg #[.int .i64 a1_0, .int .i64 a1_1, .int .i64 a1_2, .int .i64 a1_3, .slice A1_4 l1_4.length c1_4], .int .i64 t302] rfl (by (try simp only [List.map_toArray, List.map_cons, List.map_nil]); first | done | rfl | (simp only [List.length_drop, List.length_take]; rfl)) ?_; (with_reducible refine (laws_szWal.calls k a1_0 a1_1 a1_2 a1_3 _ _ l1_4 t302 t303 _ ?side1 ?side2 A10.out).mono ?_); (case side1 => repeat (first | exact (Kd.C_below HR1_4.out HB.out) | (with_reducible refine Kd.C_alloc ?_ _) | (with_reducible refine Kd.C_drewN ?_ _) | (with_reducible refine Kd.C_drew ?_))); (case side2 => exact HC1_4.out); rintro e w18 ⟨rfl, hb⟩; refine ⟨_, rfl, ?_⟩; have n2_ := Aside0.mk (below_step (be HB) hb); replace BK300 := bq BK300 hb; replace BK301 := bq BK301 hb; clear HB; have HB := n2_; clear n2_; (try clear hb); (try clear hb2); (try clear hk); (try clear hi)))
   go_ret
   exact ⟨by first | rfl | (simp [errW_none, errW_some] <;> rfl) | (simp [*, errW_none, errW_some] <;> rfl), by repeat (first | (with_reducible first | exact HB.out | apply below_alloc | apply pw_below_drewN | apply below_drew1 | refine below_set ?_ GE300.out | refine below_set ?_ GE301.out) | exact HB.out)⟩
  ·rw [if_neg c11] at H
   have c11b0 : decide (t303 < 0) = false := decide_eq_false c11
   clear c11; replace H := Option.bind_eq_some_iff.mp H
   obtain ⟨⟨t304, t305, t306, t307, t308⟩, A190, H⟩ := H
   replace H : ((laws_toWal.f k a1_0 a1_1 a1_2 a1_3 l1_4).bind fun bt311 => ((spec_Changes.f k t304 t305 t306 t307 t308 bt311.1 bt311.2.1 bt311.2.2.1 bt311.2.2.2.1 bt311.2.2.2.2).bind fun bt318 => ((laws_toWal.f k a0_0 a0_1 a0_2 a0_3 l0_4).bind fun bt322 => ((laws_toWal.f k a1_0 a1_1 a1_2 a1_3 l1_4).bind fun bt330 => ((impl_Changes.f k bt322.1 bt322.2.1 bt322.2.2.1 bt322.2.2.2.1 bt322.2.2.2.2 bt330.1 bt330.2.1 bt330.2.2.1 bt330.2.2.2.1 bt330.2.2.2.2).bind fun bt338 => ((laws_eqRecS.f k bt338.1 bt318.1).bind fun t342 => (if t342 = true then (laws_FnExactChanges.j0 k bt318.1 bt318.2 bt338.1 bt338.2 (bt338.2 != bt318.2) a0_0 a0_1 a0_2 a0_3 l0_4 a1_0 a1_1 a1_2 a1_3 l1_4 bt322.1 bt322.2.1 bt322.2.2.1 bt322.2.2.2.1 bt322.2.2.2.2 bt330.1 bt330.2.1 bt330.2.2.1 bt330.2.2.2.1 bt330.2.2.2.2) else (laws_FnExactChanges.j0 k bt318.1 bt318.2 bt338.1 bt338.2 true a0_0 a0_1 a0_2 a0_3 l0_4 a1_0 a1_1 a1_2 a1_3 l1_4 bt322.1 bt322.2.1 bt322.2.2.1 bt322.2.2.2.1 bt322.2.2.2.2 bt330.1 bt330.2.1 bt330.2.2.1 bt330.2.2.2.1 bt330.2.2.2.2)))))))) = some r := H
   have A19 := Aside0.mk A190
   clear A190; replace H := Option.bind_eq_some_iff.mp H
   obtain ⟨⟨t311, t312, t313, t314, t315⟩, A200, H⟩ := H
   replace H : ((spec_Changes.f k t304 t305 t306 t307 t308 t311 t312 t313 t314 t315).bind fun bt318 => ((laws_toWal.f k a0_0 a0_1 a0_2 a0_3 l0_4).bind fun bt322 => ((laws_toWal.f k a1_0 a1_1 a1_2 a1_3 l1_4).bind fun bt330 => ((impl_Changes.f k bt322.1 bt322.2.1 bt322.2.2.1 bt322.2.2.2.1 bt322.2.2.2.2 bt330.1 bt330.2.1 bt330.2.2.1 bt330.2.2.2.1 bt330.2.2.2.2).bind fun bt338 => ((laws_eqRecS.f k bt338.1 bt318.1).bind fun t342 => (if t342 = true then (laws_FnExactChanges.j0 k bt318.1 bt318.2 bt338.1 bt338.2 (bt338.2 != bt318.2) a0_0 a0_1 a0_2 a0_3 l0_4 a1_0 a1_1 a1_2 a1_3 l1_4 bt322.1 bt322.2.1 bt322.2.2.1 bt322.2.2.2.1 bt322.2.2.2.2 bt330.1 bt330.2.1 bt330.2.2.1 bt330.2.2.2.1 bt330.2.2.2.2) else (laws_FnExactChanges.j0 k bt318.1 bt318.2 bt338.1 bt338.2 true a0_0 a0_1 a0_2 a0_3 l0_4 a1_0 a1_1 a1_2 a1_3 l1_4 bt322.1 bt322.2.1 bt322.2.2.1 bt322.2.2.2.1 bt322.2.2.2.2 bt330.1 bt330.2.1 bt330.2.2.1 bt330.2.2.2.1 bt330.2.2.2.2))))))) = some r := H
   have A20 := Aside0.mk A200
   clear A200; replace H := Option.bind_eq_some_iff.mp H
   obtain ⟨⟨t318, t321⟩, A210, H⟩ := H
   replace H : ((laws_toWal.f k a0_0 a0_1 a0_2 a0_3 l0_4).bind fun bt322 => ((laws_toWal.f k a1_0 a1_1 a1_2 a1_3 l1_4).bind fun bt330 => ((impl_Changes.f k bt322.1 bt322.2.1 bt322.2.2.1 bt322.2.2.2.1 bt322.2.2.2.2 bt330.1 bt330.2.1 bt330.2.2.1 bt330.2.2.2.1 bt330.2.2.2.2).bind fun bt338 => ((laws_eqRecS.f k bt338.1 t318).bind fun t342 => (if t342 = true then (laws_FnExactChanges.j0 k t318 t321 bt338.1 bt338.2 (bt338.2 != t321) a0_0 a0_1 a0_2 a0_3 l0_4 a1_0 a1_1 a1_2 a1_3 l1_4 bt322.1 bt322.2.1 bt322.2.2.1 bt322.2.2.2.1 bt322.2.2.2.2 bt330.1 bt330.2.1 bt330.2.2.1 bt330.2.2.2.1 bt330.2.2.2.2) else (laws_FnExactChanges.j0 k t318 t321 bt338.1 bt338.2 true a0_0 a0_1 a0_2 a0_3 l0_4 a1_0 a1_1 a1_2 a1_3 l1_4 bt322.1 bt322.2.1 bt322.2.2.1 bt322.2.2.2.1 bt322.2.2.2.2 bt330.1 bt330.2.1 bt330.2.2.1 bt330.2.2.2.1 bt330.2.2.2.2)))))) = some r := H
   have A21 := Aside0.mk A210
   clear A210; replace H := Option.bind_eq_some_iff.mp H
   obtain ⟨⟨t322, t323, t324, t325, t326⟩, A220, H⟩ := H
   replace H : ((laws_toWal.f k a1_0 a1_1 a1_2 a1_3 l1_4).bind fun bt330 => ((impl_Changes.f k t322 t323 t324 t325 t326 bt330.1 bt330.2.1 bt330.2.2.1 bt330.2.2.2.1 bt330.2.2.2.2).bind fun bt338 => ((laws_eqRecS.f k bt338.1 t318).bind fun t342 => (if t342 = true then (laws_FnExactChanges.j0 k t318 t321 bt338.1 bt338.2 (bt338.2 != t321) a0_0 a0_1 a0_2 a0_3 l0_4 a1_0 a1_1 a1_2 a1_3 l1_4 t322 t323 t324 t325 t326 bt330.1 bt330.2.1 bt330.2.2.1 bt330.2.2.2.1 bt330.2.2.2.2) else (laws_FnExactChanges.j0 k t318 t321 bt338.1 bt338.2 true a0_0 a0_1 a0_2 a0_3 l0_4 a1_0 a1_1 a1_2 a1_3 l1_4 t322 t323 t324 t325 t326 bt330.1 bt330.2.1 bt330.2.2.1 bt330.2.2.2.1 bt330.2.2.2.2))))) = some r := H
   have A22 := Aside0.mk A220
   clear A220; replace H := Option.bind_eq_some_iff.mp H
   obtain ⟨⟨t330, t331, t332, t333, t334⟩, A230, H⟩ := H
   replace H : ((impl_Changes.f k t322 t323 t324 t325 t326 t330 t331 t332 t333 t334).bind fun bt338 => ((laws_eqRecS.f k bt338.1 t318).bind fun t342 => (if t342 = true then (laws_FnExactChanges.j0 k t318 t321 bt338.1 bt338.2 (bt338.2 != t321) a0_0 a0_1 a0_2 a0_3 l0_4 a1_0 a1_1 a1_2 a1_3 l1_4 t322 t323 t324 t325 t326 t330 t331 t332 t333 t334) else (laws_FnExactChanges.j0 k t318 t321 bt338.1 bt338.2 true a0_0 a0_1 a0_2 a0_3 l0_4 a1_0 a1_1 a1_2 a1_3 l1_4 t322 t323 t324 t325 t326 t330 t331 t332 t333 t334)))) = some r := H
   have A23 := Aside0.mk A230
   clear A230; replace H := Option.bind_eq_some_iff.mp H
   obtain ⟨⟨t338, t341⟩, A240, H⟩ := H
   replace H : ((laws_eqRecS.f k t338 t318).bind fun t342 => (if t342 = true then (laws_FnExactChanges.j0 k t318 t321 t338 t341 (t341 != t321) a0_0 a0_1 a0_2 a0_3 l0_4 a1_0 a1_1 a1_2 a1_3 l1_4 t322 t323 t324 t325 t326 t330 t331 t332 t333 t334) else (laws_FnExactChanges.j0 k t318 t321 t338 t341 true a0_0 a0_1 a0_2 a0_3 l0_4 a1_0 a1_1 a1_2 a1_3 l1_4 t322 t323 t324 t325 t326 t330 t331 t332 t333 t334))) = some r := H
   have A24 := Aside0.mk A240
   clear A240; have HC25 := Aside0.mk H
   clear H
   go_enter Try.func13, Try.ntmps13
   try go_wp2_with (first | ((with_reducible refine gate_dst (N := 2) rfl ?_); refine box_event ?hg (N := 2) ?hd (cs := #[.int .i64 a0_0, .int .i64 a0_1, .int .i64 a0_2, .int .i64 a0_3, .slice A0_4 l0_4.length c0_4]) (t := 56) ?hr ?_; (case hd => rfl); (case hg => rfl); (case hr => first | (go_simp; done) | (go_simp; rfl)); intro gb300 hg w26 hbox hb; have n0_ := Aside0.mk (below_step (be HB) hb); have BK300 := Aside0.mk (hbox); have GW300 := bs HB hg; have GE300 := bs HB hg; clear HB; have HB := n0_; clear n0_; clear hb hbox hg) | ((with_reducible refine gate_dst (N := 3) rfl ?_); refine box_event ?hg (N := 3) ?hd (cs := #[.int .i64 a1_0, .int .i64 a1_1, .int .i64 a1_2, .int .i64 a1_3, .slice A1_4 l1_4.length c1_4]) (t := 56) ?hr ?_; (case hd => rfl); (case hg => rfl); (case hr => first | (go_simp; done) | (go_simp; rfl)); intro gb301 hg w27 hbox hb; have n1_ := Aside0.mk (below_step (be HB) hb); have BK301 := Aside0.mk (hbox); have GW301 := bs HB hg; have GE301 := bs HB hg; have NB300_301 := bl BK300 hg; have NB301_300 := bg BK300 hg; replace BK300 := bq BK300 hb; clear HB; have HB := n1_; clear n1_; clear hb hbox hg; have hnb28 := NB300_301.out; have hnc28 := NB301_300.out; obtain ⟨hcz29_0, hcz29_1, hcz29_2, hcz29_3, hcz29_4⟩ := cs5 BK300; obtain ⟨hfz29_0, hfz29_1, hfz29_2, hfz29_3, hfz29_4⟩ := fs5 BK300) | ((with_reducible refine gate_callee (f := 35) rfl ?_); refine goesL_ (some 19) rfl rfl Try.func35 (by kernel_rfl) rfl #[.agg #[.int .i64 a0_0, .int .i64 a0_1, .int .i64 a0_2, .int .i64 a0_3, .slice A0_4 l0_4.length c0_4], .int .i64 1048576] rfl (by (try simp only [List.map_toArray, List.map_cons, List.map_nil]); first | done | rfl | (simp only [List.length_drop, List.length_take]; rfl)) ?_; (with_reducible refine (laws_szWal.calls k a0_0 a0_1 a0_2 a0_3 _ _ l0_4 1048576 t302 _ ?side1 ?side2 A3.out).mono ?_); (case side1 => repeat (first | exact (Kd.C_below HR0_4.out HB.out) | (with_reducible refine Kd.C_alloc ?_ _) | (with_reducible refine Kd.C_drewN ?_ _) | (with_reducible refine Kd.C_drew ?_))); (case side2 => exact HC0_4.out); rintro e w30 ⟨rfl, hb⟩; refine ⟨_, rfl, ?_⟩; have n2_ := Aside0.mk (below_step (be HB) hb); replace BK300 := bq BK300 hb; replace BK301 := bq BK301 hb; clear HB; have HB := n2_; clear n2_; (try clear hb); (try clear hb2); (try clear hk); (try clear hi); obtain ⟨hcz31_0, hcz31_1, hcz31_2, hcz31_3, hcz31_4⟩ := cs5 BK301; obtain ⟨hfz31_0, hfz31_1, hfz31_2, hfz31_3, hfz31_4⟩ := fs5 BK301) | ((with_reducible refine gate_callee (f := 35) rfl ?_); refine goesL_ (some 24) rfl rfl Try.func35 (by kernel_rfl) rfl #[.agg #[.int .i64 a1_0, .int .i64 a1_1, .int .i64 a1_2, .int .i64 a1_3, .slice A1_4 l1_4.length c1_4], .int .i64 t302] rfl (by (try simp only [List.map_toArray, List.map_cons, List.map_nil]); first | done | rfl | (simp only [List.length_drop, List.length_take]; rfl)) ?_; (with_reducible refine (laws_szWal.calls k a1_0 a1_1 a1_2 a1_3 _ _ l1_4 t302 t303 _ ?side1 ?side2 A10.out).mono ?_); (case side1 => repeat (first | exact (Kd.C_below HR1_4.out HB.out) | (with_reducible refine Kd.C_alloc ?_ _) | (with_reducible refine Kd.C_drewN ?_ _) | (with_reducible refine Kd.C_drew ?_))); (case side2 => exact HC1_4.out); rintro e w32 ⟨rfl, hb⟩; refine ⟨_, rfl, ?_⟩; have n2_ := Aside0.mk (below_step (be HB) hb); replace BK300 := bq BK300 hb; replace BK301 := bq BK301 hb; clear HB; have HB := n2_; clear n2_; (try clear hb); (try clear hb2); (try clear hk); (try clear hi)))
   have n0_ := Aside0.mk (blk_drew BK300.out)
   have n1_ := Aside0.mk (blk_drew BK301.out)
   have n2_ := Aside0.mk (below_drew1 HB.out)
   clear BK300 BK301 HB; have BK300 := n0_; have BK301 := n1_; have HB := n2_; clear n0_ n1_ n2_; refine start_ (n := 10) (S := fun w' => w'.cell? ⟨gb300, 0, none⟩ = some (.int .i64 a0_0) ∧ w'.cell? ⟨gb300, 1, none⟩ = some (.int .i64 a0_1) ∧ w'.cell? ⟨gb300, 2, none⟩ = some (.int .i64 a0_2) ∧ w'.cell? ⟨gb300, 3, none⟩ = some (.int .i64 a0_3) ∧ w'.cell? ⟨gb300, 4, none⟩ = some (.slice A0_4 l0_4.length c0_4) ∧ w'.cell? ⟨gb301, 0, none⟩ = some (.int .i64 a1_0) ∧ w'.cell? ⟨gb301, 1, none⟩ = some (.int .i64 a1_1) ∧ w'.cell? ⟨gb301, 2, none⟩ = some (.int .i64 a1_2) ∧ w'.cell? ⟨gb301, 3, none⟩ = some (.int .i64 a1_3) ∧ w'.cell? ⟨gb301, 4, none⟩ = some (.slice A1_4 l1_4.length c1_4)) (ds := []) #[ff,ff,ff,ff,ff,ff,ff,ff,ff,ff] (by kernel_rfl) rfl rfl ⟨bc BK300 0, bc BK300 1, bc BK300 2, bc BK300 3, bc BK300 4, bc BK301 0, bc BK301 1, bc BK301 2, bc BK301 3, bc BK301 4⟩ (fun hHeld => ?_); refine with_tabW laws_FnExactChanges.tab8 laws_FnExactChanges.bits8 (fun HT_ HW_ => ?_)
   generalize w32.drew = w33 at BK300 BK301 HB hHeld ⊢
   refine take_ (i := 0) (N := some 28) (v := ?_) (a' := ?_) #[tt,ff,ff,ff,ff,ff,ff,ff,ff,ff] rfl rfl (take_ofW HT_.out HW_.out (by kernel_rfl)) (fun _ _ _ h => h) (Or.inl ⟨by rfl, ?_⟩) hHeld ?_ ?_
   rotate_left
   ·rintro w' ⟨s0, s1, s2, s3, s4, s5, s6, s7, s8, s9⟩
    go_simp; with_reducible rfl
   rotate_left
   ·simp only [putL, i64_w, i32_w]; rfl
   refine take_ (i := 2) (N := some 30) (v := ?_) (a' := ?_) #[tt,ff,tt,ff,ff,ff,ff,ff,ff,ff] rfl rfl (take_ofW HT_.out HW_.out (by kernel_rfl)) (fun _ _ _ h => h) (Or.inl ⟨by rfl, ?_⟩) hHeld ?_ ?_
   rotate_left
   ·rintro w' ⟨s0, s1, s2, s3, s4, s5, s6, s7, s8, s9⟩
    go_simp; with_reducible rfl
   rotate_left
   ·simp only [putL, i64_w, i32_w]; rfl
   refine one_ (i := 1) (N := some 29) #[tt,tt,tt,ff,ff,ff,ff,ff,ff,ff] rfl rfl (one_of HT_.out (by kernel_rfl)) (by decide) (fun K hK => ?_)
   refine goes_ Try.func38 (by kernel_rfl) rfl #[.agg #[.int .i64 a0_0, .int .i64 a0_1, .int .i64 a0_2, .int .i64 a0_3, .slice A0_4 l0_4.length c0_4]] (by rfl) rfl rfl (by (try simp only [List.map_toArray, List.map_cons, List.map_nil]); first | done | rfl | (simp only [List.length_drop, List.length_take]; rfl)) ?_
   with_reducible refine (laws_toWal.calls k a0_0 a0_1 a0_2 a0_3 _ _ l0_4 t304 t305 t306 t307 t308 _ ?side1 ?side2 A19.out).mono ?_
   (case side1 => repeat (first | exact (Kd.C_below HR0_4.out HB.out) | (with_reducible refine Kd.C_alloc ?_ _) | (with_reducible refine Kd.C_drewN ?_ _) | (with_reducible refine Kd.C_drew ?_)))
   (case side2 => exact HC0_4.out)
   rintro e w34 ⟨v309, rfl, ho0, hb⟩
   refine ⟨_, rfl, ?_⟩
   have n3_ := Aside0.mk (below_step (be HB) hb)
   have HO310 := Aside0.mk (Kd.R_lower ho0 (below_size (be HB)))
   replace BK300 := bq BK300 hb; replace BK301 := bq BK301 hb; clear HB; have HB := n3_; clear n3_; (try clear hb); (try clear hb2); (try clear hk); (try clear hi); (try clear ho0); refine hK.out _ _ ⟨bc BK300 0, bc BK300 1, bc BK300 2, bc BK300 3, bc BK300 4, bc BK301 0, bc BK301 1, bc BK301 2, bc BK301 3, bc BK301 4⟩ (fun hHeld => ?_)
   clear hK K; refine norm_ (a' := ?_) ?_ ?_
   rotate_left
   ·show Act.put _ (some 29) _ = _
    simp only [putL, i64_w, i32_w]; rfl
   refine one_ (i := 3) (N := some 31) #[tt,tt,tt,tt,ff,ff,ff,ff,ff,ff] rfl rfl (one_of HT_.out (by kernel_rfl)) (by decide) (fun K hK => ?_)
   refine goes_ Try.func38 (by kernel_rfl) rfl #[.agg #[.int .i64 a1_0, .int .i64 a1_1, .int .i64 a1_2, .int .i64 a1_3, .slice A1_4 l1_4.length c1_4]] (by rfl) rfl rfl (by (try simp only [List.map_toArray, List.map_cons, List.map_nil]); first | done | rfl | (simp only [List.length_drop, List.length_take]; rfl)) ?_
   with_reducible refine (laws_toWal.calls k a1_0 a1_1 a1_2 a1_3 _ _ l1_4 t311 t312 t313 t314 t315 _ ?side1 ?side2 A20.out).mono ?_
   (case side1 => repeat (first | exact (Kd.C_below HR1_4.out HB.out) | (with_reducible refine Kd.C_alloc ?_ _) | (with_reducible refine Kd.C_drewN ?_ _) | (with_reducible refine Kd.C_drew ?_)))
   (case side2 => exact HC1_4.out)
   rintro e w35 ⟨v316, rfl, ho0, hb⟩
   refine ⟨_, rfl, ?_⟩
   have n0_ := Aside0.mk (Kd.R_elder' (rr HO310) (Kd.R_base ho0) hb)
   have n4_ := Aside0.mk (below_step (be HB) hb)
   have HO317 := Aside0.mk (Kd.R_lower (Kd.R_new' ho0 (Kd.R_lt (rr HO310))) (below_size (be HB)))
   replace BK300 := bq BK300 hb; replace BK301 := bq BK301 hb; clear HO310 HB; have HO310 := n0_; have HB := n4_; clear n0_ n4_; (try clear hb); (try clear hb2); (try clear hk); (try clear hi); (try clear ho0); obtain ⟨Ao36, co36, eo36⟩ := Kd.R_slice HO310.out
   (first | subst eo36 | (injection eo36 with f1_ f2_ f3_; have f4_ := f1_.symm; have f5_ := f3_.symm; clear f1_ f2_ f3_; subst f4_; subst f5_))
   obtain ⟨Ao37, co37, eo37⟩ := Kd.R_slice HO317.out
   (first | subst eo37 | (injection eo37 with f1_ f2_ f3_; have f4_ := f1_.symm; have f5_ := f3_.symm; clear f1_ f2_ f3_; subst f4_; subst f5_))
   refine hK.out _ _ ⟨bc BK300 0, bc BK300 1, bc BK300 2, bc BK300 3, bc BK300 4, bc BK301 0, bc BK301 1, bc BK301 2, bc BK301 3, bc BK301 4⟩ (fun hHeld => ?_)
   clear hK K; refine norm_ (a' := ?_) ?_ ?_
   rotate_left
   ·show Act.put _ (some 31) _ = _
    simp only [putL, i64_w, i32_w]; rfl
   refine one_ (i := 4) (N := some 32) #[tt,tt,tt,tt,tt,ff,ff,ff,ff,ff] rfl rfl (one_of HT_.out (by kernel_rfl)) (by decide) (fun K hK => ?_)
   refine goes_ Try.func56 (by kernel_rfl) rfl #[.agg #[.int .i64 t304, .int .i64 t305, .int .i64 t306, .int .i64 t307, .slice Ao36 t308.length co36], .agg #[.int .i64 t311, .int .i64 t312, .int .i64 t313, .int .i64 t314, .slice Ao37 t315.length co37]] (by rfl) rfl rfl (by (try simp only [List.map_toArray, List.map_cons, List.map_nil]); first | done | rfl | (simp only [List.length_drop, List.length_take]; rfl)) ?_
   with_reducible refine (spec_Changes.calls k t304 t305 t306 t307 _ _ t308 t311 t312 t313 t314 _ _ t315 t318 t321 _ ?side1 ?side2 ?side3 ?side4 A21.out).mono ?_
   (case side1 => repeat (first | exact (Kd.R_reads' HO310.out).2.2 | (with_reducible refine Kd.C_alloc ?_ _) | (with_reducible refine Kd.C_drewN ?_ _) | (with_reducible refine Kd.C_drew ?_)))
   (case side2 => exact (Kd.R_reads' HO310.out).2.1)
   (case side3 => repeat (first | exact (Kd.R_reads' HO317.out).2.2 | (with_reducible refine Kd.C_alloc ?_ _) | (with_reducible refine Kd.C_drewN ?_ _) | (with_reducible refine Kd.C_drew ?_)))
   (case side4 => exact (Kd.R_reads' HO317.out).2.1)
   rintro e w38 ⟨v319, rfl, ho0, hb⟩
   refine ⟨_, rfl, ?_⟩
   have n5_ := Aside0.mk (below_step (be HB) hb)
   have HO320 := Aside0.mk (Kd.R_lower ho0 (below_size (be HB)))
   replace HO310 := Aside0.mk (Kd.R_below (rr HO310) hb); replace HO317 := Aside0.mk (Kd.R_below (rr HO317) hb); replace BK300 := bq BK300 hb; replace BK301 := bq BK301 hb; clear HB; have HB := n5_; clear n5_; (try clear hb); (try clear hb2); (try clear hk); (try clear hi); (try clear ho0); refine hK.out _ _ ⟨bc BK300 0, bc BK300 1, bc BK300 2, bc BK300 3, bc BK300 4, bc BK301 0, bc BK301 1, bc BK301 2, bc BK301 3, bc BK301 4⟩ (fun hHeld => ?_)
   clear hK K; refine norm_ (a' := ?_) ?_ ?_
   rotate_left
   ·show Act.put _ (some 32) _ = _
    simp only [putL, i64_w, i32_w]; rfl
   refine pure_ (i := 5) (N := some 27) (v := ?_) (a' := ?_) #[tt,tt,tt,tt,tt,tt,ff,ff,ff,ff] rfl rfl (any_of HT_.out (by kernel_rfl)) (fun _ _ _ h => h) (Or.inl ⟨by rfl, ?_⟩) ?_ ?_
   rotate_left
   ·intro w'; go_simp; with_reducible rfl
   rotate_left
   ·simp only [putL, i64_w, i32_w]; rfl
   refine pure_ (i := 6) (N := some 33) (v := ?_) (a' := ?_) #[tt,tt,tt,tt,tt,tt,tt,ff,ff,ff] rfl rfl (any_of HT_.out (by kernel_rfl)) (fun _ _ _ h => h) (Or.inl ⟨by rfl, ?_⟩) ?_ ?_
   rotate_left
   ·intro w'; go_simp; with_reducible rfl
   rotate_left
   ·simp only [putL, i64_w, i32_w]; rfl
   refine pure_ (i := 7) (N := some 34) (v := ?_) (a' := ?_) #[tt,tt,tt,tt,tt,tt,tt,tt,ff,ff] rfl rfl (any_of HT_.out (by kernel_rfl)) (fun _ _ _ h => h) (Or.inl ⟨by rfl, ?_⟩) ?_ ?_
   rotate_left
   ·intro w'; go_simp; with_reducible rfl
   rotate_left
   ·simp only [putL, i64_w, i32_w]; rfl
   refine pure_ (i := 8) (N := some 6) (v := ?_) (a' := ?_) #[tt,tt,tt,tt,tt,tt,tt,tt,tt,ff] rfl rfl (any_of HT_.out (by kernel_rfl)) (fun _ _ _ h => h) (Or.inl ⟨by rfl, ?_⟩) ?_ ?_
   rotate_left
   ·intro w'; go_simp; with_reducible rfl
   rotate_left
   ·simp only [putL, i64_w, i32_w]; rfl
   refine pure_ (i := 9) (N := some 7) (v := ?_) (a' := ?_) #[tt,tt,tt,tt,tt,tt,tt,tt,tt,tt] rfl rfl (any_of HT_.out (by kernel_rfl)) (fun _ _ _ h => h) (Or.inl ⟨by rfl, ?_⟩) ?_ ?_
   rotate_left
   ·intro w'; go_simp; with_reducible rfl
   rotate_left
   ·simp only [putL, i64_w, i32_w]; rfl
   refine done_ (done_of HT_.out (by kernel_rfl)) ?_
   obtain ⟨hcz39_0, hcz39_1, hcz39_2, hcz39_3, hcz39_4⟩ := cs5 BK300; obtain ⟨hfz39_0, hfz39_1, hfz39_2, hfz39_3, hfz39_4⟩ := fs5 BK300
   go_upto_region 12 with (first | ((with_reducible refine gate_callee (f := 38) rfl ?_); refine goesL_ (some 36) rfl rfl Try.func38 (by kernel_rfl) rfl #[.agg #[.int .i64 a0_0, .int .i64 a0_1, .int .i64 a0_2, .int .i64 a0_3, .slice A0_4 l0_4.length c0_4]] rfl (by (try simp only [List.map_toArray, List.map_cons, List.map_nil]); first | done | rfl | (simp only [List.length_drop, List.length_take]; rfl)) ?_; (with_reducible refine (laws_toWal.calls k a0_0 a0_1 a0_2 a0_3 _ _ l0_4 t322 t323 t324 t325 t326 _ ?side1 ?side2 A22.out).mono ?_); (case side1 => repeat (first | exact (Kd.C_below HR0_4.out HB.out) | (with_reducible refine Kd.C_alloc ?_ _) | (with_reducible refine Kd.C_drewN ?_ _) | (with_reducible refine Kd.C_drew ?_))); (case side2 => exact HC0_4.out); rintro e w40 ⟨v327, rfl, ho0, hb⟩; refine ⟨_, rfl, ?_⟩; have n0_ := Aside0.mk (Kd.R_elder' (rr HO310) (Kd.R_base ho0) hb); have n1_ := Aside0.mk (Kd.R_elder' (rr HO317) (Kd.R_base ho0) hb); have n6_ := Aside0.mk (below_step (be HB) hb); have HO328 := Aside0.mk (Kd.R_lower (Kd.R_new' (Kd.R_new' ho0 (Kd.R_lt (rr HO310))) (Kd.R_lt (rr HO317))) (below_size (be HB))); replace HO320 := Aside0.mk (Kd.R_below (rr HO320) hb); replace BK300 := bq BK300 hb; replace BK301 := bq BK301 hb; clear HO310 HO317 HB; have HO310 := n0_; have HO317 := n1_; have HB := n6_; clear n0_ n1_ n6_; (try clear hb); (try clear hb2); (try clear hk); (try clear hi); (try clear ho0)) | ((with_reducible refine gate_dst (N := 8) rfl ?_); refine box_event ?hg (N := 8) ?hd (cs := #[.int .i64 0, .int .i64 0, .int .i64 0, .int .i64 0, .slice none 0 0]) (t := 62) ?hr ?_; (case hd => rfl); (case hg => rfl); (case hr => first | (go_simp; done) | (go_simp; rfl)); intro gb329 hg w41 hbox hb; have n6_ := Aside0.mk (below_step (be HB) hb); have BK329 := Aside0.mk (hbox); have GW329 := bs HB hg; have GE329 := bs HB hg; have NB300_329 := bl BK300 hg; have NB329_300 := bg BK300 hg; have NB301_329 := bl BK301 hg; have NB329_301 := bg BK301 hg; replace HO310 := Aside0.mk (Kd.R_below (rr HO310) hb); replace HO317 := Aside0.mk (Kd.R_below (rr HO317) hb); replace HO320 := Aside0.mk (Kd.R_below (rr HO320) hb); replace HO328 := Aside0.mk (Kd.R_below (rr HO328) hb); replace BK300 := bq BK300 hb; replace BK301 := bq BK301 hb; clear HB; have HB := n6_; clear n6_; clear hb hbox hg; have hnb42 := NB329_300.out; have hnc42 := NB300_329.out; have hnb43 := NB329_301.out; have hnc43 := NB301_329.out; obtain ⟨hcz44_0, hcz44_1, hcz44_2, hcz44_3, hcz44_4⟩ := cs5 BK329; obtain ⟨hfz44_0, hfz44_1, hfz44_2, hfz44_3, hfz44_4⟩ := fs5 BK329; obtain ⟨Ao45, co45, eo45⟩ := Kd.R_slice HO328.out; subst eo45; obtain ⟨hcz46_0, hcz46_1, hcz46_2, hcz46_3, hcz46_4⟩ := cs5 BK301; obtain ⟨hfz46_0, hfz46_1, hfz46_2, hfz46_3, hfz46_4⟩ := fs5 BK301) | ((with_reducible refine gate_callee (f := 38) rfl ?_); refine goesL_ (some 38) rfl rfl Try.func38 (by kernel_rfl) rfl #[.agg #[.int .i64 a1_0, .int .i64 a1_1, .int .i64 a1_2, .int .i64 a1_3, .slice A1_4 l1_4.length c1_4]] rfl (by (try simp only [List.map_toArray, List.map_cons, List.map_nil]); first | done | rfl | (simp only [List.length_drop, List.length_take]; rfl)) ?_; (with_reducible refine (laws_toWal.calls k a1_0 a1_1 a1_2 a1_3 _ _ l1_4 t330 t331 t332 t333 t334 _ ?side1 ?side2 A23.out).mono ?_); (case side1 => exact Kd.C_below HR1_4.out (be HB)); (case side2 => exact HC1_4.out); rintro e w47 ⟨v335, rfl, ho0, hb⟩; refine ⟨_, rfl, ?_⟩; have n0_ := Aside0.mk (Kd.R_elder' (by (with_reducible repeat (first | apply Kd.R_alloc | apply Kd.R_drewN | apply Kd.R_drew)); exact (Kd.R_mono (Kd.R_far (p := ⟨gb329, 4, none⟩) (Kd.R_far (p := ⟨gb329, 3, none⟩) (Kd.R_far (p := ⟨gb329, 2, none⟩) (Kd.R_far (p := ⟨gb329, 1, none⟩) (Kd.R_far (p := ⟨gb329, 0, none⟩) (Kd.R_types HO310.out BK329.out (by decide)) (fun _ hk => hk.2) (.int .i64 t322)) (fun _ hk => hk.2) (.int .i64 t323)) (fun _ hk => hk.2) (.int .i64 t324)) (fun _ hk => hk.2) (.int .i64 t325)) (fun _ hk => hk.2) (.slice Ao45 t326.length co45)) (fun _ h_ => h_.1))) (Kd.R_base ho0) hb); have n1_ := Aside0.mk (Kd.R_elder' (by (with_reducible repeat (first | apply Kd.R_alloc | apply Kd.R_drewN | apply Kd.R_drew)); exact (Kd.R_mono (Kd.R_far (p := ⟨gb329, 4, none⟩) (Kd.R_far (p := ⟨gb329, 3, none⟩) (Kd.R_far (p := ⟨gb329, 2, none⟩) (Kd.R_far (p := ⟨gb329, 1, none⟩) (Kd.R_far (p := ⟨gb329, 0, none⟩) (Kd.R_types HO317.out BK329.out (by decide)) (fun _ hk => hk.2) (.int .i64 t322)) (fun _ hk => hk.2) (.int .i64 t323)) (fun _ hk => hk.2) (.int .i64 t324)) (fun _ hk => hk.2) (.int .i64 t325)) (fun _ hk => hk.2) (.slice Ao45 t326.length co45)) (fun _ h_ => h_.1))) (Kd.R_base ho0) hb); have n2_ := Aside0.mk (Kd.R_below (by (with_reducible repeat (first | apply Kd.R_alloc | apply Kd.R_drewN | apply Kd.R_drew)); exact (Kd.R_mono (Kd.R_far (p := ⟨gb329, 4, none⟩) (Kd.R_far (p := ⟨gb329, 3, none⟩) (Kd.R_far (p := ⟨gb329, 2, none⟩) (Kd.R_far (p := ⟨gb329, 1, none⟩) (Kd.R_far (p := ⟨gb329, 0, none⟩) (Kd.R_types HO320.out BK329.out (by decide)) (fun _ hk => hk.2) (.int .i64 t322)) (fun _ hk => hk.2) (.int .i64 t323)) (fun _ hk => hk.2) (.int .i64 t324)) (fun _ hk => hk.2) (.int .i64 t325)) (fun _ hk => hk.2) (.slice Ao45 t326.length co45)) (fun _ h_ => h_.1))) hb); have n3_ := Aside0.mk (Kd.R_elder' (by (with_reducible repeat (first | apply Kd.R_alloc | apply Kd.R_drewN | apply Kd.R_drew)); exact (Kd.R_mono (Kd.R_far (p := ⟨gb329, 4, none⟩) (Kd.R_far (p := ⟨gb329, 3, none⟩) (Kd.R_far (p := ⟨gb329, 2, none⟩) (Kd.R_far (p := ⟨gb329, 1, none⟩) (Kd.R_far (p := ⟨gb329, 0, none⟩) (Kd.R_types HO328.out BK329.out (by decide)) (fun _ hk => hk.2) (.int .i64 t322)) (fun _ hk => hk.2) (.int .i64 t323)) (fun _ hk => hk.2) (.int .i64 t324)) (fun _ hk => hk.2) (.int .i64 t325)) (fun _ hk => hk.2) (.slice Ao45 t326.length co45)) (fun _ h_ => h_.1))) (Kd.R_base ho0) hb); have n5_ := bf BK300 hb; have n6_ := bf BK301 hb; have n7_ := bp #[.int .i64 t322, .int .i64 t323, .int .i64 t324, .int .i64 t325, .slice Ao45 t326.length co45] BK329 hb; have n8_ := Aside0.mk (below_step (be HB) hb); have HO336 := Aside0.mk (Kd.R_lower (Kd.R_new' (Kd.R_new' (Kd.R_new' ho0 (Kd.R_lt (by (with_reducible repeat (first | apply Kd.R_alloc | apply Kd.R_drewN | apply Kd.R_drew)); exact (Kd.R_mono (Kd.R_far (p := ⟨gb329, 4, none⟩) (Kd.R_far (p := ⟨gb329, 3, none⟩) (Kd.R_far (p := ⟨gb329, 2, none⟩) (Kd.R_far (p := ⟨gb329, 1, none⟩) (Kd.R_far (p := ⟨gb329, 0, none⟩) (Kd.R_types HO310.out BK329.out (by decide)) (fun _ hk => hk.2) (.int .i64 t322)) (fun _ hk => hk.2) (.int .i64 t323)) (fun _ hk => hk.2) (.int .i64 t324)) (fun _ hk => hk.2) (.int .i64 t325)) (fun _ hk => hk.2) (.slice Ao45 t326.length co45)) (fun _ h_ => h_.1))))) (Kd.R_lt (by (with_reducible repeat (first | apply Kd.R_alloc | apply Kd.R_drewN | apply Kd.R_drew)); exact (Kd.R_mono (Kd.R_far (p := ⟨gb329, 4, none⟩) (Kd.R_far (p := ⟨gb329, 3, none⟩) (Kd.R_far (p := ⟨gb329, 2, none⟩) (Kd.R_far (p := ⟨gb329, 1, none⟩) (Kd.R_far (p := ⟨gb329, 0, none⟩) (Kd.R_types HO317.out BK329.out (by decide)) (fun _ hk => hk.2) (.int .i64 t322)) (fun _ hk => hk.2) (.int .i64 t323)) (fun _ hk => hk.2) (.int .i64 t324)) (fun _ hk => hk.2) (.int .i64 t325)) (fun _ hk => hk.2) (.slice Ao45 t326.length co45)) (fun _ h_ => h_.1))))) (Kd.R_lt (by (with_reducible repeat (first | apply Kd.R_alloc | apply Kd.R_drewN | apply Kd.R_drew)); exact (Kd.R_mono (Kd.R_far (p := ⟨gb329, 4, none⟩) (Kd.R_far (p := ⟨gb329, 3, none⟩) (Kd.R_far (p := ⟨gb329, 2, none⟩) (Kd.R_far (p := ⟨gb329, 1, none⟩) (Kd.R_far (p := ⟨gb329, 0, none⟩) (Kd.R_types HO328.out BK329.out (by decide)) (fun _ hk => hk.2) (.int .i64 t322)) (fun _ hk => hk.2) (.int .i64 t323)) (fun _ hk => hk.2) (.int .i64 t324)) (fun _ hk => hk.2) (.int .i64 t325)) (fun _ hk => hk.2) (.slice Ao45 t326.length co45)) (fun _ h_ => h_.1))))) (below_size (be HB))); clear HO310 HO317 HO320 HO328 BK300 BK301 BK329 HB; have HO310 := n0_; have HO317 := n1_; have HO320 := n2_; have HO328 := n3_; have BK300 := n5_; have BK301 := n6_; have BK329 := n7_; have HB := n8_; clear n0_ n1_ n2_ n3_ n5_ n6_ n7_ n8_; (try clear hb); (try clear hb2); (try clear hk); (try clear hi); (try clear ho0)) | ((with_reducible refine gate_dst (N := 9) rfl ?_); refine box_event ?hg (N := 9) ?hd (cs := #[.int .i64 0, .int .i64 0, .int .i64 0, .int .i64 0, .slice none 0 0]) (t := 62) ?hr ?_; (case hd => rfl); (case hg => rfl); (case hr => first | (go_simp; done) | (go_simp; rfl)); intro gb337 hg w48 hbox hb; have n8_ := Aside0.mk (below_step (be HB) hb); have BK337 := Aside0.mk (hbox); have GW337 := bs HB hg; have GE337 := bs HB hg; have NB300_337 := bl BK300 hg; have NB337_300 := bg BK300 hg; have NB301_337 := bl BK301 hg; have NB337_301 := bg BK301 hg; have NB329_337 := bl BK329 hg; have NB337_329 := bg BK329 hg; replace HO310 := Aside0.mk (Kd.R_below (rr HO310) hb); replace HO317 := Aside0.mk (Kd.R_below (rr HO317) hb); replace HO320 := Aside0.mk (Kd.R_below (rr HO320) hb); replace HO328 := Aside0.mk (Kd.R_below (rr HO328) hb); replace HO336 := Aside0.mk (Kd.R_below (rr HO336) hb); replace BK300 := bq BK300 hb; replace BK301 := bq BK301 hb; replace BK329 := bq BK329 hb; clear HB; have HB := n8_; clear n8_; clear hb hbox hg; have hnb49 := NB337_300.out; have hnc49 := NB300_337.out; have hnb50 := NB337_301.out; have hnc50 := NB301_337.out; have hnb51 := NB337_329.out; have hnc51 := NB329_337.out; obtain ⟨hcz52_0, hcz52_1, hcz52_2, hcz52_3, hcz52_4⟩ := cs5 BK337; obtain ⟨hfz52_0, hfz52_1, hfz52_2, hfz52_3, hfz52_4⟩ := fs5 BK337; obtain ⟨Ao53, co53, eo53⟩ := Kd.R_slice HO336.out; subst eo53; obtain ⟨hcz54_0, hcz54_1, hcz54_2, hcz54_3, hcz54_4⟩ := cs5 BK329; obtain ⟨hfz54_0, hfz54_1, hfz54_2, hfz54_3, hfz54_4⟩ := fs5 BK329) | ((with_reducible refine gate_callee (f := 57) rfl ?_); refine goesL_ (some 42) rfl rfl Try.func57 (by kernel_rfl) rfl #[.agg #[.int .i64 t322, .int .i64 t323, .int .i64 t324, .int .i64 t325, .slice Ao45 t326.length co45], .agg #[.int .i64 t330, .int .i64 t331, .int .i64 t332, .int .i64 t333, .slice Ao53 t334.length co53]] rfl (by (try simp only [List.map_toArray, List.map_cons, List.map_nil]); first | done | rfl | (simp only [List.length_drop, List.length_take]; rfl)) ?_; (with_reducible refine (impl_Changes.calls k t322 t323 t324 t325 _ _ t326 t330 t331 t332 t333 _ _ t334 t338 t341 _ ?side1 ?side2 ?side3 ?side4 A24.out).mono ?_); (case side1 => refine (Kd.R_reads' (e := 125) (base := w.heap.size) (ok := fun k_ => (((True ∧ some k_ ≠ (.slice Ao36 t308.length co36 : Value).ownBlock) ∧ some k_ ≠ (.slice Ao37 t315.length co37 : Value).ownBlock) ∧ some k_ ≠ (.slice Ao53 t334.length co53 : Value).ownBlock)) (n := t326.length) (c := co45) ?_).2.2; exact (by (with_reducible repeat (first | apply Kd.R_alloc | apply Kd.R_drewN | apply Kd.R_drew)); exact (Kd.R_mono (Kd.R_far (p := ⟨gb337, 4, none⟩) (Kd.R_far (p := ⟨gb337, 3, none⟩) (Kd.R_far (p := ⟨gb337, 2, none⟩) (Kd.R_far (p := ⟨gb337, 1, none⟩) (Kd.R_far (p := ⟨gb337, 0, none⟩) (Kd.R_types HO328.out BK337.out (by decide)) (fun _ hk => hk.2) (.int .i64 t330)) (fun _ hk => hk.2) (.int .i64 t331)) (fun _ hk => hk.2) (.int .i64 t332)) (fun _ hk => hk.2) (.int .i64 t333)) (fun _ hk => hk.2) (.slice Ao53 t334.length co53)) (fun _ h_ => h_.1)))); (case side2 => exact (Kd.R_reads' HO328.out).2.1); (case side3 => refine (Kd.R_reads' (e := 125) (base := w.heap.size) (ok := fun k_ => (((True ∧ some k_ ≠ (.slice Ao36 t308.length co36 : Value).ownBlock) ∧ some k_ ≠ (.slice Ao37 t315.length co37 : Value).ownBlock) ∧ some k_ ≠ (.slice Ao45 t326.length co45 : Value).ownBlock)) (n := t334.length) (c := co53) ?_).2.2; exact (by (with_reducible repeat (first | apply Kd.R_alloc | apply Kd.R_drewN | apply Kd.R_drew)); exact (Kd.R_mono (Kd.R_far (p := ⟨gb337, 4, none⟩) (Kd.R_far (p := ⟨gb337, 3, none⟩) (Kd.R_far (p := ⟨gb337, 2, none⟩) (Kd.R_far (p := ⟨gb337, 1, none⟩) (Kd.R_far (p := ⟨gb337, 0, none⟩) (Kd.R_types HO336.out BK337.out (by decide)) (fun _ hk => hk.2) (.int .i64 t330)) (fun _ hk => hk.2) (.int .i64 t331)) (fun _ hk => hk.2) (.int .i64 t332)) (fun _ hk => hk.2) (.int .i64 t333)) (fun _ hk => hk.2) (.slice Ao53 t334.length co53)) (fun _ h_ => h_.1)))); (case side4 => exact (Kd.R_reads' HO336.out).2.1); rintro e w55 ⟨v339, rfl, ho0, hb⟩; refine ⟨_, rfl, ?_⟩; have n0_ := Aside0.mk (Kd.R_below (by (with_reducible repeat (first | apply Kd.R_alloc | apply Kd.R_drewN | apply Kd.R_drew)); exact (Kd.R_mono (Kd.R_far (p := ⟨gb337, 4, none⟩) (Kd.R_far (p := ⟨gb337, 3, none⟩) (Kd.R_far (p := ⟨gb337, 2, none⟩) (Kd.R_far (p := ⟨gb337, 1, none⟩) (Kd.R_far (p := ⟨gb337, 0, none⟩) (Kd.R_types HO310.out BK337.out (by decide)) (fun _ hk => hk.2) (.int .i64 t330)) (fun _ hk => hk.2) (.int .i64 t331)) (fun _ hk => hk.2) (.int .i64 t332)) (fun _ hk => hk.2) (.int .i64 t333)) (fun _ hk => hk.2) (.slice Ao53 t334.length co53)) (fun _ h_ => h_.1))) hb); have n1_ := Aside0.mk (Kd.R_below (by (with_reducible repeat (first | apply Kd.R_alloc | apply Kd.R_drewN | apply Kd.R_drew)); exact (Kd.R_mono (Kd.R_far (p := ⟨gb337, 4, none⟩) (Kd.R_far (p := ⟨gb337, 3, none⟩) (Kd.R_far (p := ⟨gb337, 2, none⟩) (Kd.R_far (p := ⟨gb337, 1, none⟩) (Kd.R_far (p := ⟨gb337, 0, none⟩) (Kd.R_types HO317.out BK337.out (by decide)) (fun _ hk => hk.2) (.int .i64 t330)) (fun _ hk => hk.2) (.int .i64 t331)) (fun _ hk => hk.2) (.int .i64 t332)) (fun _ hk => hk.2) (.int .i64 t333)) (fun _ hk => hk.2) (.slice Ao53 t334.length co53)) (fun _ h_ => h_.1))) hb); have n2_ := Aside0.mk (Kd.R_elder' (by (with_reducible repeat (first | apply Kd.R_alloc | apply Kd.R_drewN | apply Kd.R_drew)); exact (Kd.R_mono (Kd.R_far (p := ⟨gb337, 4, none⟩) (Kd.R_far (p := ⟨gb337, 3, none⟩) (Kd.R_far (p := ⟨gb337, 2, none⟩) (Kd.R_far (p := ⟨gb337, 1, none⟩) (Kd.R_far (p := ⟨gb337, 0, none⟩) (Kd.R_types HO320.out BK337.out (by decide)) (fun _ hk => hk.2) (.int .i64 t330)) (fun _ hk => hk.2) (.int .i64 t331)) (fun _ hk => hk.2) (.int .i64 t332)) (fun _ hk => hk.2) (.int .i64 t333)) (fun _ hk => hk.2) (.slice Ao53 t334.length co53)) (fun _ h_ => h_.1))) (Kd.R_base ho0) hb); have n3_ := Aside0.mk (Kd.R_below (by (with_reducible repeat (first | apply Kd.R_alloc | apply Kd.R_drewN | apply Kd.R_drew)); exact (Kd.R_mono (Kd.R_far (p := ⟨gb337, 4, none⟩) (Kd.R_far (p := ⟨gb337, 3, none⟩) (Kd.R_far (p := ⟨gb337, 2, none⟩) (Kd.R_far (p := ⟨gb337, 1, none⟩) (Kd.R_far (p := ⟨gb337, 0, none⟩) (Kd.R_types HO328.out BK337.out (by decide)) (fun _ hk => hk.2) (.int .i64 t330)) (fun _ hk => hk.2) (.int .i64 t331)) (fun _ hk => hk.2) (.int .i64 t332)) (fun _ hk => hk.2) (.int .i64 t333)) (fun _ hk => hk.2) (.slice Ao53 t334.length co53)) (fun _ h_ => h_.1))) hb); have n4_ := Aside0.mk (Kd.R_below (by (with_reducible repeat (first | apply Kd.R_alloc | apply Kd.R_drewN | apply Kd.R_drew)); exact (Kd.R_mono (Kd.R_far (p := ⟨gb337, 4, none⟩) (Kd.R_far (p := ⟨gb337, 3, none⟩) (Kd.R_far (p := ⟨gb337, 2, none⟩) (Kd.R_far (p := ⟨gb337, 1, none⟩) (Kd.R_far (p := ⟨gb337, 0, none⟩) (Kd.R_types HO336.out BK337.out (by decide)) (fun _ hk => hk.2) (.int .i64 t330)) (fun _ hk => hk.2) (.int .i64 t331)) (fun _ hk => hk.2) (.int .i64 t332)) (fun _ hk => hk.2) (.int .i64 t333)) (fun _ hk => hk.2) (.slice Ao53 t334.length co53)) (fun _ h_ => h_.1))) hb); have n6_ := bf BK300 hb; have n7_ := bf BK301 hb; have n8_ := bf BK329 hb; have n9_ := bp #[.int .i64 t330, .int .i64 t331, .int .i64 t332, .int .i64 t333, .slice Ao53 t334.length co53] BK337 hb; have n10_ := Aside0.mk (below_step (be HB) hb); have HO340 := Aside0.mk (Kd.R_lower (Kd.R_new' ho0 (Kd.R_lt (by (with_reducible repeat (first | apply Kd.R_alloc | apply Kd.R_drewN | apply Kd.R_drew)); exact (Kd.R_mono (Kd.R_far (p := ⟨gb337, 4, none⟩) (Kd.R_far (p := ⟨gb337, 3, none⟩) (Kd.R_far (p := ⟨gb337, 2, none⟩) (Kd.R_far (p := ⟨gb337, 1, none⟩) (Kd.R_far (p := ⟨gb337, 0, none⟩) (Kd.R_types HO320.out BK337.out (by decide)) (fun _ hk => hk.2) (.int .i64 t330)) (fun _ hk => hk.2) (.int .i64 t331)) (fun _ hk => hk.2) (.int .i64 t332)) (fun _ hk => hk.2) (.int .i64 t333)) (fun _ hk => hk.2) (.slice Ao53 t334.length co53)) (fun _ h_ => h_.1))))) (below_size (be HB))); clear HO310 HO317 HO320 HO328 HO336 BK300 BK301 BK329 BK337 HB; have HO310 := n0_; have HO317 := n1_; have HO320 := n2_; have HO328 := n3_; have HO336 := n4_; have BK300 := n6_; have BK301 := n7_; have BK329 := n8_; have BK337 := n9_; have HB := n10_; clear n0_ n1_ n2_ n3_ n4_ n6_ n7_ n8_ n9_ n10_; (try clear hb); (try clear hb2); (try clear hk); (try clear hi); (try clear ho0)))
   (try simp only [putL])
   go_cut [53] (fun v53 wc => ∃ (kq : Nat) (x53_24 : Bool), v53 = .bool x53_24 ∧ Aside0 (laws_FnExactChanges.j0 kq t318 t321 t338 t341 x53_24 a0_0 a0_1 a0_2 a0_3 l0_4 a1_0 a1_1 a1_2 a1_3 l1_4 t322 t323 t324 t325 t326 t330 t331 t332 t333 t334 = some r) ∧ Aside0 (kq ≤ k) ∧ Aside0 (Kd.R k44 44 wc w.heap.size (fun k_ => some k_ ≠ (v339 : Value).ownBlock) v319 t318) ∧ Aside0 (Kd.R k44 44 wc w.heap.size (fun k_ => some k_ ≠ (v319 : Value).ownBlock) v339 t338) ∧ Aside0 (Kd.R k125 125 wc w.heap.size (fun k_ => some k_ ≠ ((.slice Ao53 t334.length co53) : Value).ownBlock) (.slice Ao45 t326.length co45) t326) ∧ Aside0 (Kd.R k125 125 wc w.heap.size (fun k_ => some k_ ≠ ((.slice Ao45 t326.length co45) : Value).ownBlock) (.slice Ao53 t334.length co53) t334) ∧ Aside0 (wc.heap[gb300]? = some (.cells #[.int .i64 a0_0, .int .i64 a0_1, .int .i64 a0_2, .int .i64 a0_3, (.slice A0_4 l0_4.length c0_4)] 56 (0, 0))) ∧ Aside0 (wc.heap[gb301]? = some (.cells #[.int .i64 a1_0, .int .i64 a1_1, .int .i64 a1_2, .int .i64 a1_3, (.slice A1_4 l1_4.length c1_4)] 56 (0, 0))) ∧ Aside0 (wc.heap[gb329]? = some (.cells #[.int .i64 t322, .int .i64 t323, .int .i64 t324, .int .i64 t325, (.slice Ao45 t326.length co45)] 62 (0, 0))) ∧ Aside0 (wc.heap[gb337]? = some (.cells #[.int .i64 t330, .int .i64 t331, .int .i64 t332, .int .i64 t333, (.slice Ao53 t334.length co53)] 62 (0, 0))) ∧ Aside0 (Below w.heap.size w wc))
   case first =>
    have H := HC25.out; clear HC25; replace H := Option.bind_eq_some_iff.mp H
    obtain ⟨t342, A560, H⟩ := H
    replace H : (if t342 = true then (laws_FnExactChanges.j0 k t318 t321 t338 t341 (t341 != t321) a0_0 a0_1 a0_2 a0_3 l0_4 a1_0 a1_1 a1_2 a1_3 l1_4 t322 t323 t324 t325 t326 t330 t331 t332 t333 t334) else (laws_FnExactChanges.j0 k t318 t321 t338 t341 true a0_0 a0_1 a0_2 a0_3 l0_4 a1_0 a1_1 a1_2 a1_3 l1_4 t322 t323 t324 t325 t326 t330 t331 t332 t333 t334)) = some r := H
    have A56 := Aside0.mk A560
    clear A560
    by_cases c57 : t342 = true
    ·subst c57
     have H1 : (laws_FnExactChanges.j0 k t318 t321 t338 t341 (t341 != t321) a0_0 a0_1 a0_2 a0_3 l0_4 a1_0 a1_1 a1_2 a1_3 l1_4 t322 t323 t324 t325 t326 t330 t331 t332 t333 t334) = some r := by rw [if_pos rfl] at H; exact H
     clear H; have H := H1
     clear H1; have H' := Aside0.mk H
     clear H; obtain ⟨Ao58, co58, eo58⟩ := Kd.R_slice HO340.out
     subst eo58
     obtain ⟨Ao59, co59, eo59⟩ := Kd.R_slice HO320.out
     subst eo59
     go_wp2_with (first | ((with_reducible refine gate_callee (f := 58) rfl ?_); refine goesL_ (some 47) rfl rfl Try.func58 (by kernel_rfl) rfl #[.slice Ao58 t338.length co58, .slice Ao59 t318.length co59] rfl (by (try simp only [List.map_toArray, List.map_cons, List.map_nil]); first | done | rfl | (simp only [List.length_drop, List.length_take]; rfl)) ?_; (with_reducible refine (laws_eqRecS.calls k _ _ t338 _ _ t318 true _ ?side1 ?side2 ?side3 ?side4 A56.out).mono ?_); (case side1 => repeat (first | exact (Kd.R_reads' HO340.out).2.2 | (with_reducible refine Kd.C_alloc ?_ _) | (with_reducible refine Kd.C_drewN ?_ _) | (with_reducible refine Kd.C_drew ?_))); (case side2 => exact (Kd.R_reads' HO340.out).2.1); (case side3 => repeat (first | exact (Kd.R_reads' HO320.out).2.2 | (with_reducible refine Kd.C_alloc ?_ _) | (with_reducible refine Kd.C_drewN ?_ _) | (with_reducible refine Kd.C_drew ?_))); (case side4 => exact (Kd.R_reads' HO320.out).2.1); rintro e w60 ⟨rfl, hb⟩; refine ⟨_, rfl, ?_⟩; have n10_ := Aside0.mk (below_step (be HB) hb); replace HO310 := Aside0.mk (Kd.R_below (rr HO310) hb); replace HO317 := Aside0.mk (Kd.R_below (rr HO317) hb); replace HO320 := Aside0.mk (Kd.R_below (rr HO320) hb); replace HO328 := Aside0.mk (Kd.R_below (rr HO328) hb); replace HO336 := Aside0.mk (Kd.R_below (rr HO336) hb); replace HO340 := Aside0.mk (Kd.R_below (rr HO340) hb); replace BK300 := bq BK300 hb; replace BK301 := bq BK301 hb; replace BK329 := bq BK329 hb; replace BK337 := bq BK337 hb; clear HB; have HB := n10_; clear n10_; (try clear hb); (try clear hb2); (try clear hk); (try clear hi)))
     go_meet
     case rel => exact ⟨_, ((t341 != t321)), (by first | rfl | (simp; done) | (simp [*]; done)), H', ⟨by first | omega | exact Nat.le_refl _⟩, ⟨by (with_reducible repeat (first | apply Kd.R_alloc | apply Kd.R_drewN | apply Kd.R_drew)); exact Kd.R_mono HO320.out (fun _ hk => hk.2)⟩, ⟨by (with_reducible repeat (first | apply Kd.R_alloc | apply Kd.R_drewN | apply Kd.R_drew)); exact Kd.R_mono HO340.out (fun _ hk => hk.2)⟩, ⟨by (with_reducible repeat (first | apply Kd.R_alloc | apply Kd.R_drewN | apply Kd.R_drew)); exact Kd.R_mono HO328.out (fun _ hk => hk.2)⟩, ⟨by (with_reducible repeat (first | apply Kd.R_alloc | apply Kd.R_drewN | apply Kd.R_drew)); exact Kd.R_mono HO336.out (fun _ hk => hk.2)⟩, ⟨bb BK300⟩, ⟨bb BK301⟩, ⟨bb BK329⟩, ⟨bb BK337⟩, ⟨by repeat (first | (with_reducible first | exact HB.out | apply below_alloc | apply pw_below_drewN | apply below_drew1 | refine below_set ?_ GE300.out | refine below_set ?_ GE301.out | refine below_set ?_ GE329.out | refine below_set ?_ GE337.out) | exact HB.out)⟩⟩
    ·replace c57 := Bool.eq_false_iff.mpr c57
     subst c57
     have H1 : (laws_FnExactChanges.j0 k t318 t321 t338 t341 true a0_0 a0_1 a0_2 a0_3 l0_4 a1_0 a1_1 a1_2 a1_3 l1_4 t322 t323 t324 t325 t326 t330 t331 t332 t333 t334) = some r := by rw [if_neg (show ¬ (false = true) by decide)] at H; exact H
     clear H; have H := H1
     clear H1; have H' := Aside0.mk H
     clear H; obtain ⟨Ao61, co61, eo61⟩ := Kd.R_slice HO340.out
     subst eo61
     obtain ⟨Ao62, co62, eo62⟩ := Kd.R_slice HO320.out
     subst eo62
     go_wp2_with (first | ((with_reducible refine gate_callee (f := 58) rfl ?_); refine goesL_ (some 47) rfl rfl Try.func58 (by kernel_rfl) rfl #[.slice Ao61 t338.length co61, .slice Ao62 t318.length co62] rfl (by (try simp only [List.map_toArray, List.map_cons, List.map_nil]); first | done | rfl | (simp only [List.length_drop, List.length_take]; rfl)) ?_; (with_reducible refine (laws_eqRecS.calls k _ _ t338 _ _ t318 false _ ?side1 ?side2 ?side3 ?side4 A56.out).mono ?_); (case side1 => repeat (first | exact (Kd.R_reads' HO340.out).2.2 | (with_reducible refine Kd.C_alloc ?_ _) | (with_reducible refine Kd.C_drewN ?_ _) | (with_reducible refine Kd.C_drew ?_))); (case side2 => exact (Kd.R_reads' HO340.out).2.1); (case side3 => repeat (first | exact (Kd.R_reads' HO320.out).2.2 | (with_reducible refine Kd.C_alloc ?_ _) | (with_reducible refine Kd.C_drewN ?_ _) | (with_reducible refine Kd.C_drew ?_))); (case side4 => exact (Kd.R_reads' HO320.out).2.1); rintro e w63 ⟨rfl, hb⟩; refine ⟨_, rfl, ?_⟩; have n10_ := Aside0.mk (below_step (be HB) hb); replace HO310 := Aside0.mk (Kd.R_below (rr HO310) hb); replace HO317 := Aside0.mk (Kd.R_below (rr HO317) hb); replace HO320 := Aside0.mk (Kd.R_below (rr HO320) hb); replace HO328 := Aside0.mk (Kd.R_below (rr HO328) hb); replace HO336 := Aside0.mk (Kd.R_below (rr HO336) hb); replace HO340 := Aside0.mk (Kd.R_below (rr HO340) hb); replace BK300 := bq BK300 hb; replace BK301 := bq BK301 hb; replace BK329 := bq BK329 hb; replace BK337 := bq BK337 hb; clear HB; have HB := n10_; clear n10_; (try clear hb); (try clear hb2); (try clear hk); (try clear hi)))
     go_meet
     case rel => exact ⟨_, (true), (by first | rfl | (simp; done) | (simp [*]; done)), H', ⟨by first | omega | exact Nat.le_refl _⟩, ⟨by (with_reducible repeat (first | apply Kd.R_alloc | apply Kd.R_drewN | apply Kd.R_drew)); exact Kd.R_mono HO320.out (fun _ hk => hk.2)⟩, ⟨by (with_reducible repeat (first | apply Kd.R_alloc | apply Kd.R_drewN | apply Kd.R_drew)); exact Kd.R_mono HO340.out (fun _ hk => hk.2)⟩, ⟨by (with_reducible repeat (first | apply Kd.R_alloc | apply Kd.R_drewN | apply Kd.R_drew)); exact Kd.R_mono HO328.out (fun _ hk => hk.2)⟩, ⟨by (with_reducible repeat (first | apply Kd.R_alloc | apply Kd.R_drewN | apply Kd.R_drew)); exact Kd.R_mono HO336.out (fun _ hk => hk.2)⟩, ⟨bb BK300⟩, ⟨bb BK301⟩, ⟨bb BK329⟩, ⟨bb BK337⟩, ⟨by repeat (first | (with_reducible first | exact HB.out | apply below_alloc | apply pw_below_drewN | apply below_drew1 | refine below_set ?_ GE300.out | refine below_set ?_ GE301.out | refine below_set ?_ GE329.out | refine below_set ?_ GE337.out) | exact HB.out)⟩⟩
   case rest =>
    clear HC25; (try clear c1); (try clear c2); (try clear p2); (try clear c3); (try clear c4); (try clear c4b0); (try clear c5); (try clear c7); (try clear c11); (try clear c11b0); (try clear c13); (try clear c14); (try clear c28); (try clear c35); (try clear c38); (try clear c42); (try clear c43); (try clear c49); (try clear c50); (try clear c51); (try clear c56); (try clear c57); (try clear c58); (try clear hcz15_0); (try clear hcz15_1); (try clear hcz15_2); (try clear hcz15_3); (try clear hcz15_4); (try clear hcz17_0); (try clear hcz17_1); (try clear hcz17_2); (try clear hcz17_3); (try clear hcz17_4); (try clear hcz29_0); (try clear hcz29_1); (try clear hcz29_2); (try clear hcz29_3); (try clear hcz29_4); (try clear hcz31_0); (try clear hcz31_1); (try clear hcz31_2); (try clear hcz31_3); (try clear hcz31_4); (try clear hcz39_0); (try clear hcz39_1); (try clear hcz39_2); (try clear hcz39_3); (try clear hcz39_4); (try clear hcz44_0); (try clear hcz44_1); (try clear hcz44_2); (try clear hcz44_3); (try clear hcz44_4); (try clear hcz46_0); (try clear hcz46_1); (try clear hcz46_2); (try clear hcz46_3); (try clear hcz46_4); (try clear hcz52_0); (try clear hcz52_1); (try clear hcz52_2); (try clear hcz52_3); (try clear hcz52_4); (try clear hcz54_0); (try clear hcz54_1); (try clear hcz54_2); (try clear hcz54_3); (try clear hcz54_4); (try clear hcz8_0); (try clear hcz8_1); (try clear hcz8_2); (try clear hcz8_3); (try clear hcz8_4); (try clear hfz15_0); (try clear hfz15_1); (try clear hfz15_2); (try clear hfz15_3); (try clear hfz15_4); (try clear hfz17_0); (try clear hfz17_1); (try clear hfz17_2); (try clear hfz17_3); (try clear hfz17_4); (try clear hfz29_0); (try clear hfz29_1); (try clear hfz29_2); (try clear hfz29_3); (try clear hfz29_4); (try clear hfz31_0); (try clear hfz31_1); (try clear hfz31_2); (try clear hfz31_3); (try clear hfz31_4); (try clear hfz39_0); (try clear hfz39_1); (try clear hfz39_2); (try clear hfz39_3); (try clear hfz39_4); (try clear hfz44_0); (try clear hfz44_1); (try clear hfz44_2); (try clear hfz44_3); (try clear hfz44_4); (try clear hfz46_0); (try clear hfz46_1); (try clear hfz46_2); (try clear hfz46_3); (try clear hfz46_4); (try clear hfz52_0); (try clear hfz52_1); (try clear hfz52_2); (try clear hfz52_3); (try clear hfz52_4); (try clear hfz54_0); (try clear hfz54_1); (try clear hfz54_2); (try clear hfz54_3); (try clear hfz54_4); (try clear hfz8_0); (try clear hfz8_1); (try clear hfz8_2); (try clear hfz8_3); (try clear hfz8_4); obtain ⟨kq, x53_24, rfl, HA, HJ24, HO_6, HO_10, HO_330004, HO_338004, BK300, BK301, BK329, BK337, HB⟩ := hcut
    cases kq with
    | zero => exact absurd HA.out (by simp [laws_FnExactChanges.j0])
    | succ kj24 =>
     have H := HA.out; clear HA; simp only [laws_FnExactChanges.j0] at H
     by_cases c64 : x53_24 = true
     ·subst c64
      have H1 : (none) = some r := by rw [if_pos rfl] at H; exact H
      clear H; have H := H1
      clear H1; exact absurd H (by simp)
     ·replace c64 := Bool.eq_false_iff.mpr c64
      subst c64
      have H1 : ((laws_toWal.f kj24 a0_0 a0_1 a0_2 a0_3 l0_4).bind fun bt343 => ((laws_eqWal.f kj24 t322 t323 t324 t325 t326 bt343.1 bt343.2.1 bt343.2.2.1 bt343.2.2.2.1 bt343.2.2.2.2).bind fun t350 => (if t350 = true then ((laws_toWal.f kj24 a1_0 a1_1 a1_2 a1_3 l1_4).bind fun bt351 => ((laws_eqWal.f kj24 t330 t331 t332 t333 t334 bt351.1 bt351.2.1 bt351.2.2.1 bt351.2.2.2.1 bt351.2.2.2.2).bind fun t358 => (if t358 = true then ((laws_markWal.f kj24 t322 t323 t324 t325 t326 1).bind fun bt359 => ((laws_markWal.f kj24 t330 t331 t332 t333 t334 bt359.1).bind fun bt361 => (if bt361.1 < 0 then (laws_FnExactChanges.j1 kj24 t318 t321 t338 true a0_0 a0_1 a0_2 a0_3 l0_4 a1_0 a1_1 a1_2 a1_3 l1_4) else ((laws_eqRecS.f kj24 t338 t318).bind fun t363 => (if t363 = true then (laws_FnExactChanges.j1 kj24 t318 t321 t338 (t341 != t321) a0_0 a0_1 a0_2 a0_3 l0_4 a1_0 a1_1 a1_2 a1_3 l1_4) else (laws_FnExactChanges.j1 kj24 t318 t321 t338 true a0_0 a0_1 a0_2 a0_3 l0_4 a1_0 a1_1 a1_2 a1_3 l1_4)))))) else (none)))) else (none)))) = some r := by rw [if_neg (show ¬ (false = true) by decide)] at H; exact H
      clear H; have H := H1
      clear H1; replace H := Option.bind_eq_some_iff.mp H
      obtain ⟨⟨t343, t344, t345, t346, t347⟩, A650, H⟩ := H
      replace H : ((laws_eqWal.f kj24 t322 t323 t324 t325 t326 t343 t344 t345 t346 t347).bind fun t350 => (if t350 = true then ((laws_toWal.f kj24 a1_0 a1_1 a1_2 a1_3 l1_4).bind fun bt351 => ((laws_eqWal.f kj24 t330 t331 t332 t333 t334 bt351.1 bt351.2.1 bt351.2.2.1 bt351.2.2.2.1 bt351.2.2.2.2).bind fun t358 => (if t358 = true then ((laws_markWal.f kj24 t322 t323 t324 t325 t326 1).bind fun bt359 => ((laws_markWal.f kj24 t330 t331 t332 t333 t334 bt359.1).bind fun bt361 => (if bt361.1 < 0 then (laws_FnExactChanges.j1 kj24 t318 t321 t338 true a0_0 a0_1 a0_2 a0_3 l0_4 a1_0 a1_1 a1_2 a1_3 l1_4) else ((laws_eqRecS.f kj24 t338 t318).bind fun t363 => (if t363 = true then (laws_FnExactChanges.j1 kj24 t318 t321 t338 (t341 != t321) a0_0 a0_1 a0_2 a0_3 l0_4 a1_0 a1_1 a1_2 a1_3 l1_4) else (laws_FnExactChanges.j1 kj24 t318 t321 t338 true a0_0 a0_1 a0_2 a0_3 l0_4 a1_0 a1_1 a1_2 a1_3 l1_4)))))) else (none)))) else (none))) = some r := H
      have A65 := Aside0.mk A650
      clear A650; replace H := Option.bind_eq_some_iff.mp H
      obtain ⟨t350, A660, H⟩ := H
      replace H : (if t350 = true then ((laws_toWal.f kj24 a1_0 a1_1 a1_2 a1_3 l1_4).bind fun bt351 => ((laws_eqWal.f kj24 t330 t331 t332 t333 t334 bt351.1 bt351.2.1 bt351.2.2.1 bt351.2.2.2.1 bt351.2.2.2.2).bind fun t358 => (if t358 = true then ((laws_markWal.f kj24 t322 t323 t324 t325 t326 1).bind fun bt359 => ((laws_markWal.f kj24 t330 t331 t332 t333 t334 bt359.1).bind fun bt361 => (if bt361.1 < 0 then (laws_FnExactChanges.j1 kj24 t318 t321 t338 true a0_0 a0_1 a0_2 a0_3 l0_4 a1_0 a1_1 a1_2 a1_3 l1_4) else ((laws_eqRecS.f kj24 t338 t318).bind fun t363 => (if t363 = true then (laws_FnExactChanges.j1 kj24 t318 t321 t338 (t341 != t321) a0_0 a0_1 a0_2 a0_3 l0_4 a1_0 a1_1 a1_2 a1_3 l1_4) else (laws_FnExactChanges.j1 kj24 t318 t321 t338 true a0_0 a0_1 a0_2 a0_3 l0_4 a1_0 a1_1 a1_2 a1_3 l1_4)))))) else (none)))) else (none)) = some r := H
      have A66 := Aside0.mk A660
      clear A660
      by_cases c67 : t350 = true
      ·subst c67
       have H1 : ((laws_toWal.f kj24 a1_0 a1_1 a1_2 a1_3 l1_4).bind fun bt351 => ((laws_eqWal.f kj24 t330 t331 t332 t333 t334 bt351.1 bt351.2.1 bt351.2.2.1 bt351.2.2.2.1 bt351.2.2.2.2).bind fun t358 => (if t358 = true then ((laws_markWal.f kj24 t322 t323 t324 t325 t326 1).bind fun bt359 => ((laws_markWal.f kj24 t330 t331 t332 t333 t334 bt359.1).bind fun bt361 => (if bt361.1 < 0 then (laws_FnExactChanges.j1 kj24 t318 t321 t338 true a0_0 a0_1 a0_2 a0_3 l0_4 a1_0 a1_1 a1_2 a1_3 l1_4) else ((laws_eqRecS.f kj24 t338 t318).bind fun t363 => (if t363 = true then (laws_FnExactChanges.j1 kj24 t318 t321 t338 (t341 != t321) a0_0 a0_1 a0_2 a0_3 l0_4 a1_0 a1_1 a1_2 a1_3 l1_4) else (laws_FnExactChanges.j1 kj24 t318 t321 t338 true a0_0 a0_1 a0_2 a0_3 l0_4 a1_0 a1_1 a1_2 a1_3 l1_4)))))) else (none)))) = some r := by rw [if_pos rfl] at H; exact H
       clear H; have H := H1
       clear H1; replace H := Option.bind_eq_some_iff.mp H
       obtain ⟨⟨t351, t352, t353, t354, t355⟩, A680, H⟩ := H
       replace H : ((laws_eqWal.f kj24 t330 t331 t332 t333 t334 t351 t352 t353 t354 t355).bind fun t358 => (if t358 = true then ((laws_markWal.f kj24 t322 t323 t324 t325 t326 1).bind fun bt359 => ((laws_markWal.f kj24 t330 t331 t332 t333 t334 bt359.1).bind fun bt361 => (if bt361.1 < 0 then (laws_FnExactChanges.j1 kj24 t318 t321 t338 true a0_0 a0_1 a0_2 a0_3 l0_4 a1_0 a1_1 a1_2 a1_3 l1_4) else ((laws_eqRecS.f kj24 t338 t318).bind fun t363 => (if t363 = true then (laws_FnExactChanges.j1 kj24 t318 t321 t338 (t341 != t321) a0_0 a0_1 a0_2 a0_3 l0_4 a1_0 a1_1 a1_2 a1_3 l1_4) else (laws_FnExactChanges.j1 kj24 t318 t321 t338 true a0_0 a0_1 a0_2 a0_3 l0_4 a1_0 a1_1 a1_2 a1_3 l1_4)))))) else (none))) = some r := H
       have A68 := Aside0.mk A680
       clear A680; replace H := Option.bind_eq_some_iff.mp H
       obtain ⟨t358, A690, H⟩ := H
       replace H : (if t358 = true then ((laws_markWal.f kj24 t322 t323 t324 t325 t326 1).bind fun bt359 => ((laws_markWal.f kj24 t330 t331 t332 t333 t334 bt359.1).bind fun bt361 => (if bt361.1 < 0 then (laws_FnExactChanges.j1 kj24 t318 t321 t338 true a0_0 a0_1 a0_2 a0_3 l0_4 a1_0 a1_1 a1_2 a1_3 l1_4) else ((laws_eqRecS.f kj24 t338 t318).bind fun t363 => (if t363 = true then (laws_FnExactChanges.j1 kj24 t318 t321 t338 (t341 != t321) a0_0 a0_1 a0_2 a0_3 l0_4 a1_0 a1_1 a1_2 a1_3 l1_4) else (laws_FnExactChanges.j1 kj24 t318 t321 t338 true a0_0 a0_1 a0_2 a0_3 l0_4 a1_0 a1_1 a1_2 a1_3 l1_4)))))) else (none)) = some r := H
       have A69 := Aside0.mk A690
       clear A690
       by_cases c70 : t358 = true
       ·subst c70
        have H1 : ((laws_markWal.f kj24 t322 t323 t324 t325 t326 1).bind fun bt359 => ((laws_markWal.f kj24 t330 t331 t332 t333 t334 bt359.1).bind fun bt361 => (if bt361.1 < 0 then (laws_FnExactChanges.j1 kj24 t318 t321 t338 true a0_0 a0_1 a0_2 a0_3 l0_4 a1_0 a1_1 a1_2 a1_3 l1_4) else ((laws_eqRecS.f kj24 t338 t318).bind fun t363 => (if t363 = true then (laws_FnExactChanges.j1 kj24 t318 t321 t338 (t341 != t321) a0_0 a0_1 a0_2 a0_3 l0_4 a1_0 a1_1 a1_2 a1_3 l1_4) else (laws_FnExactChanges.j1 kj24 t318 t321 t338 true a0_0 a0_1 a0_2 a0_3 l0_4 a1_0 a1_1 a1_2 a1_3 l1_4)))))) = some r := by rw [if_pos rfl] at H; exact H
        clear H; have H := H1
        clear H1; replace H := Option.bind_eq_some_iff.mp H
        obtain ⟨⟨t359, t360⟩, A710, H⟩ := H
        replace H : ((laws_markWal.f kj24 t330 t331 t332 t333 t334 t359).bind fun bt361 => (if bt361.1 < 0 then (laws_FnExactChanges.j1 kj24 t318 t321 t338 true a0_0 a0_1 a0_2 a0_3 l0_4 a1_0 a1_1 a1_2 a1_3 l1_4) else ((laws_eqRecS.f kj24 t338 t318).bind fun t363 => (if t363 = true then (laws_FnExactChanges.j1 kj24 t318 t321 t338 (t341 != t321) a0_0 a0_1 a0_2 a0_3 l0_4 a1_0 a1_1 a1_2 a1_3 l1_4) else (laws_FnExactChanges.j1 kj24 t318 t321 t338 true a0_0 a0_1 a0_2 a0_3 l0_4 a1_0 a1_1 a1_2 a1_3 l1_4))))) = some r := H
        have A71 := Aside0.mk A710
        clear A710; replace H := Option.bind_eq_some_iff.mp H
        obtain ⟨⟨t361, t362⟩, A720, H⟩ := H
        replace H : (if t361 < 0 then (laws_FnExactChanges.j1 kj24 t318 t321 t338 true a0_0 a0_1 a0_2 a0_3 l0_4 a1_0 a1_1 a1_2 a1_3 l1_4) else ((laws_eqRecS.f kj24 t338 t318).bind fun t363 => (if t363 = true then (laws_FnExactChanges.j1 kj24 t318 t321 t338 (t341 != t321) a0_0 a0_1 a0_2 a0_3 l0_4 a1_0 a1_1 a1_2 a1_3 l1_4) else (laws_FnExactChanges.j1 kj24 t318 t321 t338 true a0_0 a0_1 a0_2 a0_3 l0_4 a1_0 a1_1 a1_2 a1_3 l1_4)))) = some r := H
        have A72 := Aside0.mk A720
        clear A720; have HC73 := Aside0.mk H
        clear H
        try go_wp2
        have n0_ := Aside0.mk (Kd.R_drew HO_6.out)
        have n1_ := Aside0.mk (Kd.R_drew HO_10.out)
        have n2_ := Aside0.mk (Kd.R_drew HO_330004.out)
        have n3_ := Aside0.mk (Kd.R_drew HO_338004.out)
        have n4_ := Aside0.mk (blk_drew BK300.out)
        have n5_ := Aside0.mk (blk_drew BK301.out)
        have n6_ := Aside0.mk (blk_drew BK329.out)
        have n7_ := Aside0.mk (blk_drew BK337.out)
        have n8_ := Aside0.mk (below_drew1 HB.out)
        clear HO_6 HO_10 HO_330004 HO_338004 BK300 BK301 BK329 BK337 HB; have HO_6 := n0_; have HO_10 := n1_; have HO_330004 := n2_; have HO_338004 := n3_; have BK300 := n4_; have BK301 := n5_; have BK329 := n6_; have BK337 := n7_; have HB := n8_; clear n0_ n1_ n2_ n3_ n4_ n5_ n6_ n7_ n8_; refine start_ (n := 5) (S := fun w' => w'.cell? ⟨gb329, 0, none⟩ = some (.int .i64 t322) ∧ w'.cell? ⟨gb329, 1, none⟩ = some (.int .i64 t323) ∧ w'.cell? ⟨gb329, 2, none⟩ = some (.int .i64 t324) ∧ w'.cell? ⟨gb329, 3, none⟩ = some (.int .i64 t325) ∧ w'.cell? ⟨gb329, 4, none⟩ = some (.slice Ao45 t326.length co45) ∧ w'.cell? ⟨gb300, 0, none⟩ = some (.int .i64 a0_0) ∧ w'.cell? ⟨gb300, 1, none⟩ = some (.int .i64 a0_1) ∧ w'.cell? ⟨gb300, 2, none⟩ = some (.int .i64 a0_2) ∧ w'.cell? ⟨gb300, 3, none⟩ = some (.int .i64 a0_3) ∧ w'.cell? ⟨gb300, 4, none⟩ = some (.slice A0_4 l0_4.length c0_4)) (ds := []) #[ff,ff,ff,ff,ff] (by kernel_rfl) rfl rfl ⟨bc BK329 0, bc BK329 1, bc BK329 2, bc BK329 3, bc BK329 4, bc BK300 0, bc BK300 1, bc BK300 2, bc BK300 3, bc BK300 4⟩ (fun hHeld => ?_)
        generalize wc.drew = w74 at HO_6 HO_10 HO_330004 HO_338004 BK300 BK301 BK329 BK337 HB hHeld ⊢
        refine take_ (i := 0) (N := some 54) (v := ?_) (a' := ?_) #[tt,ff,ff,ff,ff] rfl rfl (by kernel_rfl) (fun _ _ _ h => h) (Or.inl ⟨by rfl, ?_⟩) hHeld ?_ ?_
        rotate_left
        ·rintro w' ⟨s0, s1, s2, s3, s4, s5, s6, s7, s8, s9⟩
         go_simp; with_reducible rfl
        rotate_left
        ·simp only [putL, i64_w, i32_w]; rfl
        refine take_ (i := 1) (N := some 55) (v := ?_) (a' := ?_) #[tt,tt,ff,ff,ff] rfl rfl (by kernel_rfl) (fun _ _ _ h => h) (Or.inl ⟨by rfl, ?_⟩) hHeld ?_ ?_
        rotate_left
        ·rintro w' ⟨s0, s1, s2, s3, s4, s5, s6, s7, s8, s9⟩
         go_simp; with_reducible rfl
        rotate_left
        ·simp only [putL, i64_w, i32_w]; rfl
        refine one_ (i := 2) (N := some 56) #[tt,tt,tt,ff,ff] rfl rfl (by kernel_rfl) (by decide) (fun K hK => ?_)
        refine goes_ Try.func38 (by kernel_rfl) rfl #[.agg #[.int .i64 a0_0, .int .i64 a0_1, .int .i64 a0_2, .int .i64 a0_3, .slice A0_4 l0_4.length c0_4]] (by rfl) rfl rfl (by (try simp only [List.map_toArray, List.map_cons, List.map_nil]); first | done | rfl | (simp only [List.length_drop, List.length_take]; rfl)) ?_
        with_reducible refine (laws_toWal.calls kj24 a0_0 a0_1 a0_2 a0_3 _ _ l0_4 t343 t344 t345 t346 t347 _ ?side1 ?side2 A65.out).mono ?_
        (case side1 => repeat (first | exact (Kd.C_below HR0_4.out HB.out) | (with_reducible refine Kd.C_alloc ?_ _) | (with_reducible refine Kd.C_drewN ?_ _) | (with_reducible refine Kd.C_drew ?_)))
        (case side2 => exact HC0_4.out)
        rintro e w75 ⟨v348, rfl, ho0, hb⟩
        refine ⟨_, rfl, ?_⟩
        have n2_ := Aside0.mk (Kd.R_elder' (rr HO_330004) (Kd.R_base ho0) hb)
        have n3_ := Aside0.mk (Kd.R_elder' (rr HO_338004) (Kd.R_base ho0) hb)
        have n9_ := Aside0.mk (below_step (be HB) hb)
        have HO349 := Aside0.mk (Kd.R_lower (Kd.R_new' (Kd.R_new' ho0 (Kd.R_lt (rr HO_330004))) (Kd.R_lt (rr HO_338004))) (below_size (be HB)))
        replace HO_6 := Aside0.mk (Kd.R_below (rr HO_6) hb); replace HO_10 := Aside0.mk (Kd.R_below (rr HO_10) hb); replace BK300 := bq BK300 hb; replace BK301 := bq BK301 hb; replace BK329 := bq BK329 hb; replace BK337 := bq BK337 hb; clear HO_330004 HO_338004 HB; have HO_330004 := n2_; have HO_338004 := n3_; have HB := n9_; clear n2_ n3_ n9_; (try clear hb); (try clear hb2); (try clear hk); (try clear hi); (try clear ho0); obtain ⟨Ao76, co76, eo76⟩ := Kd.R_slice HO349.out
        (first | subst eo76 | (injection eo76 with f1_ f2_ f3_; have f4_ := f1_.symm; have f5_ := f3_.symm; clear f1_ f2_ f3_; subst f4_; subst f5_))
        refine hK.out _ _ ⟨bc BK329 0, bc BK329 1, bc BK329 2, bc BK329 3, bc BK329 4, bc BK300 0, bc BK300 1, bc BK300 2, bc BK300 3, bc BK300 4⟩ (fun hHeld => ?_)
        clear hK K; refine norm_ (a' := ?_) ?_ ?_
        rotate_left
        ·show Act.put _ (some 56) _ = _
         simp only [putL, i64_w, i32_w]; rfl
        refine one_ (i := 3) (N := some 57) #[tt,tt,tt,tt,ff] rfl rfl (by kernel_rfl) (by decide) (fun K hK => ?_)
        refine goes_ Try.func41 (by kernel_rfl) rfl #[.agg #[.int .i64 t322, .int .i64 t323, .int .i64 t324, .int .i64 t325, .slice Ao45 t326.length co45], .agg #[.int .i64 t343, .int .i64 t344, .int .i64 t345, .int .i64 t346, .slice Ao76 t347.length co76]] (by rfl) rfl rfl (by (try simp only [List.map_toArray, List.map_cons, List.map_nil]); first | done | rfl | (simp only [List.length_drop, List.length_take]; rfl)) ?_
        with_reducible refine (laws_eqWal.calls kj24 t322 t323 t324 t325 _ _ t326 t343 t344 t345 t346 _ _ t347 true _ ?side1 ?side2 ?side3 ?side4 A66.out).mono ?_
        (case side1 => repeat (first | exact (Kd.R_reads' HO_330004.out).2.2 | (with_reducible refine Kd.C_alloc ?_ _) | (with_reducible refine Kd.C_drewN ?_ _) | (with_reducible refine Kd.C_drew ?_)))
        (case side2 => exact (Kd.R_reads' HO_330004.out).2.1)
        (case side3 => repeat (first | exact (Kd.R_reads' HO349.out).2.2 | (with_reducible refine Kd.C_alloc ?_ _) | (with_reducible refine Kd.C_drewN ?_ _) | (with_reducible refine Kd.C_drew ?_)))
        (case side4 => exact (Kd.R_reads' HO349.out).2.1)
        rintro e w77 ⟨rfl, hb⟩
        refine ⟨_, rfl, ?_⟩
        have n9_ := Aside0.mk (below_step (be HB) hb)
        replace HO_6 := Aside0.mk (Kd.R_below (rr HO_6) hb); replace HO_10 := Aside0.mk (Kd.R_below (rr HO_10) hb); replace HO_330004 := Aside0.mk (Kd.R_below (rr HO_330004) hb); replace HO_338004 := Aside0.mk (Kd.R_below (rr HO_338004) hb); replace HO349 := Aside0.mk (Kd.R_below (rr HO349) hb); replace BK300 := bq BK300 hb; replace BK301 := bq BK301 hb; replace BK329 := bq BK329 hb; replace BK337 := bq BK337 hb; clear HB; have HB := n9_; clear n9_; (try clear hb); (try clear hb2); (try clear hk); (try clear hi); refine hK.out _ _ ⟨bc BK329 0, bc BK329 1, bc BK329 2, bc BK329 3, bc BK329 4, bc BK300 0, bc BK300 1, bc BK300 2, bc BK300 3, bc BK300 4⟩ (fun hHeld => ?_)
        clear hK K; refine norm_ (a' := ?_) ?_ ?_
        rotate_left
        ·show Act.put _ (some 57) _ = _
         simp only [putL, i64_w, i32_w]; rfl
        refine pure_ (i := 4) (N := some 58) (v := ?_) (a' := ?_) #[tt,tt,tt,tt,tt] rfl rfl (by kernel_rfl) (fun _ _ _ h => h) (Or.inl ⟨by rfl, ?_⟩) ?_ ?_
        rotate_left
        ·intro w'; go_simp; with_reducible rfl
        rotate_left
        ·simp only [putL, i64_w, i32_w]; rfl
        refine done_ (by kernel_rfl) ?_
        try go_wp2
        have n0_ := Aside0.mk (Kd.R_drew HO_6.out)
        have n1_ := Aside0.mk (Kd.R_drew HO_10.out)
        have n2_ := Aside0.mk (Kd.R_drew HO_330004.out)
        have n3_ := Aside0.mk (Kd.R_drew HO_338004.out)
        have n4_ := Aside0.mk (Kd.R_drew HO349.out)
        have n5_ := Aside0.mk (blk_drew BK300.out)
        have n6_ := Aside0.mk (blk_drew BK301.out)
        have n7_ := Aside0.mk (blk_drew BK329.out)
        have n8_ := Aside0.mk (blk_drew BK337.out)
        have n9_ := Aside0.mk (below_drew1 HB.out)
        clear HO_6 HO_10 HO_330004 HO_338004 HO349 BK300 BK301 BK329 BK337 HB; have HO_6 := n0_; have HO_10 := n1_; have HO_330004 := n2_; have HO_338004 := n3_; have HO349 := n4_; have BK300 := n5_; have BK301 := n6_; have BK329 := n7_; have BK337 := n8_; have HB := n9_; clear n0_ n1_ n2_ n3_ n4_ n5_ n6_ n7_ n8_ n9_; refine start_ (n := 5) (S := fun w' => w'.cell? ⟨gb337, 0, none⟩ = some (.int .i64 t330) ∧ w'.cell? ⟨gb337, 1, none⟩ = some (.int .i64 t331) ∧ w'.cell? ⟨gb337, 2, none⟩ = some (.int .i64 t332) ∧ w'.cell? ⟨gb337, 3, none⟩ = some (.int .i64 t333) ∧ w'.cell? ⟨gb337, 4, none⟩ = some (.slice Ao53 t334.length co53) ∧ w'.cell? ⟨gb301, 0, none⟩ = some (.int .i64 a1_0) ∧ w'.cell? ⟨gb301, 1, none⟩ = some (.int .i64 a1_1) ∧ w'.cell? ⟨gb301, 2, none⟩ = some (.int .i64 a1_2) ∧ w'.cell? ⟨gb301, 3, none⟩ = some (.int .i64 a1_3) ∧ w'.cell? ⟨gb301, 4, none⟩ = some (.slice A1_4 l1_4.length c1_4)) (ds := []) #[ff,ff,ff,ff,ff] (by kernel_rfl) rfl rfl ⟨bc BK337 0, bc BK337 1, bc BK337 2, bc BK337 3, bc BK337 4, bc BK301 0, bc BK301 1, bc BK301 2, bc BK301 3, bc BK301 4⟩ (fun hHeld => ?_)
        generalize w77.drew = w78 at HO_6 HO_10 HO_330004 HO_338004 HO349 BK300 BK301 BK329 BK337 HB hHeld ⊢
        refine take_ (i := 0) (N := some 59) (v := ?_) (a' := ?_) #[tt,ff,ff,ff,ff] rfl rfl (by kernel_rfl) (fun _ _ _ h => h) (Or.inl ⟨by rfl, ?_⟩) hHeld ?_ ?_
        rotate_left
        ·rintro w' ⟨s0, s1, s2, s3, s4, s5, s6, s7, s8, s9⟩
         go_simp; with_reducible rfl
        rotate_left
        ·simp only [putL, i64_w, i32_w]; rfl
        refine take_ (i := 1) (N := some 60) (v := ?_) (a' := ?_) #[tt,tt,ff,ff,ff] rfl rfl (by kernel_rfl) (fun _ _ _ h => h) (Or.inl ⟨by rfl, ?_⟩) hHeld ?_ ?_
        rotate_left
        ·rintro w' ⟨s0, s1, s2, s3, s4, s5, s6, s7, s8, s9⟩
         go_simp; with_reducible rfl
        rotate_left
        ·simp only [putL, i64_w, i32_w]; rfl
        refine one_ (i := 2) (N := some 61) #[tt,tt,tt,ff,ff] rfl rfl (by kernel_rfl) (by decide) (fun K hK => ?_)
        refine goes_ Try.func38 (by kernel_rfl) rfl #[.agg #[.int .i64 a1_0, .int .i64 a1_1, .int .i64 a1_2, .int .i64 a1_3, .slice A1_4 l1_4.length c1_4]] (by rfl) rfl rfl (by (try simp only [List.map_toArray, List.map_cons, List.map_nil]); first | done | rfl | (simp only [List.length_drop, List.length_take]; rfl)) ?_
        with_reducible refine (laws_toWal.calls kj24 a1_0 a1_1 a1_2 a1_3 _ _ l1_4 t351 t352 t353 t354 t355 _ ?side1 ?side2 A68.out).mono ?_
        (case side1 => repeat (first | exact (Kd.C_below HR1_4.out HB.out) | (with_reducible refine Kd.C_alloc ?_ _) | (with_reducible refine Kd.C_drewN ?_ _) | (with_reducible refine Kd.C_drew ?_)))
        (case side2 => exact HC1_4.out)
        rintro e w79 ⟨v356, rfl, ho0, hb⟩
        refine ⟨_, rfl, ?_⟩
        have n2_ := Aside0.mk (Kd.R_elder' (rr HO_330004) (Kd.R_base ho0) hb)
        have n3_ := Aside0.mk (Kd.R_elder' (rr HO_338004) (Kd.R_base ho0) hb)
        have n4_ := Aside0.mk (Kd.R_elder' (rr HO349) (Kd.R_base ho0) hb)
        have n10_ := Aside0.mk (below_step (be HB) hb)
        have HO357 := Aside0.mk (Kd.R_lower (Kd.R_new' (Kd.R_new' (Kd.R_new' ho0 (Kd.R_lt (rr HO_330004))) (Kd.R_lt (rr HO_338004))) (Kd.R_lt (rr HO349))) (below_size (be HB)))
        replace HO_6 := Aside0.mk (Kd.R_below (rr HO_6) hb); replace HO_10 := Aside0.mk (Kd.R_below (rr HO_10) hb); replace BK300 := bq BK300 hb; replace BK301 := bq BK301 hb; replace BK329 := bq BK329 hb; replace BK337 := bq BK337 hb; clear HO_330004 HO_338004 HO349 HB; have HO_330004 := n2_; have HO_338004 := n3_; have HO349 := n4_; have HB := n10_; clear n2_ n3_ n4_ n10_; (try clear hb); (try clear hb2); (try clear hk); (try clear hi); (try clear ho0); obtain ⟨Ao80, co80, eo80⟩ := Kd.R_slice HO357.out
        (first | subst eo80 | (injection eo80 with f1_ f2_ f3_; have f4_ := f1_.symm; have f5_ := f3_.symm; clear f1_ f2_ f3_; subst f4_; subst f5_))
        refine hK.out _ _ ⟨bc BK337 0, bc BK337 1, bc BK337 2, bc BK337 3, bc BK337 4, bc BK301 0, bc BK301 1, bc BK301 2, bc BK301 3, bc BK301 4⟩ (fun hHeld => ?_)
        clear hK K; refine norm_ (a' := ?_) ?_ ?_
        rotate_left
        ·show Act.put _ (some 61) _ = _
         simp only [putL, i64_w, i32_w]; rfl
        refine one_ (i := 3) (N := some 62) #[tt,tt,tt,tt,ff] rfl rfl (by kernel_rfl) (by decide) (fun K hK => ?_)
        refine goes_ Try.func41 (by kernel_rfl) rfl #[.agg #[.int .i64 t330, .int .i64 t331, .int .i64 t332, .int .i64 t333, .slice Ao53 t334.length co53], .agg #[.int .i64 t351, .int .i64 t352, .int .i64 t353, .int .i64 t354, .slice Ao80 t355.length co80]] (by rfl) rfl rfl (by (try simp only [List.map_toArray, List.map_cons, List.map_nil]); first | done | rfl | (simp only [List.length_drop, List.length_take]; rfl)) ?_
        with_reducible refine (laws_eqWal.calls kj24 t330 t331 t332 t333 _ _ t334 t351 t352 t353 t354 _ _ t355 true _ ?side1 ?side2 ?side3 ?side4 A69.out).mono ?_
        (case side1 => repeat (first | exact (Kd.R_reads' HO_338004.out).2.2 | (with_reducible refine Kd.C_alloc ?_ _) | (with_reducible refine Kd.C_drewN ?_ _) | (with_reducible refine Kd.C_drew ?_)))
        (case side2 => exact (Kd.R_reads' HO_338004.out).2.1)
        (case side3 => repeat (first | exact (Kd.R_reads' HO357.out).2.2 | (with_reducible refine Kd.C_alloc ?_ _) | (with_reducible refine Kd.C_drewN ?_ _) | (with_reducible refine Kd.C_drew ?_)))
        (case side4 => exact (Kd.R_reads' HO357.out).2.1)
        rintro e w81 ⟨rfl, hb⟩
        refine ⟨_, rfl, ?_⟩
        have n10_ := Aside0.mk (below_step (be HB) hb)
        replace HO_6 := Aside0.mk (Kd.R_below (rr HO_6) hb); replace HO_10 := Aside0.mk (Kd.R_below (rr HO_10) hb); replace HO_330004 := Aside0.mk (Kd.R_below (rr HO_330004) hb); replace HO_338004 := Aside0.mk (Kd.R_below (rr HO_338004) hb); replace HO349 := Aside0.mk (Kd.R_below (rr HO349) hb); replace HO357 := Aside0.mk (Kd.R_below (rr HO357) hb); replace BK300 := bq BK300 hb; replace BK301 := bq BK301 hb; replace BK329 := bq BK329 hb; replace BK337 := bq BK337 hb; clear HB; have HB := n10_; clear n10_; (try clear hb); (try clear hb2); (try clear hk); (try clear hi); refine hK.out _ _ ⟨bc BK337 0, bc BK337 1, bc BK337 2, bc BK337 3, bc BK337 4, bc BK301 0, bc BK301 1, bc BK301 2, bc BK301 3, bc BK301 4⟩ (fun hHeld => ?_)
        clear hK K; refine norm_ (a' := ?_) ?_ ?_
        rotate_left
        ·show Act.put _ (some 62) _ = _
         simp only [putL, i64_w, i32_w]; rfl
        refine pure_ (i := 4) (N := some 63) (v := ?_) (a' := ?_) #[tt,tt,tt,tt,tt] rfl rfl (by kernel_rfl) (fun _ _ _ h => h) (Or.inl ⟨by rfl, ?_⟩) ?_ ?_
        rotate_left
        ·intro w'; go_simp; with_reducible rfl
        rotate_left
        ·simp only [putL, i64_w, i32_w]; rfl
        refine done_ (by kernel_rfl) ?_
        have hnb82 := NB329_300.out; have hnc82 := NB300_329.out; have hnb83 := NB329_301.out; have hnc83 := NB301_329.out; have hnb84 := NB329_337.out; have hnc84 := NB337_329.out; obtain ⟨hcz85_0, hcz85_1, hcz85_2, hcz85_3, hcz85_4⟩ := cs5 BK329; obtain ⟨hfz85_0, hfz85_1, hfz85_2, hfz85_3, hfz85_4⟩ := fs5 BK329
        go_upto_region 21 with (first | ((with_reducible refine gate_callee (f := 42) rfl ?_); refine goesL_ (some 66) rfl rfl Try.func42 (by kernel_rfl) rfl #[.agg #[.int .i64 t322, .int .i64 t323, .int .i64 t324, .int .i64 t325, .slice Ao45 t326.length co45], .int .i64 1] rfl (by (try simp only [List.map_toArray, List.map_cons, List.map_nil]); first | done | rfl | (simp only [List.length_drop, List.length_take]; rfl)) ?_; (with_reducible refine (laws_markWal.calls kj24 t322 t323 t324 t325 (fun k_ => some k_ = (.slice Ao45 t326.length co45 : Value).ownBlock) (.slice Ao45 t326.length co45) t326 1 t359 t360 w _ ?side1 ?side2 A71.out).mono ?_); (case side1 => repeat (first | (with_reducible first | exact HB.out | apply below_alloc | apply pw_below_drewN | apply below_drew1 | refine below_set ?_ GE300.out | refine below_set ?_ GE301.out | refine below_set ?_ GE329.out | refine below_set ?_ GE337.out) | exact HB.out)); (case side2 => exact Kd.R_tight rfl HO_330004.out); rintro e w86 ⟨rfl, hy0, hb, hkp⟩; refine ⟨_, rfl, ?_⟩; have n0_ := Aside0.mk (Kd.R_mono (ok' := fun k_ => some k_ ≠ (v339 : Value).ownBlock) (Kd.R_keptB ((Kd.R_apart' HO_6.out (Kd.R_typed HO_330004.out) (by decide))) hkp (fun k_ hk_ hs_ => (by first | exact hk_.2 hs_ | exact hk_ hs_ | exact hk_.1 hs_ | exact hk_.2 hs_ | exact hk_.1.1 hs_ | exact hk_.1.2 hs_ | exact hk_.2.1 hs_ | exact hk_.2.2 hs_ | exact hk_.1.1.1 hs_ | exact hk_.1.1.2 hs_ | exact hk_.1.2.1 hs_ | exact hk_.1.2.2 hs_ | exact hk_.2.1.1 hs_ | exact hk_.2.1.2 hs_ | exact hk_.2.2.1 hs_ | exact hk_.2.2.2 hs_ | exact hk_.1.1.1.1 hs_ | exact hk_.1.1.1.2 hs_ | exact hk_.1.1.2.1 hs_ | exact hk_.1.1.2.2 hs_ | exact hk_.1.2.1.1 hs_ | exact hk_.1.2.1.2 hs_ | exact hk_.1.2.2.1 hs_ | exact hk_.1.2.2.2 hs_ | exact hk_.2.1.1.1 hs_ | exact hk_.2.1.1.2 hs_ | exact hk_.2.1.2.1 hs_ | exact hk_.2.1.2.2 hs_ | exact hk_.2.2.1.1 hs_ | exact hk_.2.2.1.2 hs_ | exact hk_.2.2.2.1 hs_ | exact hk_.2.2.2.2 hs_))) (fun k_ hk_ => (by first | exact hk_.1.1 | exact hk_ | exact hk_.1 | exact hk_.2 | exact hk_.1.1 | exact hk_.1.2 | exact hk_.2.1 | exact hk_.2.2 | exact hk_.1.1.1 | exact hk_.1.1.2 | exact hk_.1.2.1 | exact hk_.1.2.2 | exact hk_.2.1.1 | exact hk_.2.1.2 | exact hk_.2.2.1 | exact hk_.2.2.2 | exact hk_.1.1.1.1 | exact hk_.1.1.1.2 | exact hk_.1.1.2.1 | exact hk_.1.1.2.2 | exact hk_.1.2.1.1 | exact hk_.1.2.1.2 | exact hk_.1.2.2.1 | exact hk_.1.2.2.2 | exact hk_.2.1.1.1 | exact hk_.2.1.1.2 | exact hk_.2.1.2.1 | exact hk_.2.1.2.2 | exact hk_.2.2.1.1 | exact hk_.2.2.1.2 | exact hk_.2.2.2.1 | exact hk_.2.2.2.2))); have n1_ := Aside0.mk (Kd.R_mono (ok' := fun k_ => some k_ ≠ (v319 : Value).ownBlock) (Kd.R_keptB ((Kd.R_apart' HO_10.out (Kd.R_typed HO_330004.out) (by decide))) hkp (fun k_ hk_ hs_ => (by first | exact hk_.2 hs_ | exact hk_ hs_ | exact hk_.1 hs_ | exact hk_.2 hs_ | exact hk_.1.1 hs_ | exact hk_.1.2 hs_ | exact hk_.2.1 hs_ | exact hk_.2.2 hs_ | exact hk_.1.1.1 hs_ | exact hk_.1.1.2 hs_ | exact hk_.1.2.1 hs_ | exact hk_.1.2.2 hs_ | exact hk_.2.1.1 hs_ | exact hk_.2.1.2 hs_ | exact hk_.2.2.1 hs_ | exact hk_.2.2.2 hs_ | exact hk_.1.1.1.1 hs_ | exact hk_.1.1.1.2 hs_ | exact hk_.1.1.2.1 hs_ | exact hk_.1.1.2.2 hs_ | exact hk_.1.2.1.1 hs_ | exact hk_.1.2.1.2 hs_ | exact hk_.1.2.2.1 hs_ | exact hk_.1.2.2.2 hs_ | exact hk_.2.1.1.1 hs_ | exact hk_.2.1.1.2 hs_ | exact hk_.2.1.2.1 hs_ | exact hk_.2.1.2.2 hs_ | exact hk_.2.2.1.1 hs_ | exact hk_.2.2.1.2 hs_ | exact hk_.2.2.2.1 hs_ | exact hk_.2.2.2.2 hs_))) (fun k_ hk_ => (by first | exact hk_.1.1 | exact hk_ | exact hk_.1 | exact hk_.2 | exact hk_.1.1 | exact hk_.1.2 | exact hk_.2.1 | exact hk_.2.2 | exact hk_.1.1.1 | exact hk_.1.1.2 | exact hk_.1.2.1 | exact hk_.1.2.2 | exact hk_.2.1.1 | exact hk_.2.1.2 | exact hk_.2.2.1 | exact hk_.2.2.2 | exact hk_.1.1.1.1 | exact hk_.1.1.1.2 | exact hk_.1.1.2.1 | exact hk_.1.1.2.2 | exact hk_.1.2.1.1 | exact hk_.1.2.1.2 | exact hk_.1.2.2.1 | exact hk_.1.2.2.2 | exact hk_.2.1.1.1 | exact hk_.2.1.1.2 | exact hk_.2.1.2.1 | exact hk_.2.1.2.2 | exact hk_.2.2.1.1 | exact hk_.2.2.1.2 | exact hk_.2.2.2.1 | exact hk_.2.2.2.2))); have n2_ := Aside0.mk (Kd.R_reok rfl hy0 (fun k_ e_ => HO_330004.out.1 k_ e_)); have n3_ := Aside0.mk (Kd.R_mono (ok' := fun k_ => some k_ ≠ (.slice Ao45 t326.length co45 : Value).ownBlock ∧ some k_ ≠ (.slice Ao76 t347.length co76 : Value).ownBlock ∧ some k_ ≠ (.slice Ao80 t355.length co80 : Value).ownBlock) (Kd.R_keptB (HO_338004.out) hkp (fun k_ hk_ hs_ => (by first | exact hk_.1.1 hs_ | exact hk_ hs_ | exact hk_.1 hs_ | exact hk_.2 hs_ | exact hk_.1.1 hs_ | exact hk_.1.2 hs_ | exact hk_.2.1 hs_ | exact hk_.2.2 hs_ | exact hk_.1.1.1 hs_ | exact hk_.1.1.2 hs_ | exact hk_.1.2.1 hs_ | exact hk_.1.2.2 hs_ | exact hk_.2.1.1 hs_ | exact hk_.2.1.2 hs_ | exact hk_.2.2.1 hs_ | exact hk_.2.2.2 hs_ | exact hk_.1.1.1.1 hs_ | exact hk_.1.1.1.2 hs_ | exact hk_.1.1.2.1 hs_ | exact hk_.1.1.2.2 hs_ | exact hk_.1.2.1.1 hs_ | exact hk_.1.2.1.2 hs_ | exact hk_.1.2.2.1 hs_ | exact hk_.1.2.2.2 hs_ | exact hk_.2.1.1.1 hs_ | exact hk_.2.1.1.2 hs_ | exact hk_.2.1.2.1 hs_ | exact hk_.2.1.2.2 hs_ | exact hk_.2.2.1.1 hs_ | exact hk_.2.2.1.2 hs_ | exact hk_.2.2.2.1 hs_ | exact hk_.2.2.2.2 hs_))) (fun k_ hk_ => (by first | exact ⟨hk_.1.1.1, hk_.1.1.2, hk_.1.2⟩ | (and_intros <;> first | exact hk_ | exact hk_.1 | exact hk_.2 | exact hk_.1.1 | exact hk_.1.2 | exact hk_.2.1 | exact hk_.2.2 | exact hk_.1.1.1 | exact hk_.1.1.2 | exact hk_.1.2.1 | exact hk_.1.2.2 | exact hk_.2.1.1 | exact hk_.2.1.2 | exact hk_.2.2.1 | exact hk_.2.2.2 | exact hk_.1.1.1.1 | exact hk_.1.1.1.2 | exact hk_.1.1.2.1 | exact hk_.1.1.2.2 | exact hk_.1.2.1.1 | exact hk_.1.2.1.2 | exact hk_.1.2.2.1 | exact hk_.1.2.2.2 | exact hk_.2.1.1.1 | exact hk_.2.1.1.2 | exact hk_.2.1.2.1 | exact hk_.2.1.2.2 | exact hk_.2.2.1.1 | exact hk_.2.2.1.2 | exact hk_.2.2.2.1 | exact hk_.2.2.2.2)))); have n4_ := Aside0.mk (blk_kept (by (with_reducible repeat first | refine bkN ?_ _ | refine bkD ?_ | refine bkA ?_ _); exact BK300.out) hkp (fun hs_ => (fun e_ => (Kd.R_ne HO_330004.out BK300.out (by decide)) e_) hs_)); have n5_ := Aside0.mk (blk_kept (by (with_reducible repeat first | refine bkN ?_ _ | refine bkD ?_ | refine bkA ?_ _); exact BK301.out) hkp (fun hs_ => (fun e_ => (Kd.R_ne HO_330004.out BK301.out (by decide)) e_) hs_)); have n6_ := Aside0.mk (blk_kept (by (with_reducible repeat first | refine bkN ?_ _ | refine bkD ?_ | refine bkA ?_ _); exact BK329.out) hkp (fun hs_ => (fun e_ => (Kd.R_ne HO_330004.out BK329.out (by decide)) e_) hs_)); have n7_ := Aside0.mk (blk_kept (by (with_reducible repeat first | refine bkN ?_ _ | refine bkD ?_ | refine bkA ?_ _); exact BK337.out) hkp (fun hs_ => (fun e_ => (Kd.R_ne HO_330004.out BK337.out (by decide)) e_) hs_)); have n8_ := Aside0.mk (Kd.R_mono (ok' := fun k_ => some k_ ≠ (.slice Ao45 t326.length co45 : Value).ownBlock ∧ some k_ ≠ (.slice Ao53 t334.length co53 : Value).ownBlock ∧ some k_ ≠ (.slice Ao80 t355.length co80 : Value).ownBlock) (Kd.R_keptB (HO349.out) hkp (fun k_ hk_ hs_ => (by first | exact hk_.1.1.2 hs_ | exact hk_ hs_ | exact hk_.1 hs_ | exact hk_.2 hs_ | exact hk_.1.1 hs_ | exact hk_.1.2 hs_ | exact hk_.2.1 hs_ | exact hk_.2.2 hs_ | exact hk_.1.1.1 hs_ | exact hk_.1.1.2 hs_ | exact hk_.1.2.1 hs_ | exact hk_.1.2.2 hs_ | exact hk_.2.1.1 hs_ | exact hk_.2.1.2 hs_ | exact hk_.2.2.1 hs_ | exact hk_.2.2.2 hs_ | exact hk_.1.1.1.1 hs_ | exact hk_.1.1.1.2 hs_ | exact hk_.1.1.2.1 hs_ | exact hk_.1.1.2.2 hs_ | exact hk_.1.2.1.1 hs_ | exact hk_.1.2.1.2 hs_ | exact hk_.1.2.2.1 hs_ | exact hk_.1.2.2.2 hs_ | exact hk_.2.1.1.1 hs_ | exact hk_.2.1.1.2 hs_ | exact hk_.2.1.2.1 hs_ | exact hk_.2.1.2.2 hs_ | exact hk_.2.2.1.1 hs_ | exact hk_.2.2.1.2 hs_ | exact hk_.2.2.2.1 hs_ | exact hk_.2.2.2.2 hs_))) (fun k_ hk_ => (by first | exact ⟨hk_.1.1.1.2, hk_.1.1.2, hk_.1.2⟩ | (and_intros <;> first | exact hk_ | exact hk_.1 | exact hk_.2 | exact hk_.1.1 | exact hk_.1.2 | exact hk_.2.1 | exact hk_.2.2 | exact hk_.1.1.1 | exact hk_.1.1.2 | exact hk_.1.2.1 | exact hk_.1.2.2 | exact hk_.2.1.1 | exact hk_.2.1.2 | exact hk_.2.2.1 | exact hk_.2.2.2 | exact hk_.1.1.1.1 | exact hk_.1.1.1.2 | exact hk_.1.1.2.1 | exact hk_.1.1.2.2 | exact hk_.1.2.1.1 | exact hk_.1.2.1.2 | exact hk_.1.2.2.1 | exact hk_.1.2.2.2 | exact hk_.2.1.1.1 | exact hk_.2.1.1.2 | exact hk_.2.1.2.1 | exact hk_.2.1.2.2 | exact hk_.2.2.1.1 | exact hk_.2.2.1.2 | exact hk_.2.2.2.1 | exact hk_.2.2.2.2)))); have n9_ := Aside0.mk (Kd.R_mono (ok' := fun k_ => some k_ ≠ (.slice Ao45 t326.length co45 : Value).ownBlock ∧ some k_ ≠ (.slice Ao53 t334.length co53 : Value).ownBlock ∧ some k_ ≠ (.slice Ao76 t347.length co76 : Value).ownBlock) (Kd.R_keptB (HO357.out) hkp (fun k_ hk_ hs_ => (by first | exact hk_.1.1.2 hs_ | exact hk_ hs_ | exact hk_.1 hs_ | exact hk_.2 hs_ | exact hk_.1.1 hs_ | exact hk_.1.2 hs_ | exact hk_.2.1 hs_ | exact hk_.2.2 hs_ | exact hk_.1.1.1 hs_ | exact hk_.1.1.2 hs_ | exact hk_.1.2.1 hs_ | exact hk_.1.2.2 hs_ | exact hk_.2.1.1 hs_ | exact hk_.2.1.2 hs_ | exact hk_.2.2.1 hs_ | exact hk_.2.2.2 hs_ | exact hk_.1.1.1.1 hs_ | exact hk_.1.1.1.2 hs_ | exact hk_.1.1.2.1 hs_ | exact hk_.1.1.2.2 hs_ | exact hk_.1.2.1.1 hs_ | exact hk_.1.2.1.2 hs_ | exact hk_.1.2.2.1 hs_ | exact hk_.1.2.2.2 hs_ | exact hk_.2.1.1.1 hs_ | exact hk_.2.1.1.2 hs_ | exact hk_.2.1.2.1 hs_ | exact hk_.2.1.2.2 hs_ | exact hk_.2.2.1.1 hs_ | exact hk_.2.2.1.2 hs_ | exact hk_.2.2.2.1 hs_ | exact hk_.2.2.2.2 hs_))) (fun k_ hk_ => (by first | exact ⟨hk_.1.1.1.2, hk_.1.1.2, hk_.1.2⟩ | (and_intros <;> first | exact hk_ | exact hk_.1 | exact hk_.2 | exact hk_.1.1 | exact hk_.1.2 | exact hk_.2.1 | exact hk_.2.2 | exact hk_.1.1.1 | exact hk_.1.1.2 | exact hk_.1.2.1 | exact hk_.1.2.2 | exact hk_.2.1.1 | exact hk_.2.1.2 | exact hk_.2.2.1 | exact hk_.2.2.2 | exact hk_.1.1.1.1 | exact hk_.1.1.1.2 | exact hk_.1.1.2.1 | exact hk_.1.1.2.2 | exact hk_.1.2.1.1 | exact hk_.1.2.1.2 | exact hk_.1.2.2.1 | exact hk_.1.2.2.2 | exact hk_.2.1.1.1 | exact hk_.2.1.1.2 | exact hk_.2.1.2.1 | exact hk_.2.1.2.2 | exact hk_.2.2.1.1 | exact hk_.2.2.1.2 | exact hk_.2.2.2.1 | exact hk_.2.2.2.2)))); have n10_ := Aside0.mk (hb); clear HO_6 HO_10 HO_330004 HO_338004 BK300 BK301 BK329 BK337 HO349 HO357 HB; have HO_6 := n0_; have HO_10 := n1_; have HO_330004 := n2_; have HO_338004 := n3_; have BK300 := n4_; have BK301 := n5_; have BK329 := n6_; have BK337 := n7_; have HO349 := n8_; have HO357 := n9_; have HB := n10_; clear n0_ n1_ n2_ n3_ n4_ n5_ n6_ n7_ n8_ n9_ n10_; (try clear hb); (try clear hkp); (try clear hy0); have hnb87 := NB337_300.out; have hnc87 := NB300_337.out; have hnb88 := NB337_301.out; have hnc88 := NB301_337.out; obtain ⟨hcz89_0, hcz89_1, hcz89_2, hcz89_3, hcz89_4⟩ := cs5 BK337; obtain ⟨hfz89_0, hfz89_1, hfz89_2, hfz89_3, hfz89_4⟩ := fs5 BK337) | ((with_reducible refine gate_callee (f := 42) rfl ?_); refine goesL_ (some 69) rfl rfl Try.func42 (by kernel_rfl) rfl #[.agg #[.int .i64 t330, .int .i64 t331, .int .i64 t332, .int .i64 t333, .slice Ao53 t334.length co53], .int .i64 t359] rfl (by (try simp only [List.map_toArray, List.map_cons, List.map_nil]); first | done | rfl | (simp only [List.length_drop, List.length_take]; rfl)) ?_; (with_reducible refine (laws_markWal.calls kj24 t330 t331 t332 t333 (fun k_ => some k_ = (.slice Ao53 t334.length co53 : Value).ownBlock) (.slice Ao53 t334.length co53) t334 t359 t361 t362 w _ ?side1 ?side2 A72.out).mono ?_); (case side1 => repeat (first | (with_reducible first | exact HB.out | apply below_alloc | apply pw_below_drewN | apply below_drew1 | refine below_set ?_ GE300.out | refine below_set ?_ GE301.out | refine below_set ?_ GE329.out | refine below_set ?_ GE337.out) | exact HB.out)); (case side2 => exact Kd.R_tight rfl HO_338004.out); rintro e w90 ⟨rfl, hy0, hb, hkp⟩; refine ⟨_, rfl, ?_⟩; have n0_ := Aside0.mk (Kd.R_mono (ok' := fun k_ => some k_ ≠ (v339 : Value).ownBlock) (Kd.R_keptB ((Kd.R_apart' HO_6.out (Kd.R_typed HO_338004.out) (by decide))) hkp (fun k_ hk_ hs_ => (by first | exact hk_.2 hs_ | exact hk_ hs_ | exact hk_.1 hs_ | exact hk_.2 hs_ | exact hk_.1.1 hs_ | exact hk_.1.2 hs_ | exact hk_.2.1 hs_ | exact hk_.2.2 hs_ | exact hk_.1.1.1 hs_ | exact hk_.1.1.2 hs_ | exact hk_.1.2.1 hs_ | exact hk_.1.2.2 hs_ | exact hk_.2.1.1 hs_ | exact hk_.2.1.2 hs_ | exact hk_.2.2.1 hs_ | exact hk_.2.2.2 hs_ | exact hk_.1.1.1.1 hs_ | exact hk_.1.1.1.2 hs_ | exact hk_.1.1.2.1 hs_ | exact hk_.1.1.2.2 hs_ | exact hk_.1.2.1.1 hs_ | exact hk_.1.2.1.2 hs_ | exact hk_.1.2.2.1 hs_ | exact hk_.1.2.2.2 hs_ | exact hk_.2.1.1.1 hs_ | exact hk_.2.1.1.2 hs_ | exact hk_.2.1.2.1 hs_ | exact hk_.2.1.2.2 hs_ | exact hk_.2.2.1.1 hs_ | exact hk_.2.2.1.2 hs_ | exact hk_.2.2.2.1 hs_ | exact hk_.2.2.2.2 hs_))) (fun k_ hk_ => (by first | exact hk_.1.1 | exact hk_ | exact hk_.1 | exact hk_.2 | exact hk_.1.1 | exact hk_.1.2 | exact hk_.2.1 | exact hk_.2.2 | exact hk_.1.1.1 | exact hk_.1.1.2 | exact hk_.1.2.1 | exact hk_.1.2.2 | exact hk_.2.1.1 | exact hk_.2.1.2 | exact hk_.2.2.1 | exact hk_.2.2.2 | exact hk_.1.1.1.1 | exact hk_.1.1.1.2 | exact hk_.1.1.2.1 | exact hk_.1.1.2.2 | exact hk_.1.2.1.1 | exact hk_.1.2.1.2 | exact hk_.1.2.2.1 | exact hk_.1.2.2.2 | exact hk_.2.1.1.1 | exact hk_.2.1.1.2 | exact hk_.2.1.2.1 | exact hk_.2.1.2.2 | exact hk_.2.2.1.1 | exact hk_.2.2.1.2 | exact hk_.2.2.2.1 | exact hk_.2.2.2.2))); have n1_ := Aside0.mk (Kd.R_mono (ok' := fun k_ => some k_ ≠ (v319 : Value).ownBlock) (Kd.R_keptB ((Kd.R_apart' HO_10.out (Kd.R_typed HO_338004.out) (by decide))) hkp (fun k_ hk_ hs_ => (by first | exact hk_.2 hs_ | exact hk_ hs_ | exact hk_.1 hs_ | exact hk_.2 hs_ | exact hk_.1.1 hs_ | exact hk_.1.2 hs_ | exact hk_.2.1 hs_ | exact hk_.2.2 hs_ | exact hk_.1.1.1 hs_ | exact hk_.1.1.2 hs_ | exact hk_.1.2.1 hs_ | exact hk_.1.2.2 hs_ | exact hk_.2.1.1 hs_ | exact hk_.2.1.2 hs_ | exact hk_.2.2.1 hs_ | exact hk_.2.2.2 hs_ | exact hk_.1.1.1.1 hs_ | exact hk_.1.1.1.2 hs_ | exact hk_.1.1.2.1 hs_ | exact hk_.1.1.2.2 hs_ | exact hk_.1.2.1.1 hs_ | exact hk_.1.2.1.2 hs_ | exact hk_.1.2.2.1 hs_ | exact hk_.1.2.2.2 hs_ | exact hk_.2.1.1.1 hs_ | exact hk_.2.1.1.2 hs_ | exact hk_.2.1.2.1 hs_ | exact hk_.2.1.2.2 hs_ | exact hk_.2.2.1.1 hs_ | exact hk_.2.2.1.2 hs_ | exact hk_.2.2.2.1 hs_ | exact hk_.2.2.2.2 hs_))) (fun k_ hk_ => (by first | exact hk_.1.1 | exact hk_ | exact hk_.1 | exact hk_.2 | exact hk_.1.1 | exact hk_.1.2 | exact hk_.2.1 | exact hk_.2.2 | exact hk_.1.1.1 | exact hk_.1.1.2 | exact hk_.1.2.1 | exact hk_.1.2.2 | exact hk_.2.1.1 | exact hk_.2.1.2 | exact hk_.2.2.1 | exact hk_.2.2.2 | exact hk_.1.1.1.1 | exact hk_.1.1.1.2 | exact hk_.1.1.2.1 | exact hk_.1.1.2.2 | exact hk_.1.2.1.1 | exact hk_.1.2.1.2 | exact hk_.1.2.2.1 | exact hk_.1.2.2.2 | exact hk_.2.1.1.1 | exact hk_.2.1.1.2 | exact hk_.2.1.2.1 | exact hk_.2.1.2.2 | exact hk_.2.2.1.1 | exact hk_.2.2.1.2 | exact hk_.2.2.2.1 | exact hk_.2.2.2.2))); have n2_ := Aside0.mk (Kd.R_mono (ok' := fun k_ => some k_ ≠ (.slice Ao53 t334.length co53 : Value).ownBlock ∧ some k_ ≠ (.slice Ao76 t347.length co76 : Value).ownBlock ∧ some k_ ≠ (.slice Ao80 t355.length co80 : Value).ownBlock) (Kd.R_keptB (HO_330004.out) hkp (fun k_ hk_ hs_ => (by first | exact hk_.1.1 hs_ | exact hk_ hs_ | exact hk_.1 hs_ | exact hk_.2 hs_ | exact hk_.1.1 hs_ | exact hk_.1.2 hs_ | exact hk_.2.1 hs_ | exact hk_.2.2 hs_ | exact hk_.1.1.1 hs_ | exact hk_.1.1.2 hs_ | exact hk_.1.2.1 hs_ | exact hk_.1.2.2 hs_ | exact hk_.2.1.1 hs_ | exact hk_.2.1.2 hs_ | exact hk_.2.2.1 hs_ | exact hk_.2.2.2 hs_ | exact hk_.1.1.1.1 hs_ | exact hk_.1.1.1.2 hs_ | exact hk_.1.1.2.1 hs_ | exact hk_.1.1.2.2 hs_ | exact hk_.1.2.1.1 hs_ | exact hk_.1.2.1.2 hs_ | exact hk_.1.2.2.1 hs_ | exact hk_.1.2.2.2 hs_ | exact hk_.2.1.1.1 hs_ | exact hk_.2.1.1.2 hs_ | exact hk_.2.1.2.1 hs_ | exact hk_.2.1.2.2 hs_ | exact hk_.2.2.1.1 hs_ | exact hk_.2.2.1.2 hs_ | exact hk_.2.2.2.1 hs_ | exact hk_.2.2.2.2 hs_))) (fun k_ hk_ => (by first | exact ⟨hk_.1.1.1, hk_.1.1.2, hk_.1.2⟩ | (and_intros <;> first | exact hk_ | exact hk_.1 | exact hk_.2 | exact hk_.1.1 | exact hk_.1.2 | exact hk_.2.1 | exact hk_.2.2 | exact hk_.1.1.1 | exact hk_.1.1.2 | exact hk_.1.2.1 | exact hk_.1.2.2 | exact hk_.2.1.1 | exact hk_.2.1.2 | exact hk_.2.2.1 | exact hk_.2.2.2 | exact hk_.1.1.1.1 | exact hk_.1.1.1.2 | exact hk_.1.1.2.1 | exact hk_.1.1.2.2 | exact hk_.1.2.1.1 | exact hk_.1.2.1.2 | exact hk_.1.2.2.1 | exact hk_.1.2.2.2 | exact hk_.2.1.1.1 | exact hk_.2.1.1.2 | exact hk_.2.1.2.1 | exact hk_.2.1.2.2 | exact hk_.2.2.1.1 | exact hk_.2.2.1.2 | exact hk_.2.2.2.1 | exact hk_.2.2.2.2)))); have n3_ := Aside0.mk (Kd.R_reok rfl hy0 (fun k_ e_ => HO_338004.out.1 k_ e_)); have n4_ := Aside0.mk (blk_kept (by (with_reducible repeat first | refine bkN ?_ _ | refine bkD ?_ | refine bkA ?_ _); exact BK300.out) hkp (fun hs_ => (fun e_ => (Kd.R_ne HO_338004.out BK300.out (by decide)) e_) hs_)); have n5_ := Aside0.mk (blk_kept (by (with_reducible repeat first | refine bkN ?_ _ | refine bkD ?_ | refine bkA ?_ _); exact BK301.out) hkp (fun hs_ => (fun e_ => (Kd.R_ne HO_338004.out BK301.out (by decide)) e_) hs_)); have n6_ := Aside0.mk (blk_kept (by (with_reducible repeat first | refine bkN ?_ _ | refine bkD ?_ | refine bkA ?_ _); exact BK329.out) hkp (fun hs_ => (fun e_ => (Kd.R_ne HO_338004.out BK329.out (by decide)) e_) hs_)); have n7_ := Aside0.mk (blk_kept (by (with_reducible repeat first | refine bkN ?_ _ | refine bkD ?_ | refine bkA ?_ _); exact BK337.out) hkp (fun hs_ => (fun e_ => (Kd.R_ne HO_338004.out BK337.out (by decide)) e_) hs_)); have n8_ := Aside0.mk (Kd.R_mono (ok' := fun k_ => some k_ ≠ (.slice Ao45 t326.length co45 : Value).ownBlock ∧ some k_ ≠ (.slice Ao53 t334.length co53 : Value).ownBlock ∧ some k_ ≠ (.slice Ao80 t355.length co80 : Value).ownBlock) (Kd.R_keptB (HO349.out) hkp (fun k_ hk_ hs_ => (by first | exact hk_.2.1 hs_ | exact hk_ hs_ | exact hk_.1 hs_ | exact hk_.2 hs_ | exact hk_.1.1 hs_ | exact hk_.1.2 hs_ | exact hk_.2.1 hs_ | exact hk_.2.2 hs_ | exact hk_.1.1.1 hs_ | exact hk_.1.1.2 hs_ | exact hk_.1.2.1 hs_ | exact hk_.1.2.2 hs_ | exact hk_.2.1.1 hs_ | exact hk_.2.1.2 hs_ | exact hk_.2.2.1 hs_ | exact hk_.2.2.2 hs_ | exact hk_.1.1.1.1 hs_ | exact hk_.1.1.1.2 hs_ | exact hk_.1.1.2.1 hs_ | exact hk_.1.1.2.2 hs_ | exact hk_.1.2.1.1 hs_ | exact hk_.1.2.1.2 hs_ | exact hk_.1.2.2.1 hs_ | exact hk_.1.2.2.2 hs_ | exact hk_.2.1.1.1 hs_ | exact hk_.2.1.1.2 hs_ | exact hk_.2.1.2.1 hs_ | exact hk_.2.1.2.2 hs_ | exact hk_.2.2.1.1 hs_ | exact hk_.2.2.1.2 hs_ | exact hk_.2.2.2.1 hs_ | exact hk_.2.2.2.2 hs_))) (fun k_ hk_ => (by first | exact ⟨hk_.1.1, hk_.1.2.1, hk_.1.2.2⟩ | (and_intros <;> first | exact hk_ | exact hk_.1 | exact hk_.2 | exact hk_.1.1 | exact hk_.1.2 | exact hk_.2.1 | exact hk_.2.2 | exact hk_.1.1.1 | exact hk_.1.1.2 | exact hk_.1.2.1 | exact hk_.1.2.2 | exact hk_.2.1.1 | exact hk_.2.1.2 | exact hk_.2.2.1 | exact hk_.2.2.2 | exact hk_.1.1.1.1 | exact hk_.1.1.1.2 | exact hk_.1.1.2.1 | exact hk_.1.1.2.2 | exact hk_.1.2.1.1 | exact hk_.1.2.1.2 | exact hk_.1.2.2.1 | exact hk_.1.2.2.2 | exact hk_.2.1.1.1 | exact hk_.2.1.1.2 | exact hk_.2.1.2.1 | exact hk_.2.1.2.2 | exact hk_.2.2.1.1 | exact hk_.2.2.1.2 | exact hk_.2.2.2.1 | exact hk_.2.2.2.2)))); have n9_ := Aside0.mk (Kd.R_mono (ok' := fun k_ => some k_ ≠ (.slice Ao45 t326.length co45 : Value).ownBlock ∧ some k_ ≠ (.slice Ao53 t334.length co53 : Value).ownBlock ∧ some k_ ≠ (.slice Ao76 t347.length co76 : Value).ownBlock) (Kd.R_keptB (HO357.out) hkp (fun k_ hk_ hs_ => (by first | exact hk_.2.1 hs_ | exact hk_ hs_ | exact hk_.1 hs_ | exact hk_.2 hs_ | exact hk_.1.1 hs_ | exact hk_.1.2 hs_ | exact hk_.2.1 hs_ | exact hk_.2.2 hs_ | exact hk_.1.1.1 hs_ | exact hk_.1.1.2 hs_ | exact hk_.1.2.1 hs_ | exact hk_.1.2.2 hs_ | exact hk_.2.1.1 hs_ | exact hk_.2.1.2 hs_ | exact hk_.2.2.1 hs_ | exact hk_.2.2.2 hs_ | exact hk_.1.1.1.1 hs_ | exact hk_.1.1.1.2 hs_ | exact hk_.1.1.2.1 hs_ | exact hk_.1.1.2.2 hs_ | exact hk_.1.2.1.1 hs_ | exact hk_.1.2.1.2 hs_ | exact hk_.1.2.2.1 hs_ | exact hk_.1.2.2.2 hs_ | exact hk_.2.1.1.1 hs_ | exact hk_.2.1.1.2 hs_ | exact hk_.2.1.2.1 hs_ | exact hk_.2.1.2.2 hs_ | exact hk_.2.2.1.1 hs_ | exact hk_.2.2.1.2 hs_ | exact hk_.2.2.2.1 hs_ | exact hk_.2.2.2.2 hs_))) (fun k_ hk_ => (by first | exact ⟨hk_.1.1, hk_.1.2.1, hk_.1.2.2⟩ | (and_intros <;> first | exact hk_ | exact hk_.1 | exact hk_.2 | exact hk_.1.1 | exact hk_.1.2 | exact hk_.2.1 | exact hk_.2.2 | exact hk_.1.1.1 | exact hk_.1.1.2 | exact hk_.1.2.1 | exact hk_.1.2.2 | exact hk_.2.1.1 | exact hk_.2.1.2 | exact hk_.2.2.1 | exact hk_.2.2.2 | exact hk_.1.1.1.1 | exact hk_.1.1.1.2 | exact hk_.1.1.2.1 | exact hk_.1.1.2.2 | exact hk_.1.2.1.1 | exact hk_.1.2.1.2 | exact hk_.1.2.2.1 | exact hk_.1.2.2.2 | exact hk_.2.1.1.1 | exact hk_.2.1.1.2 | exact hk_.2.1.2.1 | exact hk_.2.1.2.2 | exact hk_.2.2.1.1 | exact hk_.2.2.1.2 | exact hk_.2.2.2.1 | exact hk_.2.2.2.2)))); have n10_ := Aside0.mk (hb); clear HO_6 HO_10 HO_330004 HO_338004 BK300 BK301 BK329 BK337 HO349 HO357 HB; have HO_6 := n0_; have HO_10 := n1_; have HO_330004 := n2_; have HO_338004 := n3_; have BK300 := n4_; have BK301 := n5_; have BK329 := n6_; have BK337 := n7_; have HO349 := n8_; have HO357 := n9_; have HB := n10_; clear n0_ n1_ n2_ n3_ n4_ n5_ n6_ n7_ n8_ n9_ n10_; (try clear hb); (try clear hkp); (try clear hy0)))
        (try simp only [putL])
        go_cut [82] (fun v82 wc => ∃ (kq : Nat) (x82_72 : Bool), v82 = .bool x82_72 ∧ Aside0 (laws_FnExactChanges.j1 kq t318 t321 t338 x82_72 a0_0 a0_1 a0_2 a0_3 l0_4 a1_0 a1_1 a1_2 a1_3 l1_4 = some r) ∧ Aside0 (kq ≤ kj24) ∧ Aside0 (Kd.R k44 44 wc w.heap.size (fun k_ => some k_ ≠ (v339 : Value).ownBlock) v319 t318) ∧ Aside0 (Kd.R k44 44 wc w.heap.size (fun k_ => some k_ ≠ (v319 : Value).ownBlock) v339 t338) ∧ Aside0 (Kd.R k125 125 wc w.heap.size (fun k_ => some k_ ≠ ((.slice Ao53 t334.length co53) : Value).ownBlock) (.slice Ao45 t326.length co45) t360) ∧ Aside0 (Kd.R k125 125 wc w.heap.size (fun k_ => some k_ ≠ ((.slice Ao45 t326.length co45) : Value).ownBlock) (.slice Ao53 t334.length co53) t362) ∧ Aside0 (wc.heap[gb300]? = some (.cells #[.int .i64 a0_0, .int .i64 a0_1, .int .i64 a0_2, .int .i64 a0_3, (.slice A0_4 l0_4.length c0_4)] 56 (0, 0))) ∧ Aside0 (wc.heap[gb301]? = some (.cells #[.int .i64 a1_0, .int .i64 a1_1, .int .i64 a1_2, .int .i64 a1_3, (.slice A1_4 l1_4.length c1_4)] 56 (0, 0))) ∧ Aside0 (wc.heap[gb329]? = some (.cells #[.int .i64 t322, .int .i64 t323, .int .i64 t324, .int .i64 t325, (.slice Ao45 t326.length co45)] 62 (0, 0))) ∧ Aside0 (wc.heap[gb337]? = some (.cells #[.int .i64 t330, .int .i64 t331, .int .i64 t332, .int .i64 t333, (.slice Ao53 t334.length co53)] 62 (0, 0))) ∧ Aside0 (Below w.heap.size w wc))
        case first =>
         have H := HC73.out; clear HC73
         by_cases c91 : t361 < 0
         ·rw [if_pos c91] at H
          have c91b0 : decide (t361 < 0) = true := decide_eq_true c91
          clear c91
          (first | rw [c91b0] | (simp only [i64_w, i32_w]; rw [c91b0]) | skip)
          have H' := Aside0.mk H
          clear H
          go_wp2
          go_meet
          case rel => exact ⟨_, (true), (by first | rfl | (simp; done) | (simp [*]; done)), H', ⟨by have := HJ24.out; first | omega | exact Nat.le_refl _⟩, ⟨rr HO_6⟩, ⟨rr HO_10⟩, ⟨by (with_reducible repeat (first | apply Kd.R_alloc | apply Kd.R_drewN | apply Kd.R_drew)); exact Kd.R_mono HO_330004.out (fun _ hk => hk.1)⟩, ⟨by (with_reducible repeat (first | apply Kd.R_alloc | apply Kd.R_drewN | apply Kd.R_drew)); exact Kd.R_mono HO_338004.out (fun _ hk => hk.1)⟩, ⟨bb BK300⟩, ⟨bb BK301⟩, ⟨bb BK329⟩, ⟨bb BK337⟩, ⟨by repeat (first | (with_reducible first | exact HB.out | apply below_alloc | apply pw_below_drewN | apply below_drew1 | refine below_set ?_ GE300.out | refine below_set ?_ GE301.out | refine below_set ?_ GE329.out | refine below_set ?_ GE337.out) | exact HB.out)⟩⟩
         ·rw [if_neg c91] at H
          have c91b0 : decide (t361 < 0) = false := decide_eq_false c91
          clear c91
          (first | rw [c91b0] | (simp only [i64_w, i32_w]; rw [c91b0]) | skip)
          replace H := Option.bind_eq_some_iff.mp H
          obtain ⟨t363, A920, H⟩ := H
          replace H : (if t363 = true then (laws_FnExactChanges.j1 kj24 t318 t321 t338 (t341 != t321) a0_0 a0_1 a0_2 a0_3 l0_4 a1_0 a1_1 a1_2 a1_3 l1_4) else (laws_FnExactChanges.j1 kj24 t318 t321 t338 true a0_0 a0_1 a0_2 a0_3 l0_4 a1_0 a1_1 a1_2 a1_3 l1_4)) = some r := H
          have A92 := Aside0.mk A920
          clear A920
          by_cases c93 : t363 = true
          ·subst c93
           have H1 : (laws_FnExactChanges.j1 kj24 t318 t321 t338 (t341 != t321) a0_0 a0_1 a0_2 a0_3 l0_4 a1_0 a1_1 a1_2 a1_3 l1_4) = some r := by rw [if_pos rfl] at H; exact H
           clear H; have H := H1
           clear H1; have H' := Aside0.mk H
           clear H; obtain ⟨Ao94, co94, eo94⟩ := Kd.R_slice HO_10.out
           subst eo94
           obtain ⟨Ao95, co95, eo95⟩ := Kd.R_slice HO_6.out
           subst eo95
           go_wp2_with (first | (go_at_call 58; (with_reducible refine (laws_eqRecS.calls kj24 _ _ t338 _ _ t318 true _ ?side1 ?side2 ?side3 ?side4 A92.out).mono ?_); (case side1 => repeat (first | exact (Kd.R_reads' HO_10.out).2.2 | (with_reducible refine Kd.C_alloc ?_ _) | (with_reducible refine Kd.C_drewN ?_ _) | (with_reducible refine Kd.C_drew ?_))); (case side2 => exact (Kd.R_reads' HO_10.out).2.1); (case side3 => repeat (first | exact (Kd.R_reads' HO_6.out).2.2 | (with_reducible refine Kd.C_alloc ?_ _) | (with_reducible refine Kd.C_drewN ?_ _) | (with_reducible refine Kd.C_drew ?_))); (case side4 => exact (Kd.R_reads' HO_6.out).2.1); rintro e w96 ⟨rfl, hb⟩; have n10_ := Aside0.mk (below_step (be HB) hb); replace HO_6 := Aside0.mk (Kd.R_below (rr HO_6) hb); replace HO_10 := Aside0.mk (Kd.R_below (rr HO_10) hb); replace HO_330004 := Aside0.mk (Kd.R_below (rr HO_330004) hb); replace HO_338004 := Aside0.mk (Kd.R_below (rr HO_338004) hb); replace HO349 := Aside0.mk (Kd.R_below (rr HO349) hb); replace HO357 := Aside0.mk (Kd.R_below (rr HO357) hb); replace BK300 := bq BK300 hb; replace BK301 := bq BK301 hb; replace BK329 := bq BK329 hb; replace BK337 := bq BK337 hb; clear HB; have HB := n10_; clear n10_; (try clear hb); (try clear hb2); (try clear hk); (try clear hi)))
           go_meet
           case rel => exact ⟨_, ((t341 != t321)), (by first | rfl | (simp; done) | (simp [*]; done)), H', ⟨by have := HJ24.out; first | omega | exact Nat.le_refl _⟩, ⟨rr HO_6⟩, ⟨rr HO_10⟩, ⟨by (with_reducible repeat (first | apply Kd.R_alloc | apply Kd.R_drewN | apply Kd.R_drew)); exact Kd.R_mono HO_330004.out (fun _ hk => hk.1)⟩, ⟨by (with_reducible repeat (first | apply Kd.R_alloc | apply Kd.R_drewN | apply Kd.R_drew)); exact Kd.R_mono HO_338004.out (fun _ hk => hk.1)⟩, ⟨bb BK300⟩, ⟨bb BK301⟩, ⟨bb BK329⟩, ⟨bb BK337⟩, ⟨by repeat (first | (with_reducible first | exact HB.out | apply below_alloc | apply pw_below_drewN | apply below_drew1 | refine below_set ?_ GE300.out | refine below_set ?_ GE301.out | refine below_set ?_ GE329.out | refine below_set ?_ GE337.out) | exact HB.out)⟩⟩
          ·replace c93 := Bool.eq_false_iff.mpr c93
           subst c93
           have H1 : (laws_FnExactChanges.j1 kj24 t318 t321 t338 true a0_0 a0_1 a0_2 a0_3 l0_4 a1_0 a1_1 a1_2 a1_3 l1_4) = some r := by rw [if_neg (show ¬ (false = true) by decide)] at H; exact H
           clear H; have H := H1
           clear H1; have H' := Aside0.mk H
           clear H; obtain ⟨Ao97, co97, eo97⟩ := Kd.R_slice HO_10.out
           subst eo97
           obtain ⟨Ao98, co98, eo98⟩ := Kd.R_slice HO_6.out
           subst eo98
           go_wp2_with (first | (go_at_call 58; (with_reducible refine (laws_eqRecS.calls kj24 _ _ t338 _ _ t318 false _ ?side1 ?side2 ?side3 ?side4 A92.out).mono ?_); (case side1 => repeat (first | exact (Kd.R_reads' HO_10.out).2.2 | (with_reducible refine Kd.C_alloc ?_ _) | (with_reducible refine Kd.C_drewN ?_ _) | (with_reducible refine Kd.C_drew ?_))); (case side2 => exact (Kd.R_reads' HO_10.out).2.1); (case side3 => repeat (first | exact (Kd.R_reads' HO_6.out).2.2 | (with_reducible refine Kd.C_alloc ?_ _) | (with_reducible refine Kd.C_drewN ?_ _) | (with_reducible refine Kd.C_drew ?_))); (case side4 => exact (Kd.R_reads' HO_6.out).2.1); rintro e w99 ⟨rfl, hb⟩; have n10_ := Aside0.mk (below_step (be HB) hb); replace HO_6 := Aside0.mk (Kd.R_below (rr HO_6) hb); replace HO_10 := Aside0.mk (Kd.R_below (rr HO_10) hb); replace HO_330004 := Aside0.mk (Kd.R_below (rr HO_330004) hb); replace HO_338004 := Aside0.mk (Kd.R_below (rr HO_338004) hb); replace HO349 := Aside0.mk (Kd.R_below (rr HO349) hb); replace HO357 := Aside0.mk (Kd.R_below (rr HO357) hb); replace BK300 := bq BK300 hb; replace BK301 := bq BK301 hb; replace BK329 := bq BK329 hb; replace BK337 := bq BK337 hb; clear HB; have HB := n10_; clear n10_; (try clear hb); (try clear hb2); (try clear hk); (try clear hi)))
           go_meet
           case rel => exact ⟨_, (true), (by first | rfl | (simp; done) | (simp [*]; done)), H', ⟨by have := HJ24.out; first | omega | exact Nat.le_refl _⟩, ⟨rr HO_6⟩, ⟨rr HO_10⟩, ⟨by (with_reducible repeat (first | apply Kd.R_alloc | apply Kd.R_drewN | apply Kd.R_drew)); exact Kd.R_mono HO_330004.out (fun _ hk => hk.1)⟩, ⟨by (with_reducible repeat (first | apply Kd.R_alloc | apply Kd.R_drewN | apply Kd.R_drew)); exact Kd.R_mono HO_338004.out (fun _ hk => hk.1)⟩, ⟨bb BK300⟩, ⟨bb BK301⟩, ⟨bb BK329⟩, ⟨bb BK337⟩, ⟨by repeat (first | (with_reducible first | exact HB.out | apply below_alloc | apply pw_below_drewN | apply below_drew1 | refine below_set ?_ GE300.out | refine below_set ?_ GE301.out | refine below_set ?_ GE329.out | refine below_set ?_ GE337.out) | exact HB.out)⟩⟩
        case rest =>
         clear HC73; (try clear c1); (try clear c2); (try clear p2); (try clear c3); (try clear c4); (try clear c4b0); (try clear c5); (try clear c6); (try clear c7); (try clear c8); (try clear c9); (try clear c11); (try clear c11b0); (try clear c13); (try clear c14); (try clear c28); (try clear c35); (try clear c38); (try clear c41); (try clear c42); (try clear c43); (try clear c49); (try clear c50); (try clear c51); (try clear c56); (try clear c57); (try clear c58); (try clear c64); (try clear c67); (try clear c70); (try clear c82); (try clear c83); (try clear c84); (try clear c87); (try clear c88); (try clear c91); (try clear c91b0); (try clear c93); (try clear hcz15_0); (try clear hcz15_1); (try clear hcz15_2); (try clear hcz15_3); (try clear hcz15_4); (try clear hcz17_0); (try clear hcz17_1); (try clear hcz17_2); (try clear hcz17_3); (try clear hcz17_4); (try clear hcz29_0); (try clear hcz29_1); (try clear hcz29_2); (try clear hcz29_3); (try clear hcz29_4); (try clear hcz31_0); (try clear hcz31_1); (try clear hcz31_2); (try clear hcz31_3); (try clear hcz31_4); (try clear hcz39_0); (try clear hcz39_1); (try clear hcz39_2); (try clear hcz39_3); (try clear hcz39_4); (try clear hcz44_0); (try clear hcz44_1); (try clear hcz44_2); (try clear hcz44_3); (try clear hcz44_4); (try clear hcz46_0); (try clear hcz46_1); (try clear hcz46_2); (try clear hcz46_3); (try clear hcz46_4); (try clear hcz52_0); (try clear hcz52_1); (try clear hcz52_2); (try clear hcz52_3); (try clear hcz52_4); (try clear hcz54_0); (try clear hcz54_1); (try clear hcz54_2); (try clear hcz54_3); (try clear hcz54_4); (try clear hcz85_0); (try clear hcz85_1); (try clear hcz85_2); (try clear hcz85_3); (try clear hcz85_4); (try clear hcz89_0); (try clear hcz89_1); (try clear hcz89_2); (try clear hcz89_3); (try clear hcz89_4); (try clear hcz8_0); (try clear hcz8_1); (try clear hcz8_2); (try clear hcz8_3); (try clear hcz8_4); (try clear hfz15_0); (try clear hfz15_1); (try clear hfz15_2); (try clear hfz15_3); (try clear hfz15_4); (try clear hfz17_0); (try clear hfz17_1); (try clear hfz17_2); (try clear hfz17_3); (try clear hfz17_4); (try clear hfz29_0); (try clear hfz29_1); (try clear hfz29_2); (try clear hfz29_3); (try clear hfz29_4); (try clear hfz31_0); (try clear hfz31_1); (try clear hfz31_2); (try clear hfz31_3); (try clear hfz31_4); (try clear hfz39_0); (try clear hfz39_1); (try clear hfz39_2); (try clear hfz39_3); (try clear hfz39_4); (try clear hfz44_0); (try clear hfz44_1); (try clear hfz44_2); (try clear hfz44_3); (try clear hfz44_4); (try clear hfz46_0); (try clear hfz46_1); (try clear hfz46_2); (try clear hfz46_3); (try clear hfz46_4); (try clear hfz52_0); (try clear hfz52_1); (try clear hfz52_2); (try clear hfz52_3); (try clear hfz52_4); (try clear hfz54_0); (try clear hfz54_1); (try clear hfz54_2); (try clear hfz54_3); (try clear hfz54_4); (try clear hfz85_0); (try clear hfz85_1); (try clear hfz85_2); (try clear hfz85_3); (try clear hfz85_4); (try clear hfz89_0); (try clear hfz89_1)
         (try clear hfz89_2); (try clear hfz89_3); (try clear hfz89_4); (try clear hfz8_0); (try clear hfz8_1); (try clear hfz8_2); (try clear hfz8_3); (try clear hfz8_4); (try clear p2); obtain ⟨kq, x82_72, rfl, HA, HJ72, HO_6, HO_10, HO_330004, HO_338004, BK300, BK301, BK329, BK337, HB⟩ := hcut
         have hl330004_72 := (Kd.R_reads' HO_330004.out).1
         rw [hl330004_72] at HO_330004
         (try simp only [hl330004_72])
         (try simp only [hl330004_72] at BK300)
         (try simp only [hl330004_72] at BK301)
         (try simp only [hl330004_72] at BK329)
         (try simp only [hl330004_72] at BK337)
         (try simp only [hl330004_72] at HO_6)
         (try simp only [hl330004_72] at HO_10)
         (try simp only [hl330004_72] at HO_338004)
         have hl338004_72 := (Kd.R_reads' HO_338004.out).1
         rw [hl338004_72] at HO_338004
         (try simp only [hl338004_72])
         (try simp only [hl338004_72] at BK300)
         (try simp only [hl338004_72] at BK301)
         (try simp only [hl338004_72] at BK329)
         (try simp only [hl338004_72] at BK337)
         (try simp only [hl338004_72] at HO_6)
         (try simp only [hl338004_72] at HO_10)
         (try simp only [hl338004_72] at HO_330004)
         cases kq with
         | zero => exact absurd HA.out (by simp [laws_FnExactChanges.j1])
         | succ kj72 =>
          have H := HA.out; clear HA; simp only [laws_FnExactChanges.j1] at H
          by_cases c100 : x82_72 = true
          ·subst c100
           have H1 : (none) = some r := by rw [if_pos rfl] at H; exact H
           clear H; have H := H1
           clear H1; exact absurd H (by simp)
          ·replace c100 := Bool.eq_false_iff.mpr c100
           subst c100
           have H1 : ((laws_markRecS.f kj72 t338 1).bind fun bt364 => ((laws_heldRecS.f kj72 bt364.2 1).bind fun t366 => (if t366 < 0 then (none) else (if t366 = bt364.1 then ((laws_toWal.f kj72 a0_0 a0_1 a0_2 a0_3 l0_4).bind fun bt367 => ((laws_toWal.f kj72 a1_0 a1_1 a1_2 a1_3 l1_4).bind fun bt374 => ((impl_Changes.f kj72 bt367.1 bt367.2.1 bt367.2.2.1 bt367.2.2.2.1 bt367.2.2.2.2 bt374.1 bt374.2.1 bt374.2.2.1 bt374.2.2.2.1 bt374.2.2.2.2).bind fun bt381 => ((laws_eqRecS.f kj72 bt381.1 t318).bind fun t385 => (if t385 = true then (laws_FnExactChanges.j2 kj72 bt364.2 bt364.1 (bt381.2 != t321)) else (laws_FnExactChanges.j2 kj72 bt364.2 bt364.1 true)))))) else (none))))) = some r := by rw [if_neg (show ¬ (false = true) by decide)] at H; exact H
           clear H; have H := H1
           clear H1; replace H := Option.bind_eq_some_iff.mp H
           obtain ⟨⟨t364, t365⟩, A1010, H⟩ := H
           replace H : ((laws_heldRecS.f kj72 t365 1).bind fun t366 => (if t366 < 0 then (none) else (if t366 = t364 then ((laws_toWal.f kj72 a0_0 a0_1 a0_2 a0_3 l0_4).bind fun bt367 => ((laws_toWal.f kj72 a1_0 a1_1 a1_2 a1_3 l1_4).bind fun bt374 => ((impl_Changes.f kj72 bt367.1 bt367.2.1 bt367.2.2.1 bt367.2.2.2.1 bt367.2.2.2.2 bt374.1 bt374.2.1 bt374.2.2.1 bt374.2.2.2.1 bt374.2.2.2.2).bind fun bt381 => ((laws_eqRecS.f kj72 bt381.1 t318).bind fun t385 => (if t385 = true then (laws_FnExactChanges.j2 kj72 t365 t364 (bt381.2 != t321)) else (laws_FnExactChanges.j2 kj72 t365 t364 true)))))) else (none)))) = some r := H
           have A101 := Aside0.mk A1010
           clear A1010; replace H := Option.bind_eq_some_iff.mp H
           obtain ⟨t366, A1020, H⟩ := H
           replace H : (if t366 < 0 then (none) else (if t366 = t364 then ((laws_toWal.f kj72 a0_0 a0_1 a0_2 a0_3 l0_4).bind fun bt367 => ((laws_toWal.f kj72 a1_0 a1_1 a1_2 a1_3 l1_4).bind fun bt374 => ((impl_Changes.f kj72 bt367.1 bt367.2.1 bt367.2.2.1 bt367.2.2.2.1 bt367.2.2.2.2 bt374.1 bt374.2.1 bt374.2.2.1 bt374.2.2.2.1 bt374.2.2.2.2).bind fun bt381 => ((laws_eqRecS.f kj72 bt381.1 t318).bind fun t385 => (if t385 = true then (laws_FnExactChanges.j2 kj72 t365 t364 (bt381.2 != t321)) else (laws_FnExactChanges.j2 kj72 t365 t364 true)))))) else (none))) = some r := H
           have A102 := Aside0.mk A1020
           clear A1020
           by_cases c103 : t366 < 0
           ·rw [if_pos c103] at H
            exact absurd H (by simp)
           ·rw [if_neg c103] at H
            have c103b0 : decide (t366 < 0) = false := decide_eq_false c103
            clear c103
            by_cases c104 : t366 = t364
            ·rw [if_pos c104] at H
             have c104b0 : (t366 == t364) = true := beq_iff_eq.mpr c104
             have c104b1 : (t366 != t364) = false := bne_eq_false_iff_eq.mpr c104
             clear c104; replace H := Option.bind_eq_some_iff.mp H
             obtain ⟨⟨t367, t368, t369, t370, t371⟩, A1050, H⟩ := H
             replace H : ((laws_toWal.f kj72 a1_0 a1_1 a1_2 a1_3 l1_4).bind fun bt374 => ((impl_Changes.f kj72 t367 t368 t369 t370 t371 bt374.1 bt374.2.1 bt374.2.2.1 bt374.2.2.2.1 bt374.2.2.2.2).bind fun bt381 => ((laws_eqRecS.f kj72 bt381.1 t318).bind fun t385 => (if t385 = true then (laws_FnExactChanges.j2 kj72 t365 t364 (bt381.2 != t321)) else (laws_FnExactChanges.j2 kj72 t365 t364 true))))) = some r := H
             have A105 := Aside0.mk A1050
             clear A1050; replace H := Option.bind_eq_some_iff.mp H
             obtain ⟨⟨t374, t375, t376, t377, t378⟩, A1060, H⟩ := H
             replace H : ((impl_Changes.f kj72 t367 t368 t369 t370 t371 t374 t375 t376 t377 t378).bind fun bt381 => ((laws_eqRecS.f kj72 bt381.1 t318).bind fun t385 => (if t385 = true then (laws_FnExactChanges.j2 kj72 t365 t364 (bt381.2 != t321)) else (laws_FnExactChanges.j2 kj72 t365 t364 true)))) = some r := H
             have A106 := Aside0.mk A1060
             clear A1060; replace H := Option.bind_eq_some_iff.mp H
             obtain ⟨⟨t381, t384⟩, A1070, H⟩ := H
             replace H : ((laws_eqRecS.f kj72 t381 t318).bind fun t385 => (if t385 = true then (laws_FnExactChanges.j2 kj72 t365 t364 (t384 != t321)) else (laws_FnExactChanges.j2 kj72 t365 t364 true))) = some r := H
             have A107 := Aside0.mk A1070
             clear A1070; have HC108 := Aside0.mk H
             clear H; obtain ⟨Ao109, co109, eo109⟩ := Kd.R_slice HO_10.out
             subst eo109
             try go_wp2_with (first | ((with_reducible refine gate_callee (f := 59) rfl ?_); refine goesL_ (some 85) rfl rfl Try.func59 (by kernel_rfl) rfl #[.slice Ao109 t338.length co109, .int .i64 1] rfl (by (try simp only [List.map_toArray, List.map_cons, List.map_nil]); first | done | rfl | (simp only [List.length_drop, List.length_take]; rfl)) ?_; (with_reducible refine (laws_markRecS.calls kj72 (fun k_ => some k_ = (.slice Ao109 t338.length co109 : Value).ownBlock) (.slice Ao109 t338.length co109) t338 1 t364 t365 w _ ?side1 ?side2 A101.out).mono ?_); (case side1 => repeat (first | (with_reducible first | exact HB.out | apply below_alloc | apply pw_below_drewN | apply below_drew1 | refine below_set ?_ GE300.out | refine below_set ?_ GE301.out | refine below_set ?_ GE329.out | refine below_set ?_ GE337.out) | exact HB.out)); (case side2 => exact Kd.R_tight rfl HO_10.out); rintro e w110 ⟨rfl, hy0, hb, hkp⟩; refine ⟨_, rfl, ?_⟩; have n0_ := Aside0.mk (Kd.R_mono (ok' := fun k_ => some k_ ≠ (.slice Ao109 t338.length co109 : Value).ownBlock) (Kd.R_keptB (HO_6.out) hkp (fun k_ hk_ hs_ => (by first | exact hk_ hs_ | exact hk_ hs_ | exact hk_.1 hs_ | exact hk_.2 hs_ | exact hk_.1.1 hs_ | exact hk_.1.2 hs_ | exact hk_.2.1 hs_ | exact hk_.2.2 hs_ | exact hk_.1.1.1 hs_ | exact hk_.1.1.2 hs_ | exact hk_.1.2.1 hs_ | exact hk_.1.2.2 hs_ | exact hk_.2.1.1 hs_ | exact hk_.2.1.2 hs_ | exact hk_.2.2.1 hs_ | exact hk_.2.2.2 hs_ | exact hk_.1.1.1.1 hs_ | exact hk_.1.1.1.2 hs_ | exact hk_.1.1.2.1 hs_ | exact hk_.1.1.2.2 hs_ | exact hk_.1.2.1.1 hs_ | exact hk_.1.2.1.2 hs_ | exact hk_.1.2.2.1 hs_ | exact hk_.1.2.2.2 hs_ | exact hk_.2.1.1.1 hs_ | exact hk_.2.1.1.2 hs_ | exact hk_.2.1.2.1 hs_ | exact hk_.2.1.2.2 hs_ | exact hk_.2.2.1.1 hs_ | exact hk_.2.2.1.2 hs_ | exact hk_.2.2.2.1 hs_ | exact hk_.2.2.2.2 hs_))) (fun k_ hk_ => (by first | exact hk_.1 | exact hk_ | exact hk_.1 | exact hk_.2 | exact hk_.1.1 | exact hk_.1.2 | exact hk_.2.1 | exact hk_.2.2 | exact hk_.1.1.1 | exact hk_.1.1.2 | exact hk_.1.2.1 | exact hk_.1.2.2 | exact hk_.2.1.1 | exact hk_.2.1.2 | exact hk_.2.2.1 | exact hk_.2.2.2 | exact hk_.1.1.1.1 | exact hk_.1.1.1.2 | exact hk_.1.1.2.1 | exact hk_.1.1.2.2 | exact hk_.1.2.1.1 | exact hk_.1.2.1.2 | exact hk_.1.2.2.1 | exact hk_.1.2.2.2 | exact hk_.2.1.1.1 | exact hk_.2.1.1.2 | exact hk_.2.1.2.1 | exact hk_.2.1.2.2 | exact hk_.2.2.1.1 | exact hk_.2.2.1.2 | exact hk_.2.2.2.1 | exact hk_.2.2.2.2))); have n1_ := Aside0.mk (Kd.R_reok rfl hy0 (fun k_ e_ => HO_10.out.1 k_ e_)); have n2_ := Aside0.mk (Kd.R_mono (ok' := fun k_ => some k_ ≠ (.slice Ao53 t362.length co53 : Value).ownBlock) (Kd.R_keptB ((Kd.R_apart' HO_330004.out (Kd.R_typed HO_10.out) (by decide))) hkp (fun k_ hk_ hs_ => (by first | exact hk_.2 hs_ | exact hk_ hs_ | exact hk_.1 hs_ | exact hk_.2 hs_ | exact hk_.1.1 hs_ | exact hk_.1.2 hs_ | exact hk_.2.1 hs_ | exact hk_.2.2 hs_ | exact hk_.1.1.1 hs_ | exact hk_.1.1.2 hs_ | exact hk_.1.2.1 hs_ | exact hk_.1.2.2 hs_ | exact hk_.2.1.1 hs_ | exact hk_.2.1.2 hs_ | exact hk_.2.2.1 hs_ | exact hk_.2.2.2 hs_ | exact hk_.1.1.1.1 hs_ | exact hk_.1.1.1.2 hs_ | exact hk_.1.1.2.1 hs_ | exact hk_.1.1.2.2 hs_ | exact hk_.1.2.1.1 hs_ | exact hk_.1.2.1.2 hs_ | exact hk_.1.2.2.1 hs_ | exact hk_.1.2.2.2 hs_ | exact hk_.2.1.1.1 hs_ | exact hk_.2.1.1.2 hs_ | exact hk_.2.1.2.1 hs_ | exact hk_.2.1.2.2 hs_ | exact hk_.2.2.1.1 hs_ | exact hk_.2.2.1.2 hs_ | exact hk_.2.2.2.1 hs_ | exact hk_.2.2.2.2 hs_))) (fun k_ hk_ => (by first | exact hk_.1.1 | exact hk_ | exact hk_.1 | exact hk_.2 | exact hk_.1.1 | exact hk_.1.2 | exact hk_.2.1 | exact hk_.2.2 | exact hk_.1.1.1 | exact hk_.1.1.2 | exact hk_.1.2.1 | exact hk_.1.2.2 | exact hk_.2.1.1 | exact hk_.2.1.2 | exact hk_.2.2.1 | exact hk_.2.2.2 | exact hk_.1.1.1.1 | exact hk_.1.1.1.2 | exact hk_.1.1.2.1 | exact hk_.1.1.2.2 | exact hk_.1.2.1.1 | exact hk_.1.2.1.2 | exact hk_.1.2.2.1 | exact hk_.1.2.2.2 | exact hk_.2.1.1.1 | exact hk_.2.1.1.2 | exact hk_.2.1.2.1 | exact hk_.2.1.2.2 | exact hk_.2.2.1.1 | exact hk_.2.2.1.2 | exact hk_.2.2.2.1 | exact hk_.2.2.2.2))); have n3_ := Aside0.mk (Kd.R_mono (ok' := fun k_ => some k_ ≠ (.slice Ao45 t360.length co45 : Value).ownBlock) (Kd.R_keptB ((Kd.R_apart' HO_338004.out (Kd.R_typed HO_10.out) (by decide))) hkp (fun k_ hk_ hs_ => (by first | exact hk_.2 hs_ | exact hk_ hs_ | exact hk_.1 hs_ | exact hk_.2 hs_ | exact hk_.1.1 hs_ | exact hk_.1.2 hs_ | exact hk_.2.1 hs_ | exact hk_.2.2 hs_ | exact hk_.1.1.1 hs_ | exact hk_.1.1.2 hs_ | exact hk_.1.2.1 hs_ | exact hk_.1.2.2 hs_ | exact hk_.2.1.1 hs_ | exact hk_.2.1.2 hs_ | exact hk_.2.2.1 hs_ | exact hk_.2.2.2 hs_ | exact hk_.1.1.1.1 hs_ | exact hk_.1.1.1.2 hs_ | exact hk_.1.1.2.1 hs_ | exact hk_.1.1.2.2 hs_ | exact hk_.1.2.1.1 hs_ | exact hk_.1.2.1.2 hs_ | exact hk_.1.2.2.1 hs_ | exact hk_.1.2.2.2 hs_ | exact hk_.2.1.1.1 hs_ | exact hk_.2.1.1.2 hs_ | exact hk_.2.1.2.1 hs_ | exact hk_.2.1.2.2 hs_ | exact hk_.2.2.1.1 hs_ | exact hk_.2.2.1.2 hs_ | exact hk_.2.2.2.1 hs_ | exact hk_.2.2.2.2 hs_))) (fun k_ hk_ => (by first | exact hk_.1.1 | exact hk_ | exact hk_.1 | exact hk_.2 | exact hk_.1.1 | exact hk_.1.2 | exact hk_.2.1 | exact hk_.2.2 | exact hk_.1.1.1 | exact hk_.1.1.2 | exact hk_.1.2.1 | exact hk_.1.2.2 | exact hk_.2.1.1 | exact hk_.2.1.2 | exact hk_.2.2.1 | exact hk_.2.2.2 | exact hk_.1.1.1.1 | exact hk_.1.1.1.2 | exact hk_.1.1.2.1 | exact hk_.1.1.2.2 | exact hk_.1.2.1.1 | exact hk_.1.2.1.2 | exact hk_.1.2.2.1 | exact hk_.1.2.2.2 | exact hk_.2.1.1.1 | exact hk_.2.1.1.2 | exact hk_.2.1.2.1 | exact hk_.2.1.2.2 | exact hk_.2.2.1.1 | exact hk_.2.2.1.2 | exact hk_.2.2.2.1 | exact hk_.2.2.2.2))); have n4_ := Aside0.mk (blk_kept (by (with_reducible repeat first | refine bkN ?_ _ | refine bkD ?_ | refine bkA ?_ _); exact BK300.out) hkp (fun hs_ => (fun e_ => (Kd.R_ne HO_10.out BK300.out (by decide)) e_) hs_)); have n5_ := Aside0.mk (blk_kept (by (with_reducible repeat first | refine bkN ?_ _ | refine bkD ?_ | refine bkA ?_ _); exact BK301.out) hkp (fun hs_ => (fun e_ => (Kd.R_ne HO_10.out BK301.out (by decide)) e_) hs_)); have n6_ := Aside0.mk (blk_kept (by (with_reducible repeat first | refine bkN ?_ _ | refine bkD ?_ | refine bkA ?_ _); exact BK329.out) hkp (fun hs_ => (fun e_ => (Kd.R_ne HO_10.out BK329.out (by decide)) e_) hs_)); have n7_ := Aside0.mk (blk_kept (by (with_reducible repeat first | refine bkN ?_ _ | refine bkD ?_ | refine bkA ?_ _); exact BK337.out) hkp (fun hs_ => (fun e_ => (Kd.R_ne HO_10.out BK337.out (by decide)) e_) hs_)); have n8_ := Aside0.mk (hb); clear HO_6 HO_10 HO_330004 HO_338004 BK300 BK301 BK329 BK337 HB; have HO_6 := n0_; have HO_10 := n1_; have HO_330004 := n2_; have HO_338004 := n3_; have BK300 := n4_; have BK301 := n5_; have BK329 := n6_; have BK337 := n7_; have HB := n8_; clear n0_ n1_ n2_ n3_ n4_ n5_ n6_ n7_ n8_; (try clear hb); (try clear hkp); (try clear hy0)) | ((with_reducible refine gate_callee (f := 60) rfl ?_); refine goesL_ (some 88) rfl rfl Try.func60 (by kernel_rfl) rfl #[.slice Ao109 t365.length co109, .int .i64 1] rfl (by (try simp only [List.map_toArray, List.map_cons, List.map_nil]); first | done | (rw [show t365.length = t338.length from (Kd.R_reads' HO_10.out).1.symm] <;> rfl) | rfl | (simp only [List.length_drop, List.length_take]; rfl)) ?_; (with_reducible refine (laws_heldRecS.calls kj72 _ _ t365 1 t366 _ ?side1 ?side2 A102.out).mono ?_); (case side1 => repeat (first | exact (Kd.R_reads' HO_10.out).2.2 | (with_reducible refine Kd.C_alloc ?_ _) | (with_reducible refine Kd.C_drewN ?_ _) | (with_reducible refine Kd.C_drew ?_))); (case side2 => rw [show t365.length = t338.length from (Kd.R_reads' HO_10.out).1.symm]; exact (Kd.R_reads' HO_10.out).2.1); rintro e w111 ⟨rfl, hb⟩; refine ⟨_, rfl, ?_⟩; have n8_ := Aside0.mk (below_step (be HB) hb); replace HO_6 := Aside0.mk (Kd.R_below (rr HO_6) hb); replace HO_10 := Aside0.mk (Kd.R_below (rr HO_10) hb); replace HO_330004 := Aside0.mk (Kd.R_below (rr HO_330004) hb); replace HO_338004 := Aside0.mk (Kd.R_below (rr HO_338004) hb); replace BK300 := bq BK300 hb; replace BK301 := bq BK301 hb; replace BK329 := bq BK329 hb; replace BK337 := bq BK337 hb; clear HB; have HB := n8_; clear n8_; (try clear hb); (try clear hb2); (try clear hk); (try clear hi)))
             have n0_ := Aside0.mk (Kd.R_drew HO_6.out)
             have n1_ := Aside0.mk (Kd.R_drew HO_10.out)
             have n2_ := Aside0.mk (Kd.R_drew HO_330004.out)
             have n3_ := Aside0.mk (Kd.R_drew HO_338004.out)
             have n4_ := Aside0.mk (blk_drew BK300.out)
             have n5_ := Aside0.mk (blk_drew BK301.out)
             have n6_ := Aside0.mk (blk_drew BK329.out)
             have n7_ := Aside0.mk (blk_drew BK337.out)
             have n8_ := Aside0.mk (below_drew1 HB.out)
             clear HO_6 HO_10 HO_330004 HO_338004 BK300 BK301 BK329 BK337 HB; have HO_6 := n0_; have HO_10 := n1_; have HO_330004 := n2_; have HO_338004 := n3_; have BK300 := n4_; have BK301 := n5_; have BK329 := n6_; have BK337 := n7_; have HB := n8_; clear n0_ n1_ n2_ n3_ n4_ n5_ n6_ n7_ n8_; refine start_ (n := 10) (S := fun w' => w'.cell? ⟨gb300, 0, none⟩ = some (.int .i64 a0_0) ∧ w'.cell? ⟨gb300, 1, none⟩ = some (.int .i64 a0_1) ∧ w'.cell? ⟨gb300, 2, none⟩ = some (.int .i64 a0_2) ∧ w'.cell? ⟨gb300, 3, none⟩ = some (.int .i64 a0_3) ∧ w'.cell? ⟨gb300, 4, none⟩ = some (.slice A0_4 l0_4.length c0_4) ∧ w'.cell? ⟨gb301, 0, none⟩ = some (.int .i64 a1_0) ∧ w'.cell? ⟨gb301, 1, none⟩ = some (.int .i64 a1_1) ∧ w'.cell? ⟨gb301, 2, none⟩ = some (.int .i64 a1_2) ∧ w'.cell? ⟨gb301, 3, none⟩ = some (.int .i64 a1_3) ∧ w'.cell? ⟨gb301, 4, none⟩ = some (.slice A1_4 l1_4.length c1_4)) (ds := []) #[ff,ff,ff,ff,ff,ff,ff,ff,ff,ff] (by kernel_rfl) rfl rfl ⟨bc BK300 0, bc BK300 1, bc BK300 2, bc BK300 3, bc BK300 4, bc BK301 0, bc BK301 1, bc BK301 2, bc BK301 3, bc BK301 4⟩ (fun hHeld => ?_); refine with_tabW laws_FnExactChanges.tab31 laws_FnExactChanges.bits31 (fun HT_ HW_ => ?_)
             generalize w111.drew = w112 at HO_6 HO_10 HO_330004 HO_338004 BK300 BK301 BK329 BK337 HB hHeld ⊢
             refine take_ (i := 0) (N := some 95) (v := ?_) (a' := ?_) #[tt,ff,ff,ff,ff,ff,ff,ff,ff,ff] rfl rfl (take_ofW HT_.out HW_.out (by kernel_rfl)) (fun _ _ _ h => h) (Or.inl ⟨by rfl, ?_⟩) hHeld ?_ ?_
             rotate_left
             ·rintro w' ⟨s0, s1, s2, s3, s4, s5, s6, s7, s8, s9⟩
              go_simp; with_reducible rfl
             rotate_left
             ·simp only [putL, i64_w, i32_w]; rfl
             refine take_ (i := 2) (N := some 97) (v := ?_) (a' := ?_) #[tt,ff,tt,ff,ff,ff,ff,ff,ff,ff] rfl rfl (take_ofW HT_.out HW_.out (by kernel_rfl)) (fun _ _ _ h => h) (Or.inl ⟨by rfl, ?_⟩) hHeld ?_ ?_
             rotate_left
             ·rintro w' ⟨s0, s1, s2, s3, s4, s5, s6, s7, s8, s9⟩
              go_simp; with_reducible rfl
             rotate_left
             ·simp only [putL, i64_w, i32_w]; rfl
             refine one_ (i := 1) (N := some 96) #[tt,tt,tt,ff,ff,ff,ff,ff,ff,ff] rfl rfl (one_of HT_.out (by kernel_rfl)) (by decide) (fun K hK => ?_)
             refine goes_ Try.func38 (by kernel_rfl) rfl #[.agg #[.int .i64 a0_0, .int .i64 a0_1, .int .i64 a0_2, .int .i64 a0_3, .slice A0_4 l0_4.length c0_4]] (by rfl) rfl rfl (by (try simp only [List.map_toArray, List.map_cons, List.map_nil]); first | done | rfl | (simp only [List.length_drop, List.length_take]; rfl)) ?_
             with_reducible refine (laws_toWal.calls kj72 a0_0 a0_1 a0_2 a0_3 _ _ l0_4 t367 t368 t369 t370 t371 _ ?side1 ?side2 A105.out).mono ?_
             (case side1 => repeat (first | exact (Kd.C_below HR0_4.out HB.out) | (with_reducible refine Kd.C_alloc ?_ _) | (with_reducible refine Kd.C_drewN ?_ _) | (with_reducible refine Kd.C_drew ?_)))
             (case side2 => exact HC0_4.out)
             rintro e w113 ⟨v372, rfl, ho0, hb⟩
             refine ⟨_, rfl, ?_⟩
             have n2_ := Aside0.mk (Kd.R_elder' (rr HO_330004) (Kd.R_base ho0) hb)
             have n3_ := Aside0.mk (Kd.R_elder' (rr HO_338004) (Kd.R_base ho0) hb)
             have n9_ := Aside0.mk (below_step (be HB) hb)
             have HO373 := Aside0.mk (Kd.R_lower (Kd.R_new' (Kd.R_new' ho0 (Kd.R_lt (rr HO_330004))) (Kd.R_lt (rr HO_338004))) (below_size (be HB)))
             replace HO_6 := Aside0.mk (Kd.R_below (rr HO_6) hb); replace HO_10 := Aside0.mk (Kd.R_below (rr HO_10) hb); replace BK300 := bq BK300 hb; replace BK301 := bq BK301 hb; replace BK329 := bq BK329 hb; replace BK337 := bq BK337 hb; clear HO_330004 HO_338004 HB; have HO_330004 := n2_; have HO_338004 := n3_; have HB := n9_; clear n2_ n3_ n9_; (try clear hb); (try clear hb2); (try clear hk); (try clear hi); (try clear ho0); refine hK.out _ _ ⟨bc BK300 0, bc BK300 1, bc BK300 2, bc BK300 3, bc BK300 4, bc BK301 0, bc BK301 1, bc BK301 2, bc BK301 3, bc BK301 4⟩ (fun hHeld => ?_)
             clear hK K; refine norm_ (a' := ?_) ?_ ?_
             rotate_left
             ·show Act.put _ (some 96) _ = _
              simp only [putL, i64_w, i32_w]; rfl
             refine one_ (i := 3) (N := some 98) #[tt,tt,tt,tt,ff,ff,ff,ff,ff,ff] rfl rfl (one_of HT_.out (by kernel_rfl)) (by decide) (fun K hK => ?_)
             refine goes_ Try.func38 (by kernel_rfl) rfl #[.agg #[.int .i64 a1_0, .int .i64 a1_1, .int .i64 a1_2, .int .i64 a1_3, .slice A1_4 l1_4.length c1_4]] (by rfl) rfl rfl (by (try simp only [List.map_toArray, List.map_cons, List.map_nil]); first | done | rfl | (simp only [List.length_drop, List.length_take]; rfl)) ?_
             with_reducible refine (laws_toWal.calls kj72 a1_0 a1_1 a1_2 a1_3 _ _ l1_4 t374 t375 t376 t377 t378 _ ?side1 ?side2 A106.out).mono ?_
             (case side1 => repeat (first | exact (Kd.C_below HR1_4.out HB.out) | (with_reducible refine Kd.C_alloc ?_ _) | (with_reducible refine Kd.C_drewN ?_ _) | (with_reducible refine Kd.C_drew ?_)))
             (case side2 => exact HC1_4.out)
             rintro e w114 ⟨v379, rfl, ho0, hb⟩
             refine ⟨_, rfl, ?_⟩
             have n2_ := Aside0.mk (Kd.R_elder' (rr HO_330004) (Kd.R_base ho0) hb)
             have n3_ := Aside0.mk (Kd.R_elder' (rr HO_338004) (Kd.R_base ho0) hb)
             have n4_ := Aside0.mk (Kd.R_elder' (rr HO373) (Kd.R_base ho0) hb)
             have n10_ := Aside0.mk (below_step (be HB) hb)
             have HO380 := Aside0.mk (Kd.R_lower (Kd.R_new' (Kd.R_new' (Kd.R_new' ho0 (Kd.R_lt (rr HO_330004))) (Kd.R_lt (rr HO_338004))) (Kd.R_lt (rr HO373))) (below_size (be HB)))
             replace HO_6 := Aside0.mk (Kd.R_below (rr HO_6) hb); replace HO_10 := Aside0.mk (Kd.R_below (rr HO_10) hb); replace BK300 := bq BK300 hb; replace BK301 := bq BK301 hb; replace BK329 := bq BK329 hb; replace BK337 := bq BK337 hb; clear HO_330004 HO_338004 HO373 HB; have HO_330004 := n2_; have HO_338004 := n3_; have HO373 := n4_; have HB := n10_; clear n2_ n3_ n4_ n10_; (try clear hb); (try clear hb2); (try clear hk); (try clear hi); (try clear ho0); obtain ⟨Ao115, co115, eo115⟩ := Kd.R_slice HO373.out
             (first | subst eo115 | (injection eo115 with f1_ f2_ f3_; have f4_ := f1_.symm; have f5_ := f3_.symm; clear f1_ f2_ f3_; subst f4_; subst f5_))
             obtain ⟨Ao116, co116, eo116⟩ := Kd.R_slice HO380.out
             (first | subst eo116 | (injection eo116 with f1_ f2_ f3_; have f4_ := f1_.symm; have f5_ := f3_.symm; clear f1_ f2_ f3_; subst f4_; subst f5_))
             refine hK.out _ _ ⟨bc BK300 0, bc BK300 1, bc BK300 2, bc BK300 3, bc BK300 4, bc BK301 0, bc BK301 1, bc BK301 2, bc BK301 3, bc BK301 4⟩ (fun hHeld => ?_)
             clear hK K; refine norm_ (a' := ?_) ?_ ?_
             rotate_left
             ·show Act.put _ (some 98) _ = _
              simp only [putL, i64_w, i32_w]; rfl
             refine one_ (i := 4) (N := some 99) #[tt,tt,tt,tt,tt,ff,ff,ff,ff,ff] rfl rfl (one_of HT_.out (by kernel_rfl)) (by decide) (fun K hK => ?_)
             refine goes_ Try.func57 (by kernel_rfl) rfl #[.agg #[.int .i64 t367, .int .i64 t368, .int .i64 t369, .int .i64 t370, .slice Ao115 t371.length co115], .agg #[.int .i64 t374, .int .i64 t375, .int .i64 t376, .int .i64 t377, .slice Ao116 t378.length co116]] (by rfl) rfl rfl (by (try simp only [List.map_toArray, List.map_cons, List.map_nil]); first | done | rfl | (simp only [List.length_drop, List.length_take]; rfl)) ?_
             with_reducible refine (impl_Changes.calls kj72 t367 t368 t369 t370 _ _ t371 t374 t375 t376 t377 _ _ t378 t381 t384 _ ?side1 ?side2 ?side3 ?side4 A107.out).mono ?_
             (case side1 => repeat (first | exact (Kd.R_reads' HO373.out).2.2 | (with_reducible refine Kd.C_alloc ?_ _) | (with_reducible refine Kd.C_drewN ?_ _) | (with_reducible refine Kd.C_drew ?_)))
             (case side2 => exact (Kd.R_reads' HO373.out).2.1)
             (case side3 => repeat (first | exact (Kd.R_reads' HO380.out).2.2 | (with_reducible refine Kd.C_alloc ?_ _) | (with_reducible refine Kd.C_drewN ?_ _) | (with_reducible refine Kd.C_drew ?_)))
             (case side4 => exact (Kd.R_reads' HO380.out).2.1)
             rintro e w117 ⟨v382, rfl, ho0, hb⟩
             refine ⟨_, rfl, ?_⟩
             have n0_ := Aside0.mk (Kd.R_elder' (rr HO_6) (Kd.R_base ho0) hb)
             have n1_ := Aside0.mk (Kd.R_elder' (rr HO_10) (Kd.R_base ho0) hb)
             have n11_ := Aside0.mk (below_step (be HB) hb)
             have HO383 := Aside0.mk (Kd.R_lower (Kd.R_new' (Kd.R_new' ho0 (Kd.R_lt (rr HO_6))) (Kd.R_lt (rr HO_10))) (below_size (be HB)))
             replace HO_330004 := Aside0.mk (Kd.R_below (rr HO_330004) hb); replace HO_338004 := Aside0.mk (Kd.R_below (rr HO_338004) hb); replace HO373 := Aside0.mk (Kd.R_below (rr HO373) hb); replace HO380 := Aside0.mk (Kd.R_below (rr HO380) hb); replace BK300 := bq BK300 hb; replace BK301 := bq BK301 hb; replace BK329 := bq BK329 hb; replace BK337 := bq BK337 hb; clear HO_6 HO_10 HB; have HO_6 := n0_; have HO_10 := n1_; have HB := n11_; clear n0_ n1_ n11_; (try clear hb); (try clear hb2); (try clear hk); (try clear hi); (try clear ho0); refine hK.out _ _ ⟨bc BK300 0, bc BK300 1, bc BK300 2, bc BK300 3, bc BK300 4, bc BK301 0, bc BK301 1, bc BK301 2, bc BK301 3, bc BK301 4⟩ (fun hHeld => ?_)
             clear hK K; refine norm_ (a' := ?_) ?_ ?_
             rotate_left
             ·show Act.put _ (some 99) _ = _
              simp only [putL, i64_w, i32_w]; rfl
             refine pure_ (i := 5) (N := some 94) (v := ?_) (a' := ?_) #[tt,tt,tt,tt,tt,tt,ff,ff,ff,ff] rfl rfl (any_of HT_.out (by kernel_rfl)) (fun _ _ _ h => h) (Or.inl ⟨by rfl, ?_⟩) ?_ ?_
             rotate_left
             ·intro w'; go_simp; with_reducible rfl
             rotate_left
             ·simp only [putL, i64_w, i32_w]; rfl
             refine pure_ (i := 6) (N := some 100) (v := ?_) (a' := ?_) #[tt,tt,tt,tt,tt,tt,tt,ff,ff,ff] rfl rfl (any_of HT_.out (by kernel_rfl)) (fun _ _ _ h => h) (Or.inl ⟨by rfl, ?_⟩) ?_ ?_
             rotate_left
             ·intro w'; go_simp; with_reducible rfl
             rotate_left
             ·simp only [putL, i64_w, i32_w]; rfl
             refine pure_ (i := 7) (N := some 101) (v := ?_) (a' := ?_) #[tt,tt,tt,tt,tt,tt,tt,tt,ff,ff] rfl rfl (any_of HT_.out (by kernel_rfl)) (fun _ _ _ h => h) (Or.inl ⟨by rfl, ?_⟩) ?_ ?_
             rotate_left
             ·intro w'; go_simp; with_reducible rfl
             rotate_left
             ·simp only [putL, i64_w, i32_w]; rfl
             refine pure_ (i := 8) (N := some 15) (v := ?_) (a' := ?_) #[tt,tt,tt,tt,tt,tt,tt,tt,tt,ff] rfl rfl (any_of HT_.out (by kernel_rfl)) (fun _ _ _ h => h) (Or.inl ⟨by rfl, ?_⟩) ?_ ?_
             rotate_left
             ·intro w'; go_simp; with_reducible rfl
             rotate_left
             ·simp only [putL, i64_w, i32_w]; rfl
             refine pure_ (i := 9) (N := some 16) (v := ?_) (a' := ?_) #[tt,tt,tt,tt,tt,tt,tt,tt,tt,tt] rfl rfl (any_of HT_.out (by kernel_rfl)) (fun _ _ _ h => h) (Or.inl ⟨by rfl, ?_⟩) ?_ ?_
             rotate_left
             ·intro w'; go_simp; with_reducible rfl
             rotate_left
             ·simp only [putL, i64_w, i32_w]; rfl
             refine done_ (done_of HT_.out (by kernel_rfl)) ?_
             go_upto_region 32 with (fail)
             go_cut [110] (fun v110 wc => ∃ (kq : Nat) (x110_107 : Bool), v110 = .bool x110_107 ∧ Aside0 (laws_FnExactChanges.j2 kq t365 t364 x110_107 = some r) ∧ Aside0 (kq ≤ kj72) ∧ Aside0 (Kd.R k44 44 wc w.heap.size (fun _ => True) (.slice Ao109 t338.length co109) t365) ∧ Aside0 (Kd.R k125 125 wc w.heap.size (fun k_ => some k_ ≠ ((.slice Ao53 t362.length co53) : Value).ownBlock) (.slice Ao45 t360.length co45) t360) ∧ Aside0 (Kd.R k125 125 wc w.heap.size (fun k_ => some k_ ≠ ((.slice Ao45 t360.length co45) : Value).ownBlock) (.slice Ao53 t362.length co53) t362) ∧ Aside0 (wc.heap[gb300]? = some (.cells #[.int .i64 a0_0, .int .i64 a0_1, .int .i64 a0_2, .int .i64 a0_3, (.slice A0_4 l0_4.length c0_4)] 56 (0, 0))) ∧ Aside0 (wc.heap[gb301]? = some (.cells #[.int .i64 a1_0, .int .i64 a1_1, .int .i64 a1_2, .int .i64 a1_3, (.slice A1_4 l1_4.length c1_4)] 56 (0, 0))) ∧ Aside0 (wc.heap[gb329]? = some (.cells #[.int .i64 t322, .int .i64 t323, .int .i64 t324, .int .i64 t325, (.slice Ao45 t360.length co45)] 62 (0, 0))) ∧ Aside0 (wc.heap[gb337]? = some (.cells #[.int .i64 t330, .int .i64 t331, .int .i64 t332, .int .i64 t333, (.slice Ao53 t362.length co53)] 62 (0, 0))) ∧ Aside0 (Below w.heap.size w wc))
             case first =>
              have H := HC108.out; clear HC108; replace H := Option.bind_eq_some_iff.mp H
              obtain ⟨t385, A1180, H⟩ := H
              replace H : (if t385 = true then (laws_FnExactChanges.j2 kj72 t365 t364 (t384 != t321)) else (laws_FnExactChanges.j2 kj72 t365 t364 true)) = some r := H
              have A118 := Aside0.mk A1180
              clear A1180
              by_cases c119 : t385 = true
              ·subst c119
               have H1 : (laws_FnExactChanges.j2 kj72 t365 t364 (t384 != t321)) = some r := by rw [if_pos rfl] at H; exact H
               clear H; have H := H1
               clear H1; have H' := Aside0.mk H
               clear H; obtain ⟨Ao120, co120, eo120⟩ := Kd.R_slice HO383.out
               subst eo120
               obtain ⟨Ao121, co121, eo121⟩ := Kd.R_slice HO_6.out
               subst eo121
               go_wp2_with (first | ((with_reducible refine gate_callee (f := 58) rfl ?_); refine goesL_ (some 104) rfl rfl Try.func58 (by kernel_rfl) rfl #[.slice Ao120 t381.length co120, .slice Ao121 t318.length co121] rfl (by (try simp only [List.map_toArray, List.map_cons, List.map_nil]); first | done | rfl | (simp only [List.length_drop, List.length_take]; rfl)) ?_; (with_reducible refine (laws_eqRecS.calls kj72 _ _ t381 _ _ t318 true _ ?side1 ?side2 ?side3 ?side4 A118.out).mono ?_); (case side1 => repeat (first | exact (Kd.R_reads' HO383.out).2.2 | (with_reducible refine Kd.C_alloc ?_ _) | (with_reducible refine Kd.C_drewN ?_ _) | (with_reducible refine Kd.C_drew ?_))); (case side2 => exact (Kd.R_reads' HO383.out).2.1); (case side3 => repeat (first | exact (Kd.R_reads' HO_6.out).2.2 | (with_reducible refine Kd.C_alloc ?_ _) | (with_reducible refine Kd.C_drewN ?_ _) | (with_reducible refine Kd.C_drew ?_))); (case side4 => exact (Kd.R_reads' HO_6.out).2.1); rintro e w122 ⟨rfl, hb⟩; refine ⟨_, rfl, ?_⟩; have n11_ := Aside0.mk (below_step (be HB) hb); replace HO_6 := Aside0.mk (Kd.R_below (rr HO_6) hb); replace HO_10 := Aside0.mk (Kd.R_below (rr HO_10) hb); replace HO_330004 := Aside0.mk (Kd.R_below (rr HO_330004) hb); replace HO_338004 := Aside0.mk (Kd.R_below (rr HO_338004) hb); replace HO373 := Aside0.mk (Kd.R_below (rr HO373) hb); replace HO380 := Aside0.mk (Kd.R_below (rr HO380) hb); replace HO383 := Aside0.mk (Kd.R_below (rr HO383) hb); replace BK300 := bq BK300 hb; replace BK301 := bq BK301 hb; replace BK329 := bq BK329 hb; replace BK337 := bq BK337 hb; clear HB; have HB := n11_; clear n11_; (try clear hb); (try clear hb2); (try clear hk); (try clear hi)))
               go_meet
               case rel => exact ⟨_, ((t384 != t321)), (by first | rfl | (simp; done) | (simp [*]; done)), H', ⟨by have := HJ24.out; have := HJ72.out; first | omega | exact Nat.le_refl _⟩, ⟨by (try simp only [hl330004_72]); (try simp only [hl338004_72]); (with_reducible repeat (first | apply Kd.R_alloc | apply Kd.R_drewN | apply Kd.R_drew)); exact Kd.R_mono HO_10.out (fun _ hk => trivial)⟩, ⟨by (try simp only [hl330004_72]); (try simp only [hl338004_72]); (with_reducible repeat (first | apply Kd.R_alloc | apply Kd.R_drewN | apply Kd.R_drew)); exact Kd.R_mono HO_330004.out (fun _ hk => hk.1.1)⟩, ⟨by (try simp only [hl330004_72]); (try simp only [hl338004_72]); (with_reducible repeat (first | apply Kd.R_alloc | apply Kd.R_drewN | apply Kd.R_drew)); exact Kd.R_mono HO_338004.out (fun _ hk => hk.1.1)⟩, ⟨by (try simp only [hl330004_72]); (try simp only [hl338004_72]); (with_reducible repeat first | refine bkN ?_ _ | refine bkD ?_ | refine bkA ?_ _); exact BK300.out⟩, ⟨by (try simp only [hl330004_72]); (try simp only [hl338004_72]); (with_reducible repeat first | refine bkN ?_ _ | refine bkD ?_ | refine bkA ?_ _); exact BK301.out⟩, ⟨by (try simp only [hl330004_72]); (try simp only [hl338004_72]); (with_reducible repeat first | refine bkN ?_ _ | refine bkD ?_ | refine bkA ?_ _); exact BK329.out⟩, ⟨by (try simp only [hl330004_72]); (try simp only [hl338004_72]); (with_reducible repeat first | refine bkN ?_ _ | refine bkD ?_ | refine bkA ?_ _); exact BK337.out⟩, ⟨by repeat (first | (with_reducible first | exact HB.out | apply below_alloc | apply pw_below_drewN | apply below_drew1 | refine below_set ?_ GE300.out | refine below_set ?_ GE301.out | refine below_set ?_ GE329.out | refine below_set ?_ GE337.out) | exact HB.out)⟩⟩
              ·replace c119 := Bool.eq_false_iff.mpr c119
               subst c119
               have H1 : (laws_FnExactChanges.j2 kj72 t365 t364 true) = some r := by rw [if_neg (show ¬ (false = true) by decide)] at H; exact H
               clear H; have H := H1
               clear H1; have H' := Aside0.mk H
               clear H; obtain ⟨Ao123, co123, eo123⟩ := Kd.R_slice HO383.out
               subst eo123
               obtain ⟨Ao124, co124, eo124⟩ := Kd.R_slice HO_6.out
               subst eo124
               go_wp2_with (first | ((with_reducible refine gate_callee (f := 58) rfl ?_); refine goesL_ (some 104) rfl rfl Try.func58 (by kernel_rfl) rfl #[.slice Ao123 t381.length co123, .slice Ao124 t318.length co124] rfl (by (try simp only [List.map_toArray, List.map_cons, List.map_nil]); first | done | rfl | (simp only [List.length_drop, List.length_take]; rfl)) ?_; (with_reducible refine (laws_eqRecS.calls kj72 _ _ t381 _ _ t318 false _ ?side1 ?side2 ?side3 ?side4 A118.out).mono ?_); (case side1 => repeat (first | exact (Kd.R_reads' HO383.out).2.2 | (with_reducible refine Kd.C_alloc ?_ _) | (with_reducible refine Kd.C_drewN ?_ _) | (with_reducible refine Kd.C_drew ?_))); (case side2 => exact (Kd.R_reads' HO383.out).2.1); (case side3 => repeat (first | exact (Kd.R_reads' HO_6.out).2.2 | (with_reducible refine Kd.C_alloc ?_ _) | (with_reducible refine Kd.C_drewN ?_ _) | (with_reducible refine Kd.C_drew ?_))); (case side4 => exact (Kd.R_reads' HO_6.out).2.1); rintro e w125 ⟨rfl, hb⟩; refine ⟨_, rfl, ?_⟩; have n11_ := Aside0.mk (below_step (be HB) hb); replace HO_6 := Aside0.mk (Kd.R_below (rr HO_6) hb); replace HO_10 := Aside0.mk (Kd.R_below (rr HO_10) hb); replace HO_330004 := Aside0.mk (Kd.R_below (rr HO_330004) hb); replace HO_338004 := Aside0.mk (Kd.R_below (rr HO_338004) hb); replace HO373 := Aside0.mk (Kd.R_below (rr HO373) hb); replace HO380 := Aside0.mk (Kd.R_below (rr HO380) hb); replace HO383 := Aside0.mk (Kd.R_below (rr HO383) hb); replace BK300 := bq BK300 hb; replace BK301 := bq BK301 hb; replace BK329 := bq BK329 hb; replace BK337 := bq BK337 hb; clear HB; have HB := n11_; clear n11_; (try clear hb); (try clear hb2); (try clear hk); (try clear hi)))
               go_meet
               case rel => exact ⟨_, (true), (by first | rfl | (simp; done) | (simp [*]; done)), H', ⟨by have := HJ24.out; have := HJ72.out; first | omega | exact Nat.le_refl _⟩, ⟨by (try simp only [hl330004_72]); (try simp only [hl338004_72]); (with_reducible repeat (first | apply Kd.R_alloc | apply Kd.R_drewN | apply Kd.R_drew)); exact Kd.R_mono HO_10.out (fun _ hk => trivial)⟩, ⟨by (try simp only [hl330004_72]); (try simp only [hl338004_72]); (with_reducible repeat (first | apply Kd.R_alloc | apply Kd.R_drewN | apply Kd.R_drew)); exact Kd.R_mono HO_330004.out (fun _ hk => hk.1.1)⟩, ⟨by (try simp only [hl330004_72]); (try simp only [hl338004_72]); (with_reducible repeat (first | apply Kd.R_alloc | apply Kd.R_drewN | apply Kd.R_drew)); exact Kd.R_mono HO_338004.out (fun _ hk => hk.1.1)⟩, ⟨by (try simp only [hl330004_72]); (try simp only [hl338004_72]); (with_reducible repeat first | refine bkN ?_ _ | refine bkD ?_ | refine bkA ?_ _); exact BK300.out⟩, ⟨by (try simp only [hl330004_72]); (try simp only [hl338004_72]); (with_reducible repeat first | refine bkN ?_ _ | refine bkD ?_ | refine bkA ?_ _); exact BK301.out⟩, ⟨by (try simp only [hl330004_72]); (try simp only [hl338004_72]); (with_reducible repeat first | refine bkN ?_ _ | refine bkD ?_ | refine bkA ?_ _); exact BK329.out⟩, ⟨by (try simp only [hl330004_72]); (try simp only [hl338004_72]); (with_reducible repeat first | refine bkN ?_ _ | refine bkD ?_ | refine bkA ?_ _); exact BK337.out⟩, ⟨by repeat (first | (with_reducible first | exact HB.out | apply below_alloc | apply pw_below_drewN | apply below_drew1 | refine below_set ?_ GE300.out | refine below_set ?_ GE301.out | refine below_set ?_ GE329.out | refine below_set ?_ GE337.out) | exact HB.out)⟩⟩
             case rest =>
              clear HC108; (try clear c1); (try clear c2); (try clear p2); (try clear c3); (try clear c4); (try clear c4b0); (try clear c5); (try clear c6); (try clear c7); (try clear c8); (try clear c9); (try clear c10); (try clear c11); (try clear c11b0); (try clear c13); (try clear c14); (try clear c28); (try clear c35); (try clear c38); (try clear c41); (try clear c42); (try clear c43); (try clear c49); (try clear c50); (try clear c51); (try clear c56); (try clear c57); (try clear c58); (try clear c59); (try clear c60); (try clear c64); (try clear c67); (try clear c70); (try clear c82); (try clear c83); (try clear c84); (try clear c87); (try clear c88); (try clear c91); (try clear c91b0); (try clear c93); (try clear c100); (try clear c103); (try clear c103b0); (try clear c104); (try clear c104b0); (try clear c104b1); (try clear c119); (try clear hcz15_0); (try clear hcz15_1); (try clear hcz15_2); (try clear hcz15_3); (try clear hcz15_4); (try clear hcz17_0); (try clear hcz17_1); (try clear hcz17_2); (try clear hcz17_3); (try clear hcz17_4); (try clear hcz29_0); (try clear hcz29_1); (try clear hcz29_2); (try clear hcz29_3); (try clear hcz29_4); (try clear hcz31_0); (try clear hcz31_1); (try clear hcz31_2); (try clear hcz31_3); (try clear hcz31_4); (try clear hcz39_0); (try clear hcz39_1); (try clear hcz39_2); (try clear hcz39_3); (try clear hcz39_4); (try clear hcz44_0); (try clear hcz44_1); (try clear hcz44_2); (try clear hcz44_3); (try clear hcz44_4); (try clear hcz46_0); (try clear hcz46_1); (try clear hcz46_2); (try clear hcz46_3); (try clear hcz46_4); (try clear hcz52_0); (try clear hcz52_1); (try clear hcz52_2); (try clear hcz52_3); (try clear hcz52_4); (try clear hcz54_0); (try clear hcz54_1); (try clear hcz54_2); (try clear hcz54_3); (try clear hcz54_4); (try clear hcz85_0); (try clear hcz85_1); (try clear hcz85_2); (try clear hcz85_3); (try clear hcz85_4); (try clear hcz89_0); (try clear hcz89_1); (try clear hcz89_2); (try clear hcz89_3); (try clear hcz89_4); (try clear hcz8_0); (try clear hcz8_1); (try clear hcz8_2); (try clear hcz8_3); (try clear hcz8_4); (try clear hfz15_0); (try clear hfz15_1); (try clear hfz15_2); (try clear hfz15_3); (try clear hfz15_4); (try clear hfz17_0); (try clear hfz17_1); (try clear hfz17_2); (try clear hfz17_3); (try clear hfz17_4); (try clear hfz29_0); (try clear hfz29_1); (try clear hfz29_2); (try clear hfz29_3); (try clear hfz29_4); (try clear hfz31_0); (try clear hfz31_1); (try clear hfz31_2); (try clear hfz31_3); (try clear hfz31_4); (try clear hfz39_0); (try clear hfz39_1); (try clear hfz39_2); (try clear hfz39_3); (try clear hfz39_4); (try clear hfz44_0); (try clear hfz44_1); (try clear hfz44_2); (try clear hfz44_3); (try clear hfz44_4); (try clear hfz46_0); (try clear hfz46_1); (try clear hfz46_2); (try clear hfz46_3); (try clear hfz46_4); (try clear hfz52_0); (try clear hfz52_1); (try clear hfz52_2); (try clear hfz52_3); (try clear hfz52_4); (try clear hfz54_0); (try clear hfz54_1); (try clear hfz54_2)
              (try clear hfz54_3); (try clear hfz54_4); (try clear hfz85_0); (try clear hfz85_1); (try clear hfz85_2); (try clear hfz85_3); (try clear hfz85_4); (try clear hfz89_0); (try clear hfz89_1); (try clear hfz89_2); (try clear hfz89_3); (try clear hfz89_4); (try clear hfz8_0); (try clear hfz8_1); (try clear hfz8_2); (try clear hfz8_3); (try clear hfz8_4); (try clear p2); obtain ⟨kq, x110_107, rfl, HA, HJ107, HO_10, HO_330004, HO_338004, BK300, BK301, BK329, BK337, HB⟩ := hcut
              have hl10_107 := (Kd.R_reads' HO_10.out).1
              rw [hl10_107] at HO_10
              (try simp only [hl10_107])
              (try simp only [hl10_107] at BK300)
              (try simp only [hl10_107] at BK301)
              (try simp only [hl10_107] at BK329)
              (try simp only [hl10_107] at BK337)
              (try simp only [hl10_107] at HO_330004)
              (try simp only [hl10_107] at HO_338004)
              cases kq with
              | zero => exact absurd HA.out (by simp [laws_FnExactChanges.j2])
              | succ kj107 =>
               have H := HA.out; clear HA; simp only [laws_FnExactChanges.j2] at H
               by_cases c126 : x110_107 = true
               ·subst c126
                have H1 : (none) = some r := by rw [if_pos rfl] at H; exact H
                clear H; have H := H1
                clear H1; exact absurd H (by simp)
               ·replace c126 := Bool.eq_false_iff.mpr c126
                subst c126
                have H1 : ((laws_heldRecS.f kj107 t365 1).bind fun t386 => (if t386 < 0 then (none) else (if t386 = t364 then (some true) else (none)))) = some r := by rw [if_neg (show ¬ (false = true) by decide)] at H; exact H
                clear H; have H := H1
                clear H1; replace H := Option.bind_eq_some_iff.mp H
                obtain ⟨t386, A1270, H⟩ := H
                replace H : (if t386 < 0 then (none) else (if t386 = t364 then (some true) else (none))) = some r := H
                have A127 := Aside0.mk A1270
                clear A1270
                by_cases c128 : t386 < 0
                ·rw [if_pos c128] at H
                 exact absurd H (by simp)
                ·rw [if_neg c128] at H
                 have c128b0 : decide (t386 < 0) = false := decide_eq_false c128
                 clear c128
                 by_cases c129 : t386 = t364
                 ·rw [if_pos c129] at H
                  have c129b0 : (t386 == t364) = true := beq_iff_eq.mpr c129
                  have c129b1 : (t386 != t364) = false := bne_eq_false_iff_eq.mpr c129
                  clear c129; obtain rfl := Option.some.inj H
                  go_wp2_with (first | ((with_reducible refine gate_callee (f := 60) rfl ?_); refine goesL_ (some 113) rfl rfl Try.func60 (by kernel_rfl) rfl #[.slice Ao109 t365.length co109, .int .i64 1] rfl (by (try simp only [List.map_toArray, List.map_cons, List.map_nil]); first | done | rfl | (simp only [List.length_drop, List.length_take]; rfl)) ?_; (with_reducible refine (laws_heldRecS.calls kj107 _ _ t365 1 t386 _ ?side1 ?side2 A127.out).mono ?_); (case side1 => repeat (first | exact (Kd.R_reads' HO_10.out).2.2 | (with_reducible refine Kd.C_alloc ?_ _) | (with_reducible refine Kd.C_drewN ?_ _) | (with_reducible refine Kd.C_drew ?_))); (case side2 => exact (Kd.R_reads' HO_10.out).2.1); rintro e w130 ⟨rfl, hb⟩; refine ⟨_, rfl, ?_⟩; have n7_ := Aside0.mk (below_step (be HB) hb); replace HO_10 := Aside0.mk (Kd.R_below (rr HO_10) hb); replace HO_330004 := Aside0.mk (Kd.R_below (rr HO_330004) hb); replace HO_338004 := Aside0.mk (Kd.R_below (rr HO_338004) hb); replace BK300 := bq BK300 hb; replace BK301 := bq BK301 hb; replace BK329 := bq BK329 hb; replace BK337 := bq BK337 hb; clear HB; have HB := n7_; clear n7_; (try clear hb); (try clear hb2); (try clear hk); (try clear hi)))
                  go_ret
                  exact ⟨by first | rfl | (simp [errW_none, errW_some] <;> rfl) | (simp [*, errW_none, errW_some] <;> rfl), by repeat (first | (with_reducible first | exact HB.out | apply below_alloc | apply pw_below_drewN | apply below_drew1 | refine below_set ?_ GE300.out | refine below_set ?_ GE301.out | refine below_set ?_ GE329.out | refine below_set ?_ GE337.out) | exact HB.out)⟩
                 ·rw [if_neg c129] at H
                  exact absurd H (by simp)
            ·rw [if_neg c104] at H
             exact absurd H (by simp)
       ·replace c70 := Bool.eq_false_iff.mpr c70
        subst c70
        have H1 : (none) = some r := by rw [if_neg (show ¬ (false = true) by decide)] at H; exact H
        clear H; have H := H1
        clear H1; exact absurd H (by simp)
      ·replace c67 := Bool.eq_false_iff.mpr c67
       subst c67
       have H1 : (none) = some r := by rw [if_neg (show ¬ (false = true) by decide)] at H; exact H
       clear H; have H := H1
       clear H1; exact absurd H (by simp)

/-- THE ONE PURE STATEMENT of laws_FnExactChanges. -/
def laws_FnExactChanges.Pure : Prop := ∀ (a0_0 : Int) (a0_1 : Int) (a0_2 : Int) (a0_3 : Int) (l0_4 : List (S148)) (a1_0 : Int) (a1_1 : Int) (a1_2 : Int) (a1_3 : Int) (l1_4 : List (S148)), (Lit.int .i64 a0_0).wf = true → (Lit.int .i64 a0_1).wf = true → (Lit.int .i64 a0_2).wf = true → (Lit.int .i64 a0_3).wf = true → (l0_4.length ≤ 9223372036854775807 ∧ ∀ y ∈ l0_4, ((Lit.int .i64 y.f0).wf = true ∧ y.f1.size ≤ 9223372036854775807)) → (Lit.int .i64 a1_0).wf = true → (Lit.int .i64 a1_1).wf = true → (Lit.int .i64 a1_2).wf = true → (Lit.int .i64 a1_3).wf = true → (l1_4.length ≤ 9223372036854775807 ∧ ∀ y ∈ l1_4, ((Lit.int .i64 y.f0).wf = true ∧ y.f1.size ≤ 9223372036854775807)) → ∃ k, laws_FnExactChanges.f k a0_0 a0_1 a0_2 a0_3 l0_4 a1_0 a1_1 a1_2 a1_3 l1_4 = some true

end Go.Proofs.Ytopnfbnfmaghaaa.PFnExactChanges
