-- The machine side of a law: written by a program of this session (wip/tools), a turned print.
import Derived.Test.YtobkmpihjfiihaaPFnExactPlanAddx0
import Derived.Test.YtobkmpihjfiihaaPFnExactPlanAddx9
import Derived.Test.YtobkmpihjfiihaaPFnExactPlanAddx10
namespace Go.Proofs.Ytobkmpihjfiihaa.PFnExactPlanAdd
open Go.RowKit Go.Proofs.YtobkmpihjfiihaaW.PrintWords Go.Proofs.YtobkmpihjfiihaaW.PrintLast Go.Proofs.YtobkmpihjfiihaaW.PrintMore
attribute [local go_sem] max2_int min2_int max_two min_two max_three min_three max_four min_four   -- for this text's walks alone
set_option linter.unusedVariables false
set_option linter.unusedSimpArgs false

/-! ### impl_WalStep: function 112 -/
def impl_WalStep.j0 : Nat → Bool → Int → Int → Int → Int → List (S146) → Int → Int → Int → Int → List (S146) → Option (Int × Int × Int × Int × (List (S146)) × Bool)
 | 0, _, _, _, _, _, _, _, _, _, _, _ => none
 | k + 1, x20, x241000, x241001, x241002, x241003, x241004, x252000, x252001, x252002, x252003, x252004 => if x20 = true then ((impl_copyWal.f x241000 x241001 x241002 x241003 x241004).bind fun bt265 => (some (bt265.1, bt265.2.1, bt265.2.2.1, bt265.2.2.2.1, bt265.2.2.2.2, false))) else ((impl_copyWal.f x252000 x252001 x252002 x252003 x252004).bind fun bt272 => (some (bt272.1, bt272.2.1, bt272.2.2.1, bt272.2.2.2.1, bt272.2.2.2.2, true)))
def impl_WalStep.f (k : Nat) (a0_0 : Int) (a0_1 : Int) (a0_2 : Int) (a0_3 : Int) (l0_4 : List (S146)) (a1_0 : Int) (a1_1 : Int) (a1_2 : Int) (a1_3 : Int) (a1_4 : ByteArray) : Option (Int × Int × Int × Int × (List (S146)) × Bool) := (impl_WalOk.f k a0_0 a0_1 a0_2 a0_3 l0_4).bind fun t243 => (if t243 = true then ((impl_copyWal.f a0_0 a0_1 a0_2 a0_3 l0_4).bind fun bt244 => ((impl_RecOk.f a1_0 a1_1 a1_2 a1_3 a1_4).bind fun t252 => (if t252 = true then (if a1_0 = 1 then (if a1_1 < bt244.1 then (impl_WalStep.j0 k (!false) a0_0 a0_1 a0_2 a0_3 l0_4 bt244.1 bt244.2.1 bt244.2.2.1 bt244.2.2.2.1 bt244.2.2.2.2) else (if a1_1 = bt244.1 then (if bt244.2.1 = (-1) then (impl_WalStep.j0 k (!true) a0_0 a0_1 a0_2 a0_3 l0_4 a1_1 a1_3 bt244.2.2.1 bt244.2.2.2.1 bt244.2.2.2.2) else (if bt244.2.1 = a1_3 then (impl_WalStep.j0 k (!true) a0_0 a0_1 a0_2 a0_3 l0_4 a1_1 a1_3 bt244.2.2.1 bt244.2.2.2.1 bt244.2.2.2.2) else (impl_WalStep.j0 k (!false) a0_0 a0_1 a0_2 a0_3 l0_4 bt244.1 bt244.2.1 bt244.2.2.1 bt244.2.2.2.1 bt244.2.2.2.2))) else (impl_WalStep.j0 k (!true) a0_0 a0_1 a0_2 a0_3 l0_4 a1_1 a1_3 bt244.2.2.1 bt244.2.2.2.1 bt244.2.2.2.2))) else (if a1_0 = 2 then ((impl_Wal_end.f bt244.1 bt244.2.1 bt244.2.2.1 bt244.2.2.2.1 bt244.2.2.2.2).bind fun t254 => (if a1_2 = (wrap64 (t254 + 1)) then (if (bt244.2.2.2.2.length : Int) ≥ 60 then (impl_WalStep.j0 k (!false) a0_0 a0_1 a0_2 a0_3 l0_4 bt244.1 bt244.2.1 bt244.2.2.1 bt244.2.2.2.1 bt244.2.2.2.2) else ((impl_Wal_endTerm.f bt244.1 bt244.2.1 bt244.2.2.1 bt244.2.2.2.1 bt244.2.2.2.2).bind fun t255 => ((impl_within.f a1_1 t255 bt244.1).bind fun t256 => (if t256 = true then (if bt244.2.2.2.2.length < 5864062014805 then (impl_WalStep.j0 k (!true) a0_0 a0_1 a0_2 a0_3 l0_4 bt244.1 bt244.2.1 bt244.2.2.1 bt244.2.2.2.1 (bt244.2.2.2.2 ++ [(⟨a1_1, a1_4⟩ : S146)])) else (none)) else (impl_WalStep.j0 k (!false) a0_0 a0_1 a0_2 a0_3 l0_4 bt244.1 bt244.2.1 bt244.2.2.1 bt244.2.2.2.1 bt244.2.2.2.2))))) else (impl_WalStep.j0 k (!false) a0_0 a0_1 a0_2 a0_3 l0_4 bt244.1 bt244.2.1 bt244.2.2.1 bt244.2.2.2.1 bt244.2.2.2.2))) else (if a1_0 = 3 then ((impl_Wal_end.f bt244.1 bt244.2.1 bt244.2.2.1 bt244.2.2.2.1 bt244.2.2.2.2).bind fun t260 => ((impl_within.f a1_2 (wrap64 (bt244.2.2.1 + 1)) t260).bind fun t261 => (if t261 = true then (if 0 ≤ (wrap64 ((wrap64 (a1_2 - bt244.2.2.1)) - 1)) then (if (wrap64 ((wrap64 (a1_2 - bt244.2.2.1)) - 1)) ≤ (bt244.2.2.2.2.length : Int) then (impl_WalStep.j0 k (!true) a0_0 a0_1 a0_2 a0_3 l0_4 bt244.1 bt244.2.1 bt244.2.2.1 bt244.2.2.2.1 (bt244.2.2.2.2.take ((wrap64 ((wrap64 (a1_2 - bt244.2.2.1)) - 1)) : Int).toNat)) else (none)) else (none)) else (impl_WalStep.j0 k (!false) a0_0 a0_1 a0_2 a0_3 l0_4 bt244.1 bt244.2.1 bt244.2.2.1 bt244.2.2.2.1 bt244.2.2.2.2)))) else (impl_WalStep.j0 k (!false) a0_0 a0_1 a0_2 a0_3 l0_4 bt244.1 bt244.2.1 bt244.2.2.1 bt244.2.2.2.1 bt244.2.2.2.2)))) else (impl_WalStep.j0 k true a0_0 a0_1 a0_2 a0_3 l0_4 bt244.1 bt244.2.1 bt244.2.2.1 bt244.2.2.2.1 bt244.2.2.2.2)))) else (some (0, 0, 0, 0, ([] : List (S146)), false)))
theorem impl_WalStep.mono_l : ∀ k, (∀ y0 y1 y2 y3 y4 y5 y6 y7 y8 y9 y10, LeO (impl_WalStep.j0 k y0 y1 y2 y3 y4 y5 y6 y7 y8 y9 y10) (impl_WalStep.j0 (k + 1) y0 y1 y2 y3 y4 y5 y6 y7 y8 y9 y10))
 | 0 => fun _ _ _ _ _ _ _ _ _ _ _ r h => by simp [impl_WalStep.j0] at h
 | k + 1 => by
  have ih0 := impl_WalStep.mono_l k
  ·intro y0 y1 y2 y3 y4 y5 y6 y7 y8 y9 y10
   unfold impl_WalStep.j0
   repeat' first
   | (with_reducible exact ih0 _ _ _ _ _ _ _ _ _ _ _)
   | (with_reducible exact impl_WalOk.mono _ _ _ _ _ _)
   | (with_reducible exact LeO.refl _)
   | (with_reducible exact LeO.none _)
   | (with_reducible refine LeO.ite ?_ ?_)
   | (with_reducible refine LeO.bind ?_ (fun _ => ?_))
   | exact ih0 _ _ _ _ _ _ _ _ _ _ _
   | exact impl_WalOk.mono _ _ _ _ _ _
   | exact LeO.none _
   | refine LeO.ite ?_ ?_
   | refine LeO.bind ?_ (fun _ => ?_)
theorem impl_WalStep.mono : ∀ a0 a1 a2 a3 a4 a5 a6 a7 a8 a9 k, LeO (impl_WalStep.f k a0 a1 a2 a3 a4 a5 a6 a7 a8 a9) (impl_WalStep.f (k + 1) a0 a1 a2 a3 a4 a5 a6 a7 a8 a9) := by
 intro a0 a1 a2 a3 a4 a5 a6 a7 a8 a9 k
 have ih0 := impl_WalStep.mono_l k
 unfold impl_WalStep.f
 repeat' first
   | (with_reducible exact ih0 _ _ _ _ _ _ _ _ _ _ _)
   | (with_reducible exact impl_WalOk.mono _ _ _ _ _ _)
   | (with_reducible exact LeO.refl _)
   | (with_reducible exact LeO.none _)
   | (with_reducible refine LeO.ite ?_ ?_)
   | (with_reducible refine LeO.bind ?_ (fun _ => ?_))
   | exact ih0 _ _ _ _ _ _ _ _ _ _ _
   | exact impl_WalOk.mono _ _ _ _ _ _
   | exact LeO.none _
   | refine LeO.ite ?_ ?_
   | refine LeO.bind ?_ (fun _ => ?_)
def impl_WalStep.T1004 : Bool × List (List Nat × List Nat) := (true, [([], []), ([0], [0]), ([], []), ([2], [2]), ([3], [3]), ([4], [4]), ([1, 5], [1, 5]), ([6], [6]), ([7], [7]), ([8, 7], [7, 8]), ([7], [7]), ([10, 7], [7, 10]), ([11, 7], [7, 11]), ([12, 7], [7, 12]), ([9, 13, 7], [7, 9, 13]), ([14, 7, 7], [7, 14]), ([15], [15]), ([16, 15], [15, 16]), ([17, 15], [15, 17]), ([18, 15], [15, 18]), ([19, 15], [15, 19]), ([15, 20, 7], [7, 15, 20]), ([21, 15, 7], [7, 21]), ([22], [22]), ([23, 22], [22, 23]), ([24, 22], [22, 24]), ([25, 22], [22, 25]), ([22], [22]), ([27, 22], [22, 27]), ([26, 28, 22], [22, 26, 28]), ([22, 29, 7], [7, 22, 29]), ([7, 30], [7, 30])])
def impl_WalStep.B1004 : List Nat := [0, 1, 0, 4, 12, 28, 63, 127, 255, 511, 255, 1279, 3327, 7423, 16383, 32767, 65535, 131071, 262143, 524287, 1048575, 2097151, 4194303, 8388607, 16777215, 33554431, 67108863, 8388607, 142606335, 536870911, 1073741823, 2147483647]
theorem impl_WalStep.tab1004 : rtab .any (opsOf Try.f81 4) = impl_WalStep.T1004 := by kernel_rfl
theorem impl_WalStep.bits1004 : waitsOk impl_WalStep.T1004.2 impl_WalStep.B1004 = true := by kernel_rfl
def impl_WalStep.T1009 : Bool × List (List Nat × List Nat) := (true, [([], []), ([0], [0]), ([], []), ([2], [2]), ([3], [3]), ([4], [4]), ([5], [5]), ([1, 6], [1, 6]), ([7, 5], [7]), ([8], [8]), ([9, 8], [8, 9]), ([10, 8], [8, 10]), ([11, 8], [8, 11]), ([12, 8], [8, 12]), ([13, 8], [8, 13]), ([8, 14], [8, 14]), ([15, 8], [15]), ([16], [16]), ([17, 16], [16, 17]), ([16], [16]), ([19, 16], [16, 19]), ([20, 16], [16, 20]), ([21, 16, 16], [16, 21]), ([16], [16]), ([23, 16], [16, 23]), ([24, 16], [16, 24]), ([25, 16], [16, 25]), ([18, 22, 26, 22, 16], [16, 18, 22, 26]), ([27, 16], [16, 27]), ([16, 28], [16, 28])])
def impl_WalStep.B1009 : List Nat := [0, 1, 0, 4, 12, 28, 60, 127, 255, 511, 1023, 2047, 4095, 8191, 16383, 32767, 65535, 131071, 262143, 131071, 655359, 1703935, 3801087, 131071, 8519679, 25296895, 58851327, 134217727, 268435455, 536870911]
theorem impl_WalStep.tab1009 : rtab .any (opsOf Try.f81 9) = impl_WalStep.T1009 := by kernel_rfl
theorem impl_WalStep.bits1009 : waitsOk impl_WalStep.T1009.2 impl_WalStep.B1009 = true := by kernel_rfl
def impl_WalStep.T1011 : Bool × List (List Nat × List Nat) := (true, [([], []), ([], []), ([1], [1]), ([2], [2]), ([3], [3]), ([], []), ([5], [5]), ([], []), ([7], [7]), ([6, 8], [6, 8]), ([9], [9]), ([4, 10], [4, 10]), ([0, 0, 1, 2, 3, 4, 5, 6, 7, 8, 9, 10, 11], [0]), ([12, 0, 1, 2, 3, 4, 5, 6, 7, 8, 9, 10, 11], [12]), ([13, 11, 11, 0, 1, 2, 3, 4, 5, 6, 7, 8, 9, 10, 11], [11, 13])])
def impl_WalStep.B1011 : List Nat := [0, 0, 2, 6, 14, 0, 32, 0, 128, 480, 992, 2046, 4095, 8191, 16383]
theorem impl_WalStep.tab1011 : rtab .any (opsOf Try.f81 11) = impl_WalStep.T1011 := by kernel_rfl
theorem impl_WalStep.bits1011 : waitsOk impl_WalStep.T1011.2 impl_WalStep.B1011 = true := by kernel_rfl
def impl_WalStep.T1013 : Bool × List (List Nat × List Nat) := (true, [([], []), ([0], [0]), ([], []), ([2], [2]), ([3], [3]), ([4], [4]), ([5], [5]), ([], []), ([7], [7]), ([8], [8]), ([9], [9]), ([1, 6, 10, 10], [1, 6, 10]), ([11], [11])])
def impl_WalStep.B1013 : List Nat := [0, 1, 0, 4, 12, 28, 60, 0, 128, 384, 896, 2047, 4095]
theorem impl_WalStep.tab1013 : rtab .any (opsOf Try.f81 13) = impl_WalStep.T1013 := by kernel_rfl
theorem impl_WalStep.bits1013 : waitsOk impl_WalStep.T1013.2 impl_WalStep.B1013 = true := by kernel_rfl
def impl_WalStep.T1015 : Bool × List (List Nat × List Nat) := (true, [([], []), ([], []), ([1], [1]), ([2], [2]), ([3], [3]), ([], []), ([5], [5]), ([], []), ([7], [7]), ([8], [8]), ([9], [9]), ([6, 10], [6, 10]), ([11], [11]), ([4, 12], [4, 12]), ([0, 0, 1, 2, 3, 4, 5, 6, 7, 8, 9, 10, 11, 12, 13], [0]), ([14, 0, 1, 2, 3, 4, 5, 6, 7, 8, 9, 10, 11, 12, 13], [14]), ([15, 13, 0, 1, 2, 3, 4, 5, 6, 7, 8, 9, 10, 11, 12, 13], [13, 15])])
def impl_WalStep.B1015 : List Nat := [0, 0, 2, 6, 14, 0, 32, 0, 128, 384, 896, 2016, 4064, 8190, 16383, 32767, 65535]
theorem impl_WalStep.tab1015 : rtab .any (opsOf Try.f81 15) = impl_WalStep.T1015 := by kernel_rfl
theorem impl_WalStep.bits1015 : waitsOk impl_WalStep.T1015.2 impl_WalStep.B1015 = true := by kernel_rfl
set_option maxHeartbeats 8000000 in
set_option maxRecDepth 100000 in
theorem impl_WalStep.calls (k : Nat) (a0_0 : Int) (a0_1 : Int) (a0_2 : Int) (a0_3 : Int) (A0_4 : Option Addr) (c0_4 : Nat) (l0_4 : List (S146)) (a1_0 : Int) (a1_1 : Int) (a1_2 : Int) (a1_3 : Int) (a1_4 : ByteArray) (r1 : Int) (r2 : Int) (r3 : Int) (r4 : Int) (r5 : List (S146)) (r6 : Bool) (w : World) (hr0_4 : Kd.C k146 w A0_4 l0_4.length l0_4) (hc0_4 : l0_4.length ≤ c0_4) (h : impl_WalStep.f k a0_0 a0_1 a0_2 a0_3 l0_4 a1_0 a1_1 a1_2 a1_3 a1_4 = some (r1, r2, r3, r4, r5, r6)) :
  Calls Try.prog 112 #[.agg #[.int .i64 a0_0, .int .i64 a0_1, .int .i64 a0_2, .int .i64 a0_3, .slice A0_4 l0_4.length c0_4], .agg #[.int .i64 a1_0, .int .i64 a1_1, .int .i64 a1_2, .int .i64 a1_3, .string a1_4]] w fun e w' => ∃ v4_ : Value, e = .returned (.tuple #[.agg #[.int .i64 r1, .int .i64 r2, .int .i64 r3, .int .i64 r4, v4_], .bool r6]) ∧ Kd.R k146 146 w' w.heap.size (fun _ => True) v4_ r5 ∧ Below w.heap.size w w' := by
 have hu50 := Try.underlying50
 have hu96 := Try.underlying96
 have HR0_4 := Aside0.mk hr0_4
 have HC0_4 := Aside0.mk hc0_4
 clear hr0_4 hc0_4; have HB := Aside0.mk (Below.refl w.heap.size w)
 have H : ((impl_WalOk.f k a0_0 a0_1 a0_2 a0_3 l0_4).bind fun t243 => (if t243 = true then ((impl_copyWal.f a0_0 a0_1 a0_2 a0_3 l0_4).bind fun bt244 => ((impl_RecOk.f a1_0 a1_1 a1_2 a1_3 a1_4).bind fun t252 => (if t252 = true then (if a1_0 = 1 then (if a1_1 < bt244.1 then (impl_WalStep.j0 k (!false) a0_0 a0_1 a0_2 a0_3 l0_4 bt244.1 bt244.2.1 bt244.2.2.1 bt244.2.2.2.1 bt244.2.2.2.2) else (if a1_1 = bt244.1 then (if bt244.2.1 = (-1) then (impl_WalStep.j0 k (!true) a0_0 a0_1 a0_2 a0_3 l0_4 a1_1 a1_3 bt244.2.2.1 bt244.2.2.2.1 bt244.2.2.2.2) else (if bt244.2.1 = a1_3 then (impl_WalStep.j0 k (!true) a0_0 a0_1 a0_2 a0_3 l0_4 a1_1 a1_3 bt244.2.2.1 bt244.2.2.2.1 bt244.2.2.2.2) else (impl_WalStep.j0 k (!false) a0_0 a0_1 a0_2 a0_3 l0_4 bt244.1 bt244.2.1 bt244.2.2.1 bt244.2.2.2.1 bt244.2.2.2.2))) else (impl_WalStep.j0 k (!true) a0_0 a0_1 a0_2 a0_3 l0_4 a1_1 a1_3 bt244.2.2.1 bt244.2.2.2.1 bt244.2.2.2.2))) else (if a1_0 = 2 then ((impl_Wal_end.f bt244.1 bt244.2.1 bt244.2.2.1 bt244.2.2.2.1 bt244.2.2.2.2).bind fun t254 => (if a1_2 = (wrap64 (t254 + 1)) then (if (bt244.2.2.2.2.length : Int) ≥ 60 then (impl_WalStep.j0 k (!false) a0_0 a0_1 a0_2 a0_3 l0_4 bt244.1 bt244.2.1 bt244.2.2.1 bt244.2.2.2.1 bt244.2.2.2.2) else ((impl_Wal_endTerm.f bt244.1 bt244.2.1 bt244.2.2.1 bt244.2.2.2.1 bt244.2.2.2.2).bind fun t255 => ((impl_within.f a1_1 t255 bt244.1).bind fun t256 => (if t256 = true then (if bt244.2.2.2.2.length < 5864062014805 then (impl_WalStep.j0 k (!true) a0_0 a0_1 a0_2 a0_3 l0_4 bt244.1 bt244.2.1 bt244.2.2.1 bt244.2.2.2.1 (bt244.2.2.2.2 ++ [(⟨a1_1, a1_4⟩ : S146)])) else (none)) else (impl_WalStep.j0 k (!false) a0_0 a0_1 a0_2 a0_3 l0_4 bt244.1 bt244.2.1 bt244.2.2.1 bt244.2.2.2.1 bt244.2.2.2.2))))) else (impl_WalStep.j0 k (!false) a0_0 a0_1 a0_2 a0_3 l0_4 bt244.1 bt244.2.1 bt244.2.2.1 bt244.2.2.2.1 bt244.2.2.2.2))) else (if a1_0 = 3 then ((impl_Wal_end.f bt244.1 bt244.2.1 bt244.2.2.1 bt244.2.2.2.1 bt244.2.2.2.2).bind fun t260 => ((impl_within.f a1_2 (wrap64 (bt244.2.2.1 + 1)) t260).bind fun t261 => (if t261 = true then (if 0 ≤ (wrap64 ((wrap64 (a1_2 - bt244.2.2.1)) - 1)) then (if (wrap64 ((wrap64 (a1_2 - bt244.2.2.1)) - 1)) ≤ (bt244.2.2.2.2.length : Int) then (impl_WalStep.j0 k (!true) a0_0 a0_1 a0_2 a0_3 l0_4 bt244.1 bt244.2.1 bt244.2.2.1 bt244.2.2.2.1 (bt244.2.2.2.2.take ((wrap64 ((wrap64 (a1_2 - bt244.2.2.1)) - 1)) : Int).toNat)) else (none)) else (none)) else (impl_WalStep.j0 k (!false) a0_0 a0_1 a0_2 a0_3 l0_4 bt244.1 bt244.2.1 bt244.2.2.1 bt244.2.2.2.1 bt244.2.2.2.2)))) else (impl_WalStep.j0 k (!false) a0_0 a0_1 a0_2 a0_3 l0_4 bt244.1 bt244.2.1 bt244.2.2.1 bt244.2.2.2.1 bt244.2.2.2.2)))) else (impl_WalStep.j0 k true a0_0 a0_1 a0_2 a0_3 l0_4 bt244.1 bt244.2.1 bt244.2.2.1 bt244.2.2.2.1 bt244.2.2.2.2)))) else (some (0, 0, 0, 0, ([] : List (S146)), false)))) = some (r1, r2, r3, r4, r5, r6) := h
 clear h; replace H := Option.bind_eq_some_iff.mp H
 obtain ⟨t243, A30, H⟩ := H
 replace H : (if t243 = true then ((impl_copyWal.f a0_0 a0_1 a0_2 a0_3 l0_4).bind fun bt244 => ((impl_RecOk.f a1_0 a1_1 a1_2 a1_3 a1_4).bind fun t252 => (if t252 = true then (if a1_0 = 1 then (if a1_1 < bt244.1 then (impl_WalStep.j0 k (!false) a0_0 a0_1 a0_2 a0_3 l0_4 bt244.1 bt244.2.1 bt244.2.2.1 bt244.2.2.2.1 bt244.2.2.2.2) else (if a1_1 = bt244.1 then (if bt244.2.1 = (-1) then (impl_WalStep.j0 k (!true) a0_0 a0_1 a0_2 a0_3 l0_4 a1_1 a1_3 bt244.2.2.1 bt244.2.2.2.1 bt244.2.2.2.2) else (if bt244.2.1 = a1_3 then (impl_WalStep.j0 k (!true) a0_0 a0_1 a0_2 a0_3 l0_4 a1_1 a1_3 bt244.2.2.1 bt244.2.2.2.1 bt244.2.2.2.2) else (impl_WalStep.j0 k (!false) a0_0 a0_1 a0_2 a0_3 l0_4 bt244.1 bt244.2.1 bt244.2.2.1 bt244.2.2.2.1 bt244.2.2.2.2))) else (impl_WalStep.j0 k (!true) a0_0 a0_1 a0_2 a0_3 l0_4 a1_1 a1_3 bt244.2.2.1 bt244.2.2.2.1 bt244.2.2.2.2))) else (if a1_0 = 2 then ((impl_Wal_end.f bt244.1 bt244.2.1 bt244.2.2.1 bt244.2.2.2.1 bt244.2.2.2.2).bind fun t254 => (if a1_2 = (wrap64 (t254 + 1)) then (if (bt244.2.2.2.2.length : Int) ≥ 60 then (impl_WalStep.j0 k (!false) a0_0 a0_1 a0_2 a0_3 l0_4 bt244.1 bt244.2.1 bt244.2.2.1 bt244.2.2.2.1 bt244.2.2.2.2) else ((impl_Wal_endTerm.f bt244.1 bt244.2.1 bt244.2.2.1 bt244.2.2.2.1 bt244.2.2.2.2).bind fun t255 => ((impl_within.f a1_1 t255 bt244.1).bind fun t256 => (if t256 = true then (if bt244.2.2.2.2.length < 5864062014805 then (impl_WalStep.j0 k (!true) a0_0 a0_1 a0_2 a0_3 l0_4 bt244.1 bt244.2.1 bt244.2.2.1 bt244.2.2.2.1 (bt244.2.2.2.2 ++ [(⟨a1_1, a1_4⟩ : S146)])) else (none)) else (impl_WalStep.j0 k (!false) a0_0 a0_1 a0_2 a0_3 l0_4 bt244.1 bt244.2.1 bt244.2.2.1 bt244.2.2.2.1 bt244.2.2.2.2))))) else (impl_WalStep.j0 k (!false) a0_0 a0_1 a0_2 a0_3 l0_4 bt244.1 bt244.2.1 bt244.2.2.1 bt244.2.2.2.1 bt244.2.2.2.2))) else (if a1_0 = 3 then ((impl_Wal_end.f bt244.1 bt244.2.1 bt244.2.2.1 bt244.2.2.2.1 bt244.2.2.2.2).bind fun t260 => ((impl_within.f a1_2 (wrap64 (bt244.2.2.1 + 1)) t260).bind fun t261 => (if t261 = true then (if 0 ≤ (wrap64 ((wrap64 (a1_2 - bt244.2.2.1)) - 1)) then (if (wrap64 ((wrap64 (a1_2 - bt244.2.2.1)) - 1)) ≤ (bt244.2.2.2.2.length : Int) then (impl_WalStep.j0 k (!true) a0_0 a0_1 a0_2 a0_3 l0_4 bt244.1 bt244.2.1 bt244.2.2.1 bt244.2.2.2.1 (bt244.2.2.2.2.take ((wrap64 ((wrap64 (a1_2 - bt244.2.2.1)) - 1)) : Int).toNat)) else (none)) else (none)) else (impl_WalStep.j0 k (!false) a0_0 a0_1 a0_2 a0_3 l0_4 bt244.1 bt244.2.1 bt244.2.2.1 bt244.2.2.2.1 bt244.2.2.2.2)))) else (impl_WalStep.j0 k (!false) a0_0 a0_1 a0_2 a0_3 l0_4 bt244.1 bt244.2.1 bt244.2.2.1 bt244.2.2.2.1 bt244.2.2.2.2)))) else (impl_WalStep.j0 k true a0_0 a0_1 a0_2 a0_3 l0_4 bt244.1 bt244.2.1 bt244.2.2.1 bt244.2.2.2.1 bt244.2.2.2.2)))) else (some (0, 0, 0, 0, ([] : List (S146)), false))) = some (r1, r2, r3, r4, r5, r6) := H
 have A3 := Aside0.mk A30
 clear A30
 by_cases c4 : t243 = true
 ·subst c4
  have H1 : ((impl_copyWal.f a0_0 a0_1 a0_2 a0_3 l0_4).bind fun bt244 => ((impl_RecOk.f a1_0 a1_1 a1_2 a1_3 a1_4).bind fun t252 => (if t252 = true then (if a1_0 = 1 then (if a1_1 < bt244.1 then (impl_WalStep.j0 k (!false) a0_0 a0_1 a0_2 a0_3 l0_4 bt244.1 bt244.2.1 bt244.2.2.1 bt244.2.2.2.1 bt244.2.2.2.2) else (if a1_1 = bt244.1 then (if bt244.2.1 = (-1) then (impl_WalStep.j0 k (!true) a0_0 a0_1 a0_2 a0_3 l0_4 a1_1 a1_3 bt244.2.2.1 bt244.2.2.2.1 bt244.2.2.2.2) else (if bt244.2.1 = a1_3 then (impl_WalStep.j0 k (!true) a0_0 a0_1 a0_2 a0_3 l0_4 a1_1 a1_3 bt244.2.2.1 bt244.2.2.2.1 bt244.2.2.2.2) else (impl_WalStep.j0 k (!false) a0_0 a0_1 a0_2 a0_3 l0_4 bt244.1 bt244.2.1 bt244.2.2.1 bt244.2.2.2.1 bt244.2.2.2.2))) else (impl_WalStep.j0 k (!true) a0_0 a0_1 a0_2 a0_3 l0_4 a1_1 a1_3 bt244.2.2.1 bt244.2.2.2.1 bt244.2.2.2.2))) else (if a1_0 = 2 then ((impl_Wal_end.f bt244.1 bt244.2.1 bt244.2.2.1 bt244.2.2.2.1 bt244.2.2.2.2).bind fun t254 => (if a1_2 = (wrap64 (t254 + 1)) then (if (bt244.2.2.2.2.length : Int) ≥ 60 then (impl_WalStep.j0 k (!false) a0_0 a0_1 a0_2 a0_3 l0_4 bt244.1 bt244.2.1 bt244.2.2.1 bt244.2.2.2.1 bt244.2.2.2.2) else ((impl_Wal_endTerm.f bt244.1 bt244.2.1 bt244.2.2.1 bt244.2.2.2.1 bt244.2.2.2.2).bind fun t255 => ((impl_within.f a1_1 t255 bt244.1).bind fun t256 => (if t256 = true then (if bt244.2.2.2.2.length < 5864062014805 then (impl_WalStep.j0 k (!true) a0_0 a0_1 a0_2 a0_3 l0_4 bt244.1 bt244.2.1 bt244.2.2.1 bt244.2.2.2.1 (bt244.2.2.2.2 ++ [(⟨a1_1, a1_4⟩ : S146)])) else (none)) else (impl_WalStep.j0 k (!false) a0_0 a0_1 a0_2 a0_3 l0_4 bt244.1 bt244.2.1 bt244.2.2.1 bt244.2.2.2.1 bt244.2.2.2.2))))) else (impl_WalStep.j0 k (!false) a0_0 a0_1 a0_2 a0_3 l0_4 bt244.1 bt244.2.1 bt244.2.2.1 bt244.2.2.2.1 bt244.2.2.2.2))) else (if a1_0 = 3 then ((impl_Wal_end.f bt244.1 bt244.2.1 bt244.2.2.1 bt244.2.2.2.1 bt244.2.2.2.2).bind fun t260 => ((impl_within.f a1_2 (wrap64 (bt244.2.2.1 + 1)) t260).bind fun t261 => (if t261 = true then (if 0 ≤ (wrap64 ((wrap64 (a1_2 - bt244.2.2.1)) - 1)) then (if (wrap64 ((wrap64 (a1_2 - bt244.2.2.1)) - 1)) ≤ (bt244.2.2.2.2.length : Int) then (impl_WalStep.j0 k (!true) a0_0 a0_1 a0_2 a0_3 l0_4 bt244.1 bt244.2.1 bt244.2.2.1 bt244.2.2.2.1 (bt244.2.2.2.2.take ((wrap64 ((wrap64 (a1_2 - bt244.2.2.1)) - 1)) : Int).toNat)) else (none)) else (none)) else (impl_WalStep.j0 k (!false) a0_0 a0_1 a0_2 a0_3 l0_4 bt244.1 bt244.2.1 bt244.2.2.1 bt244.2.2.2.1 bt244.2.2.2.2)))) else (impl_WalStep.j0 k (!false) a0_0 a0_1 a0_2 a0_3 l0_4 bt244.1 bt244.2.1 bt244.2.2.1 bt244.2.2.2.1 bt244.2.2.2.2)))) else (impl_WalStep.j0 k true a0_0 a0_1 a0_2 a0_3 l0_4 bt244.1 bt244.2.1 bt244.2.2.1 bt244.2.2.2.1 bt244.2.2.2.2)))) = some (r1, r2, r3, r4, r5, r6) := by rw [if_pos rfl] at H; exact H
  clear H; have H := H1
  clear H1; replace H := Option.bind_eq_some_iff.mp H
  obtain ⟨⟨t244, t245, t246, t247, t248⟩, A50, H⟩ := H
  replace H : ((impl_RecOk.f a1_0 a1_1 a1_2 a1_3 a1_4).bind fun t252 => (if t252 = true then (if a1_0 = 1 then (if a1_1 < t244 then (impl_WalStep.j0 k (!false) a0_0 a0_1 a0_2 a0_3 l0_4 t244 t245 t246 t247 t248) else (if a1_1 = t244 then (if t245 = (-1) then (impl_WalStep.j0 k (!true) a0_0 a0_1 a0_2 a0_3 l0_4 a1_1 a1_3 t246 t247 t248) else (if t245 = a1_3 then (impl_WalStep.j0 k (!true) a0_0 a0_1 a0_2 a0_3 l0_4 a1_1 a1_3 t246 t247 t248) else (impl_WalStep.j0 k (!false) a0_0 a0_1 a0_2 a0_3 l0_4 t244 t245 t246 t247 t248))) else (impl_WalStep.j0 k (!true) a0_0 a0_1 a0_2 a0_3 l0_4 a1_1 a1_3 t246 t247 t248))) else (if a1_0 = 2 then ((impl_Wal_end.f t244 t245 t246 t247 t248).bind fun t254 => (if a1_2 = (wrap64 (t254 + 1)) then (if (t248.length : Int) ≥ 60 then (impl_WalStep.j0 k (!false) a0_0 a0_1 a0_2 a0_3 l0_4 t244 t245 t246 t247 t248) else ((impl_Wal_endTerm.f t244 t245 t246 t247 t248).bind fun t255 => ((impl_within.f a1_1 t255 t244).bind fun t256 => (if t256 = true then (if t248.length < 5864062014805 then (impl_WalStep.j0 k (!true) a0_0 a0_1 a0_2 a0_3 l0_4 t244 t245 t246 t247 (t248 ++ [(⟨a1_1, a1_4⟩ : S146)])) else (none)) else (impl_WalStep.j0 k (!false) a0_0 a0_1 a0_2 a0_3 l0_4 t244 t245 t246 t247 t248))))) else (impl_WalStep.j0 k (!false) a0_0 a0_1 a0_2 a0_3 l0_4 t244 t245 t246 t247 t248))) else (if a1_0 = 3 then ((impl_Wal_end.f t244 t245 t246 t247 t248).bind fun t260 => ((impl_within.f a1_2 (wrap64 (t246 + 1)) t260).bind fun t261 => (if t261 = true then (if 0 ≤ (wrap64 ((wrap64 (a1_2 - t246)) - 1)) then (if (wrap64 ((wrap64 (a1_2 - t246)) - 1)) ≤ (t248.length : Int) then (impl_WalStep.j0 k (!true) a0_0 a0_1 a0_2 a0_3 l0_4 t244 t245 t246 t247 (t248.take ((wrap64 ((wrap64 (a1_2 - t246)) - 1)) : Int).toNat)) else (none)) else (none)) else (impl_WalStep.j0 k (!false) a0_0 a0_1 a0_2 a0_3 l0_4 t244 t245 t246 t247 t248)))) else (impl_WalStep.j0 k (!false) a0_0 a0_1 a0_2 a0_3 l0_4 t244 t245 t246 t247 t248)))) else (impl_WalStep.j0 k true a0_0 a0_1 a0_2 a0_3 l0_4 t244 t245 t246 t247 t248))) = some (r1, r2, r3, r4, r5, r6) := H
  have A5 := Aside0.mk A50
  clear A50; have HC6 := Aside0.mk H
  clear H
  go_enter Try.func112, Try.ntmps112
  go_upto_region 4 with (first | ((with_reducible refine gate_dst (N := 2) rfl ?_); refine box_event ?hg (N := 2) ?hd (cs := #[.int .i64 a0_0, .int .i64 a0_1, .int .i64 a0_2, .int .i64 a0_3, .slice A0_4 l0_4.length c0_4]) (t := 50) ?hr ?_; (case hd => rfl); (case hg => rfl); (case hr => first | (go_simp; done) | (go_simp; rfl)); intro gb240 hg w7 hbox hb; have BK240 := Aside0.mk (hbox); have GW240 := bs HB hg; have GE240 := bs HB hg; replace HB := bh HB hb; clear hb hbox hg) | ((with_reducible refine gate_dst (N := 3) rfl ?_); refine box_event ?hg (N := 3) ?hd (cs := #[.int .i64 a1_0, .int .i64 a1_1, .int .i64 a1_2, .int .i64 a1_3, .string a1_4]) (t := 96) ?hr ?_; (case hd => rfl); (case hg => rfl); (case hr => first | (go_simp; done) | (go_simp; rfl)); intro gb241 hg w8 hbox hb; have BK241 := Aside0.mk (hbox); have GW241 := bs HB hg; have GE241 := bs HB hg; have NB240_241 := bl BK240 hg; have NB241_240 := bg BK240 hg; replace BK240 := bq BK240 hb; replace HB := bh HB hb; clear hb hbox hg) | ((with_reducible refine gate_dst (N := 4) rfl ?_); refine box_event ?hg (N := 4) ?hd (cs := #[.int .i64 0, .int .i64 0, .int .i64 0, .int .i64 0, .slice none 0 0]) (t := 50) ?hr ?_; (case hd => rfl); (case hg => rfl); (case hr => first | (go_simp; done) | (go_simp; rfl)); intro gb242 hg w9 hbox hb; have BK242 := Aside0.mk (hbox); have GW242 := bs HB hg; have GE242 := bs HB hg; have NB240_242 := bl BK240 hg; have NB242_240 := bg BK240 hg; have NB241_242 := bl BK241 hg; have NB242_241 := bg BK241 hg; replace BK240 := bq BK240 hb; replace BK241 := bq BK241 hb; replace HB := bh HB hb; clear hb hbox hg; have hnb10 := NB240_241.out; have hnc10 := NB241_240.out; have hnb11 := NB240_242.out; have hnc11 := NB242_240.out; obtain ⟨hcz12_0, hcz12_1, hcz12_2, hcz12_3, hcz12_4⟩ := cs5 BK240; obtain ⟨hfz12_0, hfz12_1, hfz12_2, hfz12_3, hfz12_4⟩ := fs5 BK240) | ((with_reducible refine gate_callee (f := 111) rfl ?_); refine goesL_ (some 8) rfl rfl Try.func111 (by kernel_rfl) rfl #[.agg #[.int .i64 a0_0, .int .i64 a0_1, .int .i64 a0_2, .int .i64 a0_3, .slice A0_4 l0_4.length c0_4]] rfl (by (try simp only [List.map_toArray, List.map_cons, List.map_nil]); first | done | rfl | (simp only [List.length_drop, List.length_take]; rfl)) ?_; (with_reducible refine (impl_WalOk.calls k a0_0 a0_1 a0_2 a0_3 _ _ l0_4 true _ ?side1 ?side2 A3.out).mono ?_); (case side1 => repeat (first | exact (Kd.C_below HR0_4.out HB.out) | (with_reducible refine Kd.C_alloc ?_ _) | (with_reducible refine Kd.C_drewN ?_ _) | (with_reducible refine Kd.C_drew ?_))); (case side2 => exact HC0_4.out); rintro e w13 ⟨rfl, hb⟩; refine ⟨_, rfl, ?_⟩; replace BK240 := bq BK240 hb; replace BK241 := bq BK241 hb; replace BK242 := bq BK242 hb; replace HB := bh HB hb; (try clear hb); (try clear hb2); (try clear hk); (try clear hi); obtain ⟨hcz14_0, hcz14_1, hcz14_2, hcz14_3, hcz14_4⟩ := cs5 BK240; obtain ⟨hfz14_0, hfz14_1, hfz14_2, hfz14_3, hfz14_4⟩ := fs5 BK240) | ((with_reducible refine gate_callee (f := 145) rfl ?_); refine goesL_ (some 12) rfl rfl Try.func145 (by kernel_rfl) rfl #[.agg #[.int .i64 a0_0, .int .i64 a0_1, .int .i64 a0_2, .int .i64 a0_3, .slice A0_4 l0_4.length c0_4]] rfl (by (try simp only [List.map_toArray, List.map_cons, List.map_nil]); first | done | rfl | (simp only [List.length_drop, List.length_take]; rfl)) ?_; (with_reducible refine (impl_copyWal.calls a0_0 a0_1 a0_2 a0_3 _ _ l0_4 t244 t245 t246 t247 t248 _ ?side1 ?side2 A5.out).mono ?_); (case side1 => repeat (first | exact (Kd.C_below HR0_4.out HB.out) | (with_reducible refine Kd.C_alloc ?_ _) | (with_reducible refine Kd.C_drewN ?_ _) | (with_reducible refine Kd.C_drew ?_))); (case side2 => exact HC0_4.out); rintro e w15 ⟨v249, rfl, ho0, hb⟩; refine ⟨_, rfl, ?_⟩; have HO250 := Aside0.mk (Kd.R_lower ho0 (below_size (be HB))); replace BK240 := bq BK240 hb; replace BK241 := bq BK241 hb; replace BK242 := bq BK242 hb; replace HB := bh HB hb; (try clear hb); (try clear hb2); (try clear hk); (try clear hi)) | ((with_reducible refine gate_dst (N := 6) rfl ?_); refine box_event ?hg (N := 6) ?hd (cs := #[.int .i64 0, .int .i64 0, .int .i64 0, .int .i64 0, .slice none 0 0]) (t := 50) ?hr ?_; (case hd => rfl); (case hg => rfl); (case hr => first | (go_simp; done) | (go_simp; rfl)); intro gb251 hg w16 hbox hb; have BK251 := Aside0.mk (hbox); have GW251 := bs HB hg; have GE251 := bs HB hg; have NB240_251 := bl BK240 hg; have NB251_240 := bg BK240 hg; have NB241_251 := bl BK241 hg; have NB251_241 := bg BK241 hg; have NB242_251 := bl BK242 hg; have NB251_242 := bg BK242 hg; replace HO250 := Aside0.mk (Kd.R_below (rr HO250) hb); replace BK240 := bq BK240 hb; replace BK241 := bq BK241 hb; replace BK242 := bq BK242 hb; replace HB := bh HB hb; clear hb hbox hg; have hnb17 := NB251_240.out; have hnc17 := NB240_251.out; have hnb18 := NB251_241.out; have hnc18 := NB241_251.out; have hnb19 := NB251_242.out; have hnc19 := NB242_251.out; obtain ⟨hcz20_0, hcz20_1, hcz20_2, hcz20_3, hcz20_4⟩ := cs5 BK251; obtain ⟨hfz20_0, hfz20_1, hfz20_2, hfz20_3, hfz20_4⟩ := fs5 BK251; obtain ⟨Ao21, co21, eo21⟩ := Kd.R_slice HO250.out; subst eo21))
  (try simp only [putL])
  go_cut [20] (fun v20 wc => ∃ (kq : Nat) (x20_5 : Bool) (x252000_5 : Int) (x252001_5 : Int) (x252002_5 : Int) (x252003_5 : Int) (x252004_5 : List (S146)) (u252004 : Value), v20 = .bool x20_5 ∧ Aside0 (impl_WalStep.j0 kq x20_5 a0_0 a0_1 a0_2 a0_3 l0_4 x252000_5 x252001_5 x252002_5 x252003_5 x252004_5 = some (r1, r2, r3, r4, r5, r6)) ∧ Aside0 (kq ≤ k) ∧ Aside0 (Kd.R k146 146 wc w.heap.size (fun _ => True) u252004 x252004_5) ∧ Aside0 (wc.heap[gb240]? = some (.cells #[.int .i64 a0_0, .int .i64 a0_1, .int .i64 a0_2, .int .i64 a0_3, (.slice A0_4 l0_4.length c0_4)] 50 (0, 0))) ∧ Aside0 (wc.heap[gb241]? = some (.cells #[.int .i64 a1_0, .int .i64 a1_1, .int .i64 a1_2, .int .i64 a1_3, .string a1_4] 96 (0, 0))) ∧ Aside0 (wc.heap[gb242]? = some (.cells #[.int .i64 0, .int .i64 0, .int .i64 0, .int .i64 0, (.slice none 0 0)] 50 (0, 0))) ∧ Aside0 (wc.heap[gb251]? = some (.cells #[.int .i64 x252000_5, .int .i64 x252001_5, .int .i64 x252002_5, .int .i64 x252003_5, u252004] 50 (0, 0))) ∧ Aside0 (Below w.heap.size w wc))
  case first =>
   have H := HC6.out; clear HC6; replace H := Option.bind_eq_some_iff.mp H
   obtain ⟨t252, A220, H⟩ := H
   replace H : (if t252 = true then (if a1_0 = 1 then (if a1_1 < t244 then (impl_WalStep.j0 k (!false) a0_0 a0_1 a0_2 a0_3 l0_4 t244 t245 t246 t247 t248) else (if a1_1 = t244 then (if t245 = (-1) then (impl_WalStep.j0 k (!true) a0_0 a0_1 a0_2 a0_3 l0_4 a1_1 a1_3 t246 t247 t248) else (if t245 = a1_3 then (impl_WalStep.j0 k (!true) a0_0 a0_1 a0_2 a0_3 l0_4 a1_1 a1_3 t246 t247 t248) else (impl_WalStep.j0 k (!false) a0_0 a0_1 a0_2 a0_3 l0_4 t244 t245 t246 t247 t248))) else (impl_WalStep.j0 k (!true) a0_0 a0_1 a0_2 a0_3 l0_4 a1_1 a1_3 t246 t247 t248))) else (if a1_0 = 2 then ((impl_Wal_end.f t244 t245 t246 t247 t248).bind fun t254 => (if a1_2 = (wrap64 (t254 + 1)) then (if (t248.length : Int) ≥ 60 then (impl_WalStep.j0 k (!false) a0_0 a0_1 a0_2 a0_3 l0_4 t244 t245 t246 t247 t248) else ((impl_Wal_endTerm.f t244 t245 t246 t247 t248).bind fun t255 => ((impl_within.f a1_1 t255 t244).bind fun t256 => (if t256 = true then (if t248.length < 5864062014805 then (impl_WalStep.j0 k (!true) a0_0 a0_1 a0_2 a0_3 l0_4 t244 t245 t246 t247 (t248 ++ [(⟨a1_1, a1_4⟩ : S146)])) else (none)) else (impl_WalStep.j0 k (!false) a0_0 a0_1 a0_2 a0_3 l0_4 t244 t245 t246 t247 t248))))) else (impl_WalStep.j0 k (!false) a0_0 a0_1 a0_2 a0_3 l0_4 t244 t245 t246 t247 t248))) else (if a1_0 = 3 then ((impl_Wal_end.f t244 t245 t246 t247 t248).bind fun t260 => ((impl_within.f a1_2 (wrap64 (t246 + 1)) t260).bind fun t261 => (if t261 = true then (if 0 ≤ (wrap64 ((wrap64 (a1_2 - t246)) - 1)) then (if (wrap64 ((wrap64 (a1_2 - t246)) - 1)) ≤ (t248.length : Int) then (impl_WalStep.j0 k (!true) a0_0 a0_1 a0_2 a0_3 l0_4 t244 t245 t246 t247 (t248.take ((wrap64 ((wrap64 (a1_2 - t246)) - 1)) : Int).toNat)) else (none)) else (none)) else (impl_WalStep.j0 k (!false) a0_0 a0_1 a0_2 a0_3 l0_4 t244 t245 t246 t247 t248)))) else (impl_WalStep.j0 k (!false) a0_0 a0_1 a0_2 a0_3 l0_4 t244 t245 t246 t247 t248)))) else (impl_WalStep.j0 k true a0_0 a0_1 a0_2 a0_3 l0_4 t244 t245 t246 t247 t248)) = some (r1, r2, r3, r4, r5, r6) := H
   have A22 := Aside0.mk A220
   clear A220
   by_cases c23 : t252 = true
   ·subst c23
    have H1 : (if a1_0 = 1 then (if a1_1 < t244 then (impl_WalStep.j0 k (!false) a0_0 a0_1 a0_2 a0_3 l0_4 t244 t245 t246 t247 t248) else (if a1_1 = t244 then (if t245 = (-1) then (impl_WalStep.j0 k (!true) a0_0 a0_1 a0_2 a0_3 l0_4 a1_1 a1_3 t246 t247 t248) else (if t245 = a1_3 then (impl_WalStep.j0 k (!true) a0_0 a0_1 a0_2 a0_3 l0_4 a1_1 a1_3 t246 t247 t248) else (impl_WalStep.j0 k (!false) a0_0 a0_1 a0_2 a0_3 l0_4 t244 t245 t246 t247 t248))) else (impl_WalStep.j0 k (!true) a0_0 a0_1 a0_2 a0_3 l0_4 a1_1 a1_3 t246 t247 t248))) else (if a1_0 = 2 then ((impl_Wal_end.f t244 t245 t246 t247 t248).bind fun t254 => (if a1_2 = (wrap64 (t254 + 1)) then (if (t248.length : Int) ≥ 60 then (impl_WalStep.j0 k (!false) a0_0 a0_1 a0_2 a0_3 l0_4 t244 t245 t246 t247 t248) else ((impl_Wal_endTerm.f t244 t245 t246 t247 t248).bind fun t255 => ((impl_within.f a1_1 t255 t244).bind fun t256 => (if t256 = true then (if t248.length < 5864062014805 then (impl_WalStep.j0 k (!true) a0_0 a0_1 a0_2 a0_3 l0_4 t244 t245 t246 t247 (t248 ++ [(⟨a1_1, a1_4⟩ : S146)])) else (none)) else (impl_WalStep.j0 k (!false) a0_0 a0_1 a0_2 a0_3 l0_4 t244 t245 t246 t247 t248))))) else (impl_WalStep.j0 k (!false) a0_0 a0_1 a0_2 a0_3 l0_4 t244 t245 t246 t247 t248))) else (if a1_0 = 3 then ((impl_Wal_end.f t244 t245 t246 t247 t248).bind fun t260 => ((impl_within.f a1_2 (wrap64 (t246 + 1)) t260).bind fun t261 => (if t261 = true then (if 0 ≤ (wrap64 ((wrap64 (a1_2 - t246)) - 1)) then (if (wrap64 ((wrap64 (a1_2 - t246)) - 1)) ≤ (t248.length : Int) then (impl_WalStep.j0 k (!true) a0_0 a0_1 a0_2 a0_3 l0_4 t244 t245 t246 t247 (t248.take ((wrap64 ((wrap64 (a1_2 - t246)) - 1)) : Int).toNat)) else (none)) else (none)) else (impl_WalStep.j0 k (!false) a0_0 a0_1 a0_2 a0_3 l0_4 t244 t245 t246 t247 t248)))) else (impl_WalStep.j0 k (!false) a0_0 a0_1 a0_2 a0_3 l0_4 t244 t245 t246 t247 t248)))) = some (r1, r2, r3, r4, r5, r6) := by rw [if_pos rfl] at H; exact H
    clear H; have H := H1
    clear H1
    by_cases c24 : a1_0 = 1
    ·rw [if_pos c24] at H
     have c24b0 : (a1_0 == 1) = true := beq_iff_eq.mpr c24
     have c24b1 : (a1_0 != 1) = false := bne_eq_false_iff_eq.mpr c24
     clear c24
     (first | rw [c24b0] | (simp only [i64_w, i32_w]; rw [c24b0]) | skip)
     by_cases c25 : a1_1 < t244
     ·rw [if_pos c25] at H
      have c25b0 : decide (a1_1 < t244) = true := decide_eq_true c25
      clear c25; have H' := Aside0.mk H
      clear H; have hnb26 := NB241_240.out; have hnc26 := NB240_241.out; have hnb27 := NB241_242.out; have hnc27 := NB242_241.out; have hnb28 := NB241_251.out; have hnc28 := NB251_241.out; obtain ⟨hcz29_0, hcz29_1, hcz29_2, hcz29_3, hcz29_4⟩ := cs5 BK241; obtain ⟨hfz29_0, hfz29_1, hfz29_2, hfz29_3, hfz29_4⟩ := fs5 BK241
      go_wp2_with (first | ((with_reducible refine gate_callee (f := 146) rfl ?_); refine goesL_ (some 14) rfl rfl Try.func146 (by kernel_rfl) rfl #[.agg #[.int .i64 a1_0, .int .i64 a1_1, .int .i64 a1_2, .int .i64 a1_3, .string a1_4]] rfl (by (try simp only [List.map_toArray, List.map_cons, List.map_nil]); first | done | rfl | (simp only [List.length_drop, List.length_take]; rfl)) ?_; (with_reducible refine (impl_RecOk.calls a1_0 a1_1 a1_2 a1_3 a1_4 true _ A22.out).mono ?_); rintro e w30 ⟨rfl, hb⟩; refine ⟨_, rfl, ?_⟩; have n0_ := Aside0.mk (Kd.R_below (by (with_reducible repeat (first | apply Kd.R_alloc | apply Kd.R_drewN | apply Kd.R_drew)); exact (Kd.R_mono (Kd.R_far (p := ⟨gb251, 4, none⟩) (Kd.R_far (p := ⟨gb251, 3, none⟩) (Kd.R_far (p := ⟨gb251, 2, none⟩) (Kd.R_far (p := ⟨gb251, 1, none⟩) (Kd.R_far (p := ⟨gb251, 0, none⟩) (Kd.R_types HO250.out BK251.out (by decide)) (fun _ hk => hk.2) (.int .i64 t244)) (fun _ hk => hk.2) (.int .i64 t245)) (fun _ hk => hk.2) (.int .i64 t246)) (fun _ hk => hk.2) (.int .i64 t247)) (fun _ hk => hk.2) (.slice Ao21 t248.length co21)) (fun _ h_ => h_.1))) hb); have n1_ := bf BK240 hb; have n2_ := bf BK241 hb; have n3_ := bf BK242 hb; have n4_ := bp #[.int .i64 t244, .int .i64 t245, .int .i64 t246, .int .i64 t247, .slice Ao21 t248.length co21] BK251 hb; replace HB := bh HB hb; clear HO250 BK240 BK241 BK242 BK251; have HO250 := n0_; have BK240 := n1_; have BK241 := n2_; have BK242 := n3_; have BK251 := n4_; clear n0_ n1_ n2_ n3_ n4_; (try clear hb); (try clear hb2); (try clear hk); (try clear hi); obtain ⟨hcz31_0, hcz31_1, hcz31_2, hcz31_3, hcz31_4⟩ := cs5 BK241; obtain ⟨hfz31_0, hfz31_1, hfz31_2, hfz31_3, hfz31_4⟩ := fs5 BK241) | ((with_reducible refine gate_dst (N := 3) rfl ?_); refine box_event ?hg (N := 3) ?hd (cs := #[.int .i64 a1_0, .int .i64 a1_1, .int .i64 a1_2, .int .i64 a1_3, .string a1_4]) (t := 96) ?hr ?_; (case hd => rfl); (case hg => rfl); (case hr => first | (go_simp; done) | (go_simp; rfl)); intro gb253 hg w32 hbox hb; have BK253 := Aside0.mk (hbox); have GW253 := bs HB hg; have GE253 := bs HB hg; have NB240_253 := bl BK240 hg; have NB253_240 := bg BK240 hg; have NB241_253 := bl BK241 hg; have NB253_241 := bg BK241 hg; have NB242_253 := bl BK242 hg; have NB253_242 := bg BK242 hg; have NB251_253 := bl BK251 hg; have NB253_251 := bg BK251 hg; replace HO250 := Aside0.mk (Kd.R_below (rr HO250) hb); replace BK240 := bq BK240 hb; replace BK241 := bq BK241 hb; replace BK242 := bq BK242 hb; replace BK251 := bq BK251 hb; replace HB := bh HB hb; clear hb hbox hg; have hnb33 := NB253_240.out; have hnc33 := NB240_253.out; have hnb34 := NB253_241.out; have hnc34 := NB241_253.out; have hnb35 := NB253_242.out; have hnc35 := NB242_253.out; have hnb36 := NB253_251.out; have hnc36 := NB251_253.out; obtain ⟨hcz37_0, hcz37_1, hcz37_2, hcz37_3, hcz37_4⟩ := cs5 BK253; obtain ⟨hfz37_0, hfz37_1, hfz37_2, hfz37_3, hfz37_4⟩ := fs5 BK253) | (go_at_call 81; go_in))
      have n0_ := Aside0.mk (Kd.R_drew HO250.out)
      have n1_ := Aside0.mk (blk_drew BK240.out)
      have n2_ := Aside0.mk (blk_drew BK241.out)
      have n3_ := Aside0.mk (blk_drew BK242.out)
      have n4_ := Aside0.mk (blk_drew BK251.out)
      have n5_ := Aside0.mk (blk_drew BK253.out)
      have n6_ := Aside0.mk (below_drew1 HB.out)
      clear HO250 BK240 BK241 BK242 BK251 BK253 HB; have HO250 := n0_; have BK240 := n1_; have BK241 := n2_; have BK242 := n3_; have BK251 := n4_; have BK253 := n5_; have HB := n6_; clear n0_ n1_ n2_ n3_ n4_ n5_ n6_; refine start_ (n := 32) (S := fun w' => w'.cell? ⟨gb253, 0, none⟩ = some (.int .i64 a1_0) ∧ w'.cell? ⟨gb253, 1, none⟩ = some (.int .i64 a1_1) ∧ w'.cell? ⟨gb253, 2, none⟩ = some (.int .i64 a1_2) ∧ w'.cell? ⟨gb253, 3, none⟩ = some (.int .i64 a1_3) ∧ w'.cell? ⟨gb253, 4, none⟩ = some (.string a1_4) ∧ w'.cell? ⟨gb251, 0, none⟩ = some (.int .i64 t244) ∧ w'.cell? ⟨gb251, 1, none⟩ = some (.int .i64 t245) ∧ w'.cell? ⟨gb251, 2, none⟩ = some (.int .i64 t246) ∧ w'.cell? ⟨gb251, 3, none⟩ = some (.int .i64 t247) ∧ w'.cell? ⟨gb251, 4, none⟩ = some (.slice Ao21 t248.length co21)) (ds := []) #[ff,ff,ff,ff,ff,ff,ff,ff,ff,ff,ff,ff,ff,ff,ff,ff,ff,ff,ff,ff,ff,ff,ff,ff,ff,ff,ff,ff,ff,ff,ff,ff] (by kernel_rfl) rfl rfl ⟨bc BK253 0, bc BK253 1, bc BK253 2, bc BK253 3, bc BK253 4, bc BK251 0, bc BK251 1, bc BK251 2, bc BK251 3, bc BK251 4⟩ (fun hHeld => ?_); refine with_tabW impl_WalStep.tab1004 impl_WalStep.bits1004 (fun HT_ HW_ => ?_)
      generalize w32.drew = w38 at HO250 BK240 BK241 BK242 BK251 BK253 HB hHeld ⊢
      refine pu 0 9 (tb 32 1) HT_ ?_
      refine pu 2 11 (tb 32 5) HT_ ?_
      refine pu 3 12 (tb 32 13) HT_ ?_
      refine pu 4 13 (tb 32 29) HT_ ?_
      refine tk 1 10 (tb 32 31) rfl rfl HT_ HW_ hHeld (by rintro w' ⟨s0, s1, s2, s3, s4, s5, s6, s7, s8, s9⟩; go_simp; with_reducible rfl) ?_
      refine tk 5 14 (tb 32 63) rfl rfl HT_ HW_ hHeld (by rintro w' ⟨s0, s1, s2, s3, s4, s5, s6, s7, s8, s9⟩; go_simp; with_reducible rfl) ?_
      refine pu 6 15 (tb 32 127) HT_ ?_
      refine pu 7 16 (tb 32 255) HT_ ?_
      refine pn 8 17 (tb 32 511) HT_ ?_
      refine pn 9 18 (tb 32 1023) HT_ ?_
      refine pn 10 19 (tb 32 2047) HT_ ?_
      refine pn 11 20 (tb 32 4095) HT_ ?_
      refine pn 12 21 (tb 32 8191) HT_ ?_
      refine pn 13 22 (tb 32 16383) HT_ ?_
      refine pn 14 23 (tb 32 32767) HT_ ?_
      refine pn 15 24 (tb 32 65535) HT_ ?_
      refine pn 16 25 (tb 32 131071) HT_ ?_
      refine pn 17 26 (tb 32 262143) HT_ ?_
      refine pn 18 27 (tb 32 524287) HT_ ?_
      refine pn 19 28 (tb 32 1048575) HT_ ?_
      refine pn 20 29 (tb 32 2097151) HT_ ?_
      refine pn 21 30 (tb 32 4194303) HT_ ?_
      refine pn 22 31 (tb 32 8388607) HT_ ?_
      refine pn 23 32 (tb 32 16777215) HT_ ?_
      refine pn 24 33 (tb 32 33554431) HT_ ?_
      refine pn 25 34 (tb 32 67108863) HT_ ?_
      refine pn 26 35 (tb 32 134217727) HT_ ?_
      refine pn 27 36 (tb 32 268435455) HT_ ?_
      refine pn 28 37 (tb 32 536870911) HT_ ?_
      refine pn 29 38 (tb 32 1073741823) HT_ ?_
      refine pn 30 39 (tb 32 2147483647) HT_ ?_
      refine pu 31 40 (tb 32 4294967295) HT_ ?_
      refine done_ (done_of HT_.out (by kernel_rfl)) ?_
      go_wp2
      go_meet
      case rel => exact ⟨_, (!false), (t244), (t245), (t246), (t247), (t248), (.slice Ao21 t248.length co21), (by first | rfl | (simp; done) | (simp [*]; done)), H', ⟨by first | omega | exact Nat.le_refl _⟩, ⟨rr HO250⟩, ⟨bb BK240⟩, ⟨bb BK241⟩, ⟨bb BK242⟩, ⟨bb BK251⟩, ⟨by repeat (first | (with_reducible first | exact HB.out | apply below_alloc | apply pw_below_drewN | apply below_drew1 | refine below_set ?_ GE240.out | refine below_set ?_ GE241.out | refine below_set ?_ GE242.out | refine below_set ?_ GE251.out | refine below_set ?_ GE253.out) | exact HB.out)⟩⟩
     ·rw [if_neg c25] at H
      have c25b0 : decide (a1_1 < t244) = false := decide_eq_false c25
      clear c25
      by_cases c39 : a1_1 = t244
      ·rw [if_pos c39] at H
       have c39b0 : (a1_1 == t244) = true := beq_iff_eq.mpr c39
       have c39b1 : (a1_1 != t244) = false := bne_eq_false_iff_eq.mpr c39
       clear c39
       by_cases c40 : t245 = (-1)
       ·rw [if_pos c40] at H
        have c40b0 : (t245 == (-1)) = true := beq_iff_eq.mpr c40
        have c40b1 : (t245 != (-1)) = false := bne_eq_false_iff_eq.mpr c40
        clear c40; have H' := Aside0.mk H
        clear H; have hnb41 := NB241_240.out; have hnc41 := NB240_241.out; have hnb42 := NB241_242.out; have hnc42 := NB242_241.out; have hnb43 := NB241_251.out; have hnc43 := NB251_241.out; obtain ⟨hcz44_0, hcz44_1, hcz44_2, hcz44_3, hcz44_4⟩ := cs5 BK241; obtain ⟨hfz44_0, hfz44_1, hfz44_2, hfz44_3, hfz44_4⟩ := fs5 BK241
        go_wp2_with (first | ((with_reducible refine gate_callee (f := 146) rfl ?_); refine goesL_ (some 14) rfl rfl Try.func146 (by kernel_rfl) rfl #[.agg #[.int .i64 a1_0, .int .i64 a1_1, .int .i64 a1_2, .int .i64 a1_3, .string a1_4]] rfl (by (try simp only [List.map_toArray, List.map_cons, List.map_nil]); first | done | rfl | (simp only [List.length_drop, List.length_take]; rfl)) ?_; (with_reducible refine (impl_RecOk.calls a1_0 a1_1 a1_2 a1_3 a1_4 true _ A22.out).mono ?_); rintro e w45 ⟨rfl, hb⟩; refine ⟨_, rfl, ?_⟩; have n0_ := Aside0.mk (Kd.R_below (by (with_reducible repeat (first | apply Kd.R_alloc | apply Kd.R_drewN | apply Kd.R_drew)); exact (Kd.R_mono (Kd.R_far (p := ⟨gb251, 4, none⟩) (Kd.R_far (p := ⟨gb251, 3, none⟩) (Kd.R_far (p := ⟨gb251, 2, none⟩) (Kd.R_far (p := ⟨gb251, 1, none⟩) (Kd.R_far (p := ⟨gb251, 0, none⟩) (Kd.R_types HO250.out BK251.out (by decide)) (fun _ hk => hk.2) (.int .i64 t244)) (fun _ hk => hk.2) (.int .i64 t245)) (fun _ hk => hk.2) (.int .i64 t246)) (fun _ hk => hk.2) (.int .i64 t247)) (fun _ hk => hk.2) (.slice Ao21 t248.length co21)) (fun _ h_ => h_.1))) hb); have n1_ := bf BK240 hb; have n2_ := bf BK241 hb; have n3_ := bf BK242 hb; have n4_ := bp #[.int .i64 t244, .int .i64 t245, .int .i64 t246, .int .i64 t247, .slice Ao21 t248.length co21] BK251 hb; replace HB := bh HB hb; clear HO250 BK240 BK241 BK242 BK251; have HO250 := n0_; have BK240 := n1_; have BK241 := n2_; have BK242 := n3_; have BK251 := n4_; clear n0_ n1_ n2_ n3_ n4_; (try clear hb); (try clear hb2); (try clear hk); (try clear hi); obtain ⟨hcz46_0, hcz46_1, hcz46_2, hcz46_3, hcz46_4⟩ := cs5 BK241; obtain ⟨hfz46_0, hfz46_1, hfz46_2, hfz46_3, hfz46_4⟩ := fs5 BK241) | ((with_reducible refine gate_dst (N := 3) rfl ?_); refine box_event ?hg (N := 3) ?hd (cs := #[.int .i64 a1_0, .int .i64 a1_1, .int .i64 a1_2, .int .i64 a1_3, .string a1_4]) (t := 96) ?hr ?_; (case hd => rfl); (case hg => rfl); (case hr => first | (go_simp; done) | (go_simp; rfl)); intro gb253 hg w47 hbox hb; have BK253 := Aside0.mk (hbox); have GW253 := bs HB hg; have GE253 := bs HB hg; have NB240_253 := bl BK240 hg; have NB253_240 := bg BK240 hg; have NB241_253 := bl BK241 hg; have NB253_241 := bg BK241 hg; have NB242_253 := bl BK242 hg; have NB253_242 := bg BK242 hg; have NB251_253 := bl BK251 hg; have NB253_251 := bg BK251 hg; replace HO250 := Aside0.mk (Kd.R_below (rr HO250) hb); replace BK240 := bq BK240 hb; replace BK241 := bq BK241 hb; replace BK242 := bq BK242 hb; replace BK251 := bq BK251 hb; replace HB := bh HB hb; clear hb hbox hg; have hnb48 := NB253_240.out; have hnc48 := NB240_253.out; have hnb49 := NB253_241.out; have hnc49 := NB241_253.out; have hnb50 := NB253_242.out; have hnc50 := NB242_253.out; have hnb51 := NB253_251.out; have hnc51 := NB251_253.out; obtain ⟨hcz52_0, hcz52_1, hcz52_2, hcz52_3, hcz52_4⟩ := cs5 BK253; obtain ⟨hfz52_0, hfz52_1, hfz52_2, hfz52_3, hfz52_4⟩ := fs5 BK253) | (go_at_call 81; go_in))
        have n0_ := Aside0.mk (Kd.R_drew HO250.out)
        have n1_ := Aside0.mk (blk_drew BK240.out)
        have n2_ := Aside0.mk (blk_drew BK241.out)
        have n3_ := Aside0.mk (blk_drew BK242.out)
        have n4_ := Aside0.mk (blk_drew BK251.out)
        have n5_ := Aside0.mk (blk_drew BK253.out)
        have n6_ := Aside0.mk (below_drew1 HB.out)
        clear HO250 BK240 BK241 BK242 BK251 BK253 HB; have HO250 := n0_; have BK240 := n1_; have BK241 := n2_; have BK242 := n3_; have BK251 := n4_; have BK253 := n5_; have HB := n6_; clear n0_ n1_ n2_ n3_ n4_ n5_ n6_; refine start_ (n := 32) (S := fun w' => w'.cell? ⟨gb253, 0, none⟩ = some (.int .i64 a1_0) ∧ w'.cell? ⟨gb253, 1, none⟩ = some (.int .i64 a1_1) ∧ w'.cell? ⟨gb253, 2, none⟩ = some (.int .i64 a1_2) ∧ w'.cell? ⟨gb253, 3, none⟩ = some (.int .i64 a1_3) ∧ w'.cell? ⟨gb253, 4, none⟩ = some (.string a1_4) ∧ w'.cell? ⟨gb251, 0, none⟩ = some (.int .i64 t244) ∧ w'.cell? ⟨gb251, 1, none⟩ = some (.int .i64 t245) ∧ w'.cell? ⟨gb251, 2, none⟩ = some (.int .i64 t246) ∧ w'.cell? ⟨gb251, 3, none⟩ = some (.int .i64 t247) ∧ w'.cell? ⟨gb251, 4, none⟩ = some (.slice Ao21 t248.length co21)) (ds := []) #[ff,ff,ff,ff,ff,ff,ff,ff,ff,ff,ff,ff,ff,ff,ff,ff,ff,ff,ff,ff,ff,ff,ff,ff,ff,ff,ff,ff,ff,ff,ff,ff] (by kernel_rfl) rfl rfl ⟨bc BK253 0, bc BK253 1, bc BK253 2, bc BK253 3, bc BK253 4, bc BK251 0, bc BK251 1, bc BK251 2, bc BK251 3, bc BK251 4⟩ (fun hHeld => ?_); refine with_tabW impl_WalStep.tab1004 impl_WalStep.bits1004 (fun HT_ HW_ => ?_)
        generalize w47.drew = w53 at HO250 BK240 BK241 BK242 BK251 BK253 HB hHeld ⊢
        refine pu 0 9 (tb 32 1) HT_ ?_
        refine pu 2 11 (tb 32 5) HT_ ?_
        refine pu 3 12 (tb 32 13) HT_ ?_
        refine pu 4 13 (tb 32 29) HT_ ?_
        refine tk 1 10 (tb 32 31) rfl rfl HT_ HW_ hHeld (by rintro w' ⟨s0, s1, s2, s3, s4, s5, s6, s7, s8, s9⟩; go_simp; with_reducible rfl) ?_
        refine tk 5 14 (tb 32 63) rfl rfl HT_ HW_ hHeld (by rintro w' ⟨s0, s1, s2, s3, s4, s5, s6, s7, s8, s9⟩; go_simp; with_reducible rfl) ?_
        refine pu 6 15 (tb 32 127) HT_ ?_
        refine pu 7 16 (tb 32 255) HT_ ?_
        refine pu 8 17 (tb 32 511) HT_ ?_
        refine pu 10 19 (tb 32 1535) HT_ ?_
        refine pu 11 20 (tb 32 3583) HT_ ?_
        refine pu 12 21 (tb 32 7679) HT_ ?_
        refine tk 9 18 (tb 32 8191) rfl rfl HT_ HW_ hHeld (by rintro w' ⟨s0, s1, s2, s3, s4, s5, s6, s7, s8, s9⟩; go_simp; with_reducible rfl) ?_
        refine tk 13 22 (tb 32 16383) rfl rfl HT_ HW_ hHeld (by rintro w' ⟨s0, s1, s2, s3, s4, s5, s6, s7, s8, s9⟩; go_simp; with_reducible rfl) ?_
        refine pu 14 23 (tb 32 32767) HT_ ?_
        refine pu 15 24 (tb 32 65535) HT_ ?_
        refine pu 16 25 (tb 32 131071) HT_ ?_
        refine pu 17 26 (tb 32 262143) HT_ ?_
        refine pu 18 27 (tb 32 524287) HT_ ?_
        refine tk 19 28 (tb 32 1048575) rfl rfl HT_ HW_ hHeld (by rintro w' ⟨s0, s1, s2, s3, s4, s5, s6, s7, s8, s9⟩; go_simp; with_reducible rfl) ?_
        refine pu 20 29 (tb 32 2097151) HT_ ?_
        refine pu 21 30 (tb 32 4194303) HT_ ?_
        refine pu 22 31 (tb 32 8388607) HT_ ?_
        refine pn 23 32 (tb 32 16777215) HT_ ?_
        refine pn 24 33 (tb 32 33554431) HT_ ?_
        refine pn 25 34 (tb 32 67108863) HT_ ?_
        refine pn 26 35 (tb 32 134217727) HT_ ?_
        refine pn 27 36 (tb 32 268435455) HT_ ?_
        refine pn 28 37 (tb 32 536870911) HT_ ?_
        refine pn 29 38 (tb 32 1073741823) HT_ ?_
        refine pu 30 39 (tb 32 2147483647) HT_ ?_
        refine pu 31 40 (tb 32 4294967295) HT_ ?_
        refine done_ (done_of HT_.out (by kernel_rfl)) ?_
        obtain ⟨hcz54_0, hcz54_1, hcz54_2, hcz54_3, hcz54_4⟩ := cs5 BK253; obtain ⟨hfz54_0, hfz54_1, hfz54_2, hfz54_3, hfz54_4⟩ := fs5 BK253; have hnb55 := NB251_240.out; have hnc55 := NB240_251.out; have hnb56 := NB251_242.out; have hnc56 := NB242_251.out; obtain ⟨hcz57_0, hcz57_1, hcz57_2, hcz57_3, hcz57_4⟩ := cs5 BK251; obtain ⟨hfz57_0, hfz57_1, hfz57_2, hfz57_3, hfz57_4⟩ := fs5 BK251
        go_wp2
        go_meet
        case rel => exact ⟨_, (!true), (a1_1), (a1_3), (t246), (t247), (t248), (.slice Ao21 t248.length co21), (by first | rfl | (simp; done) | (simp [*]; done)), H', ⟨by first | omega | exact Nat.le_refl _⟩, ⟨by (with_reducible repeat (first | apply Kd.R_alloc | apply Kd.R_drewN | apply Kd.R_drew)); exact Kd.R_mono (Kd.R_far (p := ⟨gb251, 1, none⟩) (Kd.R_far (p := ⟨gb251, 0, none⟩) (Kd.R_types HO250.out BK251.out (by decide)) (fun _ hk => hk.2) (.int .i64 a1_1)) (fun _ hk => hk.2) (.int .i64 a1_3)) (fun _ hk => trivial)⟩, ⟨by (with_reducible repeat first | refine bkN ?_ _ | refine bkD ?_ | refine bkA ?_ _ | refine blk_far ?_ NB240_251.out _); exact BK240.out⟩, ⟨by (with_reducible repeat first | refine bkN ?_ _ | refine bkD ?_ | refine bkA ?_ _ | refine blk_far ?_ NB241_251.out _); exact BK241.out⟩, ⟨by (with_reducible repeat first | refine bkN ?_ _ | refine bkD ?_ | refine bkA ?_ _ | refine blk_far ?_ NB242_251.out _); exact BK242.out⟩, ⟨by (with_reducible repeat first | refine bkN ?_ _ | refine bkD ?_ | refine bkA ?_ _); refine blk_put (cs := #[.int .i64 a1_1, .int .i64 t245, .int .i64 t246, .int .i64 t247, .slice Ao21 t248.length co21]) ?_ 1 _ rfl; (with_reducible repeat first | refine bkN ?_ _ | refine bkD ?_ | refine bkA ?_ _); refine blk_put (cs := #[.int .i64 t244, .int .i64 t245, .int .i64 t246, .int .i64 t247, .slice Ao21 t248.length co21]) ?_ 0 _ rfl; (with_reducible repeat first | refine bkN ?_ _ | refine bkD ?_ | refine bkA ?_ _); exact BK251.out⟩, ⟨by repeat (first | (with_reducible first | exact HB.out | apply below_alloc | apply pw_below_drewN | apply below_drew1 | refine below_set ?_ GE240.out | refine below_set ?_ GE241.out | refine below_set ?_ GE242.out | refine below_set ?_ GE251.out | refine below_set ?_ GE253.out) | exact HB.out)⟩⟩
       ·rw [if_neg c40] at H
        have c40b0 : (t245 == (-1)) = false := beq_eq_false_iff_ne.mpr c40
        have c40b1 : (t245 != (-1)) = true := bne_iff_ne.mpr c40
        by_cases c58 : t245 = a1_3
        ·rw [if_pos c58] at H
         have c58b0 : (t245 == a1_3) = true := beq_iff_eq.mpr c58
         have c58b1 : (t245 != a1_3) = false := bne_eq_false_iff_eq.mpr c58
         clear c58; have H' := Aside0.mk H
         clear H; have hnb59 := NB241_240.out; have hnc59 := NB240_241.out; have hnb60 := NB241_242.out; have hnc60 := NB242_241.out; have hnb61 := NB241_251.out; have hnc61 := NB251_241.out; obtain ⟨hcz62_0, hcz62_1, hcz62_2, hcz62_3, hcz62_4⟩ := cs5 BK241; obtain ⟨hfz62_0, hfz62_1, hfz62_2, hfz62_3, hfz62_4⟩ := fs5 BK241
         go_wp2_with (first | ((with_reducible refine gate_callee (f := 146) rfl ?_); refine goesL_ (some 14) rfl rfl Try.func146 (by kernel_rfl) rfl #[.agg #[.int .i64 a1_0, .int .i64 a1_1, .int .i64 a1_2, .int .i64 a1_3, .string a1_4]] rfl (by (try simp only [List.map_toArray, List.map_cons, List.map_nil]); first | done | rfl | (simp only [List.length_drop, List.length_take]; rfl)) ?_; (with_reducible refine (impl_RecOk.calls a1_0 a1_1 a1_2 a1_3 a1_4 true _ A22.out).mono ?_); rintro e w63 ⟨rfl, hb⟩; refine ⟨_, rfl, ?_⟩; have n0_ := Aside0.mk (Kd.R_below (by (with_reducible repeat (first | apply Kd.R_alloc | apply Kd.R_drewN | apply Kd.R_drew)); exact (Kd.R_mono (Kd.R_far (p := ⟨gb251, 4, none⟩) (Kd.R_far (p := ⟨gb251, 3, none⟩) (Kd.R_far (p := ⟨gb251, 2, none⟩) (Kd.R_far (p := ⟨gb251, 1, none⟩) (Kd.R_far (p := ⟨gb251, 0, none⟩) (Kd.R_types HO250.out BK251.out (by decide)) (fun _ hk => hk.2) (.int .i64 t244)) (fun _ hk => hk.2) (.int .i64 t245)) (fun _ hk => hk.2) (.int .i64 t246)) (fun _ hk => hk.2) (.int .i64 t247)) (fun _ hk => hk.2) (.slice Ao21 t248.length co21)) (fun _ h_ => h_.1))) hb); have n1_ := bf BK240 hb; have n2_ := bf BK241 hb; have n3_ := bf BK242 hb; have n4_ := bp #[.int .i64 t244, .int .i64 t245, .int .i64 t246, .int .i64 t247, .slice Ao21 t248.length co21] BK251 hb; replace HB := bh HB hb; clear HO250 BK240 BK241 BK242 BK251; have HO250 := n0_; have BK240 := n1_; have BK241 := n2_; have BK242 := n3_; have BK251 := n4_; clear n0_ n1_ n2_ n3_ n4_; (try clear hb); (try clear hb2); (try clear hk); (try clear hi); obtain ⟨hcz64_0, hcz64_1, hcz64_2, hcz64_3, hcz64_4⟩ := cs5 BK241; obtain ⟨hfz64_0, hfz64_1, hfz64_2, hfz64_3, hfz64_4⟩ := fs5 BK241) | ((with_reducible refine gate_dst (N := 3) rfl ?_); refine box_event ?hg (N := 3) ?hd (cs := #[.int .i64 a1_0, .int .i64 a1_1, .int .i64 a1_2, .int .i64 a1_3, .string a1_4]) (t := 96) ?hr ?_; (case hd => rfl); (case hg => rfl); (case hr => first | (go_simp; done) | (go_simp; rfl)); intro gb253 hg w65 hbox hb; have BK253 := Aside0.mk (hbox); have GW253 := bs HB hg; have GE253 := bs HB hg; have NB240_253 := bl BK240 hg; have NB253_240 := bg BK240 hg; have NB241_253 := bl BK241 hg; have NB253_241 := bg BK241 hg; have NB242_253 := bl BK242 hg; have NB253_242 := bg BK242 hg; have NB251_253 := bl BK251 hg; have NB253_251 := bg BK251 hg; replace HO250 := Aside0.mk (Kd.R_below (rr HO250) hb); replace BK240 := bq BK240 hb; replace BK241 := bq BK241 hb; replace BK242 := bq BK242 hb; replace BK251 := bq BK251 hb; replace HB := bh HB hb; clear hb hbox hg; have hnb66 := NB253_240.out; have hnc66 := NB240_253.out; have hnb67 := NB253_241.out; have hnc67 := NB241_253.out; have hnb68 := NB253_242.out; have hnc68 := NB242_253.out; have hnb69 := NB253_251.out; have hnc69 := NB251_253.out; obtain ⟨hcz70_0, hcz70_1, hcz70_2, hcz70_3, hcz70_4⟩ := cs5 BK253; obtain ⟨hfz70_0, hfz70_1, hfz70_2, hfz70_3, hfz70_4⟩ := fs5 BK253) | (go_at_call 81; go_in))
         have n0_ := Aside0.mk (Kd.R_drew HO250.out)
         have n1_ := Aside0.mk (blk_drew BK240.out)
         have n2_ := Aside0.mk (blk_drew BK241.out)
         have n3_ := Aside0.mk (blk_drew BK242.out)
         have n4_ := Aside0.mk (blk_drew BK251.out)
         have n5_ := Aside0.mk (blk_drew BK253.out)
         have n6_ := Aside0.mk (below_drew1 HB.out)
         clear HO250 BK240 BK241 BK242 BK251 BK253 HB; have HO250 := n0_; have BK240 := n1_; have BK241 := n2_; have BK242 := n3_; have BK251 := n4_; have BK253 := n5_; have HB := n6_; clear n0_ n1_ n2_ n3_ n4_ n5_ n6_; refine start_ (n := 32) (S := fun w' => w'.cell? ⟨gb253, 0, none⟩ = some (.int .i64 a1_0) ∧ w'.cell? ⟨gb253, 1, none⟩ = some (.int .i64 a1_1) ∧ w'.cell? ⟨gb253, 2, none⟩ = some (.int .i64 a1_2) ∧ w'.cell? ⟨gb253, 3, none⟩ = some (.int .i64 a1_3) ∧ w'.cell? ⟨gb253, 4, none⟩ = some (.string a1_4) ∧ w'.cell? ⟨gb251, 0, none⟩ = some (.int .i64 t244) ∧ w'.cell? ⟨gb251, 1, none⟩ = some (.int .i64 t245) ∧ w'.cell? ⟨gb251, 2, none⟩ = some (.int .i64 t246) ∧ w'.cell? ⟨gb251, 3, none⟩ = some (.int .i64 t247) ∧ w'.cell? ⟨gb251, 4, none⟩ = some (.slice Ao21 t248.length co21)) (ds := []) #[ff,ff,ff,ff,ff,ff,ff,ff,ff,ff,ff,ff,ff,ff,ff,ff,ff,ff,ff,ff,ff,ff,ff,ff,ff,ff,ff,ff,ff,ff,ff,ff] (by kernel_rfl) rfl rfl ⟨bc BK253 0, bc BK253 1, bc BK253 2, bc BK253 3, bc BK253 4, bc BK251 0, bc BK251 1, bc BK251 2, bc BK251 3, bc BK251 4⟩ (fun hHeld => ?_); refine with_tabW impl_WalStep.tab1004 impl_WalStep.bits1004 (fun HT_ HW_ => ?_)
         generalize w65.drew = w71 at HO250 BK240 BK241 BK242 BK251 BK253 HB hHeld ⊢
         refine pu 0 9 (tb 32 1) HT_ ?_
         refine pu 2 11 (tb 32 5) HT_ ?_
         refine pu 3 12 (tb 32 13) HT_ ?_
         refine pu 4 13 (tb 32 29) HT_ ?_
         refine tk 1 10 (tb 32 31) rfl rfl HT_ HW_ hHeld (by rintro w' ⟨s0, s1, s2, s3, s4, s5, s6, s7, s8, s9⟩; go_simp; with_reducible rfl) ?_
         refine tk 5 14 (tb 32 63) rfl rfl HT_ HW_ hHeld (by rintro w' ⟨s0, s1, s2, s3, s4, s5, s6, s7, s8, s9⟩; go_simp; with_reducible rfl) ?_
         refine pu 6 15 (tb 32 127) HT_ ?_
         refine pu 7 16 (tb 32 255) HT_ ?_
         refine pu 8 17 (tb 32 511) HT_ ?_
         refine pu 10 19 (tb 32 1535) HT_ ?_
         refine pu 11 20 (tb 32 3583) HT_ ?_
         refine pu 12 21 (tb 32 7679) HT_ ?_
         refine tk 9 18 (tb 32 8191) rfl rfl HT_ HW_ hHeld (by rintro w' ⟨s0, s1, s2, s3, s4, s5, s6, s7, s8, s9⟩; go_simp; with_reducible rfl) ?_
         refine tk 13 22 (tb 32 16383) rfl rfl HT_ HW_ hHeld (by rintro w' ⟨s0, s1, s2, s3, s4, s5, s6, s7, s8, s9⟩; go_simp; with_reducible rfl) ?_
         refine pu 14 23 (tb 32 32767) HT_ ?_
         refine pu 15 24 (tb 32 65535) HT_ ?_
         refine pu 16 25 (tb 32 131071) HT_ ?_
         refine pu 17 26 (tb 32 262143) HT_ ?_
         refine pu 18 27 (tb 32 524287) HT_ ?_
         refine tk 19 28 (tb 32 1048575) rfl rfl HT_ HW_ hHeld (by rintro w' ⟨s0, s1, s2, s3, s4, s5, s6, s7, s8, s9⟩; go_simp; with_reducible rfl) ?_
         refine pu 20 29 (tb 32 2097151) HT_ ?_
         refine pu 21 30 (tb 32 4194303) HT_ ?_
         refine pu 22 31 (tb 32 8388607) HT_ ?_
         refine pu 23 32 (tb 32 16777215) HT_ ?_
         refine pu 24 33 (tb 32 33554431) HT_ ?_
         refine pu 25 34 (tb 32 67108863) HT_ ?_
         refine pu 27 36 (tb 32 201326591) HT_ ?_
         refine tk 26 35 (tb 32 268435455) rfl rfl HT_ HW_ hHeld (by rintro w' ⟨s0, s1, s2, s3, s4, s5, s6, s7, s8, s9⟩; go_simp; with_reducible rfl) ?_
         refine tk 28 37 (tb 32 536870911) rfl rfl HT_ HW_ hHeld (by rintro w' ⟨s0, s1, s2, s3, s4, s5, s6, s7, s8, s9⟩; go_simp; with_reducible rfl) ?_
         refine pu 29 38 (tb 32 1073741823) HT_ ?_
         refine pu 30 39 (tb 32 2147483647) HT_ ?_
         refine pu 31 40 (tb 32 4294967295) HT_ ?_
         refine done_ (done_of HT_.out (by kernel_rfl)) ?_
         obtain ⟨hcz72_0, hcz72_1, hcz72_2, hcz72_3, hcz72_4⟩ := cs5 BK253; obtain ⟨hfz72_0, hfz72_1, hfz72_2, hfz72_3, hfz72_4⟩ := fs5 BK253; have hnb73 := NB251_240.out; have hnc73 := NB240_251.out; have hnb74 := NB251_242.out; have hnc74 := NB242_251.out; obtain ⟨hcz75_0, hcz75_1, hcz75_2, hcz75_3, hcz75_4⟩ := cs5 BK251; obtain ⟨hfz75_0, hfz75_1, hfz75_2, hfz75_3, hfz75_4⟩ := fs5 BK251
         go_wp2
         go_meet
         case rel => exact ⟨_, (!true), (a1_1), (a1_3), (t246), (t247), (t248), (.slice Ao21 t248.length co21), (by first | rfl | (simp; done) | (simp [*]; done)), H', ⟨by first | omega | exact Nat.le_refl _⟩, ⟨by (with_reducible repeat (first | apply Kd.R_alloc | apply Kd.R_drewN | apply Kd.R_drew)); exact Kd.R_mono (Kd.R_far (p := ⟨gb251, 1, none⟩) (Kd.R_far (p := ⟨gb251, 0, none⟩) (Kd.R_types HO250.out BK251.out (by decide)) (fun _ hk => hk.2) (.int .i64 a1_1)) (fun _ hk => hk.2) (.int .i64 a1_3)) (fun _ hk => trivial)⟩, ⟨by (with_reducible repeat first | refine bkN ?_ _ | refine bkD ?_ | refine bkA ?_ _ | refine blk_far ?_ NB240_251.out _); exact BK240.out⟩, ⟨by (with_reducible repeat first | refine bkN ?_ _ | refine bkD ?_ | refine bkA ?_ _ | refine blk_far ?_ NB241_251.out _); exact BK241.out⟩, ⟨by (with_reducible repeat first | refine bkN ?_ _ | refine bkD ?_ | refine bkA ?_ _ | refine blk_far ?_ NB242_251.out _); exact BK242.out⟩, ⟨by (with_reducible repeat first | refine bkN ?_ _ | refine bkD ?_ | refine bkA ?_ _); refine blk_put (cs := #[.int .i64 a1_1, .int .i64 t245, .int .i64 t246, .int .i64 t247, .slice Ao21 t248.length co21]) ?_ 1 _ rfl; (with_reducible repeat first | refine bkN ?_ _ | refine bkD ?_ | refine bkA ?_ _); refine blk_put (cs := #[.int .i64 t244, .int .i64 t245, .int .i64 t246, .int .i64 t247, .slice Ao21 t248.length co21]) ?_ 0 _ rfl; (with_reducible repeat first | refine bkN ?_ _ | refine bkD ?_ | refine bkA ?_ _); exact BK251.out⟩, ⟨by repeat (first | (with_reducible first | exact HB.out | apply below_alloc | apply pw_below_drewN | apply below_drew1 | refine below_set ?_ GE240.out | refine below_set ?_ GE241.out | refine below_set ?_ GE242.out | refine below_set ?_ GE251.out | refine below_set ?_ GE253.out) | exact HB.out)⟩⟩
        ·rw [if_neg c58] at H
         have c58b0 : (t245 == a1_3) = false := beq_eq_false_iff_ne.mpr c58
         have c58b1 : (t245 != a1_3) = true := bne_iff_ne.mpr c58
         have H' := Aside0.mk H
         clear H; have hnb76 := NB241_240.out; have hnc76 := NB240_241.out; have hnb77 := NB241_242.out; have hnc77 := NB242_241.out; have hnb78 := NB241_251.out; have hnc78 := NB251_241.out; obtain ⟨hcz79_0, hcz79_1, hcz79_2, hcz79_3, hcz79_4⟩ := cs5 BK241; obtain ⟨hfz79_0, hfz79_1, hfz79_2, hfz79_3, hfz79_4⟩ := fs5 BK241
         go_wp2_with (first | ((with_reducible refine gate_callee (f := 146) rfl ?_); refine goesL_ (some 14) rfl rfl Try.func146 (by kernel_rfl) rfl #[.agg #[.int .i64 a1_0, .int .i64 a1_1, .int .i64 a1_2, .int .i64 a1_3, .string a1_4]] rfl (by (try simp only [List.map_toArray, List.map_cons, List.map_nil]); first | done | rfl | (simp only [List.length_drop, List.length_take]; rfl)) ?_; (with_reducible refine (impl_RecOk.calls a1_0 a1_1 a1_2 a1_3 a1_4 true _ A22.out).mono ?_); rintro e w80 ⟨rfl, hb⟩; refine ⟨_, rfl, ?_⟩; have n0_ := Aside0.mk (Kd.R_below (by (with_reducible repeat (first | apply Kd.R_alloc | apply Kd.R_drewN | apply Kd.R_drew)); exact (Kd.R_mono (Kd.R_far (p := ⟨gb251, 4, none⟩) (Kd.R_far (p := ⟨gb251, 3, none⟩) (Kd.R_far (p := ⟨gb251, 2, none⟩) (Kd.R_far (p := ⟨gb251, 1, none⟩) (Kd.R_far (p := ⟨gb251, 0, none⟩) (Kd.R_types HO250.out BK251.out (by decide)) (fun _ hk => hk.2) (.int .i64 t244)) (fun _ hk => hk.2) (.int .i64 t245)) (fun _ hk => hk.2) (.int .i64 t246)) (fun _ hk => hk.2) (.int .i64 t247)) (fun _ hk => hk.2) (.slice Ao21 t248.length co21)) (fun _ h_ => h_.1))) hb); have n1_ := bf BK240 hb; have n2_ := bf BK241 hb; have n3_ := bf BK242 hb; have n4_ := bp #[.int .i64 t244, .int .i64 t245, .int .i64 t246, .int .i64 t247, .slice Ao21 t248.length co21] BK251 hb; replace HB := bh HB hb; clear HO250 BK240 BK241 BK242 BK251; have HO250 := n0_; have BK240 := n1_; have BK241 := n2_; have BK242 := n3_; have BK251 := n4_; clear n0_ n1_ n2_ n3_ n4_; (try clear hb); (try clear hb2); (try clear hk); (try clear hi); obtain ⟨hcz81_0, hcz81_1, hcz81_2, hcz81_3, hcz81_4⟩ := cs5 BK241; obtain ⟨hfz81_0, hfz81_1, hfz81_2, hfz81_3, hfz81_4⟩ := fs5 BK241) | ((with_reducible refine gate_dst (N := 3) rfl ?_); refine box_event ?hg (N := 3) ?hd (cs := #[.int .i64 a1_0, .int .i64 a1_1, .int .i64 a1_2, .int .i64 a1_3, .string a1_4]) (t := 96) ?hr ?_; (case hd => rfl); (case hg => rfl); (case hr => first | (go_simp; done) | (go_simp; rfl)); intro gb253 hg w82 hbox hb; have BK253 := Aside0.mk (hbox); have GW253 := bs HB hg; have GE253 := bs HB hg; have NB240_253 := bl BK240 hg; have NB253_240 := bg BK240 hg; have NB241_253 := bl BK241 hg; have NB253_241 := bg BK241 hg; have NB242_253 := bl BK242 hg; have NB253_242 := bg BK242 hg; have NB251_253 := bl BK251 hg; have NB253_251 := bg BK251 hg; replace HO250 := Aside0.mk (Kd.R_below (rr HO250) hb); replace BK240 := bq BK240 hb; replace BK241 := bq BK241 hb; replace BK242 := bq BK242 hb; replace BK251 := bq BK251 hb; replace HB := bh HB hb; clear hb hbox hg; have hnb83 := NB253_240.out; have hnc83 := NB240_253.out; have hnb84 := NB253_241.out; have hnc84 := NB241_253.out; have hnb85 := NB253_242.out; have hnc85 := NB242_253.out; have hnb86 := NB253_251.out; have hnc86 := NB251_253.out; obtain ⟨hcz87_0, hcz87_1, hcz87_2, hcz87_3, hcz87_4⟩ := cs5 BK253; obtain ⟨hfz87_0, hfz87_1, hfz87_2, hfz87_3, hfz87_4⟩ := fs5 BK253) | (go_at_call 81; go_in))
         have n0_ := Aside0.mk (Kd.R_drew HO250.out)
         have n1_ := Aside0.mk (blk_drew BK240.out)
         have n2_ := Aside0.mk (blk_drew BK241.out)
         have n3_ := Aside0.mk (blk_drew BK242.out)
         have n4_ := Aside0.mk (blk_drew BK251.out)
         have n5_ := Aside0.mk (blk_drew BK253.out)
         have n6_ := Aside0.mk (below_drew1 HB.out)
         clear HO250 BK240 BK241 BK242 BK251 BK253 HB; have HO250 := n0_; have BK240 := n1_; have BK241 := n2_; have BK242 := n3_; have BK251 := n4_; have BK253 := n5_; have HB := n6_; clear n0_ n1_ n2_ n3_ n4_ n5_ n6_; refine start_ (n := 32) (S := fun w' => w'.cell? ⟨gb253, 0, none⟩ = some (.int .i64 a1_0) ∧ w'.cell? ⟨gb253, 1, none⟩ = some (.int .i64 a1_1) ∧ w'.cell? ⟨gb253, 2, none⟩ = some (.int .i64 a1_2) ∧ w'.cell? ⟨gb253, 3, none⟩ = some (.int .i64 a1_3) ∧ w'.cell? ⟨gb253, 4, none⟩ = some (.string a1_4) ∧ w'.cell? ⟨gb251, 0, none⟩ = some (.int .i64 t244) ∧ w'.cell? ⟨gb251, 1, none⟩ = some (.int .i64 t245) ∧ w'.cell? ⟨gb251, 2, none⟩ = some (.int .i64 t246) ∧ w'.cell? ⟨gb251, 3, none⟩ = some (.int .i64 t247) ∧ w'.cell? ⟨gb251, 4, none⟩ = some (.slice Ao21 t248.length co21)) (ds := []) #[ff,ff,ff,ff,ff,ff,ff,ff,ff,ff,ff,ff,ff,ff,ff,ff,ff,ff,ff,ff,ff,ff,ff,ff,ff,ff,ff,ff,ff,ff,ff,ff] (by kernel_rfl) rfl rfl ⟨bc BK253 0, bc BK253 1, bc BK253 2, bc BK253 3, bc BK253 4, bc BK251 0, bc BK251 1, bc BK251 2, bc BK251 3, bc BK251 4⟩ (fun hHeld => ?_); refine with_tabW impl_WalStep.tab1004 impl_WalStep.bits1004 (fun HT_ HW_ => ?_)
         generalize w82.drew = w88 at HO250 BK240 BK241 BK242 BK251 BK253 HB hHeld ⊢
         refine pu 0 9 (tb 32 1) HT_ ?_
         refine pu 2 11 (tb 32 5) HT_ ?_
         refine pu 3 12 (tb 32 13) HT_ ?_
         refine pu 4 13 (tb 32 29) HT_ ?_
         refine tk 1 10 (tb 32 31) rfl rfl HT_ HW_ hHeld (by rintro w' ⟨s0, s1, s2, s3, s4, s5, s6, s7, s8, s9⟩; go_simp; with_reducible rfl) ?_
         refine tk 5 14 (tb 32 63) rfl rfl HT_ HW_ hHeld (by rintro w' ⟨s0, s1, s2, s3, s4, s5, s6, s7, s8, s9⟩; go_simp; with_reducible rfl) ?_
         refine pu 6 15 (tb 32 127) HT_ ?_
         refine pu 7 16 (tb 32 255) HT_ ?_
         refine pu 8 17 (tb 32 511) HT_ ?_
         refine pu 10 19 (tb 32 1535) HT_ ?_
         refine pu 11 20 (tb 32 3583) HT_ ?_
         refine pu 12 21 (tb 32 7679) HT_ ?_
         refine tk 9 18 (tb 32 8191) rfl rfl HT_ HW_ hHeld (by rintro w' ⟨s0, s1, s2, s3, s4, s5, s6, s7, s8, s9⟩; go_simp; with_reducible rfl) ?_
         refine tk 13 22 (tb 32 16383) rfl rfl HT_ HW_ hHeld (by rintro w' ⟨s0, s1, s2, s3, s4, s5, s6, s7, s8, s9⟩; go_simp; with_reducible rfl) ?_
         refine pu 14 23 (tb 32 32767) HT_ ?_
         refine pu 15 24 (tb 32 65535) HT_ ?_
         refine pu 16 25 (tb 32 131071) HT_ ?_
         refine pu 17 26 (tb 32 262143) HT_ ?_
         refine pu 18 27 (tb 32 524287) HT_ ?_
         refine tk 19 28 (tb 32 1048575) rfl rfl HT_ HW_ hHeld (by rintro w' ⟨s0, s1, s2, s3, s4, s5, s6, s7, s8, s9⟩; go_simp; with_reducible rfl) ?_
         refine pu 20 29 (tb 32 2097151) HT_ ?_
         refine pu 21 30 (tb 32 4194303) HT_ ?_
         refine pu 22 31 (tb 32 8388607) HT_ ?_
         refine pu 23 32 (tb 32 16777215) HT_ ?_
         refine pu 24 33 (tb 32 33554431) HT_ ?_
         refine pu 25 34 (tb 32 67108863) HT_ ?_
         refine pu 27 36 (tb 32 201326591) HT_ ?_
         refine tk 26 35 (tb 32 268435455) rfl rfl HT_ HW_ hHeld (by rintro w' ⟨s0, s1, s2, s3, s4, s5, s6, s7, s8, s9⟩; go_simp; with_reducible rfl) ?_
         refine tk 28 37 (tb 32 536870911) rfl rfl HT_ HW_ hHeld (by rintro w' ⟨s0, s1, s2, s3, s4, s5, s6, s7, s8, s9⟩; go_simp; with_reducible rfl) ?_
         refine pu 29 38 (tb 32 1073741823) HT_ ?_
         refine pu 30 39 (tb 32 2147483647) HT_ ?_
         refine pu 31 40 (tb 32 4294967295) HT_ ?_
         refine done_ (done_of HT_.out (by kernel_rfl)) ?_
         go_wp2
         go_meet
         case rel => exact ⟨_, (!false), (t244), (t245), (t246), (t247), (t248), (.slice Ao21 t248.length co21), (by first | rfl | (simp; done) | (simp [*]; done)), H', ⟨by first | omega | exact Nat.le_refl _⟩, ⟨rr HO250⟩, ⟨bb BK240⟩, ⟨bb BK241⟩, ⟨bb BK242⟩, ⟨bb BK251⟩, ⟨by repeat (first | (with_reducible first | exact HB.out | apply below_alloc | apply pw_below_drewN | apply below_drew1 | refine below_set ?_ GE240.out | refine below_set ?_ GE241.out | refine below_set ?_ GE242.out | refine below_set ?_ GE251.out | refine below_set ?_ GE253.out) | exact HB.out)⟩⟩
      ·rw [if_neg c39] at H
       have c39b0 : (a1_1 == t244) = false := beq_eq_false_iff_ne.mpr c39
       have c39b1 : (a1_1 != t244) = true := bne_iff_ne.mpr c39
       have H' := Aside0.mk H
       clear H; have hnb89 := NB241_240.out; have hnc89 := NB240_241.out; have hnb90 := NB241_242.out; have hnc90 := NB242_241.out; have hnb91 := NB241_251.out; have hnc91 := NB251_241.out; obtain ⟨hcz92_0, hcz92_1, hcz92_2, hcz92_3, hcz92_4⟩ := cs5 BK241; obtain ⟨hfz92_0, hfz92_1, hfz92_2, hfz92_3, hfz92_4⟩ := fs5 BK241
       go_wp2_with (first | ((with_reducible refine gate_callee (f := 146) rfl ?_); refine goesL_ (some 14) rfl rfl Try.func146 (by kernel_rfl) rfl #[.agg #[.int .i64 a1_0, .int .i64 a1_1, .int .i64 a1_2, .int .i64 a1_3, .string a1_4]] rfl (by (try simp only [List.map_toArray, List.map_cons, List.map_nil]); first | done | rfl | (simp only [List.length_drop, List.length_take]; rfl)) ?_; (with_reducible refine (impl_RecOk.calls a1_0 a1_1 a1_2 a1_3 a1_4 true _ A22.out).mono ?_); rintro e w93 ⟨rfl, hb⟩; refine ⟨_, rfl, ?_⟩; have n0_ := Aside0.mk (Kd.R_below (by (with_reducible repeat (first | apply Kd.R_alloc | apply Kd.R_drewN | apply Kd.R_drew)); exact (Kd.R_mono (Kd.R_far (p := ⟨gb251, 4, none⟩) (Kd.R_far (p := ⟨gb251, 3, none⟩) (Kd.R_far (p := ⟨gb251, 2, none⟩) (Kd.R_far (p := ⟨gb251, 1, none⟩) (Kd.R_far (p := ⟨gb251, 0, none⟩) (Kd.R_types HO250.out BK251.out (by decide)) (fun _ hk => hk.2) (.int .i64 t244)) (fun _ hk => hk.2) (.int .i64 t245)) (fun _ hk => hk.2) (.int .i64 t246)) (fun _ hk => hk.2) (.int .i64 t247)) (fun _ hk => hk.2) (.slice Ao21 t248.length co21)) (fun _ h_ => h_.1))) hb); have n1_ := bf BK240 hb; have n2_ := bf BK241 hb; have n3_ := bf BK242 hb; have n4_ := bp #[.int .i64 t244, .int .i64 t245, .int .i64 t246, .int .i64 t247, .slice Ao21 t248.length co21] BK251 hb; replace HB := bh HB hb; clear HO250 BK240 BK241 BK242 BK251; have HO250 := n0_; have BK240 := n1_; have BK241 := n2_; have BK242 := n3_; have BK251 := n4_; clear n0_ n1_ n2_ n3_ n4_; (try clear hb); (try clear hb2); (try clear hk); (try clear hi); obtain ⟨hcz94_0, hcz94_1, hcz94_2, hcz94_3, hcz94_4⟩ := cs5 BK241; obtain ⟨hfz94_0, hfz94_1, hfz94_2, hfz94_3, hfz94_4⟩ := fs5 BK241) | ((with_reducible refine gate_dst (N := 3) rfl ?_); refine box_event ?hg (N := 3) ?hd (cs := #[.int .i64 a1_0, .int .i64 a1_1, .int .i64 a1_2, .int .i64 a1_3, .string a1_4]) (t := 96) ?hr ?_; (case hd => rfl); (case hg => rfl); (case hr => first | (go_simp; done) | (go_simp; rfl)); intro gb253 hg w95 hbox hb; have BK253 := Aside0.mk (hbox); have GW253 := bs HB hg; have GE253 := bs HB hg; have NB240_253 := bl BK240 hg; have NB253_240 := bg BK240 hg; have NB241_253 := bl BK241 hg; have NB253_241 := bg BK241 hg; have NB242_253 := bl BK242 hg; have NB253_242 := bg BK242 hg; have NB251_253 := bl BK251 hg; have NB253_251 := bg BK251 hg; replace HO250 := Aside0.mk (Kd.R_below (rr HO250) hb); replace BK240 := bq BK240 hb; replace BK241 := bq BK241 hb; replace BK242 := bq BK242 hb; replace BK251 := bq BK251 hb; replace HB := bh HB hb; clear hb hbox hg; have hnb96 := NB253_240.out; have hnc96 := NB240_253.out; have hnb97 := NB253_241.out; have hnc97 := NB241_253.out; have hnb98 := NB253_242.out; have hnc98 := NB242_253.out; have hnb99 := NB253_251.out; have hnc99 := NB251_253.out; obtain ⟨hcz100_0, hcz100_1, hcz100_2, hcz100_3, hcz100_4⟩ := cs5 BK253; obtain ⟨hfz100_0, hfz100_1, hfz100_2, hfz100_3, hfz100_4⟩ := fs5 BK253) | (go_at_call 81; go_in))
       have n0_ := Aside0.mk (Kd.R_drew HO250.out)
       have n1_ := Aside0.mk (blk_drew BK240.out)
       have n2_ := Aside0.mk (blk_drew BK241.out)
       have n3_ := Aside0.mk (blk_drew BK242.out)
       have n4_ := Aside0.mk (blk_drew BK251.out)
       have n5_ := Aside0.mk (blk_drew BK253.out)
       have n6_ := Aside0.mk (below_drew1 HB.out)
       clear HO250 BK240 BK241 BK242 BK251 BK253 HB; have HO250 := n0_; have BK240 := n1_; have BK241 := n2_; have BK242 := n3_; have BK251 := n4_; have BK253 := n5_; have HB := n6_; clear n0_ n1_ n2_ n3_ n4_ n5_ n6_; refine start_ (n := 32) (S := fun w' => w'.cell? ⟨gb253, 0, none⟩ = some (.int .i64 a1_0) ∧ w'.cell? ⟨gb253, 1, none⟩ = some (.int .i64 a1_1) ∧ w'.cell? ⟨gb253, 2, none⟩ = some (.int .i64 a1_2) ∧ w'.cell? ⟨gb253, 3, none⟩ = some (.int .i64 a1_3) ∧ w'.cell? ⟨gb253, 4, none⟩ = some (.string a1_4) ∧ w'.cell? ⟨gb251, 0, none⟩ = some (.int .i64 t244) ∧ w'.cell? ⟨gb251, 1, none⟩ = some (.int .i64 t245) ∧ w'.cell? ⟨gb251, 2, none⟩ = some (.int .i64 t246) ∧ w'.cell? ⟨gb251, 3, none⟩ = some (.int .i64 t247) ∧ w'.cell? ⟨gb251, 4, none⟩ = some (.slice Ao21 t248.length co21)) (ds := []) #[ff,ff,ff,ff,ff,ff,ff,ff,ff,ff,ff,ff,ff,ff,ff,ff,ff,ff,ff,ff,ff,ff,ff,ff,ff,ff,ff,ff,ff,ff,ff,ff] (by kernel_rfl) rfl rfl ⟨bc BK253 0, bc BK253 1, bc BK253 2, bc BK253 3, bc BK253 4, bc BK251 0, bc BK251 1, bc BK251 2, bc BK251 3, bc BK251 4⟩ (fun hHeld => ?_); refine with_tabW impl_WalStep.tab1004 impl_WalStep.bits1004 (fun HT_ HW_ => ?_)
       generalize w95.drew = w101 at HO250 BK240 BK241 BK242 BK251 BK253 HB hHeld ⊢
       refine pu 0 9 (tb 32 1) HT_ ?_
       refine pu 2 11 (tb 32 5) HT_ ?_
       refine pu 3 12 (tb 32 13) HT_ ?_
       refine pu 4 13 (tb 32 29) HT_ ?_
       refine tk 1 10 (tb 32 31) rfl rfl HT_ HW_ hHeld (by rintro w' ⟨s0, s1, s2, s3, s4, s5, s6, s7, s8, s9⟩; go_simp; with_reducible rfl) ?_
       refine tk 5 14 (tb 32 63) rfl rfl HT_ HW_ hHeld (by rintro w' ⟨s0, s1, s2, s3, s4, s5, s6, s7, s8, s9⟩; go_simp; with_reducible rfl) ?_
       refine pu 6 15 (tb 32 127) HT_ ?_
       refine pu 7 16 (tb 32 255) HT_ ?_
       refine pu 8 17 (tb 32 511) HT_ ?_
       refine pu 10 19 (tb 32 1535) HT_ ?_
       refine pu 11 20 (tb 32 3583) HT_ ?_
       refine pu 12 21 (tb 32 7679) HT_ ?_
       refine tk 9 18 (tb 32 8191) rfl rfl HT_ HW_ hHeld (by rintro w' ⟨s0, s1, s2, s3, s4, s5, s6, s7, s8, s9⟩; go_simp; with_reducible rfl) ?_
       refine tk 13 22 (tb 32 16383) rfl rfl HT_ HW_ hHeld (by rintro w' ⟨s0, s1, s2, s3, s4, s5, s6, s7, s8, s9⟩; go_simp; with_reducible rfl) ?_
       refine pu 14 23 (tb 32 32767) HT_ ?_
       refine pu 15 24 (tb 32 65535) HT_ ?_
       refine pn 16 25 (tb 32 131071) HT_ ?_
       refine pn 17 26 (tb 32 262143) HT_ ?_
       refine pn 18 27 (tb 32 524287) HT_ ?_
       refine pn 19 28 (tb 32 1048575) HT_ ?_
       refine pn 20 29 (tb 32 2097151) HT_ ?_
       refine pu 21 30 (tb 32 4194303) HT_ ?_
       refine pu 22 31 (tb 32 8388607) HT_ ?_
       refine pn 23 32 (tb 32 16777215) HT_ ?_
       refine pn 24 33 (tb 32 33554431) HT_ ?_
       refine pn 25 34 (tb 32 67108863) HT_ ?_
       refine pn 26 35 (tb 32 134217727) HT_ ?_
       refine pn 27 36 (tb 32 268435455) HT_ ?_
       refine pn 28 37 (tb 32 536870911) HT_ ?_
       refine pn 29 38 (tb 32 1073741823) HT_ ?_
       refine pu 30 39 (tb 32 2147483647) HT_ ?_
       refine pu 31 40 (tb 32 4294967295) HT_ ?_
       refine done_ (done_of HT_.out (by kernel_rfl)) ?_
       obtain ⟨hcz102_0, hcz102_1, hcz102_2, hcz102_3, hcz102_4⟩ := cs5 BK253; obtain ⟨hfz102_0, hfz102_1, hfz102_2, hfz102_3, hfz102_4⟩ := fs5 BK253; have hnb103 := NB251_240.out; have hnc103 := NB240_251.out; have hnb104 := NB251_242.out; have hnc104 := NB242_251.out; obtain ⟨hcz105_0, hcz105_1, hcz105_2, hcz105_3, hcz105_4⟩ := cs5 BK251; obtain ⟨hfz105_0, hfz105_1, hfz105_2, hfz105_3, hfz105_4⟩ := fs5 BK251
       go_wp2
       go_meet
       case rel => exact ⟨_, (!true), (a1_1), (a1_3), (t246), (t247), (t248), (.slice Ao21 t248.length co21), (by first | rfl | (simp; done) | (simp [*]; done)), H', ⟨by first | omega | exact Nat.le_refl _⟩, ⟨by (with_reducible repeat (first | apply Kd.R_alloc | apply Kd.R_drewN | apply Kd.R_drew)); exact Kd.R_mono (Kd.R_far (p := ⟨gb251, 1, none⟩) (Kd.R_far (p := ⟨gb251, 0, none⟩) (Kd.R_types HO250.out BK251.out (by decide)) (fun _ hk => hk.2) (.int .i64 a1_1)) (fun _ hk => hk.2) (.int .i64 a1_3)) (fun _ hk => trivial)⟩, ⟨by (with_reducible repeat first | refine bkN ?_ _ | refine bkD ?_ | refine bkA ?_ _ | refine blk_far ?_ NB240_251.out _); exact BK240.out⟩, ⟨by (with_reducible repeat first | refine bkN ?_ _ | refine bkD ?_ | refine bkA ?_ _ | refine blk_far ?_ NB241_251.out _); exact BK241.out⟩, ⟨by (with_reducible repeat first | refine bkN ?_ _ | refine bkD ?_ | refine bkA ?_ _ | refine blk_far ?_ NB242_251.out _); exact BK242.out⟩, ⟨by (with_reducible repeat first | refine bkN ?_ _ | refine bkD ?_ | refine bkA ?_ _); refine blk_put (cs := #[.int .i64 a1_1, .int .i64 t245, .int .i64 t246, .int .i64 t247, .slice Ao21 t248.length co21]) ?_ 1 _ rfl; (with_reducible repeat first | refine bkN ?_ _ | refine bkD ?_ | refine bkA ?_ _); refine blk_put (cs := #[.int .i64 t244, .int .i64 t245, .int .i64 t246, .int .i64 t247, .slice Ao21 t248.length co21]) ?_ 0 _ rfl; (with_reducible repeat first | refine bkN ?_ _ | refine bkD ?_ | refine bkA ?_ _); exact BK251.out⟩, ⟨by repeat (first | (with_reducible first | exact HB.out | apply below_alloc | apply pw_below_drewN | apply below_drew1 | refine below_set ?_ GE240.out | refine below_set ?_ GE241.out | refine below_set ?_ GE242.out | refine below_set ?_ GE251.out | refine below_set ?_ GE253.out) | exact HB.out)⟩⟩
    ·rw [if_neg c24] at H
     have c24b0 : (a1_0 == 1) = false := beq_eq_false_iff_ne.mpr c24
     have c24b1 : (a1_0 != 1) = true := bne_iff_ne.mpr c24
     (first | rw [c24b0] | (simp only [i64_w, i32_w]; rw [c24b0]) | skip)
     by_cases c106 : a1_0 = 2
     ·rw [if_pos c106] at H
      have c106b0 : (a1_0 == 2) = true := beq_iff_eq.mpr c106
      have c106b1 : (a1_0 != 2) = false := bne_eq_false_iff_eq.mpr c106
      clear c106; replace H := Option.bind_eq_some_iff.mp H
      obtain ⟨t254, A1070, H⟩ := H
      replace H : (if a1_2 = (wrap64 (t254 + 1)) then (if (t248.length : Int) ≥ 60 then (impl_WalStep.j0 k (!false) a0_0 a0_1 a0_2 a0_3 l0_4 t244 t245 t246 t247 t248) else ((impl_Wal_endTerm.f t244 t245 t246 t247 t248).bind fun t255 => ((impl_within.f a1_1 t255 t244).bind fun t256 => (if t256 = true then (if t248.length < 5864062014805 then (impl_WalStep.j0 k (!true) a0_0 a0_1 a0_2 a0_3 l0_4 t244 t245 t246 t247 (t248 ++ [(⟨a1_1, a1_4⟩ : S146)])) else (none)) else (impl_WalStep.j0 k (!false) a0_0 a0_1 a0_2 a0_3 l0_4 t244 t245 t246 t247 t248))))) else (impl_WalStep.j0 k (!false) a0_0 a0_1 a0_2 a0_3 l0_4 t244 t245 t246 t247 t248)) = some (r1, r2, r3, r4, r5, r6) := H
      have A107 := Aside0.mk A1070
      clear A1070
      by_cases c108 : a1_2 = (wrap64 (t254 + 1))
      ·rw [if_pos c108] at H
       have c108b0 : (a1_2 == (wrap64 (t254 + 1))) = true := beq_iff_eq.mpr c108
       have c108b1 : (a1_2 != (wrap64 (t254 + 1))) = false := bne_eq_false_iff_eq.mpr c108
       clear c108
       by_cases c109 : (t248.length : Int) ≥ 60
       ·rw [if_pos c109] at H
        have c109b0 : decide (60 ≤ (t248.length : Int)) = true := decide_eq_true c109
        have c109b1 : decide (60 ≤ t248.length) = true := decide_eq_true (by omega)
        clear c109; have H' := Aside0.mk H
        clear H; have hnb110 := NB241_240.out; have hnc110 := NB240_241.out; have hnb111 := NB241_242.out; have hnc111 := NB242_241.out; have hnb112 := NB241_251.out; have hnc112 := NB251_241.out; obtain ⟨hcz113_0, hcz113_1, hcz113_2, hcz113_3, hcz113_4⟩ := cs5 BK241; obtain ⟨hfz113_0, hfz113_1, hfz113_2, hfz113_3, hfz113_4⟩ := fs5 BK241
        go_wp2_with (first | ((with_reducible refine gate_callee (f := 146) rfl ?_); refine goesL_ (some 14) rfl rfl Try.func146 (by kernel_rfl) rfl #[.agg #[.int .i64 a1_0, .int .i64 a1_1, .int .i64 a1_2, .int .i64 a1_3, .string a1_4]] rfl (by (try simp only [List.map_toArray, List.map_cons, List.map_nil]); first | done | rfl | (simp only [List.length_drop, List.length_take]; rfl)) ?_; (with_reducible refine (impl_RecOk.calls a1_0 a1_1 a1_2 a1_3 a1_4 true _ A22.out).mono ?_); rintro e w114 ⟨rfl, hb⟩; refine ⟨_, rfl, ?_⟩; have n0_ := Aside0.mk (Kd.R_below (by (with_reducible repeat (first | apply Kd.R_alloc | apply Kd.R_drewN | apply Kd.R_drew)); exact (Kd.R_mono (Kd.R_far (p := ⟨gb251, 4, none⟩) (Kd.R_far (p := ⟨gb251, 3, none⟩) (Kd.R_far (p := ⟨gb251, 2, none⟩) (Kd.R_far (p := ⟨gb251, 1, none⟩) (Kd.R_far (p := ⟨gb251, 0, none⟩) (Kd.R_types HO250.out BK251.out (by decide)) (fun _ hk => hk.2) (.int .i64 t244)) (fun _ hk => hk.2) (.int .i64 t245)) (fun _ hk => hk.2) (.int .i64 t246)) (fun _ hk => hk.2) (.int .i64 t247)) (fun _ hk => hk.2) (.slice Ao21 t248.length co21)) (fun _ h_ => h_.1))) hb); have n1_ := bf BK240 hb; have n2_ := bf BK241 hb; have n3_ := bf BK242 hb; have n4_ := bp #[.int .i64 t244, .int .i64 t245, .int .i64 t246, .int .i64 t247, .slice Ao21 t248.length co21] BK251 hb; replace HB := bh HB hb; clear HO250 BK240 BK241 BK242 BK251; have HO250 := n0_; have BK240 := n1_; have BK241 := n2_; have BK242 := n3_; have BK251 := n4_; clear n0_ n1_ n2_ n3_ n4_; (try clear hb); (try clear hb2); (try clear hk); (try clear hi); obtain ⟨hcz115_0, hcz115_1, hcz115_2, hcz115_3, hcz115_4⟩ := cs5 BK241; obtain ⟨hfz115_0, hfz115_1, hfz115_2, hfz115_3, hfz115_4⟩ := fs5 BK241) | ((with_reducible refine gate_dst (N := 3) rfl ?_); refine box_event ?hg (N := 3) ?hd (cs := #[.int .i64 a1_0, .int .i64 a1_1, .int .i64 a1_2, .int .i64 a1_3, .string a1_4]) (t := 96) ?hr ?_; (case hd => rfl); (case hg => rfl); (case hr => first | (go_simp; done) | (go_simp; rfl)); intro gb253 hg w116 hbox hb; have BK253 := Aside0.mk (hbox); have GW253 := bs HB hg; have GE253 := bs HB hg; have NB240_253 := bl BK240 hg; have NB253_240 := bg BK240 hg; have NB241_253 := bl BK241 hg; have NB253_241 := bg BK241 hg; have NB242_253 := bl BK242 hg; have NB253_242 := bg BK242 hg; have NB251_253 := bl BK251 hg; have NB253_251 := bg BK251 hg; replace HO250 := Aside0.mk (Kd.R_below (rr HO250) hb); replace BK240 := bq BK240 hb; replace BK241 := bq BK241 hb; replace BK242 := bq BK242 hb; replace BK251 := bq BK251 hb; replace HB := bh HB hb; clear hb hbox hg; have hnb117 := NB253_240.out; have hnc117 := NB240_253.out; have hnb118 := NB253_241.out; have hnc118 := NB241_253.out; have hnb119 := NB253_242.out; have hnc119 := NB242_253.out; have hnb120 := NB253_251.out; have hnc120 := NB251_253.out; obtain ⟨hcz121_0, hcz121_1, hcz121_2, hcz121_3, hcz121_4⟩ := cs5 BK253; obtain ⟨hfz121_0, hfz121_1, hfz121_2, hfz121_3, hfz121_4⟩ := fs5 BK253) | (go_at_call 81; go_in))
        have n0_ := Aside0.mk (Kd.R_drew HO250.out)
        have n1_ := Aside0.mk (blk_drew BK240.out)
        have n2_ := Aside0.mk (blk_drew BK241.out)
        have n3_ := Aside0.mk (blk_drew BK242.out)
        have n4_ := Aside0.mk (blk_drew BK251.out)
        have n5_ := Aside0.mk (blk_drew BK253.out)
        have n6_ := Aside0.mk (below_drew1 HB.out)
        clear HO250 BK240 BK241 BK242 BK251 BK253 HB; have HO250 := n0_; have BK240 := n1_; have BK241 := n2_; have BK242 := n3_; have BK251 := n4_; have BK253 := n5_; have HB := n6_; clear n0_ n1_ n2_ n3_ n4_ n5_ n6_; refine start_ (n := 30) (S := fun w' => w'.cell? ⟨gb253, 0, none⟩ = some (.int .i64 a1_0) ∧ w'.cell? ⟨gb253, 1, none⟩ = some (.int .i64 a1_1) ∧ w'.cell? ⟨gb253, 2, none⟩ = some (.int .i64 a1_2) ∧ w'.cell? ⟨gb253, 3, none⟩ = some (.int .i64 a1_3) ∧ w'.cell? ⟨gb253, 4, none⟩ = some (.string a1_4) ∧ w'.cell? ⟨gb251, 0, none⟩ = some (.int .i64 t244) ∧ w'.cell? ⟨gb251, 1, none⟩ = some (.int .i64 t245) ∧ w'.cell? ⟨gb251, 2, none⟩ = some (.int .i64 t246) ∧ w'.cell? ⟨gb251, 3, none⟩ = some (.int .i64 t247) ∧ w'.cell? ⟨gb251, 4, none⟩ = some (.slice Ao21 t248.length co21)) (ds := []) #[ff,ff,ff,ff,ff,ff,ff,ff,ff,ff,ff,ff,ff,ff,ff,ff,ff,ff,ff,ff,ff,ff,ff,ff,ff,ff,ff,ff,ff,ff] (by kernel_rfl) rfl rfl ⟨bc BK253 0, bc BK253 1, bc BK253 2, bc BK253 3, bc BK253 4, bc BK251 0, bc BK251 1, bc BK251 2, bc BK251 3, bc BK251 4⟩ (fun hHeld => ?_); refine with_tabW impl_WalStep.tab1009 impl_WalStep.bits1009 (fun HT_ HW_ => ?_)
        generalize w116.drew = w122 at HO250 BK240 BK241 BK242 BK251 BK253 HB hHeld ⊢
        refine pu 0 53 (tb 30 1) HT_ ?_
        refine pu 2 55 (tb 30 5) HT_ ?_
        refine pu 3 56 (tb 30 13) HT_ ?_
        refine tk 1 54 (tb 30 15) rfl rfl HT_ HW_ hHeld (by rintro w' ⟨s0, s1, s2, s3, s4, s5, s6, s7, s8, s9⟩; go_simp; with_reducible rfl) ?_
        refine tk 4 57 (tb 30 31) rfl rfl HT_ HW_ hHeld (by rintro w' ⟨s0, s1, s2, s3, s4, s5, s6, s7, s8, s9⟩; go_simp; with_reducible rfl) ?_
        refine one_ (i := 5) (N := some 58) #[tt,tt,tt,tt,tt,tt,ff,ff,ff,ff,ff,ff,ff,ff,ff,ff,ff,ff,ff,ff,ff,ff,ff,ff,ff,ff,ff,ff,ff,ff] rfl rfl (one_of HT_.out (by kernel_rfl)) (by decide) (fun K hK => ?_)
        refine goes_ Try.func124 (by kernel_rfl) rfl #[.agg #[.int .i64 t244, .int .i64 t245, .int .i64 t246, .int .i64 t247, .slice Ao21 t248.length co21]] (by rfl) rfl rfl (by (try simp only [List.map_toArray, List.map_cons, List.map_nil]); first | done | rfl | (simp only [List.length_drop, List.length_take]; rfl)) ?_
        with_reducible refine (impl_Wal_end.calls t244 t245 t246 t247 _ _ t248 t254 _ ?side1 ?side2 A107.out).mono ?_
        (case side1 => repeat (first | exact (Kd.R_reads' HO250.out).2.2 | (with_reducible refine Kd.C_alloc ?_ _) | (with_reducible refine Kd.C_drewN ?_ _) | (with_reducible refine Kd.C_drew ?_)))
        (case side2 => exact (Kd.R_reads' HO250.out).2.1)
        rintro e w123 ⟨rfl, hb⟩
        refine ⟨_, rfl, ?_⟩
        replace HO250 := Aside0.mk (Kd.R_below (rr HO250) hb); replace BK240 := bq BK240 hb; replace BK241 := bq BK241 hb; replace BK242 := bq BK242 hb; replace BK251 := bq BK251 hb; replace BK253 := bq BK253 hb; replace HB := bh HB hb
        (try clear hb); (try clear hb2); (try clear hk); (try clear hi); refine hK.out _ _ ⟨bc BK253 0, bc BK253 1, bc BK253 2, bc BK253 3, bc BK253 4, bc BK251 0, bc BK251 1, bc BK251 2, bc BK251 3, bc BK251 4⟩ (fun hHeld => ?_)
        clear hK K; refine norm_ (a' := ?_) ?_ ?_
        rotate_left
        ·show Act.put _ (some 58) _ = _
         simp only [putL, i64_w, i32_w]; rfl
        refine pu 6 59 (tb 30 127) HT_ ?_
        refine pu 7 60 (tb 30 255) HT_ ?_
        refine pu 8 61 (tb 30 511) HT_ ?_
        refine pu 9 62 (tb 30 1023) HT_ ?_
        refine pu 10 63 (tb 30 2047) HT_ ?_
        refine pu 11 64 (tb 30 4095) HT_ ?_
        refine tk 12 65 (tb 30 8191) rfl rfl HT_ HW_ hHeld (by rintro w' ⟨s0, s1, s2, s3, s4, s5, s6, s7, s8, s9⟩; go_simp; with_reducible rfl) ?_
        refine pu 13 66 (tb 30 16383) HT_ ?_
        refine pu 14 67 (tb 30 32767) HT_ ?_
        refine pu 15 68 (tb 30 65535) HT_ ?_
        refine pu 16 69 (tb 30 131071) HT_ ?_
        refine pn 17 70 (tb 30 262143) HT_ ?_
        refine pn 18 71 (tb 30 524287) HT_ ?_
        refine pn 19 72 (tb 30 1048575) HT_ ?_
        refine pn 20 73 (tb 30 2097151) HT_ ?_
        refine pn 21 74 (tb 30 4194303) HT_ ?_
        refine pn 22 75 (tb 30 8388607) HT_ ?_
        refine pn 23 76 (tb 30 16777215) HT_ ?_
        refine pn 24 77 (tb 30 33554431) HT_ ?_
        refine pn 25 78 (tb 30 67108863) HT_ ?_
        refine pn 26 79 (tb 30 134217727) HT_ ?_
        refine pn 27 80 (tb 30 268435455) HT_ ?_
        refine pn 28 81 (tb 30 536870911) HT_ ?_
        refine pu 29 82 (tb 30 1073741823) HT_ ?_
        refine done_ (done_of HT_.out (by kernel_rfl)) ?_
        go_wp2
        go_meet
        case rel => exact ⟨_, (!false), (t244), (t245), (t246), (t247), (t248), (.slice Ao21 t248.length co21), (by first | rfl | (simp; done) | (simp [*]; done)), H', ⟨by first | omega | exact Nat.le_refl _⟩, ⟨rr HO250⟩, ⟨bb BK240⟩, ⟨bb BK241⟩, ⟨bb BK242⟩, ⟨bb BK251⟩, ⟨by repeat (first | (with_reducible first | exact HB.out | apply below_alloc | apply pw_below_drewN | apply below_drew1 | refine below_set ?_ GE240.out | refine below_set ?_ GE241.out | refine below_set ?_ GE242.out | refine below_set ?_ GE251.out | refine below_set ?_ GE253.out) | exact HB.out)⟩⟩
       ·rw [if_neg c109] at H
        have c109b0 : decide (60 ≤ (t248.length : Int)) = false := decide_eq_false c109
        have c109b1 : decide (60 ≤ t248.length) = false := decide_eq_false (by omega)
        clear c109; replace H := Option.bind_eq_some_iff.mp H
        obtain ⟨t255, A1240, H⟩ := H
        replace H : ((impl_within.f a1_1 t255 t244).bind fun t256 => (if t256 = true then (if t248.length < 5864062014805 then (impl_WalStep.j0 k (!true) a0_0 a0_1 a0_2 a0_3 l0_4 t244 t245 t246 t247 (t248 ++ [(⟨a1_1, a1_4⟩ : S146)])) else (none)) else (impl_WalStep.j0 k (!false) a0_0 a0_1 a0_2 a0_3 l0_4 t244 t245 t246 t247 t248))) = some (r1, r2, r3, r4, r5, r6) := H
        have A124 := Aside0.mk A1240
        clear A1240; replace H := Option.bind_eq_some_iff.mp H
        obtain ⟨t256, A1250, H⟩ := H
        replace H : (if t256 = true then (if t248.length < 5864062014805 then (impl_WalStep.j0 k (!true) a0_0 a0_1 a0_2 a0_3 l0_4 t244 t245 t246 t247 (t248 ++ [(⟨a1_1, a1_4⟩ : S146)])) else (none)) else (impl_WalStep.j0 k (!false) a0_0 a0_1 a0_2 a0_3 l0_4 t244 t245 t246 t247 t248)) = some (r1, r2, r3, r4, r5, r6) := H
        have A125 := Aside0.mk A1250
        clear A1250
        by_cases c126 : t256 = true
        ·subst c126
         have H1 : (if t248.length < 5864062014805 then (impl_WalStep.j0 k (!true) a0_0 a0_1 a0_2 a0_3 l0_4 t244 t245 t246 t247 (t248 ++ [(⟨a1_1, a1_4⟩ : S146)])) else (none)) = some (r1, r2, r3, r4, r5, r6) := by rw [if_pos rfl] at H; exact H
         clear H; have H := H1
         clear H1
         by_cases c127 : t248.length < 5864062014805
         ·rw [if_pos c127] at H
          have LMc127 := Aside0.mk c127
          clear c127; obtain ⟨y257, hy257⟩ : ∃ y_ : List (S146), y_ = (t248 ++ [(⟨a1_1, a1_4⟩ : S146)]) := ⟨_, rfl⟩
          replace H : (impl_WalStep.j0 k (!true) a0_0 a0_1 a0_2 a0_3 l0_4 t244 t245 t246 t247 y257) = some (r1, r2, r3, r4, r5, r6) := by first | (rw [hy257]; with_reducible exact H) | (have H2_ := (Option.bind_some _ _).symm.trans H; rw [hy257]; with_reducible exact H2_) | (have H2_ := (Option.bind_some _ _).symm.trans H; with_reducible exact H2_) | with_reducible exact H | (rw [hy257]; exact H) | exact H
          have Ny257 := Aside0.mk hy257
          clear hy257; have H' := Aside0.mk H
          clear H; have hnb128 := NB241_240.out; have hnc128 := NB240_241.out; have hnb129 := NB241_242.out; have hnc129 := NB242_241.out; have hnb130 := NB241_251.out; have hnc130 := NB251_241.out; obtain ⟨hcz131_0, hcz131_1, hcz131_2, hcz131_3, hcz131_4⟩ := cs5 BK241; obtain ⟨hfz131_0, hfz131_1, hfz131_2, hfz131_3, hfz131_4⟩ := fs5 BK241
          go_wp2_with (first | ((with_reducible refine gate_callee (f := 146) rfl ?_); refine goesL_ (some 14) rfl rfl Try.func146 (by kernel_rfl) rfl #[.agg #[.int .i64 a1_0, .int .i64 a1_1, .int .i64 a1_2, .int .i64 a1_3, .string a1_4]] rfl (by (try simp only [List.map_toArray, List.map_cons, List.map_nil]); first | done | rfl | (simp only [List.length_drop, List.length_take]; rfl)) ?_; (with_reducible refine (impl_RecOk.calls a1_0 a1_1 a1_2 a1_3 a1_4 true _ A22.out).mono ?_); rintro e w132 ⟨rfl, hb⟩; refine ⟨_, rfl, ?_⟩; have n0_ := Aside0.mk (Kd.R_below (by (with_reducible repeat (first | apply Kd.R_alloc | apply Kd.R_drewN | apply Kd.R_drew)); exact (Kd.R_mono (Kd.R_far (p := ⟨gb251, 4, none⟩) (Kd.R_far (p := ⟨gb251, 3, none⟩) (Kd.R_far (p := ⟨gb251, 2, none⟩) (Kd.R_far (p := ⟨gb251, 1, none⟩) (Kd.R_far (p := ⟨gb251, 0, none⟩) (Kd.R_types HO250.out BK251.out (by decide)) (fun _ hk => hk.2) (.int .i64 t244)) (fun _ hk => hk.2) (.int .i64 t245)) (fun _ hk => hk.2) (.int .i64 t246)) (fun _ hk => hk.2) (.int .i64 t247)) (fun _ hk => hk.2) (.slice Ao21 t248.length co21)) (fun _ h_ => h_.1))) hb); have n1_ := bf BK240 hb; have n2_ := bf BK241 hb; have n3_ := bf BK242 hb; have n4_ := bp #[.int .i64 t244, .int .i64 t245, .int .i64 t246, .int .i64 t247, .slice Ao21 t248.length co21] BK251 hb; replace HB := bh HB hb; clear HO250 BK240 BK241 BK242 BK251; have HO250 := n0_; have BK240 := n1_; have BK241 := n2_; have BK242 := n3_; have BK251 := n4_; clear n0_ n1_ n2_ n3_ n4_; (try clear hb); (try clear hb2); (try clear hk); (try clear hi); obtain ⟨hcz133_0, hcz133_1, hcz133_2, hcz133_3, hcz133_4⟩ := cs5 BK241; obtain ⟨hfz133_0, hfz133_1, hfz133_2, hfz133_3, hfz133_4⟩ := fs5 BK241) | ((with_reducible refine gate_dst (N := 3) rfl ?_); refine box_event ?hg (N := 3) ?hd (cs := #[.int .i64 a1_0, .int .i64 a1_1, .int .i64 a1_2, .int .i64 a1_3, .string a1_4]) (t := 96) ?hr ?_; (case hd => rfl); (case hg => rfl); (case hr => first | (go_simp; done) | (go_simp; rfl)); intro gb253 hg w134 hbox hb; have BK253 := Aside0.mk (hbox); have GW253 := bs HB hg; have GE253 := bs HB hg; have NB240_253 := bl BK240 hg; have NB253_240 := bg BK240 hg; have NB241_253 := bl BK241 hg; have NB253_241 := bg BK241 hg; have NB242_253 := bl BK242 hg; have NB253_242 := bg BK242 hg; have NB251_253 := bl BK251 hg; have NB253_251 := bg BK251 hg; replace HO250 := Aside0.mk (Kd.R_below (rr HO250) hb); replace BK240 := bq BK240 hb; replace BK241 := bq BK241 hb; replace BK242 := bq BK242 hb; replace BK251 := bq BK251 hb; replace HB := bh HB hb; clear hb hbox hg; have hnb135 := NB253_240.out; have hnc135 := NB240_253.out; have hnb136 := NB253_241.out; have hnc136 := NB241_253.out; have hnb137 := NB253_242.out; have hnc137 := NB242_253.out; have hnb138 := NB253_251.out; have hnc138 := NB251_253.out; obtain ⟨hcz139_0, hcz139_1, hcz139_2, hcz139_3, hcz139_4⟩ := cs5 BK253; obtain ⟨hfz139_0, hfz139_1, hfz139_2, hfz139_3, hfz139_4⟩ := fs5 BK253) | (go_at_call 81; go_in))
          have n0_ := Aside0.mk (Kd.R_drew HO250.out)
          have n1_ := Aside0.mk (blk_drew BK240.out)
          have n2_ := Aside0.mk (blk_drew BK241.out)
          have n3_ := Aside0.mk (blk_drew BK242.out)
          have n4_ := Aside0.mk (blk_drew BK251.out)
          have n5_ := Aside0.mk (blk_drew BK253.out)
          have n6_ := Aside0.mk (below_drew1 HB.out)
          clear HO250 BK240 BK241 BK242 BK251 BK253 HB; have HO250 := n0_; have BK240 := n1_; have BK241 := n2_; have BK242 := n3_; have BK251 := n4_; have BK253 := n5_; have HB := n6_; clear n0_ n1_ n2_ n3_ n4_ n5_ n6_; refine start_ (n := 30) (S := fun w' => w'.cell? ⟨gb253, 0, none⟩ = some (.int .i64 a1_0) ∧ w'.cell? ⟨gb253, 1, none⟩ = some (.int .i64 a1_1) ∧ w'.cell? ⟨gb253, 2, none⟩ = some (.int .i64 a1_2) ∧ w'.cell? ⟨gb253, 3, none⟩ = some (.int .i64 a1_3) ∧ w'.cell? ⟨gb253, 4, none⟩ = some (.string a1_4) ∧ w'.cell? ⟨gb251, 0, none⟩ = some (.int .i64 t244) ∧ w'.cell? ⟨gb251, 1, none⟩ = some (.int .i64 t245) ∧ w'.cell? ⟨gb251, 2, none⟩ = some (.int .i64 t246) ∧ w'.cell? ⟨gb251, 3, none⟩ = some (.int .i64 t247) ∧ w'.cell? ⟨gb251, 4, none⟩ = some (.slice Ao21 t248.length co21)) (ds := []) #[ff,ff,ff,ff,ff,ff,ff,ff,ff,ff,ff,ff,ff,ff,ff,ff,ff,ff,ff,ff,ff,ff,ff,ff,ff,ff,ff,ff,ff,ff] (by kernel_rfl) rfl rfl ⟨bc BK253 0, bc BK253 1, bc BK253 2, bc BK253 3, bc BK253 4, bc BK251 0, bc BK251 1, bc BK251 2, bc BK251 3, bc BK251 4⟩ (fun hHeld => ?_); refine with_tabW impl_WalStep.tab1009 impl_WalStep.bits1009 (fun HT_ HW_ => ?_)
          generalize w134.drew = w140 at HO250 BK240 BK241 BK242 BK251 BK253 HB hHeld ⊢
          refine pu 0 53 (tb 30 1) HT_ ?_
          refine pu 2 55 (tb 30 5) HT_ ?_
          refine pu 3 56 (tb 30 13) HT_ ?_
          refine tk 1 54 (tb 30 15) rfl rfl HT_ HW_ hHeld (by rintro w' ⟨s0, s1, s2, s3, s4, s5, s6, s7, s8, s9⟩; go_simp; with_reducible rfl) ?_
          refine tk 4 57 (tb 30 31) rfl rfl HT_ HW_ hHeld (by rintro w' ⟨s0, s1, s2, s3, s4, s5, s6, s7, s8, s9⟩; go_simp; with_reducible rfl) ?_
          refine one_ (i := 5) (N := some 58) #[tt,tt,tt,tt,tt,tt,ff,ff,ff,ff,ff,ff,ff,ff,ff,ff,ff,ff,ff,ff,ff,ff,ff,ff,ff,ff,ff,ff,ff,ff] rfl rfl (one_of HT_.out (by kernel_rfl)) (by decide) (fun K hK => ?_)
          refine goes_ Try.func124 (by kernel_rfl) rfl #[.agg #[.int .i64 t244, .int .i64 t245, .int .i64 t246, .int .i64 t247, .slice Ao21 t248.length co21]] (by rfl) rfl rfl (by (try simp only [List.map_toArray, List.map_cons, List.map_nil]); first | done | rfl | (simp only [List.length_drop, List.length_take]; rfl)) ?_
          with_reducible refine (impl_Wal_end.calls t244 t245 t246 t247 _ _ t248 t254 _ ?side1 ?side2 A107.out).mono ?_
          (case side1 => repeat (first | exact (Kd.R_reads' HO250.out).2.2 | (with_reducible refine Kd.C_alloc ?_ _) | (with_reducible refine Kd.C_drewN ?_ _) | (with_reducible refine Kd.C_drew ?_)))
          (case side2 => exact (Kd.R_reads' HO250.out).2.1)
          rintro e w141 ⟨rfl, hb⟩
          refine ⟨_, rfl, ?_⟩
          replace HO250 := Aside0.mk (Kd.R_below (rr HO250) hb); replace BK240 := bq BK240 hb; replace BK241 := bq BK241 hb; replace BK242 := bq BK242 hb; replace BK251 := bq BK251 hb; replace BK253 := bq BK253 hb; replace HB := bh HB hb
          (try clear hb); (try clear hb2); (try clear hk); (try clear hi); refine hK.out _ _ ⟨bc BK253 0, bc BK253 1, bc BK253 2, bc BK253 3, bc BK253 4, bc BK251 0, bc BK251 1, bc BK251 2, bc BK251 3, bc BK251 4⟩ (fun hHeld => ?_)
          clear hK K; refine norm_ (a' := ?_) ?_ ?_
          rotate_left
          ·show Act.put _ (some 58) _ = _
           simp only [putL, i64_w, i32_w]; rfl
          refine pu 6 59 (tb 30 127) HT_ ?_
          refine pu 7 60 (tb 30 255) HT_ ?_
          refine pu 8 61 (tb 30 511) HT_ ?_
          refine pu 9 62 (tb 30 1023) HT_ ?_
          refine pu 10 63 (tb 30 2047) HT_ ?_
          refine pu 11 64 (tb 30 4095) HT_ ?_
          refine tk 12 65 (tb 30 8191) rfl rfl HT_ HW_ hHeld (by rintro w' ⟨s0, s1, s2, s3, s4, s5, s6, s7, s8, s9⟩; go_simp; with_reducible rfl) ?_
          refine pu 13 66 (tb 30 16383) HT_ ?_
          refine pu 14 67 (tb 30 32767) HT_ ?_
          refine pu 15 68 (tb 30 65535) HT_ ?_
          refine pu 16 69 (tb 30 131071) HT_ ?_
          refine pu 17 70 (tb 30 262143) HT_ ?_
          refine pu 19 72 (tb 30 786431) HT_ ?_
          refine pu 20 73 (tb 30 1835007) HT_ ?_
          refine pu 23 76 (tb 30 10223615) HT_ ?_
          refine pu 24 77 (tb 30 27000831) HT_ ?_
          refine pu 25 78 (tb 30 60555263) HT_ ?_
          refine tk 18 71 (tb 30 60817407) rfl rfl HT_ HW_ hHeld (by rintro w' ⟨s0, s1, s2, s3, s4, s5, s6, s7, s8, s9⟩; go_simp; with_reducible rfl) ?_
          refine tk 21 74 (tb 30 62914559) rfl rfl HT_ HW_ hHeld (by rintro w' ⟨s0, s1, s2, s3, s4, s5, s6, s7, s8, s9⟩; go_simp; with_reducible rfl) ?_
          refine tk 26 79 (tb 30 130023423) rfl rfl HT_ HW_ hHeld (by rintro w' ⟨s0, s1, s2, s3, s4, s5, s6, s7, s8, s9⟩; go_simp; with_reducible rfl) ?_
          refine one_ (i := 22) (N := some 75) #[tt,tt,tt,tt,tt,tt,tt,tt,tt,tt,tt,tt,tt,tt,tt,tt,tt,tt,tt,tt,tt,tt,tt,tt,tt,tt,tt,ff,ff,ff] rfl rfl (one_of HT_.out (by kernel_rfl)) (by decide) (fun K hK => ?_)
          refine goes_ Try.func125 (by kernel_rfl) rfl #[.agg #[.int .i64 t244, .int .i64 t245, .int .i64 t246, .int .i64 t247, .slice Ao21 t248.length co21]] (by rfl) rfl rfl (by (try simp only [List.map_toArray, List.map_cons, List.map_nil]); first | done | rfl | (simp only [List.length_drop, List.length_take]; rfl)) ?_
          with_reducible refine (impl_Wal_endTerm.calls t244 t245 t246 t247 _ _ t248 t255 _ ?side1 ?side2 A124.out).mono ?_
          (case side1 => repeat (first | exact (Kd.R_reads' HO250.out).2.2 | (with_reducible refine Kd.C_alloc ?_ _) | (with_reducible refine Kd.C_drewN ?_ _) | (with_reducible refine Kd.C_drew ?_)))
          (case side2 => exact (Kd.R_reads' HO250.out).2.1)
          rintro e w142 ⟨rfl, hb⟩
          refine ⟨_, rfl, ?_⟩
          replace HO250 := Aside0.mk (Kd.R_below (rr HO250) hb); replace BK240 := bq BK240 hb; replace BK241 := bq BK241 hb; replace BK242 := bq BK242 hb; replace BK251 := bq BK251 hb; replace BK253 := bq BK253 hb; replace HB := bh HB hb
          (try clear hb); (try clear hb2); (try clear hk); (try clear hi); refine hK.out _ _ ⟨bc BK253 0, bc BK253 1, bc BK253 2, bc BK253 3, bc BK253 4, bc BK251 0, bc BK251 1, bc BK251 2, bc BK251 3, bc BK251 4⟩ (fun hHeld => ?_)
          clear hK K; refine norm_ (a' := ?_) ?_ ?_
          rotate_left
          ·show Act.put _ (some 75) _ = _
           simp only [putL, i64_w, i32_w]; rfl
          refine one_ (i := 27) (N := some 80) #[tt,tt,tt,tt,tt,tt,tt,tt,tt,tt,tt,tt,tt,tt,tt,tt,tt,tt,tt,tt,tt,tt,tt,tt,tt,tt,tt,tt,ff,ff] rfl rfl (one_of HT_.out (by kernel_rfl)) (by decide) (fun K hK => ?_)
          refine goes_ Try.func51 (by kernel_rfl) rfl #[.int .i64 a1_1, .int .i64 t255, .int .i64 t244] (by rfl) rfl rfl (by (try simp only [List.map_toArray, List.map_cons, List.map_nil]); first | done | rfl | (simp only [List.length_drop, List.length_take]; rfl)) ?_
          with_reducible refine (impl_within.calls a1_1 t255 t244 true _ A125.out).mono ?_
          rintro e w' ⟨rfl, ⟨nd, rfl⟩⟩
          refine ⟨_, rfl, ?_⟩
          refine hK.out _ _ ⟨bc BK253 0, bc BK253 1, bc BK253 2, bc BK253 3, bc BK253 4, bc BK251 0, bc BK251 1, bc BK251 2, bc BK251 3, bc BK251 4⟩ (fun hHeld => ?_)
          clear hK K; refine norm_ (a' := ?_) ?_ ?_
          rotate_left
          ·show Act.put _ (some 80) _ = _
           simp only [putL, i64_w, i32_w]; rfl
          refine pu 28 81 (tb 30 536870911) HT_ ?_
          refine pu 29 82 (tb 30 1073741823) HT_ ?_
          refine done_ (done_of HT_.out (by kernel_rfl)) ?_
          go_wp2
          (try (rw [drewN_self w142]; generalize hq_ : World.drewN w142 _ = w142; have n0_ : Aside0 (Kd.R k146 146 w142 w.heap.size (fun _ => True) (.slice Ao21 t248.length co21) t248) := ⟨by rw [← hq_]; exact (rr HO250)⟩; have n1_ : Aside0 (w142.heap[gb240]? = some (.cells #[.int .i64 a0_0, .int .i64 a0_1, .int .i64 a0_2, .int .i64 a0_3, .slice A0_4 l0_4.length c0_4] 50 (0, 0))) := ⟨by rw [← hq_]; exact (by (with_reducible repeat first | refine bkN ?_ _ | refine bkD ?_ | refine bkA ?_ _); exact BK240.out)⟩; have n2_ : Aside0 (w142.heap[gb241]? = some (.cells #[.int .i64 a1_0, .int .i64 a1_1, .int .i64 a1_2, .int .i64 a1_3, .string a1_4] 96 (0, 0))) := ⟨by rw [← hq_]; exact (by (with_reducible repeat first | refine bkN ?_ _ | refine bkD ?_ | refine bkA ?_ _); exact BK241.out)⟩; have n3_ : Aside0 (w142.heap[gb242]? = some (.cells #[.int .i64 0, .int .i64 0, .int .i64 0, .int .i64 0, .slice none 0 0] 50 (0, 0))) := ⟨by rw [← hq_]; exact (by (with_reducible repeat first | refine bkN ?_ _ | refine bkD ?_ | refine bkA ?_ _); exact BK242.out)⟩; have n4_ : Aside0 (w142.heap[gb251]? = some (.cells #[.int .i64 t244, .int .i64 t245, .int .i64 t246, .int .i64 t247, .slice Ao21 t248.length co21] 50 (0, 0))) := ⟨by rw [← hq_]; exact (by (with_reducible repeat first | refine bkN ?_ _ | refine bkD ?_ | refine bkA ?_ _); exact BK251.out)⟩; have n5_ : Aside0 (w142.heap[gb253]? = some (.cells #[.int .i64 a1_0, .int .i64 a1_1, .int .i64 a1_2, .int .i64 a1_3, .string a1_4] 96 (0, 0))) := ⟨by rw [← hq_]; exact (by (with_reducible repeat first | refine bkN ?_ _ | refine bkD ?_ | refine bkA ?_ _); exact BK253.out)⟩; have n6_ : Aside0 (Below w.heap.size w w142) := ⟨by rw [← hq_]; exact (be HB)⟩; clear HO250 BK240 BK241 BK242 BK251 BK253 HB hq_; have HO250 := n0_; have BK240 := n1_; have BK241 := n2_; have BK242 := n3_; have BK251 := n4_; have BK253 := n5_; have HB := n6_; clear n0_ n1_ n2_ n3_ n4_ n5_ n6_))
          have n0_ := Aside0.mk (Kd.R_drew HO250.out)
          have n1_ := Aside0.mk (blk_drew BK240.out)
          have n2_ := Aside0.mk (blk_drew BK241.out)
          have n3_ := Aside0.mk (blk_drew BK242.out)
          have n4_ := Aside0.mk (blk_drew BK251.out)
          have n5_ := Aside0.mk (blk_drew BK253.out)
          have n6_ := Aside0.mk (below_drew1 HB.out)
          clear HO250 BK240 BK241 BK242 BK251 BK253 HB; have HO250 := n0_; have BK240 := n1_; have BK241 := n2_; have BK242 := n3_; have BK251 := n4_; have BK253 := n5_; have HB := n6_; clear n0_ n1_ n2_ n3_ n4_ n5_ n6_; refine start_ (n := 15) (S := fun w' => w'.cell? ⟨gb251, 0, none⟩ = some (.int .i64 t244) ∧ w'.cell? ⟨gb251, 1, none⟩ = some (.int .i64 t245) ∧ w'.cell? ⟨gb251, 2, none⟩ = some (.int .i64 t246) ∧ w'.cell? ⟨gb251, 3, none⟩ = some (.int .i64 t247) ∧ w'.cell? ⟨gb251, 4, none⟩ = some (.slice Ao21 t248.length co21) ∧ w'.cell? ⟨gb253, 0, none⟩ = some (.int .i64 a1_0) ∧ w'.cell? ⟨gb253, 1, none⟩ = some (.int .i64 a1_1) ∧ w'.cell? ⟨gb253, 2, none⟩ = some (.int .i64 a1_2) ∧ w'.cell? ⟨gb253, 3, none⟩ = some (.int .i64 a1_3) ∧ w'.cell? ⟨gb253, 4, none⟩ = some (.string a1_4)) (ds := [14]) #[ff,ff,ff,ff,ff,ff,ff,ff,ff,ff,ff,ff,ff,ff,ff] (by kernel_rfl) rfl rfl ⟨bc BK251 0, bc BK251 1, bc BK251 2, bc BK251 3, bc BK251 4, bc BK253 0, bc BK253 1, bc BK253 2, bc BK253 3, bc BK253 4⟩ (fun hHeld => ?_); refine with_tabW impl_WalStep.tab1011 impl_WalStep.bits1011 (fun HT_ HW_ => ?_)
          generalize w142.drew = w143 at HO250 BK240 BK241 BK242 BK251 BK253 HB hHeld ⊢
          refine pu 0 83 (tb 15 1) HT_ ?_
          refine pu 1 84 (tb 15 3) HT_ ?_
          refine pu 2 85 (tb 15 7) HT_ ?_
          refine pu 3 86 (tb 15 15) HT_ ?_
          refine pu 5 88 (tb 15 47) HT_ ?_
          refine pu 7 90 (tb 15 175) HT_ ?_
          refine tk 4 87 (tb 15 191) rfl rfl HT_ HW_ hHeld (by rintro w' ⟨s0, s1, s2, s3, s4, s5, s6, s7, s8, s9⟩; go_simp; with_reducible rfl) ?_
          refine tk 6 89 (tb 15 255) rfl rfl HT_ HW_ hHeld (by rintro w' ⟨s0, s1, s2, s3, s4, s5, s6, s7, s8, s9⟩; go_simp; with_reducible rfl) ?_
          refine tk 8 91 (tb 15 511) rfl rfl HT_ HW_ hHeld (by rintro w' ⟨s0, s1, s2, s3, s4, s5, s6, s7, s8, s9⟩; go_simp; with_reducible rfl) ?_
          refine pu 9 92 (tb 15 1023) HT_ ?_
          refine one_ (i := 10) (N := some 93) #[tt,tt,tt,tt,tt,tt,tt,tt,tt,tt,tt,ff,ff,ff,ff] rfl rfl (one_of HT_.out (by kernel_rfl)) (by decide) (fun K hK => ?_)
          refine value_ (w1 := ?_) (v := ?_) (by rfl) rfl ?_ ?_
          rotate_left 2
          ·go_simp
           constructor
           ·rfl
           ·rfl
          refine hK.out _ _ ⟨(blk_cell (blk_alloc BK251.out _) 0).trans rfl, (blk_cell (blk_alloc BK251.out _) 1).trans rfl, (blk_cell (blk_alloc BK251.out _) 2).trans rfl, (blk_cell (blk_alloc BK251.out _) 3).trans rfl, (blk_cell (blk_alloc BK251.out _) 4).trans rfl, (blk_cell (blk_alloc BK253.out _) 0).trans rfl, (blk_cell (blk_alloc BK253.out _) 1).trans rfl, (blk_cell (blk_alloc BK253.out _) 2).trans rfl, (blk_cell (blk_alloc BK253.out _) 3).trans rfl, (blk_cell (blk_alloc BK253.out _) 4).trans rfl⟩ (fun hHeld => ?_)
          clear hK K; refine norm_ (a' := ?_) ?_ ?_
          rotate_left
          ·show Act.put _ (some 93) _ = _
           simp only [putL, i64_w, i32_w]; rfl
          refine one_ (i := 11) (N := some 94) #[tt,tt,tt,tt,tt,tt,tt,tt,tt,tt,tt,tt,ff,ff,ff] rfl rfl (one_of HT_.out (by kernel_rfl)) (by decide) (fun K hK => ?_)
          refine Kd.R_append_step k146 (w0 := w) w.heap.size (by rfl) (.tmp 87) (.tmp 93) 48 146 (.agg #[(.int .i64 0), (.string ⟨#[]⟩)]) 24 rfl Try.underlying48 info146 rfl (by decide) (by omega) (.slice Ao21 t248.length co21) t248 (⟨a1_1, a1_4⟩ : S146) [.int .i64 a1_1, .string a1_4] (fun _ => True) (fun _ => False) rfl rfl ?aP (fun _ hk => hk.elim) ?aF ?aO ?aB ?aS ?aL ?_
          (case aP => exact k146_mkM _ _ _ (⟨a1_1, a1_4⟩ : S146))
          (case aB => exact (be HB))
          (case aF => exact (fun _ _ => trivial))
          (case aO => exact (rr HO250))
          (case aS => exact (below_size (be HB)))
          (case aL => have := LMc127.out; omega)
          intro v258 w144 ho hb hg hat
          rw [← Ny257.out] at ho
          have n0_ := Aside0.mk (blk_grown (g := gb240) (o := .cells #[.int .i64 a0_0, .int .i64 a0_1, .int .i64 a0_2, .int .i64 a0_3, .slice A0_4 l0_4.length c0_4] 50 (0, 0)) (by (with_reducible repeat first | refine bkN ?_ _ | refine bkD ?_ | refine bkA ?_ _); exact BK240.out) hg (Kd.R_ne HO250.out BK240.out (by decide)))
          have n1_ := Aside0.mk (blk_grown (g := gb241) (o := .cells #[.int .i64 a1_0, .int .i64 a1_1, .int .i64 a1_2, .int .i64 a1_3, .string a1_4] 96 (0, 0)) (by (with_reducible repeat first | refine bkN ?_ _ | refine bkD ?_ | refine bkA ?_ _); exact BK241.out) hg (Kd.R_ne HO250.out BK241.out (by decide)))
          have n2_ := Aside0.mk (blk_grown (g := gb242) (o := .cells #[.int .i64 0, .int .i64 0, .int .i64 0, .int .i64 0, .slice none 0 0] 50 (0, 0)) (by (with_reducible repeat first | refine bkN ?_ _ | refine bkD ?_ | refine bkA ?_ _); exact BK242.out) hg (Kd.R_ne HO250.out BK242.out (by decide)))
          have n3_ := Aside0.mk (blk_grown (g := gb251) (o := .cells #[.int .i64 t244, .int .i64 t245, .int .i64 t246, .int .i64 t247, .slice Ao21 t248.length co21] 50 (0, 0)) (by (with_reducible repeat first | refine bkN ?_ _ | refine bkD ?_ | refine bkA ?_ _); exact BK251.out) hg (Kd.R_ne HO250.out BK251.out (by decide)))
          have n4_ := Aside0.mk (blk_grown (g := gb253) (o := .cells #[.int .i64 a1_0, .int .i64 a1_1, .int .i64 a1_2, .int .i64 a1_3, .string a1_4] 96 (0, 0)) (by (with_reducible repeat first | refine bkN ?_ _ | refine bkD ?_ | refine bkA ?_ _); exact BK253.out) hg (Kd.R_ne HO250.out BK253.out (by decide)))
          have n5_ := Aside0.mk (hb)
          have HO259 := Aside0.mk (ho)
          clear HO250 BK240 BK241 BK242 BK251 BK253 HB; have BK240 := n0_; have BK241 := n1_; have BK242 := n2_; have BK251 := n3_; have BK253 := n4_; have HB := n5_; clear n0_ n1_ n2_ n3_ n4_ n5_; clear ho hb hg hat; obtain ⟨Ao145, co145, eo145⟩ := Kd.R_slice HO259.out
          (first | subst eo145 | (injection eo145 with f1_ f2_ f3_; have f4_ := f1_.symm; have f5_ := f3_.symm; clear f1_ f2_ f3_; subst f4_; subst f5_))
          refine hK.out _ _ ⟨bc BK251 0, bc BK251 1, bc BK251 2, bc BK251 3, bc BK251 4, bc BK253 0, bc BK253 1, bc BK253 2, bc BK253 3, bc BK253 4⟩ (fun hHeld => ?_)
          clear hK K; refine norm_ (a' := ?_) ?_ ?_
          rotate_left
          ·show Act.put _ (some 94) _ = _
           simp only [putL, i64_w, i32_w]; rfl
          refine pu 12 95 (tb 15 8191) HT_ ?_
          refine pu 13 96 (tb 15 16383) HT_ ?_
          refine last_ (i := 14) (N := none) #[tt,tt,tt,tt,tt,tt,tt,tt,tt,tt,tt,tt,tt,tt,tt] rfl rfl (one_of HT_.out (by kernel_rfl)) (by decide) (fun K hK => ?_)
          have hs146 : w144.cell? ⟨gb251, 4, none⟩ = some (.slice Ao21 t248.length co21) := bc BK251 4
          have hfs146 := blk_frozen BK251.out 4; have hns146_0 := NB240_251.out; have hns146_1 := NB241_251.out; have hns146_2 := NB242_251.out; have hns146_4 := NB253_251.out; have hms146_0 := NB251_240.out; have hms146_1 := NB251_241.out; have hms146_2 := NB251_242.out; have hms146_4 := NB251_253.out; refine skip_ (w1 := ?_) (by rfl) rfl ?_ ?_
          rotate_left
          ·go_simp; rfl
          refine hK.out _ _ ?_
          clear hK K; refine done_ (done_of HT_.out (by kernel_rfl)) ?_
          go_wp2
          go_meet
          case rel => exact ⟨_, (!true), (t244), (t245), (t246), (t247), (y257), (.slice Ao145 y257.length co145), (by first | rfl | (simp; done) | (simp [*]; done)), H', ⟨by first | omega | exact Nat.le_refl _⟩, ⟨by (with_reducible repeat (first | apply Kd.R_alloc | apply Kd.R_drewN | apply Kd.R_drew)); exact Kd.R_mono (Kd.R_far (p := ⟨gb251, 4, none⟩) (Kd.R_types HO259.out BK251.out (by decide)) (fun _ hk => hk.2) (.slice Ao145 y257.length co145)) (fun _ hk => trivial)⟩, ⟨by (with_reducible repeat first | refine bkN ?_ _ | refine bkD ?_ | refine bkA ?_ _ | refine blk_far ?_ NB240_251.out _); exact BK240.out⟩, ⟨by (with_reducible repeat first | refine bkN ?_ _ | refine bkD ?_ | refine bkA ?_ _ | refine blk_far ?_ NB241_251.out _); exact BK241.out⟩, ⟨by (with_reducible repeat first | refine bkN ?_ _ | refine bkD ?_ | refine bkA ?_ _ | refine blk_far ?_ NB242_251.out _); exact BK242.out⟩, ⟨by (with_reducible repeat first | refine bkN ?_ _ | refine bkD ?_ | refine bkA ?_ _); refine blk_put (cs := #[.int .i64 t244, .int .i64 t245, .int .i64 t246, .int .i64 t247, .slice Ao21 t248.length co21]) ?_ 4 _ rfl; (with_reducible repeat first | refine bkN ?_ _ | refine bkD ?_ | refine bkA ?_ _); exact BK251.out⟩, ⟨by repeat (first | (with_reducible first | exact HB.out | apply below_alloc | apply pw_below_drewN | apply below_drew1 | refine below_set ?_ GE240.out | refine below_set ?_ GE241.out | refine below_set ?_ GE242.out | refine below_set ?_ GE251.out | refine below_set ?_ GE253.out) | exact HB.out)⟩⟩
         ·rw [if_neg c127] at H
          exact absurd H (by simp)
        ·replace c126 := Bool.eq_false_iff.mpr c126
         subst c126
         have H1 : (impl_WalStep.j0 k (!false) a0_0 a0_1 a0_2 a0_3 l0_4 t244 t245 t246 t247 t248) = some (r1, r2, r3, r4, r5, r6) := by rw [if_neg (show ¬ (false = true) by decide)] at H; exact H
         clear H; have H := H1
         clear H1; have H' := Aside0.mk H
         clear H; have hnb147 := NB241_240.out; have hnc147 := NB240_241.out; have hnb148 := NB241_242.out; have hnc148 := NB242_241.out; have hnb149 := NB241_251.out; have hnc149 := NB251_241.out; obtain ⟨hcz150_0, hcz150_1, hcz150_2, hcz150_3, hcz150_4⟩ := cs5 BK241; obtain ⟨hfz150_0, hfz150_1, hfz150_2, hfz150_3, hfz150_4⟩ := fs5 BK241
         go_wp2_with (first | ((with_reducible refine gate_callee (f := 146) rfl ?_); refine goesL_ (some 14) rfl rfl Try.func146 (by kernel_rfl) rfl #[.agg #[.int .i64 a1_0, .int .i64 a1_1, .int .i64 a1_2, .int .i64 a1_3, .string a1_4]] rfl (by (try simp only [List.map_toArray, List.map_cons, List.map_nil]); first | done | rfl | (simp only [List.length_drop, List.length_take]; rfl)) ?_; (with_reducible refine (impl_RecOk.calls a1_0 a1_1 a1_2 a1_3 a1_4 true _ A22.out).mono ?_); rintro e w151 ⟨rfl, hb⟩; refine ⟨_, rfl, ?_⟩; have n0_ := Aside0.mk (Kd.R_below (by (with_reducible repeat (first | apply Kd.R_alloc | apply Kd.R_drewN | apply Kd.R_drew)); exact (Kd.R_mono (Kd.R_far (p := ⟨gb251, 4, none⟩) (Kd.R_far (p := ⟨gb251, 3, none⟩) (Kd.R_far (p := ⟨gb251, 2, none⟩) (Kd.R_far (p := ⟨gb251, 1, none⟩) (Kd.R_far (p := ⟨gb251, 0, none⟩) (Kd.R_types HO250.out BK251.out (by decide)) (fun _ hk => hk.2) (.int .i64 t244)) (fun _ hk => hk.2) (.int .i64 t245)) (fun _ hk => hk.2) (.int .i64 t246)) (fun _ hk => hk.2) (.int .i64 t247)) (fun _ hk => hk.2) (.slice Ao21 t248.length co21)) (fun _ h_ => h_.1))) hb); have n1_ := bf BK240 hb; have n2_ := bf BK241 hb; have n3_ := bf BK242 hb; have n4_ := bp #[.int .i64 t244, .int .i64 t245, .int .i64 t246, .int .i64 t247, .slice Ao21 t248.length co21] BK251 hb; replace HB := bh HB hb; clear HO250 BK240 BK241 BK242 BK251; have HO250 := n0_; have BK240 := n1_; have BK241 := n2_; have BK242 := n3_; have BK251 := n4_; clear n0_ n1_ n2_ n3_ n4_; (try clear hb); (try clear hb2); (try clear hk); (try clear hi); obtain ⟨hcz152_0, hcz152_1, hcz152_2, hcz152_3, hcz152_4⟩ := cs5 BK241; obtain ⟨hfz152_0, hfz152_1, hfz152_2, hfz152_3, hfz152_4⟩ := fs5 BK241) | ((with_reducible refine gate_dst (N := 3) rfl ?_); refine box_event ?hg (N := 3) ?hd (cs := #[.int .i64 a1_0, .int .i64 a1_1, .int .i64 a1_2, .int .i64 a1_3, .string a1_4]) (t := 96) ?hr ?_; (case hd => rfl); (case hg => rfl); (case hr => first | (go_simp; done) | (go_simp; rfl)); intro gb253 hg w153 hbox hb; have BK253 := Aside0.mk (hbox); have GW253 := bs HB hg; have GE253 := bs HB hg; have NB240_253 := bl BK240 hg; have NB253_240 := bg BK240 hg; have NB241_253 := bl BK241 hg; have NB253_241 := bg BK241 hg; have NB242_253 := bl BK242 hg; have NB253_242 := bg BK242 hg; have NB251_253 := bl BK251 hg; have NB253_251 := bg BK251 hg; replace HO250 := Aside0.mk (Kd.R_below (rr HO250) hb); replace BK240 := bq BK240 hb; replace BK241 := bq BK241 hb; replace BK242 := bq BK242 hb; replace BK251 := bq BK251 hb; replace HB := bh HB hb; clear hb hbox hg; have hnb154 := NB253_240.out; have hnc154 := NB240_253.out; have hnb155 := NB253_241.out; have hnc155 := NB241_253.out; have hnb156 := NB253_242.out; have hnc156 := NB242_253.out; have hnb157 := NB253_251.out; have hnc157 := NB251_253.out; obtain ⟨hcz158_0, hcz158_1, hcz158_2, hcz158_3, hcz158_4⟩ := cs5 BK253; obtain ⟨hfz158_0, hfz158_1, hfz158_2, hfz158_3, hfz158_4⟩ := fs5 BK253) | (go_at_call 81; go_in))
         have n0_ := Aside0.mk (Kd.R_drew HO250.out)
         have n1_ := Aside0.mk (blk_drew BK240.out)
         have n2_ := Aside0.mk (blk_drew BK241.out)
         have n3_ := Aside0.mk (blk_drew BK242.out)
         have n4_ := Aside0.mk (blk_drew BK251.out)
         have n5_ := Aside0.mk (blk_drew BK253.out)
         have n6_ := Aside0.mk (below_drew1 HB.out)
         clear HO250 BK240 BK241 BK242 BK251 BK253 HB; have HO250 := n0_; have BK240 := n1_; have BK241 := n2_; have BK242 := n3_; have BK251 := n4_; have BK253 := n5_; have HB := n6_; clear n0_ n1_ n2_ n3_ n4_ n5_ n6_; refine start_ (n := 30) (S := fun w' => w'.cell? ⟨gb253, 0, none⟩ = some (.int .i64 a1_0) ∧ w'.cell? ⟨gb253, 1, none⟩ = some (.int .i64 a1_1) ∧ w'.cell? ⟨gb253, 2, none⟩ = some (.int .i64 a1_2) ∧ w'.cell? ⟨gb253, 3, none⟩ = some (.int .i64 a1_3) ∧ w'.cell? ⟨gb253, 4, none⟩ = some (.string a1_4) ∧ w'.cell? ⟨gb251, 0, none⟩ = some (.int .i64 t244) ∧ w'.cell? ⟨gb251, 1, none⟩ = some (.int .i64 t245) ∧ w'.cell? ⟨gb251, 2, none⟩ = some (.int .i64 t246) ∧ w'.cell? ⟨gb251, 3, none⟩ = some (.int .i64 t247) ∧ w'.cell? ⟨gb251, 4, none⟩ = some (.slice Ao21 t248.length co21)) (ds := []) #[ff,ff,ff,ff,ff,ff,ff,ff,ff,ff,ff,ff,ff,ff,ff,ff,ff,ff,ff,ff,ff,ff,ff,ff,ff,ff,ff,ff,ff,ff] (by kernel_rfl) rfl rfl ⟨bc BK253 0, bc BK253 1, bc BK253 2, bc BK253 3, bc BK253 4, bc BK251 0, bc BK251 1, bc BK251 2, bc BK251 3, bc BK251 4⟩ (fun hHeld => ?_); refine with_tabW impl_WalStep.tab1009 impl_WalStep.bits1009 (fun HT_ HW_ => ?_)
         generalize w153.drew = w159 at HO250 BK240 BK241 BK242 BK251 BK253 HB hHeld ⊢
         refine pu 0 53 (tb 30 1) HT_ ?_
         refine pu 2 55 (tb 30 5) HT_ ?_
         refine pu 3 56 (tb 30 13) HT_ ?_
         refine tk 1 54 (tb 30 15) rfl rfl HT_ HW_ hHeld (by rintro w' ⟨s0, s1, s2, s3, s4, s5, s6, s7, s8, s9⟩; go_simp; with_reducible rfl) ?_
         refine tk 4 57 (tb 30 31) rfl rfl HT_ HW_ hHeld (by rintro w' ⟨s0, s1, s2, s3, s4, s5, s6, s7, s8, s9⟩; go_simp; with_reducible rfl) ?_
         refine one_ (i := 5) (N := some 58) #[tt,tt,tt,tt,tt,tt,ff,ff,ff,ff,ff,ff,ff,ff,ff,ff,ff,ff,ff,ff,ff,ff,ff,ff,ff,ff,ff,ff,ff,ff] rfl rfl (one_of HT_.out (by kernel_rfl)) (by decide) (fun K hK => ?_)
         refine goes_ Try.func124 (by kernel_rfl) rfl #[.agg #[.int .i64 t244, .int .i64 t245, .int .i64 t246, .int .i64 t247, .slice Ao21 t248.length co21]] (by rfl) rfl rfl (by (try simp only [List.map_toArray, List.map_cons, List.map_nil]); first | done | rfl | (simp only [List.length_drop, List.length_take]; rfl)) ?_
         with_reducible refine (impl_Wal_end.calls t244 t245 t246 t247 _ _ t248 t254 _ ?side1 ?side2 A107.out).mono ?_
         (case side1 => repeat (first | exact (Kd.R_reads' HO250.out).2.2 | (with_reducible refine Kd.C_alloc ?_ _) | (with_reducible refine Kd.C_drewN ?_ _) | (with_reducible refine Kd.C_drew ?_)))
         (case side2 => exact (Kd.R_reads' HO250.out).2.1)
         rintro e w160 ⟨rfl, hb⟩
         refine ⟨_, rfl, ?_⟩
         replace HO250 := Aside0.mk (Kd.R_below (rr HO250) hb); replace BK240 := bq BK240 hb; replace BK241 := bq BK241 hb; replace BK242 := bq BK242 hb; replace BK251 := bq BK251 hb; replace BK253 := bq BK253 hb; replace HB := bh HB hb
         (try clear hb); (try clear hb2); (try clear hk); (try clear hi); refine hK.out _ _ ⟨bc BK253 0, bc BK253 1, bc BK253 2, bc BK253 3, bc BK253 4, bc BK251 0, bc BK251 1, bc BK251 2, bc BK251 3, bc BK251 4⟩ (fun hHeld => ?_)
         clear hK K; refine norm_ (a' := ?_) ?_ ?_
         rotate_left
         ·show Act.put _ (some 58) _ = _
          simp only [putL, i64_w, i32_w]; rfl
         refine pu 6 59 (tb 30 127) HT_ ?_
         refine pu 7 60 (tb 30 255) HT_ ?_
         refine pu 8 61 (tb 30 511) HT_ ?_
         refine pu 9 62 (tb 30 1023) HT_ ?_
         refine pu 10 63 (tb 30 2047) HT_ ?_
         refine pu 11 64 (tb 30 4095) HT_ ?_
         refine tk 12 65 (tb 30 8191) rfl rfl HT_ HW_ hHeld (by rintro w' ⟨s0, s1, s2, s3, s4, s5, s6, s7, s8, s9⟩; go_simp; with_reducible rfl) ?_
         refine pu 13 66 (tb 30 16383) HT_ ?_
         refine pu 14 67 (tb 30 32767) HT_ ?_
         refine pu 15 68 (tb 30 65535) HT_ ?_
         refine pu 16 69 (tb 30 131071) HT_ ?_
         refine pu 17 70 (tb 30 262143) HT_ ?_
         refine pu 19 72 (tb 30 786431) HT_ ?_
         refine pu 20 73 (tb 30 1835007) HT_ ?_
         refine pu 23 76 (tb 30 10223615) HT_ ?_
         refine pu 24 77 (tb 30 27000831) HT_ ?_
         refine pu 25 78 (tb 30 60555263) HT_ ?_
         refine tk 18 71 (tb 30 60817407) rfl rfl HT_ HW_ hHeld (by rintro w' ⟨s0, s1, s2, s3, s4, s5, s6, s7, s8, s9⟩; go_simp; with_reducible rfl) ?_
         refine tk 21 74 (tb 30 62914559) rfl rfl HT_ HW_ hHeld (by rintro w' ⟨s0, s1, s2, s3, s4, s5, s6, s7, s8, s9⟩; go_simp; with_reducible rfl) ?_
         refine tk 26 79 (tb 30 130023423) rfl rfl HT_ HW_ hHeld (by rintro w' ⟨s0, s1, s2, s3, s4, s5, s6, s7, s8, s9⟩; go_simp; with_reducible rfl) ?_
         refine one_ (i := 22) (N := some 75) #[tt,tt,tt,tt,tt,tt,tt,tt,tt,tt,tt,tt,tt,tt,tt,tt,tt,tt,tt,tt,tt,tt,tt,tt,tt,tt,tt,ff,ff,ff] rfl rfl (one_of HT_.out (by kernel_rfl)) (by decide) (fun K hK => ?_)
         refine goes_ Try.func125 (by kernel_rfl) rfl #[.agg #[.int .i64 t244, .int .i64 t245, .int .i64 t246, .int .i64 t247, .slice Ao21 t248.length co21]] (by rfl) rfl rfl (by (try simp only [List.map_toArray, List.map_cons, List.map_nil]); first | done | rfl | (simp only [List.length_drop, List.length_take]; rfl)) ?_
         with_reducible refine (impl_Wal_endTerm.calls t244 t245 t246 t247 _ _ t248 t255 _ ?side1 ?side2 A124.out).mono ?_
         (case side1 => repeat (first | exact (Kd.R_reads' HO250.out).2.2 | (with_reducible refine Kd.C_alloc ?_ _) | (with_reducible refine Kd.C_drewN ?_ _) | (with_reducible refine Kd.C_drew ?_)))
         (case side2 => exact (Kd.R_reads' HO250.out).2.1)
         rintro e w161 ⟨rfl, hb⟩
         refine ⟨_, rfl, ?_⟩
         replace HO250 := Aside0.mk (Kd.R_below (rr HO250) hb); replace BK240 := bq BK240 hb; replace BK241 := bq BK241 hb; replace BK242 := bq BK242 hb; replace BK251 := bq BK251 hb; replace BK253 := bq BK253 hb; replace HB := bh HB hb
         (try clear hb); (try clear hb2); (try clear hk); (try clear hi); refine hK.out _ _ ⟨bc BK253 0, bc BK253 1, bc BK253 2, bc BK253 3, bc BK253 4, bc BK251 0, bc BK251 1, bc BK251 2, bc BK251 3, bc BK251 4⟩ (fun hHeld => ?_)
         clear hK K; refine norm_ (a' := ?_) ?_ ?_
         rotate_left
         ·show Act.put _ (some 75) _ = _
          simp only [putL, i64_w, i32_w]; rfl
         refine one_ (i := 27) (N := some 80) #[tt,tt,tt,tt,tt,tt,tt,tt,tt,tt,tt,tt,tt,tt,tt,tt,tt,tt,tt,tt,tt,tt,tt,tt,tt,tt,tt,tt,ff,ff] rfl rfl (one_of HT_.out (by kernel_rfl)) (by decide) (fun K hK => ?_)
         refine goes_ Try.func51 (by kernel_rfl) rfl #[.int .i64 a1_1, .int .i64 t255, .int .i64 t244] (by rfl) rfl rfl (by (try simp only [List.map_toArray, List.map_cons, List.map_nil]); first | done | rfl | (simp only [List.length_drop, List.length_take]; rfl)) ?_
         with_reducible refine (impl_within.calls a1_1 t255 t244 false _ A125.out).mono ?_
         rintro e w' ⟨rfl, ⟨nd, rfl⟩⟩
         refine ⟨_, rfl, ?_⟩
         refine hK.out _ _ ⟨bc BK253 0, bc BK253 1, bc BK253 2, bc BK253 3, bc BK253 4, bc BK251 0, bc BK251 1, bc BK251 2, bc BK251 3, bc BK251 4⟩ (fun hHeld => ?_)
         clear hK K; refine norm_ (a' := ?_) ?_ ?_
         rotate_left
         ·show Act.put _ (some 80) _ = _
          simp only [putL, i64_w, i32_w]; rfl
         refine pu 28 81 (tb 30 536870911) HT_ ?_
         refine pu 29 82 (tb 30 1073741823) HT_ ?_
         refine done_ (done_of HT_.out (by kernel_rfl)) ?_
         go_wp2
         go_meet
         case rel => exact ⟨_, (!false), (t244), (t245), (t246), (t247), (t248), (.slice Ao21 t248.length co21), (by first | rfl | (simp; done) | (simp [*]; done)), H', ⟨by first | omega | exact Nat.le_refl _⟩, ⟨rr HO250⟩, ⟨bb BK240⟩, ⟨bb BK241⟩, ⟨bb BK242⟩, ⟨bb BK251⟩, ⟨by repeat (first | (with_reducible first | exact HB.out | apply below_alloc | apply pw_below_drewN | apply below_drew1 | refine below_set ?_ GE240.out | refine below_set ?_ GE241.out | refine below_set ?_ GE242.out | refine below_set ?_ GE251.out | refine below_set ?_ GE253.out) | exact HB.out)⟩⟩
      ·rw [if_neg c108] at H
       have c108b0 : (a1_2 == (wrap64 (t254 + 1))) = false := beq_eq_false_iff_ne.mpr c108
       have c108b1 : (a1_2 != (wrap64 (t254 + 1))) = true := bne_iff_ne.mpr c108
       have H' := Aside0.mk H
       clear H; have hnb162 := NB241_240.out; have hnc162 := NB240_241.out; have hnb163 := NB241_242.out; have hnc163 := NB242_241.out; have hnb164 := NB241_251.out; have hnc164 := NB251_241.out; obtain ⟨hcz165_0, hcz165_1, hcz165_2, hcz165_3, hcz165_4⟩ := cs5 BK241; obtain ⟨hfz165_0, hfz165_1, hfz165_2, hfz165_3, hfz165_4⟩ := fs5 BK241
       go_wp2_with (first | ((with_reducible refine gate_callee (f := 146) rfl ?_); refine goesL_ (some 14) rfl rfl Try.func146 (by kernel_rfl) rfl #[.agg #[.int .i64 a1_0, .int .i64 a1_1, .int .i64 a1_2, .int .i64 a1_3, .string a1_4]] rfl (by (try simp only [List.map_toArray, List.map_cons, List.map_nil]); first | done | rfl | (simp only [List.length_drop, List.length_take]; rfl)) ?_; (with_reducible refine (impl_RecOk.calls a1_0 a1_1 a1_2 a1_3 a1_4 true _ A22.out).mono ?_); rintro e w166 ⟨rfl, hb⟩; refine ⟨_, rfl, ?_⟩; have n0_ := Aside0.mk (Kd.R_below (by (with_reducible repeat (first | apply Kd.R_alloc | apply Kd.R_drewN | apply Kd.R_drew)); exact (Kd.R_mono (Kd.R_far (p := ⟨gb251, 4, none⟩) (Kd.R_far (p := ⟨gb251, 3, none⟩) (Kd.R_far (p := ⟨gb251, 2, none⟩) (Kd.R_far (p := ⟨gb251, 1, none⟩) (Kd.R_far (p := ⟨gb251, 0, none⟩) (Kd.R_types HO250.out BK251.out (by decide)) (fun _ hk => hk.2) (.int .i64 t244)) (fun _ hk => hk.2) (.int .i64 t245)) (fun _ hk => hk.2) (.int .i64 t246)) (fun _ hk => hk.2) (.int .i64 t247)) (fun _ hk => hk.2) (.slice Ao21 t248.length co21)) (fun _ h_ => h_.1))) hb); have n1_ := bf BK240 hb; have n2_ := bf BK241 hb; have n3_ := bf BK242 hb; have n4_ := bp #[.int .i64 t244, .int .i64 t245, .int .i64 t246, .int .i64 t247, .slice Ao21 t248.length co21] BK251 hb; replace HB := bh HB hb; clear HO250 BK240 BK241 BK242 BK251; have HO250 := n0_; have BK240 := n1_; have BK241 := n2_; have BK242 := n3_; have BK251 := n4_; clear n0_ n1_ n2_ n3_ n4_; (try clear hb); (try clear hb2); (try clear hk); (try clear hi); obtain ⟨hcz167_0, hcz167_1, hcz167_2, hcz167_3, hcz167_4⟩ := cs5 BK241; obtain ⟨hfz167_0, hfz167_1, hfz167_2, hfz167_3, hfz167_4⟩ := fs5 BK241) | ((with_reducible refine gate_dst (N := 3) rfl ?_); refine box_event ?hg (N := 3) ?hd (cs := #[.int .i64 a1_0, .int .i64 a1_1, .int .i64 a1_2, .int .i64 a1_3, .string a1_4]) (t := 96) ?hr ?_; (case hd => rfl); (case hg => rfl); (case hr => first | (go_simp; done) | (go_simp; rfl)); intro gb253 hg w168 hbox hb; have BK253 := Aside0.mk (hbox); have GW253 := bs HB hg; have GE253 := bs HB hg; have NB240_253 := bl BK240 hg; have NB253_240 := bg BK240 hg; have NB241_253 := bl BK241 hg; have NB253_241 := bg BK241 hg; have NB242_253 := bl BK242 hg; have NB253_242 := bg BK242 hg; have NB251_253 := bl BK251 hg; have NB253_251 := bg BK251 hg; replace HO250 := Aside0.mk (Kd.R_below (rr HO250) hb); replace BK240 := bq BK240 hb; replace BK241 := bq BK241 hb; replace BK242 := bq BK242 hb; replace BK251 := bq BK251 hb; replace HB := bh HB hb; clear hb hbox hg; have hnb169 := NB253_240.out; have hnc169 := NB240_253.out; have hnb170 := NB253_241.out; have hnc170 := NB241_253.out; have hnb171 := NB253_242.out; have hnc171 := NB242_253.out; have hnb172 := NB253_251.out; have hnc172 := NB251_253.out; obtain ⟨hcz173_0, hcz173_1, hcz173_2, hcz173_3, hcz173_4⟩ := cs5 BK253; obtain ⟨hfz173_0, hfz173_1, hfz173_2, hfz173_3, hfz173_4⟩ := fs5 BK253) | (go_at_call 81; go_in))
       have n0_ := Aside0.mk (Kd.R_drew HO250.out)
       have n1_ := Aside0.mk (blk_drew BK240.out)
       have n2_ := Aside0.mk (blk_drew BK241.out)
       have n3_ := Aside0.mk (blk_drew BK242.out)
       have n4_ := Aside0.mk (blk_drew BK251.out)
       have n5_ := Aside0.mk (blk_drew BK253.out)
       have n6_ := Aside0.mk (below_drew1 HB.out)
       clear HO250 BK240 BK241 BK242 BK251 BK253 HB; have HO250 := n0_; have BK240 := n1_; have BK241 := n2_; have BK242 := n3_; have BK251 := n4_; have BK253 := n5_; have HB := n6_; clear n0_ n1_ n2_ n3_ n4_ n5_ n6_; refine start_ (n := 30) (S := fun w' => w'.cell? ⟨gb253, 0, none⟩ = some (.int .i64 a1_0) ∧ w'.cell? ⟨gb253, 1, none⟩ = some (.int .i64 a1_1) ∧ w'.cell? ⟨gb253, 2, none⟩ = some (.int .i64 a1_2) ∧ w'.cell? ⟨gb253, 3, none⟩ = some (.int .i64 a1_3) ∧ w'.cell? ⟨gb253, 4, none⟩ = some (.string a1_4) ∧ w'.cell? ⟨gb251, 0, none⟩ = some (.int .i64 t244) ∧ w'.cell? ⟨gb251, 1, none⟩ = some (.int .i64 t245) ∧ w'.cell? ⟨gb251, 2, none⟩ = some (.int .i64 t246) ∧ w'.cell? ⟨gb251, 3, none⟩ = some (.int .i64 t247) ∧ w'.cell? ⟨gb251, 4, none⟩ = some (.slice Ao21 t248.length co21)) (ds := []) #[ff,ff,ff,ff,ff,ff,ff,ff,ff,ff,ff,ff,ff,ff,ff,ff,ff,ff,ff,ff,ff,ff,ff,ff,ff,ff,ff,ff,ff,ff] (by kernel_rfl) rfl rfl ⟨bc BK253 0, bc BK253 1, bc BK253 2, bc BK253 3, bc BK253 4, bc BK251 0, bc BK251 1, bc BK251 2, bc BK251 3, bc BK251 4⟩ (fun hHeld => ?_); refine with_tabW impl_WalStep.tab1009 impl_WalStep.bits1009 (fun HT_ HW_ => ?_)
       generalize w168.drew = w174 at HO250 BK240 BK241 BK242 BK251 BK253 HB hHeld ⊢
       refine pu 0 53 (tb 30 1) HT_ ?_
       refine pu 2 55 (tb 30 5) HT_ ?_
       refine pu 3 56 (tb 30 13) HT_ ?_
       refine tk 1 54 (tb 30 15) rfl rfl HT_ HW_ hHeld (by rintro w' ⟨s0, s1, s2, s3, s4, s5, s6, s7, s8, s9⟩; go_simp; with_reducible rfl) ?_
       refine tk 4 57 (tb 30 31) rfl rfl HT_ HW_ hHeld (by rintro w' ⟨s0, s1, s2, s3, s4, s5, s6, s7, s8, s9⟩; go_simp; with_reducible rfl) ?_
       refine one_ (i := 5) (N := some 58) #[tt,tt,tt,tt,tt,tt,ff,ff,ff,ff,ff,ff,ff,ff,ff,ff,ff,ff,ff,ff,ff,ff,ff,ff,ff,ff,ff,ff,ff,ff] rfl rfl (one_of HT_.out (by kernel_rfl)) (by decide) (fun K hK => ?_)
       refine goes_ Try.func124 (by kernel_rfl) rfl #[.agg #[.int .i64 t244, .int .i64 t245, .int .i64 t246, .int .i64 t247, .slice Ao21 t248.length co21]] (by rfl) rfl rfl (by (try simp only [List.map_toArray, List.map_cons, List.map_nil]); first | done | rfl | (simp only [List.length_drop, List.length_take]; rfl)) ?_
       with_reducible refine (impl_Wal_end.calls t244 t245 t246 t247 _ _ t248 t254 _ ?side1 ?side2 A107.out).mono ?_
       (case side1 => repeat (first | exact (Kd.R_reads' HO250.out).2.2 | (with_reducible refine Kd.C_alloc ?_ _) | (with_reducible refine Kd.C_drewN ?_ _) | (with_reducible refine Kd.C_drew ?_)))
       (case side2 => exact (Kd.R_reads' HO250.out).2.1)
       rintro e w175 ⟨rfl, hb⟩
       refine ⟨_, rfl, ?_⟩
       replace HO250 := Aside0.mk (Kd.R_below (rr HO250) hb); replace BK240 := bq BK240 hb; replace BK241 := bq BK241 hb; replace BK242 := bq BK242 hb; replace BK251 := bq BK251 hb; replace BK253 := bq BK253 hb; replace HB := bh HB hb
       (try clear hb); (try clear hb2); (try clear hk); (try clear hi); refine hK.out _ _ ⟨bc BK253 0, bc BK253 1, bc BK253 2, bc BK253 3, bc BK253 4, bc BK251 0, bc BK251 1, bc BK251 2, bc BK251 3, bc BK251 4⟩ (fun hHeld => ?_)
       clear hK K; refine norm_ (a' := ?_) ?_ ?_
       rotate_left
       ·show Act.put _ (some 58) _ = _
        simp only [putL, i64_w, i32_w]; rfl
       refine pu 6 59 (tb 30 127) HT_ ?_
       refine pu 7 60 (tb 30 255) HT_ ?_
       refine pu 8 61 (tb 30 511) HT_ ?_
       refine pn 9 62 (tb 30 1023) HT_ ?_
       refine pn 10 63 (tb 30 2047) HT_ ?_
       refine pn 11 64 (tb 30 4095) HT_ ?_
       refine pn 12 65 (tb 30 8191) HT_ ?_
       refine pn 13 66 (tb 30 16383) HT_ ?_
       refine pn 14 67 (tb 30 32767) HT_ ?_
       refine pu 15 68 (tb 30 65535) HT_ ?_
       refine pu 16 69 (tb 30 131071) HT_ ?_
       refine pn 17 70 (tb 30 262143) HT_ ?_
       refine pn 18 71 (tb 30 524287) HT_ ?_
       refine pn 19 72 (tb 30 1048575) HT_ ?_
       refine pn 20 73 (tb 30 2097151) HT_ ?_
       refine pn 21 74 (tb 30 4194303) HT_ ?_
       refine pn 22 75 (tb 30 8388607) HT_ ?_
       refine pn 23 76 (tb 30 16777215) HT_ ?_
       refine pn 24 77 (tb 30 33554431) HT_ ?_
       refine pn 25 78 (tb 30 67108863) HT_ ?_
       refine pn 26 79 (tb 30 134217727) HT_ ?_
       refine pn 27 80 (tb 30 268435455) HT_ ?_
       refine pn 28 81 (tb 30 536870911) HT_ ?_
       refine pu 29 82 (tb 30 1073741823) HT_ ?_
       refine done_ (done_of HT_.out (by kernel_rfl)) ?_
       go_wp2
       go_meet
       case rel => exact ⟨_, (!false), (t244), (t245), (t246), (t247), (t248), (.slice Ao21 t248.length co21), (by first | rfl | (simp; done) | (simp [*]; done)), H', ⟨by first | omega | exact Nat.le_refl _⟩, ⟨rr HO250⟩, ⟨bb BK240⟩, ⟨bb BK241⟩, ⟨bb BK242⟩, ⟨bb BK251⟩, ⟨by repeat (first | (with_reducible first | exact HB.out | apply below_alloc | apply pw_below_drewN | apply below_drew1 | refine below_set ?_ GE240.out | refine below_set ?_ GE241.out | refine below_set ?_ GE242.out | refine below_set ?_ GE251.out | refine below_set ?_ GE253.out) | exact HB.out)⟩⟩
     ·rw [if_neg c106] at H
      have c106b0 : (a1_0 == 2) = false := beq_eq_false_iff_ne.mpr c106
      have c106b1 : (a1_0 != 2) = true := bne_iff_ne.mpr c106
      by_cases c176 : a1_0 = 3
      ·rw [if_pos c176] at H
       have c176b0 : (a1_0 == 3) = true := beq_iff_eq.mpr c176
       have c176b1 : (a1_0 != 3) = false := bne_eq_false_iff_eq.mpr c176
       clear c176; replace H := Option.bind_eq_some_iff.mp H
       obtain ⟨t260, A1770, H⟩ := H
       replace H : ((impl_within.f a1_2 (wrap64 (t246 + 1)) t260).bind fun t261 => (if t261 = true then (if 0 ≤ (wrap64 ((wrap64 (a1_2 - t246)) - 1)) then (if (wrap64 ((wrap64 (a1_2 - t246)) - 1)) ≤ (t248.length : Int) then (impl_WalStep.j0 k (!true) a0_0 a0_1 a0_2 a0_3 l0_4 t244 t245 t246 t247 (t248.take ((wrap64 ((wrap64 (a1_2 - t246)) - 1)) : Int).toNat)) else (none)) else (none)) else (impl_WalStep.j0 k (!false) a0_0 a0_1 a0_2 a0_3 l0_4 t244 t245 t246 t247 t248))) = some (r1, r2, r3, r4, r5, r6) := H
       have A177 := Aside0.mk A1770
       clear A1770; replace H := Option.bind_eq_some_iff.mp H
       obtain ⟨t261, A1780, H⟩ := H
       replace H : (if t261 = true then (if 0 ≤ (wrap64 ((wrap64 (a1_2 - t246)) - 1)) then (if (wrap64 ((wrap64 (a1_2 - t246)) - 1)) ≤ (t248.length : Int) then (impl_WalStep.j0 k (!true) a0_0 a0_1 a0_2 a0_3 l0_4 t244 t245 t246 t247 (t248.take ((wrap64 ((wrap64 (a1_2 - t246)) - 1)) : Int).toNat)) else (none)) else (none)) else (impl_WalStep.j0 k (!false) a0_0 a0_1 a0_2 a0_3 l0_4 t244 t245 t246 t247 t248)) = some (r1, r2, r3, r4, r5, r6) := H
       have A178 := Aside0.mk A1780
       clear A1780
       by_cases c179 : t261 = true
       ·subst c179
        have H1 : (if 0 ≤ (wrap64 ((wrap64 (a1_2 - t246)) - 1)) then (if (wrap64 ((wrap64 (a1_2 - t246)) - 1)) ≤ (t248.length : Int) then (impl_WalStep.j0 k (!true) a0_0 a0_1 a0_2 a0_3 l0_4 t244 t245 t246 t247 (t248.take ((wrap64 ((wrap64 (a1_2 - t246)) - 1)) : Int).toNat)) else (none)) else (none)) = some (r1, r2, r3, r4, r5, r6) := by rw [if_pos rfl] at H; exact H
        clear H; have H := H1
        clear H1; obtain ⟨ji180, hji180⟩ : ∃ j_ : Int, (wrap64 ((wrap64 (a1_2 - t246)) - 1)) = j_ := ⟨_, rfl⟩
        replace H : (if 0 ≤ (ji180) then (if (ji180) ≤ (t248.length : Int) then (impl_WalStep.j0 k (!true) a0_0 a0_1 a0_2 a0_3 l0_4 t244 t245 t246 t247 (t248.take ((ji180) : Int).toNat)) else (none)) else (none)) = some (r1, r2, r3, r4, r5, r6) := by first | (rw [hji180] at H; exact H) | (simp only [hji180] at H ⊢; exact H)
        (try rw [hji180] at A22)
        (try rw [hji180] at A177)
        (try rw [hji180] at A178)
        have hji180w : (IntKind.i64.wrap ((wrap64 (a1_2 - t246)) - 1)) = ji180 := (i64_w _).trans hji180
        by_cases c181 : 0 ≤ (ji180)
        ·rw [if_pos c181] at H
         have c181b0 := eq_true c181
         have c181b1 : decide (0 ≤ (ji180)) = true := decide_eq_true c181
         clear c181
         by_cases c182 : (ji180) ≤ (t248.length : Int)
         ·rw [if_pos c182] at H
          have c182b0 := eq_true c182
          have c182b1 : decide ((ji180) ≤ (t248.length : Int)) = true := decide_eq_true c182
          clear c182; obtain ⟨y262, hy262⟩ : ∃ y_ : List (S146), y_ = (t248.take ((ji180) : Int).toNat) := ⟨_, rfl⟩
          replace H : (impl_WalStep.j0 k (!true) a0_0 a0_1 a0_2 a0_3 l0_4 t244 t245 t246 t247 y262) = some (r1, r2, r3, r4, r5, r6) := by first | (rw [hy262]; with_reducible exact H) | (have H2_ := (Option.bind_some _ _).symm.trans H; rw [hy262]; with_reducible exact H2_) | (have H2_ := (Option.bind_some _ _).symm.trans H; with_reducible exact H2_) | with_reducible exact H | (rw [hy262]; exact H) | exact H
          have Ny262 := Aside0.mk hy262
          clear hy262; have H' := Aside0.mk H
          clear H; have hnb183 := NB241_240.out; have hnc183 := NB240_241.out; have hnb184 := NB241_242.out; have hnc184 := NB242_241.out; have hnb185 := NB241_251.out; have hnc185 := NB251_241.out; obtain ⟨hcz186_0, hcz186_1, hcz186_2, hcz186_3, hcz186_4⟩ := cs5 BK241; obtain ⟨hfz186_0, hfz186_1, hfz186_2, hfz186_3, hfz186_4⟩ := fs5 BK241
          go_wp2_with (first | ((with_reducible refine gate_callee (f := 146) rfl ?_); refine goesL_ (some 14) rfl rfl Try.func146 (by kernel_rfl) rfl #[.agg #[.int .i64 a1_0, .int .i64 a1_1, .int .i64 a1_2, .int .i64 a1_3, .string a1_4]] rfl (by (try simp only [List.map_toArray, List.map_cons, List.map_nil]); first | done | rfl | (simp only [List.length_drop, List.length_take]; rfl)) ?_; (with_reducible refine (impl_RecOk.calls a1_0 a1_1 a1_2 a1_3 a1_4 true _ A22.out).mono ?_); rintro e w187 ⟨rfl, hb⟩; refine ⟨_, rfl, ?_⟩; have n0_ := Aside0.mk (Kd.R_below (by (with_reducible repeat (first | apply Kd.R_alloc | apply Kd.R_drewN | apply Kd.R_drew)); exact (Kd.R_mono (Kd.R_far (p := ⟨gb251, 4, none⟩) (Kd.R_far (p := ⟨gb251, 3, none⟩) (Kd.R_far (p := ⟨gb251, 2, none⟩) (Kd.R_far (p := ⟨gb251, 1, none⟩) (Kd.R_far (p := ⟨gb251, 0, none⟩) (Kd.R_types HO250.out BK251.out (by decide)) (fun _ hk => hk.2) (.int .i64 t244)) (fun _ hk => hk.2) (.int .i64 t245)) (fun _ hk => hk.2) (.int .i64 t246)) (fun _ hk => hk.2) (.int .i64 t247)) (fun _ hk => hk.2) (.slice Ao21 t248.length co21)) (fun _ h_ => h_.1))) hb); have n1_ := bf BK240 hb; have n2_ := bf BK241 hb; have n3_ := bf BK242 hb; have n4_ := bp #[.int .i64 t244, .int .i64 t245, .int .i64 t246, .int .i64 t247, .slice Ao21 t248.length co21] BK251 hb; replace HB := bh HB hb; clear HO250 BK240 BK241 BK242 BK251; have HO250 := n0_; have BK240 := n1_; have BK241 := n2_; have BK242 := n3_; have BK251 := n4_; clear n0_ n1_ n2_ n3_ n4_; (try clear hb); (try clear hb2); (try clear hk); (try clear hi); obtain ⟨hcz188_0, hcz188_1, hcz188_2, hcz188_3, hcz188_4⟩ := cs5 BK241; obtain ⟨hfz188_0, hfz188_1, hfz188_2, hfz188_3, hfz188_4⟩ := fs5 BK241) | ((with_reducible refine gate_dst (N := 3) rfl ?_); refine box_event ?hg (N := 3) ?hd (cs := #[.int .i64 a1_0, .int .i64 a1_1, .int .i64 a1_2, .int .i64 a1_3, .string a1_4]) (t := 96) ?hr ?_; (case hd => rfl); (case hg => rfl); (case hr => first | (go_simp; done) | (go_simp; rfl)); intro gb253 hg w189 hbox hb; have BK253 := Aside0.mk (hbox); have GW253 := bs HB hg; have GE253 := bs HB hg; have NB240_253 := bl BK240 hg; have NB253_240 := bg BK240 hg; have NB241_253 := bl BK241 hg; have NB253_241 := bg BK241 hg; have NB242_253 := bl BK242 hg; have NB253_242 := bg BK242 hg; have NB251_253 := bl BK251 hg; have NB253_251 := bg BK251 hg; replace HO250 := Aside0.mk (Kd.R_below (rr HO250) hb); replace BK240 := bq BK240 hb; replace BK241 := bq BK241 hb; replace BK242 := bq BK242 hb; replace BK251 := bq BK251 hb; replace HB := bh HB hb; clear hb hbox hg; have hnb190 := NB253_240.out; have hnc190 := NB240_253.out; have hnb191 := NB253_241.out; have hnc191 := NB241_253.out; have hnb192 := NB253_242.out; have hnc192 := NB242_253.out; have hnb193 := NB253_251.out; have hnc193 := NB251_253.out; obtain ⟨hcz194_0, hcz194_1, hcz194_2, hcz194_3, hcz194_4⟩ := cs5 BK253; obtain ⟨hfz194_0, hfz194_1, hfz194_2, hfz194_3, hfz194_4⟩ := fs5 BK253) | (go_at_call 81; go_in))
          have n0_ := Aside0.mk (Kd.R_drew HO250.out)
          have n1_ := Aside0.mk (blk_drew BK240.out)
          have n2_ := Aside0.mk (blk_drew BK241.out)
          have n3_ := Aside0.mk (blk_drew BK242.out)
          have n4_ := Aside0.mk (blk_drew BK251.out)
          have n5_ := Aside0.mk (blk_drew BK253.out)
          have n6_ := Aside0.mk (below_drew1 HB.out)
          clear HO250 BK240 BK241 BK242 BK251 BK253 HB; have HO250 := n0_; have BK240 := n1_; have BK241 := n2_; have BK242 := n3_; have BK251 := n4_; have BK253 := n5_; have HB := n6_; clear n0_ n1_ n2_ n3_ n4_ n5_ n6_; refine start_ (n := 13) (S := fun w' => w'.cell? ⟨gb253, 0, none⟩ = some (.int .i64 a1_0) ∧ w'.cell? ⟨gb253, 1, none⟩ = some (.int .i64 a1_1) ∧ w'.cell? ⟨gb253, 2, none⟩ = some (.int .i64 a1_2) ∧ w'.cell? ⟨gb253, 3, none⟩ = some (.int .i64 a1_3) ∧ w'.cell? ⟨gb253, 4, none⟩ = some (.string a1_4) ∧ w'.cell? ⟨gb251, 0, none⟩ = some (.int .i64 t244) ∧ w'.cell? ⟨gb251, 1, none⟩ = some (.int .i64 t245) ∧ w'.cell? ⟨gb251, 2, none⟩ = some (.int .i64 t246) ∧ w'.cell? ⟨gb251, 3, none⟩ = some (.int .i64 t247) ∧ w'.cell? ⟨gb251, 4, none⟩ = some (.slice Ao21 t248.length co21)) (ds := []) #[ff,ff,ff,ff,ff,ff,ff,ff,ff,ff,ff,ff,ff] (by kernel_rfl) rfl rfl ⟨bc BK253 0, bc BK253 1, bc BK253 2, bc BK253 3, bc BK253 4, bc BK251 0, bc BK251 1, bc BK251 2, bc BK251 3, bc BK251 4⟩ (fun hHeld => ?_); refine with_tabW impl_WalStep.tab1013 impl_WalStep.bits1013 (fun HT_ HW_ => ?_)
          generalize w189.drew = w195 at HO250 BK240 BK241 BK242 BK251 BK253 HB hHeld ⊢
          refine pu 0 99 (tb 13 1) HT_ ?_
          refine pu 2 101 (tb 13 5) HT_ ?_
          refine pu 3 102 (tb 13 13) HT_ ?_
          refine pu 4 103 (tb 13 29) HT_ ?_
          refine pu 7 106 (tb 13 157) HT_ ?_
          refine pu 8 107 (tb 13 413) HT_ ?_
          refine tk 1 100 (tb 13 415) rfl rfl HT_ HW_ hHeld (by rintro w' ⟨s0, s1, s2, s3, s4, s5, s6, s7, s8, s9⟩; go_simp; with_reducible rfl) ?_
          refine tk 5 104 (tb 13 447) rfl rfl HT_ HW_ hHeld (by rintro w' ⟨s0, s1, s2, s3, s4, s5, s6, s7, s8, s9⟩; go_simp; with_reducible rfl) ?_
          refine pu 6 105 (tb 13 511) HT_ ?_
          refine tk 9 108 (tb 13 1023) rfl rfl HT_ HW_ hHeld (by rintro w' ⟨s0, s1, s2, s3, s4, s5, s6, s7, s8, s9⟩; go_simp; with_reducible rfl) ?_
          refine one_ (i := 10) (N := some 109) #[tt,tt,tt,tt,tt,tt,tt,tt,tt,tt,tt,ff,ff] rfl rfl (one_of HT_.out (by kernel_rfl)) (by decide) (fun K hK => ?_)
          refine goes_ Try.func124 (by kernel_rfl) rfl #[.agg #[.int .i64 t244, .int .i64 t245, .int .i64 t246, .int .i64 t247, .slice Ao21 t248.length co21]] (by rfl) rfl rfl (by (try simp only [List.map_toArray, List.map_cons, List.map_nil]); first | done | rfl | (simp only [List.length_drop, List.length_take]; rfl)) ?_
          with_reducible refine (impl_Wal_end.calls t244 t245 t246 t247 _ _ t248 t260 _ ?side1 ?side2 A177.out).mono ?_
          (case side1 => repeat (first | exact (Kd.R_reads' HO250.out).2.2 | (with_reducible refine Kd.C_alloc ?_ _) | (with_reducible refine Kd.C_drewN ?_ _) | (with_reducible refine Kd.C_drew ?_)))
          (case side2 => exact (Kd.R_reads' HO250.out).2.1)
          rintro e w196 ⟨rfl, hb⟩
          refine ⟨_, rfl, ?_⟩
          replace HO250 := Aside0.mk (Kd.R_below (rr HO250) hb); replace BK240 := bq BK240 hb; replace BK241 := bq BK241 hb; replace BK242 := bq BK242 hb; replace BK251 := bq BK251 hb; replace BK253 := bq BK253 hb; replace HB := bh HB hb
          (try clear hb); (try clear hb2); (try clear hk); (try clear hi); refine hK.out _ _ ⟨bc BK253 0, bc BK253 1, bc BK253 2, bc BK253 3, bc BK253 4, bc BK251 0, bc BK251 1, bc BK251 2, bc BK251 3, bc BK251 4⟩ (fun hHeld => ?_)
          clear hK K; refine norm_ (a' := ?_) ?_ ?_
          rotate_left
          ·show Act.put _ (some 109) _ = _
           simp only [putL, i64_w, i32_w]; rfl
          refine one_ (i := 11) (N := some 110) #[tt,tt,tt,tt,tt,tt,tt,tt,tt,tt,tt,tt,ff] rfl rfl (one_of HT_.out (by kernel_rfl)) (by decide) (fun K hK => ?_)
          refine goes_ Try.func51 (by kernel_rfl) rfl #[.int .i64 a1_2, .int .i64 (wrap64 (t246 + 1)), .int .i64 t260] (by rfl) rfl rfl (by (try simp only [List.map_toArray, List.map_cons, List.map_nil]); first | done | rfl | (simp only [List.length_drop, List.length_take]; rfl)) ?_
          with_reducible refine (impl_within.calls a1_2 (wrap64 (t246 + 1)) t260 true _ A178.out).mono ?_
          rintro e w' ⟨rfl, ⟨nd, rfl⟩⟩
          refine ⟨_, rfl, ?_⟩
          refine hK.out _ _ ⟨bc BK253 0, bc BK253 1, bc BK253 2, bc BK253 3, bc BK253 4, bc BK251 0, bc BK251 1, bc BK251 2, bc BK251 3, bc BK251 4⟩ (fun hHeld => ?_)
          clear hK K; refine norm_ (a' := ?_) ?_ ?_
          rotate_left
          ·show Act.put _ (some 110) _ = _
           simp only [putL, i64_w, i32_w]; rfl
          refine pu 12 111 (tb 13 8191) HT_ ?_
          refine done_ (done_of HT_.out (by kernel_rfl)) ?_
          go_wp2
          (try (rw [drewN_self w196]; generalize hq_ : World.drewN w196 _ = w196; have n0_ : Aside0 (Kd.R k146 146 w196 w.heap.size (fun _ => True) (.slice Ao21 t248.length co21) t248) := ⟨by rw [← hq_]; exact (rr HO250)⟩; have n1_ : Aside0 (w196.heap[gb240]? = some (.cells #[.int .i64 a0_0, .int .i64 a0_1, .int .i64 a0_2, .int .i64 a0_3, .slice A0_4 l0_4.length c0_4] 50 (0, 0))) := ⟨by rw [← hq_]; exact (by (with_reducible repeat first | refine bkN ?_ _ | refine bkD ?_ | refine bkA ?_ _); exact BK240.out)⟩; have n2_ : Aside0 (w196.heap[gb241]? = some (.cells #[.int .i64 a1_0, .int .i64 a1_1, .int .i64 a1_2, .int .i64 a1_3, .string a1_4] 96 (0, 0))) := ⟨by rw [← hq_]; exact (by (with_reducible repeat first | refine bkN ?_ _ | refine bkD ?_ | refine bkA ?_ _); exact BK241.out)⟩; have n3_ : Aside0 (w196.heap[gb242]? = some (.cells #[.int .i64 0, .int .i64 0, .int .i64 0, .int .i64 0, .slice none 0 0] 50 (0, 0))) := ⟨by rw [← hq_]; exact (by (with_reducible repeat first | refine bkN ?_ _ | refine bkD ?_ | refine bkA ?_ _); exact BK242.out)⟩; have n4_ : Aside0 (w196.heap[gb251]? = some (.cells #[.int .i64 t244, .int .i64 t245, .int .i64 t246, .int .i64 t247, .slice Ao21 t248.length co21] 50 (0, 0))) := ⟨by rw [← hq_]; exact (by (with_reducible repeat first | refine bkN ?_ _ | refine bkD ?_ | refine bkA ?_ _); exact BK251.out)⟩; have n5_ : Aside0 (w196.heap[gb253]? = some (.cells #[.int .i64 a1_0, .int .i64 a1_1, .int .i64 a1_2, .int .i64 a1_3, .string a1_4] 96 (0, 0))) := ⟨by rw [← hq_]; exact (by (with_reducible repeat first | refine bkN ?_ _ | refine bkD ?_ | refine bkA ?_ _); exact BK253.out)⟩; have n6_ : Aside0 (Below w.heap.size w w196) := ⟨by rw [← hq_]; exact (be HB)⟩; clear HO250 BK240 BK241 BK242 BK251 BK253 HB hq_; have HO250 := n0_; have BK240 := n1_; have BK241 := n2_; have BK242 := n3_; have BK251 := n4_; have BK253 := n5_; have HB := n6_; clear n0_ n1_ n2_ n3_ n4_ n5_ n6_))
          have n0_ := Aside0.mk (Kd.R_drew HO250.out)
          have n1_ := Aside0.mk (blk_drew BK240.out)
          have n2_ := Aside0.mk (blk_drew BK241.out)
          have n3_ := Aside0.mk (blk_drew BK242.out)
          have n4_ := Aside0.mk (blk_drew BK251.out)
          have n5_ := Aside0.mk (blk_drew BK253.out)
          have n6_ := Aside0.mk (below_drew1 HB.out)
          clear HO250 BK240 BK241 BK242 BK251 BK253 HB; have HO250 := n0_; have BK240 := n1_; have BK241 := n2_; have BK242 := n3_; have BK251 := n4_; have BK253 := n5_; have HB := n6_; clear n0_ n1_ n2_ n3_ n4_ n5_ n6_; have q198 : ((ji180) : Int) ≤ ((t248.length : Int) : Int) := of_decide_eq_true (by first | (with_reducible assumption) | assumption)
          obtain ⟨i0198, hi0198, _, hsz198, _⟩ := info_parts info146
          have hcut198 := cut_to (P := Try.prog) 48 146 .i64 Try.underlying48 hi0198 Ao21 t248.length co21 (ji180) (of_decide_eq_true (by first | (with_reducible assumption) | assumption)) q198 (Kd.R_reads' HO250.out).2.1
          have hr198 := Kd.R_take (m := ((ji180) : Int).toNat) HO250.out (by omega)
          have hy198 : y262.length = ((ji180) : Int).toNat := (by rw [Ny262.out, List.length_take]; omega)
          rw [← Ny262.out] at hr198
          rw [← hy198] at hr198 hcut198
          clear hy198 hi0198 hsz198 HO250; have HO264 := Aside0.mk hr198
          clear hr198; replace q198 := eq_true q198
          refine start_ (n := 17) (S := fun w' => w'.cell? ⟨gb251, 0, none⟩ = some (.int .i64 t244) ∧ w'.cell? ⟨gb251, 1, none⟩ = some (.int .i64 t245) ∧ w'.cell? ⟨gb251, 2, none⟩ = some (.int .i64 t246) ∧ w'.cell? ⟨gb251, 3, none⟩ = some (.int .i64 t247) ∧ w'.cell? ⟨gb251, 4, none⟩ = some (.slice Ao21 t248.length co21) ∧ w'.cell? ⟨gb253, 0, none⟩ = some (.int .i64 a1_0) ∧ w'.cell? ⟨gb253, 1, none⟩ = some (.int .i64 a1_1) ∧ w'.cell? ⟨gb253, 2, none⟩ = some (.int .i64 a1_2) ∧ w'.cell? ⟨gb253, 3, none⟩ = some (.int .i64 a1_3) ∧ w'.cell? ⟨gb253, 4, none⟩ = some (.string a1_4)) (ds := [16]) #[ff,ff,ff,ff,ff,ff,ff,ff,ff,ff,ff,ff,ff,ff,ff,ff,ff] (by kernel_rfl) rfl rfl ⟨bc BK251 0, bc BK251 1, bc BK251 2, bc BK251 3, bc BK251 4, bc BK253 0, bc BK253 1, bc BK253 2, bc BK253 3, bc BK253 4⟩ (fun hHeld => ?_); refine with_tabW impl_WalStep.tab1015 impl_WalStep.bits1015 (fun HT_ HW_ => ?_)
          generalize w196.drew = w197 at BK240 BK241 BK242 BK251 BK253 HB HO264 hHeld ⊢
          refine pu 0 112 (tb 17 1) HT_ ?_
          refine pu 1 113 (tb 17 3) HT_ ?_
          refine pu 2 114 (tb 17 7) HT_ ?_
          refine pu 3 115 (tb 17 15) HT_ ?_
          refine pu 5 117 (tb 17 47) HT_ ?_
          refine pu 7 119 (tb 17 175) HT_ ?_
          refine pu 8 120 (tb 17 431) HT_ ?_
          refine pu 9 121 (tb 17 943) HT_ ?_
          refine tk 4 116 (tb 17 959) rfl rfl HT_ HW_ hHeld (by rintro w' ⟨s0, s1, s2, s3, s4, s5, s6, s7, s8, s9⟩; go_simp; with_reducible rfl) ?_
          refine tk 6 118 (tb 17 1023) rfl rfl HT_ HW_ hHeld (by rintro w' ⟨s0, s1, s2, s3, s4, s5, s6, s7, s8, s9⟩; go_simp; with_reducible rfl) ?_
          refine tk 10 122 (tb 17 2047) rfl rfl HT_ HW_ hHeld (by rintro w' ⟨s0, s1, s2, s3, s4, s5, s6, s7, s8, s9⟩; go_simp; with_reducible rfl) ?_
          refine pu 11 123 (tb 17 4095) HT_ ?_
          refine pu 12 124 (tb 17 8191) HT_ ?_
          refine pu 13 125 (tb 17 16383) HT_ ?_
          refine pu 14 126 (tb 17 32767) HT_ ?_
          refine pu 15 127 (tb 17 65535) HT_ ?_
          refine last_ (i := 16) (N := none) #[tt,tt,tt,tt,tt,tt,tt,tt,tt,tt,tt,tt,tt,tt,tt,tt,tt] rfl rfl (one_of HT_.out (by kernel_rfl)) (by decide) (fun K hK => ?_)
          have hs199 : w197.cell? ⟨gb251, 4, none⟩ = some (.slice Ao21 t248.length co21) := bc BK251 4
          have hfs199 := blk_frozen BK251.out 4; have hns199_0 := NB240_251.out; have hns199_1 := NB241_251.out; have hns199_2 := NB242_251.out; have hns199_4 := NB253_251.out; have hms199_0 := NB251_240.out; have hms199_1 := NB251_241.out; have hms199_2 := NB251_242.out; have hms199_4 := NB251_253.out; refine skip_ (w1 := ?_) (by rfl) rfl ?_ ?_
          rotate_left
          ·go_simp; rfl
          refine hK.out _ _ ?_
          clear hK K; refine done_ (done_of HT_.out (by kernel_rfl)) ?_
          go_wp2
          go_meet
          case rel => exact ⟨_, (!true), (t244), (t245), (t246), (t247), (y262), (.slice Ao21 y262.length co21), (by first | rfl | (simp; done) | (simp [*]; done)), H', ⟨by first | omega | exact Nat.le_refl _⟩, ⟨by (with_reducible repeat (first | apply Kd.R_alloc | apply Kd.R_drewN | apply Kd.R_drew)); exact Kd.R_mono (Kd.R_far (p := ⟨gb251, 4, none⟩) (Kd.R_types HO264.out BK251.out (by decide)) (fun _ hk => hk.2) (.slice Ao21 y262.length co21)) (fun _ hk => trivial)⟩, ⟨by (with_reducible repeat first | refine bkN ?_ _ | refine bkD ?_ | refine bkA ?_ _ | refine blk_far ?_ NB240_251.out _); exact BK240.out⟩, ⟨by (with_reducible repeat first | refine bkN ?_ _ | refine bkD ?_ | refine bkA ?_ _ | refine blk_far ?_ NB241_251.out _); exact BK241.out⟩, ⟨by (with_reducible repeat first | refine bkN ?_ _ | refine bkD ?_ | refine bkA ?_ _ | refine blk_far ?_ NB242_251.out _); exact BK242.out⟩, ⟨by (with_reducible repeat first | refine bkN ?_ _ | refine bkD ?_ | refine bkA ?_ _); refine blk_put (cs := #[.int .i64 t244, .int .i64 t245, .int .i64 t246, .int .i64 t247, .slice Ao21 t248.length co21]) ?_ 4 _ rfl; (with_reducible repeat first | refine bkN ?_ _ | refine bkD ?_ | refine bkA ?_ _); exact BK251.out⟩, ⟨by repeat (first | (with_reducible first | exact HB.out | apply below_alloc | apply pw_below_drewN | apply below_drew1 | refine below_set ?_ GE240.out | refine below_set ?_ GE241.out | refine below_set ?_ GE242.out | refine below_set ?_ GE251.out | refine below_set ?_ GE253.out) | exact HB.out)⟩⟩
         ·rw [if_neg c182] at H
          exact absurd H (by simp)
        ·rw [if_neg c181] at H
         exact absurd H (by simp)
       ·replace c179 := Bool.eq_false_iff.mpr c179
        subst c179
        have H1 : (impl_WalStep.j0 k (!false) a0_0 a0_1 a0_2 a0_3 l0_4 t244 t245 t246 t247 t248) = some (r1, r2, r3, r4, r5, r6) := by rw [if_neg (show ¬ (false = true) by decide)] at H; exact H
        clear H; have H := H1
        clear H1; have H' := Aside0.mk H
        clear H; have hnb200 := NB241_240.out; have hnc200 := NB240_241.out; have hnb201 := NB241_242.out; have hnc201 := NB242_241.out; have hnb202 := NB241_251.out; have hnc202 := NB251_241.out; obtain ⟨hcz203_0, hcz203_1, hcz203_2, hcz203_3, hcz203_4⟩ := cs5 BK241; obtain ⟨hfz203_0, hfz203_1, hfz203_2, hfz203_3, hfz203_4⟩ := fs5 BK241
        go_wp2_with (first | ((with_reducible refine gate_callee (f := 146) rfl ?_); refine goesL_ (some 14) rfl rfl Try.func146 (by kernel_rfl) rfl #[.agg #[.int .i64 a1_0, .int .i64 a1_1, .int .i64 a1_2, .int .i64 a1_3, .string a1_4]] rfl (by (try simp only [List.map_toArray, List.map_cons, List.map_nil]); first | done | rfl | (simp only [List.length_drop, List.length_take]; rfl)) ?_; (with_reducible refine (impl_RecOk.calls a1_0 a1_1 a1_2 a1_3 a1_4 true _ A22.out).mono ?_); rintro e w204 ⟨rfl, hb⟩; refine ⟨_, rfl, ?_⟩; have n0_ := Aside0.mk (Kd.R_below (by (with_reducible repeat (first | apply Kd.R_alloc | apply Kd.R_drewN | apply Kd.R_drew)); exact (Kd.R_mono (Kd.R_far (p := ⟨gb251, 4, none⟩) (Kd.R_far (p := ⟨gb251, 3, none⟩) (Kd.R_far (p := ⟨gb251, 2, none⟩) (Kd.R_far (p := ⟨gb251, 1, none⟩) (Kd.R_far (p := ⟨gb251, 0, none⟩) (Kd.R_types HO250.out BK251.out (by decide)) (fun _ hk => hk.2) (.int .i64 t244)) (fun _ hk => hk.2) (.int .i64 t245)) (fun _ hk => hk.2) (.int .i64 t246)) (fun _ hk => hk.2) (.int .i64 t247)) (fun _ hk => hk.2) (.slice Ao21 t248.length co21)) (fun _ h_ => h_.1))) hb); have n1_ := bf BK240 hb; have n2_ := bf BK241 hb; have n3_ := bf BK242 hb; have n4_ := bp #[.int .i64 t244, .int .i64 t245, .int .i64 t246, .int .i64 t247, .slice Ao21 t248.length co21] BK251 hb; replace HB := bh HB hb; clear HO250 BK240 BK241 BK242 BK251; have HO250 := n0_; have BK240 := n1_; have BK241 := n2_; have BK242 := n3_; have BK251 := n4_; clear n0_ n1_ n2_ n3_ n4_; (try clear hb); (try clear hb2); (try clear hk); (try clear hi); obtain ⟨hcz205_0, hcz205_1, hcz205_2, hcz205_3, hcz205_4⟩ := cs5 BK241; obtain ⟨hfz205_0, hfz205_1, hfz205_2, hfz205_3, hfz205_4⟩ := fs5 BK241) | ((with_reducible refine gate_dst (N := 3) rfl ?_); refine box_event ?hg (N := 3) ?hd (cs := #[.int .i64 a1_0, .int .i64 a1_1, .int .i64 a1_2, .int .i64 a1_3, .string a1_4]) (t := 96) ?hr ?_; (case hd => rfl); (case hg => rfl); (case hr => first | (go_simp; done) | (go_simp; rfl)); intro gb253 hg w206 hbox hb; have BK253 := Aside0.mk (hbox); have GW253 := bs HB hg; have GE253 := bs HB hg; have NB240_253 := bl BK240 hg; have NB253_240 := bg BK240 hg; have NB241_253 := bl BK241 hg; have NB253_241 := bg BK241 hg; have NB242_253 := bl BK242 hg; have NB253_242 := bg BK242 hg; have NB251_253 := bl BK251 hg; have NB253_251 := bg BK251 hg; replace HO250 := Aside0.mk (Kd.R_below (rr HO250) hb); replace BK240 := bq BK240 hb; replace BK241 := bq BK241 hb; replace BK242 := bq BK242 hb; replace BK251 := bq BK251 hb; replace HB := bh HB hb; clear hb hbox hg; have hnb207 := NB253_240.out; have hnc207 := NB240_253.out; have hnb208 := NB253_241.out; have hnc208 := NB241_253.out; have hnb209 := NB253_242.out; have hnc209 := NB242_253.out; have hnb210 := NB253_251.out; have hnc210 := NB251_253.out; obtain ⟨hcz211_0, hcz211_1, hcz211_2, hcz211_3, hcz211_4⟩ := cs5 BK253; obtain ⟨hfz211_0, hfz211_1, hfz211_2, hfz211_3, hfz211_4⟩ := fs5 BK253) | (go_at_call 81; go_in))
        have n0_ := Aside0.mk (Kd.R_drew HO250.out)
        have n1_ := Aside0.mk (blk_drew BK240.out)
        have n2_ := Aside0.mk (blk_drew BK241.out)
        have n3_ := Aside0.mk (blk_drew BK242.out)
        have n4_ := Aside0.mk (blk_drew BK251.out)
        have n5_ := Aside0.mk (blk_drew BK253.out)
        have n6_ := Aside0.mk (below_drew1 HB.out)
        clear HO250 BK240 BK241 BK242 BK251 BK253 HB; have HO250 := n0_; have BK240 := n1_; have BK241 := n2_; have BK242 := n3_; have BK251 := n4_; have BK253 := n5_; have HB := n6_; clear n0_ n1_ n2_ n3_ n4_ n5_ n6_; refine start_ (n := 13) (S := fun w' => w'.cell? ⟨gb253, 0, none⟩ = some (.int .i64 a1_0) ∧ w'.cell? ⟨gb253, 1, none⟩ = some (.int .i64 a1_1) ∧ w'.cell? ⟨gb253, 2, none⟩ = some (.int .i64 a1_2) ∧ w'.cell? ⟨gb253, 3, none⟩ = some (.int .i64 a1_3) ∧ w'.cell? ⟨gb253, 4, none⟩ = some (.string a1_4) ∧ w'.cell? ⟨gb251, 0, none⟩ = some (.int .i64 t244) ∧ w'.cell? ⟨gb251, 1, none⟩ = some (.int .i64 t245) ∧ w'.cell? ⟨gb251, 2, none⟩ = some (.int .i64 t246) ∧ w'.cell? ⟨gb251, 3, none⟩ = some (.int .i64 t247) ∧ w'.cell? ⟨gb251, 4, none⟩ = some (.slice Ao21 t248.length co21)) (ds := []) #[ff,ff,ff,ff,ff,ff,ff,ff,ff,ff,ff,ff,ff] (by kernel_rfl) rfl rfl ⟨bc BK253 0, bc BK253 1, bc BK253 2, bc BK253 3, bc BK253 4, bc BK251 0, bc BK251 1, bc BK251 2, bc BK251 3, bc BK251 4⟩ (fun hHeld => ?_); refine with_tabW impl_WalStep.tab1013 impl_WalStep.bits1013 (fun HT_ HW_ => ?_)
        generalize w206.drew = w212 at HO250 BK240 BK241 BK242 BK251 BK253 HB hHeld ⊢
        refine pu 0 99 (tb 13 1) HT_ ?_
        refine pu 2 101 (tb 13 5) HT_ ?_
        refine pu 3 102 (tb 13 13) HT_ ?_
        refine pu 4 103 (tb 13 29) HT_ ?_
        refine pu 7 106 (tb 13 157) HT_ ?_
        refine pu 8 107 (tb 13 413) HT_ ?_
        refine tk 1 100 (tb 13 415) rfl rfl HT_ HW_ hHeld (by rintro w' ⟨s0, s1, s2, s3, s4, s5, s6, s7, s8, s9⟩; go_simp; with_reducible rfl) ?_
        refine tk 5 104 (tb 13 447) rfl rfl HT_ HW_ hHeld (by rintro w' ⟨s0, s1, s2, s3, s4, s5, s6, s7, s8, s9⟩; go_simp; with_reducible rfl) ?_
        refine pu 6 105 (tb 13 511) HT_ ?_
        refine tk 9 108 (tb 13 1023) rfl rfl HT_ HW_ hHeld (by rintro w' ⟨s0, s1, s2, s3, s4, s5, s6, s7, s8, s9⟩; go_simp; with_reducible rfl) ?_
        refine one_ (i := 10) (N := some 109) #[tt,tt,tt,tt,tt,tt,tt,tt,tt,tt,tt,ff,ff] rfl rfl (one_of HT_.out (by kernel_rfl)) (by decide) (fun K hK => ?_)
        refine goes_ Try.func124 (by kernel_rfl) rfl #[.agg #[.int .i64 t244, .int .i64 t245, .int .i64 t246, .int .i64 t247, .slice Ao21 t248.length co21]] (by rfl) rfl rfl (by (try simp only [List.map_toArray, List.map_cons, List.map_nil]); first | done | rfl | (simp only [List.length_drop, List.length_take]; rfl)) ?_
        with_reducible refine (impl_Wal_end.calls t244 t245 t246 t247 _ _ t248 t260 _ ?side1 ?side2 A177.out).mono ?_
        (case side1 => repeat (first | exact (Kd.R_reads' HO250.out).2.2 | (with_reducible refine Kd.C_alloc ?_ _) | (with_reducible refine Kd.C_drewN ?_ _) | (with_reducible refine Kd.C_drew ?_)))
        (case side2 => exact (Kd.R_reads' HO250.out).2.1)
        rintro e w213 ⟨rfl, hb⟩
        refine ⟨_, rfl, ?_⟩
        replace HO250 := Aside0.mk (Kd.R_below (rr HO250) hb); replace BK240 := bq BK240 hb; replace BK241 := bq BK241 hb; replace BK242 := bq BK242 hb; replace BK251 := bq BK251 hb; replace BK253 := bq BK253 hb; replace HB := bh HB hb
        (try clear hb); (try clear hb2); (try clear hk); (try clear hi); refine hK.out _ _ ⟨bc BK253 0, bc BK253 1, bc BK253 2, bc BK253 3, bc BK253 4, bc BK251 0, bc BK251 1, bc BK251 2, bc BK251 3, bc BK251 4⟩ (fun hHeld => ?_)
        clear hK K; refine norm_ (a' := ?_) ?_ ?_
        rotate_left
        ·show Act.put _ (some 109) _ = _
         simp only [putL, i64_w, i32_w]; rfl
        refine one_ (i := 11) (N := some 110) #[tt,tt,tt,tt,tt,tt,tt,tt,tt,tt,tt,tt,ff] rfl rfl (one_of HT_.out (by kernel_rfl)) (by decide) (fun K hK => ?_)
        refine goes_ Try.func51 (by kernel_rfl) rfl #[.int .i64 a1_2, .int .i64 (wrap64 (t246 + 1)), .int .i64 t260] (by rfl) rfl rfl (by (try simp only [List.map_toArray, List.map_cons, List.map_nil]); first | done | rfl | (simp only [List.length_drop, List.length_take]; rfl)) ?_
        with_reducible refine (impl_within.calls a1_2 (wrap64 (t246 + 1)) t260 false _ A178.out).mono ?_
        rintro e w' ⟨rfl, ⟨nd, rfl⟩⟩
        refine ⟨_, rfl, ?_⟩
        refine hK.out _ _ ⟨bc BK253 0, bc BK253 1, bc BK253 2, bc BK253 3, bc BK253 4, bc BK251 0, bc BK251 1, bc BK251 2, bc BK251 3, bc BK251 4⟩ (fun hHeld => ?_)
        clear hK K; refine norm_ (a' := ?_) ?_ ?_
        rotate_left
        ·show Act.put _ (some 110) _ = _
         simp only [putL, i64_w, i32_w]; rfl
        refine pu 12 111 (tb 13 8191) HT_ ?_
        refine done_ (done_of HT_.out (by kernel_rfl)) ?_
        go_wp2
        go_meet
        case rel => exact ⟨_, (!false), (t244), (t245), (t246), (t247), (t248), (.slice Ao21 t248.length co21), (by first | rfl | (simp; done) | (simp [*]; done)), H', ⟨by first | omega | exact Nat.le_refl _⟩, ⟨rr HO250⟩, ⟨bb BK240⟩, ⟨bb BK241⟩, ⟨bb BK242⟩, ⟨bb BK251⟩, ⟨by repeat (first | (with_reducible first | exact HB.out | apply below_alloc | apply pw_below_drewN | apply below_drew1 | refine below_set ?_ GE240.out | refine below_set ?_ GE241.out | refine below_set ?_ GE242.out | refine below_set ?_ GE251.out | refine below_set ?_ GE253.out) | exact HB.out)⟩⟩
      ·rw [if_neg c176] at H
       have c176b0 : (a1_0 == 3) = false := beq_eq_false_iff_ne.mpr c176
       have c176b1 : (a1_0 != 3) = true := bne_iff_ne.mpr c176
       have H' := Aside0.mk H
       clear H; have hnb214 := NB241_240.out; have hnc214 := NB240_241.out; have hnb215 := NB241_242.out; have hnc215 := NB242_241.out; have hnb216 := NB241_251.out; have hnc216 := NB251_241.out; obtain ⟨hcz217_0, hcz217_1, hcz217_2, hcz217_3, hcz217_4⟩ := cs5 BK241; obtain ⟨hfz217_0, hfz217_1, hfz217_2, hfz217_3, hfz217_4⟩ := fs5 BK241
       go_wp2_with (first | ((with_reducible refine gate_callee (f := 146) rfl ?_); refine goesL_ (some 14) rfl rfl Try.func146 (by kernel_rfl) rfl #[.agg #[.int .i64 a1_0, .int .i64 a1_1, .int .i64 a1_2, .int .i64 a1_3, .string a1_4]] rfl (by (try simp only [List.map_toArray, List.map_cons, List.map_nil]); first | done | rfl | (simp only [List.length_drop, List.length_take]; rfl)) ?_; (with_reducible refine (impl_RecOk.calls a1_0 a1_1 a1_2 a1_3 a1_4 true _ A22.out).mono ?_); rintro e w218 ⟨rfl, hb⟩; refine ⟨_, rfl, ?_⟩; have n0_ := Aside0.mk (Kd.R_below (by (with_reducible repeat (first | apply Kd.R_alloc | apply Kd.R_drewN | apply Kd.R_drew)); exact (Kd.R_mono (Kd.R_far (p := ⟨gb251, 4, none⟩) (Kd.R_far (p := ⟨gb251, 3, none⟩) (Kd.R_far (p := ⟨gb251, 2, none⟩) (Kd.R_far (p := ⟨gb251, 1, none⟩) (Kd.R_far (p := ⟨gb251, 0, none⟩) (Kd.R_types HO250.out BK251.out (by decide)) (fun _ hk => hk.2) (.int .i64 t244)) (fun _ hk => hk.2) (.int .i64 t245)) (fun _ hk => hk.2) (.int .i64 t246)) (fun _ hk => hk.2) (.int .i64 t247)) (fun _ hk => hk.2) (.slice Ao21 t248.length co21)) (fun _ h_ => h_.1))) hb); have n1_ := bf BK240 hb; have n2_ := bf BK241 hb; have n3_ := bf BK242 hb; have n4_ := bp #[.int .i64 t244, .int .i64 t245, .int .i64 t246, .int .i64 t247, .slice Ao21 t248.length co21] BK251 hb; replace HB := bh HB hb; clear HO250 BK240 BK241 BK242 BK251; have HO250 := n0_; have BK240 := n1_; have BK241 := n2_; have BK242 := n3_; have BK251 := n4_; clear n0_ n1_ n2_ n3_ n4_; (try clear hb); (try clear hb2); (try clear hk); (try clear hi); obtain ⟨hcz219_0, hcz219_1, hcz219_2, hcz219_3, hcz219_4⟩ := cs5 BK241; obtain ⟨hfz219_0, hfz219_1, hfz219_2, hfz219_3, hfz219_4⟩ := fs5 BK241) | ((with_reducible refine gate_dst (N := 3) rfl ?_); refine box_event ?hg (N := 3) ?hd (cs := #[.int .i64 a1_0, .int .i64 a1_1, .int .i64 a1_2, .int .i64 a1_3, .string a1_4]) (t := 96) ?hr ?_; (case hd => rfl); (case hg => rfl); (case hr => first | (go_simp; done) | (go_simp; rfl)); intro gb253 hg w220 hbox hb; have BK253 := Aside0.mk (hbox); have GW253 := bs HB hg; have GE253 := bs HB hg; have NB240_253 := bl BK240 hg; have NB253_240 := bg BK240 hg; have NB241_253 := bl BK241 hg; have NB253_241 := bg BK241 hg; have NB242_253 := bl BK242 hg; have NB253_242 := bg BK242 hg; have NB251_253 := bl BK251 hg; have NB253_251 := bg BK251 hg; replace HO250 := Aside0.mk (Kd.R_below (rr HO250) hb); replace BK240 := bq BK240 hb; replace BK241 := bq BK241 hb; replace BK242 := bq BK242 hb; replace BK251 := bq BK251 hb; replace HB := bh HB hb; clear hb hbox hg; have hnb221 := NB253_240.out; have hnc221 := NB240_253.out; have hnb222 := NB253_241.out; have hnc222 := NB241_253.out; have hnb223 := NB253_242.out; have hnc223 := NB242_253.out; have hnb224 := NB253_251.out; have hnc224 := NB251_253.out; obtain ⟨hcz225_0, hcz225_1, hcz225_2, hcz225_3, hcz225_4⟩ := cs5 BK253; obtain ⟨hfz225_0, hfz225_1, hfz225_2, hfz225_3, hfz225_4⟩ := fs5 BK253) | (go_at_call 81; go_in))
       go_meet
       case rel => exact ⟨_, (!false), (t244), (t245), (t246), (t247), (t248), (.slice Ao21 t248.length co21), (by first | rfl | (simp; done) | (simp [*]; done)), H', ⟨by first | omega | exact Nat.le_refl _⟩, ⟨rr HO250⟩, ⟨bb BK240⟩, ⟨bb BK241⟩, ⟨bb BK242⟩, ⟨bb BK251⟩, ⟨by repeat (first | (with_reducible first | exact HB.out | apply below_alloc | apply pw_below_drewN | apply below_drew1 | refine below_set ?_ GE240.out | refine below_set ?_ GE241.out | refine below_set ?_ GE242.out | refine below_set ?_ GE251.out | refine below_set ?_ GE253.out) | exact HB.out)⟩⟩
   ·replace c23 := Bool.eq_false_iff.mpr c23
    subst c23
    have H1 : (impl_WalStep.j0 k true a0_0 a0_1 a0_2 a0_3 l0_4 t244 t245 t246 t247 t248) = some (r1, r2, r3, r4, r5, r6) := by rw [if_neg (show ¬ (false = true) by decide)] at H; exact H
    clear H; have H := H1
    clear H1; have H' := Aside0.mk H
    clear H; have hnb226 := NB241_240.out; have hnc226 := NB240_241.out; have hnb227 := NB241_242.out; have hnc227 := NB242_241.out; have hnb228 := NB241_251.out; have hnc228 := NB251_241.out; obtain ⟨hcz229_0, hcz229_1, hcz229_2, hcz229_3, hcz229_4⟩ := cs5 BK241; obtain ⟨hfz229_0, hfz229_1, hfz229_2, hfz229_3, hfz229_4⟩ := fs5 BK241
    go_wp2_with (first | ((with_reducible refine gate_callee (f := 146) rfl ?_); refine goesL_ (some 14) rfl rfl Try.func146 (by kernel_rfl) rfl #[.agg #[.int .i64 a1_0, .int .i64 a1_1, .int .i64 a1_2, .int .i64 a1_3, .string a1_4]] rfl (by (try simp only [List.map_toArray, List.map_cons, List.map_nil]); first | done | rfl | (simp only [List.length_drop, List.length_take]; rfl)) ?_; (with_reducible refine (impl_RecOk.calls a1_0 a1_1 a1_2 a1_3 a1_4 false _ A22.out).mono ?_); rintro e w230 ⟨rfl, hb⟩; refine ⟨_, rfl, ?_⟩; have n0_ := Aside0.mk (Kd.R_below (by (with_reducible repeat (first | apply Kd.R_alloc | apply Kd.R_drewN | apply Kd.R_drew)); exact (Kd.R_mono (Kd.R_far (p := ⟨gb251, 4, none⟩) (Kd.R_far (p := ⟨gb251, 3, none⟩) (Kd.R_far (p := ⟨gb251, 2, none⟩) (Kd.R_far (p := ⟨gb251, 1, none⟩) (Kd.R_far (p := ⟨gb251, 0, none⟩) (Kd.R_types HO250.out BK251.out (by decide)) (fun _ hk => hk.2) (.int .i64 t244)) (fun _ hk => hk.2) (.int .i64 t245)) (fun _ hk => hk.2) (.int .i64 t246)) (fun _ hk => hk.2) (.int .i64 t247)) (fun _ hk => hk.2) (.slice Ao21 t248.length co21)) (fun _ h_ => h_.1))) hb); have n1_ := bf BK240 hb; have n2_ := bf BK241 hb; have n3_ := bf BK242 hb; have n4_ := bp #[.int .i64 t244, .int .i64 t245, .int .i64 t246, .int .i64 t247, .slice Ao21 t248.length co21] BK251 hb; replace HB := bh HB hb; clear HO250 BK240 BK241 BK242 BK251; have HO250 := n0_; have BK240 := n1_; have BK241 := n2_; have BK242 := n3_; have BK251 := n4_; clear n0_ n1_ n2_ n3_ n4_; (try clear hb); (try clear hb2); (try clear hk); (try clear hi)) | (go_at_call 81; go_in))
    go_meet
    case rel => exact ⟨_, (true), (t244), (t245), (t246), (t247), (t248), (.slice Ao21 t248.length co21), (by first | rfl | (simp; done) | (simp [*]; done)), H', ⟨by first | omega | exact Nat.le_refl _⟩, ⟨rr HO250⟩, ⟨bb BK240⟩, ⟨bb BK241⟩, ⟨bb BK242⟩, ⟨bb BK251⟩, ⟨by repeat (first | (with_reducible first | exact HB.out | apply below_alloc | apply pw_below_drewN | apply below_drew1 | refine below_set ?_ GE240.out | refine below_set ?_ GE241.out | refine below_set ?_ GE242.out | refine below_set ?_ GE251.out) | exact HB.out)⟩⟩
  case rest =>
   clear HC6; obtain ⟨kq, x20_5, x252000_5, x252001_5, x252002_5, x252003_5, x252004_5, u252004, rfl, HA, HJ5, HO_252004, BK240, BK241, BK242, BK251, HB⟩ := hcut
   cases kq with
   | zero => exact absurd HA.out (by simp [impl_WalStep.j0])
   | succ kj5 =>
    have H := HA.out; clear HA; simp only [impl_WalStep.j0] at H
    by_cases c231 : x20_5 = true
    ·subst c231
     have H1 : ((impl_copyWal.f a0_0 a0_1 a0_2 a0_3 l0_4).bind fun bt265 => (some (bt265.1, bt265.2.1, bt265.2.2.1, bt265.2.2.2.1, bt265.2.2.2.2, false))) = some (r1, r2, r3, r4, r5, r6) := by rw [if_pos rfl] at H; exact H
     clear H; have H := H1
     clear H1; replace H := Option.bind_eq_some_iff.mp H
     obtain ⟨⟨t265, t266, t267, t268, t269⟩, A2320, H⟩ := H
     replace H : (some (t265, t266, t267, t268, t269, false)) = some (r1, r2, r3, r4, r5, r6) := H
     have A232 := Aside0.mk A2320
     clear A2320; simp only [Option.some.injEq, Prod.mk.injEq] at H
     obtain ⟨rfl, rfl, rfl, rfl, rfl, rfl⟩ := H
     have hnb233 := NB240_241.out; have hnc233 := NB241_240.out; have hnb234 := NB240_242.out; have hnc234 := NB242_240.out; have hnb235 := NB240_251.out; have hnc235 := NB251_240.out; obtain ⟨hcz236_0, hcz236_1, hcz236_2, hcz236_3, hcz236_4⟩ := cs5 BK240; obtain ⟨hfz236_0, hfz236_1, hfz236_2, hfz236_3, hfz236_4⟩ := fs5 BK240
     go_wp2_with (first | ((with_reducible refine gate_callee (f := 145) rfl ?_); refine goesL_ (some 22) rfl rfl Try.func145 (by kernel_rfl) rfl #[.agg #[.int .i64 a0_0, .int .i64 a0_1, .int .i64 a0_2, .int .i64 a0_3, .slice A0_4 l0_4.length c0_4]] rfl (by (try simp only [List.map_toArray, List.map_cons, List.map_nil]); first | done | rfl | (simp only [List.length_drop, List.length_take]; rfl)) ?_; (with_reducible refine (impl_copyWal.calls a0_0 a0_1 a0_2 a0_3 _ _ l0_4 t265 t266 t267 t268 t269 _ ?side1 ?side2 A232.out).mono ?_); (case side1 => repeat (first | exact (Kd.C_below HR0_4.out HB.out) | (with_reducible refine Kd.C_alloc ?_ _) | (with_reducible refine Kd.C_drewN ?_ _) | (with_reducible refine Kd.C_drew ?_))); (case side2 => exact HC0_4.out); rintro e w237 ⟨v270, rfl, ho0, hb⟩; refine ⟨_, rfl, ?_⟩; have n0_ := Aside0.mk (Kd.R_elder' (rr HO_252004) (Kd.R_base ho0) hb); have HO271 := Aside0.mk (Kd.R_lower (Kd.R_new' ho0 (Kd.R_lt (rr HO_252004))) (below_size (be HB))); replace BK240 := bq BK240 hb; replace BK241 := bq BK241 hb; replace BK242 := bq BK242 hb; replace BK251 := bq BK251 hb; replace HB := bh HB hb; clear HO_252004; have HO_252004 := n0_; clear n0_; (try clear hb); (try clear hb2); (try clear hk); (try clear hi); have hnb238 := NB242_241.out; have hnc238 := NB241_242.out; have hnb239 := NB242_251.out; have hnc239 := NB251_242.out; obtain ⟨hcz240_0, hcz240_1, hcz240_2, hcz240_3, hcz240_4⟩ := cs5 BK242; obtain ⟨hfz240_0, hfz240_1, hfz240_2, hfz240_3, hfz240_4⟩ := fs5 BK242; obtain ⟨Ao241, co241, eo241⟩ := Kd.R_slice HO271.out; subst eo241) | (go_at_call 81; go_in))
     refine bodyPost_ret (results_ct rfl _ _ gb242 50 #[.int .i64 t265, .int .i64 t266, .int .i64 t267, .int .i64 t268, .slice Ao241 t269.length co241] (0, 0) _ rfl (by (with_reducible repeat first | refine bkN ?_ _ | refine bkD ?_ | refine bkA ?_ _); refine blk_put (cs := #[.int .i64 t265, .int .i64 t266, .int .i64 t267, .int .i64 t268, .slice none 0 0]) ?_ 4 _ rfl; (with_reducible repeat first | refine bkN ?_ _ | refine bkD ?_ | refine bkA ?_ _); refine blk_put (cs := #[.int .i64 t265, .int .i64 t266, .int .i64 t267, .int .i64 0, .slice none 0 0]) ?_ 3 _ rfl; (with_reducible repeat first | refine bkN ?_ _ | refine bkD ?_ | refine bkA ?_ _); refine blk_put (cs := #[.int .i64 t265, .int .i64 t266, .int .i64 0, .int .i64 0, .slice none 0 0]) ?_ 2 _ rfl; (with_reducible repeat first | refine bkN ?_ _ | refine bkD ?_ | refine bkA ?_ _); refine blk_put (cs := #[.int .i64 t265, .int .i64 0, .int .i64 0, .int .i64 0, .slice none 0 0]) ?_ 1 _ rfl; (with_reducible repeat first | refine bkN ?_ _ | refine bkD ?_ | refine bkA ?_ _); refine blk_put (cs := #[.int .i64 0, .int .i64 0, .int .i64 0, .int .i64 0, .slice none 0 0]) ?_ 0 _ rfl; (with_reducible repeat first | refine bkN ?_ _ | refine bkD ?_ | refine bkA ?_ _); exact BK242.out) Try.underlying50 rfl (by kernel_rfl)) rfl ?_
     exact ⟨_, by first | rfl | (simp [errW_none, errW_some] <;> rfl) | (simp [*, errW_none, errW_some] <;> rfl), by (with_reducible repeat (first | apply Kd.R_alloc | apply Kd.R_drewN | apply Kd.R_drew)); exact Kd.R_mono (Kd.R_far (p := ⟨gb242, 4, none⟩) (Kd.R_far (p := ⟨gb242, 3, none⟩) (Kd.R_far (p := ⟨gb242, 2, none⟩) (Kd.R_far (p := ⟨gb242, 1, none⟩) (Kd.R_far (p := ⟨gb242, 0, none⟩) (Kd.R_types HO271.out BK242.out (by decide)) (fun _ hk => hk.2) (.int .i64 t265)) (fun _ hk => hk.2) (.int .i64 t266)) (fun _ hk => hk.2) (.int .i64 t267)) (fun _ hk => hk.2) (.int .i64 t268)) (fun _ hk => hk.2) (.slice Ao241 t269.length co241)) (fun _ hk => trivial), by repeat (first | (with_reducible first | exact HB.out | apply below_alloc | apply pw_below_drewN | apply below_drew1 | refine below_set ?_ GE240.out | refine below_set ?_ GE241.out | refine below_set ?_ GE242.out | refine below_set ?_ GE251.out) | exact HB.out)⟩
    ·replace c231 := Bool.eq_false_iff.mpr c231
     subst c231
     have H1 : ((impl_copyWal.f x252000_5 x252001_5 x252002_5 x252003_5 x252004_5).bind fun bt272 => (some (bt272.1, bt272.2.1, bt272.2.2.1, bt272.2.2.2.1, bt272.2.2.2.2, true))) = some (r1, r2, r3, r4, r5, r6) := by rw [if_neg (show ¬ (false = true) by decide)] at H; exact H
     clear H; have H := H1
     clear H1; replace H := Option.bind_eq_some_iff.mp H
     obtain ⟨⟨t272, t273, t274, t275, t276⟩, A2420, H⟩ := H
     replace H : (some (t272, t273, t274, t275, t276, true)) = some (r1, r2, r3, r4, r5, r6) := H
     have A242 := Aside0.mk A2420
     clear A2420; simp only [Option.some.injEq, Prod.mk.injEq] at H
     obtain ⟨rfl, rfl, rfl, rfl, rfl, rfl⟩ := H
     have hnb243 := NB251_240.out; have hnc243 := NB240_251.out; have hnb244 := NB251_241.out; have hnc244 := NB241_251.out; have hnb245 := NB251_242.out; have hnc245 := NB242_251.out; obtain ⟨hcz246_0, hcz246_1, hcz246_2, hcz246_3, hcz246_4⟩ := cs5 BK251; obtain ⟨hfz246_0, hfz246_1, hfz246_2, hfz246_3, hfz246_4⟩ := fs5 BK251; obtain ⟨Ao247, co247, eo247⟩ := Kd.R_slice HO_252004.out
     subst eo247
     go_wp2_with (first | ((with_reducible refine gate_callee (f := 145) rfl ?_); refine goesL_ (some 24) rfl rfl Try.func145 (by kernel_rfl) rfl #[.agg #[.int .i64 x252000_5, .int .i64 x252001_5, .int .i64 x252002_5, .int .i64 x252003_5, .slice Ao247 x252004_5.length co247]] rfl (by (try simp only [List.map_toArray, List.map_cons, List.map_nil]); first | done | rfl | (simp only [List.length_drop, List.length_take]; rfl)) ?_; (with_reducible refine (impl_copyWal.calls x252000_5 x252001_5 x252002_5 x252003_5 _ _ x252004_5 t272 t273 t274 t275 t276 _ ?side1 ?side2 A242.out).mono ?_); (case side1 => repeat (first | exact (Kd.R_reads' HO_252004.out).2.2 | (with_reducible refine Kd.C_alloc ?_ _) | (with_reducible refine Kd.C_drewN ?_ _) | (with_reducible refine Kd.C_drew ?_))); (case side2 => exact (Kd.R_reads' HO_252004.out).2.1); rintro e w248 ⟨v277, rfl, ho0, hb⟩; refine ⟨_, rfl, ?_⟩; have n0_ := Aside0.mk (Kd.R_elder' (rr HO_252004) (Kd.R_base ho0) hb); have HO278 := Aside0.mk (Kd.R_lower (Kd.R_new' ho0 (Kd.R_lt (rr HO_252004))) (below_size (be HB))); replace BK240 := bq BK240 hb; replace BK241 := bq BK241 hb; replace BK242 := bq BK242 hb; replace BK251 := bq BK251 hb; replace HB := bh HB hb; clear HO_252004; have HO_252004 := n0_; clear n0_; (try clear hb); (try clear hb2); (try clear hk); (try clear hi); have hnb249 := NB242_240.out; have hnc249 := NB240_242.out; have hnb250 := NB242_241.out; have hnc250 := NB241_242.out; obtain ⟨hcz251_0, hcz251_1, hcz251_2, hcz251_3, hcz251_4⟩ := cs5 BK242; obtain ⟨hfz251_0, hfz251_1, hfz251_2, hfz251_3, hfz251_4⟩ := fs5 BK242; obtain ⟨Ao252, co252, eo252⟩ := Kd.R_slice HO278.out; subst eo252) | (go_at_call 81; go_in))
     refine bodyPost_ret (results_ct rfl _ _ gb242 50 #[.int .i64 t272, .int .i64 t273, .int .i64 t274, .int .i64 t275, .slice Ao252 t276.length co252] (0, 0) _ rfl (by (with_reducible repeat first | refine bkN ?_ _ | refine bkD ?_ | refine bkA ?_ _); refine blk_put (cs := #[.int .i64 t272, .int .i64 t273, .int .i64 t274, .int .i64 t275, .slice none 0 0]) ?_ 4 _ rfl; (with_reducible repeat first | refine bkN ?_ _ | refine bkD ?_ | refine bkA ?_ _); refine blk_put (cs := #[.int .i64 t272, .int .i64 t273, .int .i64 t274, .int .i64 0, .slice none 0 0]) ?_ 3 _ rfl; (with_reducible repeat first | refine bkN ?_ _ | refine bkD ?_ | refine bkA ?_ _); refine blk_put (cs := #[.int .i64 t272, .int .i64 t273, .int .i64 0, .int .i64 0, .slice none 0 0]) ?_ 2 _ rfl; (with_reducible repeat first | refine bkN ?_ _ | refine bkD ?_ | refine bkA ?_ _); refine blk_put (cs := #[.int .i64 t272, .int .i64 0, .int .i64 0, .int .i64 0, .slice none 0 0]) ?_ 1 _ rfl; (with_reducible repeat first | refine bkN ?_ _ | refine bkD ?_ | refine bkA ?_ _); refine blk_put (cs := #[.int .i64 0, .int .i64 0, .int .i64 0, .int .i64 0, .slice none 0 0]) ?_ 0 _ rfl; (with_reducible repeat first | refine bkN ?_ _ | refine bkD ?_ | refine bkA ?_ _); exact BK242.out) Try.underlying50 rfl (by kernel_rfl)) rfl ?_
     exact ⟨_, by first | rfl | (simp [errW_none, errW_some] <;> rfl) | (simp [*, errW_none, errW_some] <;> rfl), by (with_reducible repeat (first | apply Kd.R_alloc | apply Kd.R_drewN | apply Kd.R_drew)); exact Kd.R_mono (Kd.R_far (p := ⟨gb242, 4, none⟩) (Kd.R_far (p := ⟨gb242, 3, none⟩) (Kd.R_far (p := ⟨gb242, 2, none⟩) (Kd.R_far (p := ⟨gb242, 1, none⟩) (Kd.R_far (p := ⟨gb242, 0, none⟩) (Kd.R_types HO278.out BK242.out (by decide)) (fun _ hk => hk.2) (.int .i64 t272)) (fun _ hk => hk.2) (.int .i64 t273)) (fun _ hk => hk.2) (.int .i64 t274)) (fun _ hk => hk.2) (.int .i64 t275)) (fun _ hk => hk.2) (.slice Ao252 t276.length co252)) (fun _ hk => trivial), by repeat (first | (with_reducible first | exact HB.out | apply below_alloc | apply pw_below_drewN | apply below_drew1 | refine below_set ?_ GE240.out | refine below_set ?_ GE241.out | refine below_set ?_ GE242.out | refine below_set ?_ GE251.out) | exact HB.out)⟩
 ·replace c4 := Bool.eq_false_iff.mpr c4
  subst c4
  have H1 : (some (0, 0, 0, 0, ([] : List (S146)), false)) = some (r1, r2, r3, r4, r5, r6) := by rw [if_neg (show ¬ (false = true) by decide)] at H; exact H
  clear H; have H := H1
  clear H1; simp only [Option.some.injEq, Prod.mk.injEq] at H
  obtain ⟨rfl, rfl, rfl, rfl, rfl, rfl⟩ := H
  go_enter Try.func112, Try.ntmps112
  go_wp2_with (first | ((with_reducible refine gate_dst (N := 2) rfl ?_); refine box_event ?hg (N := 2) ?hd (cs := #[.int .i64 a0_0, .int .i64 a0_1, .int .i64 a0_2, .int .i64 a0_3, .slice A0_4 l0_4.length c0_4]) (t := 50) ?hr ?_; (case hd => rfl); (case hg => rfl); (case hr => first | (go_simp; done) | (go_simp; rfl)); intro gb240 hg w253 hbox hb; have BK240 := Aside0.mk (hbox); have GW240 := bs HB hg; have GE240 := bs HB hg; replace HB := bh HB hb; clear hb hbox hg) | ((with_reducible refine gate_dst (N := 3) rfl ?_); refine box_event ?hg (N := 3) ?hd (cs := #[.int .i64 a1_0, .int .i64 a1_1, .int .i64 a1_2, .int .i64 a1_3, .string a1_4]) (t := 96) ?hr ?_; (case hd => rfl); (case hg => rfl); (case hr => first | (go_simp; done) | (go_simp; rfl)); intro gb241 hg w254 hbox hb; have BK241 := Aside0.mk (hbox); have GW241 := bs HB hg; have GE241 := bs HB hg; have NB240_241 := bl BK240 hg; have NB241_240 := bg BK240 hg; replace BK240 := bq BK240 hb; replace HB := bh HB hb; clear hb hbox hg) | ((with_reducible refine gate_dst (N := 4) rfl ?_); refine box_event ?hg (N := 4) ?hd (cs := #[.int .i64 0, .int .i64 0, .int .i64 0, .int .i64 0, .slice none 0 0]) (t := 50) ?hr ?_; (case hd => rfl); (case hg => rfl); (case hr => first | (go_simp; done) | (go_simp; rfl)); intro gb242 hg w255 hbox hb; have BK242 := Aside0.mk (hbox); have GW242 := bs HB hg; have GE242 := bs HB hg; have NB240_242 := bl BK240 hg; have NB242_240 := bg BK240 hg; have NB241_242 := bl BK241 hg; have NB242_241 := bg BK241 hg; replace BK240 := bq BK240 hb; replace BK241 := bq BK241 hb; replace HB := bh HB hb; clear hb hbox hg; have hnb256 := NB240_241.out; have hnc256 := NB241_240.out; have hnb257 := NB240_242.out; have hnc257 := NB242_240.out; obtain ⟨hcz258_0, hcz258_1, hcz258_2, hcz258_3, hcz258_4⟩ := cs5 BK240; obtain ⟨hfz258_0, hfz258_1, hfz258_2, hfz258_3, hfz258_4⟩ := fs5 BK240) | ((with_reducible refine gate_callee (f := 111) rfl ?_); refine goesL_ (some 8) rfl rfl Try.func111 (by kernel_rfl) rfl #[.agg #[.int .i64 a0_0, .int .i64 a0_1, .int .i64 a0_2, .int .i64 a0_3, .slice A0_4 l0_4.length c0_4]] rfl (by (try simp only [List.map_toArray, List.map_cons, List.map_nil]); first | done | rfl | (simp only [List.length_drop, List.length_take]; rfl)) ?_; (with_reducible refine (impl_WalOk.calls k a0_0 a0_1 a0_2 a0_3 _ _ l0_4 false _ ?side1 ?side2 A3.out).mono ?_); (case side1 => repeat (first | exact (Kd.C_below HR0_4.out HB.out) | (with_reducible refine Kd.C_alloc ?_ _) | (with_reducible refine Kd.C_drewN ?_ _) | (with_reducible refine Kd.C_drew ?_))); (case side2 => exact HC0_4.out); rintro e w259 ⟨rfl, hb⟩; refine ⟨_, rfl, ?_⟩; replace BK240 := bq BK240 hb; replace BK241 := bq BK241 hb; replace BK242 := bq BK242 hb; replace HB := bh HB hb; (try clear hb); (try clear hb2); (try clear hk); (try clear hi); have hnb260 := NB242_241.out; have hnc260 := NB241_242.out; obtain ⟨hcz261_0, hcz261_1, hcz261_2, hcz261_3, hcz261_4⟩ := cs5 BK242; obtain ⟨hfz261_0, hfz261_1, hfz261_2, hfz261_3, hfz261_4⟩ := fs5 BK242) | (go_at_call 81; go_in))
  refine bodyPost_ret (results_ct rfl _ _ gb242 50 #[.int .i64 0, .int .i64 0, .int .i64 0, .int .i64 0, .slice none 0 0] (0, 0) _ rfl (by (with_reducible repeat first | refine bkN ?_ _ | refine bkD ?_ | refine bkA ?_ _); refine blk_put (cs := #[.int .i64 0, .int .i64 0, .int .i64 0, .int .i64 0, .slice none 0 0]) ?_ 4 _ rfl; (with_reducible repeat first | refine bkN ?_ _ | refine bkD ?_ | refine bkA ?_ _); refine blk_put (cs := #[.int .i64 0, .int .i64 0, .int .i64 0, .int .i64 0, .slice none 0 0]) ?_ 3 _ rfl; (with_reducible repeat first | refine bkN ?_ _ | refine bkD ?_ | refine bkA ?_ _); refine blk_put (cs := #[.int .i64 0, .int .i64 0, .int .i64 0, .int .i64 0, .slice none 0 0]) ?_ 2 _ rfl; (with_reducible repeat first | refine bkN ?_ _ | refine bkD ?_ | refine bkA ?_ _); refine blk_put (cs := #[.int .i64 0, .int .i64 0, .int .i64 0, .int .i64 0, .slice none 0 0]) ?_ 1 _ rfl; (with_reducible repeat first | refine bkN ?_ _ | refine bkD ?_ | refine bkA ?_ _); refine blk_put (cs := #[.int .i64 0, .int .i64 0, .int .i64 0, .int .i64 0, .slice none 0 0]) ?_ 0 _ rfl; (with_reducible repeat first | refine bkN ?_ _ | refine bkD ?_ | refine bkA ?_ _); exact BK242.out) Try.underlying50 rfl (by kernel_rfl)) rfl ?_
  exact ⟨_, by first | rfl | (simp [errW_none, errW_some] <;> rfl) | (simp [*, errW_none, errW_some] <;> rfl), by first | exact Kd.R_nil _ _ _ _ _ | exact Kd.N_nil _ _ _ _ _ | exact Kd.V_nil _ _ _ _ _ | exact Kd.Q_nil _ _ _ _ _ | exact Kd.S_nil _ _ _ _ _, by repeat (first | (with_reducible first | exact HB.out | apply below_alloc | apply pw_below_drewN | apply below_drew1 | refine below_set ?_ GE240.out | refine below_set ?_ GE241.out | refine below_set ?_ GE242.out) | exact HB.out)⟩

end Go.Proofs.Ytobkmpihjfiihaa.PFnExactPlanAdd
