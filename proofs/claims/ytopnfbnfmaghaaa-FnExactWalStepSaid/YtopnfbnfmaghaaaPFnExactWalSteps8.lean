-- The machine side of a law: written by a program of this session (wip/tools), a turned print.
import Derived.Test.YtopnfbnfmaghaaaPFnExactWalStepx0
import Derived.Test.YtopnfbnfmaghaaaPFnExactWalStepx6
import Derived.Test.YtopnfbnfmaghaaaPFnExactWalStepx7
namespace Go.Proofs.Ytopnfbnfmaghaaa.PFnExactWalStep
open Go.RowKit Go.Proofs.YtopnfbnfmaghaaaW.PrintWords Go.Proofs.YtopnfbnfmaghaaaW.PrintLast Go.Proofs.YtopnfbnfmaghaaaW.PrintMore
attribute [local go_sem] max2_int min2_int max_two min_two max_three min_three max_four min_four   -- for this text's walks alone
set_option linter.unusedVariables false
set_option linter.unusedSimpArgs false

/-! ### impl_WalStep: function 40 -/
def impl_WalStep.j0 : Nat → Bool → Int → Int → Int → Int → List (S125) → Int → Int → Int → Int → List (S125) → Option (Int × Int × Int × Int × (List (S125)) × Bool)
 | 0, _, _, _, _, _, _, _, _, _, _, _ => none
 | k + 1, x20, x210000, x210001, x210002, x210003, x210004, x221000, x221001, x221002, x221003, x221004 => if x20 = true then ((impl_copyWal.f x210000 x210001 x210002 x210003 x210004).bind fun bt234 => (some (bt234.1, bt234.2.1, bt234.2.2.1, bt234.2.2.2.1, bt234.2.2.2.2, false))) else ((impl_copyWal.f x221000 x221001 x221002 x221003 x221004).bind fun bt241 => (some (bt241.1, bt241.2.1, bt241.2.2.1, bt241.2.2.2.1, bt241.2.2.2.2, true)))
def impl_WalStep.f (k : Nat) (a0_0 : Int) (a0_1 : Int) (a0_2 : Int) (a0_3 : Int) (l0_4 : List (S125)) (a1_0 : Int) (a1_1 : Int) (a1_2 : Int) (a1_3 : Int) (a1_4 : ByteArray) : Option (Int × Int × Int × Int × (List (S125)) × Bool) := (impl_WalOk.f k a0_0 a0_1 a0_2 a0_3 l0_4).bind fun t212 => (if t212 = true then ((impl_copyWal.f a0_0 a0_1 a0_2 a0_3 l0_4).bind fun bt213 => ((impl_RecOk.f a1_0 a1_1 a1_2 a1_3 a1_4).bind fun t221 => (if t221 = true then (if a1_0 = 1 then (if a1_1 < bt213.1 then (impl_WalStep.j0 k (!false) a0_0 a0_1 a0_2 a0_3 l0_4 bt213.1 bt213.2.1 bt213.2.2.1 bt213.2.2.2.1 bt213.2.2.2.2) else (if a1_1 = bt213.1 then (if bt213.2.1 = (-1) then (impl_WalStep.j0 k (!true) a0_0 a0_1 a0_2 a0_3 l0_4 a1_1 a1_3 bt213.2.2.1 bt213.2.2.2.1 bt213.2.2.2.2) else (if bt213.2.1 = a1_3 then (impl_WalStep.j0 k (!true) a0_0 a0_1 a0_2 a0_3 l0_4 a1_1 a1_3 bt213.2.2.1 bt213.2.2.2.1 bt213.2.2.2.2) else (impl_WalStep.j0 k (!false) a0_0 a0_1 a0_2 a0_3 l0_4 bt213.1 bt213.2.1 bt213.2.2.1 bt213.2.2.2.1 bt213.2.2.2.2))) else (impl_WalStep.j0 k (!true) a0_0 a0_1 a0_2 a0_3 l0_4 a1_1 a1_3 bt213.2.2.1 bt213.2.2.2.1 bt213.2.2.2.2))) else (if a1_0 = 2 then ((impl_Wal_end.f bt213.1 bt213.2.1 bt213.2.2.1 bt213.2.2.2.1 bt213.2.2.2.2).bind fun t223 => (if a1_2 = (wrap64 (t223 + 1)) then (if (bt213.2.2.2.2.length : Int) ≥ 60 then (impl_WalStep.j0 k (!false) a0_0 a0_1 a0_2 a0_3 l0_4 bt213.1 bt213.2.1 bt213.2.2.1 bt213.2.2.2.1 bt213.2.2.2.2) else ((impl_Wal_endTerm.f bt213.1 bt213.2.1 bt213.2.2.1 bt213.2.2.2.1 bt213.2.2.2.2).bind fun t224 => ((impl_within.f a1_1 t224 bt213.1).bind fun t225 => (if t225 = true then (if bt213.2.2.2.2.length < 5864062014805 then (impl_WalStep.j0 k (!true) a0_0 a0_1 a0_2 a0_3 l0_4 bt213.1 bt213.2.1 bt213.2.2.1 bt213.2.2.2.1 (bt213.2.2.2.2 ++ [(⟨a1_1, a1_4⟩ : S125)])) else (none)) else (impl_WalStep.j0 k (!false) a0_0 a0_1 a0_2 a0_3 l0_4 bt213.1 bt213.2.1 bt213.2.2.1 bt213.2.2.2.1 bt213.2.2.2.2))))) else (impl_WalStep.j0 k (!false) a0_0 a0_1 a0_2 a0_3 l0_4 bt213.1 bt213.2.1 bt213.2.2.1 bt213.2.2.2.1 bt213.2.2.2.2))) else (if a1_0 = 3 then ((impl_Wal_end.f bt213.1 bt213.2.1 bt213.2.2.1 bt213.2.2.2.1 bt213.2.2.2.2).bind fun t229 => ((impl_within.f a1_2 (wrap64 (bt213.2.2.1 + 1)) t229).bind fun t230 => (if t230 = true then (if 0 ≤ (wrap64 ((wrap64 (a1_2 - bt213.2.2.1)) - 1)) then (if (wrap64 ((wrap64 (a1_2 - bt213.2.2.1)) - 1)) ≤ (bt213.2.2.2.2.length : Int) then (impl_WalStep.j0 k (!true) a0_0 a0_1 a0_2 a0_3 l0_4 bt213.1 bt213.2.1 bt213.2.2.1 bt213.2.2.2.1 (bt213.2.2.2.2.take ((wrap64 ((wrap64 (a1_2 - bt213.2.2.1)) - 1)) : Int).toNat)) else (none)) else (none)) else (impl_WalStep.j0 k (!false) a0_0 a0_1 a0_2 a0_3 l0_4 bt213.1 bt213.2.1 bt213.2.2.1 bt213.2.2.2.1 bt213.2.2.2.2)))) else (impl_WalStep.j0 k (!false) a0_0 a0_1 a0_2 a0_3 l0_4 bt213.1 bt213.2.1 bt213.2.2.1 bt213.2.2.2.1 bt213.2.2.2.2)))) else (impl_WalStep.j0 k true a0_0 a0_1 a0_2 a0_3 l0_4 bt213.1 bt213.2.1 bt213.2.2.1 bt213.2.2.2.1 bt213.2.2.2.2)))) else (some (0, 0, 0, 0, ([] : List (S125)), false)))
theorem impl_WalStep.mono_l : ∀ k, (∀ y0 y1 y2 y3 y4 y5 y6 y7 y8 y9 y10, LeO (impl_WalStep.j0 k y0 y1 y2 y3 y4 y5 y6 y7 y8 y9 y10) (impl_WalStep.j0 (k + 1) y0 y1 y2 y3 y4 y5 y6 y7 y8 y9 y10))
 | 0 => fun _ _ _ _ _ _ _ _ _ _ _ r h => by simp [impl_WalStep.j0] at h
 | k + 1 => by
  have ih0 := impl_WalStep.mono_l k
  ·intro y0 y1 y2 y3 y4 y5 y6 y7 y8 y9 y10
   unfold impl_WalStep.j0
   repeat' first
   | (with_reducible exact ih0 _ _ _ _ _ _ _ _ _ _ _)
   | (with_reducible exact impl_WalOk.mono _ _ _ _ _ _)
   | (with_reducible exact LeO.refl _)
   | (with_reducible exact LeO.none _)
   | (with_reducible refine LeO.ite ?_ ?_)
   | (with_reducible refine LeO.bind ?_ (fun _ => ?_))
   | exact ih0 _ _ _ _ _ _ _ _ _ _ _
   | exact impl_WalOk.mono _ _ _ _ _ _
   | exact LeO.none _
   | refine LeO.ite ?_ ?_
   | refine LeO.bind ?_ (fun _ => ?_)
theorem impl_WalStep.mono : ∀ a0 a1 a2 a3 a4 a5 a6 a7 a8 a9 k, LeO (impl_WalStep.f k a0 a1 a2 a3 a4 a5 a6 a7 a8 a9) (impl_WalStep.f (k + 1) a0 a1 a2 a3 a4 a5 a6 a7 a8 a9) := by
 intro a0 a1 a2 a3 a4 a5 a6 a7 a8 a9 k
 have ih0 := impl_WalStep.mono_l k
 unfold impl_WalStep.f
 repeat' first
   | (with_reducible exact ih0 _ _ _ _ _ _ _ _ _ _ _)
   | (with_reducible exact impl_WalOk.mono _ _ _ _ _ _)
   | (with_reducible exact LeO.refl _)
   | (with_reducible exact LeO.none _)
   | (with_reducible refine LeO.ite ?_ ?_)
   | (with_reducible refine LeO.bind ?_ (fun _ => ?_))
   | exact ih0 _ _ _ _ _ _ _ _ _ _ _
   | exact impl_WalOk.mono _ _ _ _ _ _
   | exact LeO.none _
   | refine LeO.ite ?_ ?_
   | refine LeO.bind ?_ (fun _ => ?_)
def impl_WalStep.T1004 : Bool × List (List Nat × List Nat) := (true, [([], []), ([0], [0]), ([], []), ([2], [2]), ([3], [3]), ([4], [4]), ([1, 5], [1, 5]), ([6], [6]), ([7], [7]), ([8, 7], [7, 8]), ([7], [7]), ([10, 7], [7, 10]), ([11, 7], [7, 11]), ([12, 7], [7, 12]), ([9, 13, 7], [7, 9, 13]), ([14, 7, 7], [7, 14]), ([15], [15]), ([16, 15], [15, 16]), ([17, 15], [15, 17]), ([18, 15], [15, 18]), ([19, 15], [15, 19]), ([15, 20, 7], [7, 15, 20]), ([21, 15, 7], [7, 21]), ([22], [22]), ([23, 22], [22, 23]), ([24, 22], [22, 24]), ([25, 22], [22, 25]), ([22], [22]), ([27, 22], [22, 27]), ([26, 28, 22], [22, 26, 28]), ([22, 29, 7], [7, 22, 29]), ([7, 30], [7, 30])])
def impl_WalStep.B1004 : List Nat := [0, 1, 0, 4, 12, 28, 63, 127, 255, 511, 255, 1279, 3327, 7423, 16383, 32767, 65535, 131071, 262143, 524287, 1048575, 2097151, 4194303, 8388607, 16777215, 33554431, 67108863, 8388607, 142606335, 536870911, 1073741823, 2147483647]
theorem impl_WalStep.tab1004 : rtab .any (opsOf Try.f102 4) = impl_WalStep.T1004 := by kernel_rfl
theorem impl_WalStep.bits1004 : waitsOk impl_WalStep.T1004.2 impl_WalStep.B1004 = true := by kernel_rfl
def impl_WalStep.T1009 : Bool × List (List Nat × List Nat) := (true, [([], []), ([0], [0]), ([], []), ([2], [2]), ([3], [3]), ([4], [4]), ([5], [5]), ([1, 6], [1, 6]), ([7, 5], [7]), ([8], [8]), ([9, 8], [8, 9]), ([10, 8], [8, 10]), ([11, 8], [8, 11]), ([12, 8], [8, 12]), ([13, 8], [8, 13]), ([8, 14], [8, 14]), ([15, 8], [15]), ([16], [16]), ([17, 16], [16, 17]), ([16], [16]), ([19, 16], [16, 19]), ([20, 16], [16, 20]), ([21, 16, 16], [16, 21]), ([16], [16]), ([23, 16], [16, 23]), ([24, 16], [16, 24]), ([25, 16], [16, 25]), ([18, 22, 26, 22, 16], [16, 18, 22, 26]), ([27, 16], [16, 27]), ([16, 28], [16, 28])])
def impl_WalStep.B1009 : List Nat := [0, 1, 0, 4, 12, 28, 60, 127, 255, 511, 1023, 2047, 4095, 8191, 16383, 32767, 65535, 131071, 262143, 131071, 655359, 1703935, 3801087, 131071, 8519679, 25296895, 58851327, 134217727, 268435455, 536870911]
theorem impl_WalStep.tab1009 : rtab .any (opsOf Try.f102 9) = impl_WalStep.T1009 := by kernel_rfl
theorem impl_WalStep.bits1009 : waitsOk impl_WalStep.T1009.2 impl_WalStep.B1009 = true := by kernel_rfl
def impl_WalStep.T1011 : Bool × List (List Nat × List Nat) := (true, [([], []), ([], []), ([1], [1]), ([2], [2]), ([3], [3]), ([], []), ([5], [5]), ([], []), ([7], [7]), ([6, 8], [6, 8]), ([9], [9]), ([4, 10], [4, 10]), ([0, 0, 1, 2, 3, 4, 5, 6, 7, 8, 9, 10, 11], [0]), ([12, 0, 1, 2, 3, 4, 5, 6, 7, 8, 9, 10, 11], [12]), ([13, 11, 11, 0, 1, 2, 3, 4, 5, 6, 7, 8, 9, 10, 11], [11, 13])])
def impl_WalStep.B1011 : List Nat := [0, 0, 2, 6, 14, 0, 32, 0, 128, 480, 992, 2046, 4095, 8191, 16383]
theorem impl_WalStep.tab1011 : rtab .any (opsOf Try.f102 11) = impl_WalStep.T1011 := by kernel_rfl
theorem impl_WalStep.bits1011 : waitsOk impl_WalStep.T1011.2 impl_WalStep.B1011 = true := by kernel_rfl
def impl_WalStep.T1013 : Bool × List (List Nat × List Nat) := (true, [([], []), ([0], [0]), ([], []), ([2], [2]), ([3], [3]), ([4], [4]), ([5], [5]), ([], []), ([7], [7]), ([8], [8]), ([9], [9]), ([1, 6, 10, 10], [1, 6, 10]), ([11], [11])])
def impl_WalStep.B1013 : List Nat := [0, 1, 0, 4, 12, 28, 60, 0, 128, 384, 896, 2047, 4095]
theorem impl_WalStep.tab1013 : rtab .any (opsOf Try.f102 13) = impl_WalStep.T1013 := by kernel_rfl
theorem impl_WalStep.bits1013 : waitsOk impl_WalStep.T1013.2 impl_WalStep.B1013 = true := by kernel_rfl
def impl_WalStep.T1015 : Bool × List (List Nat × List Nat) := (true, [([], []), ([], []), ([1], [1]), ([2], [2]), ([3], [3]), ([], []), ([5], [5]), ([], []), ([7], [7]), ([8], [8]), ([9], [9]), ([6, 10], [6, 10]), ([11], [11]), ([4, 12], [4, 12]), ([0, 0, 1, 2, 3, 4, 5, 6, 7, 8, 9, 10, 11, 12, 13], [0]), ([14, 0, 1, 2, 3, 4, 5, 6, 7, 8, 9, 10, 11, 12, 13], [14]), ([15, 13, 0, 1, 2, 3, 4, 5, 6, 7, 8, 9, 10, 11, 12, 13], [13, 15])])
def impl_WalStep.B1015 : List Nat := [0, 0, 2, 6, 14, 0, 32, 0, 128, 384, 896, 2016, 4064, 8190, 16383, 32767, 65535]
theorem impl_WalStep.tab1015 : rtab .any (opsOf Try.f102 15) = impl_WalStep.T1015 := by kernel_rfl
theorem impl_WalStep.bits1015 : waitsOk impl_WalStep.T1015.2 impl_WalStep.B1015 = true := by kernel_rfl
set_option maxHeartbeats 8000000 in
set_option maxRecDepth 100000 in
theorem impl_WalStep.calls_a (k : Nat) (a0_0 : Int) (a0_1 : Int) (a0_2 : Int) (a0_3 : Int) (A0_4 : Option Addr) (c0_4 : Nat) (l0_4 : List (S125)) (a1_0 : Int) (a1_1 : Int) (a1_2 : Int) (a1_3 : Int) (a1_4 : ByteArray) (r1 : Int) (r2 : Int) (r3 : Int) (r4 : Int) (r5 : List (S125)) (r6 : Bool) (w : World) (hr0_4 : Kd.C k125 w A0_4 l0_4.length l0_4) (hc0_4 : l0_4.length ≤ c0_4) (h : impl_WalStep.f k a0_0 a0_1 a0_2 a0_3 l0_4 a1_0 a1_1 a1_2 a1_3 a1_4 = some (r1, r2, r3, r4, r5, r6)) (hk_ : a1_0 = 1) :
  Calls Try.prog 40 #[.agg #[.int .i64 a0_0, .int .i64 a0_1, .int .i64 a0_2, .int .i64 a0_3, .slice A0_4 l0_4.length c0_4], .agg #[.int .i64 a1_0, .int .i64 a1_1, .int .i64 a1_2, .int .i64 a1_3, .string a1_4]] w fun e w' => ∃ v4_ : Value, e = .returned (.tuple #[.agg #[.int .i64 r1, .int .i64 r2, .int .i64 r3, .int .i64 r4, v4_], .bool r6]) ∧ Kd.R k125 125 w' w.heap.size (fun _ => True) v4_ r5 ∧ Below w.heap.size w w' := by
 have HKc_ := Aside0.mk hk_
 clear hk_
 have hu62 := Try.underlying62
 have hu44 := Try.underlying44
 have HR0_4 := Aside0.mk hr0_4
 have HC0_4 := Aside0.mk hc0_4
 clear hr0_4 hc0_4; have HB := Aside0.mk (Below.refl w.heap.size w)
 have H : ((impl_WalOk.f k a0_0 a0_1 a0_2 a0_3 l0_4).bind fun t212 => (if t212 = true then ((impl_copyWal.f a0_0 a0_1 a0_2 a0_3 l0_4).bind fun bt213 => ((impl_RecOk.f a1_0 a1_1 a1_2 a1_3 a1_4).bind fun t221 => (if t221 = true then (if a1_0 = 1 then (if a1_1 < bt213.1 then (impl_WalStep.j0 k (!false) a0_0 a0_1 a0_2 a0_3 l0_4 bt213.1 bt213.2.1 bt213.2.2.1 bt213.2.2.2.1 bt213.2.2.2.2) else (if a1_1 = bt213.1 then (if bt213.2.1 = (-1) then (impl_WalStep.j0 k (!true) a0_0 a0_1 a0_2 a0_3 l0_4 a1_1 a1_3 bt213.2.2.1 bt213.2.2.2.1 bt213.2.2.2.2) else (if bt213.2.1 = a1_3 then (impl_WalStep.j0 k (!true) a0_0 a0_1 a0_2 a0_3 l0_4 a1_1 a1_3 bt213.2.2.1 bt213.2.2.2.1 bt213.2.2.2.2) else (impl_WalStep.j0 k (!false) a0_0 a0_1 a0_2 a0_3 l0_4 bt213.1 bt213.2.1 bt213.2.2.1 bt213.2.2.2.1 bt213.2.2.2.2))) else (impl_WalStep.j0 k (!true) a0_0 a0_1 a0_2 a0_3 l0_4 a1_1 a1_3 bt213.2.2.1 bt213.2.2.2.1 bt213.2.2.2.2))) else (if a1_0 = 2 then ((impl_Wal_end.f bt213.1 bt213.2.1 bt213.2.2.1 bt213.2.2.2.1 bt213.2.2.2.2).bind fun t223 => (if a1_2 = (wrap64 (t223 + 1)) then (if (bt213.2.2.2.2.length : Int) ≥ 60 then (impl_WalStep.j0 k (!false) a0_0 a0_1 a0_2 a0_3 l0_4 bt213.1 bt213.2.1 bt213.2.2.1 bt213.2.2.2.1 bt213.2.2.2.2) else ((impl_Wal_endTerm.f bt213.1 bt213.2.1 bt213.2.2.1 bt213.2.2.2.1 bt213.2.2.2.2).bind fun t224 => ((impl_within.f a1_1 t224 bt213.1).bind fun t225 => (if t225 = true then (if bt213.2.2.2.2.length < 5864062014805 then (impl_WalStep.j0 k (!true) a0_0 a0_1 a0_2 a0_3 l0_4 bt213.1 bt213.2.1 bt213.2.2.1 bt213.2.2.2.1 (bt213.2.2.2.2 ++ [(⟨a1_1, a1_4⟩ : S125)])) else (none)) else (impl_WalStep.j0 k (!false) a0_0 a0_1 a0_2 a0_3 l0_4 bt213.1 bt213.2.1 bt213.2.2.1 bt213.2.2.2.1 bt213.2.2.2.2))))) else (impl_WalStep.j0 k (!false) a0_0 a0_1 a0_2 a0_3 l0_4 bt213.1 bt213.2.1 bt213.2.2.1 bt213.2.2.2.1 bt213.2.2.2.2))) else (if a1_0 = 3 then ((impl_Wal_end.f bt213.1 bt213.2.1 bt213.2.2.1 bt213.2.2.2.1 bt213.2.2.2.2).bind fun t229 => ((impl_within.f a1_2 (wrap64 (bt213.2.2.1 + 1)) t229).bind fun t230 => (if t230 = true then (if 0 ≤ (wrap64 ((wrap64 (a1_2 - bt213.2.2.1)) - 1)) then (if (wrap64 ((wrap64 (a1_2 - bt213.2.2.1)) - 1)) ≤ (bt213.2.2.2.2.length : Int) then (impl_WalStep.j0 k (!true) a0_0 a0_1 a0_2 a0_3 l0_4 bt213.1 bt213.2.1 bt213.2.2.1 bt213.2.2.2.1 (bt213.2.2.2.2.take ((wrap64 ((wrap64 (a1_2 - bt213.2.2.1)) - 1)) : Int).toNat)) else (none)) else (none)) else (impl_WalStep.j0 k (!false) a0_0 a0_1 a0_2 a0_3 l0_4 bt213.1 bt213.2.1 bt213.2.2.1 bt213.2.2.2.1 bt213.2.2.2.2)))) else (impl_WalStep.j0 k (!false) a0_0 a0_1 a0_2 a0_3 l0_4 bt213.1 bt213.2.1 bt213.2.2.1 bt213.2.2.2.1 bt213.2.2.2.2)))) else (impl_WalStep.j0 k true a0_0 a0_1 a0_2 a0_3 l0_4 bt213.1 bt213.2.1 bt213.2.2.1 bt213.2.2.2.1 bt213.2.2.2.2)))) else (some (0, 0, 0, 0, ([] : List (S125)), false)))) = some (r1, r2, r3, r4, r5, r6) := h
 clear h; replace H := Option.bind_eq_some_iff.mp H
 obtain ⟨t212, A30, H⟩ := H
 replace H : (if t212 = true then ((impl_copyWal.f a0_0 a0_1 a0_2 a0_3 l0_4).bind fun bt213 => ((impl_RecOk.f a1_0 a1_1 a1_2 a1_3 a1_4).bind fun t221 => (if t221 = true then (if a1_0 = 1 then (if a1_1 < bt213.1 then (impl_WalStep.j0 k (!false) a0_0 a0_1 a0_2 a0_3 l0_4 bt213.1 bt213.2.1 bt213.2.2.1 bt213.2.2.2.1 bt213.2.2.2.2) else (if a1_1 = bt213.1 then (if bt213.2.1 = (-1) then (impl_WalStep.j0 k (!true) a0_0 a0_1 a0_2 a0_3 l0_4 a1_1 a1_3 bt213.2.2.1 bt213.2.2.2.1 bt213.2.2.2.2) else (if bt213.2.1 = a1_3 then (impl_WalStep.j0 k (!true) a0_0 a0_1 a0_2 a0_3 l0_4 a1_1 a1_3 bt213.2.2.1 bt213.2.2.2.1 bt213.2.2.2.2) else (impl_WalStep.j0 k (!false) a0_0 a0_1 a0_2 a0_3 l0_4 bt213.1 bt213.2.1 bt213.2.2.1 bt213.2.2.2.1 bt213.2.2.2.2))) else (impl_WalStep.j0 k (!true) a0_0 a0_1 a0_2 a0_3 l0_4 a1_1 a1_3 bt213.2.2.1 bt213.2.2.2.1 bt213.2.2.2.2))) else (if a1_0 = 2 then ((impl_Wal_end.f bt213.1 bt213.2.1 bt213.2.2.1 bt213.2.2.2.1 bt213.2.2.2.2).bind fun t223 => (if a1_2 = (wrap64 (t223 + 1)) then (if (bt213.2.2.2.2.length : Int) ≥ 60 then (impl_WalStep.j0 k (!false) a0_0 a0_1 a0_2 a0_3 l0_4 bt213.1 bt213.2.1 bt213.2.2.1 bt213.2.2.2.1 bt213.2.2.2.2) else ((impl_Wal_endTerm.f bt213.1 bt213.2.1 bt213.2.2.1 bt213.2.2.2.1 bt213.2.2.2.2).bind fun t224 => ((impl_within.f a1_1 t224 bt213.1).bind fun t225 => (if t225 = true then (if bt213.2.2.2.2.length < 5864062014805 then (impl_WalStep.j0 k (!true) a0_0 a0_1 a0_2 a0_3 l0_4 bt213.1 bt213.2.1 bt213.2.2.1 bt213.2.2.2.1 (bt213.2.2.2.2 ++ [(⟨a1_1, a1_4⟩ : S125)])) else (none)) else (impl_WalStep.j0 k (!false) a0_0 a0_1 a0_2 a0_3 l0_4 bt213.1 bt213.2.1 bt213.2.2.1 bt213.2.2.2.1 bt213.2.2.2.2))))) else (impl_WalStep.j0 k (!false) a0_0 a0_1 a0_2 a0_3 l0_4 bt213.1 bt213.2.1 bt213.2.2.1 bt213.2.2.2.1 bt213.2.2.2.2))) else (if a1_0 = 3 then ((impl_Wal_end.f bt213.1 bt213.2.1 bt213.2.2.1 bt213.2.2.2.1 bt213.2.2.2.2).bind fun t229 => ((impl_within.f a1_2 (wrap64 (bt213.2.2.1 + 1)) t229).bind fun t230 => (if t230 = true then (if 0 ≤ (wrap64 ((wrap64 (a1_2 - bt213.2.2.1)) - 1)) then (if (wrap64 ((wrap64 (a1_2 - bt213.2.2.1)) - 1)) ≤ (bt213.2.2.2.2.length : Int) then (impl_WalStep.j0 k (!true) a0_0 a0_1 a0_2 a0_3 l0_4 bt213.1 bt213.2.1 bt213.2.2.1 bt213.2.2.2.1 (bt213.2.2.2.2.take ((wrap64 ((wrap64 (a1_2 - bt213.2.2.1)) - 1)) : Int).toNat)) else (none)) else (none)) else (impl_WalStep.j0 k (!false) a0_0 a0_1 a0_2 a0_3 l0_4 bt213.1 bt213.2.1 bt213.2.2.1 bt213.2.2.2.1 bt213.2.2.2.2)))) else (impl_WalStep.j0 k (!false) a0_0 a0_1 a0_2 a0_3 l0_4 bt213.1 bt213.2.1 bt213.2.2.1 bt213.2.2.2.1 bt213.2.2.2.2)))) else (impl_WalStep.j0 k true a0_0 a0_1 a0_2 a0_3 l0_4 bt213.1 bt213.2.1 bt213.2.2.1 bt213.2.2.2.1 bt213.2.2.2.2)))) else (some (0, 0, 0, 0, ([] : List (S125)), false))) = some (r1, r2, r3, r4, r5, r6) := H
 have A3 := Aside0.mk A30
 clear A30
 by_cases c4 : t212 = true
 ·subst c4
  have H1 : ((impl_copyWal.f a0_0 a0_1 a0_2 a0_3 l0_4).bind fun bt213 => ((impl_RecOk.f a1_0 a1_1 a1_2 a1_3 a1_4).bind fun t221 => (if t221 = true then (if a1_0 = 1 then (if a1_1 < bt213.1 then (impl_WalStep.j0 k (!false) a0_0 a0_1 a0_2 a0_3 l0_4 bt213.1 bt213.2.1 bt213.2.2.1 bt213.2.2.2.1 bt213.2.2.2.2) else (if a1_1 = bt213.1 then (if bt213.2.1 = (-1) then (impl_WalStep.j0 k (!true) a0_0 a0_1 a0_2 a0_3 l0_4 a1_1 a1_3 bt213.2.2.1 bt213.2.2.2.1 bt213.2.2.2.2) else (if bt213.2.1 = a1_3 then (impl_WalStep.j0 k (!true) a0_0 a0_1 a0_2 a0_3 l0_4 a1_1 a1_3 bt213.2.2.1 bt213.2.2.2.1 bt213.2.2.2.2) else (impl_WalStep.j0 k (!false) a0_0 a0_1 a0_2 a0_3 l0_4 bt213.1 bt213.2.1 bt213.2.2.1 bt213.2.2.2.1 bt213.2.2.2.2))) else (impl_WalStep.j0 k (!true) a0_0 a0_1 a0_2 a0_3 l0_4 a1_1 a1_3 bt213.2.2.1 bt213.2.2.2.1 bt213.2.2.2.2))) else (if a1_0 = 2 then ((impl_Wal_end.f bt213.1 bt213.2.1 bt213.2.2.1 bt213.2.2.2.1 bt213.2.2.2.2).bind fun t223 => (if a1_2 = (wrap64 (t223 + 1)) then (if (bt213.2.2.2.2.length : Int) ≥ 60 then (impl_WalStep.j0 k (!false) a0_0 a0_1 a0_2 a0_3 l0_4 bt213.1 bt213.2.1 bt213.2.2.1 bt213.2.2.2.1 bt213.2.2.2.2) else ((impl_Wal_endTerm.f bt213.1 bt213.2.1 bt213.2.2.1 bt213.2.2.2.1 bt213.2.2.2.2).bind fun t224 => ((impl_within.f a1_1 t224 bt213.1).bind fun t225 => (if t225 = true then (if bt213.2.2.2.2.length < 5864062014805 then (impl_WalStep.j0 k (!true) a0_0 a0_1 a0_2 a0_3 l0_4 bt213.1 bt213.2.1 bt213.2.2.1 bt213.2.2.2.1 (bt213.2.2.2.2 ++ [(⟨a1_1, a1_4⟩ : S125)])) else (none)) else (impl_WalStep.j0 k (!false) a0_0 a0_1 a0_2 a0_3 l0_4 bt213.1 bt213.2.1 bt213.2.2.1 bt213.2.2.2.1 bt213.2.2.2.2))))) else (impl_WalStep.j0 k (!false) a0_0 a0_1 a0_2 a0_3 l0_4 bt213.1 bt213.2.1 bt213.2.2.1 bt213.2.2.2.1 bt213.2.2.2.2))) else (if a1_0 = 3 then ((impl_Wal_end.f bt213.1 bt213.2.1 bt213.2.2.1 bt213.2.2.2.1 bt213.2.2.2.2).bind fun t229 => ((impl_within.f a1_2 (wrap64 (bt213.2.2.1 + 1)) t229).bind fun t230 => (if t230 = true then (if 0 ≤ (wrap64 ((wrap64 (a1_2 - bt213.2.2.1)) - 1)) then (if (wrap64 ((wrap64 (a1_2 - bt213.2.2.1)) - 1)) ≤ (bt213.2.2.2.2.length : Int) then (impl_WalStep.j0 k (!true) a0_0 a0_1 a0_2 a0_3 l0_4 bt213.1 bt213.2.1 bt213.2.2.1 bt213.2.2.2.1 (bt213.2.2.2.2.take ((wrap64 ((wrap64 (a1_2 - bt213.2.2.1)) - 1)) : Int).toNat)) else (none)) else (none)) else (impl_WalStep.j0 k (!false) a0_0 a0_1 a0_2 a0_3 l0_4 bt213.1 bt213.2.1 bt213.2.2.1 bt213.2.2.2.1 bt213.2.2.2.2)))) else (impl_WalStep.j0 k (!false) a0_0 a0_1 a0_2 a0_3 l0_4 bt213.1 bt213.2.1 bt213.2.2.1 bt213.2.2.2.1 bt213.2.2.2.2)))) else (impl_WalStep.j0 k true a0_0 a0_1 a0_2 a0_3 l0_4 bt213.1 bt213.2.1 bt213.2.2.1 bt213.2.2.2.1 bt213.2.2.2.2)))) = some (r1, r2, r3, r4, r5, r6) := by rw [if_pos rfl] at H; exact H
  clear H; have H := H1
  clear H1; replace H := Option.bind_eq_some_iff.mp H
  obtain ⟨⟨t213, t214, t215, t216, t217⟩, A50, H⟩ := H
  replace H : ((impl_RecOk.f a1_0 a1_1 a1_2 a1_3 a1_4).bind fun t221 => (if t221 = true then (if a1_0 = 1 then (if a1_1 < t213 then (impl_WalStep.j0 k (!false) a0_0 a0_1 a0_2 a0_3 l0_4 t213 t214 t215 t216 t217) else (if a1_1 = t213 then (if t214 = (-1) then (impl_WalStep.j0 k (!true) a0_0 a0_1 a0_2 a0_3 l0_4 a1_1 a1_3 t215 t216 t217) else (if t214 = a1_3 then (impl_WalStep.j0 k (!true) a0_0 a0_1 a0_2 a0_3 l0_4 a1_1 a1_3 t215 t216 t217) else (impl_WalStep.j0 k (!false) a0_0 a0_1 a0_2 a0_3 l0_4 t213 t214 t215 t216 t217))) else (impl_WalStep.j0 k (!true) a0_0 a0_1 a0_2 a0_3 l0_4 a1_1 a1_3 t215 t216 t217))) else (if a1_0 = 2 then ((impl_Wal_end.f t213 t214 t215 t216 t217).bind fun t223 => (if a1_2 = (wrap64 (t223 + 1)) then (if (t217.length : Int) ≥ 60 then (impl_WalStep.j0 k (!false) a0_0 a0_1 a0_2 a0_3 l0_4 t213 t214 t215 t216 t217) else ((impl_Wal_endTerm.f t213 t214 t215 t216 t217).bind fun t224 => ((impl_within.f a1_1 t224 t213).bind fun t225 => (if t225 = true then (if t217.length < 5864062014805 then (impl_WalStep.j0 k (!true) a0_0 a0_1 a0_2 a0_3 l0_4 t213 t214 t215 t216 (t217 ++ [(⟨a1_1, a1_4⟩ : S125)])) else (none)) else (impl_WalStep.j0 k (!false) a0_0 a0_1 a0_2 a0_3 l0_4 t213 t214 t215 t216 t217))))) else (impl_WalStep.j0 k (!false) a0_0 a0_1 a0_2 a0_3 l0_4 t213 t214 t215 t216 t217))) else (if a1_0 = 3 then ((impl_Wal_end.f t213 t214 t215 t216 t217).bind fun t229 => ((impl_within.f a1_2 (wrap64 (t215 + 1)) t229).bind fun t230 => (if t230 = true then (if 0 ≤ (wrap64 ((wrap64 (a1_2 - t215)) - 1)) then (if (wrap64 ((wrap64 (a1_2 - t215)) - 1)) ≤ (t217.length : Int) then (impl_WalStep.j0 k (!true) a0_0 a0_1 a0_2 a0_3 l0_4 t213 t214 t215 t216 (t217.take ((wrap64 ((wrap64 (a1_2 - t215)) - 1)) : Int).toNat)) else (none)) else (none)) else (impl_WalStep.j0 k (!false) a0_0 a0_1 a0_2 a0_3 l0_4 t213 t214 t215 t216 t217)))) else (impl_WalStep.j0 k (!false) a0_0 a0_1 a0_2 a0_3 l0_4 t213 t214 t215 t216 t217)))) else (impl_WalStep.j0 k true a0_0 a0_1 a0_2 a0_3 l0_4 t213 t214 t215 t216 t217))) = some (r1, r2, r3, r4, r5, r6) := H
  have A5 := Aside0.mk A50
  clear A50; have HC6 := Aside0.mk H
  clear H
  go_enter Try.func40, Try.ntmps40
  go_upto_region 4 with (first | ((with_reducible refine gate_dst (N := 2) rfl ?_); refine box_event ?hg (N := 2) ?hd (cs := #[.int .i64 a0_0, .int .i64 a0_1, .int .i64 a0_2, .int .i64 a0_3, .slice A0_4 l0_4.length c0_4]) (t := 62) ?hr ?_; (case hd => rfl); (case hg => rfl); (case hr => first | (go_simp; done) | (go_simp; rfl)); intro gb209 hg w7 hbox hb; have n0_ := Aside0.mk (below_step (be HB) hb); have BK209 := Aside0.mk (hbox); have GW209 := bs HB hg; have GE209 := bs HB hg; clear HB; have HB := n0_; clear n0_; clear hb hbox hg) | ((with_reducible refine gate_dst (N := 3) rfl ?_); refine box_event ?hg (N := 3) ?hd (cs := #[.int .i64 a1_0, .int .i64 a1_1, .int .i64 a1_2, .int .i64 a1_3, .string a1_4]) (t := 44) ?hr ?_; (case hd => rfl); (case hg => rfl); (case hr => first | (go_simp; done) | (go_simp; rfl)); intro gb210 hg w8 hbox hb; have n1_ := Aside0.mk (below_step (be HB) hb); have BK210 := Aside0.mk (hbox); have GW210 := bs HB hg; have GE210 := bs HB hg; have NB209_210 := bl BK209 hg; have NB210_209 := bg BK209 hg; replace BK209 := bq BK209 hb; clear HB; have HB := n1_; clear n1_; clear hb hbox hg) | ((with_reducible refine gate_dst (N := 4) rfl ?_); refine box_event ?hg (N := 4) ?hd (cs := #[.int .i64 0, .int .i64 0, .int .i64 0, .int .i64 0, .slice none 0 0]) (t := 62) ?hr ?_; (case hd => rfl); (case hg => rfl); (case hr => first | (go_simp; done) | (go_simp; rfl)); intro gb211 hg w9 hbox hb; have n2_ := Aside0.mk (below_step (be HB) hb); have BK211 := Aside0.mk (hbox); have GW211 := bs HB hg; have GE211 := bs HB hg; have NB209_211 := bl BK209 hg; have NB211_209 := bg BK209 hg; have NB210_211 := bl BK210 hg; have NB211_210 := bg BK210 hg; replace BK209 := bq BK209 hb; replace BK210 := bq BK210 hb; clear HB; have HB := n2_; clear n2_; clear hb hbox hg; have hnb10 := NB209_210.out; have hnc10 := NB210_209.out; have hnb11 := NB209_211.out; have hnc11 := NB211_209.out; obtain ⟨hcz12_0, hcz12_1, hcz12_2, hcz12_3, hcz12_4⟩ := cs5 BK209; obtain ⟨hfz12_0, hfz12_1, hfz12_2, hfz12_3, hfz12_4⟩ := fs5 BK209) | ((with_reducible refine gate_callee (f := 99) rfl ?_); refine goesL_ (some 8) rfl rfl Try.func99 (by kernel_rfl) rfl #[.agg #[.int .i64 a0_0, .int .i64 a0_1, .int .i64 a0_2, .int .i64 a0_3, .slice A0_4 l0_4.length c0_4]] rfl (by (try simp only [List.map_toArray, List.map_cons, List.map_nil]); first | done | rfl | (simp only [List.length_drop, List.length_take]; rfl)) ?_; (with_reducible refine (impl_WalOk.calls k a0_0 a0_1 a0_2 a0_3 _ _ l0_4 true _ ?side1 ?side2 A3.out).mono ?_); (case side1 => repeat (first | exact (Kd.C_below HR0_4.out HB.out) | (with_reducible refine Kd.C_alloc ?_ _) | (with_reducible refine Kd.C_drewN ?_ _) | (with_reducible refine Kd.C_drew ?_))); (case side2 => exact HC0_4.out); rintro e w13 ⟨rfl, hb⟩; refine ⟨_, rfl, ?_⟩; have n3_ := Aside0.mk (below_step (be HB) hb); replace BK209 := bq BK209 hb; replace BK210 := bq BK210 hb; replace BK211 := bq BK211 hb; clear HB; have HB := n3_; clear n3_; (try clear hb); (try clear hb2); (try clear hk); (try clear hi); obtain ⟨hcz14_0, hcz14_1, hcz14_2, hcz14_3, hcz14_4⟩ := cs5 BK209; obtain ⟨hfz14_0, hfz14_1, hfz14_2, hfz14_3, hfz14_4⟩ := fs5 BK209) | ((with_reducible refine gate_callee (f := 100) rfl ?_); refine goesL_ (some 12) rfl rfl Try.func100 (by kernel_rfl) rfl #[.agg #[.int .i64 a0_0, .int .i64 a0_1, .int .i64 a0_2, .int .i64 a0_3, .slice A0_4 l0_4.length c0_4]] rfl (by (try simp only [List.map_toArray, List.map_cons, List.map_nil]); first | done | rfl | (simp only [List.length_drop, List.length_take]; rfl)) ?_; (with_reducible refine (impl_copyWal.calls a0_0 a0_1 a0_2 a0_3 _ _ l0_4 t213 t214 t215 t216 t217 _ ?side1 ?side2 A5.out).mono ?_); (case side1 => repeat (first | exact (Kd.C_below HR0_4.out HB.out) | (with_reducible refine Kd.C_alloc ?_ _) | (with_reducible refine Kd.C_drewN ?_ _) | (with_reducible refine Kd.C_drew ?_))); (case side2 => exact HC0_4.out); rintro e w15 ⟨v218, rfl, ho0, hb⟩; refine ⟨_, rfl, ?_⟩; have n4_ := Aside0.mk (below_step (be HB) hb); have HO219 := Aside0.mk (Kd.R_lower ho0 (below_size (be HB))); replace BK209 := bq BK209 hb; replace BK210 := bq BK210 hb; replace BK211 := bq BK211 hb; clear HB; have HB := n4_; clear n4_; (try clear hb); (try clear hb2); (try clear hk); (try clear hi); (try clear ho0)) | ((with_reducible refine gate_dst (N := 6) rfl ?_); refine box_event ?hg (N := 6) ?hd (cs := #[.int .i64 0, .int .i64 0, .int .i64 0, .int .i64 0, .slice none 0 0]) (t := 62) ?hr ?_; (case hd => rfl); (case hg => rfl); (case hr => first | (go_simp; done) | (go_simp; rfl)); intro gb220 hg w16 hbox hb; have n4_ := Aside0.mk (below_step (be HB) hb); have BK220 := Aside0.mk (hbox); have GW220 := bs HB hg; have GE220 := bs HB hg; have NB209_220 := bl BK209 hg; have NB220_209 := bg BK209 hg; have NB210_220 := bl BK210 hg; have NB220_210 := bg BK210 hg; have NB211_220 := bl BK211 hg; have NB220_211 := bg BK211 hg; replace HO219 := Aside0.mk (Kd.R_below (rr HO219) hb); replace BK209 := bq BK209 hb; replace BK210 := bq BK210 hb; replace BK211 := bq BK211 hb; clear HB; have HB := n4_; clear n4_; clear hb hbox hg; have hnb17 := NB220_209.out; have hnc17 := NB209_220.out; have hnb18 := NB220_210.out; have hnc18 := NB210_220.out; have hnb19 := NB220_211.out; have hnc19 := NB211_220.out; obtain ⟨hcz20_0, hcz20_1, hcz20_2, hcz20_3, hcz20_4⟩ := cs5 BK220; obtain ⟨hfz20_0, hfz20_1, hfz20_2, hfz20_3, hfz20_4⟩ := fs5 BK220; obtain ⟨Ao21, co21, eo21⟩ := Kd.R_slice HO219.out; subst eo21))
  (try simp only [putL])
  go_cut [20] (fun v20 wc => ∃ (kq : Nat) (x20_5 : Bool) (x221000_5 : Int) (x221001_5 : Int) (x221002_5 : Int) (x221003_5 : Int) (x221004_5 : List (S125)) (u221004 : Value), v20 = .bool x20_5 ∧ Aside0 (impl_WalStep.j0 kq x20_5 a0_0 a0_1 a0_2 a0_3 l0_4 x221000_5 x221001_5 x221002_5 x221003_5 x221004_5 = some (r1, r2, r3, r4, r5, r6)) ∧ Aside0 (kq ≤ k) ∧ Aside0 (Kd.R k125 125 wc w.heap.size (fun _ => True) u221004 x221004_5) ∧ Aside0 (wc.heap[gb209]? = some (.cells #[.int .i64 a0_0, .int .i64 a0_1, .int .i64 a0_2, .int .i64 a0_3, (.slice A0_4 l0_4.length c0_4)] 62 (0, 0))) ∧ Aside0 (wc.heap[gb210]? = some (.cells #[.int .i64 a1_0, .int .i64 a1_1, .int .i64 a1_2, .int .i64 a1_3, .string a1_4] 44 (0, 0))) ∧ Aside0 (wc.heap[gb211]? = some (.cells #[.int .i64 0, .int .i64 0, .int .i64 0, .int .i64 0, (.slice none 0 0)] 62 (0, 0))) ∧ Aside0 (wc.heap[gb220]? = some (.cells #[.int .i64 x221000_5, .int .i64 x221001_5, .int .i64 x221002_5, .int .i64 x221003_5, u221004] 62 (0, 0))) ∧ Aside0 (Below w.heap.size w wc))
  case first =>
   have H := HC6.out; clear HC6; replace H := Option.bind_eq_some_iff.mp H
   obtain ⟨t221, A220, H⟩ := H
   replace H : (if t221 = true then (if a1_0 = 1 then (if a1_1 < t213 then (impl_WalStep.j0 k (!false) a0_0 a0_1 a0_2 a0_3 l0_4 t213 t214 t215 t216 t217) else (if a1_1 = t213 then (if t214 = (-1) then (impl_WalStep.j0 k (!true) a0_0 a0_1 a0_2 a0_3 l0_4 a1_1 a1_3 t215 t216 t217) else (if t214 = a1_3 then (impl_WalStep.j0 k (!true) a0_0 a0_1 a0_2 a0_3 l0_4 a1_1 a1_3 t215 t216 t217) else (impl_WalStep.j0 k (!false) a0_0 a0_1 a0_2 a0_3 l0_4 t213 t214 t215 t216 t217))) else (impl_WalStep.j0 k (!true) a0_0 a0_1 a0_2 a0_3 l0_4 a1_1 a1_3 t215 t216 t217))) else (if a1_0 = 2 then ((impl_Wal_end.f t213 t214 t215 t216 t217).bind fun t223 => (if a1_2 = (wrap64 (t223 + 1)) then (if (t217.length : Int) ≥ 60 then (impl_WalStep.j0 k (!false) a0_0 a0_1 a0_2 a0_3 l0_4 t213 t214 t215 t216 t217) else ((impl_Wal_endTerm.f t213 t214 t215 t216 t217).bind fun t224 => ((impl_within.f a1_1 t224 t213).bind fun t225 => (if t225 = true then (if t217.length < 5864062014805 then (impl_WalStep.j0 k (!true) a0_0 a0_1 a0_2 a0_3 l0_4 t213 t214 t215 t216 (t217 ++ [(⟨a1_1, a1_4⟩ : S125)])) else (none)) else (impl_WalStep.j0 k (!false) a0_0 a0_1 a0_2 a0_3 l0_4 t213 t214 t215 t216 t217))))) else (impl_WalStep.j0 k (!false) a0_0 a0_1 a0_2 a0_3 l0_4 t213 t214 t215 t216 t217))) else (if a1_0 = 3 then ((impl_Wal_end.f t213 t214 t215 t216 t217).bind fun t229 => ((impl_within.f a1_2 (wrap64 (t215 + 1)) t229).bind fun t230 => (if t230 = true then (if 0 ≤ (wrap64 ((wrap64 (a1_2 - t215)) - 1)) then (if (wrap64 ((wrap64 (a1_2 - t215)) - 1)) ≤ (t217.length : Int) then (impl_WalStep.j0 k (!true) a0_0 a0_1 a0_2 a0_3 l0_4 t213 t214 t215 t216 (t217.take ((wrap64 ((wrap64 (a1_2 - t215)) - 1)) : Int).toNat)) else (none)) else (none)) else (impl_WalStep.j0 k (!false) a0_0 a0_1 a0_2 a0_3 l0_4 t213 t214 t215 t216 t217)))) else (impl_WalStep.j0 k (!false) a0_0 a0_1 a0_2 a0_3 l0_4 t213 t214 t215 t216 t217)))) else (impl_WalStep.j0 k true a0_0 a0_1 a0_2 a0_3 l0_4 t213 t214 t215 t216 t217)) = some (r1, r2, r3, r4, r5, r6) := H
   have A22 := Aside0.mk A220
   clear A220
   by_cases c23 : t221 = true
   ·subst c23
    have H1 : (if a1_0 = 1 then (if a1_1 < t213 then (impl_WalStep.j0 k (!false) a0_0 a0_1 a0_2 a0_3 l0_4 t213 t214 t215 t216 t217) else (if a1_1 = t213 then (if t214 = (-1) then (impl_WalStep.j0 k (!true) a0_0 a0_1 a0_2 a0_3 l0_4 a1_1 a1_3 t215 t216 t217) else (if t214 = a1_3 then (impl_WalStep.j0 k (!true) a0_0 a0_1 a0_2 a0_3 l0_4 a1_1 a1_3 t215 t216 t217) else (impl_WalStep.j0 k (!false) a0_0 a0_1 a0_2 a0_3 l0_4 t213 t214 t215 t216 t217))) else (impl_WalStep.j0 k (!true) a0_0 a0_1 a0_2 a0_3 l0_4 a1_1 a1_3 t215 t216 t217))) else (if a1_0 = 2 then ((impl_Wal_end.f t213 t214 t215 t216 t217).bind fun t223 => (if a1_2 = (wrap64 (t223 + 1)) then (if (t217.length : Int) ≥ 60 then (impl_WalStep.j0 k (!false) a0_0 a0_1 a0_2 a0_3 l0_4 t213 t214 t215 t216 t217) else ((impl_Wal_endTerm.f t213 t214 t215 t216 t217).bind fun t224 => ((impl_within.f a1_1 t224 t213).bind fun t225 => (if t225 = true then (if t217.length < 5864062014805 then (impl_WalStep.j0 k (!true) a0_0 a0_1 a0_2 a0_3 l0_4 t213 t214 t215 t216 (t217 ++ [(⟨a1_1, a1_4⟩ : S125)])) else (none)) else (impl_WalStep.j0 k (!false) a0_0 a0_1 a0_2 a0_3 l0_4 t213 t214 t215 t216 t217))))) else (impl_WalStep.j0 k (!false) a0_0 a0_1 a0_2 a0_3 l0_4 t213 t214 t215 t216 t217))) else (if a1_0 = 3 then ((impl_Wal_end.f t213 t214 t215 t216 t217).bind fun t229 => ((impl_within.f a1_2 (wrap64 (t215 + 1)) t229).bind fun t230 => (if t230 = true then (if 0 ≤ (wrap64 ((wrap64 (a1_2 - t215)) - 1)) then (if (wrap64 ((wrap64 (a1_2 - t215)) - 1)) ≤ (t217.length : Int) then (impl_WalStep.j0 k (!true) a0_0 a0_1 a0_2 a0_3 l0_4 t213 t214 t215 t216 (t217.take ((wrap64 ((wrap64 (a1_2 - t215)) - 1)) : Int).toNat)) else (none)) else (none)) else (impl_WalStep.j0 k (!false) a0_0 a0_1 a0_2 a0_3 l0_4 t213 t214 t215 t216 t217)))) else (impl_WalStep.j0 k (!false) a0_0 a0_1 a0_2 a0_3 l0_4 t213 t214 t215 t216 t217)))) = some (r1, r2, r3, r4, r5, r6) := by rw [if_pos rfl] at H; exact H
    clear H; have H := H1
    clear H1
    by_cases c24 : a1_0 = 1
    ·rw [if_pos c24] at H
     have c24b0 : (a1_0 == 1) = true := beq_iff_eq.mpr c24
     have c24b1 : (a1_0 != 1) = false := bne_eq_false_iff_eq.mpr c24
     clear c24
     (first | rw [c24b0] | (simp only [i64_w, i32_w]; rw [c24b0]) | skip)
     by_cases c25 : a1_1 < t213
     ·rw [if_pos c25] at H
      have c25b0 : decide (a1_1 < t213) = true := decide_eq_true c25
      clear c25; have H' := Aside0.mk H
      clear H; have hnb26 := NB210_209.out; have hnc26 := NB209_210.out; have hnb27 := NB210_211.out; have hnc27 := NB211_210.out; have hnb28 := NB210_220.out; have hnc28 := NB220_210.out; obtain ⟨hcz29_0, hcz29_1, hcz29_2, hcz29_3, hcz29_4⟩ := cs5 BK210; obtain ⟨hfz29_0, hfz29_1, hfz29_2, hfz29_3, hfz29_4⟩ := fs5 BK210
      go_wp2_with (first | ((with_reducible refine gate_callee (f := 101) rfl ?_); refine goesL_ (some 14) rfl rfl Try.func101 (by kernel_rfl) rfl #[.agg #[.int .i64 a1_0, .int .i64 a1_1, .int .i64 a1_2, .int .i64 a1_3, .string a1_4]] rfl (by (try simp only [List.map_toArray, List.map_cons, List.map_nil]); first | done | rfl | (simp only [List.length_drop, List.length_take]; rfl)) ?_; (with_reducible refine (impl_RecOk.calls a1_0 a1_1 a1_2 a1_3 a1_4 true _ A22.out).mono ?_); rintro e w30 ⟨rfl, hb⟩; refine ⟨_, rfl, ?_⟩; have n0_ := Aside0.mk (Kd.R_below (by (with_reducible repeat (first | apply Kd.R_alloc | apply Kd.R_drewN | apply Kd.R_drew)); exact (Kd.R_mono (Kd.R_far (p := ⟨gb220, 4, none⟩) (Kd.R_far (p := ⟨gb220, 3, none⟩) (Kd.R_far (p := ⟨gb220, 2, none⟩) (Kd.R_far (p := ⟨gb220, 1, none⟩) (Kd.R_far (p := ⟨gb220, 0, none⟩) (Kd.R_types HO219.out BK220.out (by decide)) (fun _ hk => hk.2) (.int .i64 t213)) (fun _ hk => hk.2) (.int .i64 t214)) (fun _ hk => hk.2) (.int .i64 t215)) (fun _ hk => hk.2) (.int .i64 t216)) (fun _ hk => hk.2) (.slice Ao21 t217.length co21)) (fun _ h_ => h_.1))) hb); have n1_ := bf BK209 hb; have n2_ := bf BK210 hb; have n3_ := bf BK211 hb; have n4_ := bp #[.int .i64 t213, .int .i64 t214, .int .i64 t215, .int .i64 t216, .slice Ao21 t217.length co21] BK220 hb; have n5_ := Aside0.mk (below_step (be HB) hb); clear HO219 BK209 BK210 BK211 BK220 HB; have HO219 := n0_; have BK209 := n1_; have BK210 := n2_; have BK211 := n3_; have BK220 := n4_; have HB := n5_; clear n0_ n1_ n2_ n3_ n4_ n5_; (try clear hb); (try clear hb2); (try clear hk); (try clear hi); obtain ⟨hcz31_0, hcz31_1, hcz31_2, hcz31_3, hcz31_4⟩ := cs5 BK210; obtain ⟨hfz31_0, hfz31_1, hfz31_2, hfz31_3, hfz31_4⟩ := fs5 BK210) | ((with_reducible refine gate_dst (N := 3) rfl ?_); refine box_event ?hg (N := 3) ?hd (cs := #[.int .i64 a1_0, .int .i64 a1_1, .int .i64 a1_2, .int .i64 a1_3, .string a1_4]) (t := 44) ?hr ?_; (case hd => rfl); (case hg => rfl); (case hr => first | (go_simp; done) | (go_simp; rfl)); intro gb222 hg w32 hbox hb; have n5_ := Aside0.mk (below_step (be HB) hb); have BK222 := Aside0.mk (hbox); have GW222 := bs HB hg; have GE222 := bs HB hg; have NB209_222 := bl BK209 hg; have NB222_209 := bg BK209 hg; have NB210_222 := bl BK210 hg; have NB222_210 := bg BK210 hg; have NB211_222 := bl BK211 hg; have NB222_211 := bg BK211 hg; have NB220_222 := bl BK220 hg; have NB222_220 := bg BK220 hg; replace HO219 := Aside0.mk (Kd.R_below (rr HO219) hb); replace BK209 := bq BK209 hb; replace BK210 := bq BK210 hb; replace BK211 := bq BK211 hb; replace BK220 := bq BK220 hb; clear HB; have HB := n5_; clear n5_; clear hb hbox hg; have hnb33 := NB222_209.out; have hnc33 := NB209_222.out; have hnb34 := NB222_210.out; have hnc34 := NB210_222.out; have hnb35 := NB222_211.out; have hnc35 := NB211_222.out; have hnb36 := NB222_220.out; have hnc36 := NB220_222.out; obtain ⟨hcz37_0, hcz37_1, hcz37_2, hcz37_3, hcz37_4⟩ := cs5 BK222; obtain ⟨hfz37_0, hfz37_1, hfz37_2, hfz37_3, hfz37_4⟩ := fs5 BK222) | (go_at_call 102; go_in))
      have n0_ := Aside0.mk (Kd.R_drew HO219.out)
      have n1_ := Aside0.mk (blk_drew BK209.out)
      have n2_ := Aside0.mk (blk_drew BK210.out)
      have n3_ := Aside0.mk (blk_drew BK211.out)
      have n4_ := Aside0.mk (blk_drew BK220.out)
      have n5_ := Aside0.mk (blk_drew BK222.out)
      have n6_ := Aside0.mk (below_drew1 HB.out)
      clear HO219 BK209 BK210 BK211 BK220 BK222 HB; have HO219 := n0_; have BK209 := n1_; have BK210 := n2_; have BK211 := n3_; have BK220 := n4_; have BK222 := n5_; have HB := n6_; clear n0_ n1_ n2_ n3_ n4_ n5_ n6_; refine start_ (n := 32) (S := fun w' => w'.cell? ⟨gb222, 0, none⟩ = some (.int .i64 a1_0) ∧ w'.cell? ⟨gb222, 1, none⟩ = some (.int .i64 a1_1) ∧ w'.cell? ⟨gb222, 2, none⟩ = some (.int .i64 a1_2) ∧ w'.cell? ⟨gb222, 3, none⟩ = some (.int .i64 a1_3) ∧ w'.cell? ⟨gb222, 4, none⟩ = some (.string a1_4) ∧ w'.cell? ⟨gb220, 0, none⟩ = some (.int .i64 t213) ∧ w'.cell? ⟨gb220, 1, none⟩ = some (.int .i64 t214) ∧ w'.cell? ⟨gb220, 2, none⟩ = some (.int .i64 t215) ∧ w'.cell? ⟨gb220, 3, none⟩ = some (.int .i64 t216) ∧ w'.cell? ⟨gb220, 4, none⟩ = some (.slice Ao21 t217.length co21)) (ds := []) #[false, false, false, false, false, false, false, false, false, false, false, false, false, false, false, false, false, false, false, false, false, false, false, false, false, false, false, false, false, false, false, false] (by kernel_rfl) rfl rfl ⟨bc BK222 0, bc BK222 1, bc BK222 2, bc BK222 3, bc BK222 4, bc BK220 0, bc BK220 1, bc BK220 2, bc BK220 3, bc BK220 4⟩ (fun hHeld => ?_); refine with_tabW impl_WalStep.tab1004 impl_WalStep.bits1004 (fun HT_ HW_ => ?_)
      generalize w32.drew = w38 at HO219 BK209 BK210 BK211 BK220 BK222 HB hHeld ⊢
      refine pure_ (i := 0) (N := some 9) (v := ?_) (a' := ?_) #[true, false, false, false, false, false, false, false, false, false, false, false, false, false, false, false, false, false, false, false, false, false, false, false, false, false, false, false, false, false, false, false] rfl rfl (any_of HT_.out (by kernel_rfl)) (fun _ _ _ h => h) (Or.inl ⟨by rfl, ?_⟩) ?_ ?_
      rotate_left
      ·intro w'; go_simp; with_reducible rfl
      rotate_left
      ·simp only [putL, i64_w, i32_w]; rfl
      refine pure_ (i := 2) (N := some 11) (v := ?_) (a' := ?_) #[true, false, true, false, false, false, false, false, false, false, false, false, false, false, false, false, false, false, false, false, false, false, false, false, false, false, false, false, false, false, false, false] rfl rfl (any_of HT_.out (by kernel_rfl)) (fun _ _ _ h => h) (Or.inl ⟨by rfl, ?_⟩) ?_ ?_
      rotate_left
      ·intro w'; go_simp; with_reducible rfl
      rotate_left
      ·simp only [putL, i64_w, i32_w]; rfl
      refine pure_ (i := 3) (N := some 12) (v := ?_) (a' := ?_) #[true, false, true, true, false, false, false, false, false, false, false, false, false, false, false, false, false, false, false, false, false, false, false, false, false, false, false, false, false, false, false, false] rfl rfl (any_of HT_.out (by kernel_rfl)) (fun _ _ _ h => h) (Or.inl ⟨by rfl, ?_⟩) ?_ ?_
      rotate_left
      ·intro w'; go_simp; with_reducible rfl
      rotate_left
      ·simp only [putL, i64_w, i32_w]; rfl
      refine pure_ (i := 4) (N := some 13) (v := ?_) (a' := ?_) #[true, false, true, true, true, false, false, false, false, false, false, false, false, false, false, false, false, false, false, false, false, false, false, false, false, false, false, false, false, false, false, false] rfl rfl (any_of HT_.out (by kernel_rfl)) (fun _ _ _ h => h) (Or.inl ⟨by rfl, ?_⟩) ?_ ?_
      rotate_left
      ·intro w'; go_simp; with_reducible rfl
      rotate_left
      ·simp only [putL, i64_w, i32_w]; rfl
      refine take_ (i := 1) (N := some 10) (v := ?_) (a' := ?_) #[true, true, true, true, true, false, false, false, false, false, false, false, false, false, false, false, false, false, false, false, false, false, false, false, false, false, false, false, false, false, false, false] rfl rfl (take_ofW HT_.out HW_.out (by kernel_rfl)) (fun _ _ _ h => h) (Or.inl ⟨by rfl, ?_⟩) hHeld ?_ ?_
      rotate_left
      ·rintro w' ⟨s0, s1, s2, s3, s4, s5, s6, s7, s8, s9⟩
       go_simp; with_reducible rfl
      rotate_left
      ·simp only [putL, i64_w, i32_w]; rfl
      refine take_ (i := 5) (N := some 14) (v := ?_) (a' := ?_) #[true, true, true, true, true, true, false, false, false, false, false, false, false, false, false, false, false, false, false, false, false, false, false, false, false, false, false, false, false, false, false, false] rfl rfl (take_ofW HT_.out HW_.out (by kernel_rfl)) (fun _ _ _ h => h) (Or.inl ⟨by rfl, ?_⟩) hHeld ?_ ?_
      rotate_left
      ·rintro w' ⟨s0, s1, s2, s3, s4, s5, s6, s7, s8, s9⟩
       go_simp; with_reducible rfl
      rotate_left
      ·simp only [putL, i64_w, i32_w]; rfl
      refine pure_ (i := 6) (N := some 15) (v := ?_) (a' := ?_) #[true, true, true, true, true, true, true, false, false, false, false, false, false, false, false, false, false, false, false, false, false, false, false, false, false, false, false, false, false, false, false, false] rfl rfl (any_of HT_.out (by kernel_rfl)) (fun _ _ _ h => h) (Or.inl ⟨by rfl, ?_⟩) ?_ ?_
      rotate_left
      ·intro w'; go_simp; with_reducible rfl
      rotate_left
      ·simp only [putL, i64_w, i32_w]; rfl
      refine pure_ (i := 7) (N := some 16) (v := ?_) (a' := ?_) #[true, true, true, true, true, true, true, true, false, false, false, false, false, false, false, false, false, false, false, false, false, false, false, false, false, false, false, false, false, false, false, false] rfl rfl (any_of HT_.out (by kernel_rfl)) (fun _ _ _ h => h) (Or.inl ⟨by rfl, ?_⟩) ?_ ?_
      rotate_left
      ·intro w'; go_simp; with_reducible rfl
      rotate_left
      ·simp only [putL, i64_w, i32_w]; rfl
      refine pure_ (i := 8) (N := some 17) (v := undef) (a' := ?_) #[true, true, true, true, true, true, true, true, true, false, false, false, false, false, false, false, false, false, false, false, false, false, false, false, false, false, false, false, false, false, false, false] rfl rfl (any_of HT_.out (by kernel_rfl)) (fun _ _ _ h => h) (Or.inr ⟨by rfl, rfl⟩) ?_ ?_
      rotate_left
      ·simp only [putL, i64_w, i32_w]; rfl
      refine pure_ (i := 9) (N := some 18) (v := undef) (a' := ?_) #[true, true, true, true, true, true, true, true, true, true, false, false, false, false, false, false, false, false, false, false, false, false, false, false, false, false, false, false, false, false, false, false] rfl rfl (any_of HT_.out (by kernel_rfl)) (fun _ _ _ h => h) (Or.inr ⟨by rfl, rfl⟩) ?_ ?_
      rotate_left
      ·simp only [putL, i64_w, i32_w]; rfl
      refine pure_ (i := 10) (N := some 19) (v := undef) (a' := ?_) #[true, true, true, true, true, true, true, true, true, true, true, false, false, false, false, false, false, false, false, false, false, false, false, false, false, false, false, false, false, false, false, false] rfl rfl (any_of HT_.out (by kernel_rfl)) (fun _ _ _ h => h) (Or.inr ⟨by rfl, rfl⟩) ?_ ?_
      rotate_left
      ·simp only [putL, i64_w, i32_w]; rfl
      refine pure_ (i := 11) (N := some 20) (v := undef) (a' := ?_) #[true, true, true, true, true, true, true, true, true, true, true, true, false, false, false, false, false, false, false, false, false, false, false, false, false, false, false, false, false, false, false, false] rfl rfl (any_of HT_.out (by kernel_rfl)) (fun _ _ _ h => h) (Or.inr ⟨by rfl, rfl⟩) ?_ ?_
      rotate_left
      ·simp only [putL, i64_w, i32_w]; rfl
      refine pure_ (i := 12) (N := some 21) (v := undef) (a' := ?_) #[true, true, true, true, true, true, true, true, true, true, true, true, true, false, false, false, false, false, false, false, false, false, false, false, false, false, false, false, false, false, false, false] rfl rfl (any_of HT_.out (by kernel_rfl)) (fun _ _ _ h => h) (Or.inr ⟨by rfl, rfl⟩) ?_ ?_
      rotate_left
      ·simp only [putL, i64_w, i32_w]; rfl
      refine pure_ (i := 13) (N := some 22) (v := undef) (a' := ?_) #[true, true, true, true, true, true, true, true, true, true, true, true, true, true, false, false, false, false, false, false, false, false, false, false, false, false, false, false, false, false, false, false] rfl rfl (any_of HT_.out (by kernel_rfl)) (fun _ _ _ h => h) (Or.inr ⟨by rfl, rfl⟩) ?_ ?_
      rotate_left
      ·simp only [putL, i64_w, i32_w]; rfl
      refine pure_ (i := 14) (N := some 23) (v := undef) (a' := ?_) #[true, true, true, true, true, true, true, true, true, true, true, true, true, true, true, false, false, false, false, false, false, false, false, false, false, false, false, false, false, false, false, false] rfl rfl (any_of HT_.out (by kernel_rfl)) (fun _ _ _ h => h) (Or.inr ⟨by rfl, rfl⟩) ?_ ?_
      rotate_left
      ·simp only [putL, i64_w, i32_w]; rfl
      refine pure_ (i := 15) (N := some 24) (v := undef) (a' := ?_) #[true, true, true, true, true, true, true, true, true, true, true, true, true, true, true, true, false, false, false, false, false, false, false, false, false, false, false, false, false, false, false, false] rfl rfl (any_of HT_.out (by kernel_rfl)) (fun _ _ _ h => h) (Or.inr ⟨by rfl, rfl⟩) ?_ ?_
      rotate_left
      ·simp only [putL, i64_w, i32_w]; rfl
      refine pure_ (i := 16) (N := some 25) (v := undef) (a' := ?_) #[true, true, true, true, true, true, true, true, true, true, true, true, true, true, true, true, true, false, false, false, false, false, false, false, false, false, false, false, false, false, false, false] rfl rfl (any_of HT_.out (by kernel_rfl)) (fun _ _ _ h => h) (Or.inr ⟨by rfl, rfl⟩) ?_ ?_
      rotate_left
      ·simp only [putL, i64_w, i32_w]; rfl
      refine pure_ (i := 17) (N := some 26) (v := undef) (a' := ?_) #[true, true, true, true, true, true, true, true, true, true, true, true, true, true, true, true, true, true, false, false, false, false, false, false, false, false, false, false, false, false, false, false] rfl rfl (any_of HT_.out (by kernel_rfl)) (fun _ _ _ h => h) (Or.inr ⟨by rfl, rfl⟩) ?_ ?_
      rotate_left
      ·simp only [putL, i64_w, i32_w]; rfl
      refine pure_ (i := 18) (N := some 27) (v := undef) (a' := ?_) #[true, true, true, true, true, true, true, true, true, true, true, true, true, true, true, true, true, true, true, false, false, false, false, false, false, false, false, false, false, false, false, false] rfl rfl (any_of HT_.out (by kernel_rfl)) (fun _ _ _ h => h) (Or.inr ⟨by rfl, rfl⟩) ?_ ?_
      rotate_left
      ·simp only [putL, i64_w, i32_w]; rfl
      refine pure_ (i := 19) (N := some 28) (v := undef) (a' := ?_) #[true, true, true, true, true, true, true, true, true, true, true, true, true, true, true, true, true, true, true, true, false, false, false, false, false, false, false, false, false, false, false, false] rfl rfl (any_of HT_.out (by kernel_rfl)) (fun _ _ _ h => h) (Or.inr ⟨by rfl, rfl⟩) ?_ ?_
      rotate_left
      ·simp only [putL, i64_w, i32_w]; rfl
      refine pure_ (i := 20) (N := some 29) (v := undef) (a' := ?_) #[true, true, true, true, true, true, true, true, true, true, true, true, true, true, true, true, true, true, true, true, true, false, false, false, false, false, false, false, false, false, false, false] rfl rfl (any_of HT_.out (by kernel_rfl)) (fun _ _ _ h => h) (Or.inr ⟨by rfl, rfl⟩) ?_ ?_
      rotate_left
      ·simp only [putL, i64_w, i32_w]; rfl
      refine pure_ (i := 21) (N := some 30) (v := undef) (a' := ?_) #[true, true, true, true, true, true, true, true, true, true, true, true, true, true, true, true, true, true, true, true, true, true, false, false, false, false, false, false, false, false, false, false] rfl rfl (any_of HT_.out (by kernel_rfl)) (fun _ _ _ h => h) (Or.inr ⟨by rfl, rfl⟩) ?_ ?_
      rotate_left
      ·simp only [putL, i64_w, i32_w]; rfl
      refine pure_ (i := 22) (N := some 31) (v := undef) (a' := ?_) #[true, true, true, true, true, true, true, true, true, true, true, true, true, true, true, true, true, true, true, true, true, true, true, false, false, false, false, false, false, false, false, false] rfl rfl (any_of HT_.out (by kernel_rfl)) (fun _ _ _ h => h) (Or.inr ⟨by rfl, rfl⟩) ?_ ?_
      rotate_left
      ·simp only [putL, i64_w, i32_w]; rfl
      refine pure_ (i := 23) (N := some 32) (v := undef) (a' := ?_) #[true, true, true, true, true, true, true, true, true, true, true, true, true, true, true, true, true, true, true, true, true, true, true, true, false, false, false, false, false, false, false, false] rfl rfl (any_of HT_.out (by kernel_rfl)) (fun _ _ _ h => h) (Or.inr ⟨by rfl, rfl⟩) ?_ ?_
      rotate_left
      ·simp only [putL, i64_w, i32_w]; rfl
      refine pure_ (i := 24) (N := some 33) (v := undef) (a' := ?_) #[true, true, true, true, true, true, true, true, true, true, true, true, true, true, true, true, true, true, true, true, true, true, true, true, true, false, false, false, false, false, false, false] rfl rfl (any_of HT_.out (by kernel_rfl)) (fun _ _ _ h => h) (Or.inr ⟨by rfl, rfl⟩) ?_ ?_
      rotate_left
      ·simp only [putL, i64_w, i32_w]; rfl
      refine pure_ (i := 25) (N := some 34) (v := undef) (a' := ?_) #[true, true, true, true, true, true, true, true, true, true, true, true, true, true, true, true, true, true, true, true, true, true, true, true, true, true, false, false, false, false, false, false] rfl rfl (any_of HT_.out (by kernel_rfl)) (fun _ _ _ h => h) (Or.inr ⟨by rfl, rfl⟩) ?_ ?_
      rotate_left
      ·simp only [putL, i64_w, i32_w]; rfl
      refine pure_ (i := 26) (N := some 35) (v := undef) (a' := ?_) #[true, true, true, true, true, true, true, true, true, true, true, true, true, true, true, true, true, true, true, true, true, true, true, true, true, true, true, false, false, false, false, false] rfl rfl (any_of HT_.out (by kernel_rfl)) (fun _ _ _ h => h) (Or.inr ⟨by rfl, rfl⟩) ?_ ?_
      rotate_left
      ·simp only [putL, i64_w, i32_w]; rfl
      refine pure_ (i := 27) (N := some 36) (v := undef) (a' := ?_) #[true, true, true, true, true, true, true, true, true, true, true, true, true, true, true, true, true, true, true, true, true, true, true, true, true, true, true, true, false, false, false, false] rfl rfl (any_of HT_.out (by kernel_rfl)) (fun _ _ _ h => h) (Or.inr ⟨by rfl, rfl⟩) ?_ ?_
      rotate_left
      ·simp only [putL, i64_w, i32_w]; rfl
      refine pure_ (i := 28) (N := some 37) (v := undef) (a' := ?_) #[true, true, true, true, true, true, true, true, true, true, true, true, true, true, true, true, true, true, true, true, true, true, true, true, true, true, true, true, true, false, false, false] rfl rfl (any_of HT_.out (by kernel_rfl)) (fun _ _ _ h => h) (Or.inr ⟨by rfl, rfl⟩) ?_ ?_
      rotate_left
      ·simp only [putL, i64_w, i32_w]; rfl
      refine pure_ (i := 29) (N := some 38) (v := undef) (a' := ?_) #[true, true, true, true, true, true, true, true, true, true, true, true, true, true, true, true, true, true, true, true, true, true, true, true, true, true, true, true, true, true, false, false] rfl rfl (any_of HT_.out (by kernel_rfl)) (fun _ _ _ h => h) (Or.inr ⟨by rfl, rfl⟩) ?_ ?_
      rotate_left
      ·simp only [putL, i64_w, i32_w]; rfl
      refine pure_ (i := 30) (N := some 39) (v := undef) (a' := ?_) #[true, true, true, true, true, true, true, true, true, true, true, true, true, true, true, true, true, true, true, true, true, true, true, true, true, true, true, true, true, true, true, false] rfl rfl (any_of HT_.out (by kernel_rfl)) (fun _ _ _ h => h) (Or.inr ⟨by rfl, rfl⟩) ?_ ?_
      rotate_left
      ·simp only [putL, i64_w, i32_w]; rfl
      refine pure_ (i := 31) (N := some 40) (v := ?_) (a' := ?_) #[true, true, true, true, true, true, true, true, true, true, true, true, true, true, true, true, true, true, true, true, true, true, true, true, true, true, true, true, true, true, true, true] rfl rfl (any_of HT_.out (by kernel_rfl)) (fun _ _ _ h => h) (Or.inl ⟨by rfl, ?_⟩) ?_ ?_
      rotate_left
      ·intro w'; go_simp; with_reducible rfl
      rotate_left
      ·simp only [putL, i64_w, i32_w]; rfl
      refine done_ (done_of HT_.out (by kernel_rfl)) ?_
      go_wp2
      go_meet
      case rel => exact ⟨_, (!false), (t213), (t214), (t215), (t216), (t217), (.slice Ao21 t217.length co21), (by first | rfl | (simp; done) | (simp [*]; done)), H', ⟨by first | omega | exact Nat.le_refl _⟩, ⟨rr HO219⟩, ⟨bb BK209⟩, ⟨bb BK210⟩, ⟨bb BK211⟩, ⟨bb BK220⟩, ⟨by repeat (first | (with_reducible first | exact HB.out | apply below_alloc | apply pw_below_drewN | apply below_drew1 | refine below_set ?_ GE209.out | refine below_set ?_ GE210.out | refine below_set ?_ GE211.out | refine below_set ?_ GE220.out | refine below_set ?_ GE222.out) | exact HB.out)⟩⟩
     ·rw [if_neg c25] at H
      have c25b0 : decide (a1_1 < t213) = false := decide_eq_false c25
      clear c25
      by_cases c39 : a1_1 = t213
      ·rw [if_pos c39] at H
       have c39b0 : (a1_1 == t213) = true := beq_iff_eq.mpr c39
       have c39b1 : (a1_1 != t213) = false := bne_eq_false_iff_eq.mpr c39
       clear c39
       by_cases c40 : t214 = (-1)
       ·rw [if_pos c40] at H
        have c40b0 : (t214 == (-1)) = true := beq_iff_eq.mpr c40
        have c40b1 : (t214 != (-1)) = false := bne_eq_false_iff_eq.mpr c40
        clear c40; have H' := Aside0.mk H
        clear H; have hnb41 := NB210_209.out; have hnc41 := NB209_210.out; have hnb42 := NB210_211.out; have hnc42 := NB211_210.out; have hnb43 := NB210_220.out; have hnc43 := NB220_210.out; obtain ⟨hcz44_0, hcz44_1, hcz44_2, hcz44_3, hcz44_4⟩ := cs5 BK210; obtain ⟨hfz44_0, hfz44_1, hfz44_2, hfz44_3, hfz44_4⟩ := fs5 BK210
        go_wp2_with (first | ((with_reducible refine gate_callee (f := 101) rfl ?_); refine goesL_ (some 14) rfl rfl Try.func101 (by kernel_rfl) rfl #[.agg #[.int .i64 a1_0, .int .i64 a1_1, .int .i64 a1_2, .int .i64 a1_3, .string a1_4]] rfl (by (try simp only [List.map_toArray, List.map_cons, List.map_nil]); first | done | rfl | (simp only [List.length_drop, List.length_take]; rfl)) ?_; (with_reducible refine (impl_RecOk.calls a1_0 a1_1 a1_2 a1_3 a1_4 true _ A22.out).mono ?_); rintro e w45 ⟨rfl, hb⟩; refine ⟨_, rfl, ?_⟩; have n0_ := Aside0.mk (Kd.R_below (by (with_reducible repeat (first | apply Kd.R_alloc | apply Kd.R_drewN | apply Kd.R_drew)); exact (Kd.R_mono (Kd.R_far (p := ⟨gb220, 4, none⟩) (Kd.R_far (p := ⟨gb220, 3, none⟩) (Kd.R_far (p := ⟨gb220, 2, none⟩) (Kd.R_far (p := ⟨gb220, 1, none⟩) (Kd.R_far (p := ⟨gb220, 0, none⟩) (Kd.R_types HO219.out BK220.out (by decide)) (fun _ hk => hk.2) (.int .i64 t213)) (fun _ hk => hk.2) (.int .i64 t214)) (fun _ hk => hk.2) (.int .i64 t215)) (fun _ hk => hk.2) (.int .i64 t216)) (fun _ hk => hk.2) (.slice Ao21 t217.length co21)) (fun _ h_ => h_.1))) hb); have n1_ := bf BK209 hb; have n2_ := bf BK210 hb; have n3_ := bf BK211 hb; have n4_ := bp #[.int .i64 t213, .int .i64 t214, .int .i64 t215, .int .i64 t216, .slice Ao21 t217.length co21] BK220 hb; have n5_ := Aside0.mk (below_step (be HB) hb); clear HO219 BK209 BK210 BK211 BK220 HB; have HO219 := n0_; have BK209 := n1_; have BK210 := n2_; have BK211 := n3_; have BK220 := n4_; have HB := n5_; clear n0_ n1_ n2_ n3_ n4_ n5_; (try clear hb); (try clear hb2); (try clear hk); (try clear hi); obtain ⟨hcz46_0, hcz46_1, hcz46_2, hcz46_3, hcz46_4⟩ := cs5 BK210; obtain ⟨hfz46_0, hfz46_1, hfz46_2, hfz46_3, hfz46_4⟩ := fs5 BK210) | ((with_reducible refine gate_dst (N := 3) rfl ?_); refine box_event ?hg (N := 3) ?hd (cs := #[.int .i64 a1_0, .int .i64 a1_1, .int .i64 a1_2, .int .i64 a1_3, .string a1_4]) (t := 44) ?hr ?_; (case hd => rfl); (case hg => rfl); (case hr => first | (go_simp; done) | (go_simp; rfl)); intro gb222 hg w47 hbox hb; have n5_ := Aside0.mk (below_step (be HB) hb); have BK222 := Aside0.mk (hbox); have GW222 := bs HB hg; have GE222 := bs HB hg; have NB209_222 := bl BK209 hg; have NB222_209 := bg BK209 hg; have NB210_222 := bl BK210 hg; have NB222_210 := bg BK210 hg; have NB211_222 := bl BK211 hg; have NB222_211 := bg BK211 hg; have NB220_222 := bl BK220 hg; have NB222_220 := bg BK220 hg; replace HO219 := Aside0.mk (Kd.R_below (rr HO219) hb); replace BK209 := bq BK209 hb; replace BK210 := bq BK210 hb; replace BK211 := bq BK211 hb; replace BK220 := bq BK220 hb; clear HB; have HB := n5_; clear n5_; clear hb hbox hg; have hnb48 := NB222_209.out; have hnc48 := NB209_222.out; have hnb49 := NB222_210.out; have hnc49 := NB210_222.out; have hnb50 := NB222_211.out; have hnc50 := NB211_222.out; have hnb51 := NB222_220.out; have hnc51 := NB220_222.out; obtain ⟨hcz52_0, hcz52_1, hcz52_2, hcz52_3, hcz52_4⟩ := cs5 BK222; obtain ⟨hfz52_0, hfz52_1, hfz52_2, hfz52_3, hfz52_4⟩ := fs5 BK222) | (go_at_call 102; go_in))
        have n0_ := Aside0.mk (Kd.R_drew HO219.out)
        have n1_ := Aside0.mk (blk_drew BK209.out)
        have n2_ := Aside0.mk (blk_drew BK210.out)
        have n3_ := Aside0.mk (blk_drew BK211.out)
        have n4_ := Aside0.mk (blk_drew BK220.out)
        have n5_ := Aside0.mk (blk_drew BK222.out)
        have n6_ := Aside0.mk (below_drew1 HB.out)
        clear HO219 BK209 BK210 BK211 BK220 BK222 HB; have HO219 := n0_; have BK209 := n1_; have BK210 := n2_; have BK211 := n3_; have BK220 := n4_; have BK222 := n5_; have HB := n6_; clear n0_ n1_ n2_ n3_ n4_ n5_ n6_; refine start_ (n := 32) (S := fun w' => w'.cell? ⟨gb222, 0, none⟩ = some (.int .i64 a1_0) ∧ w'.cell? ⟨gb222, 1, none⟩ = some (.int .i64 a1_1) ∧ w'.cell? ⟨gb222, 2, none⟩ = some (.int .i64 a1_2) ∧ w'.cell? ⟨gb222, 3, none⟩ = some (.int .i64 a1_3) ∧ w'.cell? ⟨gb222, 4, none⟩ = some (.string a1_4) ∧ w'.cell? ⟨gb220, 0, none⟩ = some (.int .i64 t213) ∧ w'.cell? ⟨gb220, 1, none⟩ = some (.int .i64 t214) ∧ w'.cell? ⟨gb220, 2, none⟩ = some (.int .i64 t215) ∧ w'.cell? ⟨gb220, 3, none⟩ = some (.int .i64 t216) ∧ w'.cell? ⟨gb220, 4, none⟩ = some (.slice Ao21 t217.length co21)) (ds := []) #[false, false, false, false, false, false, false, false, false, false, false, false, false, false, false, false, false, false, false, false, false, false, false, false, false, false, false, false, false, false, false, false] (by kernel_rfl) rfl rfl ⟨bc BK222 0, bc BK222 1, bc BK222 2, bc BK222 3, bc BK222 4, bc BK220 0, bc BK220 1, bc BK220 2, bc BK220 3, bc BK220 4⟩ (fun hHeld => ?_); refine with_tabW impl_WalStep.tab1004 impl_WalStep.bits1004 (fun HT_ HW_ => ?_)
        generalize w47.drew = w53 at HO219 BK209 BK210 BK211 BK220 BK222 HB hHeld ⊢
        refine pure_ (i := 0) (N := some 9) (v := ?_) (a' := ?_) #[true, false, false, false, false, false, false, false, false, false, false, false, false, false, false, false, false, false, false, false, false, false, false, false, false, false, false, false, false, false, false, false] rfl rfl (any_of HT_.out (by kernel_rfl)) (fun _ _ _ h => h) (Or.inl ⟨by rfl, ?_⟩) ?_ ?_
        rotate_left
        ·intro w'; go_simp; with_reducible rfl
        rotate_left
        ·simp only [putL, i64_w, i32_w]; rfl
        refine pure_ (i := 2) (N := some 11) (v := ?_) (a' := ?_) #[true, false, true, false, false, false, false, false, false, false, false, false, false, false, false, false, false, false, false, false, false, false, false, false, false, false, false, false, false, false, false, false] rfl rfl (any_of HT_.out (by kernel_rfl)) (fun _ _ _ h => h) (Or.inl ⟨by rfl, ?_⟩) ?_ ?_
        rotate_left
        ·intro w'; go_simp; with_reducible rfl
        rotate_left
        ·simp only [putL, i64_w, i32_w]; rfl
        refine pure_ (i := 3) (N := some 12) (v := ?_) (a' := ?_) #[true, false, true, true, false, false, false, false, false, false, false, false, false, false, false, false, false, false, false, false, false, false, false, false, false, false, false, false, false, false, false, false] rfl rfl (any_of HT_.out (by kernel_rfl)) (fun _ _ _ h => h) (Or.inl ⟨by rfl, ?_⟩) ?_ ?_
        rotate_left
        ·intro w'; go_simp; with_reducible rfl
        rotate_left
        ·simp only [putL, i64_w, i32_w]; rfl
        refine pure_ (i := 4) (N := some 13) (v := ?_) (a' := ?_) #[true, false, true, true, true, false, false, false, false, false, false, false, false, false, false, false, false, false, false, false, false, false, false, false, false, false, false, false, false, false, false, false] rfl rfl (any_of HT_.out (by kernel_rfl)) (fun _ _ _ h => h) (Or.inl ⟨by rfl, ?_⟩) ?_ ?_
        rotate_left
        ·intro w'; go_simp; with_reducible rfl
        rotate_left
        ·simp only [putL, i64_w, i32_w]; rfl
        refine take_ (i := 1) (N := some 10) (v := ?_) (a' := ?_) #[true, true, true, true, true, false, false, false, false, false, false, false, false, false, false, false, false, false, false, false, false, false, false, false, false, false, false, false, false, false, false, false] rfl rfl (take_ofW HT_.out HW_.out (by kernel_rfl)) (fun _ _ _ h => h) (Or.inl ⟨by rfl, ?_⟩) hHeld ?_ ?_
        rotate_left
        ·rintro w' ⟨s0, s1, s2, s3, s4, s5, s6, s7, s8, s9⟩
         go_simp; with_reducible rfl
        rotate_left
        ·simp only [putL, i64_w, i32_w]; rfl
        refine take_ (i := 5) (N := some 14) (v := ?_) (a' := ?_) #[true, true, true, true, true, true, false, false, false, false, false, false, false, false, false, false, false, false, false, false, false, false, false, false, false, false, false, false, false, false, false, false] rfl rfl (take_ofW HT_.out HW_.out (by kernel_rfl)) (fun _ _ _ h => h) (Or.inl ⟨by rfl, ?_⟩) hHeld ?_ ?_
        rotate_left
        ·rintro w' ⟨s0, s1, s2, s3, s4, s5, s6, s7, s8, s9⟩
         go_simp; with_reducible rfl
        rotate_left
        ·simp only [putL, i64_w, i32_w]; rfl
        refine pure_ (i := 6) (N := some 15) (v := ?_) (a' := ?_) #[true, true, true, true, true, true, true, false, false, false, false, false, false, false, false, false, false, false, false, false, false, false, false, false, false, false, false, false, false, false, false, false] rfl rfl (any_of HT_.out (by kernel_rfl)) (fun _ _ _ h => h) (Or.inl ⟨by rfl, ?_⟩) ?_ ?_
        rotate_left
        ·intro w'; go_simp; with_reducible rfl
        rotate_left
        ·simp only [putL, i64_w, i32_w]; rfl
        refine pure_ (i := 7) (N := some 16) (v := ?_) (a' := ?_) #[true, true, true, true, true, true, true, true, false, false, false, false, false, false, false, false, false, false, false, false, false, false, false, false, false, false, false, false, false, false, false, false] rfl rfl (any_of HT_.out (by kernel_rfl)) (fun _ _ _ h => h) (Or.inl ⟨by rfl, ?_⟩) ?_ ?_
        rotate_left
        ·intro w'; go_simp; with_reducible rfl
        rotate_left
        ·simp only [putL, i64_w, i32_w]; rfl
        refine pure_ (i := 8) (N := some 17) (v := ?_) (a' := ?_) #[true, true, true, true, true, true, true, true, true, false, false, false, false, false, false, false, false, false, false, false, false, false, false, false, false, false, false, false, false, false, false, false] rfl rfl (any_of HT_.out (by kernel_rfl)) (fun _ _ _ h => h) (Or.inl ⟨by rfl, ?_⟩) ?_ ?_
        rotate_left
        ·intro w'; go_simp; with_reducible rfl
        rotate_left
        ·simp only [putL, i64_w, i32_w]; rfl
        refine pure_ (i := 10) (N := some 19) (v := ?_) (a' := ?_) #[true, true, true, true, true, true, true, true, true, false, true, false, false, false, false, false, false, false, false, false, false, false, false, false, false, false, false, false, false, false, false, false] rfl rfl (any_of HT_.out (by kernel_rfl)) (fun _ _ _ h => h) (Or.inl ⟨by rfl, ?_⟩) ?_ ?_
        rotate_left
        ·intro w'; go_simp; with_reducible rfl
        rotate_left
        ·simp only [putL, i64_w, i32_w]; rfl
        refine pure_ (i := 11) (N := some 20) (v := ?_) (a' := ?_) #[true, true, true, true, true, true, true, true, true, false, true, true, false, false, false, false, false, false, false, false, false, false, false, false, false, false, false, false, false, false, false, false] rfl rfl (any_of HT_.out (by kernel_rfl)) (fun _ _ _ h => h) (Or.inl ⟨by rfl, ?_⟩) ?_ ?_
        rotate_left
        ·intro w'; go_simp; with_reducible rfl
        rotate_left
        ·simp only [putL, i64_w, i32_w]; rfl
        refine pure_ (i := 12) (N := some 21) (v := ?_) (a' := ?_) #[true, true, true, true, true, true, true, true, true, false, true, true, true, false, false, false, false, false, false, false, false, false, false, false, false, false, false, false, false, false, false, false] rfl rfl (any_of HT_.out (by kernel_rfl)) (fun _ _ _ h => h) (Or.inl ⟨by rfl, ?_⟩) ?_ ?_
        rotate_left
        ·intro w'; go_simp; with_reducible rfl
        rotate_left
        ·simp only [putL, i64_w, i32_w]; rfl
        refine take_ (i := 9) (N := some 18) (v := ?_) (a' := ?_) #[true, true, true, true, true, true, true, true, true, true, true, true, true, false, false, false, false, false, false, false, false, false, false, false, false, false, false, false, false, false, false, false] rfl rfl (take_ofW HT_.out HW_.out (by kernel_rfl)) (fun _ _ _ h => h) (Or.inl ⟨by rfl, ?_⟩) hHeld ?_ ?_
        rotate_left
        ·rintro w' ⟨s0, s1, s2, s3, s4, s5, s6, s7, s8, s9⟩
         go_simp; with_reducible rfl
        rotate_left
        ·simp only [putL, i64_w, i32_w]; rfl
        refine take_ (i := 13) (N := some 22) (v := ?_) (a' := ?_) #[true, true, true, true, true, true, true, true, true, true, true, true, true, true, false, false, false, false, false, false, false, false, false, false, false, false, false, false, false, false, false, false] rfl rfl (take_ofW HT_.out HW_.out (by kernel_rfl)) (fun _ _ _ h => h) (Or.inl ⟨by rfl, ?_⟩) hHeld ?_ ?_
        rotate_left
        ·rintro w' ⟨s0, s1, s2, s3, s4, s5, s6, s7, s8, s9⟩
         go_simp; with_reducible rfl
        rotate_left
        ·simp only [putL, i64_w, i32_w]; rfl
        refine pure_ (i := 14) (N := some 23) (v := ?_) (a' := ?_) #[true, true, true, true, true, true, true, true, true, true, true, true, true, true, true, false, false, false, false, false, false, false, false, false, false, false, false, false, false, false, false, false] rfl rfl (any_of HT_.out (by kernel_rfl)) (fun _ _ _ h => h) (Or.inl ⟨by rfl, ?_⟩) ?_ ?_
        rotate_left
        ·intro w'; go_simp; with_reducible rfl
        rotate_left
        ·simp only [putL, i64_w, i32_w]; rfl
        refine pure_ (i := 15) (N := some 24) (v := ?_) (a' := ?_) #[true, true, true, true, true, true, true, true, true, true, true, true, true, true, true, true, false, false, false, false, false, false, false, false, false, false, false, false, false, false, false, false] rfl rfl (any_of HT_.out (by kernel_rfl)) (fun _ _ _ h => h) (Or.inl ⟨by rfl, ?_⟩) ?_ ?_
        rotate_left
        ·intro w'; go_simp; with_reducible rfl
        rotate_left
        ·simp only [putL, i64_w, i32_w]; rfl
        refine pure_ (i := 16) (N := some 25) (v := ?_) (a' := ?_) #[true, true, true, true, true, true, true, true, true, true, true, true, true, true, true, true, true, false, false, false, false, false, false, false, false, false, false, false, false, false, false, false] rfl rfl (any_of HT_.out (by kernel_rfl)) (fun _ _ _ h => h) (Or.inl ⟨by rfl, ?_⟩) ?_ ?_
        rotate_left
        ·intro w'; go_simp; with_reducible rfl
        rotate_left
        ·simp only [putL, i64_w, i32_w]; rfl
        refine pure_ (i := 17) (N := some 26) (v := ?_) (a' := ?_) #[true, true, true, true, true, true, true, true, true, true, true, true, true, true, true, true, true, true, false, false, false, false, false, false, false, false, false, false, false, false, false, false] rfl rfl (any_of HT_.out (by kernel_rfl)) (fun _ _ _ h => h) (Or.inl ⟨by rfl, ?_⟩) ?_ ?_
        rotate_left
        ·intro w'; go_simp; with_reducible rfl
        rotate_left
        ·simp only [putL, i64_w, i32_w]; rfl
        refine pure_ (i := 18) (N := some 27) (v := ?_) (a' := ?_) #[true, true, true, true, true, true, true, true, true, true, true, true, true, true, true, true, true, true, true, false, false, false, false, false, false, false, false, false, false, false, false, false] rfl rfl (any_of HT_.out (by kernel_rfl)) (fun _ _ _ h => h) (Or.inl ⟨by rfl, ?_⟩) ?_ ?_
        rotate_left
        ·intro w'; go_simp; with_reducible rfl
        rotate_left
        ·simp only [putL, i64_w, i32_w]; rfl
        refine take_ (i := 19) (N := some 28) (v := ?_) (a' := ?_) #[true, true, true, true, true, true, true, true, true, true, true, true, true, true, true, true, true, true, true, true, false, false, false, false, false, false, false, false, false, false, false, false] rfl rfl (take_ofW HT_.out HW_.out (by kernel_rfl)) (fun _ _ _ h => h) (Or.inl ⟨by rfl, ?_⟩) hHeld ?_ ?_
        rotate_left
        ·rintro w' ⟨s0, s1, s2, s3, s4, s5, s6, s7, s8, s9⟩
         go_simp; with_reducible rfl
        rotate_left
        ·simp only [putL, i64_w, i32_w]; rfl
        refine pure_ (i := 20) (N := some 29) (v := ?_) (a' := ?_) #[true, true, true, true, true, true, true, true, true, true, true, true, true, true, true, true, true, true, true, true, true, false, false, false, false, false, false, false, false, false, false, false] rfl rfl (any_of HT_.out (by kernel_rfl)) (fun _ _ _ h => h) (Or.inl ⟨by rfl, ?_⟩) ?_ ?_
        rotate_left
        ·intro w'; go_simp; with_reducible rfl
        rotate_left
        ·simp only [putL, i64_w, i32_w]; rfl
        refine pure_ (i := 21) (N := some 30) (v := ?_) (a' := ?_) #[true, true, true, true, true, true, true, true, true, true, true, true, true, true, true, true, true, true, true, true, true, true, false, false, false, false, false, false, false, false, false, false] rfl rfl (any_of HT_.out (by kernel_rfl)) (fun _ _ _ h => h) (Or.inl ⟨by rfl, ?_⟩) ?_ ?_
        rotate_left
        ·intro w'; go_simp; with_reducible rfl
        rotate_left
        ·simp only [putL, i64_w, i32_w]; rfl
        refine pure_ (i := 22) (N := some 31) (v := ?_) (a' := ?_) #[true, true, true, true, true, true, true, true, true, true, true, true, true, true, true, true, true, true, true, true, true, true, true, false, false, false, false, false, false, false, false, false] rfl rfl (any_of HT_.out (by kernel_rfl)) (fun _ _ _ h => h) (Or.inl ⟨by rfl, ?_⟩) ?_ ?_
        rotate_left
        ·intro w'; go_simp; with_reducible rfl
        rotate_left
        ·simp only [putL, i64_w, i32_w]; rfl
        refine pure_ (i := 23) (N := some 32) (v := undef) (a' := ?_) #[true, true, true, true, true, true, true, true, true, true, true, true, true, true, true, true, true, true, true, true, true, true, true, true, false, false, false, false, false, false, false, false] rfl rfl (any_of HT_.out (by kernel_rfl)) (fun _ _ _ h => h) (Or.inr ⟨by rfl, rfl⟩) ?_ ?_
        rotate_left
        ·simp only [putL, i64_w, i32_w]; rfl
        refine pure_ (i := 24) (N := some 33) (v := undef) (a' := ?_) #[true, true, true, true, true, true, true, true, true, true, true, true, true, true, true, true, true, true, true, true, true, true, true, true, true, false, false, false, false, false, false, false] rfl rfl (any_of HT_.out (by kernel_rfl)) (fun _ _ _ h => h) (Or.inr ⟨by rfl, rfl⟩) ?_ ?_
        rotate_left
        ·simp only [putL, i64_w, i32_w]; rfl
        refine pure_ (i := 25) (N := some 34) (v := undef) (a' := ?_) #[true, true, true, true, true, true, true, true, true, true, true, true, true, true, true, true, true, true, true, true, true, true, true, true, true, true, false, false, false, false, false, false] rfl rfl (any_of HT_.out (by kernel_rfl)) (fun _ _ _ h => h) (Or.inr ⟨by rfl, rfl⟩) ?_ ?_
        rotate_left
        ·simp only [putL, i64_w, i32_w]; rfl
        refine pure_ (i := 26) (N := some 35) (v := undef) (a' := ?_) #[true, true, true, true, true, true, true, true, true, true, true, true, true, true, true, true, true, true, true, true, true, true, true, true, true, true, true, false, false, false, false, false] rfl rfl (any_of HT_.out (by kernel_rfl)) (fun _ _ _ h => h) (Or.inr ⟨by rfl, rfl⟩) ?_ ?_
        rotate_left
        ·simp only [putL, i64_w, i32_w]; rfl
        refine pure_ (i := 27) (N := some 36) (v := undef) (a' := ?_) #[true, true, true, true, true, true, true, true, true, true, true, true, true, true, true, true, true, true, true, true, true, true, true, true, true, true, true, true, false, false, false, false] rfl rfl (any_of HT_.out (by kernel_rfl)) (fun _ _ _ h => h) (Or.inr ⟨by rfl, rfl⟩) ?_ ?_
        rotate_left
        ·simp only [putL, i64_w, i32_w]; rfl
        refine pure_ (i := 28) (N := some 37) (v := undef) (a' := ?_) #[true, true, true, true, true, true, true, true, true, true, true, true, true, true, true, true, true, true, true, true, true, true, true, true, true, true, true, true, true, false, false, false] rfl rfl (any_of HT_.out (by kernel_rfl)) (fun _ _ _ h => h) (Or.inr ⟨by rfl, rfl⟩) ?_ ?_
        rotate_left
        ·simp only [putL, i64_w, i32_w]; rfl
        refine pure_ (i := 29) (N := some 38) (v := undef) (a' := ?_) #[true, true, true, true, true, true, true, true, true, true, true, true, true, true, true, true, true, true, true, true, true, true, true, true, true, true, true, true, true, true, false, false] rfl rfl (any_of HT_.out (by kernel_rfl)) (fun _ _ _ h => h) (Or.inr ⟨by rfl, rfl⟩) ?_ ?_
        rotate_left
        ·simp only [putL, i64_w, i32_w]; rfl
        refine pure_ (i := 30) (N := some 39) (v := ?_) (a' := ?_) #[true, true, true, true, true, true, true, true, true, true, true, true, true, true, true, true, true, true, true, true, true, true, true, true, true, true, true, true, true, true, true, false] rfl rfl (any_of HT_.out (by kernel_rfl)) (fun _ _ _ h => h) (Or.inl ⟨by rfl, ?_⟩) ?_ ?_
        rotate_left
        ·intro w'; go_simp; with_reducible rfl
        rotate_left
        ·simp only [putL, i64_w, i32_w]; rfl
        refine pure_ (i := 31) (N := some 40) (v := ?_) (a' := ?_) #[true, true, true, true, true, true, true, true, true, true, true, true, true, true, true, true, true, true, true, true, true, true, true, true, true, true, true, true, true, true, true, true] rfl rfl (any_of HT_.out (by kernel_rfl)) (fun _ _ _ h => h) (Or.inl ⟨by rfl, ?_⟩) ?_ ?_
        rotate_left
        ·intro w'; go_simp; with_reducible rfl
        rotate_left
        ·simp only [putL, i64_w, i32_w]; rfl
        refine done_ (done_of HT_.out (by kernel_rfl)) ?_
        obtain ⟨hcz54_0, hcz54_1, hcz54_2, hcz54_3, hcz54_4⟩ := cs5 BK222; obtain ⟨hfz54_0, hfz54_1, hfz54_2, hfz54_3, hfz54_4⟩ := fs5 BK222; have hnb55 := NB220_209.out; have hnc55 := NB209_220.out; have hnb56 := NB220_211.out; have hnc56 := NB211_220.out; obtain ⟨hcz57_0, hcz57_1, hcz57_2, hcz57_3, hcz57_4⟩ := cs5 BK220; obtain ⟨hfz57_0, hfz57_1, hfz57_2, hfz57_3, hfz57_4⟩ := fs5 BK220
        go_wp2
        go_meet
        case rel => exact ⟨_, (!true), (a1_1), (a1_3), (t215), (t216), (t217), (.slice Ao21 t217.length co21), (by first | rfl | (simp; done) | (simp [*]; done)), H', ⟨by first | omega | exact Nat.le_refl _⟩, ⟨by (with_reducible repeat (first | apply Kd.R_alloc | apply Kd.R_drewN | apply Kd.R_drew)); exact Kd.R_mono (Kd.R_far (p := ⟨gb220, 1, none⟩) (Kd.R_far (p := ⟨gb220, 0, none⟩) (Kd.R_types HO219.out BK220.out (by decide)) (fun _ hk => hk.2) (.int .i64 a1_1)) (fun _ hk => hk.2) (.int .i64 a1_3)) (fun _ hk => trivial)⟩, ⟨by (with_reducible repeat first | refine bkN ?_ _ | refine bkD ?_ | refine bkA ?_ _ | refine blk_far ?_ NB209_220.out _); exact BK209.out⟩, ⟨by (with_reducible repeat first | refine bkN ?_ _ | refine bkD ?_ | refine bkA ?_ _ | refine blk_far ?_ NB210_220.out _); exact BK210.out⟩, ⟨by (with_reducible repeat first | refine bkN ?_ _ | refine bkD ?_ | refine bkA ?_ _ | refine blk_far ?_ NB211_220.out _); exact BK211.out⟩, ⟨by (with_reducible repeat first | refine bkN ?_ _ | refine bkD ?_ | refine bkA ?_ _); refine blk_put (cs := #[.int .i64 a1_1, .int .i64 t214, .int .i64 t215, .int .i64 t216, .slice Ao21 t217.length co21]) ?_ 1 _ rfl; (with_reducible repeat first | refine bkN ?_ _ | refine bkD ?_ | refine bkA ?_ _); refine blk_put (cs := #[.int .i64 t213, .int .i64 t214, .int .i64 t215, .int .i64 t216, .slice Ao21 t217.length co21]) ?_ 0 _ rfl; (with_reducible repeat first | refine bkN ?_ _ | refine bkD ?_ | refine bkA ?_ _); exact BK220.out⟩, ⟨by repeat (first | (with_reducible first | exact HB.out | apply below_alloc | apply pw_below_drewN | apply below_drew1 | refine below_set ?_ GE209.out | refine below_set ?_ GE210.out | refine below_set ?_ GE211.out | refine below_set ?_ GE220.out | refine below_set ?_ GE222.out) | exact HB.out)⟩⟩
       ·rw [if_neg c40] at H
        have c40b0 : (t214 == (-1)) = false := beq_eq_false_iff_ne.mpr c40
        have c40b1 : (t214 != (-1)) = true := bne_iff_ne.mpr c40
        by_cases c58 : t214 = a1_3
        ·rw [if_pos c58] at H
         have c58b0 : (t214 == a1_3) = true := beq_iff_eq.mpr c58
         have c58b1 : (t214 != a1_3) = false := bne_eq_false_iff_eq.mpr c58
         clear c58; have H' := Aside0.mk H
         clear H; have hnb59 := NB210_209.out; have hnc59 := NB209_210.out; have hnb60 := NB210_211.out; have hnc60 := NB211_210.out; have hnb61 := NB210_220.out; have hnc61 := NB220_210.out; obtain ⟨hcz62_0, hcz62_1, hcz62_2, hcz62_3, hcz62_4⟩ := cs5 BK210; obtain ⟨hfz62_0, hfz62_1, hfz62_2, hfz62_3, hfz62_4⟩ := fs5 BK210
         go_wp2_with (first | ((with_reducible refine gate_callee (f := 101) rfl ?_); refine goesL_ (some 14) rfl rfl Try.func101 (by kernel_rfl) rfl #[.agg #[.int .i64 a1_0, .int .i64 a1_1, .int .i64 a1_2, .int .i64 a1_3, .string a1_4]] rfl (by (try simp only [List.map_toArray, List.map_cons, List.map_nil]); first | done | rfl | (simp only [List.length_drop, List.length_take]; rfl)) ?_; (with_reducible refine (impl_RecOk.calls a1_0 a1_1 a1_2 a1_3 a1_4 true _ A22.out).mono ?_); rintro e w63 ⟨rfl, hb⟩; refine ⟨_, rfl, ?_⟩; have n0_ := Aside0.mk (Kd.R_below (by (with_reducible repeat (first | apply Kd.R_alloc | apply Kd.R_drewN | apply Kd.R_drew)); exact (Kd.R_mono (Kd.R_far (p := ⟨gb220, 4, none⟩) (Kd.R_far (p := ⟨gb220, 3, none⟩) (Kd.R_far (p := ⟨gb220, 2, none⟩) (Kd.R_far (p := ⟨gb220, 1, none⟩) (Kd.R_far (p := ⟨gb220, 0, none⟩) (Kd.R_types HO219.out BK220.out (by decide)) (fun _ hk => hk.2) (.int .i64 t213)) (fun _ hk => hk.2) (.int .i64 t214)) (fun _ hk => hk.2) (.int .i64 t215)) (fun _ hk => hk.2) (.int .i64 t216)) (fun _ hk => hk.2) (.slice Ao21 t217.length co21)) (fun _ h_ => h_.1))) hb); have n1_ := bf BK209 hb; have n2_ := bf BK210 hb; have n3_ := bf BK211 hb; have n4_ := bp #[.int .i64 t213, .int .i64 t214, .int .i64 t215, .int .i64 t216, .slice Ao21 t217.length co21] BK220 hb; have n5_ := Aside0.mk (below_step (be HB) hb); clear HO219 BK209 BK210 BK211 BK220 HB; have HO219 := n0_; have BK209 := n1_; have BK210 := n2_; have BK211 := n3_; have BK220 := n4_; have HB := n5_; clear n0_ n1_ n2_ n3_ n4_ n5_; (try clear hb); (try clear hb2); (try clear hk); (try clear hi); obtain ⟨hcz64_0, hcz64_1, hcz64_2, hcz64_3, hcz64_4⟩ := cs5 BK210; obtain ⟨hfz64_0, hfz64_1, hfz64_2, hfz64_3, hfz64_4⟩ := fs5 BK210) | ((with_reducible refine gate_dst (N := 3) rfl ?_); refine box_event ?hg (N := 3) ?hd (cs := #[.int .i64 a1_0, .int .i64 a1_1, .int .i64 a1_2, .int .i64 a1_3, .string a1_4]) (t := 44) ?hr ?_; (case hd => rfl); (case hg => rfl); (case hr => first | (go_simp; done) | (go_simp; rfl)); intro gb222 hg w65 hbox hb; have n5_ := Aside0.mk (below_step (be HB) hb); have BK222 := Aside0.mk (hbox); have GW222 := bs HB hg; have GE222 := bs HB hg; have NB209_222 := bl BK209 hg; have NB222_209 := bg BK209 hg; have NB210_222 := bl BK210 hg; have NB222_210 := bg BK210 hg; have NB211_222 := bl BK211 hg; have NB222_211 := bg BK211 hg; have NB220_222 := bl BK220 hg; have NB222_220 := bg BK220 hg; replace HO219 := Aside0.mk (Kd.R_below (rr HO219) hb); replace BK209 := bq BK209 hb; replace BK210 := bq BK210 hb; replace BK211 := bq BK211 hb; replace BK220 := bq BK220 hb; clear HB; have HB := n5_; clear n5_; clear hb hbox hg; have hnb66 := NB222_209.out; have hnc66 := NB209_222.out; have hnb67 := NB222_210.out; have hnc67 := NB210_222.out; have hnb68 := NB222_211.out; have hnc68 := NB211_222.out; have hnb69 := NB222_220.out; have hnc69 := NB220_222.out; obtain ⟨hcz70_0, hcz70_1, hcz70_2, hcz70_3, hcz70_4⟩ := cs5 BK222; obtain ⟨hfz70_0, hfz70_1, hfz70_2, hfz70_3, hfz70_4⟩ := fs5 BK222) | (go_at_call 102; go_in))
         have n0_ := Aside0.mk (Kd.R_drew HO219.out)
         have n1_ := Aside0.mk (blk_drew BK209.out)
         have n2_ := Aside0.mk (blk_drew BK210.out)
         have n3_ := Aside0.mk (blk_drew BK211.out)
         have n4_ := Aside0.mk (blk_drew BK220.out)
         have n5_ := Aside0.mk (blk_drew BK222.out)
         have n6_ := Aside0.mk (below_drew1 HB.out)
         clear HO219 BK209 BK210 BK211 BK220 BK222 HB; have HO219 := n0_; have BK209 := n1_; have BK210 := n2_; have BK211 := n3_; have BK220 := n4_; have BK222 := n5_; have HB := n6_; clear n0_ n1_ n2_ n3_ n4_ n5_ n6_; refine start_ (n := 32) (S := fun w' => w'.cell? ⟨gb222, 0, none⟩ = some (.int .i64 a1_0) ∧ w'.cell? ⟨gb222, 1, none⟩ = some (.int .i64 a1_1) ∧ w'.cell? ⟨gb222, 2, none⟩ = some (.int .i64 a1_2) ∧ w'.cell? ⟨gb222, 3, none⟩ = some (.int .i64 a1_3) ∧ w'.cell? ⟨gb222, 4, none⟩ = some (.string a1_4) ∧ w'.cell? ⟨gb220, 0, none⟩ = some (.int .i64 t213) ∧ w'.cell? ⟨gb220, 1, none⟩ = some (.int .i64 t214) ∧ w'.cell? ⟨gb220, 2, none⟩ = some (.int .i64 t215) ∧ w'.cell? ⟨gb220, 3, none⟩ = some (.int .i64 t216) ∧ w'.cell? ⟨gb220, 4, none⟩ = some (.slice Ao21 t217.length co21)) (ds := []) #[false, false, false, false, false, false, false, false, false, false, false, false, false, false, false, false, false, false, false, false, false, false, false, false, false, false, false, false, false, false, false, false] (by kernel_rfl) rfl rfl ⟨bc BK222 0, bc BK222 1, bc BK222 2, bc BK222 3, bc BK222 4, bc BK220 0, bc BK220 1, bc BK220 2, bc BK220 3, bc BK220 4⟩ (fun hHeld => ?_); refine with_tabW impl_WalStep.tab1004 impl_WalStep.bits1004 (fun HT_ HW_ => ?_)
         generalize w65.drew = w71 at HO219 BK209 BK210 BK211 BK220 BK222 HB hHeld ⊢
         refine pure_ (i := 0) (N := some 9) (v := ?_) (a' := ?_) #[true, false, false, false, false, false, false, false, false, false, false, false, false, false, false, false, false, false, false, false, false, false, false, false, false, false, false, false, false, false, false, false] rfl rfl (any_of HT_.out (by kernel_rfl)) (fun _ _ _ h => h) (Or.inl ⟨by rfl, ?_⟩) ?_ ?_
         rotate_left
         ·intro w'; go_simp; with_reducible rfl
         rotate_left
         ·simp only [putL, i64_w, i32_w]; rfl
         refine pure_ (i := 2) (N := some 11) (v := ?_) (a' := ?_) #[true, false, true, false, false, false, false, false, false, false, false, false, false, false, false, false, false, false, false, false, false, false, false, false, false, false, false, false, false, false, false, false] rfl rfl (any_of HT_.out (by kernel_rfl)) (fun _ _ _ h => h) (Or.inl ⟨by rfl, ?_⟩) ?_ ?_
         rotate_left
         ·intro w'; go_simp; with_reducible rfl
         rotate_left
         ·simp only [putL, i64_w, i32_w]; rfl
         refine pure_ (i := 3) (N := some 12) (v := ?_) (a' := ?_) #[true, false, true, true, false, false, false, false, false, false, false, false, false, false, false, false, false, false, false, false, false, false, false, false, false, false, false, false, false, false, false, false] rfl rfl (any_of HT_.out (by kernel_rfl)) (fun _ _ _ h => h) (Or.inl ⟨by rfl, ?_⟩) ?_ ?_
         rotate_left
         ·intro w'; go_simp; with_reducible rfl
         rotate_left
         ·simp only [putL, i64_w, i32_w]; rfl
         refine pure_ (i := 4) (N := some 13) (v := ?_) (a' := ?_) #[true, false, true, true, true, false, false, false, false, false, false, false, false, false, false, false, false, false, false, false, false, false, false, false, false, false, false, false, false, false, false, false] rfl rfl (any_of HT_.out (by kernel_rfl)) (fun _ _ _ h => h) (Or.inl ⟨by rfl, ?_⟩) ?_ ?_
         rotate_left
         ·intro w'; go_simp; with_reducible rfl
         rotate_left
         ·simp only [putL, i64_w, i32_w]; rfl
         refine take_ (i := 1) (N := some 10) (v := ?_) (a' := ?_) #[true, true, true, true, true, false, false, false, false, false, false, false, false, false, false, false, false, false, false, false, false, false, false, false, false, false, false, false, false, false, false, false] rfl rfl (take_ofW HT_.out HW_.out (by kernel_rfl)) (fun _ _ _ h => h) (Or.inl ⟨by rfl, ?_⟩) hHeld ?_ ?_
         rotate_left
         ·rintro w' ⟨s0, s1, s2, s3, s4, s5, s6, s7, s8, s9⟩
          go_simp; with_reducible rfl
         rotate_left
         ·simp only [putL, i64_w, i32_w]; rfl
         refine take_ (i := 5) (N := some 14) (v := ?_) (a' := ?_) #[true, true, true, true, true, true, false, false, false, false, false, false, false, false, false, false, false, false, false, false, false, false, false, false, false, false, false, false, false, false, false, false] rfl rfl (take_ofW HT_.out HW_.out (by kernel_rfl)) (fun _ _ _ h => h) (Or.inl ⟨by rfl, ?_⟩) hHeld ?_ ?_
         rotate_left
         ·rintro w' ⟨s0, s1, s2, s3, s4, s5, s6, s7, s8, s9⟩
          go_simp; with_reducible rfl
         rotate_left
         ·simp only [putL, i64_w, i32_w]; rfl
         refine pure_ (i := 6) (N := some 15) (v := ?_) (a' := ?_) #[true, true, true, true, true, true, true, false, false, false, false, false, false, false, false, false, false, false, false, false, false, false, false, false, false, false, false, false, false, false, false, false] rfl rfl (any_of HT_.out (by kernel_rfl)) (fun _ _ _ h => h) (Or.inl ⟨by rfl, ?_⟩) ?_ ?_
         rotate_left
         ·intro w'; go_simp; with_reducible rfl
         rotate_left
         ·simp only [putL, i64_w, i32_w]; rfl
         refine pure_ (i := 7) (N := some 16) (v := ?_) (a' := ?_) #[true, true, true, true, true, true, true, true, false, false, false, false, false, false, false, false, false, false, false, false, false, false, false, false, false, false, false, false, false, false, false, false] rfl rfl (any_of HT_.out (by kernel_rfl)) (fun _ _ _ h => h) (Or.inl ⟨by rfl, ?_⟩) ?_ ?_
         rotate_left
         ·intro w'; go_simp; with_reducible rfl
         rotate_left
         ·simp only [putL, i64_w, i32_w]; rfl
         refine pure_ (i := 8) (N := some 17) (v := ?_) (a' := ?_) #[true, true, true, true, true, true, true, true, true, false, false, false, false, false, false, false, false, false, false, false, false, false, false, false, false, false, false, false, false, false, false, false] rfl rfl (any_of HT_.out (by kernel_rfl)) (fun _ _ _ h => h) (Or.inl ⟨by rfl, ?_⟩) ?_ ?_
         rotate_left
         ·intro w'; go_simp; with_reducible rfl
         rotate_left
         ·simp only [putL, i64_w, i32_w]; rfl
         refine pure_ (i := 10) (N := some 19) (v := ?_) (a' := ?_) #[true, true, true, true, true, true, true, true, true, false, true, false, false, false, false, false, false, false, false, false, false, false, false, false, false, false, false, false, false, false, false, false] rfl rfl (any_of HT_.out (by kernel_rfl)) (fun _ _ _ h => h) (Or.inl ⟨by rfl, ?_⟩) ?_ ?_
         rotate_left
         ·intro w'; go_simp; with_reducible rfl
         rotate_left
         ·simp only [putL, i64_w, i32_w]; rfl
         refine pure_ (i := 11) (N := some 20) (v := ?_) (a' := ?_) #[true, true, true, true, true, true, true, true, true, false, true, true, false, false, false, false, false, false, false, false, false, false, false, false, false, false, false, false, false, false, false, false] rfl rfl (any_of HT_.out (by kernel_rfl)) (fun _ _ _ h => h) (Or.inl ⟨by rfl, ?_⟩) ?_ ?_
         rotate_left
         ·intro w'; go_simp; with_reducible rfl
         rotate_left
         ·simp only [putL, i64_w, i32_w]; rfl
         refine pure_ (i := 12) (N := some 21) (v := ?_) (a' := ?_) #[true, true, true, true, true, true, true, true, true, false, true, true, true, false, false, false, false, false, false, false, false, false, false, false, false, false, false, false, false, false, false, false] rfl rfl (any_of HT_.out (by kernel_rfl)) (fun _ _ _ h => h) (Or.inl ⟨by rfl, ?_⟩) ?_ ?_
         rotate_left
         ·intro w'; go_simp; with_reducible rfl
         rotate_left
         ·simp only [putL, i64_w, i32_w]; rfl
         refine take_ (i := 9) (N := some 18) (v := ?_) (a' := ?_) #[true, true, true, true, true, true, true, true, true, true, true, true, true, false, false, false, false, false, false, false, false, false, false, false, false, false, false, false, false, false, false, false] rfl rfl (take_ofW HT_.out HW_.out (by kernel_rfl)) (fun _ _ _ h => h) (Or.inl ⟨by rfl, ?_⟩) hHeld ?_ ?_
         rotate_left
         ·rintro w' ⟨s0, s1, s2, s3, s4, s5, s6, s7, s8, s9⟩
          go_simp; with_reducible rfl
         rotate_left
         ·simp only [putL, i64_w, i32_w]; rfl
         refine take_ (i := 13) (N := some 22) (v := ?_) (a' := ?_) #[true, true, true, true, true, true, true, true, true, true, true, true, true, true, false, false, false, false, false, false, false, false, false, false, false, false, false, false, false, false, false, false] rfl rfl (take_ofW HT_.out HW_.out (by kernel_rfl)) (fun _ _ _ h => h) (Or.inl ⟨by rfl, ?_⟩) hHeld ?_ ?_
         rotate_left
         ·rintro w' ⟨s0, s1, s2, s3, s4, s5, s6, s7, s8, s9⟩
          go_simp; with_reducible rfl
         rotate_left
         ·simp only [putL, i64_w, i32_w]; rfl
         refine pure_ (i := 14) (N := some 23) (v := ?_) (a' := ?_) #[true, true, true, true, true, true, true, true, true, true, true, true, true, true, true, false, false, false, false, false, false, false, false, false, false, false, false, false, false, false, false, false] rfl rfl (any_of HT_.out (by kernel_rfl)) (fun _ _ _ h => h) (Or.inl ⟨by rfl, ?_⟩) ?_ ?_
         rotate_left
         ·intro w'; go_simp; with_reducible rfl
         rotate_left
         ·simp only [putL, i64_w, i32_w]; rfl
         refine pure_ (i := 15) (N := some 24) (v := ?_) (a' := ?_) #[true, true, true, true, true, true, true, true, true, true, true, true, true, true, true, true, false, false, false, false, false, false, false, false, false, false, false, false, false, false, false, false] rfl rfl (any_of HT_.out (by kernel_rfl)) (fun _ _ _ h => h) (Or.inl ⟨by rfl, ?_⟩) ?_ ?_
         rotate_left
         ·intro w'; go_simp; with_reducible rfl
         rotate_left
         ·simp only [putL, i64_w, i32_w]; rfl
         refine pure_ (i := 16) (N := some 25) (v := ?_) (a' := ?_) #[true, true, true, true, true, true, true, true, true, true, true, true, true, true, true, true, true, false, false, false, false, false, false, false, false, false, false, false, false, false, false, false] rfl rfl (any_of HT_.out (by kernel_rfl)) (fun _ _ _ h => h) (Or.inl ⟨by rfl, ?_⟩) ?_ ?_
         rotate_left
         ·intro w'; go_simp; with_reducible rfl
         rotate_left
         ·simp only [putL, i64_w, i32_w]; rfl
         refine pure_ (i := 17) (N := some 26) (v := ?_) (a' := ?_) #[true, true, true, true, true, true, true, true, true, true, true, true, true, true, true, true, true, true, false, false, false, false, false, false, false, false, false, false, false, false, false, false] rfl rfl (any_of HT_.out (by kernel_rfl)) (fun _ _ _ h => h) (Or.inl ⟨by rfl, ?_⟩) ?_ ?_
         rotate_left
         ·intro w'; go_simp; with_reducible rfl
         rotate_left
         ·simp only [putL, i64_w, i32_w]; rfl
         refine pure_ (i := 18) (N := some 27) (v := ?_) (a' := ?_) #[true, true, true, true, true, true, true, true, true, true, true, true, true, true, true, true, true, true, true, false, false, false, false, false, false, false, false, false, false, false, false, false] rfl rfl (any_of HT_.out (by kernel_rfl)) (fun _ _ _ h => h) (Or.inl ⟨by rfl, ?_⟩) ?_ ?_
         rotate_left
         ·intro w'; go_simp; with_reducible rfl
         rotate_left
         ·simp only [putL, i64_w, i32_w]; rfl
         refine take_ (i := 19) (N := some 28) (v := ?_) (a' := ?_) #[true, true, true, true, true, true, true, true, true, true, true, true, true, true, true, true, true, true, true, true, false, false, false, false, false, false, false, false, false, false, false, false] rfl rfl (take_ofW HT_.out HW_.out (by kernel_rfl)) (fun _ _ _ h => h) (Or.inl ⟨by rfl, ?_⟩) hHeld ?_ ?_
         rotate_left
         ·rintro w' ⟨s0, s1, s2, s3, s4, s5, s6, s7, s8, s9⟩
          go_simp; with_reducible rfl
         rotate_left
         ·simp only [putL, i64_w, i32_w]; rfl
         refine pure_ (i := 20) (N := some 29) (v := ?_) (a' := ?_) #[true, true, true, true, true, true, true, true, true, true, true, true, true, true, true, true, true, true, true, true, true, false, false, false, false, false, false, false, false, false, false, false] rfl rfl (any_of HT_.out (by kernel_rfl)) (fun _ _ _ h => h) (Or.inl ⟨by rfl, ?_⟩) ?_ ?_
         rotate_left
         ·intro w'; go_simp; with_reducible rfl
         rotate_left
         ·simp only [putL, i64_w, i32_w]; rfl
         refine pure_ (i := 21) (N := some 30) (v := ?_) (a' := ?_) #[true, true, true, true, true, true, true, true, true, true, true, true, true, true, true, true, true, true, true, true, true, true, false, false, false, false, false, false, false, false, false, false] rfl rfl (any_of HT_.out (by kernel_rfl)) (fun _ _ _ h => h) (Or.inl ⟨by rfl, ?_⟩) ?_ ?_
         rotate_left
         ·intro w'; go_simp; with_reducible rfl
         rotate_left
         ·simp only [putL, i64_w, i32_w]; rfl
         refine pure_ (i := 22) (N := some 31) (v := ?_) (a' := ?_) #[true, true, true, true, true, true, true, true, true, true, true, true, true, true, true, true, true, true, true, true, true, true, true, false, false, false, false, false, false, false, false, false] rfl rfl (any_of HT_.out (by kernel_rfl)) (fun _ _ _ h => h) (Or.inl ⟨by rfl, ?_⟩) ?_ ?_
         rotate_left
         ·intro w'; go_simp; with_reducible rfl
         rotate_left
         ·simp only [putL, i64_w, i32_w]; rfl
         refine pure_ (i := 23) (N := some 32) (v := ?_) (a' := ?_) #[true, true, true, true, true, true, true, true, true, true, true, true, true, true, true, true, true, true, true, true, true, true, true, true, false, false, false, false, false, false, false, false] rfl rfl (any_of HT_.out (by kernel_rfl)) (fun _ _ _ h => h) (Or.inl ⟨by rfl, ?_⟩) ?_ ?_
         rotate_left
         ·intro w'; go_simp; with_reducible rfl
         rotate_left
         ·simp only [putL, i64_w, i32_w]; rfl
         refine pure_ (i := 24) (N := some 33) (v := ?_) (a' := ?_) #[true, true, true, true, true, true, true, true, true, true, true, true, true, true, true, true, true, true, true, true, true, true, true, true, true, false, false, false, false, false, false, false] rfl rfl (any_of HT_.out (by kernel_rfl)) (fun _ _ _ h => h) (Or.inl ⟨by rfl, ?_⟩) ?_ ?_
         rotate_left
         ·intro w'; go_simp; with_reducible rfl
         rotate_left
         ·simp only [putL, i64_w, i32_w]; rfl
         refine pure_ (i := 25) (N := some 34) (v := ?_) (a' := ?_) #[true, true, true, true, true, true, true, true, true, true, true, true, true, true, true, true, true, true, true, true, true, true, true, true, true, true, false, false, false, false, false, false] rfl rfl (any_of HT_.out (by kernel_rfl)) (fun _ _ _ h => h) (Or.inl ⟨by rfl, ?_⟩) ?_ ?_
         rotate_left
         ·intro w'; go_simp; with_reducible rfl
         rotate_left
         ·simp only [putL, i64_w, i32_w]; rfl
         refine pure_ (i := 27) (N := some 36) (v := ?_) (a' := ?_) #[true, true, true, true, true, true, true, true, true, true, true, true, true, true, true, true, true, true, true, true, true, true, true, true, true, true, false, true, false, false, false, false] rfl rfl (any_of HT_.out (by kernel_rfl)) (fun _ _ _ h => h) (Or.inl ⟨by rfl, ?_⟩) ?_ ?_
         rotate_left
         ·intro w'; go_simp; with_reducible rfl
         rotate_left
         ·simp only [putL, i64_w, i32_w]; rfl
         refine take_ (i := 26) (N := some 35) (v := ?_) (a' := ?_) #[true, true, true, true, true, true, true, true, true, true, true, true, true, true, true, true, true, true, true, true, true, true, true, true, true, true, true, true, false, false, false, false] rfl rfl (take_ofW HT_.out HW_.out (by kernel_rfl)) (fun _ _ _ h => h) (Or.inl ⟨by rfl, ?_⟩) hHeld ?_ ?_
         rotate_left
         ·rintro w' ⟨s0, s1, s2, s3, s4, s5, s6, s7, s8, s9⟩
          go_simp; with_reducible rfl
         rotate_left
         ·simp only [putL, i64_w, i32_w]; rfl
         refine take_ (i := 28) (N := some 37) (v := ?_) (a' := ?_) #[true, true, true, true, true, true, true, true, true, true, true, true, true, true, true, true, true, true, true, true, true, true, true, true, true, true, true, true, true, false, false, false] rfl rfl (take_ofW HT_.out HW_.out (by kernel_rfl)) (fun _ _ _ h => h) (Or.inl ⟨by rfl, ?_⟩) hHeld ?_ ?_
         rotate_left
         ·rintro w' ⟨s0, s1, s2, s3, s4, s5, s6, s7, s8, s9⟩
          go_simp; with_reducible rfl
         rotate_left
         ·simp only [putL, i64_w, i32_w]; rfl
         refine pure_ (i := 29) (N := some 38) (v := ?_) (a' := ?_) #[true, true, true, true, true, true, true, true, true, true, true, true, true, true, true, true, true, true, true, true, true, true, true, true, true, true, true, true, true, true, false, false] rfl rfl (any_of HT_.out (by kernel_rfl)) (fun _ _ _ h => h) (Or.inl ⟨by rfl, ?_⟩) ?_ ?_
         rotate_left
         ·intro w'; go_simp; with_reducible rfl
         rotate_left
         ·simp only [putL, i64_w, i32_w]; rfl
         refine pure_ (i := 30) (N := some 39) (v := ?_) (a' := ?_) #[true, true, true, true, true, true, true, true, true, true, true, true, true, true, true, true, true, true, true, true, true, true, true, true, true, true, true, true, true, true, true, false] rfl rfl (any_of HT_.out (by kernel_rfl)) (fun _ _ _ h => h) (Or.inl ⟨by rfl, ?_⟩) ?_ ?_
         rotate_left
         ·intro w'; go_simp; with_reducible rfl
         rotate_left
         ·simp only [putL, i64_w, i32_w]; rfl
         refine pure_ (i := 31) (N := some 40) (v := ?_) (a' := ?_) #[true, true, true, true, true, true, true, true, true, true, true, true, true, true, true, true, true, true, true, true, true, true, true, true, true, true, true, true, true, true, true, true] rfl rfl (any_of HT_.out (by kernel_rfl)) (fun _ _ _ h => h) (Or.inl ⟨by rfl, ?_⟩) ?_ ?_
         rotate_left
         ·intro w'; go_simp; with_reducible rfl
         rotate_left
         ·simp only [putL, i64_w, i32_w]; rfl
         refine done_ (done_of HT_.out (by kernel_rfl)) ?_
         obtain ⟨hcz72_0, hcz72_1, hcz72_2, hcz72_3, hcz72_4⟩ := cs5 BK222; obtain ⟨hfz72_0, hfz72_1, hfz72_2, hfz72_3, hfz72_4⟩ := fs5 BK222; have hnb73 := NB220_209.out; have hnc73 := NB209_220.out; have hnb74 := NB220_211.out; have hnc74 := NB211_220.out; obtain ⟨hcz75_0, hcz75_1, hcz75_2, hcz75_3, hcz75_4⟩ := cs5 BK220; obtain ⟨hfz75_0, hfz75_1, hfz75_2, hfz75_3, hfz75_4⟩ := fs5 BK220
         go_wp2
         go_meet
         case rel => exact ⟨_, (!true), (a1_1), (a1_3), (t215), (t216), (t217), (.slice Ao21 t217.length co21), (by first | rfl | (simp; done) | (simp [*]; done)), H', ⟨by first | omega | exact Nat.le_refl _⟩, ⟨by (with_reducible repeat (first | apply Kd.R_alloc | apply Kd.R_drewN | apply Kd.R_drew)); exact Kd.R_mono (Kd.R_far (p := ⟨gb220, 1, none⟩) (Kd.R_far (p := ⟨gb220, 0, none⟩) (Kd.R_types HO219.out BK220.out (by decide)) (fun _ hk => hk.2) (.int .i64 a1_1)) (fun _ hk => hk.2) (.int .i64 a1_3)) (fun _ hk => trivial)⟩, ⟨by (with_reducible repeat first | refine bkN ?_ _ | refine bkD ?_ | refine bkA ?_ _ | refine blk_far ?_ NB209_220.out _); exact BK209.out⟩, ⟨by (with_reducible repeat first | refine bkN ?_ _ | refine bkD ?_ | refine bkA ?_ _ | refine blk_far ?_ NB210_220.out _); exact BK210.out⟩, ⟨by (with_reducible repeat first | refine bkN ?_ _ | refine bkD ?_ | refine bkA ?_ _ | refine blk_far ?_ NB211_220.out _); exact BK211.out⟩, ⟨by (with_reducible repeat first | refine bkN ?_ _ | refine bkD ?_ | refine bkA ?_ _); refine blk_put (cs := #[.int .i64 a1_1, .int .i64 t214, .int .i64 t215, .int .i64 t216, .slice Ao21 t217.length co21]) ?_ 1 _ rfl; (with_reducible repeat first | refine bkN ?_ _ | refine bkD ?_ | refine bkA ?_ _); refine blk_put (cs := #[.int .i64 t213, .int .i64 t214, .int .i64 t215, .int .i64 t216, .slice Ao21 t217.length co21]) ?_ 0 _ rfl; (with_reducible repeat first | refine bkN ?_ _ | refine bkD ?_ | refine bkA ?_ _); exact BK220.out⟩, ⟨by repeat (first | (with_reducible first | exact HB.out | apply below_alloc | apply pw_below_drewN | apply below_drew1 | refine below_set ?_ GE209.out | refine below_set ?_ GE210.out | refine below_set ?_ GE211.out | refine below_set ?_ GE220.out | refine below_set ?_ GE222.out) | exact HB.out)⟩⟩
        ·rw [if_neg c58] at H
         have c58b0 : (t214 == a1_3) = false := beq_eq_false_iff_ne.mpr c58
         have c58b1 : (t214 != a1_3) = true := bne_iff_ne.mpr c58
         have H' := Aside0.mk H
         clear H; have hnb76 := NB210_209.out; have hnc76 := NB209_210.out; have hnb77 := NB210_211.out; have hnc77 := NB211_210.out; have hnb78 := NB210_220.out; have hnc78 := NB220_210.out; obtain ⟨hcz79_0, hcz79_1, hcz79_2, hcz79_3, hcz79_4⟩ := cs5 BK210; obtain ⟨hfz79_0, hfz79_1, hfz79_2, hfz79_3, hfz79_4⟩ := fs5 BK210
         go_wp2_with (first | ((with_reducible refine gate_callee (f := 101) rfl ?_); refine goesL_ (some 14) rfl rfl Try.func101 (by kernel_rfl) rfl #[.agg #[.int .i64 a1_0, .int .i64 a1_1, .int .i64 a1_2, .int .i64 a1_3, .string a1_4]] rfl (by (try simp only [List.map_toArray, List.map_cons, List.map_nil]); first | done | rfl | (simp only [List.length_drop, List.length_take]; rfl)) ?_; (with_reducible refine (impl_RecOk.calls a1_0 a1_1 a1_2 a1_3 a1_4 true _ A22.out).mono ?_); rintro e w80 ⟨rfl, hb⟩; refine ⟨_, rfl, ?_⟩; have n0_ := Aside0.mk (Kd.R_below (by (with_reducible repeat (first | apply Kd.R_alloc | apply Kd.R_drewN | apply Kd.R_drew)); exact (Kd.R_mono (Kd.R_far (p := ⟨gb220, 4, none⟩) (Kd.R_far (p := ⟨gb220, 3, none⟩) (Kd.R_far (p := ⟨gb220, 2, none⟩) (Kd.R_far (p := ⟨gb220, 1, none⟩) (Kd.R_far (p := ⟨gb220, 0, none⟩) (Kd.R_types HO219.out BK220.out (by decide)) (fun _ hk => hk.2) (.int .i64 t213)) (fun _ hk => hk.2) (.int .i64 t214)) (fun _ hk => hk.2) (.int .i64 t215)) (fun _ hk => hk.2) (.int .i64 t216)) (fun _ hk => hk.2) (.slice Ao21 t217.length co21)) (fun _ h_ => h_.1))) hb); have n1_ := bf BK209 hb; have n2_ := bf BK210 hb; have n3_ := bf BK211 hb; have n4_ := bp #[.int .i64 t213, .int .i64 t214, .int .i64 t215, .int .i64 t216, .slice Ao21 t217.length co21] BK220 hb; have n5_ := Aside0.mk (below_step (be HB) hb); clear HO219 BK209 BK210 BK211 BK220 HB; have HO219 := n0_; have BK209 := n1_; have BK210 := n2_; have BK211 := n3_; have BK220 := n4_; have HB := n5_; clear n0_ n1_ n2_ n3_ n4_ n5_; (try clear hb); (try clear hb2); (try clear hk); (try clear hi); obtain ⟨hcz81_0, hcz81_1, hcz81_2, hcz81_3, hcz81_4⟩ := cs5 BK210; obtain ⟨hfz81_0, hfz81_1, hfz81_2, hfz81_3, hfz81_4⟩ := fs5 BK210) | ((with_reducible refine gate_dst (N := 3) rfl ?_); refine box_event ?hg (N := 3) ?hd (cs := #[.int .i64 a1_0, .int .i64 a1_1, .int .i64 a1_2, .int .i64 a1_3, .string a1_4]) (t := 44) ?hr ?_; (case hd => rfl); (case hg => rfl); (case hr => first | (go_simp; done) | (go_simp; rfl)); intro gb222 hg w82 hbox hb; have n5_ := Aside0.mk (below_step (be HB) hb); have BK222 := Aside0.mk (hbox); have GW222 := bs HB hg; have GE222 := bs HB hg; have NB209_222 := bl BK209 hg; have NB222_209 := bg BK209 hg; have NB210_222 := bl BK210 hg; have NB222_210 := bg BK210 hg; have NB211_222 := bl BK211 hg; have NB222_211 := bg BK211 hg; have NB220_222 := bl BK220 hg; have NB222_220 := bg BK220 hg; replace HO219 := Aside0.mk (Kd.R_below (rr HO219) hb); replace BK209 := bq BK209 hb; replace BK210 := bq BK210 hb; replace BK211 := bq BK211 hb; replace BK220 := bq BK220 hb; clear HB; have HB := n5_; clear n5_; clear hb hbox hg; have hnb83 := NB222_209.out; have hnc83 := NB209_222.out; have hnb84 := NB222_210.out; have hnc84 := NB210_222.out; have hnb85 := NB222_211.out; have hnc85 := NB211_222.out; have hnb86 := NB222_220.out; have hnc86 := NB220_222.out; obtain ⟨hcz87_0, hcz87_1, hcz87_2, hcz87_3, hcz87_4⟩ := cs5 BK222; obtain ⟨hfz87_0, hfz87_1, hfz87_2, hfz87_3, hfz87_4⟩ := fs5 BK222) | (go_at_call 102; go_in))
         have n0_ := Aside0.mk (Kd.R_drew HO219.out)
         have n1_ := Aside0.mk (blk_drew BK209.out)
         have n2_ := Aside0.mk (blk_drew BK210.out)
         have n3_ := Aside0.mk (blk_drew BK211.out)
         have n4_ := Aside0.mk (blk_drew BK220.out)
         have n5_ := Aside0.mk (blk_drew BK222.out)
         have n6_ := Aside0.mk (below_drew1 HB.out)
         clear HO219 BK209 BK210 BK211 BK220 BK222 HB; have HO219 := n0_; have BK209 := n1_; have BK210 := n2_; have BK211 := n3_; have BK220 := n4_; have BK222 := n5_; have HB := n6_; clear n0_ n1_ n2_ n3_ n4_ n5_ n6_; refine start_ (n := 32) (S := fun w' => w'.cell? ⟨gb222, 0, none⟩ = some (.int .i64 a1_0) ∧ w'.cell? ⟨gb222, 1, none⟩ = some (.int .i64 a1_1) ∧ w'.cell? ⟨gb222, 2, none⟩ = some (.int .i64 a1_2) ∧ w'.cell? ⟨gb222, 3, none⟩ = some (.int .i64 a1_3) ∧ w'.cell? ⟨gb222, 4, none⟩ = some (.string a1_4) ∧ w'.cell? ⟨gb220, 0, none⟩ = some (.int .i64 t213) ∧ w'.cell? ⟨gb220, 1, none⟩ = some (.int .i64 t214) ∧ w'.cell? ⟨gb220, 2, none⟩ = some (.int .i64 t215) ∧ w'.cell? ⟨gb220, 3, none⟩ = some (.int .i64 t216) ∧ w'.cell? ⟨gb220, 4, none⟩ = some (.slice Ao21 t217.length co21)) (ds := []) #[false, false, false, false, false, false, false, false, false, false, false, false, false, false, false, false, false, false, false, false, false, false, false, false, false, false, false, false, false, false, false, false] (by kernel_rfl) rfl rfl ⟨bc BK222 0, bc BK222 1, bc BK222 2, bc BK222 3, bc BK222 4, bc BK220 0, bc BK220 1, bc BK220 2, bc BK220 3, bc BK220 4⟩ (fun hHeld => ?_); refine with_tabW impl_WalStep.tab1004 impl_WalStep.bits1004 (fun HT_ HW_ => ?_)
         generalize w82.drew = w88 at HO219 BK209 BK210 BK211 BK220 BK222 HB hHeld ⊢
         refine pure_ (i := 0) (N := some 9) (v := ?_) (a' := ?_) #[true, false, false, false, false, false, false, false, false, false, false, false, false, false, false, false, false, false, false, false, false, false, false, false, false, false, false, false, false, false, false, false] rfl rfl (any_of HT_.out (by kernel_rfl)) (fun _ _ _ h => h) (Or.inl ⟨by rfl, ?_⟩) ?_ ?_
         rotate_left
         ·intro w'; go_simp; with_reducible rfl
         rotate_left
         ·simp only [putL, i64_w, i32_w]; rfl
         refine pure_ (i := 2) (N := some 11) (v := ?_) (a' := ?_) #[true, false, true, false, false, false, false, false, false, false, false, false, false, false, false, false, false, false, false, false, false, false, false, false, false, false, false, false, false, false, false, false] rfl rfl (any_of HT_.out (by kernel_rfl)) (fun _ _ _ h => h) (Or.inl ⟨by rfl, ?_⟩) ?_ ?_
         rotate_left
         ·intro w'; go_simp; with_reducible rfl
         rotate_left
         ·simp only [putL, i64_w, i32_w]; rfl
         refine pure_ (i := 3) (N := some 12) (v := ?_) (a' := ?_) #[true, false, true, true, false, false, false, false, false, false, false, false, false, false, false, false, false, false, false, false, false, false, false, false, false, false, false, false, false, false, false, false] rfl rfl (any_of HT_.out (by kernel_rfl)) (fun _ _ _ h => h) (Or.inl ⟨by rfl, ?_⟩) ?_ ?_
         rotate_left
         ·intro w'; go_simp; with_reducible rfl
         rotate_left
         ·simp only [putL, i64_w, i32_w]; rfl
         refine pure_ (i := 4) (N := some 13) (v := ?_) (a' := ?_) #[true, false, true, true, true, false, false, false, false, false, false, false, false, false, false, false, false, false, false, false, false, false, false, false, false, false, false, false, false, false, false, false] rfl rfl (any_of HT_.out (by kernel_rfl)) (fun _ _ _ h => h) (Or.inl ⟨by rfl, ?_⟩) ?_ ?_
         rotate_left
         ·intro w'; go_simp; with_reducible rfl
         rotate_left
         ·simp only [putL, i64_w, i32_w]; rfl
         refine take_ (i := 1) (N := some 10) (v := ?_) (a' := ?_) #[true, true, true, true, true, false, false, false, false, false, false, false, false, false, false, false, false, false, false, false, false, false, false, false, false, false, false, false, false, false, false, false] rfl rfl (take_ofW HT_.out HW_.out (by kernel_rfl)) (fun _ _ _ h => h) (Or.inl ⟨by rfl, ?_⟩) hHeld ?_ ?_
         rotate_left
         ·rintro w' ⟨s0, s1, s2, s3, s4, s5, s6, s7, s8, s9⟩
          go_simp; with_reducible rfl
         rotate_left
         ·simp only [putL, i64_w, i32_w]; rfl
         refine take_ (i := 5) (N := some 14) (v := ?_) (a' := ?_) #[true, true, true, true, true, true, false, false, false, false, false, false, false, false, false, false, false, false, false, false, false, false, false, false, false, false, false, false, false, false, false, false] rfl rfl (take_ofW HT_.out HW_.out (by kernel_rfl)) (fun _ _ _ h => h) (Or.inl ⟨by rfl, ?_⟩) hHeld ?_ ?_
         rotate_left
         ·rintro w' ⟨s0, s1, s2, s3, s4, s5, s6, s7, s8, s9⟩
          go_simp; with_reducible rfl
         rotate_left
         ·simp only [putL, i64_w, i32_w]; rfl
         refine pure_ (i := 6) (N := some 15) (v := ?_) (a' := ?_) #[true, true, true, true, true, true, true, false, false, false, false, false, false, false, false, false, false, false, false, false, false, false, false, false, false, false, false, false, false, false, false, false] rfl rfl (any_of HT_.out (by kernel_rfl)) (fun _ _ _ h => h) (Or.inl ⟨by rfl, ?_⟩) ?_ ?_
         rotate_left
         ·intro w'; go_simp; with_reducible rfl
         rotate_left
         ·simp only [putL, i64_w, i32_w]; rfl
         refine pure_ (i := 7) (N := some 16) (v := ?_) (a' := ?_) #[true, true, true, true, true, true, true, true, false, false, false, false, false, false, false, false, false, false, false, false, false, false, false, false, false, false, false, false, false, false, false, false] rfl rfl (any_of HT_.out (by kernel_rfl)) (fun _ _ _ h => h) (Or.inl ⟨by rfl, ?_⟩) ?_ ?_
         rotate_left
         ·intro w'; go_simp; with_reducible rfl
         rotate_left
         ·simp only [putL, i64_w, i32_w]; rfl
         refine pure_ (i := 8) (N := some 17) (v := ?_) (a' := ?_) #[true, true, true, true, true, true, true, true, true, false, false, false, false, false, false, false, false, false, false, false, false, false, false, false, false, false, false, false, false, false, false, false] rfl rfl (any_of HT_.out (by kernel_rfl)) (fun _ _ _ h => h) (Or.inl ⟨by rfl, ?_⟩) ?_ ?_
         rotate_left
         ·intro w'; go_simp; with_reducible rfl
         rotate_left
         ·simp only [putL, i64_w, i32_w]; rfl
         refine pure_ (i := 10) (N := some 19) (v := ?_) (a' := ?_) #[true, true, true, true, true, true, true, true, true, false, true, false, false, false, false, false, false, false, false, false, false, false, false, false, false, false, false, false, false, false, false, false] rfl rfl (any_of HT_.out (by kernel_rfl)) (fun _ _ _ h => h) (Or.inl ⟨by rfl, ?_⟩) ?_ ?_
         rotate_left
         ·intro w'; go_simp; with_reducible rfl
         rotate_left
         ·simp only [putL, i64_w, i32_w]; rfl
         refine pure_ (i := 11) (N := some 20) (v := ?_) (a' := ?_) #[true, true, true, true, true, true, true, true, true, false, true, true, false, false, false, false, false, false, false, false, false, false, false, false, false, false, false, false, false, false, false, false] rfl rfl (any_of HT_.out (by kernel_rfl)) (fun _ _ _ h => h) (Or.inl ⟨by rfl, ?_⟩) ?_ ?_
         rotate_left
         ·intro w'; go_simp; with_reducible rfl
         rotate_left
         ·simp only [putL, i64_w, i32_w]; rfl
         refine pure_ (i := 12) (N := some 21) (v := ?_) (a' := ?_) #[true, true, true, true, true, true, true, true, true, false, true, true, true, false, false, false, false, false, false, false, false, false, false, false, false, false, false, false, false, false, false, false] rfl rfl (any_of HT_.out (by kernel_rfl)) (fun _ _ _ h => h) (Or.inl ⟨by rfl, ?_⟩) ?_ ?_
         rotate_left
         ·intro w'; go_simp; with_reducible rfl
         rotate_left
         ·simp only [putL, i64_w, i32_w]; rfl
         refine take_ (i := 9) (N := some 18) (v := ?_) (a' := ?_) #[true, true, true, true, true, true, true, true, true, true, true, true, true, false, false, false, false, false, false, false, false, false, false, false, false, false, false, false, false, false, false, false] rfl rfl (take_ofW HT_.out HW_.out (by kernel_rfl)) (fun _ _ _ h => h) (Or.inl ⟨by rfl, ?_⟩) hHeld ?_ ?_
         rotate_left
         ·rintro w' ⟨s0, s1, s2, s3, s4, s5, s6, s7, s8, s9⟩
          go_simp; with_reducible rfl
         rotate_left
         ·simp only [putL, i64_w, i32_w]; rfl
         refine take_ (i := 13) (N := some 22) (v := ?_) (a' := ?_) #[true, true, true, true, true, true, true, true, true, true, true, true, true, true, false, false, false, false, false, false, false, false, false, false, false, false, false, false, false, false, false, false] rfl rfl (take_ofW HT_.out HW_.out (by kernel_rfl)) (fun _ _ _ h => h) (Or.inl ⟨by rfl, ?_⟩) hHeld ?_ ?_
         rotate_left
         ·rintro w' ⟨s0, s1, s2, s3, s4, s5, s6, s7, s8, s9⟩
          go_simp; with_reducible rfl
         rotate_left
         ·simp only [putL, i64_w, i32_w]; rfl
         refine pure_ (i := 14) (N := some 23) (v := ?_) (a' := ?_) #[true, true, true, true, true, true, true, true, true, true, true, true, true, true, true, false, false, false, false, false, false, false, false, false, false, false, false, false, false, false, false, false] rfl rfl (any_of HT_.out (by kernel_rfl)) (fun _ _ _ h => h) (Or.inl ⟨by rfl, ?_⟩) ?_ ?_
         rotate_left
         ·intro w'; go_simp; with_reducible rfl
         rotate_left
         ·simp only [putL, i64_w, i32_w]; rfl
         refine pure_ (i := 15) (N := some 24) (v := ?_) (a' := ?_) #[true, true, true, true, true, true, true, true, true, true, true, true, true, true, true, true, false, false, false, false, false, false, false, false, false, false, false, false, false, false, false, false] rfl rfl (any_of HT_.out (by kernel_rfl)) (fun _ _ _ h => h) (Or.inl ⟨by rfl, ?_⟩) ?_ ?_
         rotate_left
         ·intro w'; go_simp; with_reducible rfl
         rotate_left
         ·simp only [putL, i64_w, i32_w]; rfl
         refine pure_ (i := 16) (N := some 25) (v := ?_) (a' := ?_) #[true, true, true, true, true, true, true, true, true, true, true, true, true, true, true, true, true, false, false, false, false, false, false, false, false, false, false, false, false, false, false, false] rfl rfl (any_of HT_.out (by kernel_rfl)) (fun _ _ _ h => h) (Or.inl ⟨by rfl, ?_⟩) ?_ ?_
         rotate_left
         ·intro w'; go_simp; with_reducible rfl
         rotate_left
         ·simp only [putL, i64_w, i32_w]; rfl
         refine pure_ (i := 17) (N := some 26) (v := ?_) (a' := ?_) #[true, true, true, true, true, true, true, true, true, true, true, true, true, true, true, true, true, true, false, false, false, false, false, false, false, false, false, false, false, false, false, false] rfl rfl (any_of HT_.out (by kernel_rfl)) (fun _ _ _ h => h) (Or.inl ⟨by rfl, ?_⟩) ?_ ?_
         rotate_left
         ·intro w'; go_simp; with_reducible rfl
         rotate_left
         ·simp only [putL, i64_w, i32_w]; rfl
         refine pure_ (i := 18) (N := some 27) (v := ?_) (a' := ?_) #[true, true, true, true, true, true, true, true, true, true, true, true, true, true, true, true, true, true, true, false, false, false, false, false, false, false, false, false, false, false, false, false] rfl rfl (any_of HT_.out (by kernel_rfl)) (fun _ _ _ h => h) (Or.inl ⟨by rfl, ?_⟩) ?_ ?_
         rotate_left
         ·intro w'; go_simp; with_reducible rfl
         rotate_left
         ·simp only [putL, i64_w, i32_w]; rfl
         refine take_ (i := 19) (N := some 28) (v := ?_) (a' := ?_) #[true, true, true, true, true, true, true, true, true, true, true, true, true, true, true, true, true, true, true, true, false, false, false, false, false, false, false, false, false, false, false, false] rfl rfl (take_ofW HT_.out HW_.out (by kernel_rfl)) (fun _ _ _ h => h) (Or.inl ⟨by rfl, ?_⟩) hHeld ?_ ?_
         rotate_left
         ·rintro w' ⟨s0, s1, s2, s3, s4, s5, s6, s7, s8, s9⟩
          go_simp; with_reducible rfl
         rotate_left
         ·simp only [putL, i64_w, i32_w]; rfl
         refine pure_ (i := 20) (N := some 29) (v := ?_) (a' := ?_) #[true, true, true, true, true, true, true, true, true, true, true, true, true, true, true, true, true, true, true, true, true, false, false, false, false, false, false, false, false, false, false, false] rfl rfl (any_of HT_.out (by kernel_rfl)) (fun _ _ _ h => h) (Or.inl ⟨by rfl, ?_⟩) ?_ ?_
         rotate_left
         ·intro w'; go_simp; with_reducible rfl
         rotate_left
         ·simp only [putL, i64_w, i32_w]; rfl
         refine pure_ (i := 21) (N := some 30) (v := ?_) (a' := ?_) #[true, true, true, true, true, true, true, true, true, true, true, true, true, true, true, true, true, true, true, true, true, true, false, false, false, false, false, false, false, false, false, false] rfl rfl (any_of HT_.out (by kernel_rfl)) (fun _ _ _ h => h) (Or.inl ⟨by rfl, ?_⟩) ?_ ?_
         rotate_left
         ·intro w'; go_simp; with_reducible rfl
         rotate_left
         ·simp only [putL, i64_w, i32_w]; rfl
         refine pure_ (i := 22) (N := some 31) (v := ?_) (a' := ?_) #[true, true, true, true, true, true, true, true, true, true, true, true, true, true, true, true, true, true, true, true, true, true, true, false, false, false, false, false, false, false, false, false] rfl rfl (any_of HT_.out (by kernel_rfl)) (fun _ _ _ h => h) (Or.inl ⟨by rfl, ?_⟩) ?_ ?_
         rotate_left
         ·intro w'; go_simp; with_reducible rfl
         rotate_left
         ·simp only [putL, i64_w, i32_w]; rfl
         refine pure_ (i := 23) (N := some 32) (v := ?_) (a' := ?_) #[true, true, true, true, true, true, true, true, true, true, true, true, true, true, true, true, true, true, true, true, true, true, true, true, false, false, false, false, false, false, false, false] rfl rfl (any_of HT_.out (by kernel_rfl)) (fun _ _ _ h => h) (Or.inl ⟨by rfl, ?_⟩) ?_ ?_
         rotate_left
         ·intro w'; go_simp; with_reducible rfl
         rotate_left
         ·simp only [putL, i64_w, i32_w]; rfl
         refine pure_ (i := 24) (N := some 33) (v := ?_) (a' := ?_) #[true, true, true, true, true, true, true, true, true, true, true, true, true, true, true, true, true, true, true, true, true, true, true, true, true, false, false, false, false, false, false, false] rfl rfl (any_of HT_.out (by kernel_rfl)) (fun _ _ _ h => h) (Or.inl ⟨by rfl, ?_⟩) ?_ ?_
         rotate_left
         ·intro w'; go_simp; with_reducible rfl
         rotate_left
         ·simp only [putL, i64_w, i32_w]; rfl
         refine pure_ (i := 25) (N := some 34) (v := ?_) (a' := ?_) #[true, true, true, true, true, true, true, true, true, true, true, true, true, true, true, true, true, true, true, true, true, true, true, true, true, true, false, false, false, false, false, false] rfl rfl (any_of HT_.out (by kernel_rfl)) (fun _ _ _ h => h) (Or.inl ⟨by rfl, ?_⟩) ?_ ?_
         rotate_left
         ·intro w'; go_simp; with_reducible rfl
         rotate_left
         ·simp only [putL, i64_w, i32_w]; rfl
         refine pure_ (i := 27) (N := some 36) (v := ?_) (a' := ?_) #[true, true, true, true, true, true, true, true, true, true, true, true, true, true, true, true, true, true, true, true, true, true, true, true, true, true, false, true, false, false, false, false] rfl rfl (any_of HT_.out (by kernel_rfl)) (fun _ _ _ h => h) (Or.inl ⟨by rfl, ?_⟩) ?_ ?_
         rotate_left
         ·intro w'; go_simp; with_reducible rfl
         rotate_left
         ·simp only [putL, i64_w, i32_w]; rfl
         refine take_ (i := 26) (N := some 35) (v := ?_) (a' := ?_) #[true, true, true, true, true, true, true, true, true, true, true, true, true, true, true, true, true, true, true, true, true, true, true, true, true, true, true, true, false, false, false, false] rfl rfl (take_ofW HT_.out HW_.out (by kernel_rfl)) (fun _ _ _ h => h) (Or.inl ⟨by rfl, ?_⟩) hHeld ?_ ?_
         rotate_left
         ·rintro w' ⟨s0, s1, s2, s3, s4, s5, s6, s7, s8, s9⟩
          go_simp; with_reducible rfl
         rotate_left
         ·simp only [putL, i64_w, i32_w]; rfl
         refine take_ (i := 28) (N := some 37) (v := ?_) (a' := ?_) #[true, true, true, true, true, true, true, true, true, true, true, true, true, true, true, true, true, true, true, true, true, true, true, true, true, true, true, true, true, false, false, false] rfl rfl (take_ofW HT_.out HW_.out (by kernel_rfl)) (fun _ _ _ h => h) (Or.inl ⟨by rfl, ?_⟩) hHeld ?_ ?_
         rotate_left
         ·rintro w' ⟨s0, s1, s2, s3, s4, s5, s6, s7, s8, s9⟩
          go_simp; with_reducible rfl
         rotate_left
         ·simp only [putL, i64_w, i32_w]; rfl
         refine pure_ (i := 29) (N := some 38) (v := ?_) (a' := ?_) #[true, true, true, true, true, true, true, true, true, true, true, true, true, true, true, true, true, true, true, true, true, true, true, true, true, true, true, true, true, true, false, false] rfl rfl (any_of HT_.out (by kernel_rfl)) (fun _ _ _ h => h) (Or.inl ⟨by rfl, ?_⟩) ?_ ?_
         rotate_left
         ·intro w'; go_simp; with_reducible rfl
         rotate_left
         ·simp only [putL, i64_w, i32_w]; rfl
         refine pure_ (i := 30) (N := some 39) (v := ?_) (a' := ?_) #[true, true, true, true, true, true, true, true, true, true, true, true, true, true, true, true, true, true, true, true, true, true, true, true, true, true, true, true, true, true, true, false] rfl rfl (any_of HT_.out (by kernel_rfl)) (fun _ _ _ h => h) (Or.inl ⟨by rfl, ?_⟩) ?_ ?_
         rotate_left
         ·intro w'; go_simp; with_reducible rfl
         rotate_left
         ·simp only [putL, i64_w, i32_w]; rfl
         refine pure_ (i := 31) (N := some 40) (v := ?_) (a' := ?_) #[true, true, true, true, true, true, true, true, true, true, true, true, true, true, true, true, true, true, true, true, true, true, true, true, true, true, true, true, true, true, true, true] rfl rfl (any_of HT_.out (by kernel_rfl)) (fun _ _ _ h => h) (Or.inl ⟨by rfl, ?_⟩) ?_ ?_
         rotate_left
         ·intro w'; go_simp; with_reducible rfl
         rotate_left
         ·simp only [putL, i64_w, i32_w]; rfl
         refine done_ (done_of HT_.out (by kernel_rfl)) ?_
         go_wp2
         go_meet
         case rel => exact ⟨_, (!false), (t213), (t214), (t215), (t216), (t217), (.slice Ao21 t217.length co21), (by first | rfl | (simp; done) | (simp [*]; done)), H', ⟨by first | omega | exact Nat.le_refl _⟩, ⟨rr HO219⟩, ⟨bb BK209⟩, ⟨bb BK210⟩, ⟨bb BK211⟩, ⟨bb BK220⟩, ⟨by repeat (first | (with_reducible first | exact HB.out | apply below_alloc | apply pw_below_drewN | apply below_drew1 | refine below_set ?_ GE209.out | refine below_set ?_ GE210.out | refine below_set ?_ GE211.out | refine below_set ?_ GE220.out | refine below_set ?_ GE222.out) | exact HB.out)⟩⟩
      ·rw [if_neg c39] at H
       have c39b0 : (a1_1 == t213) = false := beq_eq_false_iff_ne.mpr c39
       have c39b1 : (a1_1 != t213) = true := bne_iff_ne.mpr c39
       have H' := Aside0.mk H
       clear H; have hnb89 := NB210_209.out; have hnc89 := NB209_210.out; have hnb90 := NB210_211.out; have hnc90 := NB211_210.out; have hnb91 := NB210_220.out; have hnc91 := NB220_210.out; obtain ⟨hcz92_0, hcz92_1, hcz92_2, hcz92_3, hcz92_4⟩ := cs5 BK210; obtain ⟨hfz92_0, hfz92_1, hfz92_2, hfz92_3, hfz92_4⟩ := fs5 BK210
       go_wp2_with (first | ((with_reducible refine gate_callee (f := 101) rfl ?_); refine goesL_ (some 14) rfl rfl Try.func101 (by kernel_rfl) rfl #[.agg #[.int .i64 a1_0, .int .i64 a1_1, .int .i64 a1_2, .int .i64 a1_3, .string a1_4]] rfl (by (try simp only [List.map_toArray, List.map_cons, List.map_nil]); first | done | rfl | (simp only [List.length_drop, List.length_take]; rfl)) ?_; (with_reducible refine (impl_RecOk.calls a1_0 a1_1 a1_2 a1_3 a1_4 true _ A22.out).mono ?_); rintro e w93 ⟨rfl, hb⟩; refine ⟨_, rfl, ?_⟩; have n0_ := Aside0.mk (Kd.R_below (by (with_reducible repeat (first | apply Kd.R_alloc | apply Kd.R_drewN | apply Kd.R_drew)); exact (Kd.R_mono (Kd.R_far (p := ⟨gb220, 4, none⟩) (Kd.R_far (p := ⟨gb220, 3, none⟩) (Kd.R_far (p := ⟨gb220, 2, none⟩) (Kd.R_far (p := ⟨gb220, 1, none⟩) (Kd.R_far (p := ⟨gb220, 0, none⟩) (Kd.R_types HO219.out BK220.out (by decide)) (fun _ hk => hk.2) (.int .i64 t213)) (fun _ hk => hk.2) (.int .i64 t214)) (fun _ hk => hk.2) (.int .i64 t215)) (fun _ hk => hk.2) (.int .i64 t216)) (fun _ hk => hk.2) (.slice Ao21 t217.length co21)) (fun _ h_ => h_.1))) hb); have n1_ := bf BK209 hb; have n2_ := bf BK210 hb; have n3_ := bf BK211 hb; have n4_ := bp #[.int .i64 t213, .int .i64 t214, .int .i64 t215, .int .i64 t216, .slice Ao21 t217.length co21] BK220 hb; have n5_ := Aside0.mk (below_step (be HB) hb); clear HO219 BK209 BK210 BK211 BK220 HB; have HO219 := n0_; have BK209 := n1_; have BK210 := n2_; have BK211 := n3_; have BK220 := n4_; have HB := n5_; clear n0_ n1_ n2_ n3_ n4_ n5_; (try clear hb); (try clear hb2); (try clear hk); (try clear hi); obtain ⟨hcz94_0, hcz94_1, hcz94_2, hcz94_3, hcz94_4⟩ := cs5 BK210; obtain ⟨hfz94_0, hfz94_1, hfz94_2, hfz94_3, hfz94_4⟩ := fs5 BK210) | ((with_reducible refine gate_dst (N := 3) rfl ?_); refine box_event ?hg (N := 3) ?hd (cs := #[.int .i64 a1_0, .int .i64 a1_1, .int .i64 a1_2, .int .i64 a1_3, .string a1_4]) (t := 44) ?hr ?_; (case hd => rfl); (case hg => rfl); (case hr => first | (go_simp; done) | (go_simp; rfl)); intro gb222 hg w95 hbox hb; have n5_ := Aside0.mk (below_step (be HB) hb); have BK222 := Aside0.mk (hbox); have GW222 := bs HB hg; have GE222 := bs HB hg; have NB209_222 := bl BK209 hg; have NB222_209 := bg BK209 hg; have NB210_222 := bl BK210 hg; have NB222_210 := bg BK210 hg; have NB211_222 := bl BK211 hg; have NB222_211 := bg BK211 hg; have NB220_222 := bl BK220 hg; have NB222_220 := bg BK220 hg; replace HO219 := Aside0.mk (Kd.R_below (rr HO219) hb); replace BK209 := bq BK209 hb; replace BK210 := bq BK210 hb; replace BK211 := bq BK211 hb; replace BK220 := bq BK220 hb; clear HB; have HB := n5_; clear n5_; clear hb hbox hg; have hnb96 := NB222_209.out; have hnc96 := NB209_222.out; have hnb97 := NB222_210.out; have hnc97 := NB210_222.out; have hnb98 := NB222_211.out; have hnc98 := NB211_222.out; have hnb99 := NB222_220.out; have hnc99 := NB220_222.out; obtain ⟨hcz100_0, hcz100_1, hcz100_2, hcz100_3, hcz100_4⟩ := cs5 BK222; obtain ⟨hfz100_0, hfz100_1, hfz100_2, hfz100_3, hfz100_4⟩ := fs5 BK222) | (go_at_call 102; go_in))
       have n0_ := Aside0.mk (Kd.R_drew HO219.out)
       have n1_ := Aside0.mk (blk_drew BK209.out)
       have n2_ := Aside0.mk (blk_drew BK210.out)
       have n3_ := Aside0.mk (blk_drew BK211.out)
       have n4_ := Aside0.mk (blk_drew BK220.out)
       have n5_ := Aside0.mk (blk_drew BK222.out)
       have n6_ := Aside0.mk (below_drew1 HB.out)
       clear HO219 BK209 BK210 BK211 BK220 BK222 HB; have HO219 := n0_; have BK209 := n1_; have BK210 := n2_; have BK211 := n3_; have BK220 := n4_; have BK222 := n5_; have HB := n6_; clear n0_ n1_ n2_ n3_ n4_ n5_ n6_; refine start_ (n := 32) (S := fun w' => w'.cell? ⟨gb222, 0, none⟩ = some (.int .i64 a1_0) ∧ w'.cell? ⟨gb222, 1, none⟩ = some (.int .i64 a1_1) ∧ w'.cell? ⟨gb222, 2, none⟩ = some (.int .i64 a1_2) ∧ w'.cell? ⟨gb222, 3, none⟩ = some (.int .i64 a1_3) ∧ w'.cell? ⟨gb222, 4, none⟩ = some (.string a1_4) ∧ w'.cell? ⟨gb220, 0, none⟩ = some (.int .i64 t213) ∧ w'.cell? ⟨gb220, 1, none⟩ = some (.int .i64 t214) ∧ w'.cell? ⟨gb220, 2, none⟩ = some (.int .i64 t215) ∧ w'.cell? ⟨gb220, 3, none⟩ = some (.int .i64 t216) ∧ w'.cell? ⟨gb220, 4, none⟩ = some (.slice Ao21 t217.length co21)) (ds := []) #[false, false, false, false, false, false, false, false, false, false, false, false, false, false, false, false, false, false, false, false, false, false, false, false, false, false, false, false, false, false, false, false] (by kernel_rfl) rfl rfl ⟨bc BK222 0, bc BK222 1, bc BK222 2, bc BK222 3, bc BK222 4, bc BK220 0, bc BK220 1, bc BK220 2, bc BK220 3, bc BK220 4⟩ (fun hHeld => ?_); refine with_tabW impl_WalStep.tab1004 impl_WalStep.bits1004 (fun HT_ HW_ => ?_)
       generalize w95.drew = w101 at HO219 BK209 BK210 BK211 BK220 BK222 HB hHeld ⊢
       refine pure_ (i := 0) (N := some 9) (v := ?_) (a' := ?_) #[true, false, false, false, false, false, false, false, false, false, false, false, false, false, false, false, false, false, false, false, false, false, false, false, false, false, false, false, false, false, false, false] rfl rfl (any_of HT_.out (by kernel_rfl)) (fun _ _ _ h => h) (Or.inl ⟨by rfl, ?_⟩) ?_ ?_
       rotate_left
       ·intro w'; go_simp; with_reducible rfl
       rotate_left
       ·simp only [putL, i64_w, i32_w]; rfl
       refine pure_ (i := 2) (N := some 11) (v := ?_) (a' := ?_) #[true, false, true, false, false, false, false, false, false, false, false, false, false, false, false, false, false, false, false, false, false, false, false, false, false, false, false, false, false, false, false, false] rfl rfl (any_of HT_.out (by kernel_rfl)) (fun _ _ _ h => h) (Or.inl ⟨by rfl, ?_⟩) ?_ ?_
       rotate_left
       ·intro w'; go_simp; with_reducible rfl
       rotate_left
       ·simp only [putL, i64_w, i32_w]; rfl
       refine pure_ (i := 3) (N := some 12) (v := ?_) (a' := ?_) #[true, false, true, true, false, false, false, false, false, false, false, false, false, false, false, false, false, false, false, false, false, false, false, false, false, false, false, false, false, false, false, false] rfl rfl (any_of HT_.out (by kernel_rfl)) (fun _ _ _ h => h) (Or.inl ⟨by rfl, ?_⟩) ?_ ?_
       rotate_left
       ·intro w'; go_simp; with_reducible rfl
       rotate_left
       ·simp only [putL, i64_w, i32_w]; rfl
       refine pure_ (i := 4) (N := some 13) (v := ?_) (a' := ?_) #[true, false, true, true, true, false, false, false, false, false, false, false, false, false, false, false, false, false, false, false, false, false, false, false, false, false, false, false, false, false, false, false] rfl rfl (any_of HT_.out (by kernel_rfl)) (fun _ _ _ h => h) (Or.inl ⟨by rfl, ?_⟩) ?_ ?_
       rotate_left
       ·intro w'; go_simp; with_reducible rfl
       rotate_left
       ·simp only [putL, i64_w, i32_w]; rfl
       refine take_ (i := 1) (N := some 10) (v := ?_) (a' := ?_) #[true, true, true, true, true, false, false, false, false, false, false, false, false, false, false, false, false, false, false, false, false, false, false, false, false, false, false, false, false, false, false, false] rfl rfl (take_ofW HT_.out HW_.out (by kernel_rfl)) (fun _ _ _ h => h) (Or.inl ⟨by rfl, ?_⟩) hHeld ?_ ?_
       rotate_left
       ·rintro w' ⟨s0, s1, s2, s3, s4, s5, s6, s7, s8, s9⟩
        go_simp; with_reducible rfl
       rotate_left
       ·simp only [putL, i64_w, i32_w]; rfl
       refine take_ (i := 5) (N := some 14) (v := ?_) (a' := ?_) #[true, true, true, true, true, true, false, false, false, false, false, false, false, false, false, false, false, false, false, false, false, false, false, false, false, false, false, false, false, false, false, false] rfl rfl (take_ofW HT_.out HW_.out (by kernel_rfl)) (fun _ _ _ h => h) (Or.inl ⟨by rfl, ?_⟩) hHeld ?_ ?_
       rotate_left
       ·rintro w' ⟨s0, s1, s2, s3, s4, s5, s6, s7, s8, s9⟩
        go_simp; with_reducible rfl
       rotate_left
       ·simp only [putL, i64_w, i32_w]; rfl
       refine pure_ (i := 6) (N := some 15) (v := ?_) (a' := ?_) #[true, true, true, true, true, true, true, false, false, false, false, false, false, false, false, false, false, false, false, false, false, false, false, false, false, false, false, false, false, false, false, false] rfl rfl (any_of HT_.out (by kernel_rfl)) (fun _ _ _ h => h) (Or.inl ⟨by rfl, ?_⟩) ?_ ?_
       rotate_left
       ·intro w'; go_simp; with_reducible rfl
       rotate_left
       ·simp only [putL, i64_w, i32_w]; rfl
       refine pure_ (i := 7) (N := some 16) (v := ?_) (a' := ?_) #[true, true, true, true, true, true, true, true, false, false, false, false, false, false, false, false, false, false, false, false, false, false, false, false, false, false, false, false, false, false, false, false] rfl rfl (any_of HT_.out (by kernel_rfl)) (fun _ _ _ h => h) (Or.inl ⟨by rfl, ?_⟩) ?_ ?_
       rotate_left
       ·intro w'; go_simp; with_reducible rfl
       rotate_left
       ·simp only [putL, i64_w, i32_w]; rfl
       refine pure_ (i := 8) (N := some 17) (v := ?_) (a' := ?_) #[true, true, true, true, true, true, true, true, true, false, false, false, false, false, false, false, false, false, false, false, false, false, false, false, false, false, false, false, false, false, false, false] rfl rfl (any_of HT_.out (by kernel_rfl)) (fun _ _ _ h => h) (Or.inl ⟨by rfl, ?_⟩) ?_ ?_
       rotate_left
       ·intro w'; go_simp; with_reducible rfl
       rotate_left
       ·simp only [putL, i64_w, i32_w]; rfl
       refine pure_ (i := 10) (N := some 19) (v := ?_) (a' := ?_) #[true, true, true, true, true, true, true, true, true, false, true, false, false, false, false, false, false, false, false, false, false, false, false, false, false, false, false, false, false, false, false, false] rfl rfl (any_of HT_.out (by kernel_rfl)) (fun _ _ _ h => h) (Or.inl ⟨by rfl, ?_⟩) ?_ ?_
       rotate_left
       ·intro w'; go_simp; with_reducible rfl
       rotate_left
       ·simp only [putL, i64_w, i32_w]; rfl
       refine pure_ (i := 11) (N := some 20) (v := ?_) (a' := ?_) #[true, true, true, true, true, true, true, true, true, false, true, true, false, false, false, false, false, false, false, false, false, false, false, false, false, false, false, false, false, false, false, false] rfl rfl (any_of HT_.out (by kernel_rfl)) (fun _ _ _ h => h) (Or.inl ⟨by rfl, ?_⟩) ?_ ?_
       rotate_left
       ·intro w'; go_simp; with_reducible rfl
       rotate_left
       ·simp only [putL, i64_w, i32_w]; rfl
       refine pure_ (i := 12) (N := some 21) (v := ?_) (a' := ?_) #[true, true, true, true, true, true, true, true, true, false, true, true, true, false, false, false, false, false, false, false, false, false, false, false, false, false, false, false, false, false, false, false] rfl rfl (any_of HT_.out (by kernel_rfl)) (fun _ _ _ h => h) (Or.inl ⟨by rfl, ?_⟩) ?_ ?_
       rotate_left
       ·intro w'; go_simp; with_reducible rfl
       rotate_left
       ·simp only [putL, i64_w, i32_w]; rfl
       refine take_ (i := 9) (N := some 18) (v := ?_) (a' := ?_) #[true, true, true, true, true, true, true, true, true, true, true, true, true, false, false, false, false, false, false, false, false, false, false, false, false, false, false, false, false, false, false, false] rfl rfl (take_ofW HT_.out HW_.out (by kernel_rfl)) (fun _ _ _ h => h) (Or.inl ⟨by rfl, ?_⟩) hHeld ?_ ?_
       rotate_left
       ·rintro w' ⟨s0, s1, s2, s3, s4, s5, s6, s7, s8, s9⟩
        go_simp; with_reducible rfl
       rotate_left
       ·simp only [putL, i64_w, i32_w]; rfl
       refine take_ (i := 13) (N := some 22) (v := ?_) (a' := ?_) #[true, true, true, true, true, true, true, true, true, true, true, true, true, true, false, false, false, false, false, false, false, false, false, false, false, false, false, false, false, false, false, false] rfl rfl (take_ofW HT_.out HW_.out (by kernel_rfl)) (fun _ _ _ h => h) (Or.inl ⟨by rfl, ?_⟩) hHeld ?_ ?_
       rotate_left
       ·rintro w' ⟨s0, s1, s2, s3, s4, s5, s6, s7, s8, s9⟩
        go_simp; with_reducible rfl
       rotate_left
       ·simp only [putL, i64_w, i32_w]; rfl
       refine pure_ (i := 14) (N := some 23) (v := ?_) (a' := ?_) #[true, true, true, true, true, true, true, true, true, true, true, true, true, true, true, false, false, false, false, false, false, false, false, false, false, false, false, false, false, false, false, false] rfl rfl (any_of HT_.out (by kernel_rfl)) (fun _ _ _ h => h) (Or.inl ⟨by rfl, ?_⟩) ?_ ?_
       rotate_left
       ·intro w'; go_simp; with_reducible rfl
       rotate_left
       ·simp only [putL, i64_w, i32_w]; rfl
       refine pure_ (i := 15) (N := some 24) (v := ?_) (a' := ?_) #[true, true, true, true, true, true, true, true, true, true, true, true, true, true, true, true, false, false, false, false, false, false, false, false, false, false, false, false, false, false, false, false] rfl rfl (any_of HT_.out (by kernel_rfl)) (fun _ _ _ h => h) (Or.inl ⟨by rfl, ?_⟩) ?_ ?_
       rotate_left
       ·intro w'; go_simp; with_reducible rfl
       rotate_left
       ·simp only [putL, i64_w, i32_w]; rfl
       refine pure_ (i := 16) (N := some 25) (v := undef) (a' := ?_) #[true, true, true, true, true, true, true, true, true, true, true, true, true, true, true, true, true, false, false, false, false, false, false, false, false, false, false, false, false, false, false, false] rfl rfl (any_of HT_.out (by kernel_rfl)) (fun _ _ _ h => h) (Or.inr ⟨by rfl, rfl⟩) ?_ ?_
       rotate_left
       ·simp only [putL, i64_w, i32_w]; rfl
       refine pure_ (i := 17) (N := some 26) (v := undef) (a' := ?_) #[true, true, true, true, true, true, true, true, true, true, true, true, true, true, true, true, true, true, false, false, false, false, false, false, false, false, false, false, false, false, false, false] rfl rfl (any_of HT_.out (by kernel_rfl)) (fun _ _ _ h => h) (Or.inr ⟨by rfl, rfl⟩) ?_ ?_
       rotate_left
       ·simp only [putL, i64_w, i32_w]; rfl
       refine pure_ (i := 18) (N := some 27) (v := undef) (a' := ?_) #[true, true, true, true, true, true, true, true, true, true, true, true, true, true, true, true, true, true, true, false, false, false, false, false, false, false, false, false, false, false, false, false] rfl rfl (any_of HT_.out (by kernel_rfl)) (fun _ _ _ h => h) (Or.inr ⟨by rfl, rfl⟩) ?_ ?_
       rotate_left
       ·simp only [putL, i64_w, i32_w]; rfl
       refine pure_ (i := 19) (N := some 28) (v := undef) (a' := ?_) #[true, true, true, true, true, true, true, true, true, true, true, true, true, true, true, true, true, true, true, true, false, false, false, false, false, false, false, false, false, false, false, false] rfl rfl (any_of HT_.out (by kernel_rfl)) (fun _ _ _ h => h) (Or.inr ⟨by rfl, rfl⟩) ?_ ?_
       rotate_left
       ·simp only [putL, i64_w, i32_w]; rfl
       refine pure_ (i := 20) (N := some 29) (v := undef) (a' := ?_) #[true, true, true, true, true, true, true, true, true, true, true, true, true, true, true, true, true, true, true, true, true, false, false, false, false, false, false, false, false, false, false, false] rfl rfl (any_of HT_.out (by kernel_rfl)) (fun _ _ _ h => h) (Or.inr ⟨by rfl, rfl⟩) ?_ ?_
       rotate_left
       ·simp only [putL, i64_w, i32_w]; rfl
       refine pure_ (i := 21) (N := some 30) (v := ?_) (a' := ?_) #[true, true, true, true, true, true, true, true, true, true, true, true, true, true, true, true, true, true, true, true, true, true, false, false, false, false, false, false, false, false, false, false] rfl rfl (any_of HT_.out (by kernel_rfl)) (fun _ _ _ h => h) (Or.inl ⟨by rfl, ?_⟩) ?_ ?_
       rotate_left
       ·intro w'; go_simp; with_reducible rfl
       rotate_left
       ·simp only [putL, i64_w, i32_w]; rfl
       refine pure_ (i := 22) (N := some 31) (v := ?_) (a' := ?_) #[true, true, true, true, true, true, true, true, true, true, true, true, true, true, true, true, true, true, true, true, true, true, true, false, false, false, false, false, false, false, false, false] rfl rfl (any_of HT_.out (by kernel_rfl)) (fun _ _ _ h => h) (Or.inl ⟨by rfl, ?_⟩) ?_ ?_
       rotate_left
       ·intro w'; go_simp; with_reducible rfl
       rotate_left
       ·simp only [putL, i64_w, i32_w]; rfl
       refine pure_ (i := 23) (N := some 32) (v := undef) (a' := ?_) #[true, true, true, true, true, true, true, true, true, true, true, true, true, true, true, true, true, true, true, true, true, true, true, true, false, false, false, false, false, false, false, false] rfl rfl (any_of HT_.out (by kernel_rfl)) (fun _ _ _ h => h) (Or.inr ⟨by rfl, rfl⟩) ?_ ?_
       rotate_left
       ·simp only [putL, i64_w, i32_w]; rfl
       refine pure_ (i := 24) (N := some 33) (v := undef) (a' := ?_) #[true, true, true, true, true, true, true, true, true, true, true, true, true, true, true, true, true, true, true, true, true, true, true, true, true, false, false, false, false, false, false, false] rfl rfl (any_of HT_.out (by kernel_rfl)) (fun _ _ _ h => h) (Or.inr ⟨by rfl, rfl⟩) ?_ ?_
       rotate_left
       ·simp only [putL, i64_w, i32_w]; rfl
       refine pure_ (i := 25) (N := some 34) (v := undef) (a' := ?_) #[true, true, true, true, true, true, true, true, true, true, true, true, true, true, true, true, true, true, true, true, true, true, true, true, true, true, false, false, false, false, false, false] rfl rfl (any_of HT_.out (by kernel_rfl)) (fun _ _ _ h => h) (Or.inr ⟨by rfl, rfl⟩) ?_ ?_
       rotate_left
       ·simp only [putL, i64_w, i32_w]; rfl
       refine pure_ (i := 26) (N := some 35) (v := undef) (a' := ?_) #[true, true, true, true, true, true, true, true, true, true, true, true, true, true, true, true, true, true, true, true, true, true, true, true, true, true, true, false, false, false, false, false] rfl rfl (any_of HT_.out (by kernel_rfl)) (fun _ _ _ h => h) (Or.inr ⟨by rfl, rfl⟩) ?_ ?_
       rotate_left
       ·simp only [putL, i64_w, i32_w]; rfl
       refine pure_ (i := 27) (N := some 36) (v := undef) (a' := ?_) #[true, true, true, true, true, true, true, true, true, true, true, true, true, true, true, true, true, true, true, true, true, true, true, true, true, true, true, true, false, false, false, false] rfl rfl (any_of HT_.out (by kernel_rfl)) (fun _ _ _ h => h) (Or.inr ⟨by rfl, rfl⟩) ?_ ?_
       rotate_left
       ·simp only [putL, i64_w, i32_w]; rfl
       refine pure_ (i := 28) (N := some 37) (v := undef) (a' := ?_) #[true, true, true, true, true, true, true, true, true, true, true, true, true, true, true, true, true, true, true, true, true, true, true, true, true, true, true, true, true, false, false, false] rfl rfl (any_of HT_.out (by kernel_rfl)) (fun _ _ _ h => h) (Or.inr ⟨by rfl, rfl⟩) ?_ ?_
       rotate_left
       ·simp only [putL, i64_w, i32_w]; rfl
       refine pure_ (i := 29) (N := some 38) (v := undef) (a' := ?_) #[true, true, true, true, true, true, true, true, true, true, true, true, true, true, true, true, true, true, true, true, true, true, true, true, true, true, true, true, true, true, false, false] rfl rfl (any_of HT_.out (by kernel_rfl)) (fun _ _ _ h => h) (Or.inr ⟨by rfl, rfl⟩) ?_ ?_
       rotate_left
       ·simp only [putL, i64_w, i32_w]; rfl
       refine pure_ (i := 30) (N := some 39) (v := ?_) (a' := ?_) #[true, true, true, true, true, true, true, true, true, true, true, true, true, true, true, true, true, true, true, true, true, true, true, true, true, true, true, true, true, true, true, false] rfl rfl (any_of HT_.out (by kernel_rfl)) (fun _ _ _ h => h) (Or.inl ⟨by rfl, ?_⟩) ?_ ?_
       rotate_left
       ·intro w'; go_simp; with_reducible rfl
       rotate_left
       ·simp only [putL, i64_w, i32_w]; rfl
       refine pure_ (i := 31) (N := some 40) (v := ?_) (a' := ?_) #[true, true, true, true, true, true, true, true, true, true, true, true, true, true, true, true, true, true, true, true, true, true, true, true, true, true, true, true, true, true, true, true] rfl rfl (any_of HT_.out (by kernel_rfl)) (fun _ _ _ h => h) (Or.inl ⟨by rfl, ?_⟩) ?_ ?_
       rotate_left
       ·intro w'; go_simp; with_reducible rfl
       rotate_left
       ·simp only [putL, i64_w, i32_w]; rfl
       refine done_ (done_of HT_.out (by kernel_rfl)) ?_
       obtain ⟨hcz102_0, hcz102_1, hcz102_2, hcz102_3, hcz102_4⟩ := cs5 BK222; obtain ⟨hfz102_0, hfz102_1, hfz102_2, hfz102_3, hfz102_4⟩ := fs5 BK222; have hnb103 := NB220_209.out; have hnc103 := NB209_220.out; have hnb104 := NB220_211.out; have hnc104 := NB211_220.out; obtain ⟨hcz105_0, hcz105_1, hcz105_2, hcz105_3, hcz105_4⟩ := cs5 BK220; obtain ⟨hfz105_0, hfz105_1, hfz105_2, hfz105_3, hfz105_4⟩ := fs5 BK220
       go_wp2
       go_meet
       case rel => exact ⟨_, (!true), (a1_1), (a1_3), (t215), (t216), (t217), (.slice Ao21 t217.length co21), (by first | rfl | (simp; done) | (simp [*]; done)), H', ⟨by first | omega | exact Nat.le_refl _⟩, ⟨by (with_reducible repeat (first | apply Kd.R_alloc | apply Kd.R_drewN | apply Kd.R_drew)); exact Kd.R_mono (Kd.R_far (p := ⟨gb220, 1, none⟩) (Kd.R_far (p := ⟨gb220, 0, none⟩) (Kd.R_types HO219.out BK220.out (by decide)) (fun _ hk => hk.2) (.int .i64 a1_1)) (fun _ hk => hk.2) (.int .i64 a1_3)) (fun _ hk => trivial)⟩, ⟨by (with_reducible repeat first | refine bkN ?_ _ | refine bkD ?_ | refine bkA ?_ _ | refine blk_far ?_ NB209_220.out _); exact BK209.out⟩, ⟨by (with_reducible repeat first | refine bkN ?_ _ | refine bkD ?_ | refine bkA ?_ _ | refine blk_far ?_ NB210_220.out _); exact BK210.out⟩, ⟨by (with_reducible repeat first | refine bkN ?_ _ | refine bkD ?_ | refine bkA ?_ _ | refine blk_far ?_ NB211_220.out _); exact BK211.out⟩, ⟨by (with_reducible repeat first | refine bkN ?_ _ | refine bkD ?_ | refine bkA ?_ _); refine blk_put (cs := #[.int .i64 a1_1, .int .i64 t214, .int .i64 t215, .int .i64 t216, .slice Ao21 t217.length co21]) ?_ 1 _ rfl; (with_reducible repeat first | refine bkN ?_ _ | refine bkD ?_ | refine bkA ?_ _); refine blk_put (cs := #[.int .i64 t213, .int .i64 t214, .int .i64 t215, .int .i64 t216, .slice Ao21 t217.length co21]) ?_ 0 _ rfl; (with_reducible repeat first | refine bkN ?_ _ | refine bkD ?_ | refine bkA ?_ _); exact BK220.out⟩, ⟨by repeat (first | (with_reducible first | exact HB.out | apply below_alloc | apply pw_below_drewN | apply below_drew1 | refine below_set ?_ GE209.out | refine below_set ?_ GE210.out | refine below_set ?_ GE211.out | refine below_set ?_ GE220.out | refine below_set ?_ GE222.out) | exact HB.out)⟩⟩
    ·exact absurd HKc_.out c24
   ·replace c23 := Bool.eq_false_iff.mpr c23
    subst c23
    have H1 : (impl_WalStep.j0 k true a0_0 a0_1 a0_2 a0_3 l0_4 t213 t214 t215 t216 t217) = some (r1, r2, r3, r4, r5, r6) := by rw [if_neg (show ¬ (false = true) by decide)] at H; exact H
    clear H; have H := H1
    clear H1; have H' := Aside0.mk H
    clear H; have hnb226 := NB210_209.out; have hnc226 := NB209_210.out; have hnb227 := NB210_211.out; have hnc227 := NB211_210.out; have hnb228 := NB210_220.out; have hnc228 := NB220_210.out; obtain ⟨hcz229_0, hcz229_1, hcz229_2, hcz229_3, hcz229_4⟩ := cs5 BK210; obtain ⟨hfz229_0, hfz229_1, hfz229_2, hfz229_3, hfz229_4⟩ := fs5 BK210
    go_wp2_with (first | ((with_reducible refine gate_callee (f := 101) rfl ?_); refine goesL_ (some 14) rfl rfl Try.func101 (by kernel_rfl) rfl #[.agg #[.int .i64 a1_0, .int .i64 a1_1, .int .i64 a1_2, .int .i64 a1_3, .string a1_4]] rfl (by (try simp only [List.map_toArray, List.map_cons, List.map_nil]); first | done | rfl | (simp only [List.length_drop, List.length_take]; rfl)) ?_; (with_reducible refine (impl_RecOk.calls a1_0 a1_1 a1_2 a1_3 a1_4 false _ A22.out).mono ?_); rintro e w230 ⟨rfl, hb⟩; refine ⟨_, rfl, ?_⟩; have n0_ := Aside0.mk (Kd.R_below (by (with_reducible repeat (first | apply Kd.R_alloc | apply Kd.R_drewN | apply Kd.R_drew)); exact (Kd.R_mono (Kd.R_far (p := ⟨gb220, 4, none⟩) (Kd.R_far (p := ⟨gb220, 3, none⟩) (Kd.R_far (p := ⟨gb220, 2, none⟩) (Kd.R_far (p := ⟨gb220, 1, none⟩) (Kd.R_far (p := ⟨gb220, 0, none⟩) (Kd.R_types HO219.out BK220.out (by decide)) (fun _ hk => hk.2) (.int .i64 t213)) (fun _ hk => hk.2) (.int .i64 t214)) (fun _ hk => hk.2) (.int .i64 t215)) (fun _ hk => hk.2) (.int .i64 t216)) (fun _ hk => hk.2) (.slice Ao21 t217.length co21)) (fun _ h_ => h_.1))) hb); have n1_ := bf BK209 hb; have n2_ := bf BK210 hb; have n3_ := bf BK211 hb; have n4_ := bp #[.int .i64 t213, .int .i64 t214, .int .i64 t215, .int .i64 t216, .slice Ao21 t217.length co21] BK220 hb; have n5_ := Aside0.mk (below_step (be HB) hb); clear HO219 BK209 BK210 BK211 BK220 HB; have HO219 := n0_; have BK209 := n1_; have BK210 := n2_; have BK211 := n3_; have BK220 := n4_; have HB := n5_; clear n0_ n1_ n2_ n3_ n4_ n5_; (try clear hb); (try clear hb2); (try clear hk); (try clear hi)) | (go_at_call 102; go_in))
    go_meet
    case rel => exact ⟨_, (true), (t213), (t214), (t215), (t216), (t217), (.slice Ao21 t217.length co21), (by first | rfl | (simp; done) | (simp [*]; done)), H', ⟨by first | omega | exact Nat.le_refl _⟩, ⟨rr HO219⟩, ⟨bb BK209⟩, ⟨bb BK210⟩, ⟨bb BK211⟩, ⟨bb BK220⟩, ⟨by repeat (first | (with_reducible first | exact HB.out | apply below_alloc | apply pw_below_drewN | apply below_drew1 | refine below_set ?_ GE209.out | refine below_set ?_ GE210.out | refine below_set ?_ GE211.out | refine below_set ?_ GE220.out) | exact HB.out)⟩⟩
  case rest =>
   clear HC6; (try clear c1); (try clear q1); (try clear c2); (try clear p2); (try clear p6); (try clear c7); (try clear c10); (try clear c14); (try clear c17); (try clear c18); (try clear q19); (try clear c20); (try clear c21); (try clear c22); (try clear c23); (try clear p64); (try clear c77); (try clear c101); (try clear c140); (try clear c176); (try clear c176b0); (try clear c176b1); (try clear c179); (try clear c181); (try clear c182); (try clear q198); (try clear c200); (try clear c201); (try clear c202); (try clear c207); (try clear c208); (try clear c209); (try clear c210); (try clear c214); (try clear c215); (try clear c216); (try clear c221); (try clear c222); (try clear c223); (try clear c224); (try clear c226); (try clear c227); (try clear c228); (try clear hcz203_0); (try clear hcz203_1); (try clear hcz203_2); (try clear hcz203_3); (try clear hcz203_4); (try clear hcz205_0); (try clear hcz205_1); (try clear hcz205_2); (try clear hcz205_3); (try clear hcz205_4); (try clear hcz211_0); (try clear hcz211_1); (try clear hcz211_2); (try clear hcz211_3); (try clear hcz211_4); (try clear hcz217_0); (try clear hcz217_1); (try clear hcz217_2); (try clear hcz217_3); (try clear hcz217_4); (try clear hcz219_0); (try clear hcz219_1); (try clear hcz219_2); (try clear hcz219_3); (try clear hcz219_4); (try clear hcz225_0); (try clear hcz225_1); (try clear hcz225_2); (try clear hcz225_3); (try clear hcz225_4); (try clear hcz229_0); (try clear hcz229_1); (try clear hcz229_2); (try clear hcz229_3); (try clear hcz229_4); (try clear hfz203_0); (try clear hfz203_1); (try clear hfz203_2); (try clear hfz203_3); (try clear hfz203_4); (try clear hfz205_0); (try clear hfz205_1); (try clear hfz205_2); (try clear hfz205_3); (try clear hfz205_4); (try clear hfz211_0); (try clear hfz211_1); (try clear hfz211_2); (try clear hfz211_3); (try clear hfz211_4); (try clear hfz217_0); (try clear hfz217_1); (try clear hfz217_2); (try clear hfz217_3); (try clear hfz217_4); (try clear hfz219_0); (try clear hfz219_1); (try clear hfz219_2); (try clear hfz219_3); (try clear hfz219_4); (try clear hfz225_0); (try clear hfz225_1); (try clear hfz225_2); (try clear hfz225_3); (try clear hfz225_4); (try clear hfz229_0); (try clear hfz229_1); (try clear hfz229_2); (try clear hfz229_3); (try clear hfz229_4); (try clear q198); obtain ⟨kq, x20_5, x221000_5, x221001_5, x221002_5, x221003_5, x221004_5, u221004, rfl, HA, HJ5, HO_221004, BK209, BK210, BK211, BK220, HB⟩ := hcut
   cases kq with
   | zero => exact absurd HA.out (by simp [impl_WalStep.j0])
   | succ kj5 =>
    have H := HA.out; clear HA; simp only [impl_WalStep.j0] at H
    by_cases c231 : x20_5 = true
    ·subst c231
     have H1 : ((impl_copyWal.f a0_0 a0_1 a0_2 a0_3 l0_4).bind fun bt234 => (some (bt234.1, bt234.2.1, bt234.2.2.1, bt234.2.2.2.1, bt234.2.2.2.2, false))) = some (r1, r2, r3, r4, r5, r6) := by rw [if_pos rfl] at H; exact H
     clear H; have H := H1
     clear H1; replace H := Option.bind_eq_some_iff.mp H
     obtain ⟨⟨t234, t235, t236, t237, t238⟩, A2320, H⟩ := H
     replace H : (some (t234, t235, t236, t237, t238, false)) = some (r1, r2, r3, r4, r5, r6) := H
     have A232 := Aside0.mk A2320
     clear A2320; simp only [Option.some.injEq, Prod.mk.injEq] at H
     obtain ⟨rfl, rfl, rfl, rfl, rfl, rfl⟩ := H
     have hnb233 := NB209_210.out; have hnc233 := NB210_209.out; have hnb234 := NB209_211.out; have hnc234 := NB211_209.out; have hnb235 := NB209_220.out; have hnc235 := NB220_209.out; obtain ⟨hcz236_0, hcz236_1, hcz236_2, hcz236_3, hcz236_4⟩ := cs5 BK209; obtain ⟨hfz236_0, hfz236_1, hfz236_2, hfz236_3, hfz236_4⟩ := fs5 BK209
     go_wp2_with (first | ((with_reducible refine gate_callee (f := 100) rfl ?_); refine goesL_ (some 22) rfl rfl Try.func100 (by kernel_rfl) rfl #[.agg #[.int .i64 a0_0, .int .i64 a0_1, .int .i64 a0_2, .int .i64 a0_3, .slice A0_4 l0_4.length c0_4]] rfl (by (try simp only [List.map_toArray, List.map_cons, List.map_nil]); first | done | rfl | (simp only [List.length_drop, List.length_take]; rfl)) ?_; (with_reducible refine (impl_copyWal.calls a0_0 a0_1 a0_2 a0_3 _ _ l0_4 t234 t235 t236 t237 t238 _ ?side1 ?side2 A232.out).mono ?_); (case side1 => repeat (first | exact (Kd.C_below HR0_4.out HB.out) | (with_reducible refine Kd.C_alloc ?_ _) | (with_reducible refine Kd.C_drewN ?_ _) | (with_reducible refine Kd.C_drew ?_))); (case side2 => exact HC0_4.out); rintro e w237 ⟨v239, rfl, ho0, hb⟩; refine ⟨_, rfl, ?_⟩; have n0_ := Aside0.mk (Kd.R_elder' (rr HO_221004) (Kd.R_base ho0) hb); have n6_ := Aside0.mk (below_step (be HB) hb); have HO240 := Aside0.mk (Kd.R_lower (Kd.R_new' ho0 (Kd.R_lt (rr HO_221004))) (below_size (be HB))); replace BK209 := bq BK209 hb; replace BK210 := bq BK210 hb; replace BK211 := bq BK211 hb; replace BK220 := bq BK220 hb; clear HO_221004 HB; have HO_221004 := n0_; have HB := n6_; clear n0_ n6_; (try clear hb); (try clear hb2); (try clear hk); (try clear hi); (try clear ho0); have hnb238 := NB211_210.out; have hnc238 := NB210_211.out; have hnb239 := NB211_220.out; have hnc239 := NB220_211.out; obtain ⟨hcz240_0, hcz240_1, hcz240_2, hcz240_3, hcz240_4⟩ := cs5 BK211; obtain ⟨hfz240_0, hfz240_1, hfz240_2, hfz240_3, hfz240_4⟩ := fs5 BK211; obtain ⟨Ao241, co241, eo241⟩ := Kd.R_slice HO240.out; subst eo241) | (go_at_call 102; go_in))
     refine bodyPost_ret (results_ct rfl _ _ gb211 62 #[.int .i64 t234, .int .i64 t235, .int .i64 t236, .int .i64 t237, .slice Ao241 t238.length co241] (0, 0) _ rfl (by (with_reducible repeat first | refine bkN ?_ _ | refine bkD ?_ | refine bkA ?_ _); refine blk_put (cs := #[.int .i64 t234, .int .i64 t235, .int .i64 t236, .int .i64 t237, .slice none 0 0]) ?_ 4 _ rfl; (with_reducible repeat first | refine bkN ?_ _ | refine bkD ?_ | refine bkA ?_ _); refine blk_put (cs := #[.int .i64 t234, .int .i64 t235, .int .i64 t236, .int .i64 0, .slice none 0 0]) ?_ 3 _ rfl; (with_reducible repeat first | refine bkN ?_ _ | refine bkD ?_ | refine bkA ?_ _); refine blk_put (cs := #[.int .i64 t234, .int .i64 t235, .int .i64 0, .int .i64 0, .slice none 0 0]) ?_ 2 _ rfl; (with_reducible repeat first | refine bkN ?_ _ | refine bkD ?_ | refine bkA ?_ _); refine blk_put (cs := #[.int .i64 t234, .int .i64 0, .int .i64 0, .int .i64 0, .slice none 0 0]) ?_ 1 _ rfl; (with_reducible repeat first | refine bkN ?_ _ | refine bkD ?_ | refine bkA ?_ _); refine blk_put (cs := #[.int .i64 0, .int .i64 0, .int .i64 0, .int .i64 0, .slice none 0 0]) ?_ 0 _ rfl; (with_reducible repeat first | refine bkN ?_ _ | refine bkD ?_ | refine bkA ?_ _); exact BK211.out) Try.underlying62 rfl (by kernel_rfl)) rfl ?_
     exact ⟨_, by first | rfl | (simp [errW_none, errW_some] <;> rfl) | (simp [*, errW_none, errW_some] <;> rfl), by (with_reducible repeat (first | apply Kd.R_alloc | apply Kd.R_drewN | apply Kd.R_drew)); exact Kd.R_mono (Kd.R_far (p := ⟨gb211, 4, none⟩) (Kd.R_far (p := ⟨gb211, 3, none⟩) (Kd.R_far (p := ⟨gb211, 2, none⟩) (Kd.R_far (p := ⟨gb211, 1, none⟩) (Kd.R_far (p := ⟨gb211, 0, none⟩) (Kd.R_types HO240.out BK211.out (by decide)) (fun _ hk => hk.2) (.int .i64 t234)) (fun _ hk => hk.2) (.int .i64 t235)) (fun _ hk => hk.2) (.int .i64 t236)) (fun _ hk => hk.2) (.int .i64 t237)) (fun _ hk => hk.2) (.slice Ao241 t238.length co241)) (fun _ hk => trivial), by repeat (first | (with_reducible first | exact HB.out | apply below_alloc | apply pw_below_drewN | apply below_drew1 | refine below_set ?_ GE209.out | refine below_set ?_ GE210.out | refine below_set ?_ GE211.out | refine below_set ?_ GE220.out) | exact HB.out)⟩
    ·replace c231 := Bool.eq_false_iff.mpr c231
     subst c231
     have H1 : ((impl_copyWal.f x221000_5 x221001_5 x221002_5 x221003_5 x221004_5).bind fun bt241 => (some (bt241.1, bt241.2.1, bt241.2.2.1, bt241.2.2.2.1, bt241.2.2.2.2, true))) = some (r1, r2, r3, r4, r5, r6) := by rw [if_neg (show ¬ (false = true) by decide)] at H; exact H
     clear H; have H := H1
     clear H1; replace H := Option.bind_eq_some_iff.mp H
     obtain ⟨⟨t241, t242, t243, t244, t245⟩, A2420, H⟩ := H
     replace H : (some (t241, t242, t243, t244, t245, true)) = some (r1, r2, r3, r4, r5, r6) := H
     have A242 := Aside0.mk A2420
     clear A2420; simp only [Option.some.injEq, Prod.mk.injEq] at H
     obtain ⟨rfl, rfl, rfl, rfl, rfl, rfl⟩ := H
     have hnb243 := NB220_209.out; have hnc243 := NB209_220.out; have hnb244 := NB220_210.out; have hnc244 := NB210_220.out; have hnb245 := NB220_211.out; have hnc245 := NB211_220.out; obtain ⟨hcz246_0, hcz246_1, hcz246_2, hcz246_3, hcz246_4⟩ := cs5 BK220; obtain ⟨hfz246_0, hfz246_1, hfz246_2, hfz246_3, hfz246_4⟩ := fs5 BK220; obtain ⟨Ao247, co247, eo247⟩ := Kd.R_slice HO_221004.out
     subst eo247
     go_wp2_with (first | ((with_reducible refine gate_callee (f := 100) rfl ?_); refine goesL_ (some 24) rfl rfl Try.func100 (by kernel_rfl) rfl #[.agg #[.int .i64 x221000_5, .int .i64 x221001_5, .int .i64 x221002_5, .int .i64 x221003_5, .slice Ao247 x221004_5.length co247]] rfl (by (try simp only [List.map_toArray, List.map_cons, List.map_nil]); first | done | rfl | (simp only [List.length_drop, List.length_take]; rfl)) ?_; (with_reducible refine (impl_copyWal.calls x221000_5 x221001_5 x221002_5 x221003_5 _ _ x221004_5 t241 t242 t243 t244 t245 _ ?side1 ?side2 A242.out).mono ?_); (case side1 => repeat (first | exact (Kd.R_reads' HO_221004.out).2.2 | (with_reducible refine Kd.C_alloc ?_ _) | (with_reducible refine Kd.C_drewN ?_ _) | (with_reducible refine Kd.C_drew ?_))); (case side2 => exact (Kd.R_reads' HO_221004.out).2.1); rintro e w248 ⟨v246, rfl, ho0, hb⟩; refine ⟨_, rfl, ?_⟩; have n0_ := Aside0.mk (Kd.R_elder' (rr HO_221004) (Kd.R_base ho0) hb); have n6_ := Aside0.mk (below_step (be HB) hb); have HO247 := Aside0.mk (Kd.R_lower (Kd.R_new' ho0 (Kd.R_lt (rr HO_221004))) (below_size (be HB))); replace BK209 := bq BK209 hb; replace BK210 := bq BK210 hb; replace BK211 := bq BK211 hb; replace BK220 := bq BK220 hb; clear HO_221004 HB; have HO_221004 := n0_; have HB := n6_; clear n0_ n6_; (try clear hb); (try clear hb2); (try clear hk); (try clear hi); (try clear ho0); have hnb249 := NB211_209.out; have hnc249 := NB209_211.out; have hnb250 := NB211_210.out; have hnc250 := NB210_211.out; obtain ⟨hcz251_0, hcz251_1, hcz251_2, hcz251_3, hcz251_4⟩ := cs5 BK211; obtain ⟨hfz251_0, hfz251_1, hfz251_2, hfz251_3, hfz251_4⟩ := fs5 BK211; obtain ⟨Ao252, co252, eo252⟩ := Kd.R_slice HO247.out; subst eo252) | (go_at_call 102; go_in))
     refine bodyPost_ret (results_ct rfl _ _ gb211 62 #[.int .i64 t241, .int .i64 t242, .int .i64 t243, .int .i64 t244, .slice Ao252 t245.length co252] (0, 0) _ rfl (by (with_reducible repeat first | refine bkN ?_ _ | refine bkD ?_ | refine bkA ?_ _); refine blk_put (cs := #[.int .i64 t241, .int .i64 t242, .int .i64 t243, .int .i64 t244, .slice none 0 0]) ?_ 4 _ rfl; (with_reducible repeat first | refine bkN ?_ _ | refine bkD ?_ | refine bkA ?_ _); refine blk_put (cs := #[.int .i64 t241, .int .i64 t242, .int .i64 t243, .int .i64 0, .slice none 0 0]) ?_ 3 _ rfl; (with_reducible repeat first | refine bkN ?_ _ | refine bkD ?_ | refine bkA ?_ _); refine blk_put (cs := #[.int .i64 t241, .int .i64 t242, .int .i64 0, .int .i64 0, .slice none 0 0]) ?_ 2 _ rfl; (with_reducible repeat first | refine bkN ?_ _ | refine bkD ?_ | refine bkA ?_ _); refine blk_put (cs := #[.int .i64 t241, .int .i64 0, .int .i64 0, .int .i64 0, .slice none 0 0]) ?_ 1 _ rfl; (with_reducible repeat first | refine bkN ?_ _ | refine bkD ?_ | refine bkA ?_ _); refine blk_put (cs := #[.int .i64 0, .int .i64 0, .int .i64 0, .int .i64 0, .slice none 0 0]) ?_ 0 _ rfl; (with_reducible repeat first | refine bkN ?_ _ | refine bkD ?_ | refine bkA ?_ _); exact BK211.out) Try.underlying62 rfl (by kernel_rfl)) rfl ?_
     exact ⟨_, by first | rfl | (simp [errW_none, errW_some] <;> rfl) | (simp [*, errW_none, errW_some] <;> rfl), by (with_reducible repeat (first | apply Kd.R_alloc | apply Kd.R_drewN | apply Kd.R_drew)); exact Kd.R_mono (Kd.R_far (p := ⟨gb211, 4, none⟩) (Kd.R_far (p := ⟨gb211, 3, none⟩) (Kd.R_far (p := ⟨gb211, 2, none⟩) (Kd.R_far (p := ⟨gb211, 1, none⟩) (Kd.R_far (p := ⟨gb211, 0, none⟩) (Kd.R_types HO247.out BK211.out (by decide)) (fun _ hk => hk.2) (.int .i64 t241)) (fun _ hk => hk.2) (.int .i64 t242)) (fun _ hk => hk.2) (.int .i64 t243)) (fun _ hk => hk.2) (.int .i64 t244)) (fun _ hk => hk.2) (.slice Ao252 t245.length co252)) (fun _ hk => trivial), by repeat (first | (with_reducible first | exact HB.out | apply below_alloc | apply pw_below_drewN | apply below_drew1 | refine below_set ?_ GE209.out | refine below_set ?_ GE210.out | refine below_set ?_ GE211.out | refine below_set ?_ GE220.out) | exact HB.out)⟩
 ·replace c4 := Bool.eq_false_iff.mpr c4
  subst c4
  have H1 : (some (0, 0, 0, 0, ([] : List (S125)), false)) = some (r1, r2, r3, r4, r5, r6) := by rw [if_neg (show ¬ (false = true) by decide)] at H; exact H
  clear H; have H := H1
  clear H1; simp only [Option.some.injEq, Prod.mk.injEq] at H
  obtain ⟨rfl, rfl, rfl, rfl, rfl, rfl⟩ := H
  go_enter Try.func40, Try.ntmps40
  go_wp2_with (first | ((with_reducible refine gate_dst (N := 2) rfl ?_); refine box_event ?hg (N := 2) ?hd (cs := #[.int .i64 a0_0, .int .i64 a0_1, .int .i64 a0_2, .int .i64 a0_3, .slice A0_4 l0_4.length c0_4]) (t := 62) ?hr ?_; (case hd => rfl); (case hg => rfl); (case hr => first | (go_simp; done) | (go_simp; rfl)); intro gb209 hg w253 hbox hb; have n0_ := Aside0.mk (below_step (be HB) hb); have BK209 := Aside0.mk (hbox); have GW209 := bs HB hg; have GE209 := bs HB hg; clear HB; have HB := n0_; clear n0_; clear hb hbox hg) | ((with_reducible refine gate_dst (N := 3) rfl ?_); refine box_event ?hg (N := 3) ?hd (cs := #[.int .i64 a1_0, .int .i64 a1_1, .int .i64 a1_2, .int .i64 a1_3, .string a1_4]) (t := 44) ?hr ?_; (case hd => rfl); (case hg => rfl); (case hr => first | (go_simp; done) | (go_simp; rfl)); intro gb210 hg w254 hbox hb; have n1_ := Aside0.mk (below_step (be HB) hb); have BK210 := Aside0.mk (hbox); have GW210 := bs HB hg; have GE210 := bs HB hg; have NB209_210 := bl BK209 hg; have NB210_209 := bg BK209 hg; replace BK209 := bq BK209 hb; clear HB; have HB := n1_; clear n1_; clear hb hbox hg) | ((with_reducible refine gate_dst (N := 4) rfl ?_); refine box_event ?hg (N := 4) ?hd (cs := #[.int .i64 0, .int .i64 0, .int .i64 0, .int .i64 0, .slice none 0 0]) (t := 62) ?hr ?_; (case hd => rfl); (case hg => rfl); (case hr => first | (go_simp; done) | (go_simp; rfl)); intro gb211 hg w255 hbox hb; have n2_ := Aside0.mk (below_step (be HB) hb); have BK211 := Aside0.mk (hbox); have GW211 := bs HB hg; have GE211 := bs HB hg; have NB209_211 := bl BK209 hg; have NB211_209 := bg BK209 hg; have NB210_211 := bl BK210 hg; have NB211_210 := bg BK210 hg; replace BK209 := bq BK209 hb; replace BK210 := bq BK210 hb; clear HB; have HB := n2_; clear n2_; clear hb hbox hg; have hnb256 := NB209_210.out; have hnc256 := NB210_209.out; have hnb257 := NB209_211.out; have hnc257 := NB211_209.out; obtain ⟨hcz258_0, hcz258_1, hcz258_2, hcz258_3, hcz258_4⟩ := cs5 BK209; obtain ⟨hfz258_0, hfz258_1, hfz258_2, hfz258_3, hfz258_4⟩ := fs5 BK209) | ((with_reducible refine gate_callee (f := 99) rfl ?_); refine goesL_ (some 8) rfl rfl Try.func99 (by kernel_rfl) rfl #[.agg #[.int .i64 a0_0, .int .i64 a0_1, .int .i64 a0_2, .int .i64 a0_3, .slice A0_4 l0_4.length c0_4]] rfl (by (try simp only [List.map_toArray, List.map_cons, List.map_nil]); first | done | rfl | (simp only [List.length_drop, List.length_take]; rfl)) ?_; (with_reducible refine (impl_WalOk.calls k a0_0 a0_1 a0_2 a0_3 _ _ l0_4 false _ ?side1 ?side2 A3.out).mono ?_); (case side1 => repeat (first | exact (Kd.C_below HR0_4.out HB.out) | (with_reducible refine Kd.C_alloc ?_ _) | (with_reducible refine Kd.C_drewN ?_ _) | (with_reducible refine Kd.C_drew ?_))); (case side2 => exact HC0_4.out); rintro e w259 ⟨rfl, hb⟩; refine ⟨_, rfl, ?_⟩; have n3_ := Aside0.mk (below_step (be HB) hb); replace BK209 := bq BK209 hb; replace BK210 := bq BK210 hb; replace BK211 := bq BK211 hb; clear HB; have HB := n3_; clear n3_; (try clear hb); (try clear hb2); (try clear hk); (try clear hi); have hnb260 := NB211_210.out; have hnc260 := NB210_211.out; obtain ⟨hcz261_0, hcz261_1, hcz261_2, hcz261_3, hcz261_4⟩ := cs5 BK211; obtain ⟨hfz261_0, hfz261_1, hfz261_2, hfz261_3, hfz261_4⟩ := fs5 BK211) | (go_at_call 102; go_in))
  refine bodyPost_ret (results_ct rfl _ _ gb211 62 #[.int .i64 0, .int .i64 0, .int .i64 0, .int .i64 0, .slice none 0 0] (0, 0) _ rfl (by (with_reducible repeat first | refine bkN ?_ _ | refine bkD ?_ | refine bkA ?_ _); refine blk_put (cs := #[.int .i64 0, .int .i64 0, .int .i64 0, .int .i64 0, .slice none 0 0]) ?_ 4 _ rfl; (with_reducible repeat first | refine bkN ?_ _ | refine bkD ?_ | refine bkA ?_ _); refine blk_put (cs := #[.int .i64 0, .int .i64 0, .int .i64 0, .int .i64 0, .slice none 0 0]) ?_ 3 _ rfl; (with_reducible repeat first | refine bkN ?_ _ | refine bkD ?_ | refine bkA ?_ _); refine blk_put (cs := #[.int .i64 0, .int .i64 0, .int .i64 0, .int .i64 0, .slice none 0 0]) ?_ 2 _ rfl; (with_reducible repeat first | refine bkN ?_ _ | refine bkD ?_ | refine bkA ?_ _); refine blk_put (cs := #[.int .i64 0, .int .i64 0, .int .i64 0, .int .i64 0, .slice none 0 0]) ?_ 1 _ rfl; (with_reducible repeat first | refine bkN ?_ _ | refine bkD ?_ | refine bkA ?_ _); refine blk_put (cs := #[.int .i64 0, .int .i64 0, .int .i64 0, .int .i64 0, .slice none 0 0]) ?_ 0 _ rfl; (with_reducible repeat first | refine bkN ?_ _ | refine bkD ?_ | refine bkA ?_ _); exact BK211.out) Try.underlying62 rfl (by kernel_rfl)) rfl ?_
  exact ⟨_, by first | rfl | (simp [errW_none, errW_some] <;> rfl) | (simp [*, errW_none, errW_some] <;> rfl), by first | exact Kd.R_nil _ _ _ _ _ | exact Kd.N_nil _ _ _ _ _ | exact Kd.V_nil _ _ _ _ _ | exact Kd.Q_nil _ _ _ _ _ | exact Kd.S_nil _ _ _ _ _, by repeat (first | (with_reducible first | exact HB.out | apply below_alloc | apply pw_below_drewN | apply below_drew1 | refine below_set ?_ GE209.out | refine below_set ?_ GE210.out | refine below_set ?_ GE211.out) | exact HB.out)⟩



end Go.Proofs.Ytopnfbnfmaghaaa.PFnExactWalStep
