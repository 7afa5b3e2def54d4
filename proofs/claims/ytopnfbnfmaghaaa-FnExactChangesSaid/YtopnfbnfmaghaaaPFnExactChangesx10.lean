-- The machine side of a law: written by a program of this session (wip/tools), a turned print.
import Derived.Test.YtopnfbnfmaghaaaPFnExactChangesx0
import Derived.Test.YtopnfbnfmaghaaaPFnExactChangesx8
import Derived.Test.YtopnfbnfmaghaaaPFnExactChangesx9
namespace Go.Proofs.Ytopnfbnfmaghaaa.PFnExactChanges
open Go.RowKit Go.Proofs.YtopnfbnfmaghaaaW.PrintWords Go.Proofs.YtopnfbnfmaghaaaW.PrintLast Go.Proofs.YtopnfbnfmaghaaaW.PrintMore
attribute [local go_sem] max2_int min2_int max_two min_two max_three min_three max_four min_four   -- for this text's walks alone
set_option linter.unusedVariables false
set_option linter.unusedSimpArgs false

/-! ### impl_WalStep: function 40 -/
def impl_WalStep.j0 : Nat → Bool → Int → Int → Int → Int → List (S125) → Int → Int → Int → Int → List (S125) → Option (Int × Int × Int × Int × (List (S125)) × Bool)
 | 0, _, _, _, _, _, _, _, _, _, _, _ => none
 | k + 1, x20, x211000, x211001, x211002, x211003, x211004, x222000, x222001, x222002, x222003, x222004 => if x20 = true then ((impl_copyWal.f x211000 x211001 x211002 x211003 x211004).bind fun bt235 => (some (bt235.1, bt235.2.1, bt235.2.2.1, bt235.2.2.2.1, bt235.2.2.2.2, false))) else ((impl_copyWal.f x222000 x222001 x222002 x222003 x222004).bind fun bt242 => (some (bt242.1, bt242.2.1, bt242.2.2.1, bt242.2.2.2.1, bt242.2.2.2.2, true)))
def impl_WalStep.f (k : Nat) (a0_0 : Int) (a0_1 : Int) (a0_2 : Int) (a0_3 : Int) (l0_4 : List (S125)) (a1_0 : Int) (a1_1 : Int) (a1_2 : Int) (a1_3 : Int) (a1_4 : ByteArray) : Option (Int × Int × Int × Int × (List (S125)) × Bool) := (impl_WalOk.f k a0_0 a0_1 a0_2 a0_3 l0_4).bind fun t213 => (if t213 = true then ((impl_copyWal.f a0_0 a0_1 a0_2 a0_3 l0_4).bind fun bt214 => ((impl_RecOk.f a1_0 a1_1 a1_2 a1_3 a1_4).bind fun t222 => (if t222 = true then (if a1_0 = 1 then (if a1_1 < bt214.1 then (impl_WalStep.j0 k (!false) a0_0 a0_1 a0_2 a0_3 l0_4 bt214.1 bt214.2.1 bt214.2.2.1 bt214.2.2.2.1 bt214.2.2.2.2) else (if a1_1 = bt214.1 then (if bt214.2.1 = (-1) then (impl_WalStep.j0 k (!true) a0_0 a0_1 a0_2 a0_3 l0_4 a1_1 a1_3 bt214.2.2.1 bt214.2.2.2.1 bt214.2.2.2.2) else (if bt214.2.1 = a1_3 then (impl_WalStep.j0 k (!true) a0_0 a0_1 a0_2 a0_3 l0_4 a1_1 a1_3 bt214.2.2.1 bt214.2.2.2.1 bt214.2.2.2.2) else (impl_WalStep.j0 k (!false) a0_0 a0_1 a0_2 a0_3 l0_4 bt214.1 bt214.2.1 bt214.2.2.1 bt214.2.2.2.1 bt214.2.2.2.2))) else (impl_WalStep.j0 k (!true) a0_0 a0_1 a0_2 a0_3 l0_4 a1_1 a1_3 bt214.2.2.1 bt214.2.2.2.1 bt214.2.2.2.2))) else (if a1_0 = 2 then ((impl_Wal_end.f bt214.1 bt214.2.1 bt214.2.2.1 bt214.2.2.2.1 bt214.2.2.2.2).bind fun t224 => (if a1_2 = (wrap64 (t224 + 1)) then (if (bt214.2.2.2.2.length : Int) ≥ 60 then (impl_WalStep.j0 k (!false) a0_0 a0_1 a0_2 a0_3 l0_4 bt214.1 bt214.2.1 bt214.2.2.1 bt214.2.2.2.1 bt214.2.2.2.2) else ((impl_Wal_endTerm.f bt214.1 bt214.2.1 bt214.2.2.1 bt214.2.2.2.1 bt214.2.2.2.2).bind fun t225 => ((impl_within.f a1_1 t225 bt214.1).bind fun t226 => (if t226 = true then (if bt214.2.2.2.2.length < 5864062014805 then (impl_WalStep.j0 k (!true) a0_0 a0_1 a0_2 a0_3 l0_4 bt214.1 bt214.2.1 bt214.2.2.1 bt214.2.2.2.1 (bt214.2.2.2.2 ++ [(⟨a1_1, a1_4⟩ : S125)])) else (none)) else (impl_WalStep.j0 k (!false) a0_0 a0_1 a0_2 a0_3 l0_4 bt214.1 bt214.2.1 bt214.2.2.1 bt214.2.2.2.1 bt214.2.2.2.2))))) else (impl_WalStep.j0 k (!false) a0_0 a0_1 a0_2 a0_3 l0_4 bt214.1 bt214.2.1 bt214.2.2.1 bt214.2.2.2.1 bt214.2.2.2.2))) else (if a1_0 = 3 then ((impl_Wal_end.f bt214.1 bt214.2.1 bt214.2.2.1 bt214.2.2.2.1 bt214.2.2.2.2).bind fun t230 => ((impl_within.f a1_2 (wrap64 (bt214.2.2.1 + 1)) t230).bind fun t231 => (if t231 = true then (if 0 ≤ (wrap64 ((wrap64 (a1_2 - bt214.2.2.1)) - 1)) then (if (wrap64 ((wrap64 (a1_2 - bt214.2.2.1)) - 1)) ≤ (bt214.2.2.2.2.length : Int) then (impl_WalStep.j0 k (!true) a0_0 a0_1 a0_2 a0_3 l0_4 bt214.1 bt214.2.1 bt214.2.2.1 bt214.2.2.2.1 (bt214.2.2.2.2.take ((wrap64 ((wrap64 (a1_2 - bt214.2.2.1)) - 1)) : Int).toNat)) else (none)) else (none)) else (impl_WalStep.j0 k (!false) a0_0 a0_1 a0_2 a0_3 l0_4 bt214.1 bt214.2.1 bt214.2.2.1 bt214.2.2.2.1 bt214.2.2.2.2)))) else (impl_WalStep.j0 k (!false) a0_0 a0_1 a0_2 a0_3 l0_4 bt214.1 bt214.2.1 bt214.2.2.1 bt214.2.2.2.1 bt214.2.2.2.2)))) else (impl_WalStep.j0 k true a0_0 a0_1 a0_2 a0_3 l0_4 bt214.1 bt214.2.1 bt214.2.2.1 bt214.2.2.2.1 bt214.2.2.2.2)))) else (some (0, 0, 0, 0, ([] : List (S125)), false)))
theorem impl_WalStep.mono_l : ∀ k, (∀ y0 y1 y2 y3 y4 y5 y6 y7 y8 y9 y10, LeO (impl_WalStep.j0 k y0 y1 y2 y3 y4 y5 y6 y7 y8 y9 y10) (impl_WalStep.j0 (k + 1) y0 y1 y2 y3 y4 y5 y6 y7 y8 y9 y10))
 | 0 => fun _ _ _ _ _ _ _ _ _ _ _ r h => by simp [impl_WalStep.j0] at h
 | k + 1 => by
  have ih0 := impl_WalStep.mono_l k
  ·intro y0 y1 y2 y3 y4 y5 y6 y7 y8 y9 y10
   unfold impl_WalStep.j0
   repeat' first
   | (with_reducible exact ih0 _ _ _ _ _ _ _ _ _ _ _)
   | (with_reducible exact impl_WalOk.mono _ _ _ _ _ _)
   | (with_reducible exact LeO.refl _)
   | (with_reducible exact LeO.none _)
   | (with_reducible refine LeO.ite ?_ ?_)
   | (with_reducible refine LeO.bind ?_ (fun _ => ?_))
   | exact ih0 _ _ _ _ _ _ _ _ _ _ _
   | exact impl_WalOk.mono _ _ _ _ _ _
   | exact LeO.none _
   | refine LeO.ite ?_ ?_
   | refine LeO.bind ?_ (fun _ => ?_)
theorem impl_WalStep.mono : ∀ a0 a1 a2 a3 a4 a5 a6 a7 a8 a9 k, LeO (impl_WalStep.f k a0 a1 a2 a3 a4 a5 a6 a7 a8 a9) (impl_WalStep.f (k + 1) a0 a1 a2 a3 a4 a5 a6 a7 a8 a9) := by
 intro a0 a1 a2 a3 a4 a5 a6 a7 a8 a9 k
 have ih0 := impl_WalStep.mono_l k
 unfold impl_WalStep.f
 repeat' first
   | (with_reducible exact ih0 _ _ _ _ _ _ _ _ _ _ _)
   | (with_reducible exact impl_WalOk.mono _ _ _ _ _ _)
   | (with_reducible exact LeO.refl _)
   | (with_reducible exact LeO.none _)
   | (with_reducible refine LeO.ite ?_ ?_)
   | (with_reducible refine LeO.bind ?_ (fun _ => ?_))
   | exact ih0 _ _ _ _ _ _ _ _ _ _ _
   | exact impl_WalOk.mono _ _ _ _ _ _
   | exact LeO.none _
   | refine LeO.ite ?_ ?_
   | refine LeO.bind ?_ (fun _ => ?_)
def impl_WalStep.T1004 : Bool × List (List Nat × List Nat) := (true, [([], []), ([0], [0]), ([], []), ([2], [2]), ([3], [3]), ([4], [4]), ([1, 5], [1, 5]), ([6], [6]), ([7], [7]), ([8, 7], [7, 8]), ([7], [7]), ([10, 7], [7, 10]), ([11, 7], [7, 11]), ([12, 7], [7, 12]), ([9, 13, 7], [7, 9, 13]), ([14, 7, 7], [7, 14]), ([15], [15]), ([16, 15], [15, 16]), ([17, 15], [15, 17]), ([18, 15], [15, 18]), ([19, 15], [15, 19]), ([15, 20, 7], [7, 15, 20]), ([21, 15, 7], [7, 21]), ([22], [22]), ([23, 22], [22, 23]), ([24, 22], [22, 24]), ([25, 22], [22, 25]), ([22], [22]), ([27, 22], [22, 27]), ([26, 28, 22], [22, 26, 28]), ([22, 29, 7], [7, 22, 29]), ([7, 30], [7, 30])])
def impl_WalStep.B1004 : List Nat := [0, 1, 0, 4, 12, 28, 63, 127, 255, 511, 255, 1279, 3327, 7423, 16383, 32767, 65535, 131071, 262143, 524287, 1048575, 2097151, 4194303, 8388607, 16777215, 33554431, 67108863, 8388607, 142606335, 536870911, 1073741823, 2147483647]
theorem impl_WalStep.tab1004 : rtab .any (opsOf Try.f102 4) = impl_WalStep.T1004 := by kernel_rfl
theorem impl_WalStep.bits1004 : waitsOk impl_WalStep.T1004.2 impl_WalStep.B1004 = true := by kernel_rfl
def impl_WalStep.T1009 : Bool × List (List Nat × List Nat) := (true, [([], []), ([0], [0]), ([], []), ([2], [2]), ([3], [3]), ([4], [4]), ([5], [5]), ([1, 6], [1, 6]), ([7, 5], [7]), ([8], [8]), ([9, 8], [8, 9]), ([10, 8], [8, 10]), ([11, 8], [8, 11]), ([12, 8], [8, 12]), ([13, 8], [8, 13]), ([8, 14], [8, 14]), ([15, 8], [15]), ([16], [16]), ([17, 16], [16, 17]), ([16], [16]), ([19, 16], [16, 19]), ([20, 16], [16, 20]), ([21, 16, 16], [16, 21]), ([16], [16]), ([23, 16], [16, 23]), ([24, 16], [16, 24]), ([25, 16], [16, 25]), ([18, 22, 26, 22, 16], [16, 18, 22, 26]), ([27, 16], [16, 27]), ([16, 28], [16, 28])])
def impl_WalStep.B1009 : List Nat := [0, 1, 0, 4, 12, 28, 60, 127, 255, 511, 1023, 2047, 4095, 8191, 16383, 32767, 65535, 131071, 262143, 131071, 655359, 1703935, 3801087, 131071, 8519679, 25296895, 58851327, 134217727, 268435455, 536870911]
theorem impl_WalStep.tab1009 : rtab .any (opsOf Try.f102 9) = impl_WalStep.T1009 := by kernel_rfl
theorem impl_WalStep.bits1009 : waitsOk impl_WalStep.T1009.2 impl_WalStep.B1009 = true := by kernel_rfl
def impl_WalStep.T1011 : Bool × List (List Nat × List Nat) := (true, [([], []), ([], []), ([1], [1]), ([2], [2]), ([3], [3]), ([], []), ([5], [5]), ([], []), ([7], [7]), ([6, 8], [6, 8]), ([9], [9]), ([4, 10], [4, 10]), ([0, 0, 1, 2, 3, 4, 5, 6, 7, 8, 9, 10, 11], [0]), ([12, 0, 1, 2, 3, 4, 5, 6, 7, 8, 9, 10, 11], [12]), ([13, 11, 11, 0, 1, 2, 3, 4, 5, 6, 7, 8, 9, 10, 11], [11, 13])])
def impl_WalStep.B1011 : List Nat := [0, 0, 2, 6, 14, 0, 32, 0, 128, 480, 992, 2046, 4095, 8191, 16383]
theorem impl_WalStep.tab1011 : rtab .any (opsOf Try.f102 11) = impl_WalStep.T1011 := by kernel_rfl
theorem impl_WalStep.bits1011 : waitsOk impl_WalStep.T1011.2 impl_WalStep.B1011 = true := by kernel_rfl
def impl_WalStep.T1013 : Bool × List (List Nat × List Nat) := (true, [([], []), ([0], [0]), ([], []), ([2], [2]), ([3], [3]), ([4], [4]), ([5], [5]), ([], []), ([7], [7]), ([8], [8]), ([9], [9]), ([1, 6, 10, 10], [1, 6, 10]), ([11], [11])])
def impl_WalStep.B1013 : List Nat := [0, 1, 0, 4, 12, 28, 60, 0, 128, 384, 896, 2047, 4095]
theorem impl_WalStep.tab1013 : rtab .any (opsOf Try.f102 13) = impl_WalStep.T1013 := by kernel_rfl
theorem impl_WalStep.bits1013 : waitsOk impl_WalStep.T1013.2 impl_WalStep.B1013 = true := by kernel_rfl
def impl_WalStep.T1015 : Bool × List (List Nat × List Nat) := (true, [([], []), ([], []), ([1], [1]), ([2], [2]), ([3], [3]), ([], []), ([5], [5]), ([], []), ([7], [7]), ([8], [8]), ([9], [9]), ([6, 10], [6, 10]), ([11], [11]), ([4, 12], [4, 12]), ([0, 0, 1, 2, 3, 4, 5, 6, 7, 8, 9, 10, 11, 12, 13], [0]), ([14, 0, 1, 2, 3, 4, 5, 6, 7, 8, 9, 10, 11, 12, 13], [14]), ([15, 13, 0, 1, 2, 3, 4, 5, 6, 7, 8, 9, 10, 11, 12, 13], [13, 15])])
def impl_WalStep.B1015 : List Nat := [0, 0, 2, 6, 14, 0, 32, 0, 128, 384, 896, 2016, 4064, 8190, 16383, 32767, 65535]
theorem impl_WalStep.tab1015 : rtab .any (opsOf Try.f102 15) = impl_WalStep.T1015 := by kernel_rfl
theorem impl_WalStep.bits1015 : waitsOk impl_WalStep.T1015.2 impl_WalStep.B1015 = true := by kernel_rfl
set_option maxHeartbeats 8000000 in
set_option maxRecDepth 100000 in
theorem impl_WalStep.calls (k : Nat) (a0_0 : Int) (a0_1 : Int) (a0_2 : Int) (a0_3 : Int) (A0_4 : Option Addr) (c0_4 : Nat) (l0_4 : List (S125)) (a1_0 : Int) (a1_1 : Int) (a1_2 : Int) (a1_3 : Int) (a1_4 : ByteArray) (r1 : Int) (r2 : Int) (r3 : Int) (r4 : Int) (r5 : List (S125)) (r6 : Bool) (w : World) (hr0_4 : Kd.C k125 w A0_4 l0_4.length l0_4) (hc0_4 : l0_4.length ≤ c0_4) (h : impl_WalStep.f k a0_0 a0_1 a0_2 a0_3 l0_4 a1_0 a1_1 a1_2 a1_3 a1_4 = some (r1, r2, r3, r4, r5, r6)) :
  Calls Try.prog 40 #[.agg #[.int .i64 a0_0, .int .i64 a0_1, .int .i64 a0_2, .int .i64 a0_3, .slice A0_4 l0_4.length c0_4], .agg #[.int .i64 a1_0, .int .i64 a1_1, .int .i64 a1_2, .int .i64 a1_3, .string a1_4]] w fun e w' => ∃ v4_ : Value, e = .returned (.tuple #[.agg #[.int .i64 r1, .int .i64 r2, .int .i64 r3, .int .i64 r4, v4_], .bool r6]) ∧ Kd.R k125 125 w' w.heap.size (fun _ => True) v4_ r5 ∧ Below w.heap.size w w' := by
 have hu62 := Try.underlying62
 have hu44 := Try.underlying44
 have HR0_4 := Aside0.mk hr0_4
 have HC0_4 := Aside0.mk hc0_4
 clear hr0_4 hc0_4; have HB := Aside0.mk (Below.refl w.heap.size w)
 have H : ((impl_WalOk.f k a0_0 a0_1 a0_2 a0_3 l0_4).bind fun t213 => (if t213 = true then ((impl_copyWal.f a0_0 a0_1 a0_2 a0_3 l0_4).bind fun bt214 => ((impl_RecOk.f a1_0 a1_1 a1_2 a1_3 a1_4).bind fun t222 => (if t222 = true then (if a1_0 = 1 then (if a1_1 < bt214.1 then (impl_WalStep.j0 k (!false) a0_0 a0_1 a0_2 a0_3 l0_4 bt214.1 bt214.2.1 bt214.2.2.1 bt214.2.2.2.1 bt214.2.2.2.2) else (if a1_1 = bt214.1 then (if bt214.2.1 = (-1) then (impl_WalStep.j0 k (!true) a0_0 a0_1 a0_2 a0_3 l0_4 a1_1 a1_3 bt214.2.2.1 bt214.2.2.2.1 bt214.2.2.2.2) else (if bt214.2.1 = a1_3 then (impl_WalStep.j0 k (!true) a0_0 a0_1 a0_2 a0_3 l0_4 a1_1 a1_3 bt214.2.2.1 bt214.2.2.2.1 bt214.2.2.2.2) else (impl_WalStep.j0 k (!false) a0_0 a0_1 a0_2 a0_3 l0_4 bt214.1 bt214.2.1 bt214.2.2.1 bt214.2.2.2.1 bt214.2.2.2.2))) else (impl_WalStep.j0 k (!true) a0_0 a0_1 a0_2 a0_3 l0_4 a1_1 a1_3 bt214.2.2.1 bt214.2.2.2.1 bt214.2.2.2.2))) else (if a1_0 = 2 then ((impl_Wal_end.f bt214.1 bt214.2.1 bt214.2.2.1 bt214.2.2.2.1 bt214.2.2.2.2).bind fun t224 => (if a1_2 = (wrap64 (t224 + 1)) then (if (bt214.2.2.2.2.length : Int) ≥ 60 then (impl_WalStep.j0 k (!false) a0_0 a0_1 a0_2 a0_3 l0_4 bt214.1 bt214.2.1 bt214.2.2.1 bt214.2.2.2.1 bt214.2.2.2.2) else ((impl_Wal_endTerm.f bt214.1 bt214.2.1 bt214.2.2.1 bt214.2.2.2.1 bt214.2.2.2.2).bind fun t225 => ((impl_within.f a1_1 t225 bt214.1).bind fun t226 => (if t226 = true then (if bt214.2.2.2.2.length < 5864062014805 then (impl_WalStep.j0 k (!true) a0_0 a0_1 a0_2 a0_3 l0_4 bt214.1 bt214.2.1 bt214.2.2.1 bt214.2.2.2.1 (bt214.2.2.2.2 ++ [(⟨a1_1, a1_4⟩ : S125)])) else (none)) else (impl_WalStep.j0 k (!false) a0_0 a0_1 a0_2 a0_3 l0_4 bt214.1 bt214.2.1 bt214.2.2.1 bt214.2.2.2.1 bt214.2.2.2.2))))) else (impl_WalStep.j0 k (!false) a0_0 a0_1 a0_2 a0_3 l0_4 bt214.1 bt214.2.1 bt214.2.2.1 bt214.2.2.2.1 bt214.2.2.2.2))) else (if a1_0 = 3 then ((impl_Wal_end.f bt214.1 bt214.2.1 bt214.2.2.1 bt214.2.2.2.1 bt214.2.2.2.2).bind fun t230 => ((impl_within.f a1_2 (wrap64 (bt214.2.2.1 + 1)) t230).bind fun t231 => (if t231 = true then (if 0 ≤ (wrap64 ((wrap64 (a1_2 - bt214.2.2.1)) - 1)) then (if (wrap64 ((wrap64 (a1_2 - bt214.2.2.1)) - 1)) ≤ (bt214.2.2.2.2.length : Int) then (impl_WalStep.j0 k (!true) a0_0 a0_1 a0_2 a0_3 l0_4 bt214.1 bt214.2.1 bt214.2.2.1 bt214.2.2.2.1 (bt214.2.2.2.2.take ((wrap64 ((wrap64 (a1_2 - bt214.2.2.1)) - 1)) : Int).toNat)) else (none)) else (none)) else (impl_WalStep.j0 k (!false) a0_0 a0_1 a0_2 a0_3 l0_4 bt214.1 bt214.2.1 bt214.2.2.1 bt214.2.2.2.1 bt214.2.2.2.2)))) else (impl_WalStep.j0 k (!false) a0_0 a0_1 a0_2 a0_3 l0_4 bt214.1 bt214.2.1 bt214.2.2.1 bt214.2.2.2.1 bt214.2.2.2.2)))) else (impl_WalStep.j0 k true a0_0 a0_1 a0_2 a0_3 l0_4 bt214.1 bt214.2.1 bt214.2.2.1 bt214.2.2.2.1 bt214.2.2.2.2)))) else (some (0, 0, 0, 0, ([] : List (S125)), false)))) = some (r1, r2, r3, r4, r5, r6) := h
 clear h; replace H := Option.bind_eq_some_iff.mp H
 obtain ⟨t213, A30, H⟩ := H
 replace H : (if t213 = true then ((impl_copyWal.f a0_0 a0_1 a0_2 a0_3 l0_4).bind fun bt214 => ((impl_RecOk.f a1_0 a1_1 a1_2 a1_3 a1_4).bind fun t222 => (if t222 = true then (if a1_0 = 1 then (if a1_1 < bt214.1 then (impl_WalStep.j0 k (!false) a0_0 a0_1 a0_2 a0_3 l0_4 bt214.1 bt214.2.1 bt214.2.2.1 bt214.2.2.2.1 bt214.2.2.2.2) else (if a1_1 = bt214.1 then (if bt214.2.1 = (-1) then (impl_WalStep.j0 k (!true) a0_0 a0_1 a0_2 a0_3 l0_4 a1_1 a1_3 bt214.2.2.1 bt214.2.2.2.1 bt214.2.2.2.2) else (if bt214.2.1 = a1_3 then (impl_WalStep.j0 k (!true) a0_0 a0_1 a0_2 a0_3 l0_4 a1_1 a1_3 bt214.2.2.1 bt214.2.2.2.1 bt214.2.2.2.2) else (impl_WalStep.j0 k (!false) a0_0 a0_1 a0_2 a0_3 l0_4 bt214.1 bt214.2.1 bt214.2.2.1 bt214.2.2.2.1 bt214.2.2.2.2))) else (impl_WalStep.j0 k (!true) a0_0 a0_1 a0_2 a0_3 l0_4 a1_1 a1_3 bt214.2.2.1 bt214.2.2.2.1 bt214.2.2.2.2))) else (if a1_0 = 2 then ((impl_Wal_end.f bt214.1 bt214.2.1 bt214.2.2.1 bt214.2.2.2.1 bt214.2.2.2.2).bind fun t224 => (if a1_2 = (wrap64 (t224 + 1)) then (if (bt214.2.2.2.2.length : Int) ≥ 60 then (impl_WalStep.j0 k (!false) a0_0 a0_1 a0_2 a0_3 l0_4 bt214.1 bt214.2.1 bt214.2.2.1 bt214.2.2.2.1 bt214.2.2.2.2) else ((impl_Wal_endTerm.f bt214.1 bt214.2.1 bt214.2.2.1 bt214.2.2.2.1 bt214.2.2.2.2).bind fun t225 => ((impl_within.f a1_1 t225 bt214.1).bind fun t226 => (if t226 = true then (if bt214.2.2.2.2.length < 5864062014805 then (impl_WalStep.j0 k (!true) a0_0 a0_1 a0_2 a0_3 l0_4 bt214.1 bt214.2.1 bt214.2.2.1 bt214.2.2.2.1 (bt214.2.2.2.2 ++ [(⟨a1_1, a1_4⟩ : S125)])) else (none)) else (impl_WalStep.j0 k (!false) a0_0 a0_1 a0_2 a0_3 l0_4 bt214.1 bt214.2.1 bt214.2.2.1 bt214.2.2.2.1 bt214.2.2.2.2))))) else (impl_WalStep.j0 k (!false) a0_0 a0_1 a0_2 a0_3 l0_4 bt214.1 bt214.2.1 bt214.2.2.1 bt214.2.2.2.1 bt214.2.2.2.2))) else (if a1_0 = 3 then ((impl_Wal_end.f bt214.1 bt214.2.1 bt214.2.2.1 bt214.2.2.2.1 bt214.2.2.2.2).bind fun t230 => ((impl_within.f a1_2 (wrap64 (bt214.2.2.1 + 1)) t230).bind fun t231 => (if t231 = true then (if 0 ≤ (wrap64 ((wrap64 (a1_2 - bt214.2.2.1)) - 1)) then (if (wrap64 ((wrap64 (a1_2 - bt214.2.2.1)) - 1)) ≤ (bt214.2.2.2.2.length : Int) then (impl_WalStep.j0 k (!true) a0_0 a0_1 a0_2 a0_3 l0_4 bt214.1 bt214.2.1 bt214.2.2.1 bt214.2.2.2.1 (bt214.2.2.2.2.take ((wrap64 ((wrap64 (a1_2 - bt214.2.2.1)) - 1)) : Int).toNat)) else (none)) else (none)) else (impl_WalStep.j0 k (!false) a0_0 a0_1 a0_2 a0_3 l0_4 bt214.1 bt214.2.1 bt214.2.2.1 bt214.2.2.2.1 bt214.2.2.2.2)))) else (impl_WalStep.j0 k (!false) a0_0 a0_1 a0_2 a0_3 l0_4 bt214.1 bt214.2.1 bt214.2.2.1 bt214.2.2.2.1 bt214.2.2.2.2)))) else (impl_WalStep.j0 k true a0_0 a0_1 a0_2 a0_3 l0_4 bt214.1 bt214.2.1 bt214.2.2.1 bt214.2.2.2.1 bt214.2.2.2.2)))) else (some (0, 0, 0, 0, ([] : List (S125)), false))) = some (r1, r2, r3, r4, r5, r6) := H
 have A3 := Aside0.mk A30
 clear A30
 by_cases c4 : t213 = true
 ·subst c4
  have H1 : ((impl_copyWal.f a0_0 a0_1 a0_2 a0_3 l0_4).bind fun bt214 => ((impl_RecOk.f a1_0 a1_1 a1_2 a1_3 a1_4).bind fun t222 => (if t222 = true then (if a1_0 = 1 then (if a1_1 < bt214.1 then (impl_WalStep.j0 k (!false) a0_0 a0_1 a0_2 a0_3 l0_4 bt214.1 bt214.2.1 bt214.2.2.1 bt214.2.2.2.1 bt214.2.2.2.2) else (if a1_1 = bt214.1 then (if bt214.2.1 = (-1) then (impl_WalStep.j0 k (!true) a0_0 a0_1 a0_2 a0_3 l0_4 a1_1 a1_3 bt214.2.2.1 bt214.2.2.2.1 bt214.2.2.2.2) else (if bt214.2.1 = a1_3 then (impl_WalStep.j0 k (!true) a0_0 a0_1 a0_2 a0_3 l0_4 a1_1 a1_3 bt214.2.2.1 bt214.2.2.2.1 bt214.2.2.2.2) else (impl_WalStep.j0 k (!false) a0_0 a0_1 a0_2 a0_3 l0_4 bt214.1 bt214.2.1 bt214.2.2.1 bt214.2.2.2.1 bt214.2.2.2.2))) else (impl_WalStep.j0 k (!true) a0_0 a0_1 a0_2 a0_3 l0_4 a1_1 a1_3 bt214.2.2.1 bt214.2.2.2.1 bt214.2.2.2.2))) else (if a1_0 = 2 then ((impl_Wal_end.f bt214.1 bt214.2.1 bt214.2.2.1 bt214.2.2.2.1 bt214.2.2.2.2).bind fun t224 => (if a1_2 = (wrap64 (t224 + 1)) then (if (bt214.2.2.2.2.length : Int) ≥ 60 then (impl_WalStep.j0 k (!false) a0_0 a0_1 a0_2 a0_3 l0_4 bt214.1 bt214.2.1 bt214.2.2.1 bt214.2.2.2.1 bt214.2.2.2.2) else ((impl_Wal_endTerm.f bt214.1 bt214.2.1 bt214.2.2.1 bt214.2.2.2.1 bt214.2.2.2.2).bind fun t225 => ((impl_within.f a1_1 t225 bt214.1).bind fun t226 => (if t226 = true then (if bt214.2.2.2.2.length < 5864062014805 then (impl_WalStep.j0 k (!true) a0_0 a0_1 a0_2 a0_3 l0_4 bt214.1 bt214.2.1 bt214.2.2.1 bt214.2.2.2.1 (bt214.2.2.2.2 ++ [(⟨a1_1, a1_4⟩ : S125)])) else (none)) else (impl_WalStep.j0 k (!false) a0_0 a0_1 a0_2 a0_3 l0_4 bt214.1 bt214.2.1 bt214.2.2.1 bt214.2.2.2.1 bt214.2.2.2.2))))) else (impl_WalStep.j0 k (!false) a0_0 a0_1 a0_2 a0_3 l0_4 bt214.1 bt214.2.1 bt214.2.2.1 bt214.2.2.2.1 bt214.2.2.2.2))) else (if a1_0 = 3 then ((impl_Wal_end.f bt214.1 bt214.2.1 bt214.2.2.1 bt214.2.2.2.1 bt214.2.2.2.2).bind fun t230 => ((impl_within.f a1_2 (wrap64 (bt214.2.2.1 + 1)) t230).bind fun t231 => (if t231 = true then (if 0 ≤ (wrap64 ((wrap64 (a1_2 - bt214.2.2.1)) - 1)) then (if (wrap64 ((wrap64 (a1_2 - bt214.2.2.1)) - 1)) ≤ (bt214.2.2.2.2.length : Int) then (impl_WalStep.j0 k (!true) a0_0 a0_1 a0_2 a0_3 l0_4 bt214.1 bt214.2.1 bt214.2.2.1 bt214.2.2.2.1 (bt214.2.2.2.2.take ((wrap64 ((wrap64 (a1_2 - bt214.2.2.1)) - 1)) : Int).toNat)) else (none)) else (none)) else (impl_WalStep.j0 k (!false) a0_0 a0_1 a0_2 a0_3 l0_4 bt214.1 bt214.2.1 bt214.2.2.1 bt214.2.2.2.1 bt214.2.2.2.2)))) else (impl_WalStep.j0 k (!false) a0_0 a0_1 a0_2 a0_3 l0_4 bt214.1 bt214.2.1 bt214.2.2.1 bt214.2.2.2.1 bt214.2.2.2.2)))) else (impl_WalStep.j0 k true a0_0 a0_1 a0_2 a0_3 l0_4 bt214.1 bt214.2.1 bt214.2.2.1 bt214.2.2.2.1 bt214.2.2.2.2)))) = some (r1, r2, r3, r4, r5, r6) := by rw [if_pos rfl] at H; exact H
  clear H; have H := H1
  clear H1; replace H := Option.bind_eq_some_iff.mp H
  obtain ⟨⟨t214, t215, t216, t217, t218⟩, A50, H⟩ := H
  replace H : ((impl_RecOk.f a1_0 a1_1 a1_2 a1_3 a1_4).bind fun t222 => (if t222 = true then (if a1_0 = 1 then (if a1_1 < t214 then (impl_WalStep.j0 k (!false) a0_0 a0_1 a0_2 a0_3 l0_4 t214 t215 t216 t217 t218) else (if a1_1 = t214 then (if t215 = (-1) then (impl_WalStep.j0 k (!true) a0_0 a0_1 a0_2 a0_3 l0_4 a1_1 a1_3 t216 t217 t218) else (if t215 = a1_3 then (impl_WalStep.j0 k (!true) a0_0 a0_1 a0_2 a0_3 l0_4 a1_1 a1_3 t216 t217 t218) else (impl_WalStep.j0 k (!false) a0_0 a0_1 a0_2 a0_3 l0_4 t214 t215 t216 t217 t218))) else (impl_WalStep.j0 k (!true) a0_0 a0_1 a0_2 a0_3 l0_4 a1_1 a1_3 t216 t217 t218))) else (if a1_0 = 2 then ((impl_Wal_end.f t214 t215 t216 t217 t218).bind fun t224 => (if a1_2 = (wrap64 (t224 + 1)) then (if (t218.length : Int) ≥ 60 then (impl_WalStep.j0 k (!false) a0_0 a0_1 a0_2 a0_3 l0_4 t214 t215 t216 t217 t218) else ((impl_Wal_endTerm.f t214 t215 t216 t217 t218).bind fun t225 => ((impl_within.f a1_1 t225 t214).bind fun t226 => (if t226 = true then (if t218.length < 5864062014805 then (impl_WalStep.j0 k (!true) a0_0 a0_1 a0_2 a0_3 l0_4 t214 t215 t216 t217 (t218 ++ [(⟨a1_1, a1_4⟩ : S125)])) else (none)) else (impl_WalStep.j0 k (!false) a0_0 a0_1 a0_2 a0_3 l0_4 t214 t215 t216 t217 t218))))) else (impl_WalStep.j0 k (!false) a0_0 a0_1 a0_2 a0_3 l0_4 t214 t215 t216 t217 t218))) else (if a1_0 = 3 then ((impl_Wal_end.f t214 t215 t216 t217 t218).bind fun t230 => ((impl_within.f a1_2 (wrap64 (t216 + 1)) t230).bind fun t231 => (if t231 = true then (if 0 ≤ (wrap64 ((wrap64 (a1_2 - t216)) - 1)) then (if (wrap64 ((wrap64 (a1_2 - t216)) - 1)) ≤ (t218.length : Int) then (impl_WalStep.j0 k (!true) a0_0 a0_1 a0_2 a0_3 l0_4 t214 t215 t216 t217 (t218.take ((wrap64 ((wrap64 (a1_2 - t216)) - 1)) : Int).toNat)) else (none)) else (none)) else (impl_WalStep.j0 k (!false) a0_0 a0_1 a0_2 a0_3 l0_4 t214 t215 t216 t217 t218)))) else (impl_WalStep.j0 k (!false) a0_0 a0_1 a0_2 a0_3 l0_4 t214 t215 t216 t217 t218)))) else (impl_WalStep.j0 k true a0_0 a0_1 a0_2 a0_3 l0_4 t214 t215 t216 t217 t218))) = some (r1, r2, r3, r4, r5, r6) := H
  have A5 := Aside0.mk A50
  clear A50; have HC6 := Aside0.mk H
  clear H
  go_enter Try.func40, Try.ntmps40
  go_upto_region 4 with (first | ((with_reducible refine gate_dst (N := 2) rfl ?_); refine box_event ?hg (N := 2) ?hd (cs := #[.int .i64 a0_0, .int .i64 a0_1, .int .i64 a0_2, .int .i64 a0_3, .slice A0_4 l0_4.length c0_4]) (t := 62) ?hr ?_; (case hd => rfl); (case hg => rfl); (case hr => first | (go_simp; done) | (go_simp; rfl)); intro gb210 hg w7 hbox hb; have n0_ := Aside0.mk (below_step (be HB) hb); have BK210 := Aside0.mk (hbox); have GW210 := bs HB hg; have GE210 := bs HB hg; clear HB; have HB := n0_; clear n0_; clear hb hbox hg) | ((with_reducible refine gate_dst (N := 3) rfl ?_); refine box_event ?hg (N := 3) ?hd (cs := #[.int .i64 a1_0, .int .i64 a1_1, .int .i64 a1_2, .int .i64 a1_3, .string a1_4]) (t := 44) ?hr ?_; (case hd => rfl); (case hg => rfl); (case hr => first | (go_simp; done) | (go_simp; rfl)); intro gb211 hg w8 hbox hb; have n1_ := Aside0.mk (below_step (be HB) hb); have BK211 := Aside0.mk (hbox); have GW211 := bs HB hg; have GE211 := bs HB hg; have NB210_211 := bl BK210 hg; have NB211_210 := bg BK210 hg; replace BK210 := bq BK210 hb; clear HB; have HB := n1_; clear n1_; clear hb hbox hg) | ((with_reducible refine gate_dst (N := 4) rfl ?_); refine box_event ?hg (N := 4) ?hd (cs := #[.int .i64 0, .int .i64 0, .int .i64 0, .int .i64 0, .slice none 0 0]) (t := 62) ?hr ?_; (case hd => rfl); (case hg => rfl); (case hr => first | (go_simp; done) | (go_simp; rfl)); intro gb212 hg w9 hbox hb; have n2_ := Aside0.mk (below_step (be HB) hb); have BK212 := Aside0.mk (hbox); have GW212 := bs HB hg; have GE212 := bs HB hg; have NB210_212 := bl BK210 hg; have NB212_210 := bg BK210 hg; have NB211_212 := bl BK211 hg; have NB212_211 := bg BK211 hg; replace BK210 := bq BK210 hb; replace BK211 := bq BK211 hb; clear HB; have HB := n2_; clear n2_; clear hb hbox hg; have hnb10 := NB210_211.out; have hnc10 := NB211_210.out; have hnb11 := NB210_212.out; have hnc11 := NB212_210.out; obtain ⟨hcz12_0, hcz12_1, hcz12_2, hcz12_3, hcz12_4⟩ := cs5 BK210; obtain ⟨hfz12_0, hfz12_1, hfz12_2, hfz12_3, hfz12_4⟩ := fs5 BK210) | ((with_reducible refine gate_callee (f := 99) rfl ?_); refine goesL_ (some 8) rfl rfl Try.func99 (by kernel_rfl) rfl #[.agg #[.int .i64 a0_0, .int .i64 a0_1, .int .i64 a0_2, .int .i64 a0_3, .slice A0_4 l0_4.length c0_4]] rfl (by (try simp only [List.map_toArray, List.map_cons, List.map_nil]); first | done | rfl | (simp only [List.length_drop, List.length_take]; rfl)) ?_; (with_reducible refine (impl_WalOk.calls k a0_0 a0_1 a0_2 a0_3 _ _ l0_4 true _ ?side1 ?side2 A3.out).mono ?_); (case side1 => repeat (first | exact (Kd.C_below HR0_4.out HB.out) | (with_reducible refine Kd.C_alloc ?_ _) | (with_reducible refine Kd.C_drewN ?_ _) | (with_reducible refine Kd.C_drew ?_))); (case side2 => exact HC0_4.out); rintro e w13 ⟨rfl, hb⟩; refine ⟨_, rfl, ?_⟩; have n3_ := Aside0.mk (below_step (be HB) hb); replace BK210 := bq BK210 hb; replace BK211 := bq BK211 hb; replace BK212 := bq BK212 hb; clear HB; have HB := n3_; clear n3_; (try clear hb); (try clear hb2); (try clear hk); (try clear hi); obtain ⟨hcz14_0, hcz14_1, hcz14_2, hcz14_3, hcz14_4⟩ := cs5 BK210; obtain ⟨hfz14_0, hfz14_1, hfz14_2, hfz14_3, hfz14_4⟩ := fs5 BK210) | ((with_reducible refine gate_callee (f := 100) rfl ?_); refine goesL_ (some 12) rfl rfl Try.func100 (by kernel_rfl) rfl #[.agg #[.int .i64 a0_0, .int .i64 a0_1, .int .i64 a0_2, .int .i64 a0_3, .slice A0_4 l0_4.length c0_4]] rfl (by (try simp only [List.map_toArray, List.map_cons, List.map_nil]); first | done | rfl | (simp only [List.length_drop, List.length_take]; rfl)) ?_; (with_reducible refine (impl_copyWal.calls a0_0 a0_1 a0_2 a0_3 _ _ l0_4 t214 t215 t216 t217 t218 _ ?side1 ?side2 A5.out).mono ?_); (case side1 => repeat (first | exact (Kd.C_below HR0_4.out HB.out) | (with_reducible refine Kd.C_alloc ?_ _) | (with_reducible refine Kd.C_drewN ?_ _) | (with_reducible refine Kd.C_drew ?_))); (case side2 => exact HC0_4.out); rintro e w15 ⟨v219, rfl, ho0, hb⟩; refine ⟨_, rfl, ?_⟩; have n4_ := Aside0.mk (below_step (be HB) hb); have HO220 := Aside0.mk (Kd.R_lower ho0 (below_size (be HB))); replace BK210 := bq BK210 hb; replace BK211 := bq BK211 hb; replace BK212 := bq BK212 hb; clear HB; have HB := n4_; clear n4_; (try clear hb); (try clear hb2); (try clear hk); (try clear hi); (try clear ho0)) | ((with_reducible refine gate_dst (N := 6) rfl ?_); refine box_event ?hg (N := 6) ?hd (cs := #[.int .i64 0, .int .i64 0, .int .i64 0, .int .i64 0, .slice none 0 0]) (t := 62) ?hr ?_; (case hd => rfl); (case hg => rfl); (case hr => first | (go_simp; done) | (go_simp; rfl)); intro gb221 hg w16 hbox hb; have n4_ := Aside0.mk (below_step (be HB) hb); have BK221 := Aside0.mk (hbox); have GW221 := bs HB hg; have GE221 := bs HB hg; have NB210_221 := bl BK210 hg; have NB221_210 := bg BK210 hg; have NB211_221 := bl BK211 hg; have NB221_211 := bg BK211 hg; have NB212_221 := bl BK212 hg; have NB221_212 := bg BK212 hg; replace HO220 := Aside0.mk (Kd.R_below (rr HO220) hb); replace BK210 := bq BK210 hb; replace BK211 := bq BK211 hb; replace BK212 := bq BK212 hb; clear HB; have HB := n4_; clear n4_; clear hb hbox hg; have hnb17 := NB221_210.out; have hnc17 := NB210_221.out; have hnb18 := NB221_211.out; have hnc18 := NB211_221.out; have hnb19 := NB221_212.out; have hnc19 := NB212_221.out; obtain ⟨hcz20_0, hcz20_1, hcz20_2, hcz20_3, hcz20_4⟩ := cs5 BK221; obtain ⟨hfz20_0, hfz20_1, hfz20_2, hfz20_3, hfz20_4⟩ := fs5 BK221; obtain ⟨Ao21, co21, eo21⟩ := Kd.R_slice HO220.out; subst eo21))
  (try simp only [putL])
  go_cut [20] (fun v20 wc => ∃ (kq : Nat) (x20_5 : Bool) (x222000_5 : Int) (x222001_5 : Int) (x222002_5 : Int) (x222003_5 : Int) (x222004_5 : List (S125)) (u222004 : Value), v20 = .bool x20_5 ∧ Aside0 (impl_WalStep.j0 kq x20_5 a0_0 a0_1 a0_2 a0_3 l0_4 x222000_5 x222001_5 x222002_5 x222003_5 x222004_5 = some (r1, r2, r3, r4, r5, r6)) ∧ Aside0 (kq ≤ k) ∧ Aside0 (Kd.R k125 125 wc w.heap.size (fun _ => True) u222004 x222004_5) ∧ Aside0 (wc.heap[gb210]? = some (.cells #[.int .i64 a0_0, .int .i64 a0_1, .int .i64 a0_2, .int .i64 a0_3, (.slice A0_4 l0_4.length c0_4)] 62 (0, 0))) ∧ Aside0 (wc.heap[gb211]? = some (.cells #[.int .i64 a1_0, .int .i64 a1_1, .int .i64 a1_2, .int .i64 a1_3, .string a1_4] 44 (0, 0))) ∧ Aside0 (wc.heap[gb212]? = some (.cells #[.int .i64 0, .int .i64 0, .int .i64 0, .int .i64 0, (.slice none 0 0)] 62 (0, 0))) ∧ Aside0 (wc.heap[gb221]? = some (.cells #[.int .i64 x222000_5, .int .i64 x222001_5, .int .i64 x222002_5, .int .i64 x222003_5, u222004] 62 (0, 0))) ∧ Aside0 (Below w.heap.size w wc))
  case first =>
   have H := HC6.out; clear HC6; replace H := Option.bind_eq_some_iff.mp H
   obtain ⟨t222, A220, H⟩ := H
   replace H : (if t222 = true then (if a1_0 = 1 then (if a1_1 < t214 then (impl_WalStep.j0 k (!false) a0_0 a0_1 a0_2 a0_3 l0_4 t214 t215 t216 t217 t218) else (if a1_1 = t214 then (if t215 = (-1) then (impl_WalStep.j0 k (!true) a0_0 a0_1 a0_2 a0_3 l0_4 a1_1 a1_3 t216 t217 t218) else (if t215 = a1_3 then (impl_WalStep.j0 k (!true) a0_0 a0_1 a0_2 a0_3 l0_4 a1_1 a1_3 t216 t217 t218) else (impl_WalStep.j0 k (!false) a0_0 a0_1 a0_2 a0_3 l0_4 t214 t215 t216 t217 t218))) else (impl_WalStep.j0 k (!true) a0_0 a0_1 a0_2 a0_3 l0_4 a1_1 a1_3 t216 t217 t218))) else (if a1_0 = 2 then ((impl_Wal_end.f t214 t215 t216 t217 t218).bind fun t224 => (if a1_2 = (wrap64 (t224 + 1)) then (if (t218.length : Int) ≥ 60 then (impl_WalStep.j0 k (!false) a0_0 a0_1 a0_2 a0_3 l0_4 t214 t215 t216 t217 t218) else ((impl_Wal_endTerm.f t214 t215 t216 t217 t218).bind fun t225 => ((impl_within.f a1_1 t225 t214).bind fun t226 => (if t226 = true then (if t218.length < 5864062014805 then (impl_WalStep.j0 k (!true) a0_0 a0_1 a0_2 a0_3 l0_4 t214 t215 t216 t217 (t218 ++ [(⟨a1_1, a1_4⟩ : S125)])) else (none)) else (impl_WalStep.j0 k (!false) a0_0 a0_1 a0_2 a0_3 l0_4 t214 t215 t216 t217 t218))))) else (impl_WalStep.j0 k (!false) a0_0 a0_1 a0_2 a0_3 l0_4 t214 t215 t216 t217 t218))) else (if a1_0 = 3 then ((impl_Wal_end.f t214 t215 t216 t217 t218).bind fun t230 => ((impl_within.f a1_2 (wrap64 (t216 + 1)) t230).bind fun t231 => (if t231 = true then (if 0 ≤ (wrap64 ((wrap64 (a1_2 - t216)) - 1)) then (if (wrap64 ((wrap64 (a1_2 - t216)) - 1)) ≤ (t218.length : Int) then (impl_WalStep.j0 k (!true) a0_0 a0_1 a0_2 a0_3 l0_4 t214 t215 t216 t217 (t218.take ((wrap64 ((wrap64 (a1_2 - t216)) - 1)) : Int).toNat)) else (none)) else (none)) else (impl_WalStep.j0 k (!false) a0_0 a0_1 a0_2 a0_3 l0_4 t214 t215 t216 t217 t218)))) else (impl_WalStep.j0 k (!false) a0_0 a0_1 a0_2 a0_3 l0_4 t214 t215 t216 t217 t218)))) else (impl_WalStep.j0 k true a0_0 a0_1 a0_2 a0_3 l0_4 t214 t215 t216 t217 t218)) = some (r1, r2, r3, r4, r5, r6) := H
   have A22 := Aside0.mk A220
   clear A220
   by_cases c23 : t222 = true
   ·subst c23
    have H1 : (if a1_0 = 1 then (if a1_1 < t214 then (impl_WalStep.j0 k (!false) a0_0 a0_1 a0_2 a0_3 l0_4 t214 t215 t216 t217 t218) else (if a1_1 = t214 then (if t215 = (-1) then (impl_WalStep.j0 k (!true) a0_0 a0_1 a0_2 a0_3 l0_4 a1_1 a1_3 t216 t217 t218) else (if t215 = a1_3 then (impl_WalStep.j0 k (!true) a0_0 a0_1 a0_2 a0_3 l0_4 a1_1 a1_3 t216 t217 t218) else (impl_WalStep.j0 k (!false) a0_0 a0_1 a0_2 a0_3 l0_4 t214 t215 t216 t217 t218))) else (impl_WalStep.j0 k (!true) a0_0 a0_1 a0_2 a0_3 l0_4 a1_1 a1_3 t216 t217 t218))) else (if a1_0 = 2 then ((impl_Wal_end.f t214 t215 t216 t217 t218).bind fun t224 => (if a1_2 = (wrap64 (t224 + 1)) then (if (t218.length : Int) ≥ 60 then (impl_WalStep.j0 k (!false) a0_0 a0_1 a0_2 a0_3 l0_4 t214 t215 t216 t217 t218) else ((impl_Wal_endTerm.f t214 t215 t216 t217 t218).bind fun t225 => ((impl_within.f a1_1 t225 t214).bind fun t226 => (if t226 = true then (if t218.length < 5864062014805 then (impl_WalStep.j0 k (!true) a0_0 a0_1 a0_2 a0_3 l0_4 t214 t215 t216 t217 (t218 ++ [(⟨a1_1, a1_4⟩ : S125)])) else (none)) else (impl_WalStep.j0 k (!false) a0_0 a0_1 a0_2 a0_3 l0_4 t214 t215 t216 t217 t218))))) else (impl_WalStep.j0 k (!false) a0_0 a0_1 a0_2 a0_3 l0_4 t214 t215 t216 t217 t218))) else (if a1_0 = 3 then ((impl_Wal_end.f t214 t215 t216 t217 t218).bind fun t230 => ((impl_within.f a1_2 (wrap64 (t216 + 1)) t230).bind fun t231 => (if t231 = true then (if 0 ≤ (wrap64 ((wrap64 (a1_2 - t216)) - 1)) then (if (wrap64 ((wrap64 (a1_2 - t216)) - 1)) ≤ (t218.length : Int) then (impl_WalStep.j0 k (!true) a0_0 a0_1 a0_2 a0_3 l0_4 t214 t215 t216 t217 (t218.take ((wrap64 ((wrap64 (a1_2 - t216)) - 1)) : Int).toNat)) else (none)) else (none)) else (impl_WalStep.j0 k (!false) a0_0 a0_1 a0_2 a0_3 l0_4 t214 t215 t216 t217 t218)))) else (impl_WalStep.j0 k (!false) a0_0 a0_1 a0_2 a0_3 l0_4 t214 t215 t216 t217 t218)))) = some (r1, r2, r3, r4, r5, r6) := by rw [if_pos rfl] at H; exact H
    clear H; have H := H1
    clear H1
    by_cases c24 : a1_0 = 1
    ·rw [if_pos c24] at H
     have c24b0 : (a1_0 == 1) = true := beq_iff_eq.mpr c24
     have c24b1 : (a1_0 != 1) = false := bne_eq_false_iff_eq.mpr c24
     clear c24
     (first | rw [c24b0] | (simp only [i64_w, i32_w]; rw [c24b0]) | skip)
     by_cases c25 : a1_1 < t214
     ·rw [if_pos c25] at H
      have c25b0 : decide (a1_1 < t214) = true := decide_eq_true c25
      clear c25; have H' := Aside0.mk H
      clear H; have hnb26 := NB211_210.out; have hnc26 := NB210_211.out; have hnb27 := NB211_212.out; have hnc27 := NB212_211.out; have hnb28 := NB211_221.out; have hnc28 := NB221_211.out; obtain ⟨hcz29_0, hcz29_1, hcz29_2, hcz29_3, hcz29_4⟩ := cs5 BK211; obtain ⟨hfz29_0, hfz29_1, hfz29_2, hfz29_3, hfz29_4⟩ := fs5 BK211
      go_wp2_with (first | ((with_reducible refine gate_callee (f := 101) rfl ?_); refine goesL_ (some 14) rfl rfl Try.func101 (by kernel_rfl) rfl #[.agg #[.int .i64 a1_0, .int .i64 a1_1, .int .i64 a1_2, .int .i64 a1_3, .string a1_4]] rfl (by (try simp only [List.map_toArray, List.map_cons, List.map_nil]); first | done | rfl | (simp only [List.length_drop, List.length_take]; rfl)) ?_; (with_reducible refine (impl_RecOk.calls a1_0 a1_1 a1_2 a1_3 a1_4 true _ A22.out).mono ?_); rintro e w30 ⟨rfl, hb⟩; refine ⟨_, rfl, ?_⟩; have n0_ := Aside0.mk (Kd.R_below (by (with_reducible repeat (first | apply Kd.R_alloc | apply Kd.R_drewN | apply Kd.R_drew)); exact (Kd.R_mono (Kd.R_far (p := ⟨gb221, 4, none⟩) (Kd.R_far (p := ⟨gb221, 3, none⟩) (Kd.R_far (p := ⟨gb221, 2, none⟩) (Kd.R_far (p := ⟨gb221, 1, none⟩) (Kd.R_far (p := ⟨gb221, 0, none⟩) (Kd.R_types HO220.out BK221.out (by decide)) (fun _ hk => hk.2) (.int .i64 t214)) (fun _ hk => hk.2) (.int .i64 t215)) (fun _ hk => hk.2) (.int .i64 t216)) (fun _ hk => hk.2) (.int .i64 t217)) (fun _ hk => hk.2) (.slice Ao21 t218.length co21)) (fun _ h_ => h_.1))) hb); have n1_ := bf BK210 hb; have n2_ := bf BK211 hb; have n3_ := bf BK212 hb; have n4_ := bp #[.int .i64 t214, .int .i64 t215, .int .i64 t216, .int .i64 t217, .slice Ao21 t218.length co21] BK221 hb; have n5_ := Aside0.mk (below_step (be HB) hb); clear HO220 BK210 BK211 BK212 BK221 HB; have HO220 := n0_; have BK210 := n1_; have BK211 := n2_; have BK212 := n3_; have BK221 := n4_; have HB := n5_; clear n0_ n1_ n2_ n3_ n4_ n5_; (try clear hb); (try clear hb2); (try clear hk); (try clear hi); obtain ⟨hcz31_0, hcz31_1, hcz31_2, hcz31_3, hcz31_4⟩ := cs5 BK211; obtain ⟨hfz31_0, hfz31_1, hfz31_2, hfz31_3, hfz31_4⟩ := fs5 BK211) | ((with_reducible refine gate_dst (N := 3) rfl ?_); refine box_event ?hg (N := 3) ?hd (cs := #[.int .i64 a1_0, .int .i64 a1_1, .int .i64 a1_2, .int .i64 a1_3, .string a1_4]) (t := 44) ?hr ?_; (case hd => rfl); (case hg => rfl); (case hr => first | (go_simp; done) | (go_simp; rfl)); intro gb223 hg w32 hbox hb; have n5_ := Aside0.mk (below_step (be HB) hb); have BK223 := Aside0.mk (hbox); have GW223 := bs HB hg; have GE223 := bs HB hg; have NB210_223 := bl BK210 hg; have NB223_210 := bg BK210 hg; have NB211_223 := bl BK211 hg; have NB223_211 := bg BK211 hg; have NB212_223 := bl BK212 hg; have NB223_212 := bg BK212 hg; have NB221_223 := bl BK221 hg; have NB223_221 := bg BK221 hg; replace HO220 := Aside0.mk (Kd.R_below (rr HO220) hb); replace BK210 := bq BK210 hb; replace BK211 := bq BK211 hb; replace BK212 := bq BK212 hb; replace BK221 := bq BK221 hb; clear HB; have HB := n5_; clear n5_; clear hb hbox hg; have hnb33 := NB223_210.out; have hnc33 := NB210_223.out; have hnb34 := NB223_211.out; have hnc34 := NB211_223.out; have hnb35 := NB223_212.out; have hnc35 := NB212_223.out; have hnb36 := NB223_221.out; have hnc36 := NB221_223.out; obtain ⟨hcz37_0, hcz37_1, hcz37_2, hcz37_3, hcz37_4⟩ := cs5 BK223; obtain ⟨hfz37_0, hfz37_1, hfz37_2, hfz37_3, hfz37_4⟩ := fs5 BK223) | (go_at_call 102; go_in))
      have n0_ := Aside0.mk (Kd.R_drew HO220.out)
      have n1_ := Aside0.mk (blk_drew BK210.out)
      have n2_ := Aside0.mk (blk_drew BK211.out)
      have n3_ := Aside0.mk (blk_drew BK212.out)
      have n4_ := Aside0.mk (blk_drew BK221.out)
      have n5_ := Aside0.mk (blk_drew BK223.out)
      have n6_ := Aside0.mk (below_drew1 HB.out)
      clear HO220 BK210 BK211 BK212 BK221 BK223 HB; have HO220 := n0_; have BK210 := n1_; have BK211 := n2_; have BK212 := n3_; have BK221 := n4_; have BK223 := n5_; have HB := n6_; clear n0_ n1_ n2_ n3_ n4_ n5_ n6_; refine start_ (n := 32) (S := fun w' => w'.cell? ⟨gb223, 0, none⟩ = some (.int .i64 a1_0) ∧ w'.cell? ⟨gb223, 1, none⟩ = some (.int .i64 a1_1) ∧ w'.cell? ⟨gb223, 2, none⟩ = some (.int .i64 a1_2) ∧ w'.cell? ⟨gb223, 3, none⟩ = some (.int .i64 a1_3) ∧ w'.cell? ⟨gb223, 4, none⟩ = some (.string a1_4) ∧ w'.cell? ⟨gb221, 0, none⟩ = some (.int .i64 t214) ∧ w'.cell? ⟨gb221, 1, none⟩ = some (.int .i64 t215) ∧ w'.cell? ⟨gb221, 2, none⟩ = some (.int .i64 t216) ∧ w'.cell? ⟨gb221, 3, none⟩ = some (.int .i64 t217) ∧ w'.cell? ⟨gb221, 4, none⟩ = some (.slice Ao21 t218.length co21)) (ds := []) #[ff,ff,ff,ff,ff,ff,ff,ff,ff,ff,ff,ff,ff,ff,ff,ff,ff,ff,ff,ff,ff,ff,ff,ff,ff,ff,ff,ff,ff,ff,ff,ff] (by kernel_rfl) rfl rfl ⟨bc BK223 0, bc BK223 1, bc BK223 2, bc BK223 3, bc BK223 4, bc BK221 0, bc BK221 1, bc BK221 2, bc BK221 3, bc BK221 4⟩ (fun hHeld => ?_); refine with_tabW impl_WalStep.tab1004 impl_WalStep.bits1004 (fun HT_ HW_ => ?_)
      generalize w32.drew = w38 at HO220 BK210 BK211 BK212 BK221 BK223 HB hHeld ⊢
      refine pure_ (i := 0) (N := some 9) (v := ?_) (a' := ?_) #[tt,ff,ff,ff,ff,ff,ff,ff,ff,ff,ff,ff,ff,ff,ff,ff,ff,ff,ff,ff,ff,ff,ff,ff,ff,ff,ff,ff,ff,ff,ff,ff] rfl rfl (any_of HT_.out (by kernel_rfl)) (fun _ _ _ h => h) (Or.inl ⟨by rfl, ?_⟩) ?_ ?_
      rotate_left
      ·intro w'; go_simp; with_reducible rfl
      rotate_left
      ·simp only [putL, i64_w, i32_w]; rfl
      refine pure_ (i := 2) (N := some 11) (v := ?_) (a' := ?_) #[tt,ff,tt,ff,ff,ff,ff,ff,ff,ff,ff,ff,ff,ff,ff,ff,ff,ff,ff,ff,ff,ff,ff,ff,ff,ff,ff,ff,ff,ff,ff,ff] rfl rfl (any_of HT_.out (by kernel_rfl)) (fun _ _ _ h => h) (Or.inl ⟨by rfl, ?_⟩) ?_ ?_
      rotate_left
      ·intro w'; go_simp; with_reducible rfl
      rotate_left
      ·simp only [putL, i64_w, i32_w]; rfl
      refine pure_ (i := 3) (N := some 12) (v := ?_) (a' := ?_) #[tt,ff,tt,tt,ff,ff,ff,ff,ff,ff,ff,ff,ff,ff,ff,ff,ff,ff,ff,ff,ff,ff,ff,ff,ff,ff,ff,ff,ff,ff,ff,ff] rfl rfl (any_of HT_.out (by kernel_rfl)) (fun _ _ _ h => h) (Or.inl ⟨by rfl, ?_⟩) ?_ ?_
      rotate_left
      ·intro w'; go_simp; with_reducible rfl
      rotate_left
      ·simp only [putL, i64_w, i32_w]; rfl
      refine pure_ (i := 4) (N := some 13) (v := ?_) (a' := ?_) #[tt,ff,tt,tt,tt,ff,ff,ff,ff,ff,ff,ff,ff,ff,ff,ff,ff,ff,ff,ff,ff,ff,ff,ff,ff,ff,ff,ff,ff,ff,ff,ff] rfl rfl (any_of HT_.out (by kernel_rfl)) (fun _ _ _ h => h) (Or.inl ⟨by rfl, ?_⟩) ?_ ?_
      rotate_left
      ·intro w'; go_simp; with_reducible rfl
      rotate_left
      ·simp only [putL, i64_w, i32_w]; rfl
      refine take_ (i := 1) (N := some 10) (v := ?_) (a' := ?_) #[tt,tt,tt,tt,tt,ff,ff,ff,ff,ff,ff,ff,ff,ff,ff,ff,ff,ff,ff,ff,ff,ff,ff,ff,ff,ff,ff,ff,ff,ff,ff,ff] rfl rfl (take_ofW HT_.out HW_.out (by kernel_rfl)) (fun _ _ _ h => h) (Or.inl ⟨by rfl, ?_⟩) hHeld ?_ ?_
      rotate_left
      ·rintro w' ⟨s0, s1, s2, s3, s4, s5, s6, s7, s8, s9⟩
       go_simp; with_reducible rfl
      rotate_left
      ·simp only [putL, i64_w, i32_w]; rfl
      refine take_ (i := 5) (N := some 14) (v := ?_) (a' := ?_) #[tt,tt,tt,tt,tt,tt,ff,ff,ff,ff,ff,ff,ff,ff,ff,ff,ff,ff,ff,ff,ff,ff,ff,ff,ff,ff,ff,ff,ff,ff,ff,ff] rfl rfl (take_ofW HT_.out HW_.out (by kernel_rfl)) (fun _ _ _ h => h) (Or.inl ⟨by rfl, ?_⟩) hHeld ?_ ?_
      rotate_left
      ·rintro w' ⟨s0, s1, s2, s3, s4, s5, s6, s7, s8, s9⟩
       go_simp; with_reducible rfl
      rotate_left
      ·simp only [putL, i64_w, i32_w]; rfl
      refine pure_ (i := 6) (N := some 15) (v := ?_) (a' := ?_) #[tt,tt,tt,tt,tt,tt,tt,ff,ff,ff,ff,ff,ff,ff,ff,ff,ff,ff,ff,ff,ff,ff,ff,ff,ff,ff,ff,ff,ff,ff,ff,ff] rfl rfl (any_of HT_.out (by kernel_rfl)) (fun _ _ _ h => h) (Or.inl ⟨by rfl, ?_⟩) ?_ ?_
      rotate_left
      ·intro w'; go_simp; with_reducible rfl
      rotate_left
      ·simp only [putL, i64_w, i32_w]; rfl
      refine pure_ (i := 7) (N := some 16) (v := ?_) (a' := ?_) #[tt,tt,tt,tt,tt,tt,tt,tt,ff,ff,ff,ff,ff,ff,ff,ff,ff,ff,ff,ff,ff,ff,ff,ff,ff,ff,ff,ff,ff,ff,ff,ff] rfl rfl (any_of HT_.out (by kernel_rfl)) (fun _ _ _ h => h) (Or.inl ⟨by rfl, ?_⟩) ?_ ?_
      rotate_left
      ·intro w'; go_simp; with_reducible rfl
      rotate_left
      ·simp only [putL, i64_w, i32_w]; rfl
      refine pure_ (i := 8) (N := some 17) (v := undef) (a' := ?_) #[tt,tt,tt,tt,tt,tt,tt,tt,tt,ff,ff,ff,ff,ff,ff,ff,ff,ff,ff,ff,ff,ff,ff,ff,ff,ff,ff,ff,ff,ff,ff,ff] rfl rfl (any_of HT_.out (by kernel_rfl)) (fun _ _ _ h => h) (Or.inr ⟨by rfl, rfl⟩) ?_ ?_
      rotate_left
      ·simp only [putL, i64_w, i32_w]; rfl
      refine pure_ (i := 9) (N := some 18) (v := undef) (a' := ?_) #[tt,tt,tt,tt,tt,tt,tt,tt,tt,tt,ff,ff,ff,ff,ff,ff,ff,ff,ff,ff,ff,ff,ff,ff,ff,ff,ff,ff,ff,ff,ff,ff] rfl rfl (any_of HT_.out (by kernel_rfl)) (fun _ _ _ h => h) (Or.inr ⟨by rfl, rfl⟩) ?_ ?_
      rotate_left
      ·simp only [putL, i64_w, i32_w]; rfl
      refine pure_ (i := 10) (N := some 19) (v := undef) (a' := ?_) #[tt,tt,tt,tt,tt,tt,tt,tt,tt,tt,tt,ff,ff,ff,ff,ff,ff,ff,ff,ff,ff,ff,ff,ff,ff,ff,ff,ff,ff,ff,ff,ff] rfl rfl (any_of HT_.out (by kernel_rfl)) (fun _ _ _ h => h) (Or.inr ⟨by rfl, rfl⟩) ?_ ?_
      rotate_left
      ·simp only [putL, i64_w, i32_w]; rfl
      refine pure_ (i := 11) (N := some 20) (v := undef) (a' := ?_) #[tt,tt,tt,tt,tt,tt,tt,tt,tt,tt,tt,tt,ff,ff,ff,ff,ff,ff,ff,ff,ff,ff,ff,ff,ff,ff,ff,ff,ff,ff,ff,ff] rfl rfl (any_of HT_.out (by kernel_rfl)) (fun _ _ _ h => h) (Or.inr ⟨by rfl, rfl⟩) ?_ ?_
      rotate_left
      ·simp only [putL, i64_w, i32_w]; rfl
      refine pure_ (i := 12) (N := some 21) (v := undef) (a' := ?_) #[tt,tt,tt,tt,tt,tt,tt,tt,tt,tt,tt,tt,tt,ff,ff,ff,ff,ff,ff,ff,ff,ff,ff,ff,ff,ff,ff,ff,ff,ff,ff,ff] rfl rfl (any_of HT_.out (by kernel_rfl)) (fun _ _ _ h => h) (Or.inr ⟨by rfl, rfl⟩) ?_ ?_
      rotate_left
      ·simp only [putL, i64_w, i32_w]; rfl
      refine pure_ (i := 13) (N := some 22) (v := undef) (a' := ?_) #[tt,tt,tt,tt,tt,tt,tt,tt,tt,tt,tt,tt,tt,tt,ff,ff,ff,ff,ff,ff,ff,ff,ff,ff,ff,ff,ff,ff,ff,ff,ff,ff] rfl rfl (any_of HT_.out (by kernel_rfl)) (fun _ _ _ h => h) (Or.inr ⟨by rfl, rfl⟩) ?_ ?_
      rotate_left
      ·simp only [putL, i64_w, i32_w]; rfl
      refine pure_ (i := 14) (N := some 23) (v := undef) (a' := ?_) #[tt,tt,tt,tt,tt,tt,tt,tt,tt,tt,tt,tt,tt,tt,tt,ff,ff,ff,ff,ff,ff,ff,ff,ff,ff,ff,ff,ff,ff,ff,ff,ff] rfl rfl (any_of HT_.out (by kernel_rfl)) (fun _ _ _ h => h) (Or.inr ⟨by rfl, rfl⟩) ?_ ?_
      rotate_left
      ·simp only [putL, i64_w, i32_w]; rfl
      refine pure_ (i := 15) (N := some 24) (v := undef) (a' := ?_) #[tt,tt,tt,tt,tt,tt,tt,tt,tt,tt,tt,tt,tt,tt,tt,tt,ff,ff,ff,ff,ff,ff,ff,ff,ff,ff,ff,ff,ff,ff,ff,ff] rfl rfl (any_of HT_.out (by kernel_rfl)) (fun _ _ _ h => h) (Or.inr ⟨by rfl, rfl⟩) ?_ ?_
      rotate_left
      ·simp only [putL, i64_w, i32_w]; rfl
      refine pure_ (i := 16) (N := some 25) (v := undef) (a' := ?_) #[tt,tt,tt,tt,tt,tt,tt,tt,tt,tt,tt,tt,tt,tt,tt,tt,tt,ff,ff,ff,ff,ff,ff,ff,ff,ff,ff,ff,ff,ff,ff,ff] rfl rfl (any_of HT_.out (by kernel_rfl)) (fun _ _ _ h => h) (Or.inr ⟨by rfl, rfl⟩) ?_ ?_
      rotate_left
      ·simp only [putL, i64_w, i32_w]; rfl
      refine pure_ (i := 17) (N := some 26) (v := undef) (a' := ?_) #[tt,tt,tt,tt,tt,tt,tt,tt,tt,tt,tt,tt,tt,tt,tt,tt,tt,tt,ff,ff,ff,ff,ff,ff,ff,ff,ff,ff,ff,ff,ff,ff] rfl rfl (any_of HT_.out (by kernel_rfl)) (fun _ _ _ h => h) (Or.inr ⟨by rfl, rfl⟩) ?_ ?_
      rotate_left
      ·simp only [putL, i64_w, i32_w]; rfl
      refine pure_ (i := 18) (N := some 27) (v := undef) (a' := ?_) #[tt,tt,tt,tt,tt,tt,tt,tt,tt,tt,tt,tt,tt,tt,tt,tt,tt,tt,tt,ff,ff,ff,ff,ff,ff,ff,ff,ff,ff,ff,ff,ff] rfl rfl (any_of HT_.out (by kernel_rfl)) (fun _ _ _ h => h) (Or.inr ⟨by rfl, rfl⟩) ?_ ?_
      rotate_left
      ·simp only [putL, i64_w, i32_w]; rfl
      refine pure_ (i := 19) (N := some 28) (v := undef) (a' := ?_) #[tt,tt,tt,tt,tt,tt,tt,tt,tt,tt,tt,tt,tt,tt,tt,tt,tt,tt,tt,tt,ff,ff,ff,ff,ff,ff,ff,ff,ff,ff,ff,ff] rfl rfl (any_of HT_.out (by kernel_rfl)) (fun _ _ _ h => h) (Or.inr ⟨by rfl, rfl⟩) ?_ ?_
      rotate_left
      ·simp only [putL, i64_w, i32_w]; rfl
      refine pure_ (i := 20) (N := some 29) (v := undef) (a' := ?_) #[tt,tt,tt,tt,tt,tt,tt,tt,tt,tt,tt,tt,tt,tt,tt,tt,tt,tt,tt,tt,tt,ff,ff,ff,ff,ff,ff,ff,ff,ff,ff,ff] rfl rfl (any_of HT_.out (by kernel_rfl)) (fun _ _ _ h => h) (Or.inr ⟨by rfl, rfl⟩) ?_ ?_
      rotate_left
      ·simp only [putL, i64_w, i32_w]; rfl
      refine pure_ (i := 21) (N := some 30) (v := undef) (a' := ?_) #[tt,tt,tt,tt,tt,tt,tt,tt,tt,tt,tt,tt,tt,tt,tt,tt,tt,tt,tt,tt,tt,tt,ff,ff,ff,ff,ff,ff,ff,ff,ff,ff] rfl rfl (any_of HT_.out (by kernel_rfl)) (fun _ _ _ h => h) (Or.inr ⟨by rfl, rfl⟩) ?_ ?_
      rotate_left
      ·simp only [putL, i64_w, i32_w]; rfl
      refine pure_ (i := 22) (N := some 31) (v := undef) (a' := ?_) #[tt,tt,tt,tt,tt,tt,tt,tt,tt,tt,tt,tt,tt,tt,tt,tt,tt,tt,tt,tt,tt,tt,tt,ff,ff,ff,ff,ff,ff,ff,ff,ff] rfl rfl (any_of HT_.out (by kernel_rfl)) (fun _ _ _ h => h) (Or.inr ⟨by rfl, rfl⟩) ?_ ?_
      rotate_left
      ·simp only [putL, i64_w, i32_w]; rfl
      refine pure_ (i := 23) (N := some 32) (v := undef) (a' := ?_) #[tt,tt,tt,tt,tt,tt,tt,tt,tt,tt,tt,tt,tt,tt,tt,tt,tt,tt,tt,tt,tt,tt,tt,tt,ff,ff,ff,ff,ff,ff,ff,ff] rfl rfl (any_of HT_.out (by kernel_rfl)) (fun _ _ _ h => h) (Or.inr ⟨by rfl, rfl⟩) ?_ ?_
      rotate_left
      ·simp only [putL, i64_w, i32_w]; rfl
      refine pure_ (i := 24) (N := some 33) (v := undef) (a' := ?_) #[tt,tt,tt,tt,tt,tt,tt,tt,tt,tt,tt,tt,tt,tt,tt,tt,tt,tt,tt,tt,tt,tt,tt,tt,tt,ff,ff,ff,ff,ff,ff,ff] rfl rfl (any_of HT_.out (by kernel_rfl)) (fun _ _ _ h => h) (Or.inr ⟨by rfl, rfl⟩) ?_ ?_
      rotate_left
      ·simp only [putL, i64_w, i32_w]; rfl
      refine pure_ (i := 25) (N := some 34) (v := undef) (a' := ?_) #[tt,tt,tt,tt,tt,tt,tt,tt,tt,tt,tt,tt,tt,tt,tt,tt,tt,tt,tt,tt,tt,tt,tt,tt,tt,tt,ff,ff,ff,ff,ff,ff] rfl rfl (any_of HT_.out (by kernel_rfl)) (fun _ _ _ h => h) (Or.inr ⟨by rfl, rfl⟩) ?_ ?_
      rotate_left
      ·simp only [putL, i64_w, i32_w]; rfl
      refine pure_ (i := 26) (N := some 35) (v := undef) (a' := ?_) #[tt,tt,tt,tt,tt,tt,tt,tt,tt,tt,tt,tt,tt,tt,tt,tt,tt,tt,tt,tt,tt,tt,tt,tt,tt,tt,tt,ff,ff,ff,ff,ff] rfl rfl (any_of HT_.out (by kernel_rfl)) (fun _ _ _ h => h) (Or.inr ⟨by rfl, rfl⟩) ?_ ?_
      rotate_left
      ·simp only [putL, i64_w, i32_w]; rfl
      refine pure_ (i := 27) (N := some 36) (v := undef) (a' := ?_) #[tt,tt,tt,tt,tt,tt,tt,tt,tt,tt,tt,tt,tt,tt,tt,tt,tt,tt,tt,tt,tt,tt,tt,tt,tt,tt,tt,tt,ff,ff,ff,ff] rfl rfl (any_of HT_.out (by kernel_rfl)) (fun _ _ _ h => h) (Or.inr ⟨by rfl, rfl⟩) ?_ ?_
      rotate_left
      ·simp only [putL, i64_w, i32_w]; rfl
      refine pure_ (i := 28) (N := some 37) (v := undef) (a' := ?_) #[tt,tt,tt,tt,tt,tt,tt,tt,tt,tt,tt,tt,tt,tt,tt,tt,tt,tt,tt,tt,tt,tt,tt,tt,tt,tt,tt,tt,tt,ff,ff,ff] rfl rfl (any_of HT_.out (by kernel_rfl)) (fun _ _ _ h => h) (Or.inr ⟨by rfl, rfl⟩) ?_ ?_
      rotate_left
      ·simp only [putL, i64_w, i32_w]; rfl
      refine pure_ (i := 29) (N := some 38) (v := undef) (a' := ?_) #[tt,tt,tt,tt,tt,tt,tt,tt,tt,tt,tt,tt,tt,tt,tt,tt,tt,tt,tt,tt,tt,tt,tt,tt,tt,tt,tt,tt,tt,tt,ff,ff] rfl rfl (any_of HT_.out (by kernel_rfl)) (fun _ _ _ h => h) (Or.inr ⟨by rfl, rfl⟩) ?_ ?_
      rotate_left
      ·simp only [putL, i64_w, i32_w]; rfl
      refine pure_ (i := 30) (N := some 39) (v := undef) (a' := ?_) #[tt,tt,tt,tt,tt,tt,tt,tt,tt,tt,tt,tt,tt,tt,tt,tt,tt,tt,tt,tt,tt,tt,tt,tt,tt,tt,tt,tt,tt,tt,tt,ff] rfl rfl (any_of HT_.out (by kernel_rfl)) (fun _ _ _ h => h) (Or.inr ⟨by rfl, rfl⟩) ?_ ?_
      rotate_left
      ·simp only [putL, i64_w, i32_w]; rfl
      refine pure_ (i := 31) (N := some 40) (v := ?_) (a' := ?_) #[tt,tt,tt,tt,tt,tt,tt,tt,tt,tt,tt,tt,tt,tt,tt,tt,tt,tt,tt,tt,tt,tt,tt,tt,tt,tt,tt,tt,tt,tt,tt,tt] rfl rfl (any_of HT_.out (by kernel_rfl)) (fun _ _ _ h => h) (Or.inl ⟨by rfl, ?_⟩) ?_ ?_
      rotate_left
      ·intro w'; go_simp; with_reducible rfl
      rotate_left
      ·simp only [putL, i64_w, i32_w]; rfl
      refine done_ (done_of HT_.out (by kernel_rfl)) ?_
      go_wp2
      go_meet
      case rel => exact ⟨_, (!false), (t214), (t215), (t216), (t217), (t218), (.slice Ao21 t218.length co21), (by first | rfl | (simp; done) | (simp [*]; done)), H', ⟨by first | omega | exact Nat.le_refl _⟩, ⟨rr HO220⟩, ⟨bb BK210⟩, ⟨bb BK211⟩, ⟨bb BK212⟩, ⟨bb BK221⟩, ⟨by repeat (first | (with_reducible first | exact HB.out | apply below_alloc | apply pw_below_drewN | apply below_drew1 | refine below_set ?_ GE210.out | refine below_set ?_ GE211.out | refine below_set ?_ GE212.out | refine below_set ?_ GE221.out | refine below_set ?_ GE223.out) | exact HB.out)⟩⟩
     ·rw [if_neg c25] at H
      have c25b0 : decide (a1_1 < t214) = false := decide_eq_false c25
      clear c25
      by_cases c39 : a1_1 = t214
      ·rw [if_pos c39] at H
       have c39b0 : (a1_1 == t214) = true := beq_iff_eq.mpr c39
       have c39b1 : (a1_1 != t214) = false := bne_eq_false_iff_eq.mpr c39
       clear c39
       by_cases c40 : t215 = (-1)
       ·rw [if_pos c40] at H
        have c40b0 : (t215 == (-1)) = true := beq_iff_eq.mpr c40
        have c40b1 : (t215 != (-1)) = false := bne_eq_false_iff_eq.mpr c40
        clear c40; have H' := Aside0.mk H
        clear H; have hnb41 := NB211_210.out; have hnc41 := NB210_211.out; have hnb42 := NB211_212.out; have hnc42 := NB212_211.out; have hnb43 := NB211_221.out; have hnc43 := NB221_211.out; obtain ⟨hcz44_0, hcz44_1, hcz44_2, hcz44_3, hcz44_4⟩ := cs5 BK211; obtain ⟨hfz44_0, hfz44_1, hfz44_2, hfz44_3, hfz44_4⟩ := fs5 BK211
        go_wp2_with (first | ((with_reducible refine gate_callee (f := 101) rfl ?_); refine goesL_ (some 14) rfl rfl Try.func101 (by kernel_rfl) rfl #[.agg #[.int .i64 a1_0, .int .i64 a1_1, .int .i64 a1_2, .int .i64 a1_3, .string a1_4]] rfl (by (try simp only [List.map_toArray, List.map_cons, List.map_nil]); first | done | rfl | (simp only [List.length_drop, List.length_take]; rfl)) ?_; (with_reducible refine (impl_RecOk.calls a1_0 a1_1 a1_2 a1_3 a1_4 true _ A22.out).mono ?_); rintro e w45 ⟨rfl, hb⟩; refine ⟨_, rfl, ?_⟩; have n0_ := Aside0.mk (Kd.R_below (by (with_reducible repeat (first | apply Kd.R_alloc | apply Kd.R_drewN | apply Kd.R_drew)); exact (Kd.R_mono (Kd.R_far (p := ⟨gb221, 4, none⟩) (Kd.R_far (p := ⟨gb221, 3, none⟩) (Kd.R_far (p := ⟨gb221, 2, none⟩) (Kd.R_far (p := ⟨gb221, 1, none⟩) (Kd.R_far (p := ⟨gb221, 0, none⟩) (Kd.R_types HO220.out BK221.out (by decide)) (fun _ hk => hk.2) (.int .i64 t214)) (fun _ hk => hk.2) (.int .i64 t215)) (fun _ hk => hk.2) (.int .i64 t216)) (fun _ hk => hk.2) (.int .i64 t217)) (fun _ hk => hk.2) (.slice Ao21 t218.length co21)) (fun _ h_ => h_.1))) hb); have n1_ := bf BK210 hb; have n2_ := bf BK211 hb; have n3_ := bf BK212 hb; have n4_ := bp #[.int .i64 t214, .int .i64 t215, .int .i64 t216, .int .i64 t217, .slice Ao21 t218.length co21] BK221 hb; have n5_ := Aside0.mk (below_step (be HB) hb); clear HO220 BK210 BK211 BK212 BK221 HB; have HO220 := n0_; have BK210 := n1_; have BK211 := n2_; have BK212 := n3_; have BK221 := n4_; have HB := n5_; clear n0_ n1_ n2_ n3_ n4_ n5_; (try clear hb); (try clear hb2); (try clear hk); (try clear hi); obtain ⟨hcz46_0, hcz46_1, hcz46_2, hcz46_3, hcz46_4⟩ := cs5 BK211; obtain ⟨hfz46_0, hfz46_1, hfz46_2, hfz46_3, hfz46_4⟩ := fs5 BK211) | ((with_reducible refine gate_dst (N := 3) rfl ?_); refine box_event ?hg (N := 3) ?hd (cs := #[.int .i64 a1_0, .int .i64 a1_1, .int .i64 a1_2, .int .i64 a1_3, .string a1_4]) (t := 44) ?hr ?_; (case hd => rfl); (case hg => rfl); (case hr => first | (go_simp; done) | (go_simp; rfl)); intro gb223 hg w47 hbox hb; have n5_ := Aside0.mk (below_step (be HB) hb); have BK223 := Aside0.mk (hbox); have GW223 := bs HB hg; have GE223 := bs HB hg; have NB210_223 := bl BK210 hg; have NB223_210 := bg BK210 hg; have NB211_223 := bl BK211 hg; have NB223_211 := bg BK211 hg; have NB212_223 := bl BK212 hg; have NB223_212 := bg BK212 hg; have NB221_223 := bl BK221 hg; have NB223_221 := bg BK221 hg; replace HO220 := Aside0.mk (Kd.R_below (rr HO220) hb); replace BK210 := bq BK210 hb; replace BK211 := bq BK211 hb; replace BK212 := bq BK212 hb; replace BK221 := bq BK221 hb; clear HB; have HB := n5_; clear n5_; clear hb hbox hg; have hnb48 := NB223_210.out; have hnc48 := NB210_223.out; have hnb49 := NB223_211.out; have hnc49 := NB211_223.out; have hnb50 := NB223_212.out; have hnc50 := NB212_223.out; have hnb51 := NB223_221.out; have hnc51 := NB221_223.out; obtain ⟨hcz52_0, hcz52_1, hcz52_2, hcz52_3, hcz52_4⟩ := cs5 BK223; obtain ⟨hfz52_0, hfz52_1, hfz52_2, hfz52_3, hfz52_4⟩ := fs5 BK223) | (go_at_call 102; go_in))
        have n0_ := Aside0.mk (Kd.R_drew HO220.out)
        have n1_ := Aside0.mk (blk_drew BK210.out)
        have n2_ := Aside0.mk (blk_drew BK211.out)
        have n3_ := Aside0.mk (blk_drew BK212.out)
        have n4_ := Aside0.mk (blk_drew BK221.out)
        have n5_ := Aside0.mk (blk_drew BK223.out)
        have n6_ := Aside0.mk (below_drew1 HB.out)
        clear HO220 BK210 BK211 BK212 BK221 BK223 HB; have HO220 := n0_; have BK210 := n1_; have BK211 := n2_; have BK212 := n3_; have BK221 := n4_; have BK223 := n5_; have HB := n6_; clear n0_ n1_ n2_ n3_ n4_ n5_ n6_; refine start_ (n := 32) (S := fun w' => w'.cell? ⟨gb223, 0, none⟩ = some (.int .i64 a1_0) ∧ w'.cell? ⟨gb223, 1, none⟩ = some (.int .i64 a1_1) ∧ w'.cell? ⟨gb223, 2, none⟩ = some (.int .i64 a1_2) ∧ w'.cell? ⟨gb223, 3, none⟩ = some (.int .i64 a1_3) ∧ w'.cell? ⟨gb223, 4, none⟩ = some (.string a1_4) ∧ w'.cell? ⟨gb221, 0, none⟩ = some (.int .i64 t214) ∧ w'.cell? ⟨gb221, 1, none⟩ = some (.int .i64 t215) ∧ w'.cell? ⟨gb221, 2, none⟩ = some (.int .i64 t216) ∧ w'.cell? ⟨gb221, 3, none⟩ = some (.int .i64 t217) ∧ w'.cell? ⟨gb221, 4, none⟩ = some (.slice Ao21 t218.length co21)) (ds := []) #[ff,ff,ff,ff,ff,ff,ff,ff,ff,ff,ff,ff,ff,ff,ff,ff,ff,ff,ff,ff,ff,ff,ff,ff,ff,ff,ff,ff,ff,ff,ff,ff] (by kernel_rfl) rfl rfl ⟨bc BK223 0, bc BK223 1, bc BK223 2, bc BK223 3, bc BK223 4, bc BK221 0, bc BK221 1, bc BK221 2, bc BK221 3, bc BK221 4⟩ (fun hHeld => ?_); refine with_tabW impl_WalStep.tab1004 impl_WalStep.bits1004 (fun HT_ HW_ => ?_)
        generalize w47.drew = w53 at HO220 BK210 BK211 BK212 BK221 BK223 HB hHeld ⊢
        refine pure_ (i := 0) (N := some 9) (v := ?_) (a' := ?_) #[tt,ff,ff,ff,ff,ff,ff,ff,ff,ff,ff,ff,ff,ff,ff,ff,ff,ff,ff,ff,ff,ff,ff,ff,ff,ff,ff,ff,ff,ff,ff,ff] rfl rfl (any_of HT_.out (by kernel_rfl)) (fun _ _ _ h => h) (Or.inl ⟨by rfl, ?_⟩) ?_ ?_
        rotate_left
        ·intro w'; go_simp; with_reducible rfl
        rotate_left
        ·simp only [putL, i64_w, i32_w]; rfl
        refine pure_ (i := 2) (N := some 11) (v := ?_) (a' := ?_) #[tt,ff,tt,ff,ff,ff,ff,ff,ff,ff,ff,ff,ff,ff,ff,ff,ff,ff,ff,ff,ff,ff,ff,ff,ff,ff,ff,ff,ff,ff,ff,ff] rfl rfl (any_of HT_.out (by kernel_rfl)) (fun _ _ _ h => h) (Or.inl ⟨by rfl, ?_⟩) ?_ ?_
        rotate_left
        ·intro w'; go_simp; with_reducible rfl
        rotate_left
        ·simp only [putL, i64_w, i32_w]; rfl
        refine pure_ (i := 3) (N := some 12) (v := ?_) (a' := ?_) #[tt,ff,tt,tt,ff,ff,ff,ff,ff,ff,ff,ff,ff,ff,ff,ff,ff,ff,ff,ff,ff,ff,ff,ff,ff,ff,ff,ff,ff,ff,ff,ff] rfl rfl (any_of HT_.out (by kernel_rfl)) (fun _ _ _ h => h) (Or.inl ⟨by rfl, ?_⟩) ?_ ?_
        rotate_left
        ·intro w'; go_simp; with_reducible rfl
        rotate_left
        ·simp only [putL, i64_w, i32_w]; rfl
        refine pure_ (i := 4) (N := some 13) (v := ?_) (a' := ?_) #[tt,ff,tt,tt,tt,ff,ff,ff,ff,ff,ff,ff,ff,ff,ff,ff,ff,ff,ff,ff,ff,ff,ff,ff,ff,ff,ff,ff,ff,ff,ff,ff] rfl rfl (any_of HT_.out (by kernel_rfl)) (fun _ _ _ h => h) (Or.inl ⟨by rfl, ?_⟩) ?_ ?_
        rotate_left
        ·intro w'; go_simp; with_reducible rfl
        rotate_left
        ·simp only [putL, i64_w, i32_w]; rfl
        refine take_ (i := 1) (N := some 10) (v := ?_) (a' := ?_) #[tt,tt,tt,tt,tt,ff,ff,ff,ff,ff,ff,ff,ff,ff,ff,ff,ff,ff,ff,ff,ff,ff,ff,ff,ff,ff,ff,ff,ff,ff,ff,ff] rfl rfl (take_ofW HT_.out HW_.out (by kernel_rfl)) (fun _ _ _ h => h) (Or.inl ⟨by rfl, ?_⟩) hHeld ?_ ?_
        rotate_left
        ·rintro w' ⟨s0, s1, s2, s3, s4, s5, s6, s7, s8, s9⟩
         go_simp; with_reducible rfl
        rotate_left
        ·simp only [putL, i64_w, i32_w]; rfl
        refine take_ (i := 5) (N := some 14) (v := ?_) (a' := ?_) #[tt,tt,tt,tt,tt,tt,ff,ff,ff,ff,ff,ff,ff,ff,ff,ff,ff,ff,ff,ff,ff,ff,ff,ff,ff,ff,ff,ff,ff,ff,ff,ff] rfl rfl (take_ofW HT_.out HW_.out (by kernel_rfl)) (fun _ _ _ h => h) (Or.inl ⟨by rfl, ?_⟩) hHeld ?_ ?_
        rotate_left
        ·rintro w' ⟨s0, s1, s2, s3, s4, s5, s6, s7, s8, s9⟩
         go_simp; with_reducible rfl
        rotate_left
        ·simp only [putL, i64_w, i32_w]; rfl
        refine pure_ (i := 6) (N := some 15) (v := ?_) (a' := ?_) #[tt,tt,tt,tt,tt,tt,tt,ff,ff,ff,ff,ff,ff,ff,ff,ff,ff,ff,ff,ff,ff,ff,ff,ff,ff,ff,ff,ff,ff,ff,ff,ff] rfl rfl (any_of HT_.out (by kernel_rfl)) (fun _ _ _ h => h) (Or.inl ⟨by rfl, ?_⟩) ?_ ?_
        rotate_left
        ·intro w'; go_simp; with_reducible rfl
        rotate_left
        ·simp only [putL, i64_w, i32_w]; rfl
        refine pure_ (i := 7) (N := some 16) (v := ?_) (a' := ?_) #[tt,tt,tt,tt,tt,tt,tt,tt,ff,ff,ff,ff,ff,ff,ff,ff,ff,ff,ff,ff,ff,ff,ff,ff,ff,ff,ff,ff,ff,ff,ff,ff] rfl rfl (any_of HT_.out (by kernel_rfl)) (fun _ _ _ h => h) (Or.inl ⟨by rfl, ?_⟩) ?_ ?_
        rotate_left
        ·intro w'; go_simp; with_reducible rfl
        rotate_left
        ·simp only [putL, i64_w, i32_w]; rfl
        refine pure_ (i := 8) (N := some 17) (v := ?_) (a' := ?_) #[tt,tt,tt,tt,tt,tt,tt,tt,tt,ff,ff,ff,ff,ff,ff,ff,ff,ff,ff,ff,ff,ff,ff,ff,ff,ff,ff,ff,ff,ff,ff,ff] rfl rfl (any_of HT_.out (by kernel_rfl)) (fun _ _ _ h => h) (Or.inl ⟨by rfl, ?_⟩) ?_ ?_
        rotate_left
        ·intro w'; go_simp; with_reducible rfl
        rotate_left
        ·simp only [putL, i64_w, i32_w]; rfl
        refine pure_ (i := 10) (N := some 19) (v := ?_) (a' := ?_) #[tt,tt,tt,tt,tt,tt,tt,tt,tt,ff,tt,ff,ff,ff,ff,ff,ff,ff,ff,ff,ff,ff,ff,ff,ff,ff,ff,ff,ff,ff,ff,ff] rfl rfl (any_of HT_.out (by kernel_rfl)) (fun _ _ _ h => h) (Or.inl ⟨by rfl, ?_⟩) ?_ ?_
        rotate_left
        ·intro w'; go_simp; with_reducible rfl
        rotate_left
        ·simp only [putL, i64_w, i32_w]; rfl
        refine pure_ (i := 11) (N := some 20) (v := ?_) (a' := ?_) #[tt,tt,tt,tt,tt,tt,tt,tt,tt,ff,tt,tt,ff,ff,ff,ff,ff,ff,ff,ff,ff,ff,ff,ff,ff,ff,ff,ff,ff,ff,ff,ff] rfl rfl (any_of HT_.out (by kernel_rfl)) (fun _ _ _ h => h) (Or.inl ⟨by rfl, ?_⟩) ?_ ?_
        rotate_left
        ·intro w'; go_simp; with_reducible rfl
        rotate_left
        ·simp only [putL, i64_w, i32_w]; rfl
        refine pure_ (i := 12) (N := some 21) (v := ?_) (a' := ?_) #[tt,tt,tt,tt,tt,tt,tt,tt,tt,ff,tt,tt,tt,ff,ff,ff,ff,ff,ff,ff,ff,ff,ff,ff,ff,ff,ff,ff,ff,ff,ff,ff] rfl rfl (any_of HT_.out (by kernel_rfl)) (fun _ _ _ h => h) (Or.inl ⟨by rfl, ?_⟩) ?_ ?_
        rotate_left
        ·intro w'; go_simp; with_reducible rfl
        rotate_left
        ·simp only [putL, i64_w, i32_w]; rfl
        refine take_ (i := 9) (N := some 18) (v := ?_) (a' := ?_) #[tt,tt,tt,tt,tt,tt,tt,tt,tt,tt,tt,tt,tt,ff,ff,ff,ff,ff,ff,ff,ff,ff,ff,ff,ff,ff,ff,ff,ff,ff,ff,ff] rfl rfl (take_ofW HT_.out HW_.out (by kernel_rfl)) (fun _ _ _ h => h) (Or.inl ⟨by rfl, ?_⟩) hHeld ?_ ?_
        rotate_left
        ·rintro w' ⟨s0, s1, s2, s3, s4, s5, s6, s7, s8, s9⟩
         go_simp; with_reducible rfl
        rotate_left
        ·simp only [putL, i64_w, i32_w]; rfl
        refine take_ (i := 13) (N := some 22) (v := ?_) (a' := ?_) #[tt,tt,tt,tt,tt,tt,tt,tt,tt,tt,tt,tt,tt,tt,ff,ff,ff,ff,ff,ff,ff,ff,ff,ff,ff,ff,ff,ff,ff,ff,ff,ff] rfl rfl (take_ofW HT_.out HW_.out (by kernel_rfl)) (fun _ _ _ h => h) (Or.inl ⟨by rfl, ?_⟩) hHeld ?_ ?_
        rotate_left
        ·rintro w' ⟨s0, s1, s2, s3, s4, s5, s6, s7, s8, s9⟩
         go_simp; with_reducible rfl
        rotate_left
        ·simp only [putL, i64_w, i32_w]; rfl
        refine pure_ (i := 14) (N := some 23) (v := ?_) (a' := ?_) #[tt,tt,tt,tt,tt,tt,tt,tt,tt,tt,tt,tt,tt,tt,tt,ff,ff,ff,ff,ff,ff,ff,ff,ff,ff,ff,ff,ff,ff,ff,ff,ff] rfl rfl (any_of HT_.out (by kernel_rfl)) (fun _ _ _ h => h) (Or.inl ⟨by rfl, ?_⟩) ?_ ?_
        rotate_left
        ·intro w'; go_simp; with_reducible rfl
        rotate_left
        ·simp only [putL, i64_w, i32_w]; rfl
        refine pure_ (i := 15) (N := some 24) (v := ?_) (a' := ?_) #[tt,tt,tt,tt,tt,tt,tt,tt,tt,tt,tt,tt,tt,tt,tt,tt,ff,ff,ff,ff,ff,ff,ff,ff,ff,ff,ff,ff,ff,ff,ff,ff] rfl rfl (any_of HT_.out (by kernel_rfl)) (fun _ _ _ h => h) (Or.inl ⟨by rfl, ?_⟩) ?_ ?_
        rotate_left
        ·intro w'; go_simp; with_reducible rfl
        rotate_left
        ·simp only [putL, i64_w, i32_w]; rfl
        refine pure_ (i := 16) (N := some 25) (v := ?_) (a' := ?_) #[tt,tt,tt,tt,tt,tt,tt,tt,tt,tt,tt,tt,tt,tt,tt,tt,tt,ff,ff,ff,ff,ff,ff,ff,ff,ff,ff,ff,ff,ff,ff,ff] rfl rfl (any_of HT_.out (by kernel_rfl)) (fun _ _ _ h => h) (Or.inl ⟨by rfl, ?_⟩) ?_ ?_
        rotate_left
        ·intro w'; go_simp; with_reducible rfl
        rotate_left
        ·simp only [putL, i64_w, i32_w]; rfl
        refine pure_ (i := 17) (N := some 26) (v := ?_) (a' := ?_) #[tt,tt,tt,tt,tt,tt,tt,tt,tt,tt,tt,tt,tt,tt,tt,tt,tt,tt,ff,ff,ff,ff,ff,ff,ff,ff,ff,ff,ff,ff,ff,ff] rfl rfl (any_of HT_.out (by kernel_rfl)) (fun _ _ _ h => h) (Or.inl ⟨by rfl, ?_⟩) ?_ ?_
        rotate_left
        ·intro w'; go_simp; with_reducible rfl
        rotate_left
        ·simp only [putL, i64_w, i32_w]; rfl
        refine pure_ (i := 18) (N := some 27) (v := ?_) (a' := ?_) #[tt,tt,tt,tt,tt,tt,tt,tt,tt,tt,tt,tt,tt,tt,tt,tt,tt,tt,tt,ff,ff,ff,ff,ff,ff,ff,ff,ff,ff,ff,ff,ff] rfl rfl (any_of HT_.out (by kernel_rfl)) (fun _ _ _ h => h) (Or.inl ⟨by rfl, ?_⟩) ?_ ?_
        rotate_left
        ·intro w'; go_simp; with_reducible rfl
        rotate_left
        ·simp only [putL, i64_w, i32_w]; rfl
        refine take_ (i := 19) (N := some 28) (v := ?_) (a' := ?_) #[tt,tt,tt,tt,tt,tt,tt,tt,tt,tt,tt,tt,tt,tt,tt,tt,tt,tt,tt,tt,ff,ff,ff,ff,ff,ff,ff,ff,ff,ff,ff,ff] rfl rfl (take_ofW HT_.out HW_.out (by kernel_rfl)) (fun _ _ _ h => h) (Or.inl ⟨by rfl, ?_⟩) hHeld ?_ ?_
        rotate_left
        ·rintro w' ⟨s0, s1, s2, s3, s4, s5, s6, s7, s8, s9⟩
         go_simp; with_reducible rfl
        rotate_left
        ·simp only [putL, i64_w, i32_w]; rfl
        refine pure_ (i := 20) (N := some 29) (v := ?_) (a' := ?_) #[tt,tt,tt,tt,tt,tt,tt,tt,tt,tt,tt,tt,tt,tt,tt,tt,tt,tt,tt,tt,tt,ff,ff,ff,ff,ff,ff,ff,ff,ff,ff,ff] rfl rfl (any_of HT_.out (by kernel_rfl)) (fun _ _ _ h => h) (Or.inl ⟨by rfl, ?_⟩) ?_ ?_
        rotate_left
        ·intro w'; go_simp; with_reducible rfl
        rotate_left
        ·simp only [putL, i64_w, i32_w]; rfl
        refine pure_ (i := 21) (N := some 30) (v := ?_) (a' := ?_) #[tt,tt,tt,tt,tt,tt,tt,tt,tt,tt,tt,tt,tt,tt,tt,tt,tt,tt,tt,tt,tt,tt,ff,ff,ff,ff,ff,ff,ff,ff,ff,ff] rfl rfl (any_of HT_.out (by kernel_rfl)) (fun _ _ _ h => h) (Or.inl ⟨by rfl, ?_⟩) ?_ ?_
        rotate_left
        ·intro w'; go_simp; with_reducible rfl
        rotate_left
        ·simp only [putL, i64_w, i32_w]; rfl
        refine pure_ (i := 22) (N := some 31) (v := ?_) (a' := ?_) #[tt,tt,tt,tt,tt,tt,tt,tt,tt,tt,tt,tt,tt,tt,tt,tt,tt,tt,tt,tt,tt,tt,tt,ff,ff,ff,ff,ff,ff,ff,ff,ff] rfl rfl (any_of HT_.out (by kernel_rfl)) (fun _ _ _ h => h) (Or.inl ⟨by rfl, ?_⟩) ?_ ?_
        rotate_left
        ·intro w'; go_simp; with_reducible rfl
        rotate_left
        ·simp only [putL, i64_w, i32_w]; rfl
        refine pure_ (i := 23) (N := some 32) (v := undef) (a' := ?_) #[tt,tt,tt,tt,tt,tt,tt,tt,tt,tt,tt,tt,tt,tt,tt,tt,tt,tt,tt,tt,tt,tt,tt,tt,ff,ff,ff,ff,ff,ff,ff,ff] rfl rfl (any_of HT_.out (by kernel_rfl)) (fun _ _ _ h => h) (Or.inr ⟨by rfl, rfl⟩) ?_ ?_
        rotate_left
        ·simp only [putL, i64_w, i32_w]; rfl
        refine pure_ (i := 24) (N := some 33) (v := undef) (a' := ?_) #[tt,tt,tt,tt,tt,tt,tt,tt,tt,tt,tt,tt,tt,tt,tt,tt,tt,tt,tt,tt,tt,tt,tt,tt,tt,ff,ff,ff,ff,ff,ff,ff] rfl rfl (any_of HT_.out (by kernel_rfl)) (fun _ _ _ h => h) (Or.inr ⟨by rfl, rfl⟩) ?_ ?_
        rotate_left
        ·simp only [putL, i64_w, i32_w]; rfl
        refine pure_ (i := 25) (N := some 34) (v := undef) (a' := ?_) #[tt,tt,tt,tt,tt,tt,tt,tt,tt,tt,tt,tt,tt,tt,tt,tt,tt,tt,tt,tt,tt,tt,tt,tt,tt,tt,ff,ff,ff,ff,ff,ff] rfl rfl (any_of HT_.out (by kernel_rfl)) (fun _ _ _ h => h) (Or.inr ⟨by rfl, rfl⟩) ?_ ?_
        rotate_left
        ·simp only [putL, i64_w, i32_w]; rfl
        refine pure_ (i := 26) (N := some 35) (v := undef) (a' := ?_) #[tt,tt,tt,tt,tt,tt,tt,tt,tt,tt,tt,tt,tt,tt,tt,tt,tt,tt,tt,tt,tt,tt,tt,tt,tt,tt,tt,ff,ff,ff,ff,ff] rfl rfl (any_of HT_.out (by kernel_rfl)) (fun _ _ _ h => h) (Or.inr ⟨by rfl, rfl⟩) ?_ ?_
        rotate_left
        ·simp only [putL, i64_w, i32_w]; rfl
        refine pure_ (i := 27) (N := some 36) (v := undef) (a' := ?_) #[tt,tt,tt,tt,tt,tt,tt,tt,tt,tt,tt,tt,tt,tt,tt,tt,tt,tt,tt,tt,tt,tt,tt,tt,tt,tt,tt,tt,ff,ff,ff,ff] rfl rfl (any_of HT_.out (by kernel_rfl)) (fun _ _ _ h => h) (Or.inr ⟨by rfl, rfl⟩) ?_ ?_
        rotate_left
        ·simp only [putL, i64_w, i32_w]; rfl
        refine pure_ (i := 28) (N := some 37) (v := undef) (a' := ?_) #[tt,tt,tt,tt,tt,tt,tt,tt,tt,tt,tt,tt,tt,tt,tt,tt,tt,tt,tt,tt,tt,tt,tt,tt,tt,tt,tt,tt,tt,ff,ff,ff] rfl rfl (any_of HT_.out (by kernel_rfl)) (fun _ _ _ h => h) (Or.inr ⟨by rfl, rfl⟩) ?_ ?_
        rotate_left
        ·simp only [putL, i64_w, i32_w]; rfl
        refine pure_ (i := 29) (N := some 38) (v := undef) (a' := ?_) #[tt,tt,tt,tt,tt,tt,tt,tt,tt,tt,tt,tt,tt,tt,tt,tt,tt,tt,tt,tt,tt,tt,tt,tt,tt,tt,tt,tt,tt,tt,ff,ff] rfl rfl (any_of HT_.out (by kernel_rfl)) (fun _ _ _ h => h) (Or.inr ⟨by rfl, rfl⟩) ?_ ?_
        rotate_left
        ·simp only [putL, i64_w, i32_w]; rfl
        refine pure_ (i := 30) (N := some 39) (v := ?_) (a' := ?_) #[tt,tt,tt,tt,tt,tt,tt,tt,tt,tt,tt,tt,tt,tt,tt,tt,tt,tt,tt,tt,tt,tt,tt,tt,tt,tt,tt,tt,tt,tt,tt,ff] rfl rfl (any_of HT_.out (by kernel_rfl)) (fun _ _ _ h => h) (Or.inl ⟨by rfl, ?_⟩) ?_ ?_
        rotate_left
        ·intro w'; go_simp; with_reducible rfl
        rotate_left
        ·simp only [putL, i64_w, i32_w]; rfl
        refine pure_ (i := 31) (N := some 40) (v := ?_) (a' := ?_) #[tt,tt,tt,tt,tt,tt,tt,tt,tt,tt,tt,tt,tt,tt,tt,tt,tt,tt,tt,tt,tt,tt,tt,tt,tt,tt,tt,tt,tt,tt,tt,tt] rfl rfl (any_of HT_.out (by kernel_rfl)) (fun _ _ _ h => h) (Or.inl ⟨by rfl, ?_⟩) ?_ ?_
        rotate_left
        ·intro w'; go_simp; with_reducible rfl
        rotate_left
        ·simp only [putL, i64_w, i32_w]; rfl
        refine done_ (done_of HT_.out (by kernel_rfl)) ?_
        obtain ⟨hcz54_0, hcz54_1, hcz54_2, hcz54_3, hcz54_4⟩ := cs5 BK223; obtain ⟨hfz54_0, hfz54_1, hfz54_2, hfz54_3, hfz54_4⟩ := fs5 BK223; have hnb55 := NB221_210.out; have hnc55 := NB210_221.out; have hnb56 := NB221_212.out; have hnc56 := NB212_221.out; obtain ⟨hcz57_0, hcz57_1, hcz57_2, hcz57_3, hcz57_4⟩ := cs5 BK221; obtain ⟨hfz57_0, hfz57_1, hfz57_2, hfz57_3, hfz57_4⟩ := fs5 BK221
        go_wp2
        go_meet
        case rel => exact ⟨_, (!true), (a1_1), (a1_3), (t216), (t217), (t218), (.slice Ao21 t218.length co21), (by first | rfl | (simp; done) | (simp [*]; done)), H', ⟨by first | omega | exact Nat.le_refl _⟩, ⟨by (with_reducible repeat (first | apply Kd.R_alloc | apply Kd.R_drewN | apply Kd.R_drew)); exact Kd.R_mono (Kd.R_far (p := ⟨gb221, 1, none⟩) (Kd.R_far (p := ⟨gb221, 0, none⟩) (Kd.R_types HO220.out BK221.out (by decide)) (fun _ hk => hk.2) (.int .i64 a1_1)) (fun _ hk => hk.2) (.int .i64 a1_3)) (fun _ hk => trivial)⟩, ⟨by (with_reducible repeat first | refine bkN ?_ _ | refine bkD ?_ | refine bkA ?_ _ | refine blk_far ?_ NB210_221.out _); exact BK210.out⟩, ⟨by (with_reducible repeat first | refine bkN ?_ _ | refine bkD ?_ | refine bkA ?_ _ | refine blk_far ?_ NB211_221.out _); exact BK211.out⟩, ⟨by (with_reducible repeat first | refine bkN ?_ _ | refine bkD ?_ | refine bkA ?_ _ | refine blk_far ?_ NB212_221.out _); exact BK212.out⟩, ⟨by (with_reducible repeat first | refine bkN ?_ _ | refine bkD ?_ | refine bkA ?_ _); refine blk_put (cs := #[.int .i64 a1_1, .int .i64 t215, .int .i64 t216, .int .i64 t217, .slice Ao21 t218.length co21]) ?_ 1 _ rfl; (with_reducible repeat first | refine bkN ?_ _ | refine bkD ?_ | refine bkA ?_ _); refine blk_put (cs := #[.int .i64 t214, .int .i64 t215, .int .i64 t216, .int .i64 t217, .slice Ao21 t218.length co21]) ?_ 0 _ rfl; (with_reducible repeat first | refine bkN ?_ _ | refine bkD ?_ | refine bkA ?_ _); exact BK221.out⟩, ⟨by repeat (first | (with_reducible first | exact HB.out | apply below_alloc | apply pw_below_drewN | apply below_drew1 | refine below_set ?_ GE210.out | refine below_set ?_ GE211.out | refine below_set ?_ GE212.out | refine below_set ?_ GE221.out | refine below_set ?_ GE223.out) | exact HB.out)⟩⟩
       ·rw [if_neg c40] at H
        have c40b0 : (t215 == (-1)) = false := beq_eq_false_iff_ne.mpr c40
        have c40b1 : (t215 != (-1)) = true := bne_iff_ne.mpr c40
        by_cases c58 : t215 = a1_3
        ·rw [if_pos c58] at H
         have c58b0 : (t215 == a1_3) = true := beq_iff_eq.mpr c58
         have c58b1 : (t215 != a1_3) = false := bne_eq_false_iff_eq.mpr c58
         clear c58; have H' := Aside0.mk H
         clear H; have hnb59 := NB211_210.out; have hnc59 := NB210_211.out; have hnb60 := NB211_212.out; have hnc60 := NB212_211.out; have hnb61 := NB211_221.out; have hnc61 := NB221_211.out; obtain ⟨hcz62_0, hcz62_1, hcz62_2, hcz62_3, hcz62_4⟩ := cs5 BK211; obtain ⟨hfz62_0, hfz62_1, hfz62_2, hfz62_3, hfz62_4⟩ := fs5 BK211
         go_wp2_with (first | ((with_reducible refine gate_callee (f := 101) rfl ?_); refine goesL_ (some 14) rfl rfl Try.func101 (by kernel_rfl) rfl #[.agg #[.int .i64 a1_0, .int .i64 a1_1, .int .i64 a1_2, .int .i64 a1_3, .string a1_4]] rfl (by (try simp only [List.map_toArray, List.map_cons, List.map_nil]); first | done | rfl | (simp only [List.length_drop, List.length_take]; rfl)) ?_; (with_reducible refine (impl_RecOk.calls a1_0 a1_1 a1_2 a1_3 a1_4 true _ A22.out).mono ?_); rintro e w63 ⟨rfl, hb⟩; refine ⟨_, rfl, ?_⟩; have n0_ := Aside0.mk (Kd.R_below (by (with_reducible repeat (first | apply Kd.R_alloc | apply Kd.R_drewN | apply Kd.R_drew)); exact (Kd.R_mono (Kd.R_far (p := ⟨gb221, 4, none⟩) (Kd.R_far (p := ⟨gb221, 3, none⟩) (Kd.R_far (p := ⟨gb221, 2, none⟩) (Kd.R_far (p := ⟨gb221, 1, none⟩) (Kd.R_far (p := ⟨gb221, 0, none⟩) (Kd.R_types HO220.out BK221.out (by decide)) (fun _ hk => hk.2) (.int .i64 t214)) (fun _ hk => hk.2) (.int .i64 t215)) (fun _ hk => hk.2) (.int .i64 t216)) (fun _ hk => hk.2) (.int .i64 t217)) (fun _ hk => hk.2) (.slice Ao21 t218.length co21)) (fun _ h_ => h_.1))) hb); have n1_ := bf BK210 hb; have n2_ := bf BK211 hb; have n3_ := bf BK212 hb; have n4_ := bp #[.int .i64 t214, .int .i64 t215, .int .i64 t216, .int .i64 t217, .slice Ao21 t218.length co21] BK221 hb; have n5_ := Aside0.mk (below_step (be HB) hb); clear HO220 BK210 BK211 BK212 BK221 HB; have HO220 := n0_; have BK210 := n1_; have BK211 := n2_; have BK212 := n3_; have BK221 := n4_; have HB := n5_; clear n0_ n1_ n2_ n3_ n4_ n5_; (try clear hb); (try clear hb2); (try clear hk); (try clear hi); obtain ⟨hcz64_0, hcz64_1, hcz64_2, hcz64_3, hcz64_4⟩ := cs5 BK211; obtain ⟨hfz64_0, hfz64_1, hfz64_2, hfz64_3, hfz64_4⟩ := fs5 BK211) | ((with_reducible refine gate_dst (N := 3) rfl ?_); refine box_event ?hg (N := 3) ?hd (cs := #[.int .i64 a1_0, .int .i64 a1_1, .int .i64 a1_2, .int .i64 a1_3, .string a1_4]) (t := 44) ?hr ?_; (case hd => rfl); (case hg => rfl); (case hr => first | (go_simp; done) | (go_simp; rfl)); intro gb223 hg w65 hbox hb; have n5_ := Aside0.mk (below_step (be HB) hb); have BK223 := Aside0.mk (hbox); have GW223 := bs HB hg; have GE223 := bs HB hg; have NB210_223 := bl BK210 hg; have NB223_210 := bg BK210 hg; have NB211_223 := bl BK211 hg; have NB223_211 := bg BK211 hg; have NB212_223 := bl BK212 hg; have NB223_212 := bg BK212 hg; have NB221_223 := bl BK221 hg; have NB223_221 := bg BK221 hg; replace HO220 := Aside0.mk (Kd.R_below (rr HO220) hb); replace BK210 := bq BK210 hb; replace BK211 := bq BK211 hb; replace BK212 := bq BK212 hb; replace BK221 := bq BK221 hb; clear HB; have HB := n5_; clear n5_; clear hb hbox hg; have hnb66 := NB223_210.out; have hnc66 := NB210_223.out; have hnb67 := NB223_211.out; have hnc67 := NB211_223.out; have hnb68 := NB223_212.out; have hnc68 := NB212_223.out; have hnb69 := NB223_221.out; have hnc69 := NB221_223.out; obtain ⟨hcz70_0, hcz70_1, hcz70_2, hcz70_3, hcz70_4⟩ := cs5 BK223; obtain ⟨hfz70_0, hfz70_1, hfz70_2, hfz70_3, hfz70_4⟩ := fs5 BK223) | (go_at_call 102; go_in))
         have n0_ := Aside0.mk (Kd.R_drew HO220.out)
         have n1_ := Aside0.mk (blk_drew BK210.out)
         have n2_ := Aside0.mk (blk_drew BK211.out)
         have n3_ := Aside0.mk (blk_drew BK212.out)
         have n4_ := Aside0.mk (blk_drew BK221.out)
         have n5_ := Aside0.mk (blk_drew BK223.out)
         have n6_ := Aside0.mk (below_drew1 HB.out)
         clear HO220 BK210 BK211 BK212 BK221 BK223 HB; have HO220 := n0_; have BK210 := n1_; have BK211 := n2_; have BK212 := n3_; have BK221 := n4_; have BK223 := n5_; have HB := n6_; clear n0_ n1_ n2_ n3_ n4_ n5_ n6_; refine start_ (n := 32) (S := fun w' => w'.cell? ⟨gb223, 0, none⟩ = some (.int .i64 a1_0) ∧ w'.cell? ⟨gb223, 1, none⟩ = some (.int .i64 a1_1) ∧ w'.cell? ⟨gb223, 2, none⟩ = some (.int .i64 a1_2) ∧ w'.cell? ⟨gb223, 3, none⟩ = some (.int .i64 a1_3) ∧ w'.cell? ⟨gb223, 4, none⟩ = some (.string a1_4) ∧ w'.cell? ⟨gb221, 0, none⟩ = some (.int .i64 t214) ∧ w'.cell? ⟨gb221, 1, none⟩ = some (.int .i64 t215) ∧ w'.cell? ⟨gb221, 2, none⟩ = some (.int .i64 t216) ∧ w'.cell? ⟨gb221, 3, none⟩ = some (.int .i64 t217) ∧ w'.cell? ⟨gb221, 4, none⟩ = some (.slice Ao21 t218.length co21)) (ds := []) #[ff,ff,ff,ff,ff,ff,ff,ff,ff,ff,ff,ff,ff,ff,ff,ff,ff,ff,ff,ff,ff,ff,ff,ff,ff,ff,ff,ff,ff,ff,ff,ff] (by kernel_rfl) rfl rfl ⟨bc BK223 0, bc BK223 1, bc BK223 2, bc BK223 3, bc BK223 4, bc BK221 0, bc BK221 1, bc BK221 2, bc BK221 3, bc BK221 4⟩ (fun hHeld => ?_); refine with_tabW impl_WalStep.tab1004 impl_WalStep.bits1004 (fun HT_ HW_ => ?_)
         generalize w65.drew = w71 at HO220 BK210 BK211 BK212 BK221 BK223 HB hHeld ⊢
         refine pure_ (i := 0) (N := some 9) (v := ?_) (a' := ?_) #[tt,ff,ff,ff,ff,ff,ff,ff,ff,ff,ff,ff,ff,ff,ff,ff,ff,ff,ff,ff,ff,ff,ff,ff,ff,ff,ff,ff,ff,ff,ff,ff] rfl rfl (any_of HT_.out (by kernel_rfl)) (fun _ _ _ h => h) (Or.inl ⟨by rfl, ?_⟩) ?_ ?_
         rotate_left
         ·intro w'; go_simp; with_reducible rfl
         rotate_left
         ·simp only [putL, i64_w, i32_w]; rfl
         refine pure_ (i := 2) (N := some 11) (v := ?_) (a' := ?_) #[tt,ff,tt,ff,ff,ff,ff,ff,ff,ff,ff,ff,ff,ff,ff,ff,ff,ff,ff,ff,ff,ff,ff,ff,ff,ff,ff,ff,ff,ff,ff,ff] rfl rfl (any_of HT_.out (by kernel_rfl)) (fun _ _ _ h => h) (Or.inl ⟨by rfl, ?_⟩) ?_ ?_
         rotate_left
         ·intro w'; go_simp; with_reducible rfl
         rotate_left
         ·simp only [putL, i64_w, i32_w]; rfl
         refine pure_ (i := 3) (N := some 12) (v := ?_) (a' := ?_) #[tt,ff,tt,tt,ff,ff,ff,ff,ff,ff,ff,ff,ff,ff,ff,ff,ff,ff,ff,ff,ff,ff,ff,ff,ff,ff,ff,ff,ff,ff,ff,ff] rfl rfl (any_of HT_.out (by kernel_rfl)) (fun _ _ _ h => h) (Or.inl ⟨by rfl, ?_⟩) ?_ ?_
         rotate_left
         ·intro w'; go_simp; with_reducible rfl
         rotate_left
         ·simp only [putL, i64_w, i32_w]; rfl
         refine pure_ (i := 4) (N := some 13) (v := ?_) (a' := ?_) #[tt,ff,tt,tt,tt,ff,ff,ff,ff,ff,ff,ff,ff,ff,ff,ff,ff,ff,ff,ff,ff,ff,ff,ff,ff,ff,ff,ff,ff,ff,ff,ff] rfl rfl (any_of HT_.out (by kernel_rfl)) (fun _ _ _ h => h) (Or.inl ⟨by rfl, ?_⟩) ?_ ?_
         rotate_left
         ·intro w'; go_simp; with_reducible rfl
         rotate_left
         ·simp only [putL, i64_w, i32_w]; rfl
         refine take_ (i := 1) (N := some 10) (v := ?_) (a' := ?_) #[tt,tt,tt,tt,tt,ff,ff,ff,ff,ff,ff,ff,ff,ff,ff,ff,ff,ff,ff,ff,ff,ff,ff,ff,ff,ff,ff,ff,ff,ff,ff,ff] rfl rfl (take_ofW HT_.out HW_.out (by kernel_rfl)) (fun _ _ _ h => h) (Or.inl ⟨by rfl, ?_⟩) hHeld ?_ ?_
         rotate_left
         ·rintro w' ⟨s0, s1, s2, s3, s4, s5, s6, s7, s8, s9⟩
          go_simp; with_reducible rfl
         rotate_left
         ·simp only [putL, i64_w, i32_w]; rfl
         refine take_ (i := 5) (N := some 14) (v := ?_) (a' := ?_) #[tt,tt,tt,tt,tt,tt,ff,ff,ff,ff,ff,ff,ff,ff,ff,ff,ff,ff,ff,ff,ff,ff,ff,ff,ff,ff,ff,ff,ff,ff,ff,ff] rfl rfl (take_ofW HT_.out HW_.out (by kernel_rfl)) (fun _ _ _ h => h) (Or.inl ⟨by rfl, ?_⟩) hHeld ?_ ?_
         rotate_left
         ·rintro w' ⟨s0, s1, s2, s3, s4, s5, s6, s7, s8, s9⟩
          go_simp; with_reducible rfl
         rotate_left
         ·simp only [putL, i64_w, i32_w]; rfl
         refine pure_ (i := 6) (N := some 15) (v := ?_) (a' := ?_) #[tt,tt,tt,tt,tt,tt,tt,ff,ff,ff,ff,ff,ff,ff,ff,ff,ff,ff,ff,ff,ff,ff,ff,ff,ff,ff,ff,ff,ff,ff,ff,ff] rfl rfl (any_of HT_.out (by kernel_rfl)) (fun _ _ _ h => h) (Or.inl ⟨by rfl, ?_⟩) ?_ ?_
         rotate_left
         ·intro w'; go_simp; with_reducible rfl
         rotate_left
         ·simp only [putL, i64_w, i32_w]; rfl
         refine pure_ (i := 7) (N := some 16) (v := ?_) (a' := ?_) #[tt,tt,tt,tt,tt,tt,tt,tt,ff,ff,ff,ff,ff,ff,ff,ff,ff,ff,ff,ff,ff,ff,ff,ff,ff,ff,ff,ff,ff,ff,ff,ff] rfl rfl (any_of HT_.out (by kernel_rfl)) (fun _ _ _ h => h) (Or.inl ⟨by rfl, ?_⟩) ?_ ?_
         rotate_left
         ·intro w'; go_simp; with_reducible rfl
         rotate_left
         ·simp only [putL, i64_w, i32_w]; rfl
         refine pure_ (i := 8) (N := some 17) (v := ?_) (a' := ?_) #[tt,tt,tt,tt,tt,tt,tt,tt,tt,ff,ff,ff,ff,ff,ff,ff,ff,ff,ff,ff,ff,ff,ff,ff,ff,ff,ff,ff,ff,ff,ff,ff] rfl rfl (any_of HT_.out (by kernel_rfl)) (fun _ _ _ h => h) (Or.inl ⟨by rfl, ?_⟩) ?_ ?_
         rotate_left
         ·intro w'; go_simp; with_reducible rfl
         rotate_left
         ·simp only [putL, i64_w, i32_w]; rfl
         refine pure_ (i := 10) (N := some 19) (v := ?_) (a' := ?_) #[tt,tt,tt,tt,tt,tt,tt,tt,tt,ff,tt,ff,ff,ff,ff,ff,ff,ff,ff,ff,ff,ff,ff,ff,ff,ff,ff,ff,ff,ff,ff,ff] rfl rfl (any_of HT_.out (by kernel_rfl)) (fun _ _ _ h => h) (Or.inl ⟨by rfl, ?_⟩) ?_ ?_
         rotate_left
         ·intro w'; go_simp; with_reducible rfl
         rotate_left
         ·simp only [putL, i64_w, i32_w]; rfl
         refine pure_ (i := 11) (N := some 20) (v := ?_) (a' := ?_) #[tt,tt,tt,tt,tt,tt,tt,tt,tt,ff,tt,tt,ff,ff,ff,ff,ff,ff,ff,ff,ff,ff,ff,ff,ff,ff,ff,ff,ff,ff,ff,ff] rfl rfl (any_of HT_.out (by kernel_rfl)) (fun _ _ _ h => h) (Or.inl ⟨by rfl, ?_⟩) ?_ ?_
         rotate_left
         ·intro w'; go_simp; with_reducible rfl
         rotate_left
         ·simp only [putL, i64_w, i32_w]; rfl
         refine pure_ (i := 12) (N := some 21) (v := ?_) (a' := ?_) #[tt,tt,tt,tt,tt,tt,tt,tt,tt,ff,tt,tt,tt,ff,ff,ff,ff,ff,ff,ff,ff,ff,ff,ff,ff,ff,ff,ff,ff,ff,ff,ff] rfl rfl (any_of HT_.out (by kernel_rfl)) (fun _ _ _ h => h) (Or.inl ⟨by rfl, ?_⟩) ?_ ?_
         rotate_left
         ·intro w'; go_simp; with_reducible rfl
         rotate_left
         ·simp only [putL, i64_w, i32_w]; rfl
         refine take_ (i := 9) (N := some 18) (v := ?_) (a' := ?_) #[tt,tt,tt,tt,tt,tt,tt,tt,tt,tt,tt,tt,tt,ff,ff,ff,ff,ff,ff,ff,ff,ff,ff,ff,ff,ff,ff,ff,ff,ff,ff,ff] rfl rfl (take_ofW HT_.out HW_.out (by kernel_rfl)) (fun _ _ _ h => h) (Or.inl ⟨by rfl, ?_⟩) hHeld ?_ ?_
         rotate_left
         ·rintro w' ⟨s0, s1, s2, s3, s4, s5, s6, s7, s8, s9⟩
          go_simp; with_reducible rfl
         rotate_left
         ·simp only [putL, i64_w, i32_w]; rfl
         refine take_ (i := 13) (N := some 22) (v := ?_) (a' := ?_) #[tt,tt,tt,tt,tt,tt,tt,tt,tt,tt,tt,tt,tt,tt,ff,ff,ff,ff,ff,ff,ff,ff,ff,ff,ff,ff,ff,ff,ff,ff,ff,ff] rfl rfl (take_ofW HT_.out HW_.out (by kernel_rfl)) (fun _ _ _ h => h) (Or.inl ⟨by rfl, ?_⟩) hHeld ?_ ?_
         rotate_left
         ·rintro w' ⟨s0, s1, s2, s3, s4, s5, s6, s7, s8, s9⟩
          go_simp; with_reducible rfl
         rotate_left
         ·simp only [putL, i64_w, i32_w]; rfl
         refine pure_ (i := 14) (N := some 23) (v := ?_) (a' := ?_) #[tt,tt,tt,tt,tt,tt,tt,tt,tt,tt,tt,tt,tt,tt,tt,ff,ff,ff,ff,ff,ff,ff,ff,ff,ff,ff,ff,ff,ff,ff,ff,ff] rfl rfl (any_of HT_.out (by kernel_rfl)) (fun _ _ _ h => h) (Or.inl ⟨by rfl, ?_⟩) ?_ ?_
         rotate_left
         ·intro w'; go_simp; with_reducible rfl
         rotate_left
         ·simp only [putL, i64_w, i32_w]; rfl
         refine pure_ (i := 15) (N := some 24) (v := ?_) (a' := ?_) #[tt,tt,tt,tt,tt,tt,tt,tt,tt,tt,tt,tt,tt,tt,tt,tt,ff,ff,ff,ff,ff,ff,ff,ff,ff,ff,ff,ff,ff,ff,ff,ff] rfl rfl (any_of HT_.out (by kernel_rfl)) (fun _ _ _ h => h) (Or.inl ⟨by rfl, ?_⟩) ?_ ?_
         rotate_left
         ·intro w'; go_simp; with_reducible rfl
         rotate_left
         ·simp only [putL, i64_w, i32_w]; rfl
         refine pure_ (i := 16) (N := some 25) (v := ?_) (a' := ?_) #[tt,tt,tt,tt,tt,tt,tt,tt,tt,tt,tt,tt,tt,tt,tt,tt,tt,ff,ff,ff,ff,ff,ff,ff,ff,ff,ff,ff,ff,ff,ff,ff] rfl rfl (any_of HT_.out (by kernel_rfl)) (fun _ _ _ h => h) (Or.inl ⟨by rfl, ?_⟩) ?_ ?_
         rotate_left
         ·intro w'; go_simp; with_reducible rfl
         rotate_left
         ·simp only [putL, i64_w, i32_w]; rfl
         refine pure_ (i := 17) (N := some 26) (v := ?_) (a' := ?_) #[tt,tt,tt,tt,tt,tt,tt,tt,tt,tt,tt,tt,tt,tt,tt,tt,tt,tt,ff,ff,ff,ff,ff,ff,ff,ff,ff,ff,ff,ff,ff,ff] rfl rfl (any_of HT_.out (by kernel_rfl)) (fun _ _ _ h => h) (Or.inl ⟨by rfl, ?_⟩) ?_ ?_
         rotate_left
         ·intro w'; go_simp; with_reducible rfl
         rotate_left
         ·simp only [putL, i64_w, i32_w]; rfl
         refine pure_ (i := 18) (N := some 27) (v := ?_) (a' := ?_) #[tt,tt,tt,tt,tt,tt,tt,tt,tt,tt,tt,tt,tt,tt,tt,tt,tt,tt,tt,ff,ff,ff,ff,ff,ff,ff,ff,ff,ff,ff,ff,ff] rfl rfl (any_of HT_.out (by kernel_rfl)) (fun _ _ _ h => h) (Or.inl ⟨by rfl, ?_⟩) ?_ ?_
         rotate_left
         ·intro w'; go_simp; with_reducible rfl
         rotate_left
         ·simp only [putL, i64_w, i32_w]; rfl
         refine take_ (i := 19) (N := some 28) (v := ?_) (a' := ?_) #[tt,tt,tt,tt,tt,tt,tt,tt,tt,tt,tt,tt,tt,tt,tt,tt,tt,tt,tt,tt,ff,ff,ff,ff,ff,ff,ff,ff,ff,ff,ff,ff] rfl rfl (take_ofW HT_.out HW_.out (by kernel_rfl)) (fun _ _ _ h => h) (Or.inl ⟨by rfl, ?_⟩) hHeld ?_ ?_
         rotate_left
         ·rintro w' ⟨s0, s1, s2, s3, s4, s5, s6, s7, s8, s9⟩
          go_simp; with_reducible rfl
         rotate_left
         ·simp only [putL, i64_w, i32_w]; rfl
         refine pure_ (i := 20) (N := some 29) (v := ?_) (a' := ?_) #[tt,tt,tt,tt,tt,tt,tt,tt,tt,tt,tt,tt,tt,tt,tt,tt,tt,tt,tt,tt,tt,ff,ff,ff,ff,ff,ff,ff,ff,ff,ff,ff] rfl rfl (any_of HT_.out (by kernel_rfl)) (fun _ _ _ h => h) (Or.inl ⟨by rfl, ?_⟩) ?_ ?_
         rotate_left
         ·intro w'; go_simp; with_reducible rfl
         rotate_left
         ·simp only [putL, i64_w, i32_w]; rfl
         refine pure_ (i := 21) (N := some 30) (v := ?_) (a' := ?_) #[tt,tt,tt,tt,tt,tt,tt,tt,tt,tt,tt,tt,tt,tt,tt,tt,tt,tt,tt,tt,tt,tt,ff,ff,ff,ff,ff,ff,ff,ff,ff,ff] rfl rfl (any_of HT_.out (by kernel_rfl)) (fun _ _ _ h => h) (Or.inl ⟨by rfl, ?_⟩) ?_ ?_
         rotate_left
         ·intro w'; go_simp; with_reducible rfl
         rotate_left
         ·simp only [putL, i64_w, i32_w]; rfl
         refine pure_ (i := 22) (N := some 31) (v := ?_) (a' := ?_) #[tt,tt,tt,tt,tt,tt,tt,tt,tt,tt,tt,tt,tt,tt,tt,tt,tt,tt,tt,tt,tt,tt,tt,ff,ff,ff,ff,ff,ff,ff,ff,ff] rfl rfl (any_of HT_.out (by kernel_rfl)) (fun _ _ _ h => h) (Or.inl ⟨by rfl, ?_⟩) ?_ ?_
         rotate_left
         ·intro w'; go_simp; with_reducible rfl
         rotate_left
         ·simp only [putL, i64_w, i32_w]; rfl
         refine pure_ (i := 23) (N := some 32) (v := ?_) (a' := ?_) #[tt,tt,tt,tt,tt,tt,tt,tt,tt,tt,tt,tt,tt,tt,tt,tt,tt,tt,tt,tt,tt,tt,tt,tt,ff,ff,ff,ff,ff,ff,ff,ff] rfl rfl (any_of HT_.out (by kernel_rfl)) (fun _ _ _ h => h) (Or.inl ⟨by rfl, ?_⟩) ?_ ?_
         rotate_left
         ·intro w'; go_simp; with_reducible rfl
         rotate_left
         ·simp only [putL, i64_w, i32_w]; rfl
         refine pure_ (i := 24) (N := some 33) (v := ?_) (a' := ?_) #[tt,tt,tt,tt,tt,tt,tt,tt,tt,tt,tt,tt,tt,tt,tt,tt,tt,tt,tt,tt,tt,tt,tt,tt,tt,ff,ff,ff,ff,ff,ff,ff] rfl rfl (any_of HT_.out (by kernel_rfl)) (fun _ _ _ h => h) (Or.inl ⟨by rfl, ?_⟩) ?_ ?_
         rotate_left
         ·intro w'; go_simp; with_reducible rfl
         rotate_left
         ·simp only [putL, i64_w, i32_w]; rfl
         refine pure_ (i := 25) (N := some 34) (v := ?_) (a' := ?_) #[tt,tt,tt,tt,tt,tt,tt,tt,tt,tt,tt,tt,tt,tt,tt,tt,tt,tt,tt,tt,tt,tt,tt,tt,tt,tt,ff,ff,ff,ff,ff,ff] rfl rfl (any_of HT_.out (by kernel_rfl)) (fun _ _ _ h => h) (Or.inl ⟨by rfl, ?_⟩) ?_ ?_
         rotate_left
         ·intro w'; go_simp; with_reducible rfl
         rotate_left
         ·simp only [putL, i64_w, i32_w]; rfl
         refine pure_ (i := 27) (N := some 36) (v := ?_) (a' := ?_) #[tt,tt,tt,tt,tt,tt,tt,tt,tt,tt,tt,tt,tt,tt,tt,tt,tt,tt,tt,tt,tt,tt,tt,tt,tt,tt,ff,tt,ff,ff,ff,ff] rfl rfl (any_of HT_.out (by kernel_rfl)) (fun _ _ _ h => h) (Or.inl ⟨by rfl, ?_⟩) ?_ ?_
         rotate_left
         ·intro w'; go_simp; with_reducible rfl
         rotate_left
         ·simp only [putL, i64_w, i32_w]; rfl
         refine take_ (i := 26) (N := some 35) (v := ?_) (a' := ?_) #[tt,tt,tt,tt,tt,tt,tt,tt,tt,tt,tt,tt,tt,tt,tt,tt,tt,tt,tt,tt,tt,tt,tt,tt,tt,tt,tt,tt,ff,ff,ff,ff] rfl rfl (take_ofW HT_.out HW_.out (by kernel_rfl)) (fun _ _ _ h => h) (Or.inl ⟨by rfl, ?_⟩) hHeld ?_ ?_
         rotate_left
         ·rintro w' ⟨s0, s1, s2, s3, s4, s5, s6, s7, s8, s9⟩
          go_simp; with_reducible rfl
         rotate_left
         ·simp only [putL, i64_w, i32_w]; rfl
         refine take_ (i := 28) (N := some 37) (v := ?_) (a' := ?_) #[tt,tt,tt,tt,tt,tt,tt,tt,tt,tt,tt,tt,tt,tt,tt,tt,tt,tt,tt,tt,tt,tt,tt,tt,tt,tt,tt,tt,tt,ff,ff,ff] rfl rfl (take_ofW HT_.out HW_.out (by kernel_rfl)) (fun _ _ _ h => h) (Or.inl ⟨by rfl, ?_⟩) hHeld ?_ ?_
         rotate_left
         ·rintro w' ⟨s0, s1, s2, s3, s4, s5, s6, s7, s8, s9⟩
          go_simp; with_reducible rfl
         rotate_left
         ·simp only [putL, i64_w, i32_w]; rfl
         refine pure_ (i := 29) (N := some 38) (v := ?_) (a' := ?_) #[tt,tt,tt,tt,tt,tt,tt,tt,tt,tt,tt,tt,tt,tt,tt,tt,tt,tt,tt,tt,tt,tt,tt,tt,tt,tt,tt,tt,tt,tt,ff,ff] rfl rfl (any_of HT_.out (by kernel_rfl)) (fun _ _ _ h => h) (Or.inl ⟨by rfl, ?_⟩) ?_ ?_
         rotate_left
         ·intro w'; go_simp; with_reducible rfl
         rotate_left
         ·simp only [putL, i64_w, i32_w]; rfl
         refine pure_ (i := 30) (N := some 39) (v := ?_) (a' := ?_) #[tt,tt,tt,tt,tt,tt,tt,tt,tt,tt,tt,tt,tt,tt,tt,tt,tt,tt,tt,tt,tt,tt,tt,tt,tt,tt,tt,tt,tt,tt,tt,ff] rfl rfl (any_of HT_.out (by kernel_rfl)) (fun _ _ _ h => h) (Or.inl ⟨by rfl, ?_⟩) ?_ ?_
         rotate_left
         ·intro w'; go_simp; with_reducible rfl
         rotate_left
         ·simp only [putL, i64_w, i32_w]; rfl
         refine pure_ (i := 31) (N := some 40) (v := ?_) (a' := ?_) #[tt,tt,tt,tt,tt,tt,tt,tt,tt,tt,tt,tt,tt,tt,tt,tt,tt,tt,tt,tt,tt,tt,tt,tt,tt,tt,tt,tt,tt,tt,tt,tt] rfl rfl (any_of HT_.out (by kernel_rfl)) (fun _ _ _ h => h) (Or.inl ⟨by rfl, ?_⟩) ?_ ?_
         rotate_left
         ·intro w'; go_simp; with_reducible rfl
         rotate_left
         ·simp only [putL, i64_w, i32_w]; rfl
         refine done_ (done_of HT_.out (by kernel_rfl)) ?_
         obtain ⟨hcz72_0, hcz72_1, hcz72_2, hcz72_3, hcz72_4⟩ := cs5 BK223; obtain ⟨hfz72_0, hfz72_1, hfz72_2, hfz72_3, hfz72_4⟩ := fs5 BK223; have hnb73 := NB221_210.out; have hnc73 := NB210_221.out; have hnb74 := NB221_212.out; have hnc74 := NB212_221.out; obtain ⟨hcz75_0, hcz75_1, hcz75_2, hcz75_3, hcz75_4⟩ := cs5 BK221; obtain ⟨hfz75_0, hfz75_1, hfz75_2, hfz75_3, hfz75_4⟩ := fs5 BK221
         go_wp2
         go_meet
         case rel => exact ⟨_, (!true), (a1_1), (a1_3), (t216), (t217), (t218), (.slice Ao21 t218.length co21), (by first | rfl | (simp; done) | (simp [*]; done)), H', ⟨by first | omega | exact Nat.le_refl _⟩, ⟨by (with_reducible repeat (first | apply Kd.R_alloc | apply Kd.R_drewN | apply Kd.R_drew)); exact Kd.R_mono (Kd.R_far (p := ⟨gb221, 1, none⟩) (Kd.R_far (p := ⟨gb221, 0, none⟩) (Kd.R_types HO220.out BK221.out (by decide)) (fun _ hk => hk.2) (.int .i64 a1_1)) (fun _ hk => hk.2) (.int .i64 a1_3)) (fun _ hk => trivial)⟩, ⟨by (with_reducible repeat first | refine bkN ?_ _ | refine bkD ?_ | refine bkA ?_ _ | refine blk_far ?_ NB210_221.out _); exact BK210.out⟩, ⟨by (with_reducible repeat first | refine bkN ?_ _ | refine bkD ?_ | refine bkA ?_ _ | refine blk_far ?_ NB211_221.out _); exact BK211.out⟩, ⟨by (with_reducible repeat first | refine bkN ?_ _ | refine bkD ?_ | refine bkA ?_ _ | refine blk_far ?_ NB212_221.out _); exact BK212.out⟩, ⟨by (with_reducible repeat first | refine bkN ?_ _ | refine bkD ?_ | refine bkA ?_ _); refine blk_put (cs := #[.int .i64 a1_1, .int .i64 t215, .int .i64 t216, .int .i64 t217, .slice Ao21 t218.length co21]) ?_ 1 _ rfl; (with_reducible repeat first | refine bkN ?_ _ | refine bkD ?_ | refine bkA ?_ _); refine blk_put (cs := #[.int .i64 t214, .int .i64 t215, .int .i64 t216, .int .i64 t217, .slice Ao21 t218.length co21]) ?_ 0 _ rfl; (with_reducible repeat first | refine bkN ?_ _ | refine bkD ?_ | refine bkA ?_ _); exact BK221.out⟩, ⟨by repeat (first | (with_reducible first | exact HB.out | apply below_alloc | apply pw_below_drewN | apply below_drew1 | refine below_set ?_ GE210.out | refine below_set ?_ GE211.out | refine below_set ?_ GE212.out | refine below_set ?_ GE221.out | refine below_set ?_ GE223.out) | exact HB.out)⟩⟩
        ·rw [if_neg c58] at H
         have c58b0 : (t215 == a1_3) = false := beq_eq_false_iff_ne.mpr c58
         have c58b1 : (t215 != a1_3) = true := bne_iff_ne.mpr c58
         have H' := Aside0.mk H
         clear H; have hnb76 := NB211_210.out; have hnc76 := NB210_211.out; have hnb77 := NB211_212.out; have hnc77 := NB212_211.out; have hnb78 := NB211_221.out; have hnc78 := NB221_211.out; obtain ⟨hcz79_0, hcz79_1, hcz79_2, hcz79_3, hcz79_4⟩ := cs5 BK211; obtain ⟨hfz79_0, hfz79_1, hfz79_2, hfz79_3, hfz79_4⟩ := fs5 BK211
         go_wp2_with (first | ((with_reducible refine gate_callee (f := 101) rfl ?_); refine goesL_ (some 14) rfl rfl Try.func101 (by kernel_rfl) rfl #[.agg #[.int .i64 a1_0, .int .i64 a1_1, .int .i64 a1_2, .int .i64 a1_3, .string a1_4]] rfl (by (try simp only [List.map_toArray, List.map_cons, List.map_nil]); first | done | rfl | (simp only [List.length_drop, List.length_take]; rfl)) ?_; (with_reducible refine (impl_RecOk.calls a1_0 a1_1 a1_2 a1_3 a1_4 true _ A22.out).mono ?_); rintro e w80 ⟨rfl, hb⟩; refine ⟨_, rfl, ?_⟩; have n0_ := Aside0.mk (Kd.R_below (by (with_reducible repeat (first | apply Kd.R_alloc | apply Kd.R_drewN | apply Kd.R_drew)); exact (Kd.R_mono (Kd.R_far (p := ⟨gb221, 4, none⟩) (Kd.R_far (p := ⟨gb221, 3, none⟩) (Kd.R_far (p := ⟨gb221, 2, none⟩) (Kd.R_far (p := ⟨gb221, 1, none⟩) (Kd.R_far (p := ⟨gb221, 0, none⟩) (Kd.R_types HO220.out BK221.out (by decide)) (fun _ hk => hk.2) (.int .i64 t214)) (fun _ hk => hk.2) (.int .i64 t215)) (fun _ hk => hk.2) (.int .i64 t216)) (fun _ hk => hk.2) (.int .i64 t217)) (fun _ hk => hk.2) (.slice Ao21 t218.length co21)) (fun _ h_ => h_.1))) hb); have n1_ := bf BK210 hb; have n2_ := bf BK211 hb; have n3_ := bf BK212 hb; have n4_ := bp #[.int .i64 t214, .int .i64 t215, .int .i64 t216, .int .i64 t217, .slice Ao21 t218.length co21] BK221 hb; have n5_ := Aside0.mk (below_step (be HB) hb); clear HO220 BK210 BK211 BK212 BK221 HB; have HO220 := n0_; have BK210 := n1_; have BK211 := n2_; have BK212 := n3_; have BK221 := n4_; have HB := n5_; clear n0_ n1_ n2_ n3_ n4_ n5_; (try clear hb); (try clear hb2); (try clear hk); (try clear hi); obtain ⟨hcz81_0, hcz81_1, hcz81_2, hcz81_3, hcz81_4⟩ := cs5 BK211; obtain ⟨hfz81_0, hfz81_1, hfz81_2, hfz81_3, hfz81_4⟩ := fs5 BK211) | ((with_reducible refine gate_dst (N := 3) rfl ?_); refine box_event ?hg (N := 3) ?hd (cs := #[.int .i64 a1_0, .int .i64 a1_1, .int .i64 a1_2, .int .i64 a1_3, .string a1_4]) (t := 44) ?hr ?_; (case hd => rfl); (case hg => rfl); (case hr => first | (go_simp; done) | (go_simp; rfl)); intro gb223 hg w82 hbox hb; have n5_ := Aside0.mk (below_step (be HB) hb); have BK223 := Aside0.mk (hbox); have GW223 := bs HB hg; have GE223 := bs HB hg; have NB210_223 := bl BK210 hg; have NB223_210 := bg BK210 hg; have NB211_223 := bl BK211 hg; have NB223_211 := bg BK211 hg; have NB212_223 := bl BK212 hg; have NB223_212 := bg BK212 hg; have NB221_223 := bl BK221 hg; have NB223_221 := bg BK221 hg; replace HO220 := Aside0.mk (Kd.R_below (rr HO220) hb); replace BK210 := bq BK210 hb; replace BK211 := bq BK211 hb; replace BK212 := bq BK212 hb; replace BK221 := bq BK221 hb; clear HB; have HB := n5_; clear n5_; clear hb hbox hg; have hnb83 := NB223_210.out; have hnc83 := NB210_223.out; have hnb84 := NB223_211.out; have hnc84 := NB211_223.out; have hnb85 := NB223_212.out; have hnc85 := NB212_223.out; have hnb86 := NB223_221.out; have hnc86 := NB221_223.out; obtain ⟨hcz87_0, hcz87_1, hcz87_2, hcz87_3, hcz87_4⟩ := cs5 BK223; obtain ⟨hfz87_0, hfz87_1, hfz87_2, hfz87_3, hfz87_4⟩ := fs5 BK223) | (go_at_call 102; go_in))
         have n0_ := Aside0.mk (Kd.R_drew HO220.out)
         have n1_ := Aside0.mk (blk_drew BK210.out)
         have n2_ := Aside0.mk (blk_drew BK211.out)
         have n3_ := Aside0.mk (blk_drew BK212.out)
         have n4_ := Aside0.mk (blk_drew BK221.out)
         have n5_ := Aside0.mk (blk_drew BK223.out)
         have n6_ := Aside0.mk (below_drew1 HB.out)
         clear HO220 BK210 BK211 BK212 BK221 BK223 HB; have HO220 := n0_; have BK210 := n1_; have BK211 := n2_; have BK212 := n3_; have BK221 := n4_; have BK223 := n5_; have HB := n6_; clear n0_ n1_ n2_ n3_ n4_ n5_ n6_; refine start_ (n := 32) (S := fun w' => w'.cell? ⟨gb223, 0, none⟩ = some (.int .i64 a1_0) ∧ w'.cell? ⟨gb223, 1, none⟩ = some (.int .i64 a1_1) ∧ w'.cell? ⟨gb223, 2, none⟩ = some (.int .i64 a1_2) ∧ w'.cell? ⟨gb223, 3, none⟩ = some (.int .i64 a1_3) ∧ w'.cell? ⟨gb223, 4, none⟩ = some (.string a1_4) ∧ w'.cell? ⟨gb221, 0, none⟩ = some (.int .i64 t214) ∧ w'.cell? ⟨gb221, 1, none⟩ = some (.int .i64 t215) ∧ w'.cell? ⟨gb221, 2, none⟩ = some (.int .i64 t216) ∧ w'.cell? ⟨gb221, 3, none⟩ = some (.int .i64 t217) ∧ w'.cell? ⟨gb221, 4, none⟩ = some (.slice Ao21 t218.length co21)) (ds := []) #[ff,ff,ff,ff,ff,ff,ff,ff,ff,ff,ff,ff,ff,ff,ff,ff,ff,ff,ff,ff,ff,ff,ff,ff,ff,ff,ff,ff,ff,ff,ff,ff] (by kernel_rfl) rfl rfl ⟨bc BK223 0, bc BK223 1, bc BK223 2, bc BK223 3, bc BK223 4, bc BK221 0, bc BK221 1, bc BK221 2, bc BK221 3, bc BK221 4⟩ (fun hHeld => ?_); refine with_tabW impl_WalStep.tab1004 impl_WalStep.bits1004 (fun HT_ HW_ => ?_)
         generalize w82.drew = w88 at HO220 BK210 BK211 BK212 BK221 BK223 HB hHeld ⊢
         refine pure_ (i := 0) (N := some 9) (v := ?_) (a' := ?_) #[tt,ff,ff,ff,ff,ff,ff,ff,ff,ff,ff,ff,ff,ff,ff,ff,ff,ff,ff,ff,ff,ff,ff,ff,ff,ff,ff,ff,ff,ff,ff,ff] rfl rfl (any_of HT_.out (by kernel_rfl)) (fun _ _ _ h => h) (Or.inl ⟨by rfl, ?_⟩) ?_ ?_
         rotate_left
         ·intro w'; go_simp; with_reducible rfl
         rotate_left
         ·simp only [putL, i64_w, i32_w]; rfl
         refine pure_ (i := 2) (N := some 11) (v := ?_) (a' := ?_) #[tt,ff,tt,ff,ff,ff,ff,ff,ff,ff,ff,ff,ff,ff,ff,ff,ff,ff,ff,ff,ff,ff,ff,ff,ff,ff,ff,ff,ff,ff,ff,ff] rfl rfl (any_of HT_.out (by kernel_rfl)) (fun _ _ _ h => h) (Or.inl ⟨by rfl, ?_⟩) ?_ ?_
         rotate_left
         ·intro w'; go_simp; with_reducible rfl
         rotate_left
         ·simp only [putL, i64_w, i32_w]; rfl
         refine pure_ (i := 3) (N := some 12) (v := ?_) (a' := ?_) #[tt,ff,tt,tt,ff,ff,ff,ff,ff,ff,ff,ff,ff,ff,ff,ff,ff,ff,ff,ff,ff,ff,ff,ff,ff,ff,ff,ff,ff,ff,ff,ff] rfl rfl (any_of HT_.out (by kernel_rfl)) (fun _ _ _ h => h) (Or.inl ⟨by rfl, ?_⟩) ?_ ?_
         rotate_left
         ·intro w'; go_simp; with_reducible rfl
         rotate_left
         ·simp only [putL, i64_w, i32_w]; rfl
         refine pure_ (i := 4) (N := some 13) (v := ?_) (a' := ?_) #[tt,ff,tt,tt,tt,ff,ff,ff,ff,ff,ff,ff,ff,ff,ff,ff,ff,ff,ff,ff,ff,ff,ff,ff,ff,ff,ff,ff,ff,ff,ff,ff] rfl rfl (any_of HT_.out (by kernel_rfl)) (fun _ _ _ h => h) (Or.inl ⟨by rfl, ?_⟩) ?_ ?_
         rotate_left
         ·intro w'; go_simp; with_reducible rfl
         rotate_left
         ·simp only [putL, i64_w, i32_w]; rfl
         refine take_ (i := 1) (N := some 10) (v := ?_) (a' := ?_) #[tt,tt,tt,tt,tt,ff,ff,ff,ff,ff,ff,ff,ff,ff,ff,ff,ff,ff,ff,ff,ff,ff,ff,ff,ff,ff,ff,ff,ff,ff,ff,ff] rfl rfl (take_ofW HT_.out HW_.out (by kernel_rfl)) (fun _ _ _ h => h) (Or.inl ⟨by rfl, ?_⟩) hHeld ?_ ?_
         rotate_left
         ·rintro w' ⟨s0, s1, s2, s3, s4, s5, s6, s7, s8, s9⟩
          go_simp; with_reducible rfl
         rotate_left
         ·simp only [putL, i64_w, i32_w]; rfl
         refine take_ (i := 5) (N := some 14) (v := ?_) (a' := ?_) #[tt,tt,tt,tt,tt,tt,ff,ff,ff,ff,ff,ff,ff,ff,ff,ff,ff,ff,ff,ff,ff,ff,ff,ff,ff,ff,ff,ff,ff,ff,ff,ff] rfl rfl (take_ofW HT_.out HW_.out (by kernel_rfl)) (fun _ _ _ h => h) (Or.inl ⟨by rfl, ?_⟩) hHeld ?_ ?_
         rotate_left
         ·rintro w' ⟨s0, s1, s2, s3, s4, s5, s6, s7, s8, s9⟩
          go_simp; with_reducible rfl
         rotate_left
         ·simp only [putL, i64_w, i32_w]; rfl
         refine pure_ (i := 6) (N := some 15) (v := ?_) (a' := ?_) #[tt,tt,tt,tt,tt,tt,tt,ff,ff,ff,ff,ff,ff,ff,ff,ff,ff,ff,ff,ff,ff,ff,ff,ff,ff,ff,ff,ff,ff,ff,ff,ff] rfl rfl (any_of HT_.out (by kernel_rfl)) (fun _ _ _ h => h) (Or.inl ⟨by rfl, ?_⟩) ?_ ?_
         rotate_left
         ·intro w'; go_simp; with_reducible rfl
         rotate_left
         ·simp only [putL, i64_w, i32_w]; rfl
         refine pure_ (i := 7) (N := some 16) (v := ?_) (a' := ?_) #[tt,tt,tt,tt,tt,tt,tt,tt,ff,ff,ff,ff,ff,ff,ff,ff,ff,ff,ff,ff,ff,ff,ff,ff,ff,ff,ff,ff,ff,ff,ff,ff] rfl rfl (any_of HT_.out (by kernel_rfl)) (fun _ _ _ h => h) (Or.inl ⟨by rfl, ?_⟩) ?_ ?_
         rotate_left
         ·intro w'; go_simp; with_reducible rfl
         rotate_left
         ·simp only [putL, i64_w, i32_w]; rfl
         refine pure_ (i := 8) (N := some 17) (v := ?_) (a' := ?_) #[tt,tt,tt,tt,tt,tt,tt,tt,tt,ff,ff,ff,ff,ff,ff,ff,ff,ff,ff,ff,ff,ff,ff,ff,ff,ff,ff,ff,ff,ff,ff,ff] rfl rfl (any_of HT_.out (by kernel_rfl)) (fun _ _ _ h => h) (Or.inl ⟨by rfl, ?_⟩) ?_ ?_
         rotate_left
         ·intro w'; go_simp; with_reducible rfl
         rotate_left
         ·simp only [putL, i64_w, i32_w]; rfl
         refine pure_ (i := 10) (N := some 19) (v := ?_) (a' := ?_) #[tt,tt,tt,tt,tt,tt,tt,tt,tt,ff,tt,ff,ff,ff,ff,ff,ff,ff,ff,ff,ff,ff,ff,ff,ff,ff,ff,ff,ff,ff,ff,ff] rfl rfl (any_of HT_.out (by kernel_rfl)) (fun _ _ _ h => h) (Or.inl ⟨by rfl, ?_⟩) ?_ ?_
         rotate_left
         ·intro w'; go_simp; with_reducible rfl
         rotate_left
         ·simp only [putL, i64_w, i32_w]; rfl
         refine pure_ (i := 11) (N := some 20) (v := ?_) (a' := ?_) #[tt,tt,tt,tt,tt,tt,tt,tt,tt,ff,tt,tt,ff,ff,ff,ff,ff,ff,ff,ff,ff,ff,ff,ff,ff,ff,ff,ff,ff,ff,ff,ff] rfl rfl (any_of HT_.out (by kernel_rfl)) (fun _ _ _ h => h) (Or.inl ⟨by rfl, ?_⟩) ?_ ?_
         rotate_left
         ·intro w'; go_simp; with_reducible rfl
         rotate_left
         ·simp only [putL, i64_w, i32_w]; rfl
         refine pure_ (i := 12) (N := some 21) (v := ?_) (a' := ?_) #[tt,tt,tt,tt,tt,tt,tt,tt,tt,ff,tt,tt,tt,ff,ff,ff,ff,ff,ff,ff,ff,ff,ff,ff,ff,ff,ff,ff,ff,ff,ff,ff] rfl rfl (any_of HT_.out (by kernel_rfl)) (fun _ _ _ h => h) (Or.inl ⟨by rfl, ?_⟩) ?_ ?_
         rotate_left
         ·intro w'; go_simp; with_reducible rfl
         rotate_left
         ·simp only [putL, i64_w, i32_w]; rfl
         refine take_ (i := 9) (N := some 18) (v := ?_) (a' := ?_) #[tt,tt,tt,tt,tt,tt,tt,tt,tt,tt,tt,tt,tt,ff,ff,ff,ff,ff,ff,ff,ff,ff,ff,ff,ff,ff,ff,ff,ff,ff,ff,ff] rfl rfl (take_ofW HT_.out HW_.out (by kernel_rfl)) (fun _ _ _ h => h) (Or.inl ⟨by rfl, ?_⟩) hHeld ?_ ?_
         rotate_left
         ·rintro w' ⟨s0, s1, s2, s3, s4, s5, s6, s7, s8, s9⟩
          go_simp; with_reducible rfl
         rotate_left
         ·simp only [putL, i64_w, i32_w]; rfl
         refine take_ (i := 13) (N := some 22) (v := ?_) (a' := ?_) #[tt,tt,tt,tt,tt,tt,tt,tt,tt,tt,tt,tt,tt,tt,ff,ff,ff,ff,ff,ff,ff,ff,ff,ff,ff,ff,ff,ff,ff,ff,ff,ff] rfl rfl (take_ofW HT_.out HW_.out (by kernel_rfl)) (fun _ _ _ h => h) (Or.inl ⟨by rfl, ?_⟩) hHeld ?_ ?_
         rotate_left
         ·rintro w' ⟨s0, s1, s2, s3, s4, s5, s6, s7, s8, s9⟩
          go_simp; with_reducible rfl
         rotate_left
         ·simp only [putL, i64_w, i32_w]; rfl
         refine pure_ (i := 14) (N := some 23) (v := ?_) (a' := ?_) #[tt,tt,tt,tt,tt,tt,tt,tt,tt,tt,tt,tt,tt,tt,tt,ff,ff,ff,ff,ff,ff,ff,ff,ff,ff,ff,ff,ff,ff,ff,ff,ff] rfl rfl (any_of HT_.out (by kernel_rfl)) (fun _ _ _ h => h) (Or.inl ⟨by rfl, ?_⟩) ?_ ?_
         rotate_left
         ·intro w'; go_simp; with_reducible rfl
         rotate_left
         ·simp only [putL, i64_w, i32_w]; rfl
         refine pure_ (i := 15) (N := some 24) (v := ?_) (a' := ?_) #[tt,tt,tt,tt,tt,tt,tt,tt,tt,tt,tt,tt,tt,tt,tt,tt,ff,ff,ff,ff,ff,ff,ff,ff,ff,ff,ff,ff,ff,ff,ff,ff] rfl rfl (any_of HT_.out (by kernel_rfl)) (fun _ _ _ h => h) (Or.inl ⟨by rfl, ?_⟩) ?_ ?_
         rotate_left
         ·intro w'; go_simp; with_reducible rfl
         rotate_left
         ·simp only [putL, i64_w, i32_w]; rfl
         refine pure_ (i := 16) (N := some 25) (v := ?_) (a' := ?_) #[tt,tt,tt,tt,tt,tt,tt,tt,tt,tt,tt,tt,tt,tt,tt,tt,tt,ff,ff,ff,ff,ff,ff,ff,ff,ff,ff,ff,ff,ff,ff,ff] rfl rfl (any_of HT_.out (by kernel_rfl)) (fun _ _ _ h => h) (Or.inl ⟨by rfl, ?_⟩) ?_ ?_
         rotate_left
         ·intro w'; go_simp; with_reducible rfl
         rotate_left
         ·simp only [putL, i64_w, i32_w]; rfl
         refine pure_ (i := 17) (N := some 26) (v := ?_) (a' := ?_) #[tt,tt,tt,tt,tt,tt,tt,tt,tt,tt,tt,tt,tt,tt,tt,tt,tt,tt,ff,ff,ff,ff,ff,ff,ff,ff,ff,ff,ff,ff,ff,ff] rfl rfl (any_of HT_.out (by kernel_rfl)) (fun _ _ _ h => h) (Or.inl ⟨by rfl, ?_⟩) ?_ ?_
         rotate_left
         ·intro w'; go_simp; with_reducible rfl
         rotate_left
         ·simp only [putL, i64_w, i32_w]; rfl
         refine pure_ (i := 18) (N := some 27) (v := ?_) (a' := ?_) #[tt,tt,tt,tt,tt,tt,tt,tt,tt,tt,tt,tt,tt,tt,tt,tt,tt,tt,tt,ff,ff,ff,ff,ff,ff,ff,ff,ff,ff,ff,ff,ff] rfl rfl (any_of HT_.out (by kernel_rfl)) (fun _ _ _ h => h) (Or.inl ⟨by rfl, ?_⟩) ?_ ?_
         rotate_left
         ·intro w'; go_simp; with_reducible rfl
         rotate_left
         ·simp only [putL, i64_w, i32_w]; rfl
         refine take_ (i := 19) (N := some 28) (v := ?_) (a' := ?_) #[tt,tt,tt,tt,tt,tt,tt,tt,tt,tt,tt,tt,tt,tt,tt,tt,tt,tt,tt,tt,ff,ff,ff,ff,ff,ff,ff,ff,ff,ff,ff,ff] rfl rfl (take_ofW HT_.out HW_.out (by kernel_rfl)) (fun _ _ _ h => h) (Or.inl ⟨by rfl, ?_⟩) hHeld ?_ ?_
         rotate_left
         ·rintro w' ⟨s0, s1, s2, s3, s4, s5, s6, s7, s8, s9⟩
          go_simp; with_reducible rfl
         rotate_left
         ·simp only [putL, i64_w, i32_w]; rfl
         refine pure_ (i := 20) (N := some 29) (v := ?_) (a' := ?_) #[tt,tt,tt,tt,tt,tt,tt,tt,tt,tt,tt,tt,tt,tt,tt,tt,tt,tt,tt,tt,tt,ff,ff,ff,ff,ff,ff,ff,ff,ff,ff,ff] rfl rfl (any_of HT_.out (by kernel_rfl)) (fun _ _ _ h => h) (Or.inl ⟨by rfl, ?_⟩) ?_ ?_
         rotate_left
         ·intro w'; go_simp; with_reducible rfl
         rotate_left
         ·simp only [putL, i64_w, i32_w]; rfl
         refine pure_ (i := 21) (N := some 30) (v := ?_) (a' := ?_) #[tt,tt,tt,tt,tt,tt,tt,tt,tt,tt,tt,tt,tt,tt,tt,tt,tt,tt,tt,tt,tt,tt,ff,ff,ff,ff,ff,ff,ff,ff,ff,ff] rfl rfl (any_of HT_.out (by kernel_rfl)) (fun _ _ _ h => h) (Or.inl ⟨by rfl, ?_⟩) ?_ ?_
         rotate_left
         ·intro w'; go_simp; with_reducible rfl
         rotate_left
         ·simp only [putL, i64_w, i32_w]; rfl
         refine pure_ (i := 22) (N := some 31) (v := ?_) (a' := ?_) #[tt,tt,tt,tt,tt,tt,tt,tt,tt,tt,tt,tt,tt,tt,tt,tt,tt,tt,tt,tt,tt,tt,tt,ff,ff,ff,ff,ff,ff,ff,ff,ff] rfl rfl (any_of HT_.out (by kernel_rfl)) (fun _ _ _ h => h) (Or.inl ⟨by rfl, ?_⟩) ?_ ?_
         rotate_left
         ·intro w'; go_simp; with_reducible rfl
         rotate_left
         ·simp only [putL, i64_w, i32_w]; rfl
         refine pure_ (i := 23) (N := some 32) (v := ?_) (a' := ?_) #[tt,tt,tt,tt,tt,tt,tt,tt,tt,tt,tt,tt,tt,tt,tt,tt,tt,tt,tt,tt,tt,tt,tt,tt,ff,ff,ff,ff,ff,ff,ff,ff] rfl rfl (any_of HT_.out (by kernel_rfl)) (fun _ _ _ h => h) (Or.inl ⟨by rfl, ?_⟩) ?_ ?_
         rotate_left
         ·intro w'; go_simp; with_reducible rfl
         rotate_left
         ·simp only [putL, i64_w, i32_w]; rfl
         refine pure_ (i := 24) (N := some 33) (v := ?_) (a' := ?_) #[tt,tt,tt,tt,tt,tt,tt,tt,tt,tt,tt,tt,tt,tt,tt,tt,tt,tt,tt,tt,tt,tt,tt,tt,tt,ff,ff,ff,ff,ff,ff,ff] rfl rfl (any_of HT_.out (by kernel_rfl)) (fun _ _ _ h => h) (Or.inl ⟨by rfl, ?_⟩) ?_ ?_
         rotate_left
         ·intro w'; go_simp; with_reducible rfl
         rotate_left
         ·simp only [putL, i64_w, i32_w]; rfl
         refine pure_ (i := 25) (N := some 34) (v := ?_) (a' := ?_) #[tt,tt,tt,tt,tt,tt,tt,tt,tt,tt,tt,tt,tt,tt,tt,tt,tt,tt,tt,tt,tt,tt,tt,tt,tt,tt,ff,ff,ff,ff,ff,ff] rfl rfl (any_of HT_.out (by kernel_rfl)) (fun _ _ _ h => h) (Or.inl ⟨by rfl, ?_⟩) ?_ ?_
         rotate_left
         ·intro w'; go_simp; with_reducible rfl
         rotate_left
         ·simp only [putL, i64_w, i32_w]; rfl
         refine pure_ (i := 27) (N := some 36) (v := ?_) (a' := ?_) #[tt,tt,tt,tt,tt,tt,tt,tt,tt,tt,tt,tt,tt,tt,tt,tt,tt,tt,tt,tt,tt,tt,tt,tt,tt,tt,ff,tt,ff,ff,ff,ff] rfl rfl (any_of HT_.out (by kernel_rfl)) (fun _ _ _ h => h) (Or.inl ⟨by rfl, ?_⟩) ?_ ?_
         rotate_left
         ·intro w'; go_simp; with_reducible rfl
         rotate_left
         ·simp only [putL, i64_w, i32_w]; rfl
         refine take_ (i := 26) (N := some 35) (v := ?_) (a' := ?_) #[tt,tt,tt,tt,tt,tt,tt,tt,tt,tt,tt,tt,tt,tt,tt,tt,tt,tt,tt,tt,tt,tt,tt,tt,tt,tt,tt,tt,ff,ff,ff,ff] rfl rfl (take_ofW HT_.out HW_.out (by kernel_rfl)) (fun _ _ _ h => h) (Or.inl ⟨by rfl, ?_⟩) hHeld ?_ ?_
         rotate_left
         ·rintro w' ⟨s0, s1, s2, s3, s4, s5, s6, s7, s8, s9⟩
          go_simp; with_reducible rfl
         rotate_left
         ·simp only [putL, i64_w, i32_w]; rfl
         refine take_ (i := 28) (N := some 37) (v := ?_) (a' := ?_) #[tt,tt,tt,tt,tt,tt,tt,tt,tt,tt,tt,tt,tt,tt,tt,tt,tt,tt,tt,tt,tt,tt,tt,tt,tt,tt,tt,tt,tt,ff,ff,ff] rfl rfl (take_ofW HT_.out HW_.out (by kernel_rfl)) (fun _ _ _ h => h) (Or.inl ⟨by rfl, ?_⟩) hHeld ?_ ?_
         rotate_left
         ·rintro w' ⟨s0, s1, s2, s3, s4, s5, s6, s7, s8, s9⟩
          go_simp; with_reducible rfl
         rotate_left
         ·simp only [putL, i64_w, i32_w]; rfl
         refine pure_ (i := 29) (N := some 38) (v := ?_) (a' := ?_) #[tt,tt,tt,tt,tt,tt,tt,tt,tt,tt,tt,tt,tt,tt,tt,tt,tt,tt,tt,tt,tt,tt,tt,tt,tt,tt,tt,tt,tt,tt,ff,ff] rfl rfl (any_of HT_.out (by kernel_rfl)) (fun _ _ _ h => h) (Or.inl ⟨by rfl, ?_⟩) ?_ ?_
         rotate_left
         ·intro w'; go_simp; with_reducible rfl
         rotate_left
         ·simp only [putL, i64_w, i32_w]; rfl
         refine pure_ (i := 30) (N := some 39) (v := ?_) (a' := ?_) #[tt,tt,tt,tt,tt,tt,tt,tt,tt,tt,tt,tt,tt,tt,tt,tt,tt,tt,tt,tt,tt,tt,tt,tt,tt,tt,tt,tt,tt,tt,tt,ff] rfl rfl (any_of HT_.out (by kernel_rfl)) (fun _ _ _ h => h) (Or.inl ⟨by rfl, ?_⟩) ?_ ?_
         rotate_left
         ·intro w'; go_simp; with_reducible rfl
         rotate_left
         ·simp only [putL, i64_w, i32_w]; rfl
         refine pure_ (i := 31) (N := some 40) (v := ?_) (a' := ?_) #[tt,tt,tt,tt,tt,tt,tt,tt,tt,tt,tt,tt,tt,tt,tt,tt,tt,tt,tt,tt,tt,tt,tt,tt,tt,tt,tt,tt,tt,tt,tt,tt] rfl rfl (any_of HT_.out (by kernel_rfl)) (fun _ _ _ h => h) (Or.inl ⟨by rfl, ?_⟩) ?_ ?_
         rotate_left
         ·intro w'; go_simp; with_reducible rfl
         rotate_left
         ·simp only [putL, i64_w, i32_w]; rfl
         refine done_ (done_of HT_.out (by kernel_rfl)) ?_
         go_wp2
         go_meet
         case rel => exact ⟨_, (!false), (t214), (t215), (t216), (t217), (t218), (.slice Ao21 t218.length co21), (by first | rfl | (simp; done) | (simp [*]; done)), H', ⟨by first | omega | exact Nat.le_refl _⟩, ⟨rr HO220⟩, ⟨bb BK210⟩, ⟨bb BK211⟩, ⟨bb BK212⟩, ⟨bb BK221⟩, ⟨by repeat (first | (with_reducible first | exact HB.out | apply below_alloc | apply pw_below_drewN | apply below_drew1 | refine below_set ?_ GE210.out | refine below_set ?_ GE211.out | refine below_set ?_ GE212.out | refine below_set ?_ GE221.out | refine below_set ?_ GE223.out) | exact HB.out)⟩⟩
      ·rw [if_neg c39] at H
       have c39b0 : (a1_1 == t214) = false := beq_eq_false_iff_ne.mpr c39
       have c39b1 : (a1_1 != t214) = true := bne_iff_ne.mpr c39
       have H' := Aside0.mk H
       clear H; have hnb89 := NB211_210.out; have hnc89 := NB210_211.out; have hnb90 := NB211_212.out; have hnc90 := NB212_211.out; have hnb91 := NB211_221.out; have hnc91 := NB221_211.out; obtain ⟨hcz92_0, hcz92_1, hcz92_2, hcz92_3, hcz92_4⟩ := cs5 BK211; obtain ⟨hfz92_0, hfz92_1, hfz92_2, hfz92_3, hfz92_4⟩ := fs5 BK211
       go_wp2_with (first | ((with_reducible refine gate_callee (f := 101) rfl ?_); refine goesL_ (some 14) rfl rfl Try.func101 (by kernel_rfl) rfl #[.agg #[.int .i64 a1_0, .int .i64 a1_1, .int .i64 a1_2, .int .i64 a1_3, .string a1_4]] rfl (by (try simp only [List.map_toArray, List.map_cons, List.map_nil]); first | done | rfl | (simp only [List.length_drop, List.length_take]; rfl)) ?_; (with_reducible refine (impl_RecOk.calls a1_0 a1_1 a1_2 a1_3 a1_4 true _ A22.out).mono ?_); rintro e w93 ⟨rfl, hb⟩; refine ⟨_, rfl, ?_⟩; have n0_ := Aside0.mk (Kd.R_below (by (with_reducible repeat (first | apply Kd.R_alloc | apply Kd.R_drewN | apply Kd.R_drew)); exact (Kd.R_mono (Kd.R_far (p := ⟨gb221, 4, none⟩) (Kd.R_far (p := ⟨gb221, 3, none⟩) (Kd.R_far (p := ⟨gb221, 2, none⟩) (Kd.R_far (p := ⟨gb221, 1, none⟩) (Kd.R_far (p := ⟨gb221, 0, none⟩) (Kd.R_types HO220.out BK221.out (by decide)) (fun _ hk => hk.2) (.int .i64 t214)) (fun _ hk => hk.2) (.int .i64 t215)) (fun _ hk => hk.2) (.int .i64 t216)) (fun _ hk => hk.2) (.int .i64 t217)) (fun _ hk => hk.2) (.slice Ao21 t218.length co21)) (fun _ h_ => h_.1))) hb); have n1_ := bf BK210 hb; have n2_ := bf BK211 hb; have n3_ := bf BK212 hb; have n4_ := bp #[.int .i64 t214, .int .i64 t215, .int .i64 t216, .int .i64 t217, .slice Ao21 t218.length co21] BK221 hb; have n5_ := Aside0.mk (below_step (be HB) hb); clear HO220 BK210 BK211 BK212 BK221 HB; have HO220 := n0_; have BK210 := n1_; have BK211 := n2_; have BK212 := n3_; have BK221 := n4_; have HB := n5_; clear n0_ n1_ n2_ n3_ n4_ n5_; (try clear hb); (try clear hb2); (try clear hk); (try clear hi); obtain ⟨hcz94_0, hcz94_1, hcz94_2, hcz94_3, hcz94_4⟩ := cs5 BK211; obtain ⟨hfz94_0, hfz94_1, hfz94_2, hfz94_3, hfz94_4⟩ := fs5 BK211) | ((with_reducible refine gate_dst (N := 3) rfl ?_); refine box_event ?hg (N := 3) ?hd (cs := #[.int .i64 a1_0, .int .i64 a1_1, .int .i64 a1_2, .int .i64 a1_3, .string a1_4]) (t := 44) ?hr ?_; (case hd => rfl); (case hg => rfl); (case hr => first | (go_simp; done) | (go_simp; rfl)); intro gb223 hg w95 hbox hb; have n5_ := Aside0.mk (below_step (be HB) hb); have BK223 := Aside0.mk (hbox); have GW223 := bs HB hg; have GE223 := bs HB hg; have NB210_223 := bl BK210 hg; have NB223_210 := bg BK210 hg; have NB211_223 := bl BK211 hg; have NB223_211 := bg BK211 hg; have NB212_223 := bl BK212 hg; have NB223_212 := bg BK212 hg; have NB221_223 := bl BK221 hg; have NB223_221 := bg BK221 hg; replace HO220 := Aside0.mk (Kd.R_below (rr HO220) hb); replace BK210 := bq BK210 hb; replace BK211 := bq BK211 hb; replace BK212 := bq BK212 hb; replace BK221 := bq BK221 hb; clear HB; have HB := n5_; clear n5_; clear hb hbox hg; have hnb96 := NB223_210.out; have hnc96 := NB210_223.out; have hnb97 := NB223_211.out; have hnc97 := NB211_223.out; have hnb98 := NB223_212.out; have hnc98 := NB212_223.out; have hnb99 := NB223_221.out; have hnc99 := NB221_223.out; obtain ⟨hcz100_0, hcz100_1, hcz100_2, hcz100_3, hcz100_4⟩ := cs5 BK223; obtain ⟨hfz100_0, hfz100_1, hfz100_2, hfz100_3, hfz100_4⟩ := fs5 BK223) | (go_at_call 102; go_in))
       have n0_ := Aside0.mk (Kd.R_drew HO220.out)
       have n1_ := Aside0.mk (blk_drew BK210.out)
       have n2_ := Aside0.mk (blk_drew BK211.out)
       have n3_ := Aside0.mk (blk_drew BK212.out)
       have n4_ := Aside0.mk (blk_drew BK221.out)
       have n5_ := Aside0.mk (blk_drew BK223.out)
       have n6_ := Aside0.mk (below_drew1 HB.out)
       clear HO220 BK210 BK211 BK212 BK221 BK223 HB; have HO220 := n0_; have BK210 := n1_; have BK211 := n2_; have BK212 := n3_; have BK221 := n4_; have BK223 := n5_; have HB := n6_; clear n0_ n1_ n2_ n3_ n4_ n5_ n6_; refine start_ (n := 32) (S := fun w' => w'.cell? ⟨gb223, 0, none⟩ = some (.int .i64 a1_0) ∧ w'.cell? ⟨gb223, 1, none⟩ = some (.int .i64 a1_1) ∧ w'.cell? ⟨gb223, 2, none⟩ = some (.int .i64 a1_2) ∧ w'.cell? ⟨gb223, 3, none⟩ = some (.int .i64 a1_3) ∧ w'.cell? ⟨gb223, 4, none⟩ = some (.string a1_4) ∧ w'.cell? ⟨gb221, 0, none⟩ = some (.int .i64 t214) ∧ w'.cell? ⟨gb221, 1, none⟩ = some (.int .i64 t215) ∧ w'.cell? ⟨gb221, 2, none⟩ = some (.int .i64 t216) ∧ w'.cell? ⟨gb221, 3, none⟩ = some (.int .i64 t217) ∧ w'.cell? ⟨gb221, 4, none⟩ = some (.slice Ao21 t218.length co21)) (ds := []) #[ff,ff,ff,ff,ff,ff,ff,ff,ff,ff,ff,ff,ff,ff,ff,ff,ff,ff,ff,ff,ff,ff,ff,ff,ff,ff,ff,ff,ff,ff,ff,ff] (by kernel_rfl) rfl rfl ⟨bc BK223 0, bc BK223 1, bc BK223 2, bc BK223 3, bc BK223 4, bc BK221 0, bc BK221 1, bc BK221 2, bc BK221 3, bc BK221 4⟩ (fun hHeld => ?_); refine with_tabW impl_WalStep.tab1004 impl_WalStep.bits1004 (fun HT_ HW_ => ?_)
       generalize w95.drew = w101 at HO220 BK210 BK211 BK212 BK221 BK223 HB hHeld ⊢
       refine pure_ (i := 0) (N := some 9) (v := ?_) (a' := ?_) #[tt,ff,ff,ff,ff,ff,ff,ff,ff,ff,ff,ff,ff,ff,ff,ff,ff,ff,ff,ff,ff,ff,ff,ff,ff,ff,ff,ff,ff,ff,ff,ff] rfl rfl (any_of HT_.out (by kernel_rfl)) (fun _ _ _ h => h) (Or.inl ⟨by rfl, ?_⟩) ?_ ?_
       rotate_left
       ·intro w'; go_simp; with_reducible rfl
       rotate_left
       ·simp only [putL, i64_w, i32_w]; rfl
       refine pure_ (i := 2) (N := some 11) (v := ?_) (a' := ?_) #[tt,ff,tt,ff,ff,ff,ff,ff,ff,ff,ff,ff,ff,ff,ff,ff,ff,ff,ff,ff,ff,ff,ff,ff,ff,ff,ff,ff,ff,ff,ff,ff] rfl rfl (any_of HT_.out (by kernel_rfl)) (fun _ _ _ h => h) (Or.inl ⟨by rfl, ?_⟩) ?_ ?_
       rotate_left
       ·intro w'; go_simp; with_reducible rfl
       rotate_left
       ·simp only [putL, i64_w, i32_w]; rfl
       refine pure_ (i := 3) (N := some 12) (v := ?_) (a' := ?_) #[tt,ff,tt,tt,ff,ff,ff,ff,ff,ff,ff,ff,ff,ff,ff,ff,ff,ff,ff,ff,ff,ff,ff,ff,ff,ff,ff,ff,ff,ff,ff,ff] rfl rfl (any_of HT_.out (by kernel_rfl)) (fun _ _ _ h => h) (Or.inl ⟨by rfl, ?_⟩) ?_ ?_
       rotate_left
       ·intro w'; go_simp; with_reducible rfl
       rotate_left
       ·simp only [putL, i64_w, i32_w]; rfl
       refine pure_ (i := 4) (N := some 13) (v := ?_) (a' := ?_) #[tt,ff,tt,tt,tt,ff,ff,ff,ff,ff,ff,ff,ff,ff,ff,ff,ff,ff,ff,ff,ff,ff,ff,ff,ff,ff,ff,ff,ff,ff,ff,ff] rfl rfl (any_of HT_.out (by kernel_rfl)) (fun _ _ _ h => h) (Or.inl ⟨by rfl, ?_⟩) ?_ ?_
       rotate_left
       ·intro w'; go_simp; with_reducible rfl
       rotate_left
       ·simp only [putL, i64_w, i32_w]; rfl
       refine take_ (i := 1) (N := some 10) (v := ?_) (a' := ?_) #[tt,tt,tt,tt,tt,ff,ff,ff,ff,ff,ff,ff,ff,ff,ff,ff,ff,ff,ff,ff,ff,ff,ff,ff,ff,ff,ff,ff,ff,ff,ff,ff] rfl rfl (take_ofW HT_.out HW_.out (by kernel_rfl)) (fun _ _ _ h => h) (Or.inl ⟨by rfl, ?_⟩) hHeld ?_ ?_
       rotate_left
       ·rintro w' ⟨s0, s1, s2, s3, s4, s5, s6, s7, s8, s9⟩
        go_simp; with_reducible rfl
       rotate_left
       ·simp only [putL, i64_w, i32_w]; rfl
       refine take_ (i := 5) (N := some 14) (v := ?_) (a' := ?_) #[tt,tt,tt,tt,tt,tt,ff,ff,ff,ff,ff,ff,ff,ff,ff,ff,ff,ff,ff,ff,ff,ff,ff,ff,ff,ff,ff,ff,ff,ff,ff,ff] rfl rfl (take_ofW HT_.out HW_.out (by kernel_rfl)) (fun _ _ _ h => h) (Or.inl ⟨by rfl, ?_⟩) hHeld ?_ ?_
       rotate_left
       ·rintro w' ⟨s0, s1, s2, s3, s4, s5, s6, s7, s8, s9⟩
        go_simp; with_reducible rfl
       rotate_left
       ·simp only [putL, i64_w, i32_w]; rfl
       refine pure_ (i := 6) (N := some 15) (v := ?_) (a' := ?_) #[tt,tt,tt,tt,tt,tt,tt,ff,ff,ff,ff,ff,ff,ff,ff,ff,ff,ff,ff,ff,ff,ff,ff,ff,ff,ff,ff,ff,ff,ff,ff,ff] rfl rfl (any_of HT_.out (by kernel_rfl)) (fun _ _ _ h => h) (Or.inl ⟨by rfl, ?_⟩) ?_ ?_
       rotate_left
       ·intro w'; go_simp; with_reducible rfl
       rotate_left
       ·simp only [putL, i64_w, i32_w]; rfl
       refine pure_ (i := 7) (N := some 16) (v := ?_) (a' := ?_) #[tt,tt,tt,tt,tt,tt,tt,tt,ff,ff,ff,ff,ff,ff,ff,ff,ff,ff,ff,ff,ff,ff,ff,ff,ff,ff,ff,ff,ff,ff,ff,ff] rfl rfl (any_of HT_.out (by kernel_rfl)) (fun _ _ _ h => h) (Or.inl ⟨by rfl, ?_⟩) ?_ ?_
       rotate_left
       ·intro w'; go_simp; with_reducible rfl
       rotate_left
       ·simp only [putL, i64_w, i32_w]; rfl
       refine pure_ (i := 8) (N := some 17) (v := ?_) (a' := ?_) #[tt,tt,tt,tt,tt,tt,tt,tt,tt,ff,ff,ff,ff,ff,ff,ff,ff,ff,ff,ff,ff,ff,ff,ff,ff,ff,ff,ff,ff,ff,ff,ff] rfl rfl (any_of HT_.out (by kernel_rfl)) (fun _ _ _ h => h) (Or.inl ⟨by rfl, ?_⟩) ?_ ?_
       rotate_left
       ·intro w'; go_simp; with_reducible rfl
       rotate_left
       ·simp only [putL, i64_w, i32_w]; rfl
       refine pure_ (i := 10) (N := some 19) (v := ?_) (a' := ?_) #[tt,tt,tt,tt,tt,tt,tt,tt,tt,ff,tt,ff,ff,ff,ff,ff,ff,ff,ff,ff,ff,ff,ff,ff,ff,ff,ff,ff,ff,ff,ff,ff] rfl rfl (any_of HT_.out (by kernel_rfl)) (fun _ _ _ h => h) (Or.inl ⟨by rfl, ?_⟩) ?_ ?_
       rotate_left
       ·intro w'; go_simp; with_reducible rfl
       rotate_left
       ·simp only [putL, i64_w, i32_w]; rfl
       refine pure_ (i := 11) (N := some 20) (v := ?_) (a' := ?_) #[tt,tt,tt,tt,tt,tt,tt,tt,tt,ff,tt,tt,ff,ff,ff,ff,ff,ff,ff,ff,ff,ff,ff,ff,ff,ff,ff,ff,ff,ff,ff,ff] rfl rfl (any_of HT_.out (by kernel_rfl)) (fun _ _ _ h => h) (Or.inl ⟨by rfl, ?_⟩) ?_ ?_
       rotate_left
       ·intro w'; go_simp; with_reducible rfl
       rotate_left
       ·simp only [putL, i64_w, i32_w]; rfl
       refine pure_ (i := 12) (N := some 21) (v := ?_) (a' := ?_) #[tt,tt,tt,tt,tt,tt,tt,tt,tt,ff,tt,tt,tt,ff,ff,ff,ff,ff,ff,ff,ff,ff,ff,ff,ff,ff,ff,ff,ff,ff,ff,ff] rfl rfl (any_of HT_.out (by kernel_rfl)) (fun _ _ _ h => h) (Or.inl ⟨by rfl, ?_⟩) ?_ ?_
       rotate_left
       ·intro w'; go_simp; with_reducible rfl
       rotate_left
       ·simp only [putL, i64_w, i32_w]; rfl
       refine take_ (i := 9) (N := some 18) (v := ?_) (a' := ?_) #[tt,tt,tt,tt,tt,tt,tt,tt,tt,tt,tt,tt,tt,ff,ff,ff,ff,ff,ff,ff,ff,ff,ff,ff,ff,ff,ff,ff,ff,ff,ff,ff] rfl rfl (take_ofW HT_.out HW_.out (by kernel_rfl)) (fun _ _ _ h => h) (Or.inl ⟨by rfl, ?_⟩) hHeld ?_ ?_
       rotate_left
       ·rintro w' ⟨s0, s1, s2, s3, s4, s5, s6, s7, s8, s9⟩
        go_simp; with_reducible rfl
       rotate_left
       ·simp only [putL, i64_w, i32_w]; rfl
       refine take_ (i := 13) (N := some 22) (v := ?_) (a' := ?_) #[tt,tt,tt,tt,tt,tt,tt,tt,tt,tt,tt,tt,tt,tt,ff,ff,ff,ff,ff,ff,ff,ff,ff,ff,ff,ff,ff,ff,ff,ff,ff,ff] rfl rfl (take_ofW HT_.out HW_.out (by kernel_rfl)) (fun _ _ _ h => h) (Or.inl ⟨by rfl, ?_⟩) hHeld ?_ ?_
       rotate_left
       ·rintro w' ⟨s0, s1, s2, s3, s4, s5, s6, s7, s8, s9⟩
        go_simp; with_reducible rfl
       rotate_left
       ·simp only [putL, i64_w, i32_w]; rfl
       refine pure_ (i := 14) (N := some 23) (v := ?_) (a' := ?_) #[tt,tt,tt,tt,tt,tt,tt,tt,tt,tt,tt,tt,tt,tt,tt,ff,ff,ff,ff,ff,ff,ff,ff,ff,ff,ff,ff,ff,ff,ff,ff,ff] rfl rfl (any_of HT_.out (by kernel_rfl)) (fun _ _ _ h => h) (Or.inl ⟨by rfl, ?_⟩) ?_ ?_
       rotate_left
       ·intro w'; go_simp; with_reducible rfl
       rotate_left
       ·simp only [putL, i64_w, i32_w]; rfl
       refine pure_ (i := 15) (N := some 24) (v := ?_) (a' := ?_) #[tt,tt,tt,tt,tt,tt,tt,tt,tt,tt,tt,tt,tt,tt,tt,tt,ff,ff,ff,ff,ff,ff,ff,ff,ff,ff,ff,ff,ff,ff,ff,ff] rfl rfl (any_of HT_.out (by kernel_rfl)) (fun _ _ _ h => h) (Or.inl ⟨by rfl, ?_⟩) ?_ ?_
       rotate_left
       ·intro w'; go_simp; with_reducible rfl
       rotate_left
       ·simp only [putL, i64_w, i32_w]; rfl
       refine pure_ (i := 16) (N := some 25) (v := undef) (a' := ?_) #[tt,tt,tt,tt,tt,tt,tt,tt,tt,tt,tt,tt,tt,tt,tt,tt,tt,ff,ff,ff,ff,ff,ff,ff,ff,ff,ff,ff,ff,ff,ff,ff] rfl rfl (any_of HT_.out (by kernel_rfl)) (fun _ _ _ h => h) (Or.inr ⟨by rfl, rfl⟩) ?_ ?_
       rotate_left
       ·simp only [putL, i64_w, i32_w]; rfl
       refine pure_ (i := 17) (N := some 26) (v := undef) (a' := ?_) #[tt,tt,tt,tt,tt,tt,tt,tt,tt,tt,tt,tt,tt,tt,tt,tt,tt,tt,ff,ff,ff,ff,ff,ff,ff,ff,ff,ff,ff,ff,ff,ff] rfl rfl (any_of HT_.out (by kernel_rfl)) (fun _ _ _ h => h) (Or.inr ⟨by rfl, rfl⟩) ?_ ?_
       rotate_left
       ·simp only [putL, i64_w, i32_w]; rfl
       refine pure_ (i := 18) (N := some 27) (v := undef) (a' := ?_) #[tt,tt,tt,tt,tt,tt,tt,tt,tt,tt,tt,tt,tt,tt,tt,tt,tt,tt,tt,ff,ff,ff,ff,ff,ff,ff,ff,ff,ff,ff,ff,ff] rfl rfl (any_of HT_.out (by kernel_rfl)) (fun _ _ _ h => h) (Or.inr ⟨by rfl, rfl⟩) ?_ ?_
       rotate_left
       ·simp only [putL, i64_w, i32_w]; rfl
       refine pure_ (i := 19) (N := some 28) (v := undef) (a' := ?_) #[tt,tt,tt,tt,tt,tt,tt,tt,tt,tt,tt,tt,tt,tt,tt,tt,tt,tt,tt,tt,ff,ff,ff,ff,ff,ff,ff,ff,ff,ff,ff,ff] rfl rfl (any_of HT_.out (by kernel_rfl)) (fun _ _ _ h => h) (Or.inr ⟨by rfl, rfl⟩) ?_ ?_
       rotate_left
       ·simp only [putL, i64_w, i32_w]; rfl
       refine pure_ (i := 20) (N := some 29) (v := undef) (a' := ?_) #[tt,tt,tt,tt,tt,tt,tt,tt,tt,tt,tt,tt,tt,tt,tt,tt,tt,tt,tt,tt,tt,ff,ff,ff,ff,ff,ff,ff,ff,ff,ff,ff] rfl rfl (any_of HT_.out (by kernel_rfl)) (fun _ _ _ h => h) (Or.inr ⟨by rfl, rfl⟩) ?_ ?_
       rotate_left
       ·simp only [putL, i64_w, i32_w]; rfl
       refine pure_ (i := 21) (N := some 30) (v := ?_) (a' := ?_) #[tt,tt,tt,tt,tt,tt,tt,tt,tt,tt,tt,tt,tt,tt,tt,tt,tt,tt,tt,tt,tt,tt,ff,ff,ff,ff,ff,ff,ff,ff,ff,ff] rfl rfl (any_of HT_.out (by kernel_rfl)) (fun _ _ _ h => h) (Or.inl ⟨by rfl, ?_⟩) ?_ ?_
       rotate_left
       ·intro w'; go_simp; with_reducible rfl
       rotate_left
       ·simp only [putL, i64_w, i32_w]; rfl
       refine pure_ (i := 22) (N := some 31) (v := ?_) (a' := ?_) #[tt,tt,tt,tt,tt,tt,tt,tt,tt,tt,tt,tt,tt,tt,tt,tt,tt,tt,tt,tt,tt,tt,tt,ff,ff,ff,ff,ff,ff,ff,ff,ff] rfl rfl (any_of HT_.out (by kernel_rfl)) (fun _ _ _ h => h) (Or.inl ⟨by rfl, ?_⟩) ?_ ?_
       rotate_left
       ·intro w'; go_simp; with_reducible rfl
       rotate_left
       ·simp only [putL, i64_w, i32_w]; rfl
       refine pure_ (i := 23) (N := some 32) (v := undef) (a' := ?_) #[tt,tt,tt,tt,tt,tt,tt,tt,tt,tt,tt,tt,tt,tt,tt,tt,tt,tt,tt,tt,tt,tt,tt,tt,ff,ff,ff,ff,ff,ff,ff,ff] rfl rfl (any_of HT_.out (by kernel_rfl)) (fun _ _ _ h => h) (Or.inr ⟨by rfl, rfl⟩) ?_ ?_
       rotate_left
       ·simp only [putL, i64_w, i32_w]; rfl
       refine pure_ (i := 24) (N := some 33) (v := undef) (a' := ?_) #[tt,tt,tt,tt,tt,tt,tt,tt,tt,tt,tt,tt,tt,tt,tt,tt,tt,tt,tt,tt,tt,tt,tt,tt,tt,ff,ff,ff,ff,ff,ff,ff] rfl rfl (any_of HT_.out (by kernel_rfl)) (fun _ _ _ h => h) (Or.inr ⟨by rfl, rfl⟩) ?_ ?_
       rotate_left
       ·simp only [putL, i64_w, i32_w]; rfl
       refine pure_ (i := 25) (N := some 34) (v := undef) (a' := ?_) #[tt,tt,tt,tt,tt,tt,tt,tt,tt,tt,tt,tt,tt,tt,tt,tt,tt,tt,tt,tt,tt,tt,tt,tt,tt,tt,ff,ff,ff,ff,ff,ff] rfl rfl (any_of HT_.out (by kernel_rfl)) (fun _ _ _ h => h) (Or.inr ⟨by rfl, rfl⟩) ?_ ?_
       rotate_left
       ·simp only [putL, i64_w, i32_w]; rfl
       refine pure_ (i := 26) (N := some 35) (v := undef) (a' := ?_) #[tt,tt,tt,tt,tt,tt,tt,tt,tt,tt,tt,tt,tt,tt,tt,tt,tt,tt,tt,tt,tt,tt,tt,tt,tt,tt,tt,ff,ff,ff,ff,ff] rfl rfl (any_of HT_.out (by kernel_rfl)) (fun _ _ _ h => h) (Or.inr ⟨by rfl, rfl⟩) ?_ ?_
       rotate_left
       ·simp only [putL, i64_w, i32_w]; rfl
       refine pure_ (i := 27) (N := some 36) (v := undef) (a' := ?_) #[tt,tt,tt,tt,tt,tt,tt,tt,tt,tt,tt,tt,tt,tt,tt,tt,tt,tt,tt,tt,tt,tt,tt,tt,tt,tt,tt,tt,ff,ff,ff,ff] rfl rfl (any_of HT_.out (by kernel_rfl)) (fun _ _ _ h => h) (Or.inr ⟨by rfl, rfl⟩) ?_ ?_
       rotate_left
       ·simp only [putL, i64_w, i32_w]; rfl
       refine pure_ (i := 28) (N := some 37) (v := undef) (a' := ?_) #[tt,tt,tt,tt,tt,tt,tt,tt,tt,tt,tt,tt,tt,tt,tt,tt,tt,tt,tt,tt,tt,tt,tt,tt,tt,tt,tt,tt,tt,ff,ff,ff] rfl rfl (any_of HT_.out (by kernel_rfl)) (fun _ _ _ h => h) (Or.inr ⟨by rfl, rfl⟩) ?_ ?_
       rotate_left
       ·simp only [putL, i64_w, i32_w]; rfl
       refine pure_ (i := 29) (N := some 38) (v := undef) (a' := ?_) #[tt,tt,tt,tt,tt,tt,tt,tt,tt,tt,tt,tt,tt,tt,tt,tt,tt,tt,tt,tt,tt,tt,tt,tt,tt,tt,tt,tt,tt,tt,ff,ff] rfl rfl (any_of HT_.out (by kernel_rfl)) (fun _ _ _ h => h) (Or.inr ⟨by rfl, rfl⟩) ?_ ?_
       rotate_left
       ·simp only [putL, i64_w, i32_w]; rfl
       refine pure_ (i := 30) (N := some 39) (v := ?_) (a' := ?_) #[tt,tt,tt,tt,tt,tt,tt,tt,tt,tt,tt,tt,tt,tt,tt,tt,tt,tt,tt,tt,tt,tt,tt,tt,tt,tt,tt,tt,tt,tt,tt,ff] rfl rfl (any_of HT_.out (by kernel_rfl)) (fun _ _ _ h => h) (Or.inl ⟨by rfl, ?_⟩) ?_ ?_
       rotate_left
       ·intro w'; go_simp; with_reducible rfl
       rotate_left
       ·simp only [putL, i64_w, i32_w]; rfl
       refine pure_ (i := 31) (N := some 40) (v := ?_) (a' := ?_) #[tt,tt,tt,tt,tt,tt,tt,tt,tt,tt,tt,tt,tt,tt,tt,tt,tt,tt,tt,tt,tt,tt,tt,tt,tt,tt,tt,tt,tt,tt,tt,tt] rfl rfl (any_of HT_.out (by kernel_rfl)) (fun _ _ _ h => h) (Or.inl ⟨by rfl, ?_⟩) ?_ ?_
       rotate_left
       ·intro w'; go_simp; with_reducible rfl
       rotate_left
       ·simp only [putL, i64_w, i32_w]; rfl
       refine done_ (done_of HT_.out (by kernel_rfl)) ?_
       obtain ⟨hcz102_0, hcz102_1, hcz102_2, hcz102_3, hcz102_4⟩ := cs5 BK223; obtain ⟨hfz102_0, hfz102_1, hfz102_2, hfz102_3, hfz102_4⟩ := fs5 BK223; have hnb103 := NB221_210.out; have hnc103 := NB210_221.out; have hnb104 := NB221_212.out; have hnc104 := NB212_221.out; obtain ⟨hcz105_0, hcz105_1, hcz105_2, hcz105_3, hcz105_4⟩ := cs5 BK221; obtain ⟨hfz105_0, hfz105_1, hfz105_2, hfz105_3, hfz105_4⟩ := fs5 BK221
       go_wp2
       go_meet
       case rel => exact ⟨_, (!true), (a1_1), (a1_3), (t216), (t217), (t218), (.slice Ao21 t218.length co21), (by first | rfl | (simp; done) | (simp [*]; done)), H', ⟨by first | omega | exact Nat.le_refl _⟩, ⟨by (with_reducible repeat (first | apply Kd.R_alloc | apply Kd.R_drewN | apply Kd.R_drew)); exact Kd.R_mono (Kd.R_far (p := ⟨gb221, 1, none⟩) (Kd.R_far (p := ⟨gb221, 0, none⟩) (Kd.R_types HO220.out BK221.out (by decide)) (fun _ hk => hk.2) (.int .i64 a1_1)) (fun _ hk => hk.2) (.int .i64 a1_3)) (fun _ hk => trivial)⟩, ⟨by (with_reducible repeat first | refine bkN ?_ _ | refine bkD ?_ | refine bkA ?_ _ | refine blk_far ?_ NB210_221.out _); exact BK210.out⟩, ⟨by (with_reducible repeat first | refine bkN ?_ _ | refine bkD ?_ | refine bkA ?_ _ | refine blk_far ?_ NB211_221.out _); exact BK211.out⟩, ⟨by (with_reducible repeat first | refine bkN ?_ _ | refine bkD ?_ | refine bkA ?_ _ | refine blk_far ?_ NB212_221.out _); exact BK212.out⟩, ⟨by (with_reducible repeat first | refine bkN ?_ _ | refine bkD ?_ | refine bkA ?_ _); refine blk_put (cs := #[.int .i64 a1_1, .int .i64 t215, .int .i64 t216, .int .i64 t217, .slice Ao21 t218.length co21]) ?_ 1 _ rfl; (with_reducible repeat first | refine bkN ?_ _ | refine bkD ?_ | refine bkA ?_ _); refine blk_put (cs := #[.int .i64 t214, .int .i64 t215, .int .i64 t216, .int .i64 t217, .slice Ao21 t218.length co21]) ?_ 0 _ rfl; (with_reducible repeat first | refine bkN ?_ _ | refine bkD ?_ | refine bkA ?_ _); exact BK221.out⟩, ⟨by repeat (first | (with_reducible first | exact HB.out | apply below_alloc | apply pw_below_drewN | apply below_drew1 | refine below_set ?_ GE210.out | refine below_set ?_ GE211.out | refine below_set ?_ GE212.out | refine below_set ?_ GE221.out | refine below_set ?_ GE223.out) | exact HB.out)⟩⟩
    ·rw [if_neg c24] at H
     have c24b0 : (a1_0 == 1) = false := beq_eq_false_iff_ne.mpr c24
     have c24b1 : (a1_0 != 1) = true := bne_iff_ne.mpr c24
     (first | rw [c24b0] | (simp only [i64_w, i32_w]; rw [c24b0]) | skip)
     by_cases c106 : a1_0 = 2
     ·rw [if_pos c106] at H
      have c106b0 : (a1_0 == 2) = true := beq_iff_eq.mpr c106
      have c106b1 : (a1_0 != 2) = false := bne_eq_false_iff_eq.mpr c106
      clear c106; replace H := Option.bind_eq_some_iff.mp H
      obtain ⟨t224, A1070, H⟩ := H
      replace H : (if a1_2 = (wrap64 (t224 + 1)) then (if (t218.length : Int) ≥ 60 then (impl_WalStep.j0 k (!false) a0_0 a0_1 a0_2 a0_3 l0_4 t214 t215 t216 t217 t218) else ((impl_Wal_endTerm.f t214 t215 t216 t217 t218).bind fun t225 => ((impl_within.f a1_1 t225 t214).bind fun t226 => (if t226 = true then (if t218.length < 5864062014805 then (impl_WalStep.j0 k (!true) a0_0 a0_1 a0_2 a0_3 l0_4 t214 t215 t216 t217 (t218 ++ [(⟨a1_1, a1_4⟩ : S125)])) else (none)) else (impl_WalStep.j0 k (!false) a0_0 a0_1 a0_2 a0_3 l0_4 t214 t215 t216 t217 t218))))) else (impl_WalStep.j0 k (!false) a0_0 a0_1 a0_2 a0_3 l0_4 t214 t215 t216 t217 t218)) = some (r1, r2, r3, r4, r5, r6) := H
      have A107 := Aside0.mk A1070
      clear A1070
      by_cases c108 : a1_2 = (wrap64 (t224 + 1))
      ·rw [if_pos c108] at H
       have c108b0 : (a1_2 == (wrap64 (t224 + 1))) = true := beq_iff_eq.mpr c108
       have c108b1 : (a1_2 != (wrap64 (t224 + 1))) = false := bne_eq_false_iff_eq.mpr c108
       clear c108
       by_cases c109 : (t218.length : Int) ≥ 60
       ·rw [if_pos c109] at H
        have c109b0 : decide (60 ≤ (t218.length : Int)) = true := decide_eq_true c109
        have c109b1 : decide (60 ≤ t218.length) = true := decide_eq_true (by omega)
        clear c109; have H' := Aside0.mk H
        clear H; have hnb110 := NB211_210.out; have hnc110 := NB210_211.out; have hnb111 := NB211_212.out; have hnc111 := NB212_211.out; have hnb112 := NB211_221.out; have hnc112 := NB221_211.out; obtain ⟨hcz113_0, hcz113_1, hcz113_2, hcz113_3, hcz113_4⟩ := cs5 BK211; obtain ⟨hfz113_0, hfz113_1, hfz113_2, hfz113_3, hfz113_4⟩ := fs5 BK211
        go_wp2_with (first | ((with_reducible refine gate_callee (f := 101) rfl ?_); refine goesL_ (some 14) rfl rfl Try.func101 (by kernel_rfl) rfl #[.agg #[.int .i64 a1_0, .int .i64 a1_1, .int .i64 a1_2, .int .i64 a1_3, .string a1_4]] rfl (by (try simp only [List.map_toArray, List.map_cons, List.map_nil]); first | done | rfl | (simp only [List.length_drop, List.length_take]; rfl)) ?_; (with_reducible refine (impl_RecOk.calls a1_0 a1_1 a1_2 a1_3 a1_4 true _ A22.out).mono ?_); rintro e w114 ⟨rfl, hb⟩; refine ⟨_, rfl, ?_⟩; have n0_ := Aside0.mk (Kd.R_below (by (with_reducible repeat (first | apply Kd.R_alloc | apply Kd.R_drewN | apply Kd.R_drew)); exact (Kd.R_mono (Kd.R_far (p := ⟨gb221, 4, none⟩) (Kd.R_far (p := ⟨gb221, 3, none⟩) (Kd.R_far (p := ⟨gb221, 2, none⟩) (Kd.R_far (p := ⟨gb221, 1, none⟩) (Kd.R_far (p := ⟨gb221, 0, none⟩) (Kd.R_types HO220.out BK221.out (by decide)) (fun _ hk => hk.2) (.int .i64 t214)) (fun _ hk => hk.2) (.int .i64 t215)) (fun _ hk => hk.2) (.int .i64 t216)) (fun _ hk => hk.2) (.int .i64 t217)) (fun _ hk => hk.2) (.slice Ao21 t218.length co21)) (fun _ h_ => h_.1))) hb); have n1_ := bf BK210 hb; have n2_ := bf BK211 hb; have n3_ := bf BK212 hb; have n4_ := bp #[.int .i64 t214, .int .i64 t215, .int .i64 t216, .int .i64 t217, .slice Ao21 t218.length co21] BK221 hb; have n5_ := Aside0.mk (below_step (be HB) hb); clear HO220 BK210 BK211 BK212 BK221 HB; have HO220 := n0_; have BK210 := n1_; have BK211 := n2_; have BK212 := n3_; have BK221 := n4_; have HB := n5_; clear n0_ n1_ n2_ n3_ n4_ n5_; (try clear hb); (try clear hb2); (try clear hk); (try clear hi); obtain ⟨hcz115_0, hcz115_1, hcz115_2, hcz115_3, hcz115_4⟩ := cs5 BK211; obtain ⟨hfz115_0, hfz115_1, hfz115_2, hfz115_3, hfz115_4⟩ := fs5 BK211) | ((with_reducible refine gate_dst (N := 3) rfl ?_); refine box_event ?hg (N := 3) ?hd (cs := #[.int .i64 a1_0, .int .i64 a1_1, .int .i64 a1_2, .int .i64 a1_3, .string a1_4]) (t := 44) ?hr ?_; (case hd => rfl); (case hg => rfl); (case hr => first | (go_simp; done) | (go_simp; rfl)); intro gb223 hg w116 hbox hb; have n5_ := Aside0.mk (below_step (be HB) hb); have BK223 := Aside0.mk (hbox); have GW223 := bs HB hg; have GE223 := bs HB hg; have NB210_223 := bl BK210 hg; have NB223_210 := bg BK210 hg; have NB211_223 := bl BK211 hg; have NB223_211 := bg BK211 hg; have NB212_223 := bl BK212 hg; have NB223_212 := bg BK212 hg; have NB221_223 := bl BK221 hg; have NB223_221 := bg BK221 hg; replace HO220 := Aside0.mk (Kd.R_below (rr HO220) hb); replace BK210 := bq BK210 hb; replace BK211 := bq BK211 hb; replace BK212 := bq BK212 hb; replace BK221 := bq BK221 hb; clear HB; have HB := n5_; clear n5_; clear hb hbox hg; have hnb117 := NB223_210.out; have hnc117 := NB210_223.out; have hnb118 := NB223_211.out; have hnc118 := NB211_223.out; have hnb119 := NB223_212.out; have hnc119 := NB212_223.out; have hnb120 := NB223_221.out; have hnc120 := NB221_223.out; obtain ⟨hcz121_0, hcz121_1, hcz121_2, hcz121_3, hcz121_4⟩ := cs5 BK223; obtain ⟨hfz121_0, hfz121_1, hfz121_2, hfz121_3, hfz121_4⟩ := fs5 BK223) | (go_at_call 102; go_in))
        have n0_ := Aside0.mk (Kd.R_drew HO220.out)
        have n1_ := Aside0.mk (blk_drew BK210.out)
        have n2_ := Aside0.mk (blk_drew BK211.out)
        have n3_ := Aside0.mk (blk_drew BK212.out)
        have n4_ := Aside0.mk (blk_drew BK221.out)
        have n5_ := Aside0.mk (blk_drew BK223.out)
        have n6_ := Aside0.mk (below_drew1 HB.out)
        clear HO220 BK210 BK211 BK212 BK221 BK223 HB; have HO220 := n0_; have BK210 := n1_; have BK211 := n2_; have BK212 := n3_; have BK221 := n4_; have BK223 := n5_; have HB := n6_; clear n0_ n1_ n2_ n3_ n4_ n5_ n6_; refine start_ (n := 30) (S := fun w' => w'.cell? ⟨gb223, 0, none⟩ = some (.int .i64 a1_0) ∧ w'.cell? ⟨gb223, 1, none⟩ = some (.int .i64 a1_1) ∧ w'.cell? ⟨gb223, 2, none⟩ = some (.int .i64 a1_2) ∧ w'.cell? ⟨gb223, 3, none⟩ = some (.int .i64 a1_3) ∧ w'.cell? ⟨gb223, 4, none⟩ = some (.string a1_4) ∧ w'.cell? ⟨gb221, 0, none⟩ = some (.int .i64 t214) ∧ w'.cell? ⟨gb221, 1, none⟩ = some (.int .i64 t215) ∧ w'.cell? ⟨gb221, 2, none⟩ = some (.int .i64 t216) ∧ w'.cell? ⟨gb221, 3, none⟩ = some (.int .i64 t217) ∧ w'.cell? ⟨gb221, 4, none⟩ = some (.slice Ao21 t218.length co21)) (ds := []) #[ff,ff,ff,ff,ff,ff,ff,ff,ff,ff,ff,ff,ff,ff,ff,ff,ff,ff,ff,ff,ff,ff,ff,ff,ff,ff,ff,ff,ff,ff] (by kernel_rfl) rfl rfl ⟨bc BK223 0, bc BK223 1, bc BK223 2, bc BK223 3, bc BK223 4, bc BK221 0, bc BK221 1, bc BK221 2, bc BK221 3, bc BK221 4⟩ (fun hHeld => ?_); refine with_tabW impl_WalStep.tab1009 impl_WalStep.bits1009 (fun HT_ HW_ => ?_)
        generalize w116.drew = w122 at HO220 BK210 BK211 BK212 BK221 BK223 HB hHeld ⊢
        refine pure_ (i := 0) (N := some 53) (v := ?_) (a' := ?_) #[tt,ff,ff,ff,ff,ff,ff,ff,ff,ff,ff,ff,ff,ff,ff,ff,ff,ff,ff,ff,ff,ff,ff,ff,ff,ff,ff,ff,ff,ff] rfl rfl (any_of HT_.out (by kernel_rfl)) (fun _ _ _ h => h) (Or.inl ⟨by rfl, ?_⟩) ?_ ?_
        rotate_left
        ·intro w'; go_simp; with_reducible rfl
        rotate_left
        ·simp only [putL, i64_w, i32_w]; rfl
        refine pure_ (i := 2) (N := some 55) (v := ?_) (a' := ?_) #[tt,ff,tt,ff,ff,ff,ff,ff,ff,ff,ff,ff,ff,ff,ff,ff,ff,ff,ff,ff,ff,ff,ff,ff,ff,ff,ff,ff,ff,ff] rfl rfl (any_of HT_.out (by kernel_rfl)) (fun _ _ _ h => h) (Or.inl ⟨by rfl, ?_⟩) ?_ ?_
        rotate_left
        ·intro w'; go_simp; with_reducible rfl
        rotate_left
        ·simp only [putL, i64_w, i32_w]; rfl
        refine pure_ (i := 3) (N := some 56) (v := ?_) (a' := ?_) #[tt,ff,tt,tt,ff,ff,ff,ff,ff,ff,ff,ff,ff,ff,ff,ff,ff,ff,ff,ff,ff,ff,ff,ff,ff,ff,ff,ff,ff,ff] rfl rfl (any_of HT_.out (by kernel_rfl)) (fun _ _ _ h => h) (Or.inl ⟨by rfl, ?_⟩) ?_ ?_
        rotate_left
        ·intro w'; go_simp; with_reducible rfl
        rotate_left
        ·simp only [putL, i64_w, i32_w]; rfl
        refine take_ (i := 1) (N := some 54) (v := ?_) (a' := ?_) #[tt,tt,tt,tt,ff,ff,ff,ff,ff,ff,ff,ff,ff,ff,ff,ff,ff,ff,ff,ff,ff,ff,ff,ff,ff,ff,ff,ff,ff,ff] rfl rfl (take_ofW HT_.out HW_.out (by kernel_rfl)) (fun _ _ _ h => h) (Or.inl ⟨by rfl, ?_⟩) hHeld ?_ ?_
        rotate_left
        ·rintro w' ⟨s0, s1, s2, s3, s4, s5, s6, s7, s8, s9⟩
         go_simp; with_reducible rfl
        rotate_left
        ·simp only [putL, i64_w, i32_w]; rfl
        refine take_ (i := 4) (N := some 57) (v := ?_) (a' := ?_) #[tt,tt,tt,tt,tt,ff,ff,ff,ff,ff,ff,ff,ff,ff,ff,ff,ff,ff,ff,ff,ff,ff,ff,ff,ff,ff,ff,ff,ff,ff] rfl rfl (take_ofW HT_.out HW_.out (by kernel_rfl)) (fun _ _ _ h => h) (Or.inl ⟨by rfl, ?_⟩) hHeld ?_ ?_
        rotate_left
        ·rintro w' ⟨s0, s1, s2, s3, s4, s5, s6, s7, s8, s9⟩
         go_simp; with_reducible rfl
        rotate_left
        ·simp only [putL, i64_w, i32_w]; rfl
        refine one_ (i := 5) (N := some 58) #[tt,tt,tt,tt,tt,tt,ff,ff,ff,ff,ff,ff,ff,ff,ff,ff,ff,ff,ff,ff,ff,ff,ff,ff,ff,ff,ff,ff,ff,ff] rfl rfl (one_of HT_.out (by kernel_rfl)) (by decide) (fun K hK => ?_)
        refine goes_ Try.func140 (by kernel_rfl) rfl #[.agg #[.int .i64 t214, .int .i64 t215, .int .i64 t216, .int .i64 t217, .slice Ao21 t218.length co21]] (by rfl) rfl rfl (by (try simp only [List.map_toArray, List.map_cons, List.map_nil]); first | done | rfl | (simp only [List.length_drop, List.length_take]; rfl)) ?_
        with_reducible refine (impl_Wal_end.calls t214 t215 t216 t217 _ _ t218 t224 _ ?side1 ?side2 A107.out).mono ?_
        (case side1 => repeat (first | exact (Kd.R_reads' HO220.out).2.2 | (with_reducible refine Kd.C_alloc ?_ _) | (with_reducible refine Kd.C_drewN ?_ _) | (with_reducible refine Kd.C_drew ?_)))
        (case side2 => exact (Kd.R_reads' HO220.out).2.1)
        rintro e w123 ⟨rfl, hb⟩
        refine ⟨_, rfl, ?_⟩
        have n6_ := Aside0.mk (below_step (be HB) hb)
        replace HO220 := Aside0.mk (Kd.R_below (rr HO220) hb); replace BK210 := bq BK210 hb; replace BK211 := bq BK211 hb; replace BK212 := bq BK212 hb; replace BK221 := bq BK221 hb; replace BK223 := bq BK223 hb; clear HB; have HB := n6_; clear n6_; (try clear hb); (try clear hb2); (try clear hk); (try clear hi); refine hK.out _ _ ⟨bc BK223 0, bc BK223 1, bc BK223 2, bc BK223 3, bc BK223 4, bc BK221 0, bc BK221 1, bc BK221 2, bc BK221 3, bc BK221 4⟩ (fun hHeld => ?_)
        clear hK K; refine norm_ (a' := ?_) ?_ ?_
        rotate_left
        ·show Act.put _ (some 58) _ = _
         simp only [putL, i64_w, i32_w]; rfl
        refine pure_ (i := 6) (N := some 59) (v := ?_) (a' := ?_) #[tt,tt,tt,tt,tt,tt,tt,ff,ff,ff,ff,ff,ff,ff,ff,ff,ff,ff,ff,ff,ff,ff,ff,ff,ff,ff,ff,ff,ff,ff] rfl rfl (any_of HT_.out (by kernel_rfl)) (fun _ _ _ h => h) (Or.inl ⟨by rfl, ?_⟩) ?_ ?_
        rotate_left
        ·intro w'; go_simp; with_reducible rfl
        rotate_left
        ·simp only [putL, i64_w, i32_w]; rfl
        refine pure_ (i := 7) (N := some 60) (v := ?_) (a' := ?_) #[tt,tt,tt,tt,tt,tt,tt,tt,ff,ff,ff,ff,ff,ff,ff,ff,ff,ff,ff,ff,ff,ff,ff,ff,ff,ff,ff,ff,ff,ff] rfl rfl (any_of HT_.out (by kernel_rfl)) (fun _ _ _ h => h) (Or.inl ⟨by rfl, ?_⟩) ?_ ?_
        rotate_left
        ·intro w'; go_simp; with_reducible rfl
        rotate_left
        ·simp only [putL, i64_w, i32_w]; rfl
        refine pure_ (i := 8) (N := some 61) (v := ?_) (a' := ?_) #[tt,tt,tt,tt,tt,tt,tt,tt,tt,ff,ff,ff,ff,ff,ff,ff,ff,ff,ff,ff,ff,ff,ff,ff,ff,ff,ff,ff,ff,ff] rfl rfl (any_of HT_.out (by kernel_rfl)) (fun _ _ _ h => h) (Or.inl ⟨by rfl, ?_⟩) ?_ ?_
        rotate_left
        ·intro w'; go_simp; with_reducible rfl
        rotate_left
        ·simp only [putL, i64_w, i32_w]; rfl
        refine pure_ (i := 9) (N := some 62) (v := ?_) (a' := ?_) #[tt,tt,tt,tt,tt,tt,tt,tt,tt,tt,ff,ff,ff,ff,ff,ff,ff,ff,ff,ff,ff,ff,ff,ff,ff,ff,ff,ff,ff,ff] rfl rfl (any_of HT_.out (by kernel_rfl)) (fun _ _ _ h => h) (Or.inl ⟨by rfl, ?_⟩) ?_ ?_
        rotate_left
        ·intro w'; go_simp; with_reducible rfl
        rotate_left
        ·simp only [putL, i64_w, i32_w]; rfl
        refine pure_ (i := 10) (N := some 63) (v := ?_) (a' := ?_) #[tt,tt,tt,tt,tt,tt,tt,tt,tt,tt,tt,ff,ff,ff,ff,ff,ff,ff,ff,ff,ff,ff,ff,ff,ff,ff,ff,ff,ff,ff] rfl rfl (any_of HT_.out (by kernel_rfl)) (fun _ _ _ h => h) (Or.inl ⟨by rfl, ?_⟩) ?_ ?_
        rotate_left
        ·intro w'; go_simp; with_reducible rfl
        rotate_left
        ·simp only [putL, i64_w, i32_w]; rfl
        refine pure_ (i := 11) (N := some 64) (v := ?_) (a' := ?_) #[tt,tt,tt,tt,tt,tt,tt,tt,tt,tt,tt,tt,ff,ff,ff,ff,ff,ff,ff,ff,ff,ff,ff,ff,ff,ff,ff,ff,ff,ff] rfl rfl (any_of HT_.out (by kernel_rfl)) (fun _ _ _ h => h) (Or.inl ⟨by rfl, ?_⟩) ?_ ?_
        rotate_left
        ·intro w'; go_simp; with_reducible rfl
        rotate_left
        ·simp only [putL, i64_w, i32_w]; rfl
        refine take_ (i := 12) (N := some 65) (v := ?_) (a' := ?_) #[tt,tt,tt,tt,tt,tt,tt,tt,tt,tt,tt,tt,tt,ff,ff,ff,ff,ff,ff,ff,ff,ff,ff,ff,ff,ff,ff,ff,ff,ff] rfl rfl (take_ofW HT_.out HW_.out (by kernel_rfl)) (fun _ _ _ h => h) (Or.inl ⟨by rfl, ?_⟩) hHeld ?_ ?_
        rotate_left
        ·rintro w' ⟨s0, s1, s2, s3, s4, s5, s6, s7, s8, s9⟩
         go_simp; with_reducible rfl
        rotate_left
        ·simp only [putL, i64_w, i32_w]; rfl
        refine pure_ (i := 13) (N := some 66) (v := ?_) (a' := ?_) #[tt,tt,tt,tt,tt,tt,tt,tt,tt,tt,tt,tt,tt,tt,ff,ff,ff,ff,ff,ff,ff,ff,ff,ff,ff,ff,ff,ff,ff,ff] rfl rfl (any_of HT_.out (by kernel_rfl)) (fun _ _ _ h => h) (Or.inl ⟨by rfl, ?_⟩) ?_ ?_
        rotate_left
        ·intro w'; go_simp; with_reducible rfl
        rotate_left
        ·simp only [putL, i64_w, i32_w]; rfl
        refine pure_ (i := 14) (N := some 67) (v := ?_) (a' := ?_) #[tt,tt,tt,tt,tt,tt,tt,tt,tt,tt,tt,tt,tt,tt,tt,ff,ff,ff,ff,ff,ff,ff,ff,ff,ff,ff,ff,ff,ff,ff] rfl rfl (any_of HT_.out (by kernel_rfl)) (fun _ _ _ h => h) (Or.inl ⟨by rfl, ?_⟩) ?_ ?_
        rotate_left
        ·intro w'; go_simp; with_reducible rfl
        rotate_left
        ·simp only [putL, i64_w, i32_w]; rfl
        refine pure_ (i := 15) (N := some 68) (v := ?_) (a' := ?_) #[tt,tt,tt,tt,tt,tt,tt,tt,tt,tt,tt,tt,tt,tt,tt,tt,ff,ff,ff,ff,ff,ff,ff,ff,ff,ff,ff,ff,ff,ff] rfl rfl (any_of HT_.out (by kernel_rfl)) (fun _ _ _ h => h) (Or.inl ⟨by rfl, ?_⟩) ?_ ?_
        rotate_left
        ·intro w'; go_simp; with_reducible rfl
        rotate_left
        ·simp only [putL, i64_w, i32_w]; rfl
        refine pure_ (i := 16) (N := some 69) (v := ?_) (a' := ?_) #[tt,tt,tt,tt,tt,tt,tt,tt,tt,tt,tt,tt,tt,tt,tt,tt,tt,ff,ff,ff,ff,ff,ff,ff,ff,ff,ff,ff,ff,ff] rfl rfl (any_of HT_.out (by kernel_rfl)) (fun _ _ _ h => h) (Or.inl ⟨by rfl, ?_⟩) ?_ ?_
        rotate_left
        ·intro w'; go_simp; with_reducible rfl
        rotate_left
        ·simp only [putL, i64_w, i32_w]; rfl
        refine pure_ (i := 17) (N := some 70) (v := undef) (a' := ?_) #[tt,tt,tt,tt,tt,tt,tt,tt,tt,tt,tt,tt,tt,tt,tt,tt,tt,tt,ff,ff,ff,ff,ff,ff,ff,ff,ff,ff,ff,ff] rfl rfl (any_of HT_.out (by kernel_rfl)) (fun _ _ _ h => h) (Or.inr ⟨by rfl, rfl⟩) ?_ ?_
        rotate_left
        ·simp only [putL, i64_w, i32_w]; rfl
        refine pure_ (i := 18) (N := some 71) (v := undef) (a' := ?_) #[tt,tt,tt,tt,tt,tt,tt,tt,tt,tt,tt,tt,tt,tt,tt,tt,tt,tt,tt,ff,ff,ff,ff,ff,ff,ff,ff,ff,ff,ff] rfl rfl (any_of HT_.out (by kernel_rfl)) (fun _ _ _ h => h) (Or.inr ⟨by rfl, rfl⟩) ?_ ?_
        rotate_left
        ·simp only [putL, i64_w, i32_w]; rfl
        refine pure_ (i := 19) (N := some 72) (v := undef) (a' := ?_) #[tt,tt,tt,tt,tt,tt,tt,tt,tt,tt,tt,tt,tt,tt,tt,tt,tt,tt,tt,tt,ff,ff,ff,ff,ff,ff,ff,ff,ff,ff] rfl rfl (any_of HT_.out (by kernel_rfl)) (fun _ _ _ h => h) (Or.inr ⟨by rfl, rfl⟩) ?_ ?_
        rotate_left
        ·simp only [putL, i64_w, i32_w]; rfl
        refine pure_ (i := 20) (N := some 73) (v := undef) (a' := ?_) #[tt,tt,tt,tt,tt,tt,tt,tt,tt,tt,tt,tt,tt,tt,tt,tt,tt,tt,tt,tt,tt,ff,ff,ff,ff,ff,ff,ff,ff,ff] rfl rfl (any_of HT_.out (by kernel_rfl)) (fun _ _ _ h => h) (Or.inr ⟨by rfl, rfl⟩) ?_ ?_
        rotate_left
        ·simp only [putL, i64_w, i32_w]; rfl
        refine pure_ (i := 21) (N := some 74) (v := undef) (a' := ?_) #[tt,tt,tt,tt,tt,tt,tt,tt,tt,tt,tt,tt,tt,tt,tt,tt,tt,tt,tt,tt,tt,tt,ff,ff,ff,ff,ff,ff,ff,ff] rfl rfl (any_of HT_.out (by kernel_rfl)) (fun _ _ _ h => h) (Or.inr ⟨by rfl, rfl⟩) ?_ ?_
        rotate_left
        ·simp only [putL, i64_w, i32_w]; rfl
        refine pure_ (i := 22) (N := some 75) (v := undef) (a' := ?_) #[tt,tt,tt,tt,tt,tt,tt,tt,tt,tt,tt,tt,tt,tt,tt,tt,tt,tt,tt,tt,tt,tt,tt,ff,ff,ff,ff,ff,ff,ff] rfl rfl (any_of HT_.out (by kernel_rfl)) (fun _ _ _ h => h) (Or.inr ⟨by rfl, rfl⟩) ?_ ?_
        rotate_left
        ·simp only [putL, i64_w, i32_w]; rfl
        refine pure_ (i := 23) (N := some 76) (v := undef) (a' := ?_) #[tt,tt,tt,tt,tt,tt,tt,tt,tt,tt,tt,tt,tt,tt,tt,tt,tt,tt,tt,tt,tt,tt,tt,tt,ff,ff,ff,ff,ff,ff] rfl rfl (any_of HT_.out (by kernel_rfl)) (fun _ _ _ h => h) (Or.inr ⟨by rfl, rfl⟩) ?_ ?_
        rotate_left
        ·simp only [putL, i64_w, i32_w]; rfl
        refine pure_ (i := 24) (N := some 77) (v := undef) (a' := ?_) #[tt,tt,tt,tt,tt,tt,tt,tt,tt,tt,tt,tt,tt,tt,tt,tt,tt,tt,tt,tt,tt,tt,tt,tt,tt,ff,ff,ff,ff,ff] rfl rfl (any_of HT_.out (by kernel_rfl)) (fun _ _ _ h => h) (Or.inr ⟨by rfl, rfl⟩) ?_ ?_
        rotate_left
        ·simp only [putL, i64_w, i32_w]; rfl
        refine pure_ (i := 25) (N := some 78) (v := undef) (a' := ?_) #[tt,tt,tt,tt,tt,tt,tt,tt,tt,tt,tt,tt,tt,tt,tt,tt,tt,tt,tt,tt,tt,tt,tt,tt,tt,tt,ff,ff,ff,ff] rfl rfl (any_of HT_.out (by kernel_rfl)) (fun _ _ _ h => h) (Or.inr ⟨by rfl, rfl⟩) ?_ ?_
        rotate_left
        ·simp only [putL, i64_w, i32_w]; rfl
        refine pure_ (i := 26) (N := some 79) (v := undef) (a' := ?_) #[tt,tt,tt,tt,tt,tt,tt,tt,tt,tt,tt,tt,tt,tt,tt,tt,tt,tt,tt,tt,tt,tt,tt,tt,tt,tt,tt,ff,ff,ff] rfl rfl (any_of HT_.out (by kernel_rfl)) (fun _ _ _ h => h) (Or.inr ⟨by rfl, rfl⟩) ?_ ?_
        rotate_left
        ·simp only [putL, i64_w, i32_w]; rfl
        refine pure_ (i := 27) (N := some 80) (v := undef) (a' := ?_) #[tt,tt,tt,tt,tt,tt,tt,tt,tt,tt,tt,tt,tt,tt,tt,tt,tt,tt,tt,tt,tt,tt,tt,tt,tt,tt,tt,tt,ff,ff] rfl rfl (any_of HT_.out (by kernel_rfl)) (fun _ _ _ h => h) (Or.inr ⟨by rfl, rfl⟩) ?_ ?_
        rotate_left
        ·simp only [putL, i64_w, i32_w]; rfl
        refine pure_ (i := 28) (N := some 81) (v := undef) (a' := ?_) #[tt,tt,tt,tt,tt,tt,tt,tt,tt,tt,tt,tt,tt,tt,tt,tt,tt,tt,tt,tt,tt,tt,tt,tt,tt,tt,tt,tt,tt,ff] rfl rfl (any_of HT_.out (by kernel_rfl)) (fun _ _ _ h => h) (Or.inr ⟨by rfl, rfl⟩) ?_ ?_
        rotate_left
        ·simp only [putL, i64_w, i32_w]; rfl
        refine pure_ (i := 29) (N := some 82) (v := ?_) (a' := ?_) #[tt,tt,tt,tt,tt,tt,tt,tt,tt,tt,tt,tt,tt,tt,tt,tt,tt,tt,tt,tt,tt,tt,tt,tt,tt,tt,tt,tt,tt,tt] rfl rfl (any_of HT_.out (by kernel_rfl)) (fun _ _ _ h => h) (Or.inl ⟨by rfl, ?_⟩) ?_ ?_
        rotate_left
        ·intro w'; go_simp; with_reducible rfl
        rotate_left
        ·simp only [putL, i64_w, i32_w]; rfl
        refine done_ (done_of HT_.out (by kernel_rfl)) ?_
        go_wp2
        go_meet
        case rel => exact ⟨_, (!false), (t214), (t215), (t216), (t217), (t218), (.slice Ao21 t218.length co21), (by first | rfl | (simp; done) | (simp [*]; done)), H', ⟨by first | omega | exact Nat.le_refl _⟩, ⟨rr HO220⟩, ⟨bb BK210⟩, ⟨bb BK211⟩, ⟨bb BK212⟩, ⟨bb BK221⟩, ⟨by repeat (first | (with_reducible first | exact HB.out | apply below_alloc | apply pw_below_drewN | apply below_drew1 | refine below_set ?_ GE210.out | refine below_set ?_ GE211.out | refine below_set ?_ GE212.out | refine below_set ?_ GE221.out | refine below_set ?_ GE223.out) | exact HB.out)⟩⟩
       ·rw [if_neg c109] at H
        have c109b0 : decide (60 ≤ (t218.length : Int)) = false := decide_eq_false c109
        have c109b1 : decide (60 ≤ t218.length) = false := decide_eq_false (by omega)
        clear c109; replace H := Option.bind_eq_some_iff.mp H
        obtain ⟨t225, A1240, H⟩ := H
        replace H : ((impl_within.f a1_1 t225 t214).bind fun t226 => (if t226 = true then (if t218.length < 5864062014805 then (impl_WalStep.j0 k (!true) a0_0 a0_1 a0_2 a0_3 l0_4 t214 t215 t216 t217 (t218 ++ [(⟨a1_1, a1_4⟩ : S125)])) else (none)) else (impl_WalStep.j0 k (!false) a0_0 a0_1 a0_2 a0_3 l0_4 t214 t215 t216 t217 t218))) = some (r1, r2, r3, r4, r5, r6) := H
        have A124 := Aside0.mk A1240
        clear A1240; replace H := Option.bind_eq_some_iff.mp H
        obtain ⟨t226, A1250, H⟩ := H
        replace H : (if t226 = true then (if t218.length < 5864062014805 then (impl_WalStep.j0 k (!true) a0_0 a0_1 a0_2 a0_3 l0_4 t214 t215 t216 t217 (t218 ++ [(⟨a1_1, a1_4⟩ : S125)])) else (none)) else (impl_WalStep.j0 k (!false) a0_0 a0_1 a0_2 a0_3 l0_4 t214 t215 t216 t217 t218)) = some (r1, r2, r3, r4, r5, r6) := H
        have A125 := Aside0.mk A1250
        clear A1250
        by_cases c126 : t226 = true
        ·subst c126
         have H1 : (if t218.length < 5864062014805 then (impl_WalStep.j0 k (!true) a0_0 a0_1 a0_2 a0_3 l0_4 t214 t215 t216 t217 (t218 ++ [(⟨a1_1, a1_4⟩ : S125)])) else (none)) = some (r1, r2, r3, r4, r5, r6) := by rw [if_pos rfl] at H; exact H
         clear H; have H := H1
         clear H1
         by_cases c127 : t218.length < 5864062014805
         ·rw [if_pos c127] at H
          have LMc127 := Aside0.mk c127
          clear c127; obtain ⟨y227, hy227⟩ : ∃ y_ : List (S125), y_ = (t218 ++ [(⟨a1_1, a1_4⟩ : S125)]) := ⟨_, rfl⟩
          replace H : (impl_WalStep.j0 k (!true) a0_0 a0_1 a0_2 a0_3 l0_4 t214 t215 t216 t217 y227) = some (r1, r2, r3, r4, r5, r6) := by first | (rw [hy227]; with_reducible exact H) | (have H2_ := (Option.bind_some _ _).symm.trans H; rw [hy227]; with_reducible exact H2_) | (have H2_ := (Option.bind_some _ _).symm.trans H; with_reducible exact H2_) | with_reducible exact H | (rw [hy227]; exact H) | exact H
          have Ny227 := Aside0.mk hy227
          clear hy227; have H' := Aside0.mk H
          clear H; have hnb128 := NB211_210.out; have hnc128 := NB210_211.out; have hnb129 := NB211_212.out; have hnc129 := NB212_211.out; have hnb130 := NB211_221.out; have hnc130 := NB221_211.out; obtain ⟨hcz131_0, hcz131_1, hcz131_2, hcz131_3, hcz131_4⟩ := cs5 BK211; obtain ⟨hfz131_0, hfz131_1, hfz131_2, hfz131_3, hfz131_4⟩ := fs5 BK211
          go_wp2_with (first | ((with_reducible refine gate_callee (f := 101) rfl ?_); refine goesL_ (some 14) rfl rfl Try.func101 (by kernel_rfl) rfl #[.agg #[.int .i64 a1_0, .int .i64 a1_1, .int .i64 a1_2, .int .i64 a1_3, .string a1_4]] rfl (by (try simp only [List.map_toArray, List.map_cons, List.map_nil]); first | done | rfl | (simp only [List.length_drop, List.length_take]; rfl)) ?_; (with_reducible refine (impl_RecOk.calls a1_0 a1_1 a1_2 a1_3 a1_4 true _ A22.out).mono ?_); rintro e w132 ⟨rfl, hb⟩; refine ⟨_, rfl, ?_⟩; have n0_ := Aside0.mk (Kd.R_below (by (with_reducible repeat (first | apply Kd.R_alloc | apply Kd.R_drewN | apply Kd.R_drew)); exact (Kd.R_mono (Kd.R_far (p := ⟨gb221, 4, none⟩) (Kd.R_far (p := ⟨gb221, 3, none⟩) (Kd.R_far (p := ⟨gb221, 2, none⟩) (Kd.R_far (p := ⟨gb221, 1, none⟩) (Kd.R_far (p := ⟨gb221, 0, none⟩) (Kd.R_types HO220.out BK221.out (by decide)) (fun _ hk => hk.2) (.int .i64 t214)) (fun _ hk => hk.2) (.int .i64 t215)) (fun _ hk => hk.2) (.int .i64 t216)) (fun _ hk => hk.2) (.int .i64 t217)) (fun _ hk => hk.2) (.slice Ao21 t218.length co21)) (fun _ h_ => h_.1))) hb); have n1_ := bf BK210 hb; have n2_ := bf BK211 hb; have n3_ := bf BK212 hb; have n4_ := bp #[.int .i64 t214, .int .i64 t215, .int .i64 t216, .int .i64 t217, .slice Ao21 t218.length co21] BK221 hb; have n5_ := Aside0.mk (below_step (be HB) hb); clear HO220 BK210 BK211 BK212 BK221 HB; have HO220 := n0_; have BK210 := n1_; have BK211 := n2_; have BK212 := n3_; have BK221 := n4_; have HB := n5_; clear n0_ n1_ n2_ n3_ n4_ n5_; (try clear hb); (try clear hb2); (try clear hk); (try clear hi); obtain ⟨hcz133_0, hcz133_1, hcz133_2, hcz133_3, hcz133_4⟩ := cs5 BK211; obtain ⟨hfz133_0, hfz133_1, hfz133_2, hfz133_3, hfz133_4⟩ := fs5 BK211) | ((with_reducible refine gate_dst (N := 3) rfl ?_); refine box_event ?hg (N := 3) ?hd (cs := #[.int .i64 a1_0, .int .i64 a1_1, .int .i64 a1_2, .int .i64 a1_3, .string a1_4]) (t := 44) ?hr ?_; (case hd => rfl); (case hg => rfl); (case hr => first | (go_simp; done) | (go_simp; rfl)); intro gb223 hg w134 hbox hb; have n5_ := Aside0.mk (below_step (be HB) hb); have BK223 := Aside0.mk (hbox); have GW223 := bs HB hg; have GE223 := bs HB hg; have NB210_223 := bl BK210 hg; have NB223_210 := bg BK210 hg; have NB211_223 := bl BK211 hg; have NB223_211 := bg BK211 hg; have NB212_223 := bl BK212 hg; have NB223_212 := bg BK212 hg; have NB221_223 := bl BK221 hg; have NB223_221 := bg BK221 hg; replace HO220 := Aside0.mk (Kd.R_below (rr HO220) hb); replace BK210 := bq BK210 hb; replace BK211 := bq BK211 hb; replace BK212 := bq BK212 hb; replace BK221 := bq BK221 hb; clear HB; have HB := n5_; clear n5_; clear hb hbox hg; have hnb135 := NB223_210.out; have hnc135 := NB210_223.out; have hnb136 := NB223_211.out; have hnc136 := NB211_223.out; have hnb137 := NB223_212.out; have hnc137 := NB212_223.out; have hnb138 := NB223_221.out; have hnc138 := NB221_223.out; obtain ⟨hcz139_0, hcz139_1, hcz139_2, hcz139_3, hcz139_4⟩ := cs5 BK223; obtain ⟨hfz139_0, hfz139_1, hfz139_2, hfz139_3, hfz139_4⟩ := fs5 BK223) | (go_at_call 102; go_in))
          have n0_ := Aside0.mk (Kd.R_drew HO220.out)
          have n1_ := Aside0.mk (blk_drew BK210.out)
          have n2_ := Aside0.mk (blk_drew BK211.out)
          have n3_ := Aside0.mk (blk_drew BK212.out)
          have n4_ := Aside0.mk (blk_drew BK221.out)
          have n5_ := Aside0.mk (blk_drew BK223.out)
          have n6_ := Aside0.mk (below_drew1 HB.out)
          clear HO220 BK210 BK211 BK212 BK221 BK223 HB; have HO220 := n0_; have BK210 := n1_; have BK211 := n2_; have BK212 := n3_; have BK221 := n4_; have BK223 := n5_; have HB := n6_; clear n0_ n1_ n2_ n3_ n4_ n5_ n6_; refine start_ (n := 30) (S := fun w' => w'.cell? ⟨gb223, 0, none⟩ = some (.int .i64 a1_0) ∧ w'.cell? ⟨gb223, 1, none⟩ = some (.int .i64 a1_1) ∧ w'.cell? ⟨gb223, 2, none⟩ = some (.int .i64 a1_2) ∧ w'.cell? ⟨gb223, 3, none⟩ = some (.int .i64 a1_3) ∧ w'.cell? ⟨gb223, 4, none⟩ = some (.string a1_4) ∧ w'.cell? ⟨gb221, 0, none⟩ = some (.int .i64 t214) ∧ w'.cell? ⟨gb221, 1, none⟩ = some (.int .i64 t215) ∧ w'.cell? ⟨gb221, 2, none⟩ = some (.int .i64 t216) ∧ w'.cell? ⟨gb221, 3, none⟩ = some (.int .i64 t217) ∧ w'.cell? ⟨gb221, 4, none⟩ = some (.slice Ao21 t218.length co21)) (ds := []) #[ff,ff,ff,ff,ff,ff,ff,ff,ff,ff,ff,ff,ff,ff,ff,ff,ff,ff,ff,ff,ff,ff,ff,ff,ff,ff,ff,ff,ff,ff] (by kernel_rfl) rfl rfl ⟨bc BK223 0, bc BK223 1, bc BK223 2, bc BK223 3, bc BK223 4, bc BK221 0, bc BK221 1, bc BK221 2, bc BK221 3, bc BK221 4⟩ (fun hHeld => ?_); refine with_tabW impl_WalStep.tab1009 impl_WalStep.bits1009 (fun HT_ HW_ => ?_)
          generalize w134.drew = w140 at HO220 BK210 BK211 BK212 BK221 BK223 HB hHeld ⊢
          refine pure_ (i := 0) (N := some 53) (v := ?_) (a' := ?_) #[tt,ff,ff,ff,ff,ff,ff,ff,ff,ff,ff,ff,ff,ff,ff,ff,ff,ff,ff,ff,ff,ff,ff,ff,ff,ff,ff,ff,ff,ff] rfl rfl (any_of HT_.out (by kernel_rfl)) (fun _ _ _ h => h) (Or.inl ⟨by rfl, ?_⟩) ?_ ?_
          rotate_left
          ·intro w'; go_simp; with_reducible rfl
          rotate_left
          ·simp only [putL, i64_w, i32_w]; rfl
          refine pure_ (i := 2) (N := some 55) (v := ?_) (a' := ?_) #[tt,ff,tt,ff,ff,ff,ff,ff,ff,ff,ff,ff,ff,ff,ff,ff,ff,ff,ff,ff,ff,ff,ff,ff,ff,ff,ff,ff,ff,ff] rfl rfl (any_of HT_.out (by kernel_rfl)) (fun _ _ _ h => h) (Or.inl ⟨by rfl, ?_⟩) ?_ ?_
          rotate_left
          ·intro w'; go_simp; with_reducible rfl
          rotate_left
          ·simp only [putL, i64_w, i32_w]; rfl
          refine pure_ (i := 3) (N := some 56) (v := ?_) (a' := ?_) #[tt,ff,tt,tt,ff,ff,ff,ff,ff,ff,ff,ff,ff,ff,ff,ff,ff,ff,ff,ff,ff,ff,ff,ff,ff,ff,ff,ff,ff,ff] rfl rfl (any_of HT_.out (by kernel_rfl)) (fun _ _ _ h => h) (Or.inl ⟨by rfl, ?_⟩) ?_ ?_
          rotate_left
          ·intro w'; go_simp; with_reducible rfl
          rotate_left
          ·simp only [putL, i64_w, i32_w]; rfl
          refine take_ (i := 1) (N := some 54) (v := ?_) (a' := ?_) #[tt,tt,tt,tt,ff,ff,ff,ff,ff,ff,ff,ff,ff,ff,ff,ff,ff,ff,ff,ff,ff,ff,ff,ff,ff,ff,ff,ff,ff,ff] rfl rfl (take_ofW HT_.out HW_.out (by kernel_rfl)) (fun _ _ _ h => h) (Or.inl ⟨by rfl, ?_⟩) hHeld ?_ ?_
          rotate_left
          ·rintro w' ⟨s0, s1, s2, s3, s4, s5, s6, s7, s8, s9⟩
           go_simp; with_reducible rfl
          rotate_left
          ·simp only [putL, i64_w, i32_w]; rfl
          refine take_ (i := 4) (N := some 57) (v := ?_) (a' := ?_) #[tt,tt,tt,tt,tt,ff,ff,ff,ff,ff,ff,ff,ff,ff,ff,ff,ff,ff,ff,ff,ff,ff,ff,ff,ff,ff,ff,ff,ff,ff] rfl rfl (take_ofW HT_.out HW_.out (by kernel_rfl)) (fun _ _ _ h => h) (Or.inl ⟨by rfl, ?_⟩) hHeld ?_ ?_
          rotate_left
          ·rintro w' ⟨s0, s1, s2, s3, s4, s5, s6, s7, s8, s9⟩
           go_simp; with_reducible rfl
          rotate_left
          ·simp only [putL, i64_w, i32_w]; rfl
          refine one_ (i := 5) (N := some 58) #[tt,tt,tt,tt,tt,tt,ff,ff,ff,ff,ff,ff,ff,ff,ff,ff,ff,ff,ff,ff,ff,ff,ff,ff,ff,ff,ff,ff,ff,ff] rfl rfl (one_of HT_.out (by kernel_rfl)) (by decide) (fun K hK => ?_)
          refine goes_ Try.func140 (by kernel_rfl) rfl #[.agg #[.int .i64 t214, .int .i64 t215, .int .i64 t216, .int .i64 t217, .slice Ao21 t218.length co21]] (by rfl) rfl rfl (by (try simp only [List.map_toArray, List.map_cons, List.map_nil]); first | done | rfl | (simp only [List.length_drop, List.length_take]; rfl)) ?_
          with_reducible refine (impl_Wal_end.calls t214 t215 t216 t217 _ _ t218 t224 _ ?side1 ?side2 A107.out).mono ?_
          (case side1 => repeat (first | exact (Kd.R_reads' HO220.out).2.2 | (with_reducible refine Kd.C_alloc ?_ _) | (with_reducible refine Kd.C_drewN ?_ _) | (with_reducible refine Kd.C_drew ?_)))
          (case side2 => exact (Kd.R_reads' HO220.out).2.1)
          rintro e w141 ⟨rfl, hb⟩
          refine ⟨_, rfl, ?_⟩
          have n6_ := Aside0.mk (below_step (be HB) hb)
          replace HO220 := Aside0.mk (Kd.R_below (rr HO220) hb); replace BK210 := bq BK210 hb; replace BK211 := bq BK211 hb; replace BK212 := bq BK212 hb; replace BK221 := bq BK221 hb; replace BK223 := bq BK223 hb; clear HB; have HB := n6_; clear n6_; (try clear hb); (try clear hb2); (try clear hk); (try clear hi); refine hK.out _ _ ⟨bc BK223 0, bc BK223 1, bc BK223 2, bc BK223 3, bc BK223 4, bc BK221 0, bc BK221 1, bc BK221 2, bc BK221 3, bc BK221 4⟩ (fun hHeld => ?_)
          clear hK K; refine norm_ (a' := ?_) ?_ ?_
          rotate_left
          ·show Act.put _ (some 58) _ = _
           simp only [putL, i64_w, i32_w]; rfl
          refine pure_ (i := 6) (N := some 59) (v := ?_) (a' := ?_) #[tt,tt,tt,tt,tt,tt,tt,ff,ff,ff,ff,ff,ff,ff,ff,ff,ff,ff,ff,ff,ff,ff,ff,ff,ff,ff,ff,ff,ff,ff] rfl rfl (any_of HT_.out (by kernel_rfl)) (fun _ _ _ h => h) (Or.inl ⟨by rfl, ?_⟩) ?_ ?_
          rotate_left
          ·intro w'; go_simp; with_reducible rfl
          rotate_left
          ·simp only [putL, i64_w, i32_w]; rfl
          refine pure_ (i := 7) (N := some 60) (v := ?_) (a' := ?_) #[tt,tt,tt,tt,tt,tt,tt,tt,ff,ff,ff,ff,ff,ff,ff,ff,ff,ff,ff,ff,ff,ff,ff,ff,ff,ff,ff,ff,ff,ff] rfl rfl (any_of HT_.out (by kernel_rfl)) (fun _ _ _ h => h) (Or.inl ⟨by rfl, ?_⟩) ?_ ?_
          rotate_left
          ·intro w'; go_simp; with_reducible rfl
          rotate_left
          ·simp only [putL, i64_w, i32_w]; rfl
          refine pure_ (i := 8) (N := some 61) (v := ?_) (a' := ?_) #[tt,tt,tt,tt,tt,tt,tt,tt,tt,ff,ff,ff,ff,ff,ff,ff,ff,ff,ff,ff,ff,ff,ff,ff,ff,ff,ff,ff,ff,ff] rfl rfl (any_of HT_.out (by kernel_rfl)) (fun _ _ _ h => h) (Or.inl ⟨by rfl, ?_⟩) ?_ ?_
          rotate_left
          ·intro w'; go_simp; with_reducible rfl
          rotate_left
          ·simp only [putL, i64_w, i32_w]; rfl
          refine pure_ (i := 9) (N := some 62) (v := ?_) (a' := ?_) #[tt,tt,tt,tt,tt,tt,tt,tt,tt,tt,ff,ff,ff,ff,ff,ff,ff,ff,ff,ff,ff,ff,ff,ff,ff,ff,ff,ff,ff,ff] rfl rfl (any_of HT_.out (by kernel_rfl)) (fun _ _ _ h => h) (Or.inl ⟨by rfl, ?_⟩) ?_ ?_
          rotate_left
          ·intro w'; go_simp; with_reducible rfl
          rotate_left
          ·simp only [putL, i64_w, i32_w]; rfl
          refine pure_ (i := 10) (N := some 63) (v := ?_) (a' := ?_) #[tt,tt,tt,tt,tt,tt,tt,tt,tt,tt,tt,ff,ff,ff,ff,ff,ff,ff,ff,ff,ff,ff,ff,ff,ff,ff,ff,ff,ff,ff] rfl rfl (any_of HT_.out (by kernel_rfl)) (fun _ _ _ h => h) (Or.inl ⟨by rfl, ?_⟩) ?_ ?_
          rotate_left
          ·intro w'; go_simp; with_reducible rfl
          rotate_left
          ·simp only [putL, i64_w, i32_w]; rfl
          refine pure_ (i := 11) (N := some 64) (v := ?_) (a' := ?_) #[tt,tt,tt,tt,tt,tt,tt,tt,tt,tt,tt,tt,ff,ff,ff,ff,ff,ff,ff,ff,ff,ff,ff,ff,ff,ff,ff,ff,ff,ff] rfl rfl (any_of HT_.out (by kernel_rfl)) (fun _ _ _ h => h) (Or.inl ⟨by rfl, ?_⟩) ?_ ?_
          rotate_left
          ·intro w'; go_simp; with_reducible rfl
          rotate_left
          ·simp only [putL, i64_w, i32_w]; rfl
          refine take_ (i := 12) (N := some 65) (v := ?_) (a' := ?_) #[tt,tt,tt,tt,tt,tt,tt,tt,tt,tt,tt,tt,tt,ff,ff,ff,ff,ff,ff,ff,ff,ff,ff,ff,ff,ff,ff,ff,ff,ff] rfl rfl (take_ofW HT_.out HW_.out (by kernel_rfl)) (fun _ _ _ h => h) (Or.inl ⟨by rfl, ?_⟩) hHeld ?_ ?_
          rotate_left
          ·rintro w' ⟨s0, s1, s2, s3, s4, s5, s6, s7, s8, s9⟩
           go_simp; with_reducible rfl
          rotate_left
          ·simp only [putL, i64_w, i32_w]; rfl
          refine pure_ (i := 13) (N := some 66) (v := ?_) (a' := ?_) #[tt,tt,tt,tt,tt,tt,tt,tt,tt,tt,tt,tt,tt,tt,ff,ff,ff,ff,ff,ff,ff,ff,ff,ff,ff,ff,ff,ff,ff,ff] rfl rfl (any_of HT_.out (by kernel_rfl)) (fun _ _ _ h => h) (Or.inl ⟨by rfl, ?_⟩) ?_ ?_
          rotate_left
          ·intro w'; go_simp; with_reducible rfl
          rotate_left
          ·simp only [putL, i64_w, i32_w]; rfl
          refine pure_ (i := 14) (N := some 67) (v := ?_) (a' := ?_) #[tt,tt,tt,tt,tt,tt,tt,tt,tt,tt,tt,tt,tt,tt,tt,ff,ff,ff,ff,ff,ff,ff,ff,ff,ff,ff,ff,ff,ff,ff] rfl rfl (any_of HT_.out (by kernel_rfl)) (fun _ _ _ h => h) (Or.inl ⟨by rfl, ?_⟩) ?_ ?_
          rotate_left
          ·intro w'; go_simp; with_reducible rfl
          rotate_left
          ·simp only [putL, i64_w, i32_w]; rfl
          refine pure_ (i := 15) (N := some 68) (v := ?_) (a' := ?_) #[tt,tt,tt,tt,tt,tt,tt,tt,tt,tt,tt,tt,tt,tt,tt,tt,ff,ff,ff,ff,ff,ff,ff,ff,ff,ff,ff,ff,ff,ff] rfl rfl (any_of HT_.out (by kernel_rfl)) (fun _ _ _ h => h) (Or.inl ⟨by rfl, ?_⟩) ?_ ?_
          rotate_left
          ·intro w'; go_simp; with_reducible rfl
          rotate_left
          ·simp only [putL, i64_w, i32_w]; rfl
          refine pure_ (i := 16) (N := some 69) (v := ?_) (a' := ?_) #[tt,tt,tt,tt,tt,tt,tt,tt,tt,tt,tt,tt,tt,tt,tt,tt,tt,ff,ff,ff,ff,ff,ff,ff,ff,ff,ff,ff,ff,ff] rfl rfl (any_of HT_.out (by kernel_rfl)) (fun _ _ _ h => h) (Or.inl ⟨by rfl, ?_⟩) ?_ ?_
          rotate_left
          ·intro w'; go_simp; with_reducible rfl
          rotate_left
          ·simp only [putL, i64_w, i32_w]; rfl
          refine pure_ (i := 17) (N := some 70) (v := ?_) (a' := ?_) #[tt,tt,tt,tt,tt,tt,tt,tt,tt,tt,tt,tt,tt,tt,tt,tt,tt,tt,ff,ff,ff,ff,ff,ff,ff,ff,ff,ff,ff,ff] rfl rfl (any_of HT_.out (by kernel_rfl)) (fun _ _ _ h => h) (Or.inl ⟨by rfl, ?_⟩) ?_ ?_
          rotate_left
          ·intro w'; go_simp; with_reducible rfl
          rotate_left
          ·simp only [putL, i64_w, i32_w]; rfl
          refine pure_ (i := 19) (N := some 72) (v := ?_) (a' := ?_) #[tt,tt,tt,tt,tt,tt,tt,tt,tt,tt,tt,tt,tt,tt,tt,tt,tt,tt,ff,tt,ff,ff,ff,ff,ff,ff,ff,ff,ff,ff] rfl rfl (any_of HT_.out (by kernel_rfl)) (fun _ _ _ h => h) (Or.inl ⟨by rfl, ?_⟩) ?_ ?_
          rotate_left
          ·intro w'; go_simp; with_reducible rfl
          rotate_left
          ·simp only [putL, i64_w, i32_w]; rfl
          refine pure_ (i := 20) (N := some 73) (v := ?_) (a' := ?_) #[tt,tt,tt,tt,tt,tt,tt,tt,tt,tt,tt,tt,tt,tt,tt,tt,tt,tt,ff,tt,tt,ff,ff,ff,ff,ff,ff,ff,ff,ff] rfl rfl (any_of HT_.out (by kernel_rfl)) (fun _ _ _ h => h) (Or.inl ⟨by rfl, ?_⟩) ?_ ?_
          rotate_left
          ·intro w'; go_simp; with_reducible rfl
          rotate_left
          ·simp only [putL, i64_w, i32_w]; rfl
          refine pure_ (i := 23) (N := some 76) (v := ?_) (a' := ?_) #[tt,tt,tt,tt,tt,tt,tt,tt,tt,tt,tt,tt,tt,tt,tt,tt,tt,tt,ff,tt,tt,ff,ff,tt,ff,ff,ff,ff,ff,ff] rfl rfl (any_of HT_.out (by kernel_rfl)) (fun _ _ _ h => h) (Or.inl ⟨by rfl, ?_⟩) ?_ ?_
          rotate_left
          ·intro w'; go_simp; with_reducible rfl
          rotate_left
          ·simp only [putL, i64_w, i32_w]; rfl
          refine pure_ (i := 24) (N := some 77) (v := ?_) (a' := ?_) #[tt,tt,tt,tt,tt,tt,tt,tt,tt,tt,tt,tt,tt,tt,tt,tt,tt,tt,ff,tt,tt,ff,ff,tt,tt,ff,ff,ff,ff,ff] rfl rfl (any_of HT_.out (by kernel_rfl)) (fun _ _ _ h => h) (Or.inl ⟨by rfl, ?_⟩) ?_ ?_
          rotate_left
          ·intro w'; go_simp; with_reducible rfl
          rotate_left
          ·simp only [putL, i64_w, i32_w]; rfl
          refine pure_ (i := 25) (N := some 78) (v := ?_) (a' := ?_) #[tt,tt,tt,tt,tt,tt,tt,tt,tt,tt,tt,tt,tt,tt,tt,tt,tt,tt,ff,tt,tt,ff,ff,tt,tt,tt,ff,ff,ff,ff] rfl rfl (any_of HT_.out (by kernel_rfl)) (fun _ _ _ h => h) (Or.inl ⟨by rfl, ?_⟩) ?_ ?_
          rotate_left
          ·intro w'; go_simp; with_reducible rfl
          rotate_left
          ·simp only [putL, i64_w, i32_w]; rfl
          refine take_ (i := 18) (N := some 71) (v := ?_) (a' := ?_) #[tt,tt,tt,tt,tt,tt,tt,tt,tt,tt,tt,tt,tt,tt,tt,tt,tt,tt,tt,tt,tt,ff,ff,tt,tt,tt,ff,ff,ff,ff] rfl rfl (take_ofW HT_.out HW_.out (by kernel_rfl)) (fun _ _ _ h => h) (Or.inl ⟨by rfl, ?_⟩) hHeld ?_ ?_
          rotate_left
          ·rintro w' ⟨s0, s1, s2, s3, s4, s5, s6, s7, s8, s9⟩
           go_simp; with_reducible rfl
          rotate_left
          ·simp only [putL, i64_w, i32_w]; rfl
          refine take_ (i := 21) (N := some 74) (v := ?_) (a' := ?_) #[tt,tt,tt,tt,tt,tt,tt,tt,tt,tt,tt,tt,tt,tt,tt,tt,tt,tt,tt,tt,tt,tt,ff,tt,tt,tt,ff,ff,ff,ff] rfl rfl (take_ofW HT_.out HW_.out (by kernel_rfl)) (fun _ _ _ h => h) (Or.inl ⟨by rfl, ?_⟩) hHeld ?_ ?_
          rotate_left
          ·rintro w' ⟨s0, s1, s2, s3, s4, s5, s6, s7, s8, s9⟩
           go_simp; with_reducible rfl
          rotate_left
          ·simp only [putL, i64_w, i32_w]; rfl
          refine take_ (i := 26) (N := some 79) (v := ?_) (a' := ?_) #[tt,tt,tt,tt,tt,tt,tt,tt,tt,tt,tt,tt,tt,tt,tt,tt,tt,tt,tt,tt,tt,tt,ff,tt,tt,tt,tt,ff,ff,ff] rfl rfl (take_ofW HT_.out HW_.out (by kernel_rfl)) (fun _ _ _ h => h) (Or.inl ⟨by rfl, ?_⟩) hHeld ?_ ?_
          rotate_left
          ·rintro w' ⟨s0, s1, s2, s3, s4, s5, s6, s7, s8, s9⟩
           go_simp; with_reducible rfl
          rotate_left
          ·simp only [putL, i64_w, i32_w]; rfl
          refine one_ (i := 22) (N := some 75) #[tt,tt,tt,tt,tt,tt,tt,tt,tt,tt,tt,tt,tt,tt,tt,tt,tt,tt,tt,tt,tt,tt,tt,tt,tt,tt,tt,ff,ff,ff] rfl rfl (one_of HT_.out (by kernel_rfl)) (by decide) (fun K hK => ?_)
          refine goes_ Try.func142 (by kernel_rfl) rfl #[.agg #[.int .i64 t214, .int .i64 t215, .int .i64 t216, .int .i64 t217, .slice Ao21 t218.length co21]] (by rfl) rfl rfl (by (try simp only [List.map_toArray, List.map_cons, List.map_nil]); first | done | rfl | (simp only [List.length_drop, List.length_take]; rfl)) ?_
          with_reducible refine (impl_Wal_endTerm.calls t214 t215 t216 t217 _ _ t218 t225 _ ?side1 ?side2 A124.out).mono ?_
          (case side1 => repeat (first | exact (Kd.R_reads' HO220.out).2.2 | (with_reducible refine Kd.C_alloc ?_ _) | (with_reducible refine Kd.C_drewN ?_ _) | (with_reducible refine Kd.C_drew ?_)))
          (case side2 => exact (Kd.R_reads' HO220.out).2.1)
          rintro e w142 ⟨rfl, hb⟩
          refine ⟨_, rfl, ?_⟩
          have n6_ := Aside0.mk (below_step (be HB) hb)
          replace HO220 := Aside0.mk (Kd.R_below (rr HO220) hb); replace BK210 := bq BK210 hb; replace BK211 := bq BK211 hb; replace BK212 := bq BK212 hb; replace BK221 := bq BK221 hb; replace BK223 := bq BK223 hb; clear HB; have HB := n6_; clear n6_; (try clear hb); (try clear hb2); (try clear hk); (try clear hi); refine hK.out _ _ ⟨bc BK223 0, bc BK223 1, bc BK223 2, bc BK223 3, bc BK223 4, bc BK221 0, bc BK221 1, bc BK221 2, bc BK221 3, bc BK221 4⟩ (fun hHeld => ?_)
          clear hK K; refine norm_ (a' := ?_) ?_ ?_
          rotate_left
          ·show Act.put _ (some 75) _ = _
           simp only [putL, i64_w, i32_w]; rfl
          refine one_ (i := 27) (N := some 80) #[tt,tt,tt,tt,tt,tt,tt,tt,tt,tt,tt,tt,tt,tt,tt,tt,tt,tt,tt,tt,tt,tt,tt,tt,tt,tt,tt,tt,ff,ff] rfl rfl (one_of HT_.out (by kernel_rfl)) (by decide) (fun K hK => ?_)
          refine goes_ Try.func77 (by kernel_rfl) rfl #[.int .i64 a1_1, .int .i64 t225, .int .i64 t214] (by rfl) rfl rfl (by (try simp only [List.map_toArray, List.map_cons, List.map_nil]); first | done | rfl | (simp only [List.length_drop, List.length_take]; rfl)) ?_
          with_reducible refine (impl_within.calls a1_1 t225 t214 true _ A125.out).mono ?_
          rintro e w' ⟨rfl, ⟨nd, rfl⟩⟩
          refine ⟨_, rfl, ?_⟩
          refine hK.out _ _ ⟨bc BK223 0, bc BK223 1, bc BK223 2, bc BK223 3, bc BK223 4, bc BK221 0, bc BK221 1, bc BK221 2, bc BK221 3, bc BK221 4⟩ (fun hHeld => ?_)
          clear hK K; refine norm_ (a' := ?_) ?_ ?_
          rotate_left
          ·show Act.put _ (some 80) _ = _
           simp only [putL, i64_w, i32_w]; rfl
          refine pure_ (i := 28) (N := some 81) (v := ?_) (a' := ?_) #[tt,tt,tt,tt,tt,tt,tt,tt,tt,tt,tt,tt,tt,tt,tt,tt,tt,tt,tt,tt,tt,tt,tt,tt,tt,tt,tt,tt,tt,ff] rfl rfl (any_of HT_.out (by kernel_rfl)) (fun _ _ _ h => h) (Or.inl ⟨by rfl, ?_⟩) ?_ ?_
          rotate_left
          ·intro w'; go_simp; with_reducible rfl
          rotate_left
          ·simp only [putL, i64_w, i32_w]; rfl
          refine pure_ (i := 29) (N := some 82) (v := ?_) (a' := ?_) #[tt,tt,tt,tt,tt,tt,tt,tt,tt,tt,tt,tt,tt,tt,tt,tt,tt,tt,tt,tt,tt,tt,tt,tt,tt,tt,tt,tt,tt,tt] rfl rfl (any_of HT_.out (by kernel_rfl)) (fun _ _ _ h => h) (Or.inl ⟨by rfl, ?_⟩) ?_ ?_
          rotate_left
          ·intro w'; go_simp; with_reducible rfl
          rotate_left
          ·simp only [putL, i64_w, i32_w]; rfl
          refine done_ (done_of HT_.out (by kernel_rfl)) ?_
          go_wp2
          (try (rw [drewN_self w142]; generalize hq_ : World.drewN w142 _ = w142; have n0_ : Aside0 (Kd.R k125 125 w142 w.heap.size (fun _ => True) (.slice Ao21 t218.length co21) t218) := ⟨by rw [← hq_]; exact (rr HO220)⟩; have n1_ : Aside0 (w142.heap[gb210]? = some (.cells #[.int .i64 a0_0, .int .i64 a0_1, .int .i64 a0_2, .int .i64 a0_3, .slice A0_4 l0_4.length c0_4] 62 (0, 0))) := ⟨by rw [← hq_]; exact (by (with_reducible repeat first | refine bkN ?_ _ | refine bkD ?_ | refine bkA ?_ _); exact BK210.out)⟩; have n2_ : Aside0 (w142.heap[gb211]? = some (.cells #[.int .i64 a1_0, .int .i64 a1_1, .int .i64 a1_2, .int .i64 a1_3, .string a1_4] 44 (0, 0))) := ⟨by rw [← hq_]; exact (by (with_reducible repeat first | refine bkN ?_ _ | refine bkD ?_ | refine bkA ?_ _); exact BK211.out)⟩; have n3_ : Aside0 (w142.heap[gb212]? = some (.cells #[.int .i64 0, .int .i64 0, .int .i64 0, .int .i64 0, .slice none 0 0] 62 (0, 0))) := ⟨by rw [← hq_]; exact (by (with_reducible repeat first | refine bkN ?_ _ | refine bkD ?_ | refine bkA ?_ _); exact BK212.out)⟩; have n4_ : Aside0 (w142.heap[gb221]? = some (.cells #[.int .i64 t214, .int .i64 t215, .int .i64 t216, .int .i64 t217, .slice Ao21 t218.length co21] 62 (0, 0))) := ⟨by rw [← hq_]; exact (by (with_reducible repeat first | refine bkN ?_ _ | refine bkD ?_ | refine bkA ?_ _); exact BK221.out)⟩; have n5_ : Aside0 (w142.heap[gb223]? = some (.cells #[.int .i64 a1_0, .int .i64 a1_1, .int .i64 a1_2, .int .i64 a1_3, .string a1_4] 44 (0, 0))) := ⟨by rw [← hq_]; exact (by (with_reducible repeat first | refine bkN ?_ _ | refine bkD ?_ | refine bkA ?_ _); exact BK223.out)⟩; have n6_ : Aside0 (Below w.heap.size w w142) := ⟨by rw [← hq_]; exact (be HB)⟩; clear HO220 BK210 BK211 BK212 BK221 BK223 HB hq_; have HO220 := n0_; have BK210 := n1_; have BK211 := n2_; have BK212 := n3_; have BK221 := n4_; have BK223 := n5_; have HB := n6_; clear n0_ n1_ n2_ n3_ n4_ n5_ n6_))
          have n0_ := Aside0.mk (Kd.R_drew HO220.out)
          have n1_ := Aside0.mk (blk_drew BK210.out)
          have n2_ := Aside0.mk (blk_drew BK211.out)
          have n3_ := Aside0.mk (blk_drew BK212.out)
          have n4_ := Aside0.mk (blk_drew BK221.out)
          have n5_ := Aside0.mk (blk_drew BK223.out)
          have n6_ := Aside0.mk (below_drew1 HB.out)
          clear HO220 BK210 BK211 BK212 BK221 BK223 HB; have HO220 := n0_; have BK210 := n1_; have BK211 := n2_; have BK212 := n3_; have BK221 := n4_; have BK223 := n5_; have HB := n6_; clear n0_ n1_ n2_ n3_ n4_ n5_ n6_; refine start_ (n := 15) (S := fun w' => w'.cell? ⟨gb221, 0, none⟩ = some (.int .i64 t214) ∧ w'.cell? ⟨gb221, 1, none⟩ = some (.int .i64 t215) ∧ w'.cell? ⟨gb221, 2, none⟩ = some (.int .i64 t216) ∧ w'.cell? ⟨gb221, 3, none⟩ = some (.int .i64 t217) ∧ w'.cell? ⟨gb221, 4, none⟩ = some (.slice Ao21 t218.length co21) ∧ w'.cell? ⟨gb223, 0, none⟩ = some (.int .i64 a1_0) ∧ w'.cell? ⟨gb223, 1, none⟩ = some (.int .i64 a1_1) ∧ w'.cell? ⟨gb223, 2, none⟩ = some (.int .i64 a1_2) ∧ w'.cell? ⟨gb223, 3, none⟩ = some (.int .i64 a1_3) ∧ w'.cell? ⟨gb223, 4, none⟩ = some (.string a1_4)) (ds := [14]) #[ff,ff,ff,ff,ff,ff,ff,ff,ff,ff,ff,ff,ff,ff,ff] (by kernel_rfl) rfl rfl ⟨bc BK221 0, bc BK221 1, bc BK221 2, bc BK221 3, bc BK221 4, bc BK223 0, bc BK223 1, bc BK223 2, bc BK223 3, bc BK223 4⟩ (fun hHeld => ?_); refine with_tabW impl_WalStep.tab1011 impl_WalStep.bits1011 (fun HT_ HW_ => ?_)
          generalize w142.drew = w143 at HO220 BK210 BK211 BK212 BK221 BK223 HB hHeld ⊢
          refine pure_ (i := 0) (N := some 83) (v := ?_) (a' := ?_) #[tt,ff,ff,ff,ff,ff,ff,ff,ff,ff,ff,ff,ff,ff,ff] rfl rfl (any_of HT_.out (by kernel_rfl)) (fun _ _ _ h => h) (Or.inl ⟨by rfl, ?_⟩) ?_ ?_
          rotate_left
          ·intro w'; go_simp; with_reducible rfl
          rotate_left
          ·simp only [putL, i64_w, i32_w]; rfl
          refine pure_ (i := 1) (N := some 84) (v := ?_) (a' := ?_) #[tt,tt,ff,ff,ff,ff,ff,ff,ff,ff,ff,ff,ff,ff,ff] rfl rfl (any_of HT_.out (by kernel_rfl)) (fun _ _ _ h => h) (Or.inl ⟨by rfl, ?_⟩) ?_ ?_
          rotate_left
          ·intro w'; go_simp; with_reducible rfl
          rotate_left
          ·simp only [putL, i64_w, i32_w]; rfl
          refine pure_ (i := 2) (N := some 85) (v := ?_) (a' := ?_) #[tt,tt,tt,ff,ff,ff,ff,ff,ff,ff,ff,ff,ff,ff,ff] rfl rfl (any_of HT_.out (by kernel_rfl)) (fun _ _ _ h => h) (Or.inl ⟨by rfl, ?_⟩) ?_ ?_
          rotate_left
          ·intro w'; go_simp; with_reducible rfl
          rotate_left
          ·simp only [putL, i64_w, i32_w]; rfl
          refine pure_ (i := 3) (N := some 86) (v := ?_) (a' := ?_) #[tt,tt,tt,tt,ff,ff,ff,ff,ff,ff,ff,ff,ff,ff,ff] rfl rfl (any_of HT_.out (by kernel_rfl)) (fun _ _ _ h => h) (Or.inl ⟨by rfl, ?_⟩) ?_ ?_
          rotate_left
          ·intro w'; go_simp; with_reducible rfl
          rotate_left
          ·simp only [putL, i64_w, i32_w]; rfl
          refine pure_ (i := 5) (N := some 88) (v := ?_) (a' := ?_) #[tt,tt,tt,tt,ff,tt,ff,ff,ff,ff,ff,ff,ff,ff,ff] rfl rfl (any_of HT_.out (by kernel_rfl)) (fun _ _ _ h => h) (Or.inl ⟨by rfl, ?_⟩) ?_ ?_
          rotate_left
          ·intro w'; go_simp; with_reducible rfl
          rotate_left
          ·simp only [putL, i64_w, i32_w]; rfl
          refine pure_ (i := 7) (N := some 90) (v := ?_) (a' := ?_) #[tt,tt,tt,tt,ff,tt,ff,tt,ff,ff,ff,ff,ff,ff,ff] rfl rfl (any_of HT_.out (by kernel_rfl)) (fun _ _ _ h => h) (Or.inl ⟨by rfl, ?_⟩) ?_ ?_
          rotate_left
          ·intro w'; go_simp; with_reducible rfl
          rotate_left
          ·simp only [putL, i64_w, i32_w]; rfl
          refine take_ (i := 4) (N := some 87) (v := ?_) (a' := ?_) #[tt,tt,tt,tt,tt,tt,ff,tt,ff,ff,ff,ff,ff,ff,ff] rfl rfl (take_ofW HT_.out HW_.out (by kernel_rfl)) (fun _ _ _ h => h) (Or.inl ⟨by rfl, ?_⟩) hHeld ?_ ?_
          rotate_left
          ·rintro w' ⟨s0, s1, s2, s3, s4, s5, s6, s7, s8, s9⟩
           go_simp; with_reducible rfl
          rotate_left
          ·simp only [putL, i64_w, i32_w]; rfl
          refine take_ (i := 6) (N := some 89) (v := ?_) (a' := ?_) #[tt,tt,tt,tt,tt,tt,tt,tt,ff,ff,ff,ff,ff,ff,ff] rfl rfl (take_ofW HT_.out HW_.out (by kernel_rfl)) (fun _ _ _ h => h) (Or.inl ⟨by rfl, ?_⟩) hHeld ?_ ?_
          rotate_left
          ·rintro w' ⟨s0, s1, s2, s3, s4, s5, s6, s7, s8, s9⟩
           go_simp; with_reducible rfl
          rotate_left
          ·simp only [putL, i64_w, i32_w]; rfl
          refine take_ (i := 8) (N := some 91) (v := ?_) (a' := ?_) #[tt,tt,tt,tt,tt,tt,tt,tt,tt,ff,ff,ff,ff,ff,ff] rfl rfl (take_ofW HT_.out HW_.out (by kernel_rfl)) (fun _ _ _ h => h) (Or.inl ⟨by rfl, ?_⟩) hHeld ?_ ?_
          rotate_left
          ·rintro w' ⟨s0, s1, s2, s3, s4, s5, s6, s7, s8, s9⟩
           go_simp; with_reducible rfl
          rotate_left
          ·simp only [putL, i64_w, i32_w]; rfl
          refine pure_ (i := 9) (N := some 92) (v := ?_) (a' := ?_) #[tt,tt,tt,tt,tt,tt,tt,tt,tt,tt,ff,ff,ff,ff,ff] rfl rfl (any_of HT_.out (by kernel_rfl)) (fun _ _ _ h => h) (Or.inl ⟨by rfl, ?_⟩) ?_ ?_
          rotate_left
          ·intro w'; go_simp; with_reducible rfl
          rotate_left
          ·simp only [putL, i64_w, i32_w]; rfl
          refine one_ (i := 10) (N := some 93) #[tt,tt,tt,tt,tt,tt,tt,tt,tt,tt,tt,ff,ff,ff,ff] rfl rfl (one_of HT_.out (by kernel_rfl)) (by decide) (fun K hK => ?_)
          refine value_ (w1 := ?_) (v := ?_) (by rfl) rfl ?_ ?_
          rotate_left 2
          ·go_simp
           constructor
           ·rfl
           ·rfl
          refine hK.out _ _ ⟨(blk_cell (blk_alloc BK221.out _) 0).trans rfl, (blk_cell (blk_alloc BK221.out _) 1).trans rfl, (blk_cell (blk_alloc BK221.out _) 2).trans rfl, (blk_cell (blk_alloc BK221.out _) 3).trans rfl, (blk_cell (blk_alloc BK221.out _) 4).trans rfl, (blk_cell (blk_alloc BK223.out _) 0).trans rfl, (blk_cell (blk_alloc BK223.out _) 1).trans rfl, (blk_cell (blk_alloc BK223.out _) 2).trans rfl, (blk_cell (blk_alloc BK223.out _) 3).trans rfl, (blk_cell (blk_alloc BK223.out _) 4).trans rfl⟩ (fun hHeld => ?_)
          clear hK K; refine norm_ (a' := ?_) ?_ ?_
          rotate_left
          ·show Act.put _ (some 93) _ = _
           simp only [putL, i64_w, i32_w]; rfl
          refine one_ (i := 11) (N := some 94) #[tt,tt,tt,tt,tt,tt,tt,tt,tt,tt,tt,tt,ff,ff,ff] rfl rfl (one_of HT_.out (by kernel_rfl)) (by decide) (fun K hK => ?_)
          refine Kd.R_append_step k125 (w0 := w) w.heap.size (by rfl) (.tmp 87) (.tmp 93) 60 125 (.agg #[(.int .i64 0), (.string ⟨#[]⟩)]) 24 rfl Try.underlying60 info125 rfl (by decide) (by omega) (.slice Ao21 t218.length co21) t218 (⟨a1_1, a1_4⟩ : S125) [.int .i64 a1_1, .string a1_4] (fun _ => True) (fun _ => False) rfl rfl ?aP (fun _ hk => hk.elim) ?aF ?aO ?aB ?aS ?aL ?_
          (case aP => exact k125_mkM _ _ _ (⟨a1_1, a1_4⟩ : S125))
          (case aB => exact (be HB))
          (case aF => exact (fun _ _ => trivial))
          (case aO => exact (rr HO220))
          (case aS => exact (below_size (be HB)))
          (case aL => have := LMc127.out; omega)
          intro v228 w144 ho hb hg hat
          rw [← Ny227.out] at ho
          have n0_ := Aside0.mk (blk_grown (g := gb210) (o := .cells #[.int .i64 a0_0, .int .i64 a0_1, .int .i64 a0_2, .int .i64 a0_3, .slice A0_4 l0_4.length c0_4] 62 (0, 0)) (by (with_reducible repeat first | refine bkN ?_ _ | refine bkD ?_ | refine bkA ?_ _); exact BK210.out) hg (Kd.R_ne HO220.out BK210.out (by decide)))
          have n1_ := Aside0.mk (blk_grown (g := gb211) (o := .cells #[.int .i64 a1_0, .int .i64 a1_1, .int .i64 a1_2, .int .i64 a1_3, .string a1_4] 44 (0, 0)) (by (with_reducible repeat first | refine bkN ?_ _ | refine bkD ?_ | refine bkA ?_ _); exact BK211.out) hg (Kd.R_ne HO220.out BK211.out (by decide)))
          have n2_ := Aside0.mk (blk_grown (g := gb212) (o := .cells #[.int .i64 0, .int .i64 0, .int .i64 0, .int .i64 0, .slice none 0 0] 62 (0, 0)) (by (with_reducible repeat first | refine bkN ?_ _ | refine bkD ?_ | refine bkA ?_ _); exact BK212.out) hg (Kd.R_ne HO220.out BK212.out (by decide)))
          have n3_ := Aside0.mk (blk_grown (g := gb221) (o := .cells #[.int .i64 t214, .int .i64 t215, .int .i64 t216, .int .i64 t217, .slice Ao21 t218.length co21] 62 (0, 0)) (by (with_reducible repeat first | refine bkN ?_ _ | refine bkD ?_ | refine bkA ?_ _); exact BK221.out) hg (Kd.R_ne HO220.out BK221.out (by decide)))
          have n4_ := Aside0.mk (blk_grown (g := gb223) (o := .cells #[.int .i64 a1_0, .int .i64 a1_1, .int .i64 a1_2, .int .i64 a1_3, .string a1_4] 44 (0, 0)) (by (with_reducible repeat first | refine bkN ?_ _ | refine bkD ?_ | refine bkA ?_ _); exact BK223.out) hg (Kd.R_ne HO220.out BK223.out (by decide)))
          have n5_ := Aside0.mk (hb)
          have HO229 := Aside0.mk (ho)
          clear HO220 BK210 BK211 BK212 BK221 BK223 HB; have BK210 := n0_; have BK211 := n1_; have BK212 := n2_; have BK221 := n3_; have BK223 := n4_; have HB := n5_; clear n0_ n1_ n2_ n3_ n4_ n5_; clear ho hb hg hat; obtain ⟨Ao145, co145, eo145⟩ := Kd.R_slice HO229.out
          (first | subst eo145 | (injection eo145 with f1_ f2_ f3_; have f4_ := f1_.symm; have f5_ := f3_.symm; clear f1_ f2_ f3_; subst f4_; subst f5_))
          refine hK.out _ _ ⟨bc BK221 0, bc BK221 1, bc BK221 2, bc BK221 3, bc BK221 4, bc BK223 0, bc BK223 1, bc BK223 2, bc BK223 3, bc BK223 4⟩ (fun hHeld => ?_)
          clear hK K; refine norm_ (a' := ?_) ?_ ?_
          rotate_left
          ·show Act.put _ (some 94) _ = _
           simp only [putL, i64_w, i32_w]; rfl
          refine pure_ (i := 12) (N := some 95) (v := ?_) (a' := ?_) #[tt,tt,tt,tt,tt,tt,tt,tt,tt,tt,tt,tt,tt,ff,ff] rfl rfl (any_of HT_.out (by kernel_rfl)) (fun _ _ _ h => h) (Or.inl ⟨by rfl, ?_⟩) ?_ ?_
          rotate_left
          ·intro w'; go_simp; with_reducible rfl
          rotate_left
          ·simp only [putL, i64_w, i32_w]; rfl
          refine pure_ (i := 13) (N := some 96) (v := ?_) (a' := ?_) #[tt,tt,tt,tt,tt,tt,tt,tt,tt,tt,tt,tt,tt,tt,ff] rfl rfl (any_of HT_.out (by kernel_rfl)) (fun _ _ _ h => h) (Or.inl ⟨by rfl, ?_⟩) ?_ ?_
          rotate_left
          ·intro w'; go_simp; with_reducible rfl
          rotate_left
          ·simp only [putL, i64_w, i32_w]; rfl
          refine last_ (i := 14) (N := none) #[tt,tt,tt,tt,tt,tt,tt,tt,tt,tt,tt,tt,tt,tt,tt] rfl rfl (one_of HT_.out (by kernel_rfl)) (by decide) (fun K hK => ?_)
          have hs146 : w144.cell? ⟨gb221, 4, none⟩ = some (.slice Ao21 t218.length co21) := bc BK221 4
          have hfs146 := blk_frozen BK221.out 4; have hns146_0 := NB210_221.out; have hns146_1 := NB211_221.out; have hns146_2 := NB212_221.out; have hns146_4 := NB223_221.out; have hms146_0 := NB221_210.out; have hms146_1 := NB221_211.out; have hms146_2 := NB221_212.out; have hms146_4 := NB221_223.out; refine skip_ (w1 := ?_) (by rfl) rfl ?_ ?_
          rotate_left
          ·go_simp; rfl
          refine hK.out _ _ ?_
          clear hK K; refine done_ (done_of HT_.out (by kernel_rfl)) ?_
          go_wp2
          go_meet
          case rel => exact ⟨_, (!true), (t214), (t215), (t216), (t217), (y227), (.slice Ao145 y227.length co145), (by first | rfl | (simp; done) | (simp [*]; done)), H', ⟨by first | omega | exact Nat.le_refl _⟩, ⟨by (with_reducible repeat (first | apply Kd.R_alloc | apply Kd.R_drewN | apply Kd.R_drew)); exact Kd.R_mono (Kd.R_far (p := ⟨gb221, 4, none⟩) (Kd.R_types HO229.out BK221.out (by decide)) (fun _ hk => hk.2) (.slice Ao145 y227.length co145)) (fun _ hk => trivial)⟩, ⟨by (with_reducible repeat first | refine bkN ?_ _ | refine bkD ?_ | refine bkA ?_ _ | refine blk_far ?_ NB210_221.out _); exact BK210.out⟩, ⟨by (with_reducible repeat first | refine bkN ?_ _ | refine bkD ?_ | refine bkA ?_ _ | refine blk_far ?_ NB211_221.out _); exact BK211.out⟩, ⟨by (with_reducible repeat first | refine bkN ?_ _ | refine bkD ?_ | refine bkA ?_ _ | refine blk_far ?_ NB212_221.out _); exact BK212.out⟩, ⟨by (with_reducible repeat first | refine bkN ?_ _ | refine bkD ?_ | refine bkA ?_ _); refine blk_put (cs := #[.int .i64 t214, .int .i64 t215, .int .i64 t216, .int .i64 t217, .slice Ao21 t218.length co21]) ?_ 4 _ rfl; (with_reducible repeat first | refine bkN ?_ _ | refine bkD ?_ | refine bkA ?_ _); exact BK221.out⟩, ⟨by repeat (first | (with_reducible first | exact HB.out | apply below_alloc | apply pw_below_drewN | apply below_drew1 | refine below_set ?_ GE210.out | refine below_set ?_ GE211.out | refine below_set ?_ GE212.out | refine below_set ?_ GE221.out | refine below_set ?_ GE223.out) | exact HB.out)⟩⟩
         ·rw [if_neg c127] at H
          exact absurd H (by simp)
        ·replace c126 := Bool.eq_false_iff.mpr c126
         subst c126
         have H1 : (impl_WalStep.j0 k (!false) a0_0 a0_1 a0_2 a0_3 l0_4 t214 t215 t216 t217 t218) = some (r1, r2, r3, r4, r5, r6) := by rw [if_neg (show ¬ (false = true) by decide)] at H; exact H
         clear H; have H := H1
         clear H1; have H' := Aside0.mk H
         clear H; have hnb147 := NB211_210.out; have hnc147 := NB210_211.out; have hnb148 := NB211_212.out; have hnc148 := NB212_211.out; have hnb149 := NB211_221.out; have hnc149 := NB221_211.out; obtain ⟨hcz150_0, hcz150_1, hcz150_2, hcz150_3, hcz150_4⟩ := cs5 BK211; obtain ⟨hfz150_0, hfz150_1, hfz150_2, hfz150_3, hfz150_4⟩ := fs5 BK211
         go_wp2_with (first | ((with_reducible refine gate_callee (f := 101) rfl ?_); refine goesL_ (some 14) rfl rfl Try.func101 (by kernel_rfl) rfl #[.agg #[.int .i64 a1_0, .int .i64 a1_1, .int .i64 a1_2, .int .i64 a1_3, .string a1_4]] rfl (by (try simp only [List.map_toArray, List.map_cons, List.map_nil]); first | done | rfl | (simp only [List.length_drop, List.length_take]; rfl)) ?_; (with_reducible refine (impl_RecOk.calls a1_0 a1_1 a1_2 a1_3 a1_4 true _ A22.out).mono ?_); rintro e w151 ⟨rfl, hb⟩; refine ⟨_, rfl, ?_⟩; have n0_ := Aside0.mk (Kd.R_below (by (with_reducible repeat (first | apply Kd.R_alloc | apply Kd.R_drewN | apply Kd.R_drew)); exact (Kd.R_mono (Kd.R_far (p := ⟨gb221, 4, none⟩) (Kd.R_far (p := ⟨gb221, 3, none⟩) (Kd.R_far (p := ⟨gb221, 2, none⟩) (Kd.R_far (p := ⟨gb221, 1, none⟩) (Kd.R_far (p := ⟨gb221, 0, none⟩) (Kd.R_types HO220.out BK221.out (by decide)) (fun _ hk => hk.2) (.int .i64 t214)) (fun _ hk => hk.2) (.int .i64 t215)) (fun _ hk => hk.2) (.int .i64 t216)) (fun _ hk => hk.2) (.int .i64 t217)) (fun _ hk => hk.2) (.slice Ao21 t218.length co21)) (fun _ h_ => h_.1))) hb); have n1_ := bf BK210 hb; have n2_ := bf BK211 hb; have n3_ := bf BK212 hb; have n4_ := bp #[.int .i64 t214, .int .i64 t215, .int .i64 t216, .int .i64 t217, .slice Ao21 t218.length co21] BK221 hb; have n5_ := Aside0.mk (below_step (be HB) hb); clear HO220 BK210 BK211 BK212 BK221 HB; have HO220 := n0_; have BK210 := n1_; have BK211 := n2_; have BK212 := n3_; have BK221 := n4_; have HB := n5_; clear n0_ n1_ n2_ n3_ n4_ n5_; (try clear hb); (try clear hb2); (try clear hk); (try clear hi); obtain ⟨hcz152_0, hcz152_1, hcz152_2, hcz152_3, hcz152_4⟩ := cs5 BK211; obtain ⟨hfz152_0, hfz152_1, hfz152_2, hfz152_3, hfz152_4⟩ := fs5 BK211) | ((with_reducible refine gate_dst (N := 3) rfl ?_); refine box_event ?hg (N := 3) ?hd (cs := #[.int .i64 a1_0, .int .i64 a1_1, .int .i64 a1_2, .int .i64 a1_3, .string a1_4]) (t := 44) ?hr ?_; (case hd => rfl); (case hg => rfl); (case hr => first | (go_simp; done) | (go_simp; rfl)); intro gb223 hg w153 hbox hb; have n5_ := Aside0.mk (below_step (be HB) hb); have BK223 := Aside0.mk (hbox); have GW223 := bs HB hg; have GE223 := bs HB hg; have NB210_223 := bl BK210 hg; have NB223_210 := bg BK210 hg; have NB211_223 := bl BK211 hg; have NB223_211 := bg BK211 hg; have NB212_223 := bl BK212 hg; have NB223_212 := bg BK212 hg; have NB221_223 := bl BK221 hg; have NB223_221 := bg BK221 hg; replace HO220 := Aside0.mk (Kd.R_below (rr HO220) hb); replace BK210 := bq BK210 hb; replace BK211 := bq BK211 hb; replace BK212 := bq BK212 hb; replace BK221 := bq BK221 hb; clear HB; have HB := n5_; clear n5_; clear hb hbox hg; have hnb154 := NB223_210.out; have hnc154 := NB210_223.out; have hnb155 := NB223_211.out; have hnc155 := NB211_223.out; have hnb156 := NB223_212.out; have hnc156 := NB212_223.out; have hnb157 := NB223_221.out; have hnc157 := NB221_223.out; obtain ⟨hcz158_0, hcz158_1, hcz158_2, hcz158_3, hcz158_4⟩ := cs5 BK223; obtain ⟨hfz158_0, hfz158_1, hfz158_2, hfz158_3, hfz158_4⟩ := fs5 BK223) | (go_at_call 102; go_in))
         have n0_ := Aside0.mk (Kd.R_drew HO220.out)
         have n1_ := Aside0.mk (blk_drew BK210.out)
         have n2_ := Aside0.mk (blk_drew BK211.out)
         have n3_ := Aside0.mk (blk_drew BK212.out)
         have n4_ := Aside0.mk (blk_drew BK221.out)
         have n5_ := Aside0.mk (blk_drew BK223.out)
         have n6_ := Aside0.mk (below_drew1 HB.out)
         clear HO220 BK210 BK211 BK212 BK221 BK223 HB; have HO220 := n0_; have BK210 := n1_; have BK211 := n2_; have BK212 := n3_; have BK221 := n4_; have BK223 := n5_; have HB := n6_; clear n0_ n1_ n2_ n3_ n4_ n5_ n6_; refine start_ (n := 30) (S := fun w' => w'.cell? ⟨gb223, 0, none⟩ = some (.int .i64 a1_0) ∧ w'.cell? ⟨gb223, 1, none⟩ = some (.int .i64 a1_1) ∧ w'.cell? ⟨gb223, 2, none⟩ = some (.int .i64 a1_2) ∧ w'.cell? ⟨gb223, 3, none⟩ = some (.int .i64 a1_3) ∧ w'.cell? ⟨gb223, 4, none⟩ = some (.string a1_4) ∧ w'.cell? ⟨gb221, 0, none⟩ = some (.int .i64 t214) ∧ w'.cell? ⟨gb221, 1, none⟩ = some (.int .i64 t215) ∧ w'.cell? ⟨gb221, 2, none⟩ = some (.int .i64 t216) ∧ w'.cell? ⟨gb221, 3, none⟩ = some (.int .i64 t217) ∧ w'.cell? ⟨gb221, 4, none⟩ = some (.slice Ao21 t218.length co21)) (ds := []) #[ff,ff,ff,ff,ff,ff,ff,ff,ff,ff,ff,ff,ff,ff,ff,ff,ff,ff,ff,ff,ff,ff,ff,ff,ff,ff,ff,ff,ff,ff] (by kernel_rfl) rfl rfl ⟨bc BK223 0, bc BK223 1, bc BK223 2, bc BK223 3, bc BK223 4, bc BK221 0, bc BK221 1, bc BK221 2, bc BK221 3, bc BK221 4⟩ (fun hHeld => ?_); refine with_tabW impl_WalStep.tab1009 impl_WalStep.bits1009 (fun HT_ HW_ => ?_)
         generalize w153.drew = w159 at HO220 BK210 BK211 BK212 BK221 BK223 HB hHeld ⊢
         refine pure_ (i := 0) (N := some 53) (v := ?_) (a' := ?_) #[tt,ff,ff,ff,ff,ff,ff,ff,ff,ff,ff,ff,ff,ff,ff,ff,ff,ff,ff,ff,ff,ff,ff,ff,ff,ff,ff,ff,ff,ff] rfl rfl (any_of HT_.out (by kernel_rfl)) (fun _ _ _ h => h) (Or.inl ⟨by rfl, ?_⟩) ?_ ?_
         rotate_left
         ·intro w'; go_simp; with_reducible rfl
         rotate_left
         ·simp only [putL, i64_w, i32_w]; rfl
         refine pure_ (i := 2) (N := some 55) (v := ?_) (a' := ?_) #[tt,ff,tt,ff,ff,ff,ff,ff,ff,ff,ff,ff,ff,ff,ff,ff,ff,ff,ff,ff,ff,ff,ff,ff,ff,ff,ff,ff,ff,ff] rfl rfl (any_of HT_.out (by kernel_rfl)) (fun _ _ _ h => h) (Or.inl ⟨by rfl, ?_⟩) ?_ ?_
         rotate_left
         ·intro w'; go_simp; with_reducible rfl
         rotate_left
         ·simp only [putL, i64_w, i32_w]; rfl
         refine pure_ (i := 3) (N := some 56) (v := ?_) (a' := ?_) #[tt,ff,tt,tt,ff,ff,ff,ff,ff,ff,ff,ff,ff,ff,ff,ff,ff,ff,ff,ff,ff,ff,ff,ff,ff,ff,ff,ff,ff,ff] rfl rfl (any_of HT_.out (by kernel_rfl)) (fun _ _ _ h => h) (Or.inl ⟨by rfl, ?_⟩) ?_ ?_
         rotate_left
         ·intro w'; go_simp; with_reducible rfl
         rotate_left
         ·simp only [putL, i64_w, i32_w]; rfl
         refine take_ (i := 1) (N := some 54) (v := ?_) (a' := ?_) #[tt,tt,tt,tt,ff,ff,ff,ff,ff,ff,ff,ff,ff,ff,ff,ff,ff,ff,ff,ff,ff,ff,ff,ff,ff,ff,ff,ff,ff,ff] rfl rfl (take_ofW HT_.out HW_.out (by kernel_rfl)) (fun _ _ _ h => h) (Or.inl ⟨by rfl, ?_⟩) hHeld ?_ ?_
         rotate_left
         ·rintro w' ⟨s0, s1, s2, s3, s4, s5, s6, s7, s8, s9⟩
          go_simp; with_reducible rfl
         rotate_left
         ·simp only [putL, i64_w, i32_w]; rfl
         refine take_ (i := 4) (N := some 57) (v := ?_) (a' := ?_) #[tt,tt,tt,tt,tt,ff,ff,ff,ff,ff,ff,ff,ff,ff,ff,ff,ff,ff,ff,ff,ff,ff,ff,ff,ff,ff,ff,ff,ff,ff] rfl rfl (take_ofW HT_.out HW_.out (by kernel_rfl)) (fun _ _ _ h => h) (Or.inl ⟨by rfl, ?_⟩) hHeld ?_ ?_
         rotate_left
         ·rintro w' ⟨s0, s1, s2, s3, s4, s5, s6, s7, s8, s9⟩
          go_simp; with_reducible rfl
         rotate_left
         ·simp only [putL, i64_w, i32_w]; rfl
         refine one_ (i := 5) (N := some 58) #[tt,tt,tt,tt,tt,tt,ff,ff,ff,ff,ff,ff,ff,ff,ff,ff,ff,ff,ff,ff,ff,ff,ff,ff,ff,ff,ff,ff,ff,ff] rfl rfl (one_of HT_.out (by kernel_rfl)) (by decide) (fun K hK => ?_)
         refine goes_ Try.func140 (by kernel_rfl) rfl #[.agg #[.int .i64 t214, .int .i64 t215, .int .i64 t216, .int .i64 t217, .slice Ao21 t218.length co21]] (by rfl) rfl rfl (by (try simp only [List.map_toArray, List.map_cons, List.map_nil]); first | done | rfl | (simp only [List.length_drop, List.length_take]; rfl)) ?_
         with_reducible refine (impl_Wal_end.calls t214 t215 t216 t217 _ _ t218 t224 _ ?side1 ?side2 A107.out).mono ?_
         (case side1 => repeat (first | exact (Kd.R_reads' HO220.out).2.2 | (with_reducible refine Kd.C_alloc ?_ _) | (with_reducible refine Kd.C_drewN ?_ _) | (with_reducible refine Kd.C_drew ?_)))
         (case side2 => exact (Kd.R_reads' HO220.out).2.1)
         rintro e w160 ⟨rfl, hb⟩
         refine ⟨_, rfl, ?_⟩
         have n6_ := Aside0.mk (below_step (be HB) hb)
         replace HO220 := Aside0.mk (Kd.R_below (rr HO220) hb); replace BK210 := bq BK210 hb; replace BK211 := bq BK211 hb; replace BK212 := bq BK212 hb; replace BK221 := bq BK221 hb; replace BK223 := bq BK223 hb; clear HB; have HB := n6_; clear n6_; (try clear hb); (try clear hb2); (try clear hk); (try clear hi); refine hK.out _ _ ⟨bc BK223 0, bc BK223 1, bc BK223 2, bc BK223 3, bc BK223 4, bc BK221 0, bc BK221 1, bc BK221 2, bc BK221 3, bc BK221 4⟩ (fun hHeld => ?_)
         clear hK K; refine norm_ (a' := ?_) ?_ ?_
         rotate_left
         ·show Act.put _ (some 58) _ = _
          simp only [putL, i64_w, i32_w]; rfl
         refine pure_ (i := 6) (N := some 59) (v := ?_) (a' := ?_) #[tt,tt,tt,tt,tt,tt,tt,ff,ff,ff,ff,ff,ff,ff,ff,ff,ff,ff,ff,ff,ff,ff,ff,ff,ff,ff,ff,ff,ff,ff] rfl rfl (any_of HT_.out (by kernel_rfl)) (fun _ _ _ h => h) (Or.inl ⟨by rfl, ?_⟩) ?_ ?_
         rotate_left
         ·intro w'; go_simp; with_reducible rfl
         rotate_left
         ·simp only [putL, i64_w, i32_w]; rfl
         refine pure_ (i := 7) (N := some 60) (v := ?_) (a' := ?_) #[tt,tt,tt,tt,tt,tt,tt,tt,ff,ff,ff,ff,ff,ff,ff,ff,ff,ff,ff,ff,ff,ff,ff,ff,ff,ff,ff,ff,ff,ff] rfl rfl (any_of HT_.out (by kernel_rfl)) (fun _ _ _ h => h) (Or.inl ⟨by rfl, ?_⟩) ?_ ?_
         rotate_left
         ·intro w'; go_simp; with_reducible rfl
         rotate_left
         ·simp only [putL, i64_w, i32_w]; rfl
         refine pure_ (i := 8) (N := some 61) (v := ?_) (a' := ?_) #[tt,tt,tt,tt,tt,tt,tt,tt,tt,ff,ff,ff,ff,ff,ff,ff,ff,ff,ff,ff,ff,ff,ff,ff,ff,ff,ff,ff,ff,ff] rfl rfl (any_of HT_.out (by kernel_rfl)) (fun _ _ _ h => h) (Or.inl ⟨by rfl, ?_⟩) ?_ ?_
         rotate_left
         ·intro w'; go_simp; with_reducible rfl
         rotate_left
         ·simp only [putL, i64_w, i32_w]; rfl
         refine pure_ (i := 9) (N := some 62) (v := ?_) (a' := ?_) #[tt,tt,tt,tt,tt,tt,tt,tt,tt,tt,ff,ff,ff,ff,ff,ff,ff,ff,ff,ff,ff,ff,ff,ff,ff,ff,ff,ff,ff,ff] rfl rfl (any_of HT_.out (by kernel_rfl)) (fun _ _ _ h => h) (Or.inl ⟨by rfl, ?_⟩) ?_ ?_
         rotate_left
         ·intro w'; go_simp; with_reducible rfl
         rotate_left
         ·simp only [putL, i64_w, i32_w]; rfl
         refine pure_ (i := 10) (N := some 63) (v := ?_) (a' := ?_) #[tt,tt,tt,tt,tt,tt,tt,tt,tt,tt,tt,ff,ff,ff,ff,ff,ff,ff,ff,ff,ff,ff,ff,ff,ff,ff,ff,ff,ff,ff] rfl rfl (any_of HT_.out (by kernel_rfl)) (fun _ _ _ h => h) (Or.inl ⟨by rfl, ?_⟩) ?_ ?_
         rotate_left
         ·intro w'; go_simp; with_reducible rfl
         rotate_left
         ·simp only [putL, i64_w, i32_w]; rfl
         refine pure_ (i := 11) (N := some 64) (v := ?_) (a' := ?_) #[tt,tt,tt,tt,tt,tt,tt,tt,tt,tt,tt,tt,ff,ff,ff,ff,ff,ff,ff,ff,ff,ff,ff,ff,ff,ff,ff,ff,ff,ff] rfl rfl (any_of HT_.out (by kernel_rfl)) (fun _ _ _ h => h) (Or.inl ⟨by rfl, ?_⟩) ?_ ?_
         rotate_left
         ·intro w'; go_simp; with_reducible rfl
         rotate_left
         ·simp only [putL, i64_w, i32_w]; rfl
         refine take_ (i := 12) (N := some 65) (v := ?_) (a' := ?_) #[tt,tt,tt,tt,tt,tt,tt,tt,tt,tt,tt,tt,tt,ff,ff,ff,ff,ff,ff,ff,ff,ff,ff,ff,ff,ff,ff,ff,ff,ff] rfl rfl (take_ofW HT_.out HW_.out (by kernel_rfl)) (fun _ _ _ h => h) (Or.inl ⟨by rfl, ?_⟩) hHeld ?_ ?_
         rotate_left
         ·rintro w' ⟨s0, s1, s2, s3, s4, s5, s6, s7, s8, s9⟩
          go_simp; with_reducible rfl
         rotate_left
         ·simp only [putL, i64_w, i32_w]; rfl
         refine pure_ (i := 13) (N := some 66) (v := ?_) (a' := ?_) #[tt,tt,tt,tt,tt,tt,tt,tt,tt,tt,tt,tt,tt,tt,ff,ff,ff,ff,ff,ff,ff,ff,ff,ff,ff,ff,ff,ff,ff,ff] rfl rfl (any_of HT_.out (by kernel_rfl)) (fun _ _ _ h => h) (Or.inl ⟨by rfl, ?_⟩) ?_ ?_
         rotate_left
         ·intro w'; go_simp; with_reducible rfl
         rotate_left
         ·simp only [putL, i64_w, i32_w]; rfl
         refine pure_ (i := 14) (N := some 67) (v := ?_) (a' := ?_) #[tt,tt,tt,tt,tt,tt,tt,tt,tt,tt,tt,tt,tt,tt,tt,ff,ff,ff,ff,ff,ff,ff,ff,ff,ff,ff,ff,ff,ff,ff] rfl rfl (any_of HT_.out (by kernel_rfl)) (fun _ _ _ h => h) (Or.inl ⟨by rfl, ?_⟩) ?_ ?_
         rotate_left
         ·intro w'; go_simp; with_reducible rfl
         rotate_left
         ·simp only [putL, i64_w, i32_w]; rfl
         refine pure_ (i := 15) (N := some 68) (v := ?_) (a' := ?_) #[tt,tt,tt,tt,tt,tt,tt,tt,tt,tt,tt,tt,tt,tt,tt,tt,ff,ff,ff,ff,ff,ff,ff,ff,ff,ff,ff,ff,ff,ff] rfl rfl (any_of HT_.out (by kernel_rfl)) (fun _ _ _ h => h) (Or.inl ⟨by rfl, ?_⟩) ?_ ?_
         rotate_left
         ·intro w'; go_simp; with_reducible rfl
         rotate_left
         ·simp only [putL, i64_w, i32_w]; rfl
         refine pure_ (i := 16) (N := some 69) (v := ?_) (a' := ?_) #[tt,tt,tt,tt,tt,tt,tt,tt,tt,tt,tt,tt,tt,tt,tt,tt,tt,ff,ff,ff,ff,ff,ff,ff,ff,ff,ff,ff,ff,ff] rfl rfl (any_of HT_.out (by kernel_rfl)) (fun _ _ _ h => h) (Or.inl ⟨by rfl, ?_⟩) ?_ ?_
         rotate_left
         ·intro w'; go_simp; with_reducible rfl
         rotate_left
         ·simp only [putL, i64_w, i32_w]; rfl
         refine pure_ (i := 17) (N := some 70) (v := ?_) (a' := ?_) #[tt,tt,tt,tt,tt,tt,tt,tt,tt,tt,tt,tt,tt,tt,tt,tt,tt,tt,ff,ff,ff,ff,ff,ff,ff,ff,ff,ff,ff,ff] rfl rfl (any_of HT_.out (by kernel_rfl)) (fun _ _ _ h => h) (Or.inl ⟨by rfl, ?_⟩) ?_ ?_
         rotate_left
         ·intro w'; go_simp; with_reducible rfl
         rotate_left
         ·simp only [putL, i64_w, i32_w]; rfl
         refine pure_ (i := 19) (N := some 72) (v := ?_) (a' := ?_) #[tt,tt,tt,tt,tt,tt,tt,tt,tt,tt,tt,tt,tt,tt,tt,tt,tt,tt,ff,tt,ff,ff,ff,ff,ff,ff,ff,ff,ff,ff] rfl rfl (any_of HT_.out (by kernel_rfl)) (fun _ _ _ h => h) (Or.inl ⟨by rfl, ?_⟩) ?_ ?_
         rotate_left
         ·intro w'; go_simp; with_reducible rfl
         rotate_left
         ·simp only [putL, i64_w, i32_w]; rfl
         refine pure_ (i := 20) (N := some 73) (v := ?_) (a' := ?_) #[tt,tt,tt,tt,tt,tt,tt,tt,tt,tt,tt,tt,tt,tt,tt,tt,tt,tt,ff,tt,tt,ff,ff,ff,ff,ff,ff,ff,ff,ff] rfl rfl (any_of HT_.out (by kernel_rfl)) (fun _ _ _ h => h) (Or.inl ⟨by rfl, ?_⟩) ?_ ?_
         rotate_left
         ·intro w'; go_simp; with_reducible rfl
         rotate_left
         ·simp only [putL, i64_w, i32_w]; rfl
         refine pure_ (i := 23) (N := some 76) (v := ?_) (a' := ?_) #[tt,tt,tt,tt,tt,tt,tt,tt,tt,tt,tt,tt,tt,tt,tt,tt,tt,tt,ff,tt,tt,ff,ff,tt,ff,ff,ff,ff,ff,ff] rfl rfl (any_of HT_.out (by kernel_rfl)) (fun _ _ _ h => h) (Or.inl ⟨by rfl, ?_⟩) ?_ ?_
         rotate_left
         ·intro w'; go_simp; with_reducible rfl
         rotate_left
         ·simp only [putL, i64_w, i32_w]; rfl
         refine pure_ (i := 24) (N := some 77) (v := ?_) (a' := ?_) #[tt,tt,tt,tt,tt,tt,tt,tt,tt,tt,tt,tt,tt,tt,tt,tt,tt,tt,ff,tt,tt,ff,ff,tt,tt,ff,ff,ff,ff,ff] rfl rfl (any_of HT_.out (by kernel_rfl)) (fun _ _ _ h => h) (Or.inl ⟨by rfl, ?_⟩) ?_ ?_
         rotate_left
         ·intro w'; go_simp; with_reducible rfl
         rotate_left
         ·simp only [putL, i64_w, i32_w]; rfl
         refine pure_ (i := 25) (N := some 78) (v := ?_) (a' := ?_) #[tt,tt,tt,tt,tt,tt,tt,tt,tt,tt,tt,tt,tt,tt,tt,tt,tt,tt,ff,tt,tt,ff,ff,tt,tt,tt,ff,ff,ff,ff] rfl rfl (any_of HT_.out (by kernel_rfl)) (fun _ _ _ h => h) (Or.inl ⟨by rfl, ?_⟩) ?_ ?_
         rotate_left
         ·intro w'; go_simp; with_reducible rfl
         rotate_left
         ·simp only [putL, i64_w, i32_w]; rfl
         refine take_ (i := 18) (N := some 71) (v := ?_) (a' := ?_) #[tt,tt,tt,tt,tt,tt,tt,tt,tt,tt,tt,tt,tt,tt,tt,tt,tt,tt,tt,tt,tt,ff,ff,tt,tt,tt,ff,ff,ff,ff] rfl rfl (take_ofW HT_.out HW_.out (by kernel_rfl)) (fun _ _ _ h => h) (Or.inl ⟨by rfl, ?_⟩) hHeld ?_ ?_
         rotate_left
         ·rintro w' ⟨s0, s1, s2, s3, s4, s5, s6, s7, s8, s9⟩
          go_simp; with_reducible rfl
         rotate_left
         ·simp only [putL, i64_w, i32_w]; rfl
         refine take_ (i := 21) (N := some 74) (v := ?_) (a' := ?_) #[tt,tt,tt,tt,tt,tt,tt,tt,tt,tt,tt,tt,tt,tt,tt,tt,tt,tt,tt,tt,tt,tt,ff,tt,tt,tt,ff,ff,ff,ff] rfl rfl (take_ofW HT_.out HW_.out (by kernel_rfl)) (fun _ _ _ h => h) (Or.inl ⟨by rfl, ?_⟩) hHeld ?_ ?_
         rotate_left
         ·rintro w' ⟨s0, s1, s2, s3, s4, s5, s6, s7, s8, s9⟩
          go_simp; with_reducible rfl
         rotate_left
         ·simp only [putL, i64_w, i32_w]; rfl
         refine take_ (i := 26) (N := some 79) (v := ?_) (a' := ?_) #[tt,tt,tt,tt,tt,tt,tt,tt,tt,tt,tt,tt,tt,tt,tt,tt,tt,tt,tt,tt,tt,tt,ff,tt,tt,tt,tt,ff,ff,ff] rfl rfl (take_ofW HT_.out HW_.out (by kernel_rfl)) (fun _ _ _ h => h) (Or.inl ⟨by rfl, ?_⟩) hHeld ?_ ?_
         rotate_left
         ·rintro w' ⟨s0, s1, s2, s3, s4, s5, s6, s7, s8, s9⟩
          go_simp; with_reducible rfl
         rotate_left
         ·simp only [putL, i64_w, i32_w]; rfl
         refine one_ (i := 22) (N := some 75) #[tt,tt,tt,tt,tt,tt,tt,tt,tt,tt,tt,tt,tt,tt,tt,tt,tt,tt,tt,tt,tt,tt,tt,tt,tt,tt,tt,ff,ff,ff] rfl rfl (one_of HT_.out (by kernel_rfl)) (by decide) (fun K hK => ?_)
         refine goes_ Try.func142 (by kernel_rfl) rfl #[.agg #[.int .i64 t214, .int .i64 t215, .int .i64 t216, .int .i64 t217, .slice Ao21 t218.length co21]] (by rfl) rfl rfl (by (try simp only [List.map_toArray, List.map_cons, List.map_nil]); first | done | rfl | (simp only [List.length_drop, List.length_take]; rfl)) ?_
         with_reducible refine (impl_Wal_endTerm.calls t214 t215 t216 t217 _ _ t218 t225 _ ?side1 ?side2 A124.out).mono ?_
         (case side1 => repeat (first | exact (Kd.R_reads' HO220.out).2.2 | (with_reducible refine Kd.C_alloc ?_ _) | (with_reducible refine Kd.C_drewN ?_ _) | (with_reducible refine Kd.C_drew ?_)))
         (case side2 => exact (Kd.R_reads' HO220.out).2.1)
         rintro e w161 ⟨rfl, hb⟩
         refine ⟨_, rfl, ?_⟩
         have n6_ := Aside0.mk (below_step (be HB) hb)
         replace HO220 := Aside0.mk (Kd.R_below (rr HO220) hb); replace BK210 := bq BK210 hb; replace BK211 := bq BK211 hb; replace BK212 := bq BK212 hb; replace BK221 := bq BK221 hb; replace BK223 := bq BK223 hb; clear HB; have HB := n6_; clear n6_; (try clear hb); (try clear hb2); (try clear hk); (try clear hi); refine hK.out _ _ ⟨bc BK223 0, bc BK223 1, bc BK223 2, bc BK223 3, bc BK223 4, bc BK221 0, bc BK221 1, bc BK221 2, bc BK221 3, bc BK221 4⟩ (fun hHeld => ?_)
         clear hK K; refine norm_ (a' := ?_) ?_ ?_
         rotate_left
         ·show Act.put _ (some 75) _ = _
          simp only [putL, i64_w, i32_w]; rfl
         refine one_ (i := 27) (N := some 80) #[tt,tt,tt,tt,tt,tt,tt,tt,tt,tt,tt,tt,tt,tt,tt,tt,tt,tt,tt,tt,tt,tt,tt,tt,tt,tt,tt,tt,ff,ff] rfl rfl (one_of HT_.out (by kernel_rfl)) (by decide) (fun K hK => ?_)
         refine goes_ Try.func77 (by kernel_rfl) rfl #[.int .i64 a1_1, .int .i64 t225, .int .i64 t214] (by rfl) rfl rfl (by (try simp only [List.map_toArray, List.map_cons, List.map_nil]); first | done | rfl | (simp only [List.length_drop, List.length_take]; rfl)) ?_
         with_reducible refine (impl_within.calls a1_1 t225 t214 false _ A125.out).mono ?_
         rintro e w' ⟨rfl, ⟨nd, rfl⟩⟩
         refine ⟨_, rfl, ?_⟩
         refine hK.out _ _ ⟨bc BK223 0, bc BK223 1, bc BK223 2, bc BK223 3, bc BK223 4, bc BK221 0, bc BK221 1, bc BK221 2, bc BK221 3, bc BK221 4⟩ (fun hHeld => ?_)
         clear hK K; refine norm_ (a' := ?_) ?_ ?_
         rotate_left
         ·show Act.put _ (some 80) _ = _
          simp only [putL, i64_w, i32_w]; rfl
         refine pure_ (i := 28) (N := some 81) (v := ?_) (a' := ?_) #[tt,tt,tt,tt,tt,tt,tt,tt,tt,tt,tt,tt,tt,tt,tt,tt,tt,tt,tt,tt,tt,tt,tt,tt,tt,tt,tt,tt,tt,ff] rfl rfl (any_of HT_.out (by kernel_rfl)) (fun _ _ _ h => h) (Or.inl ⟨by rfl, ?_⟩) ?_ ?_
         rotate_left
         ·intro w'; go_simp; with_reducible rfl
         rotate_left
         ·simp only [putL, i64_w, i32_w]; rfl
         refine pure_ (i := 29) (N := some 82) (v := ?_) (a' := ?_) #[tt,tt,tt,tt,tt,tt,tt,tt,tt,tt,tt,tt,tt,tt,tt,tt,tt,tt,tt,tt,tt,tt,tt,tt,tt,tt,tt,tt,tt,tt] rfl rfl (any_of HT_.out (by kernel_rfl)) (fun _ _ _ h => h) (Or.inl ⟨by rfl, ?_⟩) ?_ ?_
         rotate_left
         ·intro w'; go_simp; with_reducible rfl
         rotate_left
         ·simp only [putL, i64_w, i32_w]; rfl
         refine done_ (done_of HT_.out (by kernel_rfl)) ?_
         go_wp2
         go_meet
         case rel => exact ⟨_, (!false), (t214), (t215), (t216), (t217), (t218), (.slice Ao21 t218.length co21), (by first | rfl | (simp; done) | (simp [*]; done)), H', ⟨by first | omega | exact Nat.le_refl _⟩, ⟨rr HO220⟩, ⟨bb BK210⟩, ⟨bb BK211⟩, ⟨bb BK212⟩, ⟨bb BK221⟩, ⟨by repeat (first | (with_reducible first | exact HB.out | apply below_alloc | apply pw_below_drewN | apply below_drew1 | refine below_set ?_ GE210.out | refine below_set ?_ GE211.out | refine below_set ?_ GE212.out | refine below_set ?_ GE221.out | refine below_set ?_ GE223.out) | exact HB.out)⟩⟩
      ·rw [if_neg c108] at H
       have c108b0 : (a1_2 == (wrap64 (t224 + 1))) = false := beq_eq_false_iff_ne.mpr c108
       have c108b1 : (a1_2 != (wrap64 (t224 + 1))) = true := bne_iff_ne.mpr c108
       have H' := Aside0.mk H
       clear H; have hnb162 := NB211_210.out; have hnc162 := NB210_211.out; have hnb163 := NB211_212.out; have hnc163 := NB212_211.out; have hnb164 := NB211_221.out; have hnc164 := NB221_211.out; obtain ⟨hcz165_0, hcz165_1, hcz165_2, hcz165_3, hcz165_4⟩ := cs5 BK211; obtain ⟨hfz165_0, hfz165_1, hfz165_2, hfz165_3, hfz165_4⟩ := fs5 BK211
       go_wp2_with (first | ((with_reducible refine gate_callee (f := 101) rfl ?_); refine goesL_ (some 14) rfl rfl Try.func101 (by kernel_rfl) rfl #[.agg #[.int .i64 a1_0, .int .i64 a1_1, .int .i64 a1_2, .int .i64 a1_3, .string a1_4]] rfl (by (try simp only [List.map_toArray, List.map_cons, List.map_nil]); first | done | rfl | (simp only [List.length_drop, List.length_take]; rfl)) ?_; (with_reducible refine (impl_RecOk.calls a1_0 a1_1 a1_2 a1_3 a1_4 true _ A22.out).mono ?_); rintro e w166 ⟨rfl, hb⟩; refine ⟨_, rfl, ?_⟩; have n0_ := Aside0.mk (Kd.R_below (by (with_reducible repeat (first | apply Kd.R_alloc | apply Kd.R_drewN | apply Kd.R_drew)); exact (Kd.R_mono (Kd.R_far (p := ⟨gb221, 4, none⟩) (Kd.R_far (p := ⟨gb221, 3, none⟩) (Kd.R_far (p := ⟨gb221, 2, none⟩) (Kd.R_far (p := ⟨gb221, 1, none⟩) (Kd.R_far (p := ⟨gb221, 0, none⟩) (Kd.R_types HO220.out BK221.out (by decide)) (fun _ hk => hk.2) (.int .i64 t214)) (fun _ hk => hk.2) (.int .i64 t215)) (fun _ hk => hk.2) (.int .i64 t216)) (fun _ hk => hk.2) (.int .i64 t217)) (fun _ hk => hk.2) (.slice Ao21 t218.length co21)) (fun _ h_ => h_.1))) hb); have n1_ := bf BK210 hb; have n2_ := bf BK211 hb; have n3_ := bf BK212 hb; have n4_ := bp #[.int .i64 t214, .int .i64 t215, .int .i64 t216, .int .i64 t217, .slice Ao21 t218.length co21] BK221 hb; have n5_ := Aside0.mk (below_step (be HB) hb); clear HO220 BK210 BK211 BK212 BK221 HB; have HO220 := n0_; have BK210 := n1_; have BK211 := n2_; have BK212 := n3_; have BK221 := n4_; have HB := n5_; clear n0_ n1_ n2_ n3_ n4_ n5_; (try clear hb); (try clear hb2); (try clear hk); (try clear hi); obtain ⟨hcz167_0, hcz167_1, hcz167_2, hcz167_3, hcz167_4⟩ := cs5 BK211; obtain ⟨hfz167_0, hfz167_1, hfz167_2, hfz167_3, hfz167_4⟩ := fs5 BK211) | ((with_reducible refine gate_dst (N := 3) rfl ?_); refine box_event ?hg (N := 3) ?hd (cs := #[.int .i64 a1_0, .int .i64 a1_1, .int .i64 a1_2, .int .i64 a1_3, .string a1_4]) (t := 44) ?hr ?_; (case hd => rfl); (case hg => rfl); (case hr => first | (go_simp; done) | (go_simp; rfl)); intro gb223 hg w168 hbox hb; have n5_ := Aside0.mk (below_step (be HB) hb); have BK223 := Aside0.mk (hbox); have GW223 := bs HB hg; have GE223 := bs HB hg; have NB210_223 := bl BK210 hg; have NB223_210 := bg BK210 hg; have NB211_223 := bl BK211 hg; have NB223_211 := bg BK211 hg; have NB212_223 := bl BK212 hg; have NB223_212 := bg BK212 hg; have NB221_223 := bl BK221 hg; have NB223_221 := bg BK221 hg; replace HO220 := Aside0.mk (Kd.R_below (rr HO220) hb); replace BK210 := bq BK210 hb; replace BK211 := bq BK211 hb; replace BK212 := bq BK212 hb; replace BK221 := bq BK221 hb; clear HB; have HB := n5_; clear n5_; clear hb hbox hg; have hnb169 := NB223_210.out; have hnc169 := NB210_223.out; have hnb170 := NB223_211.out; have hnc170 := NB211_223.out; have hnb171 := NB223_212.out; have hnc171 := NB212_223.out; have hnb172 := NB223_221.out; have hnc172 := NB221_223.out; obtain ⟨hcz173_0, hcz173_1, hcz173_2, hcz173_3, hcz173_4⟩ := cs5 BK223; obtain ⟨hfz173_0, hfz173_1, hfz173_2, hfz173_3, hfz173_4⟩ := fs5 BK223) | (go_at_call 102; go_in))
       have n0_ := Aside0.mk (Kd.R_drew HO220.out)
       have n1_ := Aside0.mk (blk_drew BK210.out)
       have n2_ := Aside0.mk (blk_drew BK211.out)
       have n3_ := Aside0.mk (blk_drew BK212.out)
       have n4_ := Aside0.mk (blk_drew BK221.out)
       have n5_ := Aside0.mk (blk_drew BK223.out)
       have n6_ := Aside0.mk (below_drew1 HB.out)
       clear HO220 BK210 BK211 BK212 BK221 BK223 HB; have HO220 := n0_; have BK210 := n1_; have BK211 := n2_; have BK212 := n3_; have BK221 := n4_; have BK223 := n5_; have HB := n6_; clear n0_ n1_ n2_ n3_ n4_ n5_ n6_; refine start_ (n := 30) (S := fun w' => w'.cell? ⟨gb223, 0, none⟩ = some (.int .i64 a1_0) ∧ w'.cell? ⟨gb223, 1, none⟩ = some (.int .i64 a1_1) ∧ w'.cell? ⟨gb223, 2, none⟩ = some (.int .i64 a1_2) ∧ w'.cell? ⟨gb223, 3, none⟩ = some (.int .i64 a1_3) ∧ w'.cell? ⟨gb223, 4, none⟩ = some (.string a1_4) ∧ w'.cell? ⟨gb221, 0, none⟩ = some (.int .i64 t214) ∧ w'.cell? ⟨gb221, 1, none⟩ = some (.int .i64 t215) ∧ w'.cell? ⟨gb221, 2, none⟩ = some (.int .i64 t216) ∧ w'.cell? ⟨gb221, 3, none⟩ = some (.int .i64 t217) ∧ w'.cell? ⟨gb221, 4, none⟩ = some (.slice Ao21 t218.length co21)) (ds := []) #[ff,ff,ff,ff,ff,ff,ff,ff,ff,ff,ff,ff,ff,ff,ff,ff,ff,ff,ff,ff,ff,ff,ff,ff,ff,ff,ff,ff,ff,ff] (by kernel_rfl) rfl rfl ⟨bc BK223 0, bc BK223 1, bc BK223 2, bc BK223 3, bc BK223 4, bc BK221 0, bc BK221 1, bc BK221 2, bc BK221 3, bc BK221 4⟩ (fun hHeld => ?_); refine with_tabW impl_WalStep.tab1009 impl_WalStep.bits1009 (fun HT_ HW_ => ?_)
       generalize w168.drew = w174 at HO220 BK210 BK211 BK212 BK221 BK223 HB hHeld ⊢
       refine pure_ (i := 0) (N := some 53) (v := ?_) (a' := ?_) #[tt,ff,ff,ff,ff,ff,ff,ff,ff,ff,ff,ff,ff,ff,ff,ff,ff,ff,ff,ff,ff,ff,ff,ff,ff,ff,ff,ff,ff,ff] rfl rfl (any_of HT_.out (by kernel_rfl)) (fun _ _ _ h => h) (Or.inl ⟨by rfl, ?_⟩) ?_ ?_
       rotate_left
       ·intro w'; go_simp; with_reducible rfl
       rotate_left
       ·simp only [putL, i64_w, i32_w]; rfl
       refine pure_ (i := 2) (N := some 55) (v := ?_) (a' := ?_) #[tt,ff,tt,ff,ff,ff,ff,ff,ff,ff,ff,ff,ff,ff,ff,ff,ff,ff,ff,ff,ff,ff,ff,ff,ff,ff,ff,ff,ff,ff] rfl rfl (any_of HT_.out (by kernel_rfl)) (fun _ _ _ h => h) (Or.inl ⟨by rfl, ?_⟩) ?_ ?_
       rotate_left
       ·intro w'; go_simp; with_reducible rfl
       rotate_left
       ·simp only [putL, i64_w, i32_w]; rfl
       refine pure_ (i := 3) (N := some 56) (v := ?_) (a' := ?_) #[tt,ff,tt,tt,ff,ff,ff,ff,ff,ff,ff,ff,ff,ff,ff,ff,ff,ff,ff,ff,ff,ff,ff,ff,ff,ff,ff,ff,ff,ff] rfl rfl (any_of HT_.out (by kernel_rfl)) (fun _ _ _ h => h) (Or.inl ⟨by rfl, ?_⟩) ?_ ?_
       rotate_left
       ·intro w'; go_simp; with_reducible rfl
       rotate_left
       ·simp only [putL, i64_w, i32_w]; rfl
       refine take_ (i := 1) (N := some 54) (v := ?_) (a' := ?_) #[tt,tt,tt,tt,ff,ff,ff,ff,ff,ff,ff,ff,ff,ff,ff,ff,ff,ff,ff,ff,ff,ff,ff,ff,ff,ff,ff,ff,ff,ff] rfl rfl (take_ofW HT_.out HW_.out (by kernel_rfl)) (fun _ _ _ h => h) (Or.inl ⟨by rfl, ?_⟩) hHeld ?_ ?_
       rotate_left
       ·rintro w' ⟨s0, s1, s2, s3, s4, s5, s6, s7, s8, s9⟩
        go_simp; with_reducible rfl
       rotate_left
       ·simp only [putL, i64_w, i32_w]; rfl
       refine take_ (i := 4) (N := some 57) (v := ?_) (a' := ?_) #[tt,tt,tt,tt,tt,ff,ff,ff,ff,ff,ff,ff,ff,ff,ff,ff,ff,ff,ff,ff,ff,ff,ff,ff,ff,ff,ff,ff,ff,ff] rfl rfl (take_ofW HT_.out HW_.out (by kernel_rfl)) (fun _ _ _ h => h) (Or.inl ⟨by rfl, ?_⟩) hHeld ?_ ?_
       rotate_left
       ·rintro w' ⟨s0, s1, s2, s3, s4, s5, s6, s7, s8, s9⟩
        go_simp; with_reducible rfl
       rotate_left
       ·simp only [putL, i64_w, i32_w]; rfl
       refine one_ (i := 5) (N := some 58) #[tt,tt,tt,tt,tt,tt,ff,ff,ff,ff,ff,ff,ff,ff,ff,ff,ff,ff,ff,ff,ff,ff,ff,ff,ff,ff,ff,ff,ff,ff] rfl rfl (one_of HT_.out (by kernel_rfl)) (by decide) (fun K hK => ?_)
       refine goes_ Try.func140 (by kernel_rfl) rfl #[.agg #[.int .i64 t214, .int .i64 t215, .int .i64 t216, .int .i64 t217, .slice Ao21 t218.length co21]] (by rfl) rfl rfl (by (try simp only [List.map_toArray, List.map_cons, List.map_nil]); first | done | rfl | (simp only [List.length_drop, List.length_take]; rfl)) ?_
       with_reducible refine (impl_Wal_end.calls t214 t215 t216 t217 _ _ t218 t224 _ ?side1 ?side2 A107.out).mono ?_
       (case side1 => repeat (first | exact (Kd.R_reads' HO220.out).2.2 | (with_reducible refine Kd.C_alloc ?_ _) | (with_reducible refine Kd.C_drewN ?_ _) | (with_reducible refine Kd.C_drew ?_)))
       (case side2 => exact (Kd.R_reads' HO220.out).2.1)
       rintro e w175 ⟨rfl, hb⟩
       refine ⟨_, rfl, ?_⟩
       have n6_ := Aside0.mk (below_step (be HB) hb)
       replace HO220 := Aside0.mk (Kd.R_below (rr HO220) hb); replace BK210 := bq BK210 hb; replace BK211 := bq BK211 hb; replace BK212 := bq BK212 hb; replace BK221 := bq BK221 hb; replace BK223 := bq BK223 hb; clear HB; have HB := n6_; clear n6_; (try clear hb); (try clear hb2); (try clear hk); (try clear hi); refine hK.out _ _ ⟨bc BK223 0, bc BK223 1, bc BK223 2, bc BK223 3, bc BK223 4, bc BK221 0, bc BK221 1, bc BK221 2, bc BK221 3, bc BK221 4⟩ (fun hHeld => ?_)
       clear hK K; refine norm_ (a' := ?_) ?_ ?_
       rotate_left
       ·show Act.put _ (some 58) _ = _
        simp only [putL, i64_w, i32_w]; rfl
       refine pure_ (i := 6) (N := some 59) (v := ?_) (a' := ?_) #[tt,tt,tt,tt,tt,tt,tt,ff,ff,ff,ff,ff,ff,ff,ff,ff,ff,ff,ff,ff,ff,ff,ff,ff,ff,ff,ff,ff,ff,ff] rfl rfl (any_of HT_.out (by kernel_rfl)) (fun _ _ _ h => h) (Or.inl ⟨by rfl, ?_⟩) ?_ ?_
       rotate_left
       ·intro w'; go_simp; with_reducible rfl
       rotate_left
       ·simp only [putL, i64_w, i32_w]; rfl
       refine pure_ (i := 7) (N := some 60) (v := ?_) (a' := ?_) #[tt,tt,tt,tt,tt,tt,tt,tt,ff,ff,ff,ff,ff,ff,ff,ff,ff,ff,ff,ff,ff,ff,ff,ff,ff,ff,ff,ff,ff,ff] rfl rfl (any_of HT_.out (by kernel_rfl)) (fun _ _ _ h => h) (Or.inl ⟨by rfl, ?_⟩) ?_ ?_
       rotate_left
       ·intro w'; go_simp; with_reducible rfl
       rotate_left
       ·simp only [putL, i64_w, i32_w]; rfl
       refine pure_ (i := 8) (N := some 61) (v := ?_) (a' := ?_) #[tt,tt,tt,tt,tt,tt,tt,tt,tt,ff,ff,ff,ff,ff,ff,ff,ff,ff,ff,ff,ff,ff,ff,ff,ff,ff,ff,ff,ff,ff] rfl rfl (any_of HT_.out (by kernel_rfl)) (fun _ _ _ h => h) (Or.inl ⟨by rfl, ?_⟩) ?_ ?_
       rotate_left
       ·intro w'; go_simp; with_reducible rfl
       rotate_left
       ·simp only [putL, i64_w, i32_w]; rfl
       refine pure_ (i := 9) (N := some 62) (v := undef) (a' := ?_) #[tt,tt,tt,tt,tt,tt,tt,tt,tt,tt,ff,ff,ff,ff,ff,ff,ff,ff,ff,ff,ff,ff,ff,ff,ff,ff,ff,ff,ff,ff] rfl rfl (any_of HT_.out (by kernel_rfl)) (fun _ _ _ h => h) (Or.inr ⟨by rfl, rfl⟩) ?_ ?_
       rotate_left
       ·simp only [putL, i64_w, i32_w]; rfl
       refine pure_ (i := 10) (N := some 63) (v := undef) (a' := ?_) #[tt,tt,tt,tt,tt,tt,tt,tt,tt,tt,tt,ff,ff,ff,ff,ff,ff,ff,ff,ff,ff,ff,ff,ff,ff,ff,ff,ff,ff,ff] rfl rfl (any_of HT_.out (by kernel_rfl)) (fun _ _ _ h => h) (Or.inr ⟨by rfl, rfl⟩) ?_ ?_
       rotate_left
       ·simp only [putL, i64_w, i32_w]; rfl
       refine pure_ (i := 11) (N := some 64) (v := undef) (a' := ?_) #[tt,tt,tt,tt,tt,tt,tt,tt,tt,tt,tt,tt,ff,ff,ff,ff,ff,ff,ff,ff,ff,ff,ff,ff,ff,ff,ff,ff,ff,ff] rfl rfl (any_of HT_.out (by kernel_rfl)) (fun _ _ _ h => h) (Or.inr ⟨by rfl, rfl⟩) ?_ ?_
       rotate_left
       ·simp only [putL, i64_w, i32_w]; rfl
       refine pure_ (i := 12) (N := some 65) (v := undef) (a' := ?_) #[tt,tt,tt,tt,tt,tt,tt,tt,tt,tt,tt,tt,tt,ff,ff,ff,ff,ff,ff,ff,ff,ff,ff,ff,ff,ff,ff,ff,ff,ff] rfl rfl (any_of HT_.out (by kernel_rfl)) (fun _ _ _ h => h) (Or.inr ⟨by rfl, rfl⟩) ?_ ?_
       rotate_left
       ·simp only [putL, i64_w, i32_w]; rfl
       refine pure_ (i := 13) (N := some 66) (v := undef) (a' := ?_) #[tt,tt,tt,tt,tt,tt,tt,tt,tt,tt,tt,tt,tt,tt,ff,ff,ff,ff,ff,ff,ff,ff,ff,ff,ff,ff,ff,ff,ff,ff] rfl rfl (any_of HT_.out (by kernel_rfl)) (fun _ _ _ h => h) (Or.inr ⟨by rfl, rfl⟩) ?_ ?_
       rotate_left
       ·simp only [putL, i64_w, i32_w]; rfl
       refine pure_ (i := 14) (N := some 67) (v := undef) (a' := ?_) #[tt,tt,tt,tt,tt,tt,tt,tt,tt,tt,tt,tt,tt,tt,tt,ff,ff,ff,ff,ff,ff,ff,ff,ff,ff,ff,ff,ff,ff,ff] rfl rfl (any_of HT_.out (by kernel_rfl)) (fun _ _ _ h => h) (Or.inr ⟨by rfl, rfl⟩) ?_ ?_
       rotate_left
       ·simp only [putL, i64_w, i32_w]; rfl
       refine pure_ (i := 15) (N := some 68) (v := ?_) (a' := ?_) #[tt,tt,tt,tt,tt,tt,tt,tt,tt,tt,tt,tt,tt,tt,tt,tt,ff,ff,ff,ff,ff,ff,ff,ff,ff,ff,ff,ff,ff,ff] rfl rfl (any_of HT_.out (by kernel_rfl)) (fun _ _ _ h => h) (Or.inl ⟨by rfl, ?_⟩) ?_ ?_
       rotate_left
       ·intro w'; go_simp; with_reducible rfl
       rotate_left
       ·simp only [putL, i64_w, i32_w]; rfl
       refine pure_ (i := 16) (N := some 69) (v := ?_) (a' := ?_) #[tt,tt,tt,tt,tt,tt,tt,tt,tt,tt,tt,tt,tt,tt,tt,tt,tt,ff,ff,ff,ff,ff,ff,ff,ff,ff,ff,ff,ff,ff] rfl rfl (any_of HT_.out (by kernel_rfl)) (fun _ _ _ h => h) (Or.inl ⟨by rfl, ?_⟩) ?_ ?_
       rotate_left
       ·intro w'; go_simp; with_reducible rfl
       rotate_left
       ·simp only [putL, i64_w, i32_w]; rfl
       refine pure_ (i := 17) (N := some 70) (v := undef) (a' := ?_) #[tt,tt,tt,tt,tt,tt,tt,tt,tt,tt,tt,tt,tt,tt,tt,tt,tt,tt,ff,ff,ff,ff,ff,ff,ff,ff,ff,ff,ff,ff] rfl rfl (any_of HT_.out (by kernel_rfl)) (fun _ _ _ h => h) (Or.inr ⟨by rfl, rfl⟩) ?_ ?_
       rotate_left
       ·simp only [putL, i64_w, i32_w]; rfl
       refine pure_ (i := 18) (N := some 71) (v := undef) (a' := ?_) #[tt,tt,tt,tt,tt,tt,tt,tt,tt,tt,tt,tt,tt,tt,tt,tt,tt,tt,tt,ff,ff,ff,ff,ff,ff,ff,ff,ff,ff,ff] rfl rfl (any_of HT_.out (by kernel_rfl)) (fun _ _ _ h => h) (Or.inr ⟨by rfl, rfl⟩) ?_ ?_
       rotate_left
       ·simp only [putL, i64_w, i32_w]; rfl
       refine pure_ (i := 19) (N := some 72) (v := undef) (a' := ?_) #[tt,tt,tt,tt,tt,tt,tt,tt,tt,tt,tt,tt,tt,tt,tt,tt,tt,tt,tt,tt,ff,ff,ff,ff,ff,ff,ff,ff,ff,ff] rfl rfl (any_of HT_.out (by kernel_rfl)) (fun _ _ _ h => h) (Or.inr ⟨by rfl, rfl⟩) ?_ ?_
       rotate_left
       ·simp only [putL, i64_w, i32_w]; rfl
       refine pure_ (i := 20) (N := some 73) (v := undef) (a' := ?_) #[tt,tt,tt,tt,tt,tt,tt,tt,tt,tt,tt,tt,tt,tt,tt,tt,tt,tt,tt,tt,tt,ff,ff,ff,ff,ff,ff,ff,ff,ff] rfl rfl (any_of HT_.out (by kernel_rfl)) (fun _ _ _ h => h) (Or.inr ⟨by rfl, rfl⟩) ?_ ?_
       rotate_left
       ·simp only [putL, i64_w, i32_w]; rfl
       refine pure_ (i := 21) (N := some 74) (v := undef) (a' := ?_) #[tt,tt,tt,tt,tt,tt,tt,tt,tt,tt,tt,tt,tt,tt,tt,tt,tt,tt,tt,tt,tt,tt,ff,ff,ff,ff,ff,ff,ff,ff] rfl rfl (any_of HT_.out (by kernel_rfl)) (fun _ _ _ h => h) (Or.inr ⟨by rfl, rfl⟩) ?_ ?_
       rotate_left
       ·simp only [putL, i64_w, i32_w]; rfl
       refine pure_ (i := 22) (N := some 75) (v := undef) (a' := ?_) #[tt,tt,tt,tt,tt,tt,tt,tt,tt,tt,tt,tt,tt,tt,tt,tt,tt,tt,tt,tt,tt,tt,tt,ff,ff,ff,ff,ff,ff,ff] rfl rfl (any_of HT_.out (by kernel_rfl)) (fun _ _ _ h => h) (Or.inr ⟨by rfl, rfl⟩) ?_ ?_
       rotate_left
       ·simp only [putL, i64_w, i32_w]; rfl
       refine pure_ (i := 23) (N := some 76) (v := undef) (a' := ?_) #[tt,tt,tt,tt,tt,tt,tt,tt,tt,tt,tt,tt,tt,tt,tt,tt,tt,tt,tt,tt,tt,tt,tt,tt,ff,ff,ff,ff,ff,ff] rfl rfl (any_of HT_.out (by kernel_rfl)) (fun _ _ _ h => h) (Or.inr ⟨by rfl, rfl⟩) ?_ ?_
       rotate_left
       ·simp only [putL, i64_w, i32_w]; rfl
       refine pure_ (i := 24) (N := some 77) (v := undef) (a' := ?_) #[tt,tt,tt,tt,tt,tt,tt,tt,tt,tt,tt,tt,tt,tt,tt,tt,tt,tt,tt,tt,tt,tt,tt,tt,tt,ff,ff,ff,ff,ff] rfl rfl (any_of HT_.out (by kernel_rfl)) (fun _ _ _ h => h) (Or.inr ⟨by rfl, rfl⟩) ?_ ?_
       rotate_left
       ·simp only [putL, i64_w, i32_w]; rfl
       refine pure_ (i := 25) (N := some 78) (v := undef) (a' := ?_) #[tt,tt,tt,tt,tt,tt,tt,tt,tt,tt,tt,tt,tt,tt,tt,tt,tt,tt,tt,tt,tt,tt,tt,tt,tt,tt,ff,ff,ff,ff] rfl rfl (any_of HT_.out (by kernel_rfl)) (fun _ _ _ h => h) (Or.inr ⟨by rfl, rfl⟩) ?_ ?_
       rotate_left
       ·simp only [putL, i64_w, i32_w]; rfl
       refine pure_ (i := 26) (N := some 79) (v := undef) (a' := ?_) #[tt,tt,tt,tt,tt,tt,tt,tt,tt,tt,tt,tt,tt,tt,tt,tt,tt,tt,tt,tt,tt,tt,tt,tt,tt,tt,tt,ff,ff,ff] rfl rfl (any_of HT_.out (by kernel_rfl)) (fun _ _ _ h => h) (Or.inr ⟨by rfl, rfl⟩) ?_ ?_
       rotate_left
       ·simp only [putL, i64_w, i32_w]; rfl
       refine pure_ (i := 27) (N := some 80) (v := undef) (a' := ?_) #[tt,tt,tt,tt,tt,tt,tt,tt,tt,tt,tt,tt,tt,tt,tt,tt,tt,tt,tt,tt,tt,tt,tt,tt,tt,tt,tt,tt,ff,ff] rfl rfl (any_of HT_.out (by kernel_rfl)) (fun _ _ _ h => h) (Or.inr ⟨by rfl, rfl⟩) ?_ ?_
       rotate_left
       ·simp only [putL, i64_w, i32_w]; rfl
       refine pure_ (i := 28) (N := some 81) (v := undef) (a' := ?_) #[tt,tt,tt,tt,tt,tt,tt,tt,tt,tt,tt,tt,tt,tt,tt,tt,tt,tt,tt,tt,tt,tt,tt,tt,tt,tt,tt,tt,tt,ff] rfl rfl (any_of HT_.out (by kernel_rfl)) (fun _ _ _ h => h) (Or.inr ⟨by rfl, rfl⟩) ?_ ?_
       rotate_left
       ·simp only [putL, i64_w, i32_w]; rfl
       refine pure_ (i := 29) (N := some 82) (v := ?_) (a' := ?_) #[tt,tt,tt,tt,tt,tt,tt,tt,tt,tt,tt,tt,tt,tt,tt,tt,tt,tt,tt,tt,tt,tt,tt,tt,tt,tt,tt,tt,tt,tt] rfl rfl (any_of HT_.out (by kernel_rfl)) (fun _ _ _ h => h) (Or.inl ⟨by rfl, ?_⟩) ?_ ?_
       rotate_left
       ·intro w'; go_simp; with_reducible rfl
       rotate_left
       ·simp only [putL, i64_w, i32_w]; rfl
       refine done_ (done_of HT_.out (by kernel_rfl)) ?_
       go_wp2
       go_meet
       case rel => exact ⟨_, (!false), (t214), (t215), (t216), (t217), (t218), (.slice Ao21 t218.length co21), (by first | rfl | (simp; done) | (simp [*]; done)), H', ⟨by first | omega | exact Nat.le_refl _⟩, ⟨rr HO220⟩, ⟨bb BK210⟩, ⟨bb BK211⟩, ⟨bb BK212⟩, ⟨bb BK221⟩, ⟨by repeat (first | (with_reducible first | exact HB.out | apply below_alloc | apply pw_below_drewN | apply below_drew1 | refine below_set ?_ GE210.out | refine below_set ?_ GE211.out | refine below_set ?_ GE212.out | refine below_set ?_ GE221.out | refine below_set ?_ GE223.out) | exact HB.out)⟩⟩
     ·rw [if_neg c106] at H
      have c106b0 : (a1_0 == 2) = false := beq_eq_false_iff_ne.mpr c106
      have c106b1 : (a1_0 != 2) = true := bne_iff_ne.mpr c106
      by_cases c176 : a1_0 = 3
      ·rw [if_pos c176] at H
       have c176b0 : (a1_0 == 3) = true := beq_iff_eq.mpr c176
       have c176b1 : (a1_0 != 3) = false := bne_eq_false_iff_eq.mpr c176
       clear c176; replace H := Option.bind_eq_some_iff.mp H
       obtain ⟨t230, A1770, H⟩ := H
       replace H : ((impl_within.f a1_2 (wrap64 (t216 + 1)) t230).bind fun t231 => (if t231 = true then (if 0 ≤ (wrap64 ((wrap64 (a1_2 - t216)) - 1)) then (if (wrap64 ((wrap64 (a1_2 - t216)) - 1)) ≤ (t218.length : Int) then (impl_WalStep.j0 k (!true) a0_0 a0_1 a0_2 a0_3 l0_4 t214 t215 t216 t217 (t218.take ((wrap64 ((wrap64 (a1_2 - t216)) - 1)) : Int).toNat)) else (none)) else (none)) else (impl_WalStep.j0 k (!false) a0_0 a0_1 a0_2 a0_3 l0_4 t214 t215 t216 t217 t218))) = some (r1, r2, r3, r4, r5, r6) := H
       have A177 := Aside0.mk A1770
       clear A1770; replace H := Option.bind_eq_some_iff.mp H
       obtain ⟨t231, A1780, H⟩ := H
       replace H : (if t231 = true then (if 0 ≤ (wrap64 ((wrap64 (a1_2 - t216)) - 1)) then (if (wrap64 ((wrap64 (a1_2 - t216)) - 1)) ≤ (t218.length : Int) then (impl_WalStep.j0 k (!true) a0_0 a0_1 a0_2 a0_3 l0_4 t214 t215 t216 t217 (t218.take ((wrap64 ((wrap64 (a1_2 - t216)) - 1)) : Int).toNat)) else (none)) else (none)) else (impl_WalStep.j0 k (!false) a0_0 a0_1 a0_2 a0_3 l0_4 t214 t215 t216 t217 t218)) = some (r1, r2, r3, r4, r5, r6) := H
       have A178 := Aside0.mk A1780
       clear A1780
       by_cases c179 : t231 = true
       ·subst c179
        have H1 : (if 0 ≤ (wrap64 ((wrap64 (a1_2 - t216)) - 1)) then (if (wrap64 ((wrap64 (a1_2 - t216)) - 1)) ≤ (t218.length : Int) then (impl_WalStep.j0 k (!true) a0_0 a0_1 a0_2 a0_3 l0_4 t214 t215 t216 t217 (t218.take ((wrap64 ((wrap64 (a1_2 - t216)) - 1)) : Int).toNat)) else (none)) else (none)) = some (r1, r2, r3, r4, r5, r6) := by rw [if_pos rfl] at H; exact H
        clear H; have H := H1
        clear H1; obtain ⟨ji180, hji180⟩ : ∃ j_ : Int, (wrap64 ((wrap64 (a1_2 - t216)) - 1)) = j_ := ⟨_, rfl⟩
        replace H : (if 0 ≤ (ji180) then (if (ji180) ≤ (t218.length : Int) then (impl_WalStep.j0 k (!true) a0_0 a0_1 a0_2 a0_3 l0_4 t214 t215 t216 t217 (t218.take ((ji180) : Int).toNat)) else (none)) else (none)) = some (r1, r2, r3, r4, r5, r6) := by first | (rw [hji180] at H; exact H) | (simp only [hji180] at H ⊢; exact H)
        (try rw [hji180] at A22)
        (try rw [hji180] at A177)
        (try rw [hji180] at A178)
        have hji180w : (IntKind.i64.wrap ((wrap64 (a1_2 - t216)) - 1)) = ji180 := (i64_w _).trans hji180
        by_cases c181 : 0 ≤ (ji180)
        ·rw [if_pos c181] at H
         have c181b0 := eq_true c181
         have c181b1 : decide (0 ≤ (ji180)) = true := decide_eq_true c181
         clear c181
         by_cases c182 : (ji180) ≤ (t218.length : Int)
         ·rw [if_pos c182] at H
          have c182b0 := eq_true c182
          have c182b1 : decide ((ji180) ≤ (t218.length : Int)) = true := decide_eq_true c182
          clear c182; obtain ⟨y232, hy232⟩ : ∃ y_ : List (S125), y_ = (t218.take ((ji180) : Int).toNat) := ⟨_, rfl⟩
          replace H : (impl_WalStep.j0 k (!true) a0_0 a0_1 a0_2 a0_3 l0_4 t214 t215 t216 t217 y232) = some (r1, r2, r3, r4, r5, r6) := by first | (rw [hy232]; with_reducible exact H) | (have H2_ := (Option.bind_some _ _).symm.trans H; rw [hy232]; with_reducible exact H2_) | (have H2_ := (Option.bind_some _ _).symm.trans H; with_reducible exact H2_) | with_reducible exact H | (rw [hy232]; exact H) | exact H
          have Ny232 := Aside0.mk hy232
          clear hy232; have H' := Aside0.mk H
          clear H; have hnb183 := NB211_210.out; have hnc183 := NB210_211.out; have hnb184 := NB211_212.out; have hnc184 := NB212_211.out; have hnb185 := NB211_221.out; have hnc185 := NB221_211.out; obtain ⟨hcz186_0, hcz186_1, hcz186_2, hcz186_3, hcz186_4⟩ := cs5 BK211; obtain ⟨hfz186_0, hfz186_1, hfz186_2, hfz186_3, hfz186_4⟩ := fs5 BK211
          go_wp2_with (first | ((with_reducible refine gate_callee (f := 101) rfl ?_); refine goesL_ (some 14) rfl rfl Try.func101 (by kernel_rfl) rfl #[.agg #[.int .i64 a1_0, .int .i64 a1_1, .int .i64 a1_2, .int .i64 a1_3, .string a1_4]] rfl (by (try simp only [List.map_toArray, List.map_cons, List.map_nil]); first | done | rfl | (simp only [List.length_drop, List.length_take]; rfl)) ?_; (with_reducible refine (impl_RecOk.calls a1_0 a1_1 a1_2 a1_3 a1_4 true _ A22.out).mono ?_); rintro e w187 ⟨rfl, hb⟩; refine ⟨_, rfl, ?_⟩; have n0_ := Aside0.mk (Kd.R_below (by (with_reducible repeat (first | apply Kd.R_alloc | apply Kd.R_drewN | apply Kd.R_drew)); exact (Kd.R_mono (Kd.R_far (p := ⟨gb221, 4, none⟩) (Kd.R_far (p := ⟨gb221, 3, none⟩) (Kd.R_far (p := ⟨gb221, 2, none⟩) (Kd.R_far (p := ⟨gb221, 1, none⟩) (Kd.R_far (p := ⟨gb221, 0, none⟩) (Kd.R_types HO220.out BK221.out (by decide)) (fun _ hk => hk.2) (.int .i64 t214)) (fun _ hk => hk.2) (.int .i64 t215)) (fun _ hk => hk.2) (.int .i64 t216)) (fun _ hk => hk.2) (.int .i64 t217)) (fun _ hk => hk.2) (.slice Ao21 t218.length co21)) (fun _ h_ => h_.1))) hb); have n1_ := bf BK210 hb; have n2_ := bf BK211 hb; have n3_ := bf BK212 hb; have n4_ := bp #[.int .i64 t214, .int .i64 t215, .int .i64 t216, .int .i64 t217, .slice Ao21 t218.length co21] BK221 hb; have n5_ := Aside0.mk (below_step (be HB) hb); clear HO220 BK210 BK211 BK212 BK221 HB; have HO220 := n0_; have BK210 := n1_; have BK211 := n2_; have BK212 := n3_; have BK221 := n4_; have HB := n5_; clear n0_ n1_ n2_ n3_ n4_ n5_; (try clear hb); (try clear hb2); (try clear hk); (try clear hi); obtain ⟨hcz188_0, hcz188_1, hcz188_2, hcz188_3, hcz188_4⟩ := cs5 BK211; obtain ⟨hfz188_0, hfz188_1, hfz188_2, hfz188_3, hfz188_4⟩ := fs5 BK211) | ((with_reducible refine gate_dst (N := 3) rfl ?_); refine box_event ?hg (N := 3) ?hd (cs := #[.int .i64 a1_0, .int .i64 a1_1, .int .i64 a1_2, .int .i64 a1_3, .string a1_4]) (t := 44) ?hr ?_; (case hd => rfl); (case hg => rfl); (case hr => first | (go_simp; done) | (go_simp; rfl)); intro gb223 hg w189 hbox hb; have n5_ := Aside0.mk (below_step (be HB) hb); have BK223 := Aside0.mk (hbox); have GW223 := bs HB hg; have GE223 := bs HB hg; have NB210_223 := bl BK210 hg; have NB223_210 := bg BK210 hg; have NB211_223 := bl BK211 hg; have NB223_211 := bg BK211 hg; have NB212_223 := bl BK212 hg; have NB223_212 := bg BK212 hg; have NB221_223 := bl BK221 hg; have NB223_221 := bg BK221 hg; replace HO220 := Aside0.mk (Kd.R_below (rr HO220) hb); replace BK210 := bq BK210 hb; replace BK211 := bq BK211 hb; replace BK212 := bq BK212 hb; replace BK221 := bq BK221 hb; clear HB; have HB := n5_; clear n5_; clear hb hbox hg; have hnb190 := NB223_210.out; have hnc190 := NB210_223.out; have hnb191 := NB223_211.out; have hnc191 := NB211_223.out; have hnb192 := NB223_212.out; have hnc192 := NB212_223.out; have hnb193 := NB223_221.out; have hnc193 := NB221_223.out; obtain ⟨hcz194_0, hcz194_1, hcz194_2, hcz194_3, hcz194_4⟩ := cs5 BK223; obtain ⟨hfz194_0, hfz194_1, hfz194_2, hfz194_3, hfz194_4⟩ := fs5 BK223) | (go_at_call 102; go_in))
          have n0_ := Aside0.mk (Kd.R_drew HO220.out)
          have n1_ := Aside0.mk (blk_drew BK210.out)
          have n2_ := Aside0.mk (blk_drew BK211.out)
          have n3_ := Aside0.mk (blk_drew BK212.out)
          have n4_ := Aside0.mk (blk_drew BK221.out)
          have n5_ := Aside0.mk (blk_drew BK223.out)
          have n6_ := Aside0.mk (below_drew1 HB.out)
          clear HO220 BK210 BK211 BK212 BK221 BK223 HB; have HO220 := n0_; have BK210 := n1_; have BK211 := n2_; have BK212 := n3_; have BK221 := n4_; have BK223 := n5_; have HB := n6_; clear n0_ n1_ n2_ n3_ n4_ n5_ n6_; refine start_ (n := 13) (S := fun w' => w'.cell? ⟨gb223, 0, none⟩ = some (.int .i64 a1_0) ∧ w'.cell? ⟨gb223, 1, none⟩ = some (.int .i64 a1_1) ∧ w'.cell? ⟨gb223, 2, none⟩ = some (.int .i64 a1_2) ∧ w'.cell? ⟨gb223, 3, none⟩ = some (.int .i64 a1_3) ∧ w'.cell? ⟨gb223, 4, none⟩ = some (.string a1_4) ∧ w'.cell? ⟨gb221, 0, none⟩ = some (.int .i64 t214) ∧ w'.cell? ⟨gb221, 1, none⟩ = some (.int .i64 t215) ∧ w'.cell? ⟨gb221, 2, none⟩ = some (.int .i64 t216) ∧ w'.cell? ⟨gb221, 3, none⟩ = some (.int .i64 t217) ∧ w'.cell? ⟨gb221, 4, none⟩ = some (.slice Ao21 t218.length co21)) (ds := []) #[ff,ff,ff,ff,ff,ff,ff,ff,ff,ff,ff,ff,ff] (by kernel_rfl) rfl rfl ⟨bc BK223 0, bc BK223 1, bc BK223 2, bc BK223 3, bc BK223 4, bc BK221 0, bc BK221 1, bc BK221 2, bc BK221 3, bc BK221 4⟩ (fun hHeld => ?_); refine with_tabW impl_WalStep.tab1013 impl_WalStep.bits1013 (fun HT_ HW_ => ?_)
          generalize w189.drew = w195 at HO220 BK210 BK211 BK212 BK221 BK223 HB hHeld ⊢
          refine pure_ (i := 0) (N := some 99) (v := ?_) (a' := ?_) #[tt,ff,ff,ff,ff,ff,ff,ff,ff,ff,ff,ff,ff] rfl rfl (any_of HT_.out (by kernel_rfl)) (fun _ _ _ h => h) (Or.inl ⟨by rfl, ?_⟩) ?_ ?_
          rotate_left
          ·intro w'; go_simp; with_reducible rfl
          rotate_left
          ·simp only [putL, i64_w, i32_w]; rfl
          refine pure_ (i := 2) (N := some 101) (v := ?_) (a' := ?_) #[tt,ff,tt,ff,ff,ff,ff,ff,ff,ff,ff,ff,ff] rfl rfl (any_of HT_.out (by kernel_rfl)) (fun _ _ _ h => h) (Or.inl ⟨by rfl, ?_⟩) ?_ ?_
          rotate_left
          ·intro w'; go_simp; with_reducible rfl
          rotate_left
          ·simp only [putL, i64_w, i32_w]; rfl
          refine pure_ (i := 3) (N := some 102) (v := ?_) (a' := ?_) #[tt,ff,tt,tt,ff,ff,ff,ff,ff,ff,ff,ff,ff] rfl rfl (any_of HT_.out (by kernel_rfl)) (fun _ _ _ h => h) (Or.inl ⟨by rfl, ?_⟩) ?_ ?_
          rotate_left
          ·intro w'; go_simp; with_reducible rfl
          rotate_left
          ·simp only [putL, i64_w, i32_w]; rfl
          refine pure_ (i := 4) (N := some 103) (v := ?_) (a' := ?_) #[tt,ff,tt,tt,tt,ff,ff,ff,ff,ff,ff,ff,ff] rfl rfl (any_of HT_.out (by kernel_rfl)) (fun _ _ _ h => h) (Or.inl ⟨by rfl, ?_⟩) ?_ ?_
          rotate_left
          ·intro w'; go_simp; with_reducible rfl
          rotate_left
          ·simp only [putL, i64_w, i32_w]; rfl
          refine pure_ (i := 7) (N := some 106) (v := ?_) (a' := ?_) #[tt,ff,tt,tt,tt,ff,ff,tt,ff,ff,ff,ff,ff] rfl rfl (any_of HT_.out (by kernel_rfl)) (fun _ _ _ h => h) (Or.inl ⟨by rfl, ?_⟩) ?_ ?_
          rotate_left
          ·intro w'; go_simp; with_reducible rfl
          rotate_left
          ·simp only [putL, i64_w, i32_w]; rfl
          refine pure_ (i := 8) (N := some 107) (v := ?_) (a' := ?_) #[tt,ff,tt,tt,tt,ff,ff,tt,tt,ff,ff,ff,ff] rfl rfl (any_of HT_.out (by kernel_rfl)) (fun _ _ _ h => h) (Or.inl ⟨by rfl, ?_⟩) ?_ ?_
          rotate_left
          ·intro w'; go_simp; with_reducible rfl
          rotate_left
          ·simp only [putL, i64_w, i32_w]; rfl
          refine take_ (i := 1) (N := some 100) (v := ?_) (a' := ?_) #[tt,tt,tt,tt,tt,ff,ff,tt,tt,ff,ff,ff,ff] rfl rfl (take_ofW HT_.out HW_.out (by kernel_rfl)) (fun _ _ _ h => h) (Or.inl ⟨by rfl, ?_⟩) hHeld ?_ ?_
          rotate_left
          ·rintro w' ⟨s0, s1, s2, s3, s4, s5, s6, s7, s8, s9⟩
           go_simp; with_reducible rfl
          rotate_left
          ·simp only [putL, i64_w, i32_w]; rfl
          refine take_ (i := 5) (N := some 104) (v := ?_) (a' := ?_) #[tt,tt,tt,tt,tt,tt,ff,tt,tt,ff,ff,ff,ff] rfl rfl (take_ofW HT_.out HW_.out (by kernel_rfl)) (fun _ _ _ h => h) (Or.inl ⟨by rfl, ?_⟩) hHeld ?_ ?_
          rotate_left
          ·rintro w' ⟨s0, s1, s2, s3, s4, s5, s6, s7, s8, s9⟩
           go_simp; with_reducible rfl
          rotate_left
          ·simp only [putL, i64_w, i32_w]; rfl
          refine pure_ (i := 6) (N := some 105) (v := ?_) (a' := ?_) #[tt,tt,tt,tt,tt,tt,tt,tt,tt,ff,ff,ff,ff] rfl rfl (any_of HT_.out (by kernel_rfl)) (fun _ _ _ h => h) (Or.inl ⟨by rfl, ?_⟩) ?_ ?_
          rotate_left
          ·intro w'; go_simp; with_reducible rfl
          rotate_left
          ·simp only [putL, i64_w, i32_w]; rfl
          refine take_ (i := 9) (N := some 108) (v := ?_) (a' := ?_) #[tt,tt,tt,tt,tt,tt,tt,tt,tt,tt,ff,ff,ff] rfl rfl (take_ofW HT_.out HW_.out (by kernel_rfl)) (fun _ _ _ h => h) (Or.inl ⟨by rfl, ?_⟩) hHeld ?_ ?_
          rotate_left
          ·rintro w' ⟨s0, s1, s2, s3, s4, s5, s6, s7, s8, s9⟩
           go_simp; with_reducible rfl
          rotate_left
          ·simp only [putL, i64_w, i32_w]; rfl
          refine one_ (i := 10) (N := some 109) #[tt,tt,tt,tt,tt,tt,tt,tt,tt,tt,tt,ff,ff] rfl rfl (one_of HT_.out (by kernel_rfl)) (by decide) (fun K hK => ?_)
          refine goes_ Try.func140 (by kernel_rfl) rfl #[.agg #[.int .i64 t214, .int .i64 t215, .int .i64 t216, .int .i64 t217, .slice Ao21 t218.length co21]] (by rfl) rfl rfl (by (try simp only [List.map_toArray, List.map_cons, List.map_nil]); first | done | rfl | (simp only [List.length_drop, List.length_take]; rfl)) ?_
          with_reducible refine (impl_Wal_end.calls t214 t215 t216 t217 _ _ t218 t230 _ ?side1 ?side2 A177.out).mono ?_
          (case side1 => repeat (first | exact (Kd.R_reads' HO220.out).2.2 | (with_reducible refine Kd.C_alloc ?_ _) | (with_reducible refine Kd.C_drewN ?_ _) | (with_reducible refine Kd.C_drew ?_)))
          (case side2 => exact (Kd.R_reads' HO220.out).2.1)
          rintro e w196 ⟨rfl, hb⟩
          refine ⟨_, rfl, ?_⟩
          have n6_ := Aside0.mk (below_step (be HB) hb)
          replace HO220 := Aside0.mk (Kd.R_below (rr HO220) hb); replace BK210 := bq BK210 hb; replace BK211 := bq BK211 hb; replace BK212 := bq BK212 hb; replace BK221 := bq BK221 hb; replace BK223 := bq BK223 hb; clear HB; have HB := n6_; clear n6_; (try clear hb); (try clear hb2); (try clear hk); (try clear hi); refine hK.out _ _ ⟨bc BK223 0, bc BK223 1, bc BK223 2, bc BK223 3, bc BK223 4, bc BK221 0, bc BK221 1, bc BK221 2, bc BK221 3, bc BK221 4⟩ (fun hHeld => ?_)
          clear hK K; refine norm_ (a' := ?_) ?_ ?_
          rotate_left
          ·show Act.put _ (some 109) _ = _
           simp only [putL, i64_w, i32_w]; rfl
          refine one_ (i := 11) (N := some 110) #[tt,tt,tt,tt,tt,tt,tt,tt,tt,tt,tt,tt,ff] rfl rfl (one_of HT_.out (by kernel_rfl)) (by decide) (fun K hK => ?_)
          refine goes_ Try.func77 (by kernel_rfl) rfl #[.int .i64 a1_2, .int .i64 (wrap64 (t216 + 1)), .int .i64 t230] (by rfl) rfl rfl (by (try simp only [List.map_toArray, List.map_cons, List.map_nil]); first | done | rfl | (simp only [List.length_drop, List.length_take]; rfl)) ?_
          with_reducible refine (impl_within.calls a1_2 (wrap64 (t216 + 1)) t230 true _ A178.out).mono ?_
          rintro e w' ⟨rfl, ⟨nd, rfl⟩⟩
          refine ⟨_, rfl, ?_⟩
          refine hK.out _ _ ⟨bc BK223 0, bc BK223 1, bc BK223 2, bc BK223 3, bc BK223 4, bc BK221 0, bc BK221 1, bc BK221 2, bc BK221 3, bc BK221 4⟩ (fun hHeld => ?_)
          clear hK K; refine norm_ (a' := ?_) ?_ ?_
          rotate_left
          ·show Act.put _ (some 110) _ = _
           simp only [putL, i64_w, i32_w]; rfl
          refine pure_ (i := 12) (N := some 111) (v := ?_) (a' := ?_) #[tt,tt,tt,tt,tt,tt,tt,tt,tt,tt,tt,tt,tt] rfl rfl (any_of HT_.out (by kernel_rfl)) (fun _ _ _ h => h) (Or.inl ⟨by rfl, ?_⟩) ?_ ?_
          rotate_left
          ·intro w'; go_simp; with_reducible rfl
          rotate_left
          ·simp only [putL, i64_w, i32_w]; rfl
          refine done_ (done_of HT_.out (by kernel_rfl)) ?_
          go_wp2
          (try (rw [drewN_self w196]; generalize hq_ : World.drewN w196 _ = w196; have n0_ : Aside0 (Kd.R k125 125 w196 w.heap.size (fun _ => True) (.slice Ao21 t218.length co21) t218) := ⟨by rw [← hq_]; exact (rr HO220)⟩; have n1_ : Aside0 (w196.heap[gb210]? = some (.cells #[.int .i64 a0_0, .int .i64 a0_1, .int .i64 a0_2, .int .i64 a0_3, .slice A0_4 l0_4.length c0_4] 62 (0, 0))) := ⟨by rw [← hq_]; exact (by (with_reducible repeat first | refine bkN ?_ _ | refine bkD ?_ | refine bkA ?_ _); exact BK210.out)⟩; have n2_ : Aside0 (w196.heap[gb211]? = some (.cells #[.int .i64 a1_0, .int .i64 a1_1, .int .i64 a1_2, .int .i64 a1_3, .string a1_4] 44 (0, 0))) := ⟨by rw [← hq_]; exact (by (with_reducible repeat first | refine bkN ?_ _ | refine bkD ?_ | refine bkA ?_ _); exact BK211.out)⟩; have n3_ : Aside0 (w196.heap[gb212]? = some (.cells #[.int .i64 0, .int .i64 0, .int .i64 0, .int .i64 0, .slice none 0 0] 62 (0, 0))) := ⟨by rw [← hq_]; exact (by (with_reducible repeat first | refine bkN ?_ _ | refine bkD ?_ | refine bkA ?_ _); exact BK212.out)⟩; have n4_ : Aside0 (w196.heap[gb221]? = some (.cells #[.int .i64 t214, .int .i64 t215, .int .i64 t216, .int .i64 t217, .slice Ao21 t218.length co21] 62 (0, 0))) := ⟨by rw [← hq_]; exact (by (with_reducible repeat first | refine bkN ?_ _ | refine bkD ?_ | refine bkA ?_ _); exact BK221.out)⟩; have n5_ : Aside0 (w196.heap[gb223]? = some (.cells #[.int .i64 a1_0, .int .i64 a1_1, .int .i64 a1_2, .int .i64 a1_3, .string a1_4] 44 (0, 0))) := ⟨by rw [← hq_]; exact (by (with_reducible repeat first | refine bkN ?_ _ | refine bkD ?_ | refine bkA ?_ _); exact BK223.out)⟩; have n6_ : Aside0 (Below w.heap.size w w196) := ⟨by rw [← hq_]; exact (be HB)⟩; clear HO220 BK210 BK211 BK212 BK221 BK223 HB hq_; have HO220 := n0_; have BK210 := n1_; have BK211 := n2_; have BK212 := n3_; have BK221 := n4_; have BK223 := n5_; have HB := n6_; clear n0_ n1_ n2_ n3_ n4_ n5_ n6_))
          have n0_ := Aside0.mk (Kd.R_drew HO220.out)
          have n1_ := Aside0.mk (blk_drew BK210.out)
          have n2_ := Aside0.mk (blk_drew BK211.out)
          have n3_ := Aside0.mk (blk_drew BK212.out)
          have n4_ := Aside0.mk (blk_drew BK221.out)
          have n5_ := Aside0.mk (blk_drew BK223.out)
          have n6_ := Aside0.mk (below_drew1 HB.out)
          clear HO220 BK210 BK211 BK212 BK221 BK223 HB; have HO220 := n0_; have BK210 := n1_; have BK211 := n2_; have BK212 := n3_; have BK221 := n4_; have BK223 := n5_; have HB := n6_; clear n0_ n1_ n2_ n3_ n4_ n5_ n6_; have q198 : ((ji180) : Int) ≤ ((t218.length : Int) : Int) := of_decide_eq_true (by first | (with_reducible assumption) | assumption)
          obtain ⟨i0198, hi0198, _, hsz198, _⟩ := info_parts info125
          have hcut198 := cut_to (P := Try.prog) 60 125 .i64 Try.underlying60 hi0198 Ao21 t218.length co21 (ji180) (of_decide_eq_true (by first | (with_reducible assumption) | assumption)) q198 (Kd.R_reads' HO220.out).2.1
          have hr198 := Kd.R_take (m := ((ji180) : Int).toNat) HO220.out (by omega)
          have hy198 : y232.length = ((ji180) : Int).toNat := (by rw [Ny232.out, List.length_take]; omega)
          rw [← Ny232.out] at hr198
          rw [← hy198] at hr198 hcut198
          clear hy198 hi0198 hsz198 HO220; have HO234 := Aside0.mk hr198
          clear hr198; replace q198 := eq_true q198
          refine start_ (n := 17) (S := fun w' => w'.cell? ⟨gb221, 0, none⟩ = some (.int .i64 t214) ∧ w'.cell? ⟨gb221, 1, none⟩ = some (.int .i64 t215) ∧ w'.cell? ⟨gb221, 2, none⟩ = some (.int .i64 t216) ∧ w'.cell? ⟨gb221, 3, none⟩ = some (.int .i64 t217) ∧ w'.cell? ⟨gb221, 4, none⟩ = some (.slice Ao21 t218.length co21) ∧ w'.cell? ⟨gb223, 0, none⟩ = some (.int .i64 a1_0) ∧ w'.cell? ⟨gb223, 1, none⟩ = some (.int .i64 a1_1) ∧ w'.cell? ⟨gb223, 2, none⟩ = some (.int .i64 a1_2) ∧ w'.cell? ⟨gb223, 3, none⟩ = some (.int .i64 a1_3) ∧ w'.cell? ⟨gb223, 4, none⟩ = some (.string a1_4)) (ds := [16]) #[ff,ff,ff,ff,ff,ff,ff,ff,ff,ff,ff,ff,ff,ff,ff,ff,ff] (by kernel_rfl) rfl rfl ⟨bc BK221 0, bc BK221 1, bc BK221 2, bc BK221 3, bc BK221 4, bc BK223 0, bc BK223 1, bc BK223 2, bc BK223 3, bc BK223 4⟩ (fun hHeld => ?_); refine with_tabW impl_WalStep.tab1015 impl_WalStep.bits1015 (fun HT_ HW_ => ?_)
          generalize w196.drew = w197 at BK210 BK211 BK212 BK221 BK223 HB HO234 hHeld ⊢
          refine pure_ (i := 0) (N := some 112) (v := ?_) (a' := ?_) #[tt,ff,ff,ff,ff,ff,ff,ff,ff,ff,ff,ff,ff,ff,ff,ff,ff] rfl rfl (any_of HT_.out (by kernel_rfl)) (fun _ _ _ h => h) (Or.inl ⟨by rfl, ?_⟩) ?_ ?_
          rotate_left
          ·intro w'; go_simp; with_reducible rfl
          rotate_left
          ·simp only [putL, i64_w, i32_w]; rfl
          refine pure_ (i := 1) (N := some 113) (v := ?_) (a' := ?_) #[tt,tt,ff,ff,ff,ff,ff,ff,ff,ff,ff,ff,ff,ff,ff,ff,ff] rfl rfl (any_of HT_.out (by kernel_rfl)) (fun _ _ _ h => h) (Or.inl ⟨by rfl, ?_⟩) ?_ ?_
          rotate_left
          ·intro w'; go_simp; with_reducible rfl
          rotate_left
          ·simp only [putL, i64_w, i32_w]; rfl
          refine pure_ (i := 2) (N := some 114) (v := ?_) (a' := ?_) #[tt,tt,tt,ff,ff,ff,ff,ff,ff,ff,ff,ff,ff,ff,ff,ff,ff] rfl rfl (any_of HT_.out (by kernel_rfl)) (fun _ _ _ h => h) (Or.inl ⟨by rfl, ?_⟩) ?_ ?_
          rotate_left
          ·intro w'; go_simp; with_reducible rfl
          rotate_left
          ·simp only [putL, i64_w, i32_w]; rfl
          refine pure_ (i := 3) (N := some 115) (v := ?_) (a' := ?_) #[tt,tt,tt,tt,ff,ff,ff,ff,ff,ff,ff,ff,ff,ff,ff,ff,ff] rfl rfl (any_of HT_.out (by kernel_rfl)) (fun _ _ _ h => h) (Or.inl ⟨by rfl, ?_⟩) ?_ ?_
          rotate_left
          ·intro w'; go_simp; with_reducible rfl
          rotate_left
          ·simp only [putL, i64_w, i32_w]; rfl
          refine pure_ (i := 5) (N := some 117) (v := ?_) (a' := ?_) #[tt,tt,tt,tt,ff,tt,ff,ff,ff,ff,ff,ff,ff,ff,ff,ff,ff] rfl rfl (any_of HT_.out (by kernel_rfl)) (fun _ _ _ h => h) (Or.inl ⟨by rfl, ?_⟩) ?_ ?_
          rotate_left
          ·intro w'; go_simp; with_reducible rfl
          rotate_left
          ·simp only [putL, i64_w, i32_w]; rfl
          refine pure_ (i := 7) (N := some 119) (v := ?_) (a' := ?_) #[tt,tt,tt,tt,ff,tt,ff,tt,ff,ff,ff,ff,ff,ff,ff,ff,ff] rfl rfl (any_of HT_.out (by kernel_rfl)) (fun _ _ _ h => h) (Or.inl ⟨by rfl, ?_⟩) ?_ ?_
          rotate_left
          ·intro w'; go_simp; with_reducible rfl
          rotate_left
          ·simp only [putL, i64_w, i32_w]; rfl
          refine pure_ (i := 8) (N := some 120) (v := ?_) (a' := ?_) #[tt,tt,tt,tt,ff,tt,ff,tt,tt,ff,ff,ff,ff,ff,ff,ff,ff] rfl rfl (any_of HT_.out (by kernel_rfl)) (fun _ _ _ h => h) (Or.inl ⟨by rfl, ?_⟩) ?_ ?_
          rotate_left
          ·intro w'; go_simp; with_reducible rfl
          rotate_left
          ·simp only [putL, i64_w, i32_w]; rfl
          refine pure_ (i := 9) (N := some 121) (v := ?_) (a' := ?_) #[tt,tt,tt,tt,ff,tt,ff,tt,tt,tt,ff,ff,ff,ff,ff,ff,ff] rfl rfl (any_of HT_.out (by kernel_rfl)) (fun _ _ _ h => h) (Or.inl ⟨by rfl, ?_⟩) ?_ ?_
          rotate_left
          ·intro w'; go_simp; with_reducible rfl
          rotate_left
          ·simp only [putL, i64_w, i32_w]; rfl
          refine take_ (i := 4) (N := some 116) (v := ?_) (a' := ?_) #[tt,tt,tt,tt,tt,tt,ff,tt,tt,tt,ff,ff,ff,ff,ff,ff,ff] rfl rfl (take_ofW HT_.out HW_.out (by kernel_rfl)) (fun _ _ _ h => h) (Or.inl ⟨by rfl, ?_⟩) hHeld ?_ ?_
          rotate_left
          ·rintro w' ⟨s0, s1, s2, s3, s4, s5, s6, s7, s8, s9⟩
           go_simp; with_reducible rfl
          rotate_left
          ·simp only [putL, i64_w, i32_w]; rfl
          refine take_ (i := 6) (N := some 118) (v := ?_) (a' := ?_) #[tt,tt,tt,tt,tt,tt,tt,tt,tt,tt,ff,ff,ff,ff,ff,ff,ff] rfl rfl (take_ofW HT_.out HW_.out (by kernel_rfl)) (fun _ _ _ h => h) (Or.inl ⟨by rfl, ?_⟩) hHeld ?_ ?_
          rotate_left
          ·rintro w' ⟨s0, s1, s2, s3, s4, s5, s6, s7, s8, s9⟩
           go_simp; with_reducible rfl
          rotate_left
          ·simp only [putL, i64_w, i32_w]; rfl
          refine take_ (i := 10) (N := some 122) (v := ?_) (a' := ?_) #[tt,tt,tt,tt,tt,tt,tt,tt,tt,tt,tt,ff,ff,ff,ff,ff,ff] rfl rfl (take_ofW HT_.out HW_.out (by kernel_rfl)) (fun _ _ _ h => h) (Or.inl ⟨by rfl, ?_⟩) hHeld ?_ ?_
          rotate_left
          ·rintro w' ⟨s0, s1, s2, s3, s4, s5, s6, s7, s8, s9⟩
           go_simp; with_reducible rfl
          rotate_left
          ·simp only [putL, i64_w, i32_w]; rfl
          refine pure_ (i := 11) (N := some 123) (v := ?_) (a' := ?_) #[tt,tt,tt,tt,tt,tt,tt,tt,tt,tt,tt,tt,ff,ff,ff,ff,ff] rfl rfl (any_of HT_.out (by kernel_rfl)) (fun _ _ _ h => h) (Or.inl ⟨by rfl, ?_⟩) ?_ ?_
          rotate_left
          ·intro w'; go_simp; with_reducible rfl
          rotate_left
          ·simp only [putL, i64_w, i32_w]; rfl
          refine pure_ (i := 12) (N := some 124) (v := ?_) (a' := ?_) #[tt,tt,tt,tt,tt,tt,tt,tt,tt,tt,tt,tt,tt,ff,ff,ff,ff] rfl rfl (any_of HT_.out (by kernel_rfl)) (fun _ _ _ h => h) (Or.inl ⟨by rfl, ?_⟩) ?_ ?_
          rotate_left
          ·intro w'; go_simp; with_reducible rfl
          rotate_left
          ·simp only [putL, i64_w, i32_w]; rfl
          refine pure_ (i := 13) (N := some 125) (v := ?_) (a' := ?_) #[tt,tt,tt,tt,tt,tt,tt,tt,tt,tt,tt,tt,tt,tt,ff,ff,ff] rfl rfl (any_of HT_.out (by kernel_rfl)) (fun _ _ _ h => h) (Or.inl ⟨by rfl, ?_⟩) ?_ ?_
          rotate_left
          ·intro w'; go_simp; with_reducible rfl
          rotate_left
          ·simp only [putL, i64_w, i32_w]; rfl
          refine pure_ (i := 14) (N := some 126) (v := ?_) (a' := ?_) #[tt,tt,tt,tt,tt,tt,tt,tt,tt,tt,tt,tt,tt,tt,tt,ff,ff] rfl rfl (any_of HT_.out (by kernel_rfl)) (fun _ _ _ h => h) (Or.inl ⟨by rfl, ?_⟩) ?_ ?_
          rotate_left
          ·intro w'; go_simp; with_reducible rfl
          rotate_left
          ·simp only [putL, i64_w, i32_w]; rfl
          refine pure_ (i := 15) (N := some 127) (v := ?_) (a' := ?_) #[tt,tt,tt,tt,tt,tt,tt,tt,tt,tt,tt,tt,tt,tt,tt,tt,ff] rfl rfl (any_of HT_.out (by kernel_rfl)) (fun _ _ _ h => h) (Or.inl ⟨by rfl, ?_⟩) ?_ ?_
          rotate_left
          ·intro w'; go_simp; with_reducible rfl
          rotate_left
          ·simp only [putL, i64_w, i32_w]; rfl
          refine last_ (i := 16) (N := none) #[tt,tt,tt,tt,tt,tt,tt,tt,tt,tt,tt,tt,tt,tt,tt,tt,tt] rfl rfl (one_of HT_.out (by kernel_rfl)) (by decide) (fun K hK => ?_)
          have hs199 : w197.cell? ⟨gb221, 4, none⟩ = some (.slice Ao21 t218.length co21) := bc BK221 4
          have hfs199 := blk_frozen BK221.out 4; have hns199_0 := NB210_221.out; have hns199_1 := NB211_221.out; have hns199_2 := NB212_221.out; have hns199_4 := NB223_221.out; have hms199_0 := NB221_210.out; have hms199_1 := NB221_211.out; have hms199_2 := NB221_212.out; have hms199_4 := NB221_223.out; refine skip_ (w1 := ?_) (by rfl) rfl ?_ ?_
          rotate_left
          ·go_simp; rfl
          refine hK.out _ _ ?_
          clear hK K; refine done_ (done_of HT_.out (by kernel_rfl)) ?_
          go_wp2
          go_meet
          case rel => exact ⟨_, (!true), (t214), (t215), (t216), (t217), (y232), (.slice Ao21 y232.length co21), (by first | rfl | (simp; done) | (simp [*]; done)), H', ⟨by first | omega | exact Nat.le_refl _⟩, ⟨by (with_reducible repeat (first | apply Kd.R_alloc | apply Kd.R_drewN | apply Kd.R_drew)); exact Kd.R_mono (Kd.R_far (p := ⟨gb221, 4, none⟩) (Kd.R_types HO234.out BK221.out (by decide)) (fun _ hk => hk.2) (.slice Ao21 y232.length co21)) (fun _ hk => trivial)⟩, ⟨by (with_reducible repeat first | refine bkN ?_ _ | refine bkD ?_ | refine bkA ?_ _ | refine blk_far ?_ NB210_221.out _); exact BK210.out⟩, ⟨by (with_reducible repeat first | refine bkN ?_ _ | refine bkD ?_ | refine bkA ?_ _ | refine blk_far ?_ NB211_221.out _); exact BK211.out⟩, ⟨by (with_reducible repeat first | refine bkN ?_ _ | refine bkD ?_ | refine bkA ?_ _ | refine blk_far ?_ NB212_221.out _); exact BK212.out⟩, ⟨by (with_reducible repeat first | refine bkN ?_ _ | refine bkD ?_ | refine bkA ?_ _); refine blk_put (cs := #[.int .i64 t214, .int .i64 t215, .int .i64 t216, .int .i64 t217, .slice Ao21 t218.length co21]) ?_ 4 _ rfl; (with_reducible repeat first | refine bkN ?_ _ | refine bkD ?_ | refine bkA ?_ _); exact BK221.out⟩, ⟨by repeat (first | (with_reducible first | exact HB.out | apply below_alloc | apply pw_below_drewN | apply below_drew1 | refine below_set ?_ GE210.out | refine below_set ?_ GE211.out | refine below_set ?_ GE212.out | refine below_set ?_ GE221.out | refine below_set ?_ GE223.out) | exact HB.out)⟩⟩
         ·rw [if_neg c182] at H
          exact absurd H (by simp)
        ·rw [if_neg c181] at H
         exact absurd H (by simp)
       ·replace c179 := Bool.eq_false_iff.mpr c179
        subst c179
        have H1 : (impl_WalStep.j0 k (!false) a0_0 a0_1 a0_2 a0_3 l0_4 t214 t215 t216 t217 t218) = some (r1, r2, r3, r4, r5, r6) := by rw [if_neg (show ¬ (false = true) by decide)] at H; exact H
        clear H; have H := H1
        clear H1; have H' := Aside0.mk H
        clear H; have hnb200 := NB211_210.out; have hnc200 := NB210_211.out; have hnb201 := NB211_212.out; have hnc201 := NB212_211.out; have hnb202 := NB211_221.out; have hnc202 := NB221_211.out; obtain ⟨hcz203_0, hcz203_1, hcz203_2, hcz203_3, hcz203_4⟩ := cs5 BK211; obtain ⟨hfz203_0, hfz203_1, hfz203_2, hfz203_3, hfz203_4⟩ := fs5 BK211
        go_wp2_with (first | ((with_reducible refine gate_callee (f := 101) rfl ?_); refine goesL_ (some 14) rfl rfl Try.func101 (by kernel_rfl) rfl #[.agg #[.int .i64 a1_0, .int .i64 a1_1, .int .i64 a1_2, .int .i64 a1_3, .string a1_4]] rfl (by (try simp only [List.map_toArray, List.map_cons, List.map_nil]); first | done | rfl | (simp only [List.length_drop, List.length_take]; rfl)) ?_; (with_reducible refine (impl_RecOk.calls a1_0 a1_1 a1_2 a1_3 a1_4 true _ A22.out).mono ?_); rintro e w204 ⟨rfl, hb⟩; refine ⟨_, rfl, ?_⟩; have n0_ := Aside0.mk (Kd.R_below (by (with_reducible repeat (first | apply Kd.R_alloc | apply Kd.R_drewN | apply Kd.R_drew)); exact (Kd.R_mono (Kd.R_far (p := ⟨gb221, 4, none⟩) (Kd.R_far (p := ⟨gb221, 3, none⟩) (Kd.R_far (p := ⟨gb221, 2, none⟩) (Kd.R_far (p := ⟨gb221, 1, none⟩) (Kd.R_far (p := ⟨gb221, 0, none⟩) (Kd.R_types HO220.out BK221.out (by decide)) (fun _ hk => hk.2) (.int .i64 t214)) (fun _ hk => hk.2) (.int .i64 t215)) (fun _ hk => hk.2) (.int .i64 t216)) (fun _ hk => hk.2) (.int .i64 t217)) (fun _ hk => hk.2) (.slice Ao21 t218.length co21)) (fun _ h_ => h_.1))) hb); have n1_ := bf BK210 hb; have n2_ := bf BK211 hb; have n3_ := bf BK212 hb; have n4_ := bp #[.int .i64 t214, .int .i64 t215, .int .i64 t216, .int .i64 t217, .slice Ao21 t218.length co21] BK221 hb; have n5_ := Aside0.mk (below_step (be HB) hb); clear HO220 BK210 BK211 BK212 BK221 HB; have HO220 := n0_; have BK210 := n1_; have BK211 := n2_; have BK212 := n3_; have BK221 := n4_; have HB := n5_; clear n0_ n1_ n2_ n3_ n4_ n5_; (try clear hb); (try clear hb2); (try clear hk); (try clear hi); obtain ⟨hcz205_0, hcz205_1, hcz205_2, hcz205_3, hcz205_4⟩ := cs5 BK211; obtain ⟨hfz205_0, hfz205_1, hfz205_2, hfz205_3, hfz205_4⟩ := fs5 BK211) | ((with_reducible refine gate_dst (N := 3) rfl ?_); refine box_event ?hg (N := 3) ?hd (cs := #[.int .i64 a1_0, .int .i64 a1_1, .int .i64 a1_2, .int .i64 a1_3, .string a1_4]) (t := 44) ?hr ?_; (case hd => rfl); (case hg => rfl); (case hr => first | (go_simp; done) | (go_simp; rfl)); intro gb223 hg w206 hbox hb; have n5_ := Aside0.mk (below_step (be HB) hb); have BK223 := Aside0.mk (hbox); have GW223 := bs HB hg; have GE223 := bs HB hg; have NB210_223 := bl BK210 hg; have NB223_210 := bg BK210 hg; have NB211_223 := bl BK211 hg; have NB223_211 := bg BK211 hg; have NB212_223 := bl BK212 hg; have NB223_212 := bg BK212 hg; have NB221_223 := bl BK221 hg; have NB223_221 := bg BK221 hg; replace HO220 := Aside0.mk (Kd.R_below (rr HO220) hb); replace BK210 := bq BK210 hb; replace BK211 := bq BK211 hb; replace BK212 := bq BK212 hb; replace BK221 := bq BK221 hb; clear HB; have HB := n5_; clear n5_; clear hb hbox hg; have hnb207 := NB223_210.out; have hnc207 := NB210_223.out; have hnb208 := NB223_211.out; have hnc208 := NB211_223.out; have hnb209 := NB223_212.out; have hnc209 := NB212_223.out; have hnb210 := NB223_221.out; have hnc210 := NB221_223.out; obtain ⟨hcz211_0, hcz211_1, hcz211_2, hcz211_3, hcz211_4⟩ := cs5 BK223; obtain ⟨hfz211_0, hfz211_1, hfz211_2, hfz211_3, hfz211_4⟩ := fs5 BK223) | (go_at_call 102; go_in))
        have n0_ := Aside0.mk (Kd.R_drew HO220.out)
        have n1_ := Aside0.mk (blk_drew BK210.out)
        have n2_ := Aside0.mk (blk_drew BK211.out)
        have n3_ := Aside0.mk (blk_drew BK212.out)
        have n4_ := Aside0.mk (blk_drew BK221.out)
        have n5_ := Aside0.mk (blk_drew BK223.out)
        have n6_ := Aside0.mk (below_drew1 HB.out)
        clear HO220 BK210 BK211 BK212 BK221 BK223 HB; have HO220 := n0_; have BK210 := n1_; have BK211 := n2_; have BK212 := n3_; have BK221 := n4_; have BK223 := n5_; have HB := n6_; clear n0_ n1_ n2_ n3_ n4_ n5_ n6_; refine start_ (n := 13) (S := fun w' => w'.cell? ⟨gb223, 0, none⟩ = some (.int .i64 a1_0) ∧ w'.cell? ⟨gb223, 1, none⟩ = some (.int .i64 a1_1) ∧ w'.cell? ⟨gb223, 2, none⟩ = some (.int .i64 a1_2) ∧ w'.cell? ⟨gb223, 3, none⟩ = some (.int .i64 a1_3) ∧ w'.cell? ⟨gb223, 4, none⟩ = some (.string a1_4) ∧ w'.cell? ⟨gb221, 0, none⟩ = some (.int .i64 t214) ∧ w'.cell? ⟨gb221, 1, none⟩ = some (.int .i64 t215) ∧ w'.cell? ⟨gb221, 2, none⟩ = some (.int .i64 t216) ∧ w'.cell? ⟨gb221, 3, none⟩ = some (.int .i64 t217) ∧ w'.cell? ⟨gb221, 4, none⟩ = some (.slice Ao21 t218.length co21)) (ds := []) #[ff,ff,ff,ff,ff,ff,ff,ff,ff,ff,ff,ff,ff] (by kernel_rfl) rfl rfl ⟨bc BK223 0, bc BK223 1, bc BK223 2, bc BK223 3, bc BK223 4, bc BK221 0, bc BK221 1, bc BK221 2, bc BK221 3, bc BK221 4⟩ (fun hHeld => ?_); refine with_tabW impl_WalStep.tab1013 impl_WalStep.bits1013 (fun HT_ HW_ => ?_)
        generalize w206.drew = w212 at HO220 BK210 BK211 BK212 BK221 BK223 HB hHeld ⊢
        refine pure_ (i := 0) (N := some 99) (v := ?_) (a' := ?_) #[tt,ff,ff,ff,ff,ff,ff,ff,ff,ff,ff,ff,ff] rfl rfl (any_of HT_.out (by kernel_rfl)) (fun _ _ _ h => h) (Or.inl ⟨by rfl, ?_⟩) ?_ ?_
        rotate_left
        ·intro w'; go_simp; with_reducible rfl
        rotate_left
        ·simp only [putL, i64_w, i32_w]; rfl
        refine pure_ (i := 2) (N := some 101) (v := ?_) (a' := ?_) #[tt,ff,tt,ff,ff,ff,ff,ff,ff,ff,ff,ff,ff] rfl rfl (any_of HT_.out (by kernel_rfl)) (fun _ _ _ h => h) (Or.inl ⟨by rfl, ?_⟩) ?_ ?_
        rotate_left
        ·intro w'; go_simp; with_reducible rfl
        rotate_left
        ·simp only [putL, i64_w, i32_w]; rfl
        refine pure_ (i := 3) (N := some 102) (v := ?_) (a' := ?_) #[tt,ff,tt,tt,ff,ff,ff,ff,ff,ff,ff,ff,ff] rfl rfl (any_of HT_.out (by kernel_rfl)) (fun _ _ _ h => h) (Or.inl ⟨by rfl, ?_⟩) ?_ ?_
        rotate_left
        ·intro w'; go_simp; with_reducible rfl
        rotate_left
        ·simp only [putL, i64_w, i32_w]; rfl
        refine pure_ (i := 4) (N := some 103) (v := ?_) (a' := ?_) #[tt,ff,tt,tt,tt,ff,ff,ff,ff,ff,ff,ff,ff] rfl rfl (any_of HT_.out (by kernel_rfl)) (fun _ _ _ h => h) (Or.inl ⟨by rfl, ?_⟩) ?_ ?_
        rotate_left
        ·intro w'; go_simp; with_reducible rfl
        rotate_left
        ·simp only [putL, i64_w, i32_w]; rfl
        refine pure_ (i := 7) (N := some 106) (v := ?_) (a' := ?_) #[tt,ff,tt,tt,tt,ff,ff,tt,ff,ff,ff,ff,ff] rfl rfl (any_of HT_.out (by kernel_rfl)) (fun _ _ _ h => h) (Or.inl ⟨by rfl, ?_⟩) ?_ ?_
        rotate_left
        ·intro w'; go_simp; with_reducible rfl
        rotate_left
        ·simp only [putL, i64_w, i32_w]; rfl
        refine pure_ (i := 8) (N := some 107) (v := ?_) (a' := ?_) #[tt,ff,tt,tt,tt,ff,ff,tt,tt,ff,ff,ff,ff] rfl rfl (any_of HT_.out (by kernel_rfl)) (fun _ _ _ h => h) (Or.inl ⟨by rfl, ?_⟩) ?_ ?_
        rotate_left
        ·intro w'; go_simp; with_reducible rfl
        rotate_left
        ·simp only [putL, i64_w, i32_w]; rfl
        refine take_ (i := 1) (N := some 100) (v := ?_) (a' := ?_) #[tt,tt,tt,tt,tt,ff,ff,tt,tt,ff,ff,ff,ff] rfl rfl (take_ofW HT_.out HW_.out (by kernel_rfl)) (fun _ _ _ h => h) (Or.inl ⟨by rfl, ?_⟩) hHeld ?_ ?_
        rotate_left
        ·rintro w' ⟨s0, s1, s2, s3, s4, s5, s6, s7, s8, s9⟩
         go_simp; with_reducible rfl
        rotate_left
        ·simp only [putL, i64_w, i32_w]; rfl
        refine take_ (i := 5) (N := some 104) (v := ?_) (a' := ?_) #[tt,tt,tt,tt,tt,tt,ff,tt,tt,ff,ff,ff,ff] rfl rfl (take_ofW HT_.out HW_.out (by kernel_rfl)) (fun _ _ _ h => h) (Or.inl ⟨by rfl, ?_⟩) hHeld ?_ ?_
        rotate_left
        ·rintro w' ⟨s0, s1, s2, s3, s4, s5, s6, s7, s8, s9⟩
         go_simp; with_reducible rfl
        rotate_left
        ·simp only [putL, i64_w, i32_w]; rfl
        refine pure_ (i := 6) (N := some 105) (v := ?_) (a' := ?_) #[tt,tt,tt,tt,tt,tt,tt,tt,tt,ff,ff,ff,ff] rfl rfl (any_of HT_.out (by kernel_rfl)) (fun _ _ _ h => h) (Or.inl ⟨by rfl, ?_⟩) ?_ ?_
        rotate_left
        ·intro w'; go_simp; with_reducible rfl
        rotate_left
        ·simp only [putL, i64_w, i32_w]; rfl
        refine take_ (i := 9) (N := some 108) (v := ?_) (a' := ?_) #[tt,tt,tt,tt,tt,tt,tt,tt,tt,tt,ff,ff,ff] rfl rfl (take_ofW HT_.out HW_.out (by kernel_rfl)) (fun _ _ _ h => h) (Or.inl ⟨by rfl, ?_⟩) hHeld ?_ ?_
        rotate_left
        ·rintro w' ⟨s0, s1, s2, s3, s4, s5, s6, s7, s8, s9⟩
         go_simp; with_reducible rfl
        rotate_left
        ·simp only [putL, i64_w, i32_w]; rfl
        refine one_ (i := 10) (N := some 109) #[tt,tt,tt,tt,tt,tt,tt,tt,tt,tt,tt,ff,ff] rfl rfl (one_of HT_.out (by kernel_rfl)) (by decide) (fun K hK => ?_)
        refine goes_ Try.func140 (by kernel_rfl) rfl #[.agg #[.int .i64 t214, .int .i64 t215, .int .i64 t216, .int .i64 t217, .slice Ao21 t218.length co21]] (by rfl) rfl rfl (by (try simp only [List.map_toArray, List.map_cons, List.map_nil]); first | done | rfl | (simp only [List.length_drop, List.length_take]; rfl)) ?_
        with_reducible refine (impl_Wal_end.calls t214 t215 t216 t217 _ _ t218 t230 _ ?side1 ?side2 A177.out).mono ?_
        (case side1 => repeat (first | exact (Kd.R_reads' HO220.out).2.2 | (with_reducible refine Kd.C_alloc ?_ _) | (with_reducible refine Kd.C_drewN ?_ _) | (with_reducible refine Kd.C_drew ?_)))
        (case side2 => exact (Kd.R_reads' HO220.out).2.1)
        rintro e w213 ⟨rfl, hb⟩
        refine ⟨_, rfl, ?_⟩
        have n6_ := Aside0.mk (below_step (be HB) hb)
        replace HO220 := Aside0.mk (Kd.R_below (rr HO220) hb); replace BK210 := bq BK210 hb; replace BK211 := bq BK211 hb; replace BK212 := bq BK212 hb; replace BK221 := bq BK221 hb; replace BK223 := bq BK223 hb; clear HB; have HB := n6_; clear n6_; (try clear hb); (try clear hb2); (try clear hk); (try clear hi); refine hK.out _ _ ⟨bc BK223 0, bc BK223 1, bc BK223 2, bc BK223 3, bc BK223 4, bc BK221 0, bc BK221 1, bc BK221 2, bc BK221 3, bc BK221 4⟩ (fun hHeld => ?_)
        clear hK K; refine norm_ (a' := ?_) ?_ ?_
        rotate_left
        ·show Act.put _ (some 109) _ = _
         simp only [putL, i64_w, i32_w]; rfl
        refine one_ (i := 11) (N := some 110) #[tt,tt,tt,tt,tt,tt,tt,tt,tt,tt,tt,tt,ff] rfl rfl (one_of HT_.out (by kernel_rfl)) (by decide) (fun K hK => ?_)
        refine goes_ Try.func77 (by kernel_rfl) rfl #[.int .i64 a1_2, .int .i64 (wrap64 (t216 + 1)), .int .i64 t230] (by rfl) rfl rfl (by (try simp only [List.map_toArray, List.map_cons, List.map_nil]); first | done | rfl | (simp only [List.length_drop, List.length_take]; rfl)) ?_
        with_reducible refine (impl_within.calls a1_2 (wrap64 (t216 + 1)) t230 false _ A178.out).mono ?_
        rintro e w' ⟨rfl, ⟨nd, rfl⟩⟩
        refine ⟨_, rfl, ?_⟩
        refine hK.out _ _ ⟨bc BK223 0, bc BK223 1, bc BK223 2, bc BK223 3, bc BK223 4, bc BK221 0, bc BK221 1, bc BK221 2, bc BK221 3, bc BK221 4⟩ (fun hHeld => ?_)
        clear hK K; refine norm_ (a' := ?_) ?_ ?_
        rotate_left
        ·show Act.put _ (some 110) _ = _
         simp only [putL, i64_w, i32_w]; rfl
        refine pure_ (i := 12) (N := some 111) (v := ?_) (a' := ?_) #[tt,tt,tt,tt,tt,tt,tt,tt,tt,tt,tt,tt,tt] rfl rfl (any_of HT_.out (by kernel_rfl)) (fun _ _ _ h => h) (Or.inl ⟨by rfl, ?_⟩) ?_ ?_
        rotate_left
        ·intro w'; go_simp; with_reducible rfl
        rotate_left
        ·simp only [putL, i64_w, i32_w]; rfl
        refine done_ (done_of HT_.out (by kernel_rfl)) ?_
        go_wp2
        go_meet
        case rel => exact ⟨_, (!false), (t214), (t215), (t216), (t217), (t218), (.slice Ao21 t218.length co21), (by first | rfl | (simp; done) | (simp [*]; done)), H', ⟨by first | omega | exact Nat.le_refl _⟩, ⟨rr HO220⟩, ⟨bb BK210⟩, ⟨bb BK211⟩, ⟨bb BK212⟩, ⟨bb BK221⟩, ⟨by repeat (first | (with_reducible first | exact HB.out | apply below_alloc | apply pw_below_drewN | apply below_drew1 | refine below_set ?_ GE210.out | refine below_set ?_ GE211.out | refine below_set ?_ GE212.out | refine below_set ?_ GE221.out | refine below_set ?_ GE223.out) | exact HB.out)⟩⟩
      ·rw [if_neg c176] at H
       have c176b0 : (a1_0 == 3) = false := beq_eq_false_iff_ne.mpr c176
       have c176b1 : (a1_0 != 3) = true := bne_iff_ne.mpr c176
       have H' := Aside0.mk H
       clear H; have hnb214 := NB211_210.out; have hnc214 := NB210_211.out; have hnb215 := NB211_212.out; have hnc215 := NB212_211.out; have hnb216 := NB211_221.out; have hnc216 := NB221_211.out; obtain ⟨hcz217_0, hcz217_1, hcz217_2, hcz217_3, hcz217_4⟩ := cs5 BK211; obtain ⟨hfz217_0, hfz217_1, hfz217_2, hfz217_3, hfz217_4⟩ := fs5 BK211
       go_wp2_with (first | ((with_reducible refine gate_callee (f := 101) rfl ?_); refine goesL_ (some 14) rfl rfl Try.func101 (by kernel_rfl) rfl #[.agg #[.int .i64 a1_0, .int .i64 a1_1, .int .i64 a1_2, .int .i64 a1_3, .string a1_4]] rfl (by (try simp only [List.map_toArray, List.map_cons, List.map_nil]); first | done | rfl | (simp only [List.length_drop, List.length_take]; rfl)) ?_; (with_reducible refine (impl_RecOk.calls a1_0 a1_1 a1_2 a1_3 a1_4 true _ A22.out).mono ?_); rintro e w218 ⟨rfl, hb⟩; refine ⟨_, rfl, ?_⟩; have n0_ := Aside0.mk (Kd.R_below (by (with_reducible repeat (first | apply Kd.R_alloc | apply Kd.R_drewN | apply Kd.R_drew)); exact (Kd.R_mono (Kd.R_far (p := ⟨gb221, 4, none⟩) (Kd.R_far (p := ⟨gb221, 3, none⟩) (Kd.R_far (p := ⟨gb221, 2, none⟩) (Kd.R_far (p := ⟨gb221, 1, none⟩) (Kd.R_far (p := ⟨gb221, 0, none⟩) (Kd.R_types HO220.out BK221.out (by decide)) (fun _ hk => hk.2) (.int .i64 t214)) (fun _ hk => hk.2) (.int .i64 t215)) (fun _ hk => hk.2) (.int .i64 t216)) (fun _ hk => hk.2) (.int .i64 t217)) (fun _ hk => hk.2) (.slice Ao21 t218.length co21)) (fun _ h_ => h_.1))) hb); have n1_ := bf BK210 hb; have n2_ := bf BK211 hb; have n3_ := bf BK212 hb; have n4_ := bp #[.int .i64 t214, .int .i64 t215, .int .i64 t216, .int .i64 t217, .slice Ao21 t218.length co21] BK221 hb; have n5_ := Aside0.mk (below_step (be HB) hb); clear HO220 BK210 BK211 BK212 BK221 HB; have HO220 := n0_; have BK210 := n1_; have BK211 := n2_; have BK212 := n3_; have BK221 := n4_; have HB := n5_; clear n0_ n1_ n2_ n3_ n4_ n5_; (try clear hb); (try clear hb2); (try clear hk); (try clear hi); obtain ⟨hcz219_0, hcz219_1, hcz219_2, hcz219_3, hcz219_4⟩ := cs5 BK211; obtain ⟨hfz219_0, hfz219_1, hfz219_2, hfz219_3, hfz219_4⟩ := fs5 BK211) | ((with_reducible refine gate_dst (N := 3) rfl ?_); refine box_event ?hg (N := 3) ?hd (cs := #[.int .i64 a1_0, .int .i64 a1_1, .int .i64 a1_2, .int .i64 a1_3, .string a1_4]) (t := 44) ?hr ?_; (case hd => rfl); (case hg => rfl); (case hr => first | (go_simp; done) | (go_simp; rfl)); intro gb223 hg w220 hbox hb; have n5_ := Aside0.mk (below_step (be HB) hb); have BK223 := Aside0.mk (hbox); have GW223 := bs HB hg; have GE223 := bs HB hg; have NB210_223 := bl BK210 hg; have NB223_210 := bg BK210 hg; have NB211_223 := bl BK211 hg; have NB223_211 := bg BK211 hg; have NB212_223 := bl BK212 hg; have NB223_212 := bg BK212 hg; have NB221_223 := bl BK221 hg; have NB223_221 := bg BK221 hg; replace HO220 := Aside0.mk (Kd.R_below (rr HO220) hb); replace BK210 := bq BK210 hb; replace BK211 := bq BK211 hb; replace BK212 := bq BK212 hb; replace BK221 := bq BK221 hb; clear HB; have HB := n5_; clear n5_; clear hb hbox hg; have hnb221 := NB223_210.out; have hnc221 := NB210_223.out; have hnb222 := NB223_211.out; have hnc222 := NB211_223.out; have hnb223 := NB223_212.out; have hnc223 := NB212_223.out; have hnb224 := NB223_221.out; have hnc224 := NB221_223.out; obtain ⟨hcz225_0, hcz225_1, hcz225_2, hcz225_3, hcz225_4⟩ := cs5 BK223; obtain ⟨hfz225_0, hfz225_1, hfz225_2, hfz225_3, hfz225_4⟩ := fs5 BK223) | (go_at_call 102; go_in))
       go_meet
       case rel => exact ⟨_, (!false), (t214), (t215), (t216), (t217), (t218), (.slice Ao21 t218.length co21), (by first | rfl | (simp; done) | (simp [*]; done)), H', ⟨by first | omega | exact Nat.le_refl _⟩, ⟨rr HO220⟩, ⟨bb BK210⟩, ⟨bb BK211⟩, ⟨bb BK212⟩, ⟨bb BK221⟩, ⟨by repeat (first | (with_reducible first | exact HB.out | apply below_alloc | apply pw_below_drewN | apply below_drew1 | refine below_set ?_ GE210.out | refine below_set ?_ GE211.out | refine below_set ?_ GE212.out | refine below_set ?_ GE221.out | refine below_set ?_ GE223.out) | exact HB.out)⟩⟩
   ·replace c23 := Bool.eq_false_iff.mpr c23
    subst c23
    have H1 : (impl_WalStep.j0 k true a0_0 a0_1 a0_2 a0_3 l0_4 t214 t215 t216 t217 t218) = some (r1, r2, r3, r4, r5, r6) := by rw [if_neg (show ¬ (false = true) by decide)] at H; exact H
    clear H; have H := H1
    clear H1; have H' := Aside0.mk H
    clear H; have hnb226 := NB211_210.out; have hnc226 := NB210_211.out; have hnb227 := NB211_212.out; have hnc227 := NB212_211.out; have hnb228 := NB211_221.out; have hnc228 := NB221_211.out; obtain ⟨hcz229_0, hcz229_1, hcz229_2, hcz229_3, hcz229_4⟩ := cs5 BK211; obtain ⟨hfz229_0, hfz229_1, hfz229_2, hfz229_3, hfz229_4⟩ := fs5 BK211
    go_wp2_with (first | ((with_reducible refine gate_callee (f := 101) rfl ?_); refine goesL_ (some 14) rfl rfl Try.func101 (by kernel_rfl) rfl #[.agg #[.int .i64 a1_0, .int .i64 a1_1, .int .i64 a1_2, .int .i64 a1_3, .string a1_4]] rfl (by (try simp only [List.map_toArray, List.map_cons, List.map_nil]); first | done | rfl | (simp only [List.length_drop, List.length_take]; rfl)) ?_; (with_reducible refine (impl_RecOk.calls a1_0 a1_1 a1_2 a1_3 a1_4 false _ A22.out).mono ?_); rintro e w230 ⟨rfl, hb⟩; refine ⟨_, rfl, ?_⟩; have n0_ := Aside0.mk (Kd.R_below (by (with_reducible repeat (first | apply Kd.R_alloc | apply Kd.R_drewN | apply Kd.R_drew)); exact (Kd.R_mono (Kd.R_far (p := ⟨gb221, 4, none⟩) (Kd.R_far (p := ⟨gb221, 3, none⟩) (Kd.R_far (p := ⟨gb221, 2, none⟩) (Kd.R_far (p := ⟨gb221, 1, none⟩) (Kd.R_far (p := ⟨gb221, 0, none⟩) (Kd.R_types HO220.out BK221.out (by decide)) (fun _ hk => hk.2) (.int .i64 t214)) (fun _ hk => hk.2) (.int .i64 t215)) (fun _ hk => hk.2) (.int .i64 t216)) (fun _ hk => hk.2) (.int .i64 t217)) (fun _ hk => hk.2) (.slice Ao21 t218.length co21)) (fun _ h_ => h_.1))) hb); have n1_ := bf BK210 hb; have n2_ := bf BK211 hb; have n3_ := bf BK212 hb; have n4_ := bp #[.int .i64 t214, .int .i64 t215, .int .i64 t216, .int .i64 t217, .slice Ao21 t218.length co21] BK221 hb; have n5_ := Aside0.mk (below_step (be HB) hb); clear HO220 BK210 BK211 BK212 BK221 HB; have HO220 := n0_; have BK210 := n1_; have BK211 := n2_; have BK212 := n3_; have BK221 := n4_; have HB := n5_; clear n0_ n1_ n2_ n3_ n4_ n5_; (try clear hb); (try clear hb2); (try clear hk); (try clear hi)) | (go_at_call 102; go_in))
    go_meet
    case rel => exact ⟨_, (true), (t214), (t215), (t216), (t217), (t218), (.slice Ao21 t218.length co21), (by first | rfl | (simp; done) | (simp [*]; done)), H', ⟨by first | omega | exact Nat.le_refl _⟩, ⟨rr HO220⟩, ⟨bb BK210⟩, ⟨bb BK211⟩, ⟨bb BK212⟩, ⟨bb BK221⟩, ⟨by repeat (first | (with_reducible first | exact HB.out | apply below_alloc | apply pw_below_drewN | apply below_drew1 | refine below_set ?_ GE210.out | refine below_set ?_ GE211.out | refine below_set ?_ GE212.out | refine below_set ?_ GE221.out) | exact HB.out)⟩⟩
  case rest =>
   clear HC6; (try clear c1); (try clear q1); (try clear c2); (try clear p2); (try clear p6); (try clear c7); (try clear c10); (try clear c14); (try clear c17); (try clear c18); (try clear q19); (try clear c20); (try clear c21); (try clear c22); (try clear c23); (try clear p64); (try clear c77); (try clear c101); (try clear c140); (try clear c176); (try clear c176b0); (try clear c176b1); (try clear c179); (try clear c181); (try clear c182); (try clear q198); (try clear c200); (try clear c201); (try clear c202); (try clear c207); (try clear c208); (try clear c209); (try clear c210); (try clear c214); (try clear c215); (try clear c216); (try clear c221); (try clear c222); (try clear c223); (try clear c224); (try clear c226); (try clear c227); (try clear c228); (try clear hcz203_0); (try clear hcz203_1); (try clear hcz203_2); (try clear hcz203_3); (try clear hcz203_4); (try clear hcz205_0); (try clear hcz205_1); (try clear hcz205_2); (try clear hcz205_3); (try clear hcz205_4); (try clear hcz211_0); (try clear hcz211_1); (try clear hcz211_2); (try clear hcz211_3); (try clear hcz211_4); (try clear hcz217_0); (try clear hcz217_1); (try clear hcz217_2); (try clear hcz217_3); (try clear hcz217_4); (try clear hcz219_0); (try clear hcz219_1); (try clear hcz219_2); (try clear hcz219_3); (try clear hcz219_4); (try clear hcz225_0); (try clear hcz225_1); (try clear hcz225_2); (try clear hcz225_3); (try clear hcz225_4); (try clear hcz229_0); (try clear hcz229_1); (try clear hcz229_2); (try clear hcz229_3); (try clear hcz229_4); (try clear hfz203_0); (try clear hfz203_1); (try clear hfz203_2); (try clear hfz203_3); (try clear hfz203_4); (try clear hfz205_0); (try clear hfz205_1); (try clear hfz205_2); (try clear hfz205_3); (try clear hfz205_4); (try clear hfz211_0); (try clear hfz211_1); (try clear hfz211_2); (try clear hfz211_3); (try clear hfz211_4); (try clear hfz217_0); (try clear hfz217_1); (try clear hfz217_2); (try clear hfz217_3); (try clear hfz217_4); (try clear hfz219_0); (try clear hfz219_1); (try clear hfz219_2); (try clear hfz219_3); (try clear hfz219_4); (try clear hfz225_0); (try clear hfz225_1); (try clear hfz225_2); (try clear hfz225_3); (try clear hfz225_4); (try clear hfz229_0); (try clear hfz229_1); (try clear hfz229_2); (try clear hfz229_3); (try clear hfz229_4); (try clear q198); obtain ⟨kq, x20_5, x222000_5, x222001_5, x222002_5, x222003_5, x222004_5, u222004, rfl, HA, HJ5, HO_222004, BK210, BK211, BK212, BK221, HB⟩ := hcut
   cases kq with
   | zero => exact absurd HA.out (by simp [impl_WalStep.j0])
   | succ kj5 =>
    have H := HA.out; clear HA; simp only [impl_WalStep.j0] at H
    by_cases c231 : x20_5 = true
    ·subst c231
     have H1 : ((impl_copyWal.f a0_0 a0_1 a0_2 a0_3 l0_4).bind fun bt235 => (some (bt235.1, bt235.2.1, bt235.2.2.1, bt235.2.2.2.1, bt235.2.2.2.2, false))) = some (r1, r2, r3, r4, r5, r6) := by rw [if_pos rfl] at H; exact H
     clear H; have H := H1
     clear H1; replace H := Option.bind_eq_some_iff.mp H
     obtain ⟨⟨t235, t236, t237, t238, t239⟩, A2320, H⟩ := H
     replace H : (some (t235, t236, t237, t238, t239, false)) = some (r1, r2, r3, r4, r5, r6) := H
     have A232 := Aside0.mk A2320
     clear A2320; simp only [Option.some.injEq, Prod.mk.injEq] at H
     obtain ⟨rfl, rfl, rfl, rfl, rfl, rfl⟩ := H
     have hnb233 := NB210_211.out; have hnc233 := NB211_210.out; have hnb234 := NB210_212.out; have hnc234 := NB212_210.out; have hnb235 := NB210_221.out; have hnc235 := NB221_210.out; obtain ⟨hcz236_0, hcz236_1, hcz236_2, hcz236_3, hcz236_4⟩ := cs5 BK210; obtain ⟨hfz236_0, hfz236_1, hfz236_2, hfz236_3, hfz236_4⟩ := fs5 BK210
     go_wp2_with (first | ((with_reducible refine gate_callee (f := 100) rfl ?_); refine goesL_ (some 22) rfl rfl Try.func100 (by kernel_rfl) rfl #[.agg #[.int .i64 a0_0, .int .i64 a0_1, .int .i64 a0_2, .int .i64 a0_3, .slice A0_4 l0_4.length c0_4]] rfl (by (try simp only [List.map_toArray, List.map_cons, List.map_nil]); first | done | rfl | (simp only [List.length_drop, List.length_take]; rfl)) ?_; (with_reducible refine (impl_copyWal.calls a0_0 a0_1 a0_2 a0_3 _ _ l0_4 t235 t236 t237 t238 t239 _ ?side1 ?side2 A232.out).mono ?_); (case side1 => repeat (first | exact (Kd.C_below HR0_4.out HB.out) | (with_reducible refine Kd.C_alloc ?_ _) | (with_reducible refine Kd.C_drewN ?_ _) | (with_reducible refine Kd.C_drew ?_))); (case side2 => exact HC0_4.out); rintro e w237 ⟨v240, rfl, ho0, hb⟩; refine ⟨_, rfl, ?_⟩; have n0_ := Aside0.mk (Kd.R_elder' (rr HO_222004) (Kd.R_base ho0) hb); have n6_ := Aside0.mk (below_step (be HB) hb); have HO241 := Aside0.mk (Kd.R_lower (Kd.R_new' ho0 (Kd.R_lt (rr HO_222004))) (below_size (be HB))); replace BK210 := bq BK210 hb; replace BK211 := bq BK211 hb; replace BK212 := bq BK212 hb; replace BK221 := bq BK221 hb; clear HO_222004 HB; have HO_222004 := n0_; have HB := n6_; clear n0_ n6_; (try clear hb); (try clear hb2); (try clear hk); (try clear hi); (try clear ho0); have hnb238 := NB212_211.out; have hnc238 := NB211_212.out; have hnb239 := NB212_221.out; have hnc239 := NB221_212.out; obtain ⟨hcz240_0, hcz240_1, hcz240_2, hcz240_3, hcz240_4⟩ := cs5 BK212; obtain ⟨hfz240_0, hfz240_1, hfz240_2, hfz240_3, hfz240_4⟩ := fs5 BK212; obtain ⟨Ao241, co241, eo241⟩ := Kd.R_slice HO241.out; subst eo241) | (go_at_call 102; go_in))
     refine bodyPost_ret (results_ct rfl _ _ gb212 62 #[.int .i64 t235, .int .i64 t236, .int .i64 t237, .int .i64 t238, .slice Ao241 t239.length co241] (0, 0) _ rfl (by (with_reducible repeat first | refine bkN ?_ _ | refine bkD ?_ | refine bkA ?_ _); refine blk_put (cs := #[.int .i64 t235, .int .i64 t236, .int .i64 t237, .int .i64 t238, .slice none 0 0]) ?_ 4 _ rfl; (with_reducible repeat first | refine bkN ?_ _ | refine bkD ?_ | refine bkA ?_ _); refine blk_put (cs := #[.int .i64 t235, .int .i64 t236, .int .i64 t237, .int .i64 0, .slice none 0 0]) ?_ 3 _ rfl; (with_reducible repeat first | refine bkN ?_ _ | refine bkD ?_ | refine bkA ?_ _); refine blk_put (cs := #[.int .i64 t235, .int .i64 t236, .int .i64 0, .int .i64 0, .slice none 0 0]) ?_ 2 _ rfl; (with_reducible repeat first | refine bkN ?_ _ | refine bkD ?_ | refine bkA ?_ _); refine blk_put (cs := #[.int .i64 t235, .int .i64 0, .int .i64 0, .int .i64 0, .slice none 0 0]) ?_ 1 _ rfl; (with_reducible repeat first | refine bkN ?_ _ | refine bkD ?_ | refine bkA ?_ _); refine blk_put (cs := #[.int .i64 0, .int .i64 0, .int .i64 0, .int .i64 0, .slice none 0 0]) ?_ 0 _ rfl; (with_reducible repeat first | refine bkN ?_ _ | refine bkD ?_ | refine bkA ?_ _); exact BK212.out) Try.underlying62 rfl (by kernel_rfl)) rfl ?_
     exact ⟨_, by first | rfl | (simp [errW_none, errW_some] <;> rfl) | (simp [*, errW_none, errW_some] <;> rfl), by (with_reducible repeat (first | apply Kd.R_alloc | apply Kd.R_drewN | apply Kd.R_drew)); exact Kd.R_mono (Kd.R_far (p := ⟨gb212, 4, none⟩) (Kd.R_far (p := ⟨gb212, 3, none⟩) (Kd.R_far (p := ⟨gb212, 2, none⟩) (Kd.R_far (p := ⟨gb212, 1, none⟩) (Kd.R_far (p := ⟨gb212, 0, none⟩) (Kd.R_types HO241.out BK212.out (by decide)) (fun _ hk => hk.2) (.int .i64 t235)) (fun _ hk => hk.2) (.int .i64 t236)) (fun _ hk => hk.2) (.int .i64 t237)) (fun _ hk => hk.2) (.int .i64 t238)) (fun _ hk => hk.2) (.slice Ao241 t239.length co241)) (fun _ hk => trivial), by repeat (first | (with_reducible first | exact HB.out | apply below_alloc | apply pw_below_drewN | apply below_drew1 | refine below_set ?_ GE210.out | refine below_set ?_ GE211.out | refine below_set ?_ GE212.out | refine below_set ?_ GE221.out) | exact HB.out)⟩
    ·replace c231 := Bool.eq_false_iff.mpr c231
     subst c231
     have H1 : ((impl_copyWal.f x222000_5 x222001_5 x222002_5 x222003_5 x222004_5).bind fun bt242 => (some (bt242.1, bt242.2.1, bt242.2.2.1, bt242.2.2.2.1, bt242.2.2.2.2, true))) = some (r1, r2, r3, r4, r5, r6) := by rw [if_neg (show ¬ (false = true) by decide)] at H; exact H
     clear H; have H := H1
     clear H1; replace H := Option.bind_eq_some_iff.mp H
     obtain ⟨⟨t242, t243, t244, t245, t246⟩, A2420, H⟩ := H
     replace H : (some (t242, t243, t244, t245, t246, true)) = some (r1, r2, r3, r4, r5, r6) := H
     have A242 := Aside0.mk A2420
     clear A2420; simp only [Option.some.injEq, Prod.mk.injEq] at H
     obtain ⟨rfl, rfl, rfl, rfl, rfl, rfl⟩ := H
     have hnb243 := NB221_210.out; have hnc243 := NB210_221.out; have hnb244 := NB221_211.out; have hnc244 := NB211_221.out; have hnb245 := NB221_212.out; have hnc245 := NB212_221.out; obtain ⟨hcz246_0, hcz246_1, hcz246_2, hcz246_3, hcz246_4⟩ := cs5 BK221; obtain ⟨hfz246_0, hfz246_1, hfz246_2, hfz246_3, hfz246_4⟩ := fs5 BK221; obtain ⟨Ao247, co247, eo247⟩ := Kd.R_slice HO_222004.out
     subst eo247
     go_wp2_with (first | ((with_reducible refine gate_callee (f := 100) rfl ?_); refine goesL_ (some 24) rfl rfl Try.func100 (by kernel_rfl) rfl #[.agg #[.int .i64 x222000_5, .int .i64 x222001_5, .int .i64 x222002_5, .int .i64 x222003_5, .slice Ao247 x222004_5.length co247]] rfl (by (try simp only [List.map_toArray, List.map_cons, List.map_nil]); first | done | rfl | (simp only [List.length_drop, List.length_take]; rfl)) ?_; (with_reducible refine (impl_copyWal.calls x222000_5 x222001_5 x222002_5 x222003_5 _ _ x222004_5 t242 t243 t244 t245 t246 _ ?side1 ?side2 A242.out).mono ?_); (case side1 => repeat (first | exact (Kd.R_reads' HO_222004.out).2.2 | (with_reducible refine Kd.C_alloc ?_ _) | (with_reducible refine Kd.C_drewN ?_ _) | (with_reducible refine Kd.C_drew ?_))); (case side2 => exact (Kd.R_reads' HO_222004.out).2.1); rintro e w248 ⟨v247, rfl, ho0, hb⟩; refine ⟨_, rfl, ?_⟩; have n0_ := Aside0.mk (Kd.R_elder' (rr HO_222004) (Kd.R_base ho0) hb); have n6_ := Aside0.mk (below_step (be HB) hb); have HO248 := Aside0.mk (Kd.R_lower (Kd.R_new' ho0 (Kd.R_lt (rr HO_222004))) (below_size (be HB))); replace BK210 := bq BK210 hb; replace BK211 := bq BK211 hb; replace BK212 := bq BK212 hb; replace BK221 := bq BK221 hb; clear HO_222004 HB; have HO_222004 := n0_; have HB := n6_; clear n0_ n6_; (try clear hb); (try clear hb2); (try clear hk); (try clear hi); (try clear ho0); have hnb249 := NB212_210.out; have hnc249 := NB210_212.out; have hnb250 := NB212_211.out; have hnc250 := NB211_212.out; obtain ⟨hcz251_0, hcz251_1, hcz251_2, hcz251_3, hcz251_4⟩ := cs5 BK212; obtain ⟨hfz251_0, hfz251_1, hfz251_2, hfz251_3, hfz251_4⟩ := fs5 BK212; obtain ⟨Ao252, co252, eo252⟩ := Kd.R_slice HO248.out; subst eo252) | (go_at_call 102; go_in))
     refine bodyPost_ret (results_ct rfl _ _ gb212 62 #[.int .i64 t242, .int .i64 t243, .int .i64 t244, .int .i64 t245, .slice Ao252 t246.length co252] (0, 0) _ rfl (by (with_reducible repeat first | refine bkN ?_ _ | refine bkD ?_ | refine bkA ?_ _); refine blk_put (cs := #[.int .i64 t242, .int .i64 t243, .int .i64 t244, .int .i64 t245, .slice none 0 0]) ?_ 4 _ rfl; (with_reducible repeat first | refine bkN ?_ _ | refine bkD ?_ | refine bkA ?_ _); refine blk_put (cs := #[.int .i64 t242, .int .i64 t243, .int .i64 t244, .int .i64 0, .slice none 0 0]) ?_ 3 _ rfl; (with_reducible repeat first | refine bkN ?_ _ | refine bkD ?_ | refine bkA ?_ _); refine blk_put (cs := #[.int .i64 t242, .int .i64 t243, .int .i64 0, .int .i64 0, .slice none 0 0]) ?_ 2 _ rfl; (with_reducible repeat first | refine bkN ?_ _ | refine bkD ?_ | refine bkA ?_ _); refine blk_put (cs := #[.int .i64 t242, .int .i64 0, .int .i64 0, .int .i64 0, .slice none 0 0]) ?_ 1 _ rfl; (with_reducible repeat first | refine bkN ?_ _ | refine bkD ?_ | refine bkA ?_ _); refine blk_put (cs := #[.int .i64 0, .int .i64 0, .int .i64 0, .int .i64 0, .slice none 0 0]) ?_ 0 _ rfl; (with_reducible repeat first | refine bkN ?_ _ | refine bkD ?_ | refine bkA ?_ _); exact BK212.out) Try.underlying62 rfl (by kernel_rfl)) rfl ?_
     exact ⟨_, by first | rfl | (simp [errW_none, errW_some] <;> rfl) | (simp [*, errW_none, errW_some] <;> rfl), by (with_reducible repeat (first | apply Kd.R_alloc | apply Kd.R_drewN | apply Kd.R_drew)); exact Kd.R_mono (Kd.R_far (p := ⟨gb212, 4, none⟩) (Kd.R_far (p := ⟨gb212, 3, none⟩) (Kd.R_far (p := ⟨gb212, 2, none⟩) (Kd.R_far (p := ⟨gb212, 1, none⟩) (Kd.R_far (p := ⟨gb212, 0, none⟩) (Kd.R_types HO248.out BK212.out (by decide)) (fun _ hk => hk.2) (.int .i64 t242)) (fun _ hk => hk.2) (.int .i64 t243)) (fun _ hk => hk.2) (.int .i64 t244)) (fun _ hk => hk.2) (.int .i64 t245)) (fun _ hk => hk.2) (.slice Ao252 t246.length co252)) (fun _ hk => trivial), by repeat (first | (with_reducible first | exact HB.out | apply below_alloc | apply pw_below_drewN | apply below_drew1 | refine below_set ?_ GE210.out | refine below_set ?_ GE211.out | refine below_set ?_ GE212.out | refine below_set ?_ GE221.out) | exact HB.out)⟩
 ·replace c4 := Bool.eq_false_iff.mpr c4
  subst c4
  have H1 : (some (0, 0, 0, 0, ([] : List (S125)), false)) = some (r1, r2, r3, r4, r5, r6) := by rw [if_neg (show ¬ (false = true) by decide)] at H; exact H
  clear H; have H := H1
  clear H1; simp only [Option.some.injEq, Prod.mk.injEq] at H
  obtain ⟨rfl, rfl, rfl, rfl, rfl, rfl⟩ := H
  go_enter Try.func40, Try.ntmps40
  go_wp2_with (first | ((with_reducible refine gate_dst (N := 2) rfl ?_); refine box_event ?hg (N := 2) ?hd (cs := #[.int .i64 a0_0, .int .i64 a0_1, .int .i64 a0_2, .int .i64 a0_3, .slice A0_4 l0_4.length c0_4]) (t := 62) ?hr ?_; (case hd => rfl); (case hg => rfl); (case hr => first | (go_simp; done) | (go_simp; rfl)); intro gb210 hg w253 hbox hb; have n0_ := Aside0.mk (below_step (be HB) hb); have BK210 := Aside0.mk (hbox); have GW210 := bs HB hg; have GE210 := bs HB hg; clear HB; have HB := n0_; clear n0_; clear hb hbox hg) | ((with_reducible refine gate_dst (N := 3) rfl ?_); refine box_event ?hg (N := 3) ?hd (cs := #[.int .i64 a1_0, .int .i64 a1_1, .int .i64 a1_2, .int .i64 a1_3, .string a1_4]) (t := 44) ?hr ?_; (case hd => rfl); (case hg => rfl); (case hr => first | (go_simp; done) | (go_simp; rfl)); intro gb211 hg w254 hbox hb; have n1_ := Aside0.mk (below_step (be HB) hb); have BK211 := Aside0.mk (hbox); have GW211 := bs HB hg; have GE211 := bs HB hg; have NB210_211 := bl BK210 hg; have NB211_210 := bg BK210 hg; replace BK210 := bq BK210 hb; clear HB; have HB := n1_; clear n1_; clear hb hbox hg) | ((with_reducible refine gate_dst (N := 4) rfl ?_); refine box_event ?hg (N := 4) ?hd (cs := #[.int .i64 0, .int .i64 0, .int .i64 0, .int .i64 0, .slice none 0 0]) (t := 62) ?hr ?_; (case hd => rfl); (case hg => rfl); (case hr => first | (go_simp; done) | (go_simp; rfl)); intro gb212 hg w255 hbox hb; have n2_ := Aside0.mk (below_step (be HB) hb); have BK212 := Aside0.mk (hbox); have GW212 := bs HB hg; have GE212 := bs HB hg; have NB210_212 := bl BK210 hg; have NB212_210 := bg BK210 hg; have NB211_212 := bl BK211 hg; have NB212_211 := bg BK211 hg; replace BK210 := bq BK210 hb; replace BK211 := bq BK211 hb; clear HB; have HB := n2_; clear n2_; clear hb hbox hg; have hnb256 := NB210_211.out; have hnc256 := NB211_210.out; have hnb257 := NB210_212.out; have hnc257 := NB212_210.out; obtain ⟨hcz258_0, hcz258_1, hcz258_2, hcz258_3, hcz258_4⟩ := cs5 BK210; obtain ⟨hfz258_0, hfz258_1, hfz258_2, hfz258_3, hfz258_4⟩ := fs5 BK210) | ((with_reducible refine gate_callee (f := 99) rfl ?_); refine goesL_ (some 8) rfl rfl Try.func99 (by kernel_rfl) rfl #[.agg #[.int .i64 a0_0, .int .i64 a0_1, .int .i64 a0_2, .int .i64 a0_3, .slice A0_4 l0_4.length c0_4]] rfl (by (try simp only [List.map_toArray, List.map_cons, List.map_nil]); first | done | rfl | (simp only [List.length_drop, List.length_take]; rfl)) ?_; (with_reducible refine (impl_WalOk.calls k a0_0 a0_1 a0_2 a0_3 _ _ l0_4 false _ ?side1 ?side2 A3.out).mono ?_); (case side1 => repeat (first | exact (Kd.C_below HR0_4.out HB.out) | (with_reducible refine Kd.C_alloc ?_ _) | (with_reducible refine Kd.C_drewN ?_ _) | (with_reducible refine Kd.C_drew ?_))); (case side2 => exact HC0_4.out); rintro e w259 ⟨rfl, hb⟩; refine ⟨_, rfl, ?_⟩; have n3_ := Aside0.mk (below_step (be HB) hb); replace BK210 := bq BK210 hb; replace BK211 := bq BK211 hb; replace BK212 := bq BK212 hb; clear HB; have HB := n3_; clear n3_; (try clear hb); (try clear hb2); (try clear hk); (try clear hi); have hnb260 := NB212_211.out; have hnc260 := NB211_212.out; obtain ⟨hcz261_0, hcz261_1, hcz261_2, hcz261_3, hcz261_4⟩ := cs5 BK212; obtain ⟨hfz261_0, hfz261_1, hfz261_2, hfz261_3, hfz261_4⟩ := fs5 BK212) | (go_at_call 102; go_in))
  refine bodyPost_ret (results_ct rfl _ _ gb212 62 #[.int .i64 0, .int .i64 0, .int .i64 0, .int .i64 0, .slice none 0 0] (0, 0) _ rfl (by (with_reducible repeat first | refine bkN ?_ _ | refine bkD ?_ | refine bkA ?_ _); refine blk_put (cs := #[.int .i64 0, .int .i64 0, .int .i64 0, .int .i64 0, .slice none 0 0]) ?_ 4 _ rfl; (with_reducible repeat first | refine bkN ?_ _ | refine bkD ?_ | refine bkA ?_ _); refine blk_put (cs := #[.int .i64 0, .int .i64 0, .int .i64 0, .int .i64 0, .slice none 0 0]) ?_ 3 _ rfl; (with_reducible repeat first | refine bkN ?_ _ | refine bkD ?_ | refine bkA ?_ _); refine blk_put (cs := #[.int .i64 0, .int .i64 0, .int .i64 0, .int .i64 0, .slice none 0 0]) ?_ 2 _ rfl; (with_reducible repeat first | refine bkN ?_ _ | refine bkD ?_ | refine bkA ?_ _); refine blk_put (cs := #[.int .i64 0, .int .i64 0, .int .i64 0, .int .i64 0, .slice none 0 0]) ?_ 1 _ rfl; (with_reducible repeat first | refine bkN ?_ _ | refine bkD ?_ | refine bkA ?_ _); refine blk_put (cs := #[.int .i64 0, .int .i64 0, .int .i64 0, .int .i64 0, .slice none 0 0]) ?_ 0 _ rfl; (with_reducible repeat first | refine bkN ?_ _ | refine bkD ?_ | refine bkA ?_ _); exact BK212.out) Try.underlying62 rfl (by kernel_rfl)) rfl ?_
  exact ⟨_, by first | rfl | (simp [errW_none, errW_some] <;> rfl) | (simp [*, errW_none, errW_some] <;> rfl), by first | exact Kd.R_nil _ _ _ _ _ | exact Kd.N_nil _ _ _ _ _ | exact Kd.V_nil _ _ _ _ _ | exact Kd.Q_nil _ _ _ _ _ | exact Kd.S_nil _ _ _ _ _, by repeat (first | (with_reducible first | exact HB.out | apply below_alloc | apply pw_below_drewN | apply below_drew1 | refine below_set ?_ GE210.out | refine below_set ?_ GE211.out | refine below_set ?_ GE212.out) | exact HB.out)⟩

end Go.Proofs.Ytopnfbnfmaghaaa.PFnExactChanges
