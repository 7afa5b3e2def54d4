-- The machine side of a law: written by a program of this session (wip/tools), a turned print.
import Derived.Test.YtobkmpihjfiihaaDoorPFnCanonx0
import Derived.Test.YtobkmpihjfiihaaDoorPFnCanonx2
namespace Go.Proofs.YtobkmpihjfiihaaDoor.PFnCanon
open Go.RowKit Go.Proofs.YtobkmpihjfiihaaDoorW.PrintWords Go.Proofs.YtobkmpihjfiihaaDoorW.PrintLast Go.Proofs.YtobkmpihjfiihaaDoorW.PrintMore
attribute [local go_sem] max2_int min2_int max_two min_two max_three min_three max_four min_four   -- for this text's walks alone
set_option linter.unusedVariables false
set_option linter.unusedSimpArgs false
mutual
def spec_l2Block.l0 : Nat → List Int → List Int → ByteArray → List Int → Int → Option (List Int)
 | 0, _, _, _, _, _ => none
 | k + 1, x0, x1, x2, x7, x8 => if x8 < 16 then (if 0 ≤ (wrap64 (4 * x8)) then (if (wrap64 (4 * x8)) < (x2.size : Int) then (if 0 ≤ (wrap64 ((wrap64 (4 * x8)) + 1)) then (if (wrap64 ((wrap64 (4 * x8)) + 1)) < (x2.size : Int) then (if 0 ≤ (wrap64 ((wrap64 (4 * x8)) + 2)) then (if (wrap64 ((wrap64 (4 * x8)) + 2)) < (x2.size : Int) then (if 0 ≤ (wrap64 ((wrap64 (4 * x8)) + 3)) then (if (wrap64 ((wrap64 (4 * x8)) + 3)) < (x2.size : Int) then (if x7.length < 35184372088832 then (spec_l2Block.l0 k x0 x1 x2 (x7 ++ [Go.bits .or .u32 (Go.bits .or .u32 (Go.bits .or .u32 ((((bt x2 (wrap64 (4 * x8))) % 4294967296) * 16777216) % 4294967296) ((((bt x2 (wrap64 ((wrap64 (4 * x8)) + 1))) % 4294967296) * 65536) % 4294967296)) ((((bt x2 (wrap64 ((wrap64 (4 * x8)) + 2))) % 4294967296) * 256) % 4294967296)) ((bt x2 (wrap64 ((wrap64 (4 * x8)) + 3))) % 4294967296)]) (wrap64 (x8 + 1))) else (none)) else (none)) else (none)) else (none)) else (none)) else (none)) else (none)) else (none)) else (none)) else (spec_l2Block.l1 k x0 x1 x7 16)
def spec_l2Block.l1 : Nat → List Int → List Int → List Int → Int → Option (List Int)
 | 0, _, _, _, _ => none
 | k + 1, x0, x1, x7, x9 => if x9 < 64 then (if 0 ≤ (wrap64 (x9 - 15)) then (if (wrap64 (x9 - 15)) < (x7.length : Int) then ((spec_l2Turn.f (rd x7 (wrap64 (x9 - 15))) 7).bind fun t118 => ((spec_l2Turn.f (rd x7 (wrap64 (x9 - 15))) 18).bind fun t120 => (if 0 ≤ (wrap64 (x9 - 2)) then (if (wrap64 (x9 - 2)) < (x7.length : Int) then ((spec_l2Turn.f (rd x7 (wrap64 (x9 - 2))) 17).bind fun t123 => ((spec_l2Turn.f (rd x7 (wrap64 (x9 - 2))) 19).bind fun t125 => (if 0 ≤ (wrap64 (x9 - 16)) then (if (wrap64 (x9 - 16)) < (x7.length : Int) then (if 0 ≤ (wrap64 (x9 - 7)) then (if (wrap64 (x9 - 7)) < (x7.length : Int) then (if x7.length < 35184372088832 then (spec_l2Block.l1 k x0 x1 (x7 ++ [((((((rd x7 (wrap64 (x9 - 16))) + (Go.bits .xor .u32 (Go.bits .xor .u32 t118 t120) ((rd x7 (wrap64 (x9 - 15))) / 8))) % 4294967296) + (rd x7 (wrap64 (x9 - 7)))) % 4294967296) + (Go.bits .xor .u32 (Go.bits .xor .u32 t123 t125) ((rd x7 (wrap64 (x9 - 2))) / 1024))) % 4294967296]) (wrap64 (x9 + 1))) else (none)) else (none)) else (none)) else (none)) else (none)))) else (none)) else (none)))) else (none)) else (none)) else ((some (([] : List Int) : List Int)).bind fun y132 => (if y132.length + x0.length < 35184372088832 then (spec_l2Block.l2 k x0 x1 x7 (y132 ++ x0) 0) else (none)))
def spec_l2Block.l2 : Nat → List Int → List Int → List Int → List Int → Int → Option (List Int)
 | 0, _, _, _, _, _ => none
 | k + 1, x0, x1, x7, x12, x13 => if x13 < 64 then (if 4 < (x12.length : Int) then ((spec_l2Turn.f (rd x12 4) 6).bind fun t139 => ((spec_l2Turn.f (rd x12 4) 11).bind fun t141 => ((spec_l2Turn.f (rd x12 4) 25).bind fun t143 => (if 7 < (x12.length : Int) then (if 5 < (x12.length : Int) then (if 6 < (x12.length : Int) then (if 0 ≤ x13 then (if x13 < (x1.length : Int) then (if x13 < (x7.length : Int) then (if 0 < (x12.length : Int) then ((spec_l2Turn.f (rd x12 0) 2).bind fun t152 => ((spec_l2Turn.f (rd x12 0) 13).bind fun t154 => ((spec_l2Turn.f (rd x12 0) 22).bind fun t156 => (if 1 < (x12.length : Int) then (if 2 < (x12.length : Int) then (if 3 < (x12.length : Int) then (spec_l2Block.l2 k x0 x1 x7 (([((((((((((rd x12 7) + (Go.bits .xor .u32 (Go.bits .xor .u32 t139 t141) t143)) % 4294967296) + (Go.bits .xor .u32 (Go.bits .and .u32 (rd x12 4) (rd x12 5)) (Go.bits .and .u32 (Go.bits .xor .u32 IntKind.u32.max (rd x12 4)) (rd x12 6)))) % 4294967296) + (rd x1 x13)) % 4294967296) + (rd x7 x13)) % 4294967296) + (((Go.bits .xor .u32 (Go.bits .xor .u32 t152 t154) t156) + (Go.bits .xor .u32 (Go.bits .xor .u32 (Go.bits .and .u32 (rd x12 0) (rd x12 1)) (Go.bits .and .u32 (rd x12 0) (rd x12 2))) (Go.bits .and .u32 (rd x12 1) (rd x12 2)))) % 4294967296)) % 4294967296, rd x12 0, rd x12 1, rd x12 2, ((rd x12 3) + (((((((((rd x12 7) + (Go.bits .xor .u32 (Go.bits .xor .u32 t139 t141) t143)) % 4294967296) + (Go.bits .xor .u32 (Go.bits .and .u32 (rd x12 4) (rd x12 5)) (Go.bits .and .u32 (Go.bits .xor .u32 IntKind.u32.max (rd x12 4)) (rd x12 6)))) % 4294967296) + (rd x1 x13)) % 4294967296) + (rd x7 x13)) % 4294967296)) % 4294967296, rd x12 4, rd x12 5, rd x12 6] : List Int)) (wrap64 (x13 + 1))) else (none)) else (none)) else (none))))) else (none)) else (none)) else (none)) else (none)) else (none)) else (none)) else (none))))) else (none)) else (spec_l2Block.l3 k x0 x12 (([] : List Int)) 0)
def spec_l2Block.l3 : Nat → List Int → List Int → List Int → Int → Option (List Int)
 | 0, _, _, _, _ => none
 | k + 1, x0, x12, x18, x19 => if x19 < 8 then (if 0 ≤ x19 then (if x19 < (x0.length : Int) then (if x19 < (x12.length : Int) then (if x18.length < 35184372088832 then (spec_l2Block.l3 k x0 x12 (x18 ++ [((rd x0 x19) + (rd x12 x19)) % 4294967296]) (wrap64 (x19 + 1))) else (none)) else (none)) else (none)) else (none)) else (some x18)
end
def spec_l2Block.f (k : Nat) (l0 : List Int) (l1 : List Int) (a2 : ByteArray) : Option (List Int) := spec_l2Block.l0 k l0 l1 a2 (([] : List Int)) 0
theorem spec_l2Block.mono_l : ∀ k, (∀ y0 y1 y2 y3 y4, LeO (spec_l2Block.l0 k y0 y1 y2 y3 y4) (spec_l2Block.l0 (k + 1) y0 y1 y2 y3 y4)) ∧ (∀ y0 y1 y2 y3, LeO (spec_l2Block.l1 k y0 y1 y2 y3) (spec_l2Block.l1 (k + 1) y0 y1 y2 y3)) ∧ (∀ y0 y1 y2 y3 y4, LeO (spec_l2Block.l2 k y0 y1 y2 y3 y4) (spec_l2Block.l2 (k + 1) y0 y1 y2 y3 y4)) ∧ (∀ y0 y1 y2 y3, LeO (spec_l2Block.l3 k y0 y1 y2 y3) (spec_l2Block.l3 (k + 1) y0 y1 y2 y3))
 | 0 => ⟨fun _ _ _ _ _ r h => by simp [spec_l2Block.l0] at h, fun _ _ _ _ r h => by simp [spec_l2Block.l1] at h, fun _ _ _ _ _ r h => by simp [spec_l2Block.l2] at h, fun _ _ _ _ r h => by simp [spec_l2Block.l3] at h⟩
 | k + 1 => by
  obtain ⟨ih0, ih1, ih2, ih3⟩ := spec_l2Block.mono_l k
  refine ⟨?_, ?_, ?_, ?_⟩
  ·intro y0 y1 y2 y3 y4
   unfold spec_l2Block.l0
   repeat' first
   | (with_reducible exact ih0 _ _ _ _ _)
   | (with_reducible exact ih1 _ _ _ _)
   | (with_reducible exact ih2 _ _ _ _ _)
   | (with_reducible exact ih3 _ _ _ _)
   | (with_reducible exact LeO.refl _)
   | (with_reducible exact LeO.none _)
   | (with_reducible refine LeO.ite ?_ ?_)
   | (with_reducible refine LeO.bind ?_ (fun _ => ?_))
   | exact ih0 _ _ _ _ _
   | exact ih1 _ _ _ _
   | exact ih2 _ _ _ _ _
   | exact ih3 _ _ _ _
   | exact LeO.none _
   | refine LeO.ite ?_ ?_
   | refine LeO.bind ?_ (fun _ => ?_)
  ·intro y0 y1 y2 y3
   unfold spec_l2Block.l1
   repeat' first
   | (with_reducible exact ih0 _ _ _ _ _)
   | (with_reducible exact ih1 _ _ _ _)
   | (with_reducible exact ih2 _ _ _ _ _)
   | (with_reducible exact ih3 _ _ _ _)
   | (with_reducible exact LeO.refl _)
   | (with_reducible exact LeO.none _)
   | (with_reducible refine LeO.ite ?_ ?_)
   | (with_reducible refine LeO.bind ?_ (fun _ => ?_))
   | exact ih0 _ _ _ _ _
   | exact ih1 _ _ _ _
   | exact ih2 _ _ _ _ _
   | exact ih3 _ _ _ _
   | exact LeO.none _
   | refine LeO.ite ?_ ?_
   | refine LeO.bind ?_ (fun _ => ?_)
  ·intro y0 y1 y2 y3 y4
   unfold spec_l2Block.l2
   repeat' first
   | (with_reducible exact ih0 _ _ _ _ _)
   | (with_reducible exact ih1 _ _ _ _)
   | (with_reducible exact ih2 _ _ _ _ _)
   | (with_reducible exact ih3 _ _ _ _)
   | (with_reducible exact LeO.refl _)
   | (with_reducible exact LeO.none _)
   | (with_reducible refine LeO.ite ?_ ?_)
   | (with_reducible refine LeO.bind ?_ (fun _ => ?_))
   | exact ih0 _ _ _ _ _
   | exact ih1 _ _ _ _
   | exact ih2 _ _ _ _ _
   | exact ih3 _ _ _ _
   | exact LeO.none _
   | refine LeO.ite ?_ ?_
   | refine LeO.bind ?_ (fun _ => ?_)
  ·intro y0 y1 y2 y3
   unfold spec_l2Block.l3
   repeat' first
   | (with_reducible exact ih0 _ _ _ _ _)
   | (with_reducible exact ih1 _ _ _ _)
   | (with_reducible exact ih2 _ _ _ _ _)
   | (with_reducible exact ih3 _ _ _ _)
   | (with_reducible exact LeO.refl _)
   | (with_reducible exact LeO.none _)
   | (with_reducible refine LeO.ite ?_ ?_)
   | (with_reducible refine LeO.bind ?_ (fun _ => ?_))
   | exact ih0 _ _ _ _ _
   | exact ih1 _ _ _ _
   | exact ih2 _ _ _ _ _
   | exact ih3 _ _ _ _
   | exact LeO.none _
   | refine LeO.ite ?_ ?_
   | refine LeO.bind ?_ (fun _ => ?_)
theorem spec_l2Block.mono : ∀ a0 a1 a2 k, LeO (spec_l2Block.f k a0 a1 a2) (spec_l2Block.f (k + 1) a0 a1 a2) := by
 intro a0 a1 a2 k
 obtain ⟨ih0, ih1, ih2, ih3⟩ := spec_l2Block.mono_l k
 unfold spec_l2Block.f
 repeat' first
   | (with_reducible exact ih0 _ _ _ _ _)
   | (with_reducible exact ih1 _ _ _ _)
   | (with_reducible exact ih2 _ _ _ _ _)
   | (with_reducible exact ih3 _ _ _ _)
   | (with_reducible exact LeO.refl _)
   | (with_reducible exact LeO.none _)
   | (with_reducible refine LeO.ite ?_ ?_)
   | (with_reducible refine LeO.bind ?_ (fun _ => ?_))
   | exact ih0 _ _ _ _ _
   | exact ih1 _ _ _ _
   | exact ih2 _ _ _ _ _
   | exact ih3 _ _ _ _
   | exact LeO.none _
   | refine LeO.ite ?_ ?_
   | refine LeO.bind ?_ (fun _ => ?_)
def spec_l2Block.T5 : Bool × List (List Nat × List Nat) := (true, [([], []), ([], []), ([], []), ([2], [2]), ([1, 3], [1, 3]), ([4], [4]), ([5], [5]), ([], []), ([], []), ([8], [8]), ([9], [9]), ([7, 10], [7, 10]), ([11], [11]), ([12], [12]), ([6, 13], [6, 13]), ([], []), ([], []), ([16], [16]), ([17], [17]), ([15, 18], [15, 18]), ([19], [19]), ([20], [20]), ([14, 21], [14, 21]), ([], []), ([], []), ([24], [24]), ([25], [25]), ([23, 26], [23, 26]), ([27], [27]), ([22, 28], [22, 28]), ([29], [29]), ([0, 30], [0, 30]), ([31, 31, 0, 1, 2, 3, 4, 5, 6, 7, 8, 9, 10, 11, 12, 13, 14, 15, 16, 17, 18, 19, 20, 21, 22, 23, 24, 25, 26, 27, 28, 29, 30, 31], [0, 31])])
def spec_l2Block.B5 : List Nat := [0, 0, 0, 4, 14, 30, 62, 0, 0, 256, 768, 1920, 3968, 8064, 16382, 0, 0, 65536, 196608, 491520, 1015808, 2064384, 4194302, 0, 0, 16777216, 50331648, 125829120, 260046848, 536870910, 1073741822, 2147483647, 4294967295]
theorem spec_l2Block.tab5 : rtab .any (opsOf Tryd.f37 5) = spec_l2Block.T5 := by kernel_rfl
theorem spec_l2Block.bits5 : waitsOk spec_l2Block.T5.2 spec_l2Block.B5 = true := by kernel_rfl
def spec_l2Block.T9 : Bool × List (List Nat × List Nat) := (true, [([], []), ([], []), ([1], [1]), ([0, 2], [0, 2]), ([3], [3]), ([4], [4]), ([], []), ([], []), ([7], [7]), ([6, 8], [6, 8]), ([9], [9]), ([10, 5], [10]), ([5, 11], [5, 11]), ([], []), ([], []), ([14], [14]), ([13, 15], [13, 15]), ([16], [16]), ([17], [17]), ([12, 18], [12, 18]), ([19, 11, 0, 1, 2, 3, 4, 5, 6, 7, 8, 9, 10, 11, 12, 13, 14, 15, 16, 17, 18, 19], [19])])
def spec_l2Block.B9 : List Nat := [0, 0, 2, 7, 15, 31, 0, 0, 128, 448, 960, 2047, 4095, 0, 0, 16384, 57344, 122880, 253952, 524287, 1048575]
theorem spec_l2Block.tab9 : rtab .any (opsOf Tryd.f37 9) = spec_l2Block.T9 := by kernel_rfl
theorem spec_l2Block.bits9 : waitsOk spec_l2Block.T9.2 spec_l2Block.B9 = true := by kernel_rfl
def spec_l2Block.T10 : Bool × List (List Nat × List Nat) := (true, [([], []), ([], []), ([1], [1]), ([0, 2], [0, 2]), ([3], [3]), ([4], [4]), ([], []), ([], []), ([7], [7]), ([6, 8], [6, 8]), ([9], [9]), ([10, 5], [10]), ([5, 11], [5, 11]), ([], []), ([], []), ([14], [14]), ([13, 15], [13, 15]), ([16], [16]), ([17], [17]), ([12, 18], [12, 18]), ([19, 11, 0, 1, 2, 3, 4, 5, 6, 7, 8, 9, 10, 11, 12, 13, 14, 15, 16, 17, 18, 19], [19])])
def spec_l2Block.B10 : List Nat := [0, 0, 2, 7, 15, 31, 0, 0, 128, 448, 960, 2047, 4095, 0, 0, 16384, 57344, 122880, 253952, 524287, 1048575]
theorem spec_l2Block.tab10 : rtab .any (opsOf Tryd.f37 10) = spec_l2Block.T10 := by kernel_rfl
theorem spec_l2Block.bits10 : waitsOk spec_l2Block.T10.2 spec_l2Block.B10 = true := by kernel_rfl
def spec_l2Block.T11 : Bool × List (List Nat × List Nat) := (true, [([], []), ([], []), ([], []), ([2], [2]), ([1, 3], [1, 3]), ([4], [4]), ([], []), ([5, 6], [5, 6]), ([], []), ([], []), ([9], [9]), ([8, 10], [8, 10]), ([11], [11]), ([7, 12], [7, 12]), ([], []), ([13, 14], [13, 14]), ([15], [15]), ([0, 16], [0, 16]), ([17, 17, 0, 1, 2, 3, 4, 5, 6, 7, 8, 9, 10, 11, 12, 13, 14, 15, 16, 17], [0, 1, 8, 17])])
def spec_l2Block.B11 : List Nat := [0, 0, 0, 4, 14, 30, 0, 126, 0, 0, 512, 1792, 3840, 8190, 0, 32766, 65534, 131071, 262143]
theorem spec_l2Block.tab11 : rtab .any (opsOf Tryd.f37 11) = spec_l2Block.T11 := by kernel_rfl
theorem spec_l2Block.bits11 : waitsOk spec_l2Block.T11.2 spec_l2Block.B11 = true := by kernel_rfl
def spec_l2Block.T16 : Bool × List (List Nat × List Nat) := (true, [([], []), ([0], [0]), ([1], [1]), ([2], [2]), ([], []), ([4], [4]), ([5], [5]), ([6, 3], [6]), ([3, 7], [3, 7]), ([], []), ([9], [9]), ([10], [10]), ([11, 7], [11]), ([8, 12], [8, 12]), ([13, 12, 0, 1, 2, 3, 4, 5, 6, 7, 8, 9, 10, 11, 12, 13], [13])])
def spec_l2Block.B16 : List Nat := [0, 1, 3, 7, 0, 16, 48, 127, 255, 0, 512, 1536, 3839, 8191, 16383]
theorem spec_l2Block.tab16 : rtab .any (opsOf Tryd.f37 16) = spec_l2Block.T16 := by kernel_rfl
theorem spec_l2Block.bits16 : waitsOk spec_l2Block.T16.2 spec_l2Block.B16 = true := by kernel_rfl
def spec_l2Block.T17 : Bool × List (List Nat × List Nat) := (true, [([], []), ([0], [0]), ([1], [1]), ([], []), ([2, 3], [2, 3]), ([], []), ([5], [5]), ([6], [6]), ([], []), ([8], [8]), ([9], [9]), ([7, 10], [7, 10]), ([], []), ([12], [12]), ([13], [13]), ([14], [14]), ([], []), ([16], [16]), ([17], [17]), ([15, 18], [15, 18]), ([11, 19], [11, 19]), ([4, 20], [4, 20]), ([], []), ([], []), ([22, 23], [22, 23]), ([24], [24]), ([21, 25], [21, 25]), ([], []), ([], []), ([27, 28], [27, 28]), ([29], [29]), ([26, 30], [26, 30]), ([31, 0, 1, 2, 3, 4, 5, 6, 7, 8, 9, 10, 11, 12, 13, 14, 15, 16, 17, 18, 19, 20, 21, 22, 23, 24, 25, 26, 27, 28, 29, 30, 31], [31])])
def spec_l2Block.B17 : List Nat := [0, 1, 3, 0, 15, 0, 32, 96, 0, 256, 768, 2016, 0, 4096, 12288, 28672, 0, 65536, 196608, 520192, 1048544, 2097151, 0, 0, 12582912, 29360128, 67108863, 0, 0, 402653184, 939524096, 2147483647, 4294967295]
theorem spec_l2Block.tab17 : rtab .any (opsOf Tryd.f37 17) = spec_l2Block.T17 := by kernel_rfl
theorem spec_l2Block.bits17 : waitsOk spec_l2Block.T17.2 spec_l2Block.B17 = true := by kernel_rfl
def spec_l2Block.T18 : Bool × List (List Nat × List Nat) := (true, [([], []), ([0], [0]), ([1], [1]), ([2], [2]), ([], []), ([4], [4]), ([5], [5]), ([6, 3], [6]), ([3, 7], [3, 7]), ([], []), ([9], [9]), ([10], [10]), ([11, 7], [11]), ([8, 12], [8, 12]), ([13, 12, 0, 1, 2, 3, 4, 5, 6, 7, 8, 9, 10, 11, 12, 13], [13])])
def spec_l2Block.B18 : List Nat := [0, 1, 3, 7, 0, 16, 48, 127, 255, 0, 512, 1536, 3839, 8191, 16383]
theorem spec_l2Block.tab18 : rtab .any (opsOf Tryd.f37 18) = spec_l2Block.T18 := by kernel_rfl
theorem spec_l2Block.bits18 : waitsOk spec_l2Block.T18.2 spec_l2Block.B18 = true := by kernel_rfl
def spec_l2Block.T19 : Bool × List (List Nat × List Nat) := (true, [([], []), ([], []), ([1], [1]), ([2], [2]), ([], []), ([4], [4]), ([5], [5]), ([3, 6], [3, 6]), ([], []), ([8], [8]), ([9], [9]), ([], []), ([11], [11]), ([12], [12]), ([10, 13], [10, 13]), ([7, 14], [7, 14]), ([], []), ([16], [16]), ([17], [17]), ([], []), ([19], [19]), ([20], [20]), ([18, 21], [18, 21]), ([15, 22], [15, 22]), ([0, 23], [0, 23]), ([24, 0, 1, 2, 3, 4, 5, 6, 7, 8, 9, 10, 11, 12, 13, 14, 15, 16, 17, 18, 19, 20, 21, 22, 23, 24], [24])])
def spec_l2Block.B19 : List Nat := [0, 0, 2, 6, 0, 16, 48, 126, 0, 256, 768, 0, 2048, 6144, 16128, 32766, 0, 65536, 196608, 0, 524288, 1572864, 4128768, 8388606, 16777215, 33554431]
theorem spec_l2Block.tab19 : rtab .any (opsOf Tryd.f37 19) = spec_l2Block.T19 := by kernel_rfl
theorem spec_l2Block.bits19 : waitsOk spec_l2Block.T19.2 spec_l2Block.B19 = true := by kernel_rfl
def spec_l2Block.T20 : Bool × List (List Nat × List Nat) := (true, [([], []), ([], []), ([0, 1], [0, 1]), ([], []), ([3], [3]), ([4], [4]), ([], []), ([6], [6]), ([7], [7]), ([], []), ([9], [9]), ([10], [10]), ([], []), ([12], [12]), ([13], [13]), ([], []), ([14, 15], [14, 15]), ([], []), ([17], [17]), ([18], [18]), ([], []), ([20], [20]), ([21], [21]), ([], []), ([23], [23]), ([24], [24]), ([2, 5, 8, 11, 16, 19, 22, 25], [2, 5, 8, 11, 16, 19, 22, 25]), ([26, 0, 1, 2, 3, 4, 5, 6, 7, 8, 9, 10, 11, 12, 13, 14, 15, 16, 17, 18, 19, 20, 21, 22, 23, 24, 25, 26], [3, 6, 9, 12, 17, 20, 23, 26])])
def spec_l2Block.B20 : List Nat := [0, 0, 3, 0, 8, 24, 0, 64, 192, 0, 512, 1536, 0, 4096, 12288, 0, 61440, 0, 131072, 393216, 0, 1048576, 3145728, 0, 8388608, 25165824, 67108863, 134217727]
theorem spec_l2Block.tab20 : rtab .any (opsOf Tryd.f37 20) = spec_l2Block.T20 := by kernel_rfl
theorem spec_l2Block.bits20 : waitsOk spec_l2Block.T20.2 spec_l2Block.B20 = true := by kernel_rfl
def spec_l2Block.T25 : Bool × List (List Nat × List Nat) := (true, [([], []), ([], []), ([], []), ([1, 2], [1, 2]), ([3], [3]), ([], []), ([], []), ([5, 6], [5, 6]), ([7], [7]), ([4, 8], [4, 8]), ([9], [9]), ([0, 10], [0, 10]), ([11, 11, 0, 1, 2, 3, 4, 5, 6, 7, 8, 9, 10, 11], [0, 11])])
def spec_l2Block.B25 : List Nat := [0, 0, 0, 6, 14, 0, 0, 96, 224, 510, 1022, 2047, 4095]
theorem spec_l2Block.tab25 : rtab .any (opsOf Tryd.f37 25) = spec_l2Block.T25 := by kernel_rfl
theorem spec_l2Block.bits25 : waitsOk spec_l2Block.T25.2 spec_l2Block.B25 = true := by kernel_rfl
set_option maxHeartbeats 8000000 in
set_option maxRecDepth 100000 in
theorem spec_l2Block.calls (k : Nat) (A0 : Option Addr) (c0 : Nat) (l0 : List Int) (A1 : Option Addr) (c1 : Nat) (l1 : List Int) (a2 : ByteArray) (r : List Int) (w : World) (hr0 : Kd.C (Kd.int .u32) w A0 l0.length l0) (hc0 : l0.length ≤ c0) (hr1 : Kd.C (Kd.int .u32) w A1 l1.length l1) (hc1 : l1.length ≤ c1) (h : spec_l2Block.f k l0 l1 a2 = some r) :
  Calls Tryd.prog 37 #[.slice A0 l0.length c0, .slice A1 l1.length c1, .string a2] w fun e w' => ∃ v0_ : Value, e = .returned (v0_) ∧ Kd.R (Kd.int .u32) 59 w' w.heap.size (fun _ => True) v0_ r ∧ Below w.heap.size w w' := by
 have HR0 := Aside0.mk hr0
 have HC0 := Aside0.mk hc0
 clear hr0 hc0; have HR1 := Aside0.mk hr1
 have HC1 := Aside0.mk hc1
 clear hr1 hc1; have HB := Aside0.mk (Below.refl w.heap.size w)
 have H : (spec_l2Block.l0 k l0 l1 a2 (([] : List Int)) 0) = some r := h
 clear h; obtain ⟨y111, hy111⟩ : ∃ y_ : List Int, y_ = (([] : List Int)) := ⟨_, rfl⟩
 replace H : (spec_l2Block.l0 k l0 l1 a2 y111 0) = some r := by first | (rw [hy111]; with_reducible exact H) | (have H2_ := (Option.bind_some _ _).symm.trans H; rw [hy111]; with_reducible exact H2_) | (have H2_ := (Option.bind_some _ _).symm.trans H; with_reducible exact H2_) | with_reducible exact H | (rw [hy111]; exact H) | exact H
 have Ny111 := Aside0.mk hy111
 clear hy111; have H' := Aside0.mk H
 clear H
 go_enter Tryd.func37, Tryd.ntmps37
 go_wp2_with (first | ((with_reducible refine gate_dst (N := 20) rfl ?_); refine Kd.R_lit (Kd.int .u32) _ 59 ?hg (N := 20) ?hd (xs := ([] : List Int)) (inner := []) (ok := fun _ => True) (okp := fun _ => True) ?hr ?hp (fun _ hk => hk) trivial (Below.refl _ _) (Nat.le_refl _) (by simp) ?_; (case hd => rfl); (case hg => rfl); (case hr => first | (go_simp; done) | (go_simp; rfl) | (go_simp; simp [IntKind.wrap_u32']; done)); (case hp => exact (Reps.none _ _)); intro v112 w4 ho5 hb hg_ hnew_; clear hg_ hnew_; (first | rw [← Ny111.out] at ho5 | (simp only [Int.reduceToNat] at ho5; rw [← Ny111.out] at ho5)); have HO113 := Aside0.mk (Kd.R_lower ho5 (below_size (be HB))); replace HB := bh HB hb; clear hb ho5))
 go_loopg [7, 8] k (fun kq v7 v8 w' => ∃ (x7_1 : List Int) (x8_1 : Int), v8 = .int .i64 x8_1 ∧ Aside0 (spec_l2Block.l0 kq l0 l1 a2 x7_1 x8_1 = some r) ∧ Aside0 (kq ≤ k) ∧ Aside0 (Kd.R (Kd.int .u32) 59 w' w.heap.size (fun _ => True) v7 x7_1) ∧ Aside0 (Below w.heap.size w w'))
 case atStart => exact ⟨(y111), (0), (by first | rfl | (simp; done) | (simp [*]; done)), H', ⟨Nat.le_refl _⟩, ⟨rr HO113⟩, ⟨by repeat (first | (with_reducible first | exact HB.out | apply below_alloc | apply pw_below_drewN | apply below_drew1) | exact HB.out)⟩⟩
 case round =>
  clear H'
  obtain ⟨x7_1, x8_1, rfl, HA, HK1, HO_7, HB⟩ := hrel
  cases gk with
  | zero => exact absurd HA.out (by simp [spec_l2Block.l0])
  | succ k1 =>
   have H := HA.out; clear HA; simp only [spec_l2Block.l0] at H
   by_cases c6 : x8_1 < 16
   ·rw [if_pos c6] at H
    have c6b0 : decide (x8_1 < 16) = true := decide_eq_true c6
    clear c6; obtain ⟨ji7, hji7⟩ : ∃ j_ : Int, (wrap64 (4 * x8_1)) = j_ := ⟨_, rfl⟩
    replace H : (if 0 ≤ (ji7) then (if (ji7) < (a2.size : Int) then (if 0 ≤ (wrap64 ((ji7) + 1)) then (if (wrap64 ((ji7) + 1)) < (a2.size : Int) then (if 0 ≤ (wrap64 ((ji7) + 2)) then (if (wrap64 ((ji7) + 2)) < (a2.size : Int) then (if 0 ≤ (wrap64 ((ji7) + 3)) then (if (wrap64 ((ji7) + 3)) < (a2.size : Int) then (if x7_1.length < 35184372088832 then (spec_l2Block.l0 k1 l0 l1 a2 (x7_1 ++ [Go.bits .or .u32 (Go.bits .or .u32 (Go.bits .or .u32 ((((bt a2 (ji7)) % 4294967296) * 16777216) % 4294967296) ((((bt a2 (wrap64 ((ji7) + 1))) % 4294967296) * 65536) % 4294967296)) ((((bt a2 (wrap64 ((ji7) + 2))) % 4294967296) * 256) % 4294967296)) ((bt a2 (wrap64 ((ji7) + 3))) % 4294967296)]) (wrap64 (x8_1 + 1))) else (none)) else (none)) else (none)) else (none)) else (none)) else (none)) else (none)) else (none)) else (none)) = some r := by first | (rw [hji7] at H; exact H) | (simp only [hji7] at H ⊢; exact H)
    have hji7w : (IntKind.i64.wrap (4 * x8_1)) = ji7 := (i64_w _).trans hji7
    by_cases c8 : 0 ≤ (ji7)
    ·rw [if_pos c8] at H
     have c8b0 : decide (0 ≤ (ji7)) = true := decide_eq_true c8
     clear c8
     by_cases c9 : (ji7) < (a2.size : Int)
     ·rw [if_pos c9] at H
      have c9b0 : decide ((ji7) < (a2.size : Int)) = true := decide_eq_true c9
      clear c9; obtain ⟨ji11, hji11⟩ : ∃ j_ : Int, (wrap64 ((ji7) + 1)) = j_ := ⟨_, rfl⟩
      replace H : (if 0 ≤ (ji11) then (if (ji11) < (a2.size : Int) then (if 0 ≤ (wrap64 ((ji7) + 2)) then (if (wrap64 ((ji7) + 2)) < (a2.size : Int) then (if 0 ≤ (wrap64 ((ji7) + 3)) then (if (wrap64 ((ji7) + 3)) < (a2.size : Int) then (if x7_1.length < 35184372088832 then (spec_l2Block.l0 k1 l0 l1 a2 (x7_1 ++ [Go.bits .or .u32 (Go.bits .or .u32 (Go.bits .or .u32 ((((bt a2 (ji7)) % 4294967296) * 16777216) % 4294967296) ((((bt a2 (ji11)) % 4294967296) * 65536) % 4294967296)) ((((bt a2 (wrap64 ((ji7) + 2))) % 4294967296) * 256) % 4294967296)) ((bt a2 (wrap64 ((ji7) + 3))) % 4294967296)]) (wrap64 (x8_1 + 1))) else (none)) else (none)) else (none)) else (none)) else (none)) else (none)) else (none)) = some r := by first | (rw [hji11] at H; exact H) | (simp only [hji11] at H ⊢; exact H)
      have hji11w : (IntKind.i64.wrap ((ji7) + 1)) = ji11 := (i64_w _).trans hji11
      by_cases c12 : 0 ≤ (ji11)
      ·rw [if_pos c12] at H
       have c12b0 : decide (0 ≤ (ji11)) = true := decide_eq_true c12
       clear c12
       by_cases c13 : (ji11) < (a2.size : Int)
       ·rw [if_pos c13] at H
        have c13b0 : decide ((ji11) < (a2.size : Int)) = true := decide_eq_true c13
        clear c13; obtain ⟨ji15, hji15⟩ : ∃ j_ : Int, (wrap64 ((ji7) + 2)) = j_ := ⟨_, rfl⟩
        replace H : (if 0 ≤ (ji15) then (if (ji15) < (a2.size : Int) then (if 0 ≤ (wrap64 ((ji7) + 3)) then (if (wrap64 ((ji7) + 3)) < (a2.size : Int) then (if x7_1.length < 35184372088832 then (spec_l2Block.l0 k1 l0 l1 a2 (x7_1 ++ [Go.bits .or .u32 (Go.bits .or .u32 (Go.bits .or .u32 ((((bt a2 (ji7)) % 4294967296) * 16777216) % 4294967296) ((((bt a2 (ji11)) % 4294967296) * 65536) % 4294967296)) ((((bt a2 (ji15)) % 4294967296) * 256) % 4294967296)) ((bt a2 (wrap64 ((ji7) + 3))) % 4294967296)]) (wrap64 (x8_1 + 1))) else (none)) else (none)) else (none)) else (none)) else (none)) = some r := by first | (rw [hji15] at H; exact H) | (simp only [hji15] at H ⊢; exact H)
        have hji15w : (IntKind.i64.wrap ((ji7) + 2)) = ji15 := (i64_w _).trans hji15
        by_cases c16 : 0 ≤ (ji15)
        ·rw [if_pos c16] at H
         have c16b0 : decide (0 ≤ (ji15)) = true := decide_eq_true c16
         clear c16
         by_cases c17 : (ji15) < (a2.size : Int)
         ·rw [if_pos c17] at H
          have c17b0 : decide ((ji15) < (a2.size : Int)) = true := decide_eq_true c17
          clear c17; obtain ⟨ji19, hji19⟩ : ∃ j_ : Int, (wrap64 ((ji7) + 3)) = j_ := ⟨_, rfl⟩
          replace H : (if 0 ≤ (ji19) then (if (ji19) < (a2.size : Int) then (if x7_1.length < 35184372088832 then (spec_l2Block.l0 k1 l0 l1 a2 (x7_1 ++ [Go.bits .or .u32 (Go.bits .or .u32 (Go.bits .or .u32 ((((bt a2 (ji7)) % 4294967296) * 16777216) % 4294967296) ((((bt a2 (ji11)) % 4294967296) * 65536) % 4294967296)) ((((bt a2 (ji15)) % 4294967296) * 256) % 4294967296)) ((bt a2 (ji19)) % 4294967296)]) (wrap64 (x8_1 + 1))) else (none)) else (none)) else (none)) = some r := by first | (rw [hji19] at H; exact H) | (simp only [hji19] at H ⊢; exact H)
          have hji19w : (IntKind.i64.wrap ((ji7) + 3)) = ji19 := (i64_w _).trans hji19
          by_cases c20 : 0 ≤ (ji19)
          ·rw [if_pos c20] at H
           have c20b0 : decide (0 ≤ (ji19)) = true := decide_eq_true c20
           clear c20
           by_cases c21 : (ji19) < (a2.size : Int)
           ·rw [if_pos c21] at H
            have c21b0 : decide ((ji19) < (a2.size : Int)) = true := decide_eq_true c21
            clear c21
            by_cases c23 : x7_1.length < 35184372088832
            ·rw [if_pos c23] at H
             have LMc23 := Aside0.mk c23
             clear c23; obtain ⟨y114, hy114⟩ : ∃ y_ : List Int, y_ = (x7_1 ++ [Go.bits .or .u32 (Go.bits .or .u32 (Go.bits .or .u32 ((((bt a2 (ji7)) % 4294967296) * 16777216) % 4294967296) ((((bt a2 (ji11)) % 4294967296) * 65536) % 4294967296)) ((((bt a2 (ji15)) % 4294967296) * 256) % 4294967296)) ((bt a2 (ji19)) % 4294967296)]) := ⟨_, rfl⟩
             replace H : (spec_l2Block.l0 k1 l0 l1 a2 y114 (wrap64 (x8_1 + 1))) = some r := by first | (rw [hy114]; with_reducible exact H) | (have H2_ := (Option.bind_some _ _).symm.trans H; rw [hy114]; with_reducible exact H2_) | (have H2_ := (Option.bind_some _ _).symm.trans H; with_reducible exact H2_) | with_reducible exact H | (rw [hy114]; exact H) | exact H
             have Ny114 := Aside0.mk hy114
             clear hy114; have H' := Aside0.mk H
             clear H
             try go_wp2
             have n0_ := Aside0.mk (Kd.R_drew HO_7.out)
             have n1_ := Aside0.mk (below_drew1 HB.out)
             clear HO_7 HB; have HO_7 := n0_; have HB := n1_; clear n0_ n1_; have p10 : 0 ≤ ((ji7) : Int) := of_decide_eq_true (by first | (with_reducible assumption) | assumption)
             have q10 : (ji7) < (a2.size : Int) := of_decide_eq_true (by first | (with_reducible assumption) | assumption)
             have hx10 := bt_at a2 (ji7)
             replace p10 := eq_true p10
             replace q10 := eq_true q10
             have p14 : 0 ≤ ((ji11) : Int) := of_decide_eq_true (by first | (with_reducible assumption) | assumption)
             have q14 : (ji11) < (a2.size : Int) := of_decide_eq_true (by first | (with_reducible assumption) | assumption)
             have hx14 := bt_at a2 (ji11)
             replace p14 := eq_true p14
             replace q14 := eq_true q14
             have p18 : 0 ≤ ((ji15) : Int) := of_decide_eq_true (by first | (with_reducible assumption) | assumption)
             have q18 : (ji15) < (a2.size : Int) := of_decide_eq_true (by first | (with_reducible assumption) | assumption)
             have hx18 := bt_at a2 (ji15)
             replace p18 := eq_true p18
             replace q18 := eq_true q18
             have p22 : 0 ≤ ((ji19) : Int) := of_decide_eq_true (by first | (with_reducible assumption) | assumption)
             have q22 : (ji19) < (a2.size : Int) := of_decide_eq_true (by first | (with_reducible assumption) | assumption)
             have hx22 := bt_at a2 (ji19)
             replace p22 := eq_true p22
             replace q22 := eq_true q22
             refine start_ (n := 33) (S := fun w' => True) (ds := []) #[ff,ff,ff,ff,ff,ff,ff,ff,ff,ff,ff,ff,ff,ff,ff,ff,ff,ff,ff,ff,ff,ff,ff,ff,ff,ff,ff,ff,ff,ff,ff,ff,ff] (by kernel_rfl) rfl rfl trivial (fun hHeld => ?_); refine with_tabW spec_l2Block.tab5 spec_l2Block.bits5 (fun HT_ HW_ => ?_)
             generalize wr.drew = w24 at HO_7 HB hHeld ⊢
             refine pu 0 25 (tb 33 1) HT_ ?_
             refine pu 1 26 (tb 33 3) HT_ ?_
             refine pu 2 27 (tb 33 7) HT_ ?_
             refine pu 3 28 (tb 33 15) HT_ ?_
             refine pu 7 32 (tb 33 143) HT_ ?_
             refine pu 8 33 (tb 33 399) HT_ ?_
             refine pu 9 34 (tb 33 911) HT_ ?_
             refine pu 10 35 (tb 33 1935) HT_ ?_
             refine pu 15 40 (tb 33 34703) HT_ ?_
             refine pu 16 41 (tb 33 100239) HT_ ?_
             refine pu 17 42 (tb 33 231311) HT_ ?_
             refine pu 18 43 (tb 33 493455) HT_ ?_
             refine pu 23 48 (tb 33 8882063) HT_ ?_
             refine pu 24 49 (tb 33 25659279) HT_ ?_
             refine pu 25 50 (tb 33 59213711) HT_ ?_
             refine pu 26 51 (tb 33 126322575) HT_ ?_
             refine tk 4 29 (tb 33 126322591) rfl rfl HT_ HW_ hHeld (by intro w' _; go_simp; with_reducible rfl) ?_
             refine pu 5 30 (tb 33 126322623) HT_ ?_
             refine pu 6 31 (tb 33 126322687) HT_ ?_
             refine tk 11 36 (tb 33 126324735) rfl rfl HT_ HW_ hHeld (by intro w' _; go_simp; with_reducible rfl) ?_
             refine pu 12 37 (tb 33 126328831) HT_ ?_
             refine pu 13 38 (tb 33 126337023) HT_ ?_
             refine pu 14 39 (tb 33 126353407) HT_ ?_
             refine tk 19 44 (tb 33 126877695) rfl rfl HT_ HW_ hHeld (by intro w' _; go_simp; with_reducible rfl) ?_
             refine pu 20 45 (tb 33 127926271) HT_ ?_
             refine pu 21 46 (tb 33 130023423) HT_ ?_
             refine pu 22 47 (tb 33 134217727) HT_ ?_
             refine tk 27 52 (tb 33 268435455) rfl rfl HT_ HW_ hHeld (by intro w' _; go_simp; with_reducible rfl) ?_
             refine pu 28 53 (tb 33 536870911) HT_ ?_
             refine pu 29 54 (tb 33 1073741823) HT_ ?_
             refine one_ (i := 30) (N := some 55) #[tt,tt,tt,tt,tt,tt,tt,tt,tt,tt,tt,tt,tt,tt,tt,tt,tt,tt,tt,tt,tt,tt,tt,tt,tt,tt,tt,tt,tt,tt,tt,ff,ff] rfl rfl (one_of HT_.out (by kernel_rfl)) (by decide) (fun K hK => ?_)
             refine value_ (w1 := ?_) (v := ?_) (by rfl) rfl ?_ ?_
             rotate_left 2
             ·go_simp
              constructor
              ·rfl
              ·rfl
             refine hK.out _ _ trivial (fun hHeld => ?_)
             clear hK K; refine norm_ (a' := ?_) ?_ ?_
             rotate_left
             ·show Act.put _ (some 55) _ = _
              simp only [putL, i64_w, i32_w]; rfl
             refine one_ (i := 31) (N := some 56) #[tt,tt,tt,tt,tt,tt,tt,tt,tt,tt,tt,tt,tt,tt,tt,tt,tt,tt,tt,tt,tt,tt,tt,tt,tt,tt,tt,tt,tt,tt,tt,tt,ff] rfl rfl (one_of HT_.out (by kernel_rfl)) (by decide) (fun K hK => ?_)
             refine Kd.R_append_step (Kd.int .u32) (w0 := w) w.heap.size (by rfl) (.tmp 25) (.tmp 55) 55 59 (.int .u32 0) 4 rfl Tryd.underlying55 info59 rfl (by decide) (by omega) u7 x7_1 (Go.bits .or .u32 (Go.bits .or .u32 (Go.bits .or .u32 ((((bt a2 (ji7)) % 4294967296) * 16777216) % 4294967296) ((((bt a2 (ji11)) % 4294967296) * 65536) % 4294967296)) ((((bt a2 (ji15)) % 4294967296) * 256) % 4294967296)) ((bt a2 (ji19)) % 4294967296)) [.int .u32 (Go.bits .or .u32 (Go.bits .or .u32 (Go.bits .or .u32 ((((bt a2 (ji7)) % 4294967296) * 16777216) % 4294967296) ((((bt a2 (ji11)) % 4294967296) * 65536) % 4294967296)) ((((bt a2 (ji15)) % 4294967296) * 256) % 4294967296)) ((bt a2 (ji19)) % 4294967296))] (fun _ => True) (fun _ => False) rfl rfl ?aP (fun _ hk => hk.elim) ?aF ?aO ?aB ?aS ?aL ?_
             (case aP => exact rfl)
             (case aB => exact (be HB))
             (case aF => exact (fun _ _ => trivial))
             (case aO => exact (rr HO_7))
             (case aS => exact (below_size (be HB)))
             (case aL => have := LMc23.out; omega)
             intro v115 w25 ho hb hg hat
             rw [← Ny114.out] at ho
             have n0_ := Aside0.mk (hb)
             have HO116 := Aside0.mk (ho)
             clear HO_7 HB; have HB := n0_; clear n0_; clear ho hb hg hat; refine hK.out _ _ trivial (fun hHeld => ?_)
             clear hK K; refine norm_ (a' := ?_) ?_ ?_
             rotate_left
             ·show Act.put _ (some 56) _ = _
              simp only [putL, i64_w, i32_w]; rfl
             refine pu 32 7 (tb 33 8589934591) HT_ ?_
             refine done_ (done_of HT_.out (by kernel_rfl)) ?_
             try go_wp2
             go_roundg k1
             case measure => have := HK1.out; omega
             case rel => exact ⟨(y114), (wrap64 (x8_1 + 1)), (by first | rfl | (simp; done) | (simp [*]; done)), H', ⟨by have := HK1.out; omega⟩, ⟨rr HO116⟩, ⟨by repeat (first | (with_reducible first | exact HB.out | apply below_alloc | apply pw_below_drewN | apply below_drew1) | exact HB.out)⟩⟩
            ·rw [if_neg c23] at H
             exact absurd H (by simp)
           ·rw [if_neg c21] at H
            exact absurd H (by simp)
          ·rw [if_neg c20] at H
           exact absurd H (by simp)
         ·rw [if_neg c17] at H
          exact absurd H (by simp)
        ·rw [if_neg c16] at H
         exact absurd H (by simp)
       ·rw [if_neg c13] at H
        exact absurd H (by simp)
      ·rw [if_neg c12] at H
       exact absurd H (by simp)
     ·rw [if_neg c9] at H
      exact absurd H (by simp)
    ·rw [if_neg c8] at H
     exact absurd H (by simp)
   ·rw [if_neg c6] at H
    have c6b0 : decide (x8_1 < 16) = false := decide_eq_false c6
    clear c6; have H' := Aside0.mk H
    clear H
    go_wp2
    go_loopg [7, 9] k1 (fun kq v7 v9 w' => ∃ (x7_2 : List Int) (x9_2 : Int), v9 = .int .i64 x9_2 ∧ Aside0 (spec_l2Block.l1 kq l0 l1 x7_2 x9_2 = some r) ∧ Aside0 (kq ≤ k1) ∧ Aside0 (Kd.R (Kd.int .u32) 59 w' w.heap.size (fun _ => True) v7 x7_2) ∧ Aside0 (Below w.heap.size w w'))
    case atStart => exact ⟨(x7_1), (16), (by first | rfl | (simp; done) | (simp [*]; done)), H', ⟨Nat.le_refl _⟩, ⟨rr HO_7⟩, ⟨by repeat (first | (with_reducible first | exact HB.out | apply below_alloc | apply pw_below_drewN | apply below_drew1) | exact HB.out)⟩⟩
    case round =>
     clear H'
     obtain ⟨x7_2, x9_2, rfl, HA, HK2, HO_7, HB⟩ := hrel
     cases gk with
     | zero => exact absurd HA.out (by simp [spec_l2Block.l1])
     | succ k2 =>
      have H := HA.out; clear HA; simp only [spec_l2Block.l1] at H
      by_cases c26 : x9_2 < 64
      ·rw [if_pos c26] at H
       have c26b0 : decide (x9_2 < 64) = true := decide_eq_true c26
       clear c26; obtain ⟨ji27, hji27⟩ : ∃ j_ : Int, (wrap64 (x9_2 - 15)) = j_ := ⟨_, rfl⟩
       replace H : (if 0 ≤ (ji27) then (if (ji27) < (x7_2.length : Int) then ((spec_l2Turn.f (rd x7_2 (ji27)) 7).bind fun t118 => ((spec_l2Turn.f (rd x7_2 (ji27)) 18).bind fun t120 => (if 0 ≤ (wrap64 (x9_2 - 2)) then (if (wrap64 (x9_2 - 2)) < (x7_2.length : Int) then ((spec_l2Turn.f (rd x7_2 (wrap64 (x9_2 - 2))) 17).bind fun t123 => ((spec_l2Turn.f (rd x7_2 (wrap64 (x9_2 - 2))) 19).bind fun t125 => (if 0 ≤ (wrap64 (x9_2 - 16)) then (if (wrap64 (x9_2 - 16)) < (x7_2.length : Int) then (if 0 ≤ (wrap64 (x9_2 - 7)) then (if (wrap64 (x9_2 - 7)) < (x7_2.length : Int) then (if x7_2.length < 35184372088832 then (spec_l2Block.l1 k2 l0 l1 (x7_2 ++ [((((((rd x7_2 (wrap64 (x9_2 - 16))) + (Go.bits .xor .u32 (Go.bits .xor .u32 t118 t120) ((rd x7_2 (ji27)) / 8))) % 4294967296) + (rd x7_2 (wrap64 (x9_2 - 7)))) % 4294967296) + (Go.bits .xor .u32 (Go.bits .xor .u32 t123 t125) ((rd x7_2 (wrap64 (x9_2 - 2))) / 1024))) % 4294967296]) (wrap64 (x9_2 + 1))) else (none)) else (none)) else (none)) else (none)) else (none)))) else (none)) else (none)))) else (none)) else (none)) = some r := by first | (rw [hji27] at H; exact H) | (simp only [hji27] at H ⊢; exact H)
       have hji27w : (IntKind.i64.wrap (x9_2 - 15)) = ji27 := (i64_w _).trans hji27
       by_cases c28 : 0 ≤ (ji27)
       ·rw [if_pos c28] at H
        have c28b0 : decide (0 ≤ (ji27)) = true := decide_eq_true c28
        clear c28
        by_cases c29 : (ji27) < (x7_2.length : Int)
        ·rw [if_pos c29] at H
         have c29b0 : decide ((ji27) < (x7_2.length : Int)) = true := decide_eq_true c29
         clear c29; replace H := Option.bind_eq_some_iff.mp H
         obtain ⟨t118, A300, H⟩ := H
         replace H : ((spec_l2Turn.f (rd x7_2 (ji27)) 18).bind fun t120 => (if 0 ≤ (wrap64 (x9_2 - 2)) then (if (wrap64 (x9_2 - 2)) < (x7_2.length : Int) then ((spec_l2Turn.f (rd x7_2 (wrap64 (x9_2 - 2))) 17).bind fun t123 => ((spec_l2Turn.f (rd x7_2 (wrap64 (x9_2 - 2))) 19).bind fun t125 => (if 0 ≤ (wrap64 (x9_2 - 16)) then (if (wrap64 (x9_2 - 16)) < (x7_2.length : Int) then (if 0 ≤ (wrap64 (x9_2 - 7)) then (if (wrap64 (x9_2 - 7)) < (x7_2.length : Int) then (if x7_2.length < 35184372088832 then (spec_l2Block.l1 k2 l0 l1 (x7_2 ++ [((((((rd x7_2 (wrap64 (x9_2 - 16))) + (Go.bits .xor .u32 (Go.bits .xor .u32 t118 t120) ((rd x7_2 (ji27)) / 8))) % 4294967296) + (rd x7_2 (wrap64 (x9_2 - 7)))) % 4294967296) + (Go.bits .xor .u32 (Go.bits .xor .u32 t123 t125) ((rd x7_2 (wrap64 (x9_2 - 2))) / 1024))) % 4294967296]) (wrap64 (x9_2 + 1))) else (none)) else (none)) else (none)) else (none)) else (none)))) else (none)) else (none))) = some r := H
         have A30 := Aside0.mk A300
         clear A300; replace H := Option.bind_eq_some_iff.mp H
         obtain ⟨t120, A310, H⟩ := H
         replace H : (if 0 ≤ (wrap64 (x9_2 - 2)) then (if (wrap64 (x9_2 - 2)) < (x7_2.length : Int) then ((spec_l2Turn.f (rd x7_2 (wrap64 (x9_2 - 2))) 17).bind fun t123 => ((spec_l2Turn.f (rd x7_2 (wrap64 (x9_2 - 2))) 19).bind fun t125 => (if 0 ≤ (wrap64 (x9_2 - 16)) then (if (wrap64 (x9_2 - 16)) < (x7_2.length : Int) then (if 0 ≤ (wrap64 (x9_2 - 7)) then (if (wrap64 (x9_2 - 7)) < (x7_2.length : Int) then (if x7_2.length < 35184372088832 then (spec_l2Block.l1 k2 l0 l1 (x7_2 ++ [((((((rd x7_2 (wrap64 (x9_2 - 16))) + (Go.bits .xor .u32 (Go.bits .xor .u32 t118 t120) ((rd x7_2 (ji27)) / 8))) % 4294967296) + (rd x7_2 (wrap64 (x9_2 - 7)))) % 4294967296) + (Go.bits .xor .u32 (Go.bits .xor .u32 t123 t125) ((rd x7_2 (wrap64 (x9_2 - 2))) / 1024))) % 4294967296]) (wrap64 (x9_2 + 1))) else (none)) else (none)) else (none)) else (none)) else (none)))) else (none)) else (none)) = some r := H
         have A31 := Aside0.mk A310
         clear A310; obtain ⟨ji32, hji32⟩ : ∃ j_ : Int, (wrap64 (x9_2 - 2)) = j_ := ⟨_, rfl⟩
         replace H : (if 0 ≤ (ji32) then (if (ji32) < (x7_2.length : Int) then ((spec_l2Turn.f (rd x7_2 (ji32)) 17).bind fun t123 => ((spec_l2Turn.f (rd x7_2 (ji32)) 19).bind fun t125 => (if 0 ≤ (wrap64 (x9_2 - 16)) then (if (wrap64 (x9_2 - 16)) < (x7_2.length : Int) then (if 0 ≤ (wrap64 (x9_2 - 7)) then (if (wrap64 (x9_2 - 7)) < (x7_2.length : Int) then (if x7_2.length < 35184372088832 then (spec_l2Block.l1 k2 l0 l1 (x7_2 ++ [((((((rd x7_2 (wrap64 (x9_2 - 16))) + (Go.bits .xor .u32 (Go.bits .xor .u32 t118 t120) ((rd x7_2 (ji27)) / 8))) % 4294967296) + (rd x7_2 (wrap64 (x9_2 - 7)))) % 4294967296) + (Go.bits .xor .u32 (Go.bits .xor .u32 t123 t125) ((rd x7_2 (ji32)) / 1024))) % 4294967296]) (wrap64 (x9_2 + 1))) else (none)) else (none)) else (none)) else (none)) else (none)))) else (none)) else (none)) = some r := by first | (rw [hji32] at H; exact H) | (simp only [hji32] at H ⊢; exact H)
         (try rw [hji32] at A30)
         (try rw [hji32] at A31)
         have hji32w : (IntKind.i64.wrap (x9_2 - 2)) = ji32 := (i64_w _).trans hji32
         by_cases c33 : 0 ≤ (ji32)
         ·rw [if_pos c33] at H
          have c33b0 : decide (0 ≤ (ji32)) = true := decide_eq_true c33
          clear c33
          by_cases c34 : (ji32) < (x7_2.length : Int)
          ·rw [if_pos c34] at H
           have c34b0 : decide ((ji32) < (x7_2.length : Int)) = true := decide_eq_true c34
           clear c34; replace H := Option.bind_eq_some_iff.mp H
           obtain ⟨t123, A350, H⟩ := H
           replace H : ((spec_l2Turn.f (rd x7_2 (ji32)) 19).bind fun t125 => (if 0 ≤ (wrap64 (x9_2 - 16)) then (if (wrap64 (x9_2 - 16)) < (x7_2.length : Int) then (if 0 ≤ (wrap64 (x9_2 - 7)) then (if (wrap64 (x9_2 - 7)) < (x7_2.length : Int) then (if x7_2.length < 35184372088832 then (spec_l2Block.l1 k2 l0 l1 (x7_2 ++ [((((((rd x7_2 (wrap64 (x9_2 - 16))) + (Go.bits .xor .u32 (Go.bits .xor .u32 t118 t120) ((rd x7_2 (ji27)) / 8))) % 4294967296) + (rd x7_2 (wrap64 (x9_2 - 7)))) % 4294967296) + (Go.bits .xor .u32 (Go.bits .xor .u32 t123 t125) ((rd x7_2 (ji32)) / 1024))) % 4294967296]) (wrap64 (x9_2 + 1))) else (none)) else (none)) else (none)) else (none)) else (none))) = some r := H
           have A35 := Aside0.mk A350
           clear A350; replace H := Option.bind_eq_some_iff.mp H
           obtain ⟨t125, A360, H⟩ := H
           replace H : (if 0 ≤ (wrap64 (x9_2 - 16)) then (if (wrap64 (x9_2 - 16)) < (x7_2.length : Int) then (if 0 ≤ (wrap64 (x9_2 - 7)) then (if (wrap64 (x9_2 - 7)) < (x7_2.length : Int) then (if x7_2.length < 35184372088832 then (spec_l2Block.l1 k2 l0 l1 (x7_2 ++ [((((((rd x7_2 (wrap64 (x9_2 - 16))) + (Go.bits .xor .u32 (Go.bits .xor .u32 t118 t120) ((rd x7_2 (ji27)) / 8))) % 4294967296) + (rd x7_2 (wrap64 (x9_2 - 7)))) % 4294967296) + (Go.bits .xor .u32 (Go.bits .xor .u32 t123 t125) ((rd x7_2 (ji32)) / 1024))) % 4294967296]) (wrap64 (x9_2 + 1))) else (none)) else (none)) else (none)) else (none)) else (none)) = some r := H
           have A36 := Aside0.mk A360
           clear A360; obtain ⟨ji37, hji37⟩ : ∃ j_ : Int, (wrap64 (x9_2 - 16)) = j_ := ⟨_, rfl⟩
           replace H : (if 0 ≤ (ji37) then (if (ji37) < (x7_2.length : Int) then (if 0 ≤ (wrap64 (x9_2 - 7)) then (if (wrap64 (x9_2 - 7)) < (x7_2.length : Int) then (if x7_2.length < 35184372088832 then (spec_l2Block.l1 k2 l0 l1 (x7_2 ++ [((((((rd x7_2 (ji37)) + (Go.bits .xor .u32 (Go.bits .xor .u32 t118 t120) ((rd x7_2 (ji27)) / 8))) % 4294967296) + (rd x7_2 (wrap64 (x9_2 - 7)))) % 4294967296) + (Go.bits .xor .u32 (Go.bits .xor .u32 t123 t125) ((rd x7_2 (ji32)) / 1024))) % 4294967296]) (wrap64 (x9_2 + 1))) else (none)) else (none)) else (none)) else (none)) else (none)) = some r := by first | (rw [hji37] at H; exact H) | (simp only [hji37] at H ⊢; exact H)
           (try rw [hji37] at A30)
           (try rw [hji37] at A31)
           (try rw [hji37] at A35)
           (try rw [hji37] at A36)
           have hji37w : (IntKind.i64.wrap (x9_2 - 16)) = ji37 := (i64_w _).trans hji37
           by_cases c38 : 0 ≤ (ji37)
           ·rw [if_pos c38] at H
            have c38b0 : decide (0 ≤ (ji37)) = true := decide_eq_true c38
            clear c38
            by_cases c39 : (ji37) < (x7_2.length : Int)
            ·rw [if_pos c39] at H
             have c39b0 : decide ((ji37) < (x7_2.length : Int)) = true := decide_eq_true c39
             clear c39; obtain ⟨ji40, hji40⟩ : ∃ j_ : Int, (wrap64 (x9_2 - 7)) = j_ := ⟨_, rfl⟩
             replace H : (if 0 ≤ (ji40) then (if (ji40) < (x7_2.length : Int) then (if x7_2.length < 35184372088832 then (spec_l2Block.l1 k2 l0 l1 (x7_2 ++ [((((((rd x7_2 (ji37)) + (Go.bits .xor .u32 (Go.bits .xor .u32 t118 t120) ((rd x7_2 (ji27)) / 8))) % 4294967296) + (rd x7_2 (ji40))) % 4294967296) + (Go.bits .xor .u32 (Go.bits .xor .u32 t123 t125) ((rd x7_2 (ji32)) / 1024))) % 4294967296]) (wrap64 (x9_2 + 1))) else (none)) else (none)) else (none)) = some r := by first | (rw [hji40] at H; exact H) | (simp only [hji40] at H ⊢; exact H)
             (try rw [hji40] at A30)
             (try rw [hji40] at A31)
             (try rw [hji40] at A35)
             (try rw [hji40] at A36)
             have hji40w : (IntKind.i64.wrap (x9_2 - 7)) = ji40 := (i64_w _).trans hji40
             by_cases c41 : 0 ≤ (ji40)
             ·rw [if_pos c41] at H
              have c41b0 : decide (0 ≤ (ji40)) = true := decide_eq_true c41
              clear c41
              by_cases c42 : (ji40) < (x7_2.length : Int)
              ·rw [if_pos c42] at H
               have c42b0 : decide ((ji40) < (x7_2.length : Int)) = true := decide_eq_true c42
               clear c42
               by_cases c43 : x7_2.length < 35184372088832
               ·rw [if_pos c43] at H
                have LMc43 := Aside0.mk c43
                clear c43; obtain ⟨y129, hy129⟩ : ∃ y_ : List Int, y_ = (x7_2 ++ [((((((rd x7_2 (ji37)) + (Go.bits .xor .u32 (Go.bits .xor .u32 t118 t120) ((rd x7_2 (ji27)) / 8))) % 4294967296) + (rd x7_2 (ji40))) % 4294967296) + (Go.bits .xor .u32 (Go.bits .xor .u32 t123 t125) ((rd x7_2 (ji32)) / 1024))) % 4294967296]) := ⟨_, rfl⟩
                replace H : (spec_l2Block.l1 k2 l0 l1 y129 (wrap64 (x9_2 + 1))) = some r := by first | (rw [hy129]; with_reducible exact H) | (have H2_ := (Option.bind_some _ _).symm.trans H; rw [hy129]; with_reducible exact H2_) | (have H2_ := (Option.bind_some _ _).symm.trans H; with_reducible exact H2_) | with_reducible exact H | (rw [hy129]; exact H) | exact H
                have Ny129 := Aside0.mk hy129
                clear hy129; have H' := Aside0.mk H
                clear H
                try go_wp2
                have n0_ := Aside0.mk (Kd.R_drew HO_7.out)
                have n1_ := Aside0.mk (below_drew1 HB.out)
                clear HO_7 HB; have HO_7 := n0_; have HB := n1_; clear n0_ n1_; obtain ⟨Ao45, co45, eo45⟩ := Kd.R_slice HO_7.out
                (first | subst eo45 | (injection eo45 with f1_ f2_ f3_; have f4_ := f1_.symm; have f5_ := f3_.symm; clear f1_ f2_ f3_; subst f4_; subst f5_))
                have p117 : 0 ≤ ((ji27) : Int) := of_decide_eq_true (by first | (with_reducible assumption) | assumption)
                have q117 : (ji27) < (x7_2.length : Int) := of_decide_eq_true (by first | (with_reducible assumption) | assumption)
                obtain ⟨f9a, e117, hx117_0⟩ := Kd.at_int (Kd.R_reads' HO_7.out).2.2 (ji27) p117 q117
                cases e117
                replace p117 := eq_true p117
                replace q117 := eq_true q117
                have p119 : 0 ≤ ((ji27) : Int) := of_decide_eq_true (by first | (with_reducible assumption) | assumption)
                have q119 : (ji27) < (x7_2.length : Int) := of_decide_eq_true (by first | (with_reducible assumption) | assumption)
                obtain ⟨ad119, e119, hx119_0⟩ := Kd.at_int (Kd.R_reads' HO_7.out).2.2 (ji27) p119 q119
                obtain rfl : f9a = ad119 := (by injection e119)
                replace p119 := eq_true p119
                replace q119 := eq_true q119
                have p121 : 0 ≤ ((ji27) : Int) := of_decide_eq_true (by first | (with_reducible assumption) | assumption)
                have q121 : (ji27) < (x7_2.length : Int) := of_decide_eq_true (by first | (with_reducible assumption) | assumption)
                obtain ⟨ad121, e121, hx121_0⟩ := Kd.at_int (Kd.R_reads' HO_7.out).2.2 (ji27) p121 q121
                obtain rfl : f9a = ad121 := (by injection e121)
                replace p121 := eq_true p121
                replace q121 := eq_true q121
                refine start_ (n := 21) (S := fun w' => w'.cell? (f9a.add ((ji27)).toNat) = some (.int .u32 (rd x7_2 (ji27))) ∧ w'.cell? (f9a.add ((ji27)).toNat) = some (.int .u32 (rd x7_2 (ji27))) ∧ w'.cell? (f9a.add ((ji27)).toNat) = some (.int .u32 (rd x7_2 (ji27)))) (ds := []) #[ff,ff,ff,ff,ff,ff,ff,ff,ff,ff,ff,ff,ff,ff,ff,ff,ff,ff,ff,ff,ff] (by kernel_rfl) rfl rfl ⟨hx117_0, hx119_0, hx121_0⟩ (fun hHeld => ?_); refine with_tabW spec_l2Block.tab9 spec_l2Block.bits9 (fun HT_ HW_ => ?_)
                generalize wr.drew = w44 at HO_7 HB hx117_0 hx119_0 hx121_0 hHeld ⊢
                refine pu 0 61 (tb 21 1) HT_ ?_
                refine pu 1 62 (tb 21 3) HT_ ?_
                refine pu 2 63 (tb 21 7) HT_ ?_
                refine pu 3 64 (tb 21 15) HT_ ?_
                refine pu 6 67 (tb 21 79) HT_ ?_
                refine pu 7 68 (tb 21 207) HT_ ?_
                refine pu 8 69 (tb 21 463) HT_ ?_
                refine pu 9 70 (tb 21 975) HT_ ?_
                refine pu 13 74 (tb 21 9167) HT_ ?_
                refine pu 14 75 (tb 21 25551) HT_ ?_
                refine pu 15 76 (tb 21 58319) HT_ ?_
                refine pu 16 77 (tb 21 123855) HT_ ?_
                refine tk 4 65 (tb 21 123871) rfl rfl HT_ HW_ hHeld (by rintro w' ⟨s0, s1, s2⟩; go_simp; with_reducible rfl) ?_
                refine tk 10 71 (tb 21 124895) rfl rfl HT_ HW_ hHeld (by rintro w' ⟨s0, s1, s2⟩; go_simp; with_reducible rfl) ?_
                refine tk 17 78 (tb 21 255967) rfl rfl HT_ HW_ hHeld (by rintro w' ⟨s0, s1, s2⟩; go_simp; with_reducible rfl) ?_
                refine pu 18 79 (tb 21 518111) HT_ ?_
                refine one_ (i := 5) (N := some 66) #[tt,tt,tt,tt,tt,tt,tt,tt,tt,tt,tt,ff,ff,tt,tt,tt,tt,tt,tt,ff,ff] rfl rfl (one_of HT_.out (by kernel_rfl)) (by decide) (fun K hK => ?_)
                refine goes_ Tryd.func66 (by kernel_rfl) rfl #[.int .u32 (rd x7_2 (ji27)), .int .i64 7] (by rfl) rfl rfl (by (try simp only [List.map_toArray, List.map_cons, List.map_nil]); first | done | (simp only [hji27]; rfl) | rfl | (simp only [List.length_drop, List.length_take]; rfl)) ?_
                with_reducible refine (spec_l2Turn.calls (rd x7_2 (ji27)) 7 t118 _ A30.out).mono ?_
                rintro e w' ⟨rfl, ⟨nd, rfl⟩⟩
                refine ⟨_, rfl, ?_⟩
                refine hK.out _ _ ⟨hHeld.1, hHeld.2.1, hHeld.2.2⟩ (fun hHeld => ?_)
                clear hK K; refine norm_ (a' := ?_) ?_ ?_
                rotate_left
                ·show Act.put _ (some 66) _ = _
                 simp only [putL, i64_w, i32_w]; rfl
                refine one_ (i := 11) (N := some 72) #[tt,tt,tt,tt,tt,tt,tt,tt,tt,tt,tt,tt,ff,tt,tt,tt,tt,tt,tt,ff,ff] rfl rfl (one_of HT_.out (by kernel_rfl)) (by decide) (fun K hK => ?_)
                refine goes_ Tryd.func66 (by kernel_rfl) rfl #[.int .u32 (rd x7_2 (ji27)), .int .i64 18] (by rfl) rfl rfl (by (try simp only [List.map_toArray, List.map_cons, List.map_nil]); first | done | (simp only [hji27]; rfl) | rfl | (simp only [List.length_drop, List.length_take]; rfl)) ?_
                with_reducible refine (spec_l2Turn.calls (rd x7_2 (ji27)) 18 t120 _ A31.out).mono ?_
                rintro e w' ⟨rfl, ⟨nd, rfl⟩⟩
                refine ⟨_, rfl, ?_⟩
                refine hK.out _ _ ⟨hHeld.1, hHeld.2.1, hHeld.2.2⟩ (fun hHeld => ?_)
                clear hK K; refine norm_ (a' := ?_) ?_ ?_
                rotate_left
                ·show Act.put _ (some 72) _ = _
                 simp only [putL, i64_w, i32_w]; rfl
                refine pu 12 73 (tb 21 524287) HT_ ?_
                refine pu 19 80 (tb 21 1048575) HT_ ?_
                refine pu 20 10 (tb 21 2097151) HT_ ?_
                refine done_ (done_of HT_.out (by kernel_rfl)) ?_
                try go_wp2
                (try (rw [drewN_self w44]; generalize hq_ : World.drewN w44 _ = w44; have n0_ : Aside0 (Kd.R (Kd.int .u32) 59 w44 w.heap.size (fun _ => True) (.slice (some f9a) x7_2.length co45) x7_2) := ⟨by rw [← hq_]; exact (rr HO_7)⟩; have n1_ : Aside0 (Below w.heap.size w w44) := ⟨by rw [← hq_]; exact (be HB)⟩; clear HO_7 HB hq_; have HO_7 := n0_; have HB := n1_; clear n0_ n1_))
                have n0_ := Aside0.mk (Kd.R_drew HO_7.out)
                have n1_ := Aside0.mk (below_drew1 HB.out)
                clear HO_7 HB; have HO_7 := n0_; have HB := n1_; clear n0_ n1_; have p122 : 0 ≤ ((ji32) : Int) := of_decide_eq_true (by first | (with_reducible assumption) | assumption)
                have q122 : (ji32) < (x7_2.length : Int) := of_decide_eq_true (by first | (with_reducible assumption) | assumption)
                obtain ⟨ad122, e122, hx122_0⟩ := Kd.at_int (Kd.R_reads' HO_7.out).2.2 (ji32) p122 q122
                obtain rfl : f9a = ad122 := (by injection e122)
                replace p122 := eq_true p122
                replace q122 := eq_true q122
                have p124 : 0 ≤ ((ji32) : Int) := of_decide_eq_true (by first | (with_reducible assumption) | assumption)
                have q124 : (ji32) < (x7_2.length : Int) := of_decide_eq_true (by first | (with_reducible assumption) | assumption)
                obtain ⟨ad124, e124, hx124_0⟩ := Kd.at_int (Kd.R_reads' HO_7.out).2.2 (ji32) p124 q124
                obtain rfl : f9a = ad124 := (by injection e124)
                replace p124 := eq_true p124
                replace q124 := eq_true q124
                have p126 : 0 ≤ ((ji32) : Int) := of_decide_eq_true (by first | (with_reducible assumption) | assumption)
                have q126 : (ji32) < (x7_2.length : Int) := of_decide_eq_true (by first | (with_reducible assumption) | assumption)
                obtain ⟨ad126, e126, hx126_0⟩ := Kd.at_int (Kd.R_reads' HO_7.out).2.2 (ji32) p126 q126
                obtain rfl : f9a = ad126 := (by injection e126)
                replace p126 := eq_true p126
                replace q126 := eq_true q126
                refine start_ (n := 21) (S := fun w' => w'.cell? (f9a.add ((ji32)).toNat) = some (.int .u32 (rd x7_2 (ji32))) ∧ w'.cell? (f9a.add ((ji32)).toNat) = some (.int .u32 (rd x7_2 (ji32))) ∧ w'.cell? (f9a.add ((ji32)).toNat) = some (.int .u32 (rd x7_2 (ji32)))) (ds := []) #[ff,ff,ff,ff,ff,ff,ff,ff,ff,ff,ff,ff,ff,ff,ff,ff,ff,ff,ff,ff,ff] (by kernel_rfl) rfl rfl ⟨hx122_0, hx124_0, hx126_0⟩ (fun hHeld => ?_); refine with_tabW spec_l2Block.tab10 spec_l2Block.bits10 (fun HT_ HW_ => ?_)
                generalize w44.drew = w46 at HO_7 HB hx122_0 hx124_0 hx126_0 hHeld ⊢
                refine pu 0 81 (tb 21 1) HT_ ?_
                refine pu 1 82 (tb 21 3) HT_ ?_
                refine pu 2 83 (tb 21 7) HT_ ?_
                refine pu 3 84 (tb 21 15) HT_ ?_
                refine pu 6 87 (tb 21 79) HT_ ?_
                refine pu 7 88 (tb 21 207) HT_ ?_
                refine pu 8 89 (tb 21 463) HT_ ?_
                refine pu 9 90 (tb 21 975) HT_ ?_
                refine pu 13 94 (tb 21 9167) HT_ ?_
                refine pu 14 95 (tb 21 25551) HT_ ?_
                refine pu 15 96 (tb 21 58319) HT_ ?_
                refine pu 16 97 (tb 21 123855) HT_ ?_
                refine tk 4 85 (tb 21 123871) rfl rfl HT_ HW_ hHeld (by rintro w' ⟨s0, s1, s2⟩; go_simp; with_reducible rfl) ?_
                refine tk 10 91 (tb 21 124895) rfl rfl HT_ HW_ hHeld (by rintro w' ⟨s0, s1, s2⟩; go_simp; with_reducible rfl) ?_
                refine tk 17 98 (tb 21 255967) rfl rfl HT_ HW_ hHeld (by rintro w' ⟨s0, s1, s2⟩; go_simp; with_reducible rfl) ?_
                refine pu 18 99 (tb 21 518111) HT_ ?_
                refine one_ (i := 5) (N := some 86) #[tt,tt,tt,tt,tt,tt,tt,tt,tt,tt,tt,ff,ff,tt,tt,tt,tt,tt,tt,ff,ff] rfl rfl (one_of HT_.out (by kernel_rfl)) (by decide) (fun K hK => ?_)
                refine goes_ Tryd.func66 (by kernel_rfl) rfl #[.int .u32 (rd x7_2 (ji32)), .int .i64 17] (by rfl) rfl rfl (by (try simp only [List.map_toArray, List.map_cons, List.map_nil]); first | done | (simp only [hji32]; rfl) | rfl | (simp only [List.length_drop, List.length_take]; rfl)) ?_
                with_reducible refine (spec_l2Turn.calls (rd x7_2 (ji32)) 17 t123 _ A35.out).mono ?_
                rintro e w' ⟨rfl, ⟨nd, rfl⟩⟩
                refine ⟨_, rfl, ?_⟩
                refine hK.out _ _ ⟨hHeld.1, hHeld.2.1, hHeld.2.2⟩ (fun hHeld => ?_)
                clear hK K; refine norm_ (a' := ?_) ?_ ?_
                rotate_left
                ·show Act.put _ (some 86) _ = _
                 simp only [putL, i64_w, i32_w]; rfl
                refine one_ (i := 11) (N := some 92) #[tt,tt,tt,tt,tt,tt,tt,tt,tt,tt,tt,tt,ff,tt,tt,tt,tt,tt,tt,ff,ff] rfl rfl (one_of HT_.out (by kernel_rfl)) (by decide) (fun K hK => ?_)
                refine goes_ Tryd.func66 (by kernel_rfl) rfl #[.int .u32 (rd x7_2 (ji32)), .int .i64 19] (by rfl) rfl rfl (by (try simp only [List.map_toArray, List.map_cons, List.map_nil]); first | done | (simp only [hji32]; rfl) | rfl | (simp only [List.length_drop, List.length_take]; rfl)) ?_
                with_reducible refine (spec_l2Turn.calls (rd x7_2 (ji32)) 19 t125 _ A36.out).mono ?_
                rintro e w' ⟨rfl, ⟨nd, rfl⟩⟩
                refine ⟨_, rfl, ?_⟩
                refine hK.out _ _ ⟨hHeld.1, hHeld.2.1, hHeld.2.2⟩ (fun hHeld => ?_)
                clear hK K; refine norm_ (a' := ?_) ?_ ?_
                rotate_left
                ·show Act.put _ (some 92) _ = _
                 simp only [putL, i64_w, i32_w]; rfl
                refine pu 12 93 (tb 21 524287) HT_ ?_
                refine pu 19 100 (tb 21 1048575) HT_ ?_
                refine pu 20 11 (tb 21 2097151) HT_ ?_
                refine done_ (done_of HT_.out (by kernel_rfl)) ?_
                try go_wp2
                (try (rw [drewN_self w46]; generalize hq_ : World.drewN w46 _ = w46; have n0_ : Aside0 (Kd.R (Kd.int .u32) 59 w46 w.heap.size (fun _ => True) (.slice (some f9a) x7_2.length co45) x7_2) := ⟨by rw [← hq_]; exact (rr HO_7)⟩; have n1_ : Aside0 (Below w.heap.size w w46) := ⟨by rw [← hq_]; exact (be HB)⟩; clear HO_7 HB hq_; have HO_7 := n0_; have HB := n1_; clear n0_ n1_))
                have n0_ := Aside0.mk (Kd.R_drew HO_7.out)
                have n1_ := Aside0.mk (below_drew1 HB.out)
                clear HO_7 HB; have HO_7 := n0_; have HB := n1_; clear n0_ n1_; have p127 : 0 ≤ ((ji37) : Int) := of_decide_eq_true (by first | (with_reducible assumption) | assumption)
                have q127 : (ji37) < (x7_2.length : Int) := of_decide_eq_true (by first | (with_reducible assumption) | assumption)
                obtain ⟨ad127, e127, hx127_0⟩ := Kd.at_int (Kd.R_reads' HO_7.out).2.2 (ji37) p127 q127
                obtain rfl : f9a = ad127 := (by injection e127)
                replace p127 := eq_true p127
                replace q127 := eq_true q127
                have p128 : 0 ≤ ((ji40) : Int) := of_decide_eq_true (by first | (with_reducible assumption) | assumption)
                have q128 : (ji40) < (x7_2.length : Int) := of_decide_eq_true (by first | (with_reducible assumption) | assumption)
                obtain ⟨ad128, e128, hx128_0⟩ := Kd.at_int (Kd.R_reads' HO_7.out).2.2 (ji40) p128 q128
                obtain rfl : f9a = ad128 := (by injection e128)
                replace p128 := eq_true p128
                replace q128 := eq_true q128
                refine start_ (n := 19) (S := fun w' => w'.cell? (f9a.add ((ji37)).toNat) = some (.int .u32 (rd x7_2 (ji37))) ∧ w'.cell? (f9a.add ((ji40)).toNat) = some (.int .u32 (rd x7_2 (ji40)))) (ds := [16, 17]) #[ff,ff,ff,ff,ff,ff,ff,ff,ff,ff,ff,ff,ff,ff,ff,ff,ff,ff,ff] (by kernel_rfl) rfl rfl ⟨hx127_0, hx128_0⟩ (fun hHeld => ?_); refine with_tabW spec_l2Block.tab11 spec_l2Block.bits11 (fun HT_ HW_ => ?_)
                generalize w46.drew = w47 at HO_7 HB hx127_0 hx128_0 hHeld ⊢
                refine pu 0 101 (tb 19 1) HT_ ?_
                refine pu 1 102 (tb 19 3) HT_ ?_
                refine pu 2 103 (tb 19 7) HT_ ?_
                refine pu 3 104 (tb 19 15) HT_ ?_
                refine pu 4 105 (tb 19 31) HT_ ?_
                refine pu 6 107 (tb 19 95) HT_ ?_
                refine pu 8 109 (tb 19 351) HT_ ?_
                refine pu 9 110 (tb 19 863) HT_ ?_
                refine pu 10 111 (tb 19 1887) HT_ ?_
                refine pu 11 112 (tb 19 3935) HT_ ?_
                refine pu 14 115 (tb 19 20319) HT_ ?_
                refine tk 5 106 (tb 19 20351) rfl rfl HT_ HW_ hHeld (by rintro w' ⟨s0, s1⟩; go_simp; with_reducible rfl) ?_
                refine pu 7 108 (tb 19 20479) HT_ ?_
                refine tk 12 113 (tb 19 24575) rfl rfl HT_ HW_ hHeld (by rintro w' ⟨s0, s1⟩; go_simp; with_reducible rfl) ?_
                refine pu 13 114 (tb 19 32767) HT_ ?_
                refine pu 15 116 (tb 19 65535) HT_ ?_
                refine last_ (i := 16) (N := some 117) #[tt,tt,tt,tt,tt,tt,tt,tt,tt,tt,tt,tt,tt,tt,tt,tt,tt,ff,ff] rfl rfl (one_of HT_.out (by kernel_rfl)) (by decide) (fun K hK => ?_)
                refine value_ (w1 := ?_) (v := ?_) (by rfl) rfl ?_ ?_
                rotate_left 2
                ·go_simp
                 constructor
                 ·rfl
                 ·rfl
                refine hK.out _ _ ?_
                clear hK K; refine norm_ (a' := ?_) ?_ ?_
                rotate_left
                ·show Act.put _ (some 117) _ = _
                 simp only [putL, i64_w, i32_w]; rfl
                refine last_ (i := 17) (N := some 118) #[tt,tt,tt,tt,tt,tt,tt,tt,tt,tt,tt,tt,tt,tt,tt,tt,tt,tt,ff] rfl rfl (one_of HT_.out (by kernel_rfl)) (by decide) (fun K hK => ?_)
                refine Kd.R_append_step (Kd.int .u32) (w0 := w) w.heap.size (by rfl) (.tmp 101) (.tmp 117) 55 59 (.int .u32 0) 4 rfl Tryd.underlying55 info59 rfl (by decide) (by omega) (.slice (some f9a) x7_2.length co45) x7_2 (((((((rd x7_2 (ji37)) + (Go.bits .xor .u32 (Go.bits .xor .u32 t118 t120) ((rd x7_2 (ji27)) / 8))) % 4294967296) + (rd x7_2 (ji40))) % 4294967296) + (Go.bits .xor .u32 (Go.bits .xor .u32 t123 t125) ((rd x7_2 (ji32)) / 1024))) % 4294967296) [.int .u32 (((((((rd x7_2 (ji37)) + (Go.bits .xor .u32 (Go.bits .xor .u32 t118 t120) ((rd x7_2 (ji27)) / 8))) % 4294967296) + (rd x7_2 (ji40))) % 4294967296) + (Go.bits .xor .u32 (Go.bits .xor .u32 t123 t125) ((rd x7_2 (ji32)) / 1024))) % 4294967296)] (fun _ => True) (fun _ => False) rfl rfl ?aP (fun _ hk => hk.elim) ?aF ?aO ?aB ?aS ?aL ?_
                (case aP => exact rfl)
                (case aB => exact (be HB))
                (case aF => exact (fun _ _ => trivial))
                (case aO => exact (rr HO_7))
                (case aS => exact (below_size (be HB)))
                (case aL => have := LMc43.out; omega)
                intro v130 w48 ho hb hg hat
                rw [← Ny129.out] at ho
                have n0_ := Aside0.mk (hb)
                have HO131 := Aside0.mk (ho)
                clear HO_7 HB; have HB := n0_; clear n0_; clear ho hb hg hat; refine hK.out _ _ ?_
                clear hK K; refine norm_ (a' := ?_) ?_ ?_
                rotate_left
                ·show Act.put _ (some 118) _ = _
                 simp only [putL, i64_w, i32_w]; rfl
                refine pu 18 7 (tb 19 524287) HT_ ?_
                refine done_ (done_of HT_.out (by kernel_rfl)) ?_
                try go_wp2
                go_roundg k2
                case measure => have := HK1.out; have := HK2.out; omega
                case rel => exact ⟨(y129), (wrap64 (x9_2 + 1)), (by first | rfl | (simp; done) | (simp [*]; done)), H', ⟨by have := HK1.out; have := HK2.out; omega⟩, ⟨rr HO131⟩, ⟨by repeat (first | (with_reducible first | exact HB.out | apply below_alloc | apply pw_below_drewN | apply below_drew1) | exact HB.out)⟩⟩
               ·rw [if_neg c43] at H
                exact absurd H (by simp)
              ·rw [if_neg c42] at H
               exact absurd H (by simp)
             ·rw [if_neg c41] at H
              exact absurd H (by simp)
            ·rw [if_neg c39] at H
             exact absurd H (by simp)
           ·rw [if_neg c38] at H
            exact absurd H (by simp)
          ·rw [if_neg c34] at H
           exact absurd H (by simp)
         ·rw [if_neg c33] at H
          exact absurd H (by simp)
        ·rw [if_neg c29] at H
         exact absurd H (by simp)
       ·rw [if_neg c28] at H
        exact absurd H (by simp)
      ·rw [if_neg c26] at H
       have c26b0 : decide (x9_2 < 64) = false := decide_eq_false c26
       clear c26; obtain ⟨y132, hy132⟩ : ∃ y_ : List Int, y_ = (([] : List Int)) := ⟨_, rfl⟩
       replace H : (if y132.length + l0.length < 35184372088832 then (spec_l2Block.l2 k2 l0 l1 x7_2 (y132 ++ l0) 0) else (none)) = some r := by first | (rw [hy132]; with_reducible exact H) | (have H2_ := (Option.bind_some _ _).symm.trans H; rw [hy132]; with_reducible exact H2_) | (have H2_ := (Option.bind_some _ _).symm.trans H; with_reducible exact H2_) | with_reducible exact H | (rw [hy132]; exact H) | exact H
       have Ny132 := Aside0.mk hy132
       clear hy132
       by_cases c49 : y132.length + l0.length < 35184372088832
       ·rw [if_pos c49] at H
        have LMc49 := Aside0.mk c49
        clear c49; obtain ⟨y135, hy135⟩ : ∃ y_ : List Int, y_ = (y132 ++ l0) := ⟨_, rfl⟩
        replace H : (spec_l2Block.l2 k2 l0 l1 x7_2 y135 0) = some r := by first | (rw [hy135]; with_reducible exact H) | (have H2_ := (Option.bind_some _ _).symm.trans H; rw [hy135]; with_reducible exact H2_) | (have H2_ := (Option.bind_some _ _).symm.trans H; with_reducible exact H2_) | with_reducible exact H | (rw [hy135]; exact H) | exact H
        have Ny135 := Aside0.mk hy135
        clear hy135; have H' := Aside0.mk H
        clear H
        go_wp2_with (first | ((with_reducible refine gate_dst (N := 119) rfl ?_); refine Kd.R_lit (Kd.int .u32) _ 59 ?hg (N := 119) ?hd (xs := ([] : List Int)) (inner := []) (ok := fun _ => True) (okp := fun _ => True) ?hr ?hp (fun _ hk => hk) trivial (Below.refl _ _) (Nat.le_refl _) (by simp) ?_; (case hd => rfl); (case hg => rfl); (case hr => first | (go_simp; done) | (go_simp; rfl) | (go_simp; simp [IntKind.wrap_u32']; done)); (case hp => exact (Reps.none _ _)); intro v133 w50 ho51 hb hg_ hnew_; clear hg_ hnew_; (first | rw [← Ny132.out] at ho51 | (simp only [Int.reduceToNat] at ho51; rw [← Ny132.out] at ho51)); have n0_ := Aside0.mk (Kd.R_elder' (rr HO_7) (Kd.R_base ho51) hb); have HO134 := Aside0.mk (Kd.R_lower (Kd.R_new' ho51 (Kd.R_lt (rr HO_7))) (below_size (be HB))); replace HB := bh HB hb; clear HO_7; have HO_7 := n0_; clear n0_; clear hb ho51) | ((with_reducible refine gate_builtin (b := .append) (xs := #[.tmp 119, .tmp 120]) rfl ?_); at_builtin; refine Kd.R_append_rows (Kd.int .u32) (w0 := w) w.heap.size rfl (.tmp 119) (.tmp 120) 55 59 (.int .u32 0) 4 rfl Tryd.underlying55 info59 rfl (by decide) (by omega) v133 y132 l0 _ _ _ (fun k_ => some k_ ≠ (u7 : Value).ownBlock) (fun _ => False) rfl rfl ?aO ?aR (fun _ _ h => h) (fun _ h => h.elim) ?aF ?aB ?aS ?aL ?_; (case aR => repeat (first | exact (Kd.C_below HR0.out HB.out) | (with_reducible refine Kd.C_alloc ?_ _) | (with_reducible refine Kd.C_drewN ?_ _) | (with_reducible refine Kd.C_drew ?_))); (case aB => exact (be HB)); (case aF => exact (fun k_ hk => Kd.fresh' (Kd.R_lt (rr HO_7)) k_ hk)); (case aO => exact (by (with_reducible repeat (first | apply Kd.R_alloc | apply Kd.R_drewN | apply Kd.R_drew)); exact Kd.R_mono HO134.out (fun _ hk => hk.2))); (case aS => exact (below_size (be HB))); (case aL => have := LMc49.out; omega); intro v136 w52 ho hb hg hat; rw [← Ny135.out] at ho; have n0_ := Aside0.mk (Kd.R_after (ok := (fun _ => True)) (rr HO_7) hg hat); have n1_ := Aside0.mk (hb); have HO137 := Aside0.mk (ho); clear HO134 HO_7 HB; have HO_7 := n0_; have HB := n1_; clear n0_ n1_; clear ho hb hg hat))
        go_loopg [12, 13] k2 (fun kq v12 v13 w' => ∃ (a9a : List Int) (b9a : Int), v13 = .int .i64 b9a ∧ Aside0 (spec_l2Block.l2 kq l0 l1 x7_2 a9a b9a = some r) ∧ Aside0 (kq ≤ k2) ∧ Aside0 (Kd.R (Kd.int .u32) 59 w' w.heap.size (fun k_ => some k_ ≠ (v12 : Value).ownBlock) u7 x7_2) ∧ Aside0 (Kd.R (Kd.int .u32) 59 w' w.heap.size (fun k_ => some k_ ≠ (u7 : Value).ownBlock) v12 a9a) ∧ Aside0 (Below w.heap.size w w'))
        case atStart => exact ⟨(y135), (0), (by first | rfl | (simp; done) | (simp [*]; done)), H', ⟨Nat.le_refl _⟩, ⟨by (with_reducible repeat (first | apply Kd.R_alloc | apply Kd.R_drewN | apply Kd.R_drew)); exact Kd.R_mono HO_7.out (fun _ hk => hk.2)⟩, ⟨rr HO137⟩, ⟨by repeat (first | (with_reducible first | exact HB.out | apply below_alloc | apply pw_below_drewN | apply below_drew1) | exact HB.out)⟩⟩
        case round =>
         clear H'
         obtain ⟨a9a, b9a, rfl, HA, HK3, HO_7, c9a, HB⟩ := hrel
         cases gk with
         | zero => exact absurd HA.out (by simp [spec_l2Block.l2])
         | succ k3 =>
          have H := HA.out; clear HA; simp only [spec_l2Block.l2] at H
          by_cases c53 : b9a < 64
          ·rw [if_pos c53] at H
           have c53b0 : decide (b9a < 64) = true := decide_eq_true c53
           clear c53
           by_cases c54 : 4 < (a9a.length : Int)
           ·rw [if_pos c54] at H
            have c54b0 : decide (4 < (a9a.length : Int)) = true := decide_eq_true c54
            have c54b1 : decide (4 < a9a.length) = true := decide_eq_true (by omega)
            clear c54; replace H := Option.bind_eq_some_iff.mp H
            obtain ⟨t139, A550, H⟩ := H
            replace H : ((spec_l2Turn.f (rd a9a 4) 11).bind fun t141 => ((spec_l2Turn.f (rd a9a 4) 25).bind fun t143 => (if 7 < (a9a.length : Int) then (if 5 < (a9a.length : Int) then (if 6 < (a9a.length : Int) then (if 0 ≤ b9a then (if b9a < (l1.length : Int) then (if b9a < (x7_2.length : Int) then (if 0 < (a9a.length : Int) then ((spec_l2Turn.f (rd a9a 0) 2).bind fun t152 => ((spec_l2Turn.f (rd a9a 0) 13).bind fun t154 => ((spec_l2Turn.f (rd a9a 0) 22).bind fun t156 => (if 1 < (a9a.length : Int) then (if 2 < (a9a.length : Int) then (if 3 < (a9a.length : Int) then (spec_l2Block.l2 k3 l0 l1 x7_2 (([((((((((((rd a9a 7) + (Go.bits .xor .u32 (Go.bits .xor .u32 t139 t141) t143)) % 4294967296) + (Go.bits .xor .u32 (Go.bits .and .u32 (rd a9a 4) (rd a9a 5)) (Go.bits .and .u32 (Go.bits .xor .u32 IntKind.u32.max (rd a9a 4)) (rd a9a 6)))) % 4294967296) + (rd l1 b9a)) % 4294967296) + (rd x7_2 b9a)) % 4294967296) + (((Go.bits .xor .u32 (Go.bits .xor .u32 t152 t154) t156) + (Go.bits .xor .u32 (Go.bits .xor .u32 (Go.bits .and .u32 (rd a9a 0) (rd a9a 1)) (Go.bits .and .u32 (rd a9a 0) (rd a9a 2))) (Go.bits .and .u32 (rd a9a 1) (rd a9a 2)))) % 4294967296)) % 4294967296, rd a9a 0, rd a9a 1, rd a9a 2, ((rd a9a 3) + (((((((((rd a9a 7) + (Go.bits .xor .u32 (Go.bits .xor .u32 t139 t141) t143)) % 4294967296) + (Go.bits .xor .u32 (Go.bits .and .u32 (rd a9a 4) (rd a9a 5)) (Go.bits .and .u32 (Go.bits .xor .u32 IntKind.u32.max (rd a9a 4)) (rd a9a 6)))) % 4294967296) + (rd l1 b9a)) % 4294967296) + (rd x7_2 b9a)) % 4294967296)) % 4294967296, rd a9a 4, rd a9a 5, rd a9a 6] : List Int)) (wrap64 (b9a + 1))) else (none)) else (none)) else (none))))) else (none)) else (none)) else (none)) else (none)) else (none)) else (none)) else (none)))) = some r := H
            have A55 := Aside0.mk A550
            clear A550; replace H := Option.bind_eq_some_iff.mp H
            obtain ⟨t141, A560, H⟩ := H
            replace H : ((spec_l2Turn.f (rd a9a 4) 25).bind fun t143 => (if 7 < (a9a.length : Int) then (if 5 < (a9a.length : Int) then (if 6 < (a9a.length : Int) then (if 0 ≤ b9a then (if b9a < (l1.length : Int) then (if b9a < (x7_2.length : Int) then (if 0 < (a9a.length : Int) then ((spec_l2Turn.f (rd a9a 0) 2).bind fun t152 => ((spec_l2Turn.f (rd a9a 0) 13).bind fun t154 => ((spec_l2Turn.f (rd a9a 0) 22).bind fun t156 => (if 1 < (a9a.length : Int) then (if 2 < (a9a.length : Int) then (if 3 < (a9a.length : Int) then (spec_l2Block.l2 k3 l0 l1 x7_2 (([((((((((((rd a9a 7) + (Go.bits .xor .u32 (Go.bits .xor .u32 t139 t141) t143)) % 4294967296) + (Go.bits .xor .u32 (Go.bits .and .u32 (rd a9a 4) (rd a9a 5)) (Go.bits .and .u32 (Go.bits .xor .u32 IntKind.u32.max (rd a9a 4)) (rd a9a 6)))) % 4294967296) + (rd l1 b9a)) % 4294967296) + (rd x7_2 b9a)) % 4294967296) + (((Go.bits .xor .u32 (Go.bits .xor .u32 t152 t154) t156) + (Go.bits .xor .u32 (Go.bits .xor .u32 (Go.bits .and .u32 (rd a9a 0) (rd a9a 1)) (Go.bits .and .u32 (rd a9a 0) (rd a9a 2))) (Go.bits .and .u32 (rd a9a 1) (rd a9a 2)))) % 4294967296)) % 4294967296, rd a9a 0, rd a9a 1, rd a9a 2, ((rd a9a 3) + (((((((((rd a9a 7) + (Go.bits .xor .u32 (Go.bits .xor .u32 t139 t141) t143)) % 4294967296) + (Go.bits .xor .u32 (Go.bits .and .u32 (rd a9a 4) (rd a9a 5)) (Go.bits .and .u32 (Go.bits .xor .u32 IntKind.u32.max (rd a9a 4)) (rd a9a 6)))) % 4294967296) + (rd l1 b9a)) % 4294967296) + (rd x7_2 b9a)) % 4294967296)) % 4294967296, rd a9a 4, rd a9a 5, rd a9a 6] : List Int)) (wrap64 (b9a + 1))) else (none)) else (none)) else (none))))) else (none)) else (none)) else (none)) else (none)) else (none)) else (none)) else (none))) = some r := H
            have A56 := Aside0.mk A560
            clear A560; replace H := Option.bind_eq_some_iff.mp H
            obtain ⟨t143, A570, H⟩ := H
            replace H : (if 7 < (a9a.length : Int) then (if 5 < (a9a.length : Int) then (if 6 < (a9a.length : Int) then (if 0 ≤ b9a then (if b9a < (l1.length : Int) then (if b9a < (x7_2.length : Int) then (if 0 < (a9a.length : Int) then ((spec_l2Turn.f (rd a9a 0) 2).bind fun t152 => ((spec_l2Turn.f (rd a9a 0) 13).bind fun t154 => ((spec_l2Turn.f (rd a9a 0) 22).bind fun t156 => (if 1 < (a9a.length : Int) then (if 2 < (a9a.length : Int) then (if 3 < (a9a.length : Int) then (spec_l2Block.l2 k3 l0 l1 x7_2 (([((((((((((rd a9a 7) + (Go.bits .xor .u32 (Go.bits .xor .u32 t139 t141) t143)) % 4294967296) + (Go.bits .xor .u32 (Go.bits .and .u32 (rd a9a 4) (rd a9a 5)) (Go.bits .and .u32 (Go.bits .xor .u32 IntKind.u32.max (rd a9a 4)) (rd a9a 6)))) % 4294967296) + (rd l1 b9a)) % 4294967296) + (rd x7_2 b9a)) % 4294967296) + (((Go.bits .xor .u32 (Go.bits .xor .u32 t152 t154) t156) + (Go.bits .xor .u32 (Go.bits .xor .u32 (Go.bits .and .u32 (rd a9a 0) (rd a9a 1)) (Go.bits .and .u32 (rd a9a 0) (rd a9a 2))) (Go.bits .and .u32 (rd a9a 1) (rd a9a 2)))) % 4294967296)) % 4294967296, rd a9a 0, rd a9a 1, rd a9a 2, ((rd a9a 3) + (((((((((rd a9a 7) + (Go.bits .xor .u32 (Go.bits .xor .u32 t139 t141) t143)) % 4294967296) + (Go.bits .xor .u32 (Go.bits .and .u32 (rd a9a 4) (rd a9a 5)) (Go.bits .and .u32 (Go.bits .xor .u32 IntKind.u32.max (rd a9a 4)) (rd a9a 6)))) % 4294967296) + (rd l1 b9a)) % 4294967296) + (rd x7_2 b9a)) % 4294967296)) % 4294967296, rd a9a 4, rd a9a 5, rd a9a 6] : List Int)) (wrap64 (b9a + 1))) else (none)) else (none)) else (none))))) else (none)) else (none)) else (none)) else (none)) else (none)) else (none)) else (none)) = some r := H
            have A57 := Aside0.mk A570
            clear A570
            by_cases c58 : 7 < (a9a.length : Int)
            ·rw [if_pos c58] at H
             have c58b0 : decide (7 < (a9a.length : Int)) = true := decide_eq_true c58
             have c58b1 : decide (7 < a9a.length) = true := decide_eq_true (by omega)
             clear c58
             by_cases c59 : 5 < (a9a.length : Int)
             ·rw [if_pos c59] at H
              have c59b0 : decide (5 < (a9a.length : Int)) = true := decide_eq_true c59
              have c59b1 : decide (5 < a9a.length) = true := decide_eq_true (by omega)
              clear c59
              by_cases c60 : 6 < (a9a.length : Int)
              ·rw [if_pos c60] at H
               have c60b0 : decide (6 < (a9a.length : Int)) = true := decide_eq_true c60
               have c60b1 : decide (6 < a9a.length) = true := decide_eq_true (by omega)
               clear c60
               by_cases c61 : 0 ≤ b9a
               ·rw [if_pos c61] at H
                have c61b0 : decide (0 ≤ b9a) = true := decide_eq_true c61
                clear c61
                by_cases c62 : b9a < (l1.length : Int)
                ·rw [if_pos c62] at H
                 have c62b0 : decide (b9a < (l1.length : Int)) = true := decide_eq_true c62
                 clear c62
                 by_cases c63 : b9a < (x7_2.length : Int)
                 ·rw [if_pos c63] at H
                  have c63b0 : decide (b9a < (x7_2.length : Int)) = true := decide_eq_true c63
                  clear c63
                  by_cases c64 : 0 < (a9a.length : Int)
                  ·rw [if_pos c64] at H
                   have c64b0 : decide (0 < (a9a.length : Int)) = true := decide_eq_true c64
                   have c64b1 : decide (0 < a9a.length) = true := decide_eq_true (by omega)
                   clear c64; replace H := Option.bind_eq_some_iff.mp H
                   obtain ⟨t152, A650, H⟩ := H
                   replace H : ((spec_l2Turn.f (rd a9a 0) 13).bind fun t154 => ((spec_l2Turn.f (rd a9a 0) 22).bind fun t156 => (if 1 < (a9a.length : Int) then (if 2 < (a9a.length : Int) then (if 3 < (a9a.length : Int) then (spec_l2Block.l2 k3 l0 l1 x7_2 (([((((((((((rd a9a 7) + (Go.bits .xor .u32 (Go.bits .xor .u32 t139 t141) t143)) % 4294967296) + (Go.bits .xor .u32 (Go.bits .and .u32 (rd a9a 4) (rd a9a 5)) (Go.bits .and .u32 (Go.bits .xor .u32 IntKind.u32.max (rd a9a 4)) (rd a9a 6)))) % 4294967296) + (rd l1 b9a)) % 4294967296) + (rd x7_2 b9a)) % 4294967296) + (((Go.bits .xor .u32 (Go.bits .xor .u32 t152 t154) t156) + (Go.bits .xor .u32 (Go.bits .xor .u32 (Go.bits .and .u32 (rd a9a 0) (rd a9a 1)) (Go.bits .and .u32 (rd a9a 0) (rd a9a 2))) (Go.bits .and .u32 (rd a9a 1) (rd a9a 2)))) % 4294967296)) % 4294967296, rd a9a 0, rd a9a 1, rd a9a 2, ((rd a9a 3) + (((((((((rd a9a 7) + (Go.bits .xor .u32 (Go.bits .xor .u32 t139 t141) t143)) % 4294967296) + (Go.bits .xor .u32 (Go.bits .and .u32 (rd a9a 4) (rd a9a 5)) (Go.bits .and .u32 (Go.bits .xor .u32 IntKind.u32.max (rd a9a 4)) (rd a9a 6)))) % 4294967296) + (rd l1 b9a)) % 4294967296) + (rd x7_2 b9a)) % 4294967296)) % 4294967296, rd a9a 4, rd a9a 5, rd a9a 6] : List Int)) (wrap64 (b9a + 1))) else (none)) else (none)) else (none)))) = some r := H
                   have A65 := Aside0.mk A650
                   clear A650; replace H := Option.bind_eq_some_iff.mp H
                   obtain ⟨t154, A660, H⟩ := H
                   replace H : ((spec_l2Turn.f (rd a9a 0) 22).bind fun t156 => (if 1 < (a9a.length : Int) then (if 2 < (a9a.length : Int) then (if 3 < (a9a.length : Int) then (spec_l2Block.l2 k3 l0 l1 x7_2 (([((((((((((rd a9a 7) + (Go.bits .xor .u32 (Go.bits .xor .u32 t139 t141) t143)) % 4294967296) + (Go.bits .xor .u32 (Go.bits .and .u32 (rd a9a 4) (rd a9a 5)) (Go.bits .and .u32 (Go.bits .xor .u32 IntKind.u32.max (rd a9a 4)) (rd a9a 6)))) % 4294967296) + (rd l1 b9a)) % 4294967296) + (rd x7_2 b9a)) % 4294967296) + (((Go.bits .xor .u32 (Go.bits .xor .u32 t152 t154) t156) + (Go.bits .xor .u32 (Go.bits .xor .u32 (Go.bits .and .u32 (rd a9a 0) (rd a9a 1)) (Go.bits .and .u32 (rd a9a 0) (rd a9a 2))) (Go.bits .and .u32 (rd a9a 1) (rd a9a 2)))) % 4294967296)) % 4294967296, rd a9a 0, rd a9a 1, rd a9a 2, ((rd a9a 3) + (((((((((rd a9a 7) + (Go.bits .xor .u32 (Go.bits .xor .u32 t139 t141) t143)) % 4294967296) + (Go.bits .xor .u32 (Go.bits .and .u32 (rd a9a 4) (rd a9a 5)) (Go.bits .and .u32 (Go.bits .xor .u32 IntKind.u32.max (rd a9a 4)) (rd a9a 6)))) % 4294967296) + (rd l1 b9a)) % 4294967296) + (rd x7_2 b9a)) % 4294967296)) % 4294967296, rd a9a 4, rd a9a 5, rd a9a 6] : List Int)) (wrap64 (b9a + 1))) else (none)) else (none)) else (none))) = some r := H
                   have A66 := Aside0.mk A660
                   clear A660; replace H := Option.bind_eq_some_iff.mp H
                   obtain ⟨t156, A670, H⟩ := H
                   replace H : (if 1 < (a9a.length : Int) then (if 2 < (a9a.length : Int) then (if 3 < (a9a.length : Int) then (spec_l2Block.l2 k3 l0 l1 x7_2 (([((((((((((rd a9a 7) + (Go.bits .xor .u32 (Go.bits .xor .u32 t139 t141) t143)) % 4294967296) + (Go.bits .xor .u32 (Go.bits .and .u32 (rd a9a 4) (rd a9a 5)) (Go.bits .and .u32 (Go.bits .xor .u32 IntKind.u32.max (rd a9a 4)) (rd a9a 6)))) % 4294967296) + (rd l1 b9a)) % 4294967296) + (rd x7_2 b9a)) % 4294967296) + (((Go.bits .xor .u32 (Go.bits .xor .u32 t152 t154) t156) + (Go.bits .xor .u32 (Go.bits .xor .u32 (Go.bits .and .u32 (rd a9a 0) (rd a9a 1)) (Go.bits .and .u32 (rd a9a 0) (rd a9a 2))) (Go.bits .and .u32 (rd a9a 1) (rd a9a 2)))) % 4294967296)) % 4294967296, rd a9a 0, rd a9a 1, rd a9a 2, ((rd a9a 3) + (((((((((rd a9a 7) + (Go.bits .xor .u32 (Go.bits .xor .u32 t139 t141) t143)) % 4294967296) + (Go.bits .xor .u32 (Go.bits .and .u32 (rd a9a 4) (rd a9a 5)) (Go.bits .and .u32 (Go.bits .xor .u32 IntKind.u32.max (rd a9a 4)) (rd a9a 6)))) % 4294967296) + (rd l1 b9a)) % 4294967296) + (rd x7_2 b9a)) % 4294967296)) % 4294967296, rd a9a 4, rd a9a 5, rd a9a 6] : List Int)) (wrap64 (b9a + 1))) else (none)) else (none)) else (none)) = some r := H
                   have A67 := Aside0.mk A670
                   clear A670
                   by_cases c68 : 1 < (a9a.length : Int)
                   ·rw [if_pos c68] at H
                    have c68b0 : decide (1 < (a9a.length : Int)) = true := decide_eq_true c68
                    have c68b1 : decide (1 < a9a.length) = true := decide_eq_true (by omega)
                    clear c68
                    by_cases c69 : 2 < (a9a.length : Int)
                    ·rw [if_pos c69] at H
                     have c69b0 : decide (2 < (a9a.length : Int)) = true := decide_eq_true c69
                     have c69b1 : decide (2 < a9a.length) = true := decide_eq_true (by omega)
                     clear c69
                     by_cases c70 : 3 < (a9a.length : Int)
                     ·rw [if_pos c70] at H
                      have c70b0 : decide (3 < (a9a.length : Int)) = true := decide_eq_true c70
                      have c70b1 : decide (3 < a9a.length) = true := decide_eq_true (by omega)
                      clear c70; obtain ⟨y170, hy170⟩ : ∃ y_ : List Int, y_ = (([((((((((((rd a9a 7) + (Go.bits .xor .u32 (Go.bits .xor .u32 t139 t141) t143)) % 4294967296) + (Go.bits .xor .u32 (Go.bits .and .u32 (rd a9a 4) (rd a9a 5)) (Go.bits .and .u32 (Go.bits .xor .u32 IntKind.u32.max (rd a9a 4)) (rd a9a 6)))) % 4294967296) + (rd l1 b9a)) % 4294967296) + (rd x7_2 b9a)) % 4294967296) + (((Go.bits .xor .u32 (Go.bits .xor .u32 t152 t154) t156) + (Go.bits .xor .u32 (Go.bits .xor .u32 (Go.bits .and .u32 (rd a9a 0) (rd a9a 1)) (Go.bits .and .u32 (rd a9a 0) (rd a9a 2))) (Go.bits .and .u32 (rd a9a 1) (rd a9a 2)))) % 4294967296)) % 4294967296, rd a9a 0, rd a9a 1, rd a9a 2, ((rd a9a 3) + (((((((((rd a9a 7) + (Go.bits .xor .u32 (Go.bits .xor .u32 t139 t141) t143)) % 4294967296) + (Go.bits .xor .u32 (Go.bits .and .u32 (rd a9a 4) (rd a9a 5)) (Go.bits .and .u32 (Go.bits .xor .u32 IntKind.u32.max (rd a9a 4)) (rd a9a 6)))) % 4294967296) + (rd l1 b9a)) % 4294967296) + (rd x7_2 b9a)) % 4294967296)) % 4294967296, rd a9a 4, rd a9a 5, rd a9a 6] : List Int)) := ⟨_, rfl⟩
                      replace H : (spec_l2Block.l2 k3 l0 l1 x7_2 y170 (wrap64 (b9a + 1))) = some r := by first | (rw [hy170]; with_reducible exact H) | (have H2_ := (Option.bind_some _ _).symm.trans H; rw [hy170]; with_reducible exact H2_) | (have H2_ := (Option.bind_some _ _).symm.trans H; with_reducible exact H2_) | with_reducible exact H | (rw [hy170]; exact H) | exact H
                      have Ny170 := Aside0.mk hy170
                      clear hy170; have H' := Aside0.mk H
                      clear H
                      try go_wp2
                      have n0_ := Aside0.mk (Kd.R_drew HO_7.out)
                      have n1_ := Aside0.mk (Kd.R_drew c9a.out)
                      have n2_ := Aside0.mk (below_drew1 HB.out)
                      clear HO_7 c9a HB; have HO_7 := n0_; have c9a := n1_; have HB := n2_; clear n0_ n1_ n2_; obtain ⟨Ao72, co72, eo72⟩ := Kd.R_slice c9a.out
                      (first | subst eo72 | (injection eo72 with f1_ f2_ f3_; have f4_ := f1_.symm; have f5_ := f3_.symm; clear f1_ f2_ f3_; subst f4_; subst f5_))
                      have p138 : 0 ≤ (4 : Int) := (by omega)
                      have q138 : 4 < (a9a.length : Int) := of_decide_eq_true (by first | (with_reducible assumption) | assumption)
                      obtain ⟨d9a, e138, i9a⟩ := Kd.at_int (Kd.R_reads' c9a.out).2.2 4 p138 q138
                      cases e138
                      (try simp only [show (4 : Int).toNat = 4 from rfl, Nat.reduceMul, Nat.reduceEqDiff, Go.Addr.add, ↓reduceIte] at i9a)
                      have qi138 : (4 < a9a.length) = True := eq_true (by omega)
                      (try rw [show ((4 : Int)).toNat = 4 from rfl] at i9a)
                      replace p138 := eq_true p138
                      replace q138 := eq_true q138
                      have p140 : 0 ≤ (4 : Int) := (by omega)
                      have q140 : 4 < (a9a.length : Int) := of_decide_eq_true (by first | (with_reducible assumption) | assumption)
                      obtain ⟨ad140, e140, j9a⟩ := Kd.at_int (Kd.R_reads' c9a.out).2.2 4 p140 q140
                      obtain rfl : d9a = ad140 := (by injection e140)
                      (try simp only [show (4 : Int).toNat = 4 from rfl, Nat.reduceMul, Nat.reduceEqDiff, Go.Addr.add, ↓reduceIte] at j9a)
                      have qi140 : (4 < a9a.length) = True := eq_true (by omega)
                      (try rw [show ((4 : Int)).toNat = 4 from rfl] at j9a)
                      replace p140 := eq_true p140
                      replace q140 := eq_true q140
                      have p142 : 0 ≤ (4 : Int) := (by omega)
                      have q142 : 4 < (a9a.length : Int) := of_decide_eq_true (by first | (with_reducible assumption) | assumption)
                      obtain ⟨ad142, e142, k9a⟩ := Kd.at_int (Kd.R_reads' c9a.out).2.2 4 p142 q142
                      obtain rfl : d9a = ad142 := (by injection e142)
                      (try simp only [show (4 : Int).toNat = 4 from rfl, Nat.reduceMul, Nat.reduceEqDiff, Go.Addr.add, ↓reduceIte] at k9a)
                      have qi142 : (4 < a9a.length) = True := eq_true (by omega)
                      (try rw [show ((4 : Int)).toNat = 4 from rfl] at k9a)
                      replace p142 := eq_true p142
                      replace q142 := eq_true q142
                      refine start_ (n := 15) (S := fun w' => w'.cell? ⟨d9a.block, d9a.off + 4, none⟩ = some (.int .u32 (rd a9a 4)) ∧ w'.cell? ⟨d9a.block, d9a.off + 4, none⟩ = some (.int .u32 (rd a9a 4)) ∧ w'.cell? ⟨d9a.block, d9a.off + 4, none⟩ = some (.int .u32 (rd a9a 4))) (ds := []) #[ff,ff,ff,ff,ff,ff,ff,ff,ff,ff,ff,ff,ff,ff,ff] (by kernel_rfl) rfl rfl ⟨i9a, j9a, k9a⟩ (fun hHeld => ?_); refine with_tabW spec_l2Block.tab16 spec_l2Block.bits16 (fun HT_ HW_ => ?_)
                      generalize wr.drew = w71 at HO_7 c9a HB i9a j9a k9a hHeld ⊢
                      refine pu 0 126 (tb 15 1) HT_ ?_
                      refine pu 1 127 (tb 15 3) HT_ ?_
                      refine pu 4 130 (tb 15 19) HT_ ?_
                      refine pu 5 131 (tb 15 51) HT_ ?_
                      refine pu 9 135 (tb 15 563) HT_ ?_
                      refine pu 10 136 (tb 15 1587) HT_ ?_
                      refine tk 2 128 (tb 15 1591) rfl rfl HT_ HW_ hHeld (by rintro w' ⟨s0, s1, s2⟩; go_simp; with_reducible rfl) ?_
                      refine tk 6 132 (tb 15 1655) rfl rfl HT_ HW_ hHeld (by rintro w' ⟨s0, s1, s2⟩; go_simp; with_reducible rfl) ?_
                      refine tk 11 137 (tb 15 3703) rfl rfl HT_ HW_ hHeld (by rintro w' ⟨s0, s1, s2⟩; go_simp; with_reducible rfl) ?_
                      refine one_ (i := 3) (N := some 129) #[tt,tt,tt,tt,tt,tt,tt,ff,ff,tt,tt,tt,ff,ff,ff] rfl rfl (one_of HT_.out (by kernel_rfl)) (by decide) (fun K hK => ?_)
                      refine goes_ Tryd.func66 (by kernel_rfl) rfl #[.int .u32 (rd a9a 4), .int .i64 6] (by rfl) rfl rfl (by (try simp only [List.map_toArray, List.map_cons, List.map_nil]); first | done | rfl | (simp only [List.length_drop, List.length_take]; rfl)) ?_
                      with_reducible refine (spec_l2Turn.calls (rd a9a 4) 6 t139 _ A55.out).mono ?_
                      rintro e w' ⟨rfl, ⟨nd, rfl⟩⟩
                      refine ⟨_, rfl, ?_⟩
                      refine hK.out _ _ ⟨hHeld.1, hHeld.2.1, hHeld.2.2⟩ (fun hHeld => ?_)
                      clear hK K; refine norm_ (a' := ?_) ?_ ?_
                      rotate_left
                      ·show Act.put _ (some 129) _ = _
                       simp only [putL, i64_w, i32_w]; rfl
                      refine one_ (i := 7) (N := some 133) #[tt,tt,tt,tt,tt,tt,tt,tt,ff,tt,tt,tt,ff,ff,ff] rfl rfl (one_of HT_.out (by kernel_rfl)) (by decide) (fun K hK => ?_)
                      refine goes_ Tryd.func66 (by kernel_rfl) rfl #[.int .u32 (rd a9a 4), .int .i64 11] (by rfl) rfl rfl (by (try simp only [List.map_toArray, List.map_cons, List.map_nil]); first | done | rfl | (simp only [List.length_drop, List.length_take]; rfl)) ?_
                      with_reducible refine (spec_l2Turn.calls (rd a9a 4) 11 t141 _ A56.out).mono ?_
                      rintro e w' ⟨rfl, ⟨nd, rfl⟩⟩
                      refine ⟨_, rfl, ?_⟩
                      refine hK.out _ _ ⟨hHeld.1, hHeld.2.1, hHeld.2.2⟩ (fun hHeld => ?_)
                      clear hK K; refine norm_ (a' := ?_) ?_ ?_
                      rotate_left
                      ·show Act.put _ (some 133) _ = _
                       simp only [putL, i64_w, i32_w]; rfl
                      refine pu 8 134 (tb 15 4095) HT_ ?_
                      refine one_ (i := 12) (N := some 138) #[tt,tt,tt,tt,tt,tt,tt,tt,tt,tt,tt,tt,tt,ff,ff] rfl rfl (one_of HT_.out (by kernel_rfl)) (by decide) (fun K hK => ?_)
                      refine goes_ Tryd.func66 (by kernel_rfl) rfl #[.int .u32 (rd a9a 4), .int .i64 25] (by rfl) rfl rfl (by (try simp only [List.map_toArray, List.map_cons, List.map_nil]); first | done | rfl | (simp only [List.length_drop, List.length_take]; rfl)) ?_
                      with_reducible refine (spec_l2Turn.calls (rd a9a 4) 25 t143 _ A57.out).mono ?_
                      rintro e w' ⟨rfl, ⟨nd, rfl⟩⟩
                      refine ⟨_, rfl, ?_⟩
                      refine hK.out _ _ ⟨hHeld.1, hHeld.2.1, hHeld.2.2⟩ (fun hHeld => ?_)
                      clear hK K; refine norm_ (a' := ?_) ?_ ?_
                      rotate_left
                      ·show Act.put _ (some 138) _ = _
                       simp only [putL, i64_w, i32_w]; rfl
                      refine pu 13 139 (tb 15 16383) HT_ ?_
                      refine pu 14 14 (tb 15 32767) HT_ ?_
                      refine done_ (done_of HT_.out (by kernel_rfl)) ?_
                      try go_wp2
                      (try (rw [drewN_self w71]; generalize hq_ : World.drewN w71 _ = w71; have n0_ : Aside0 (Kd.R (Kd.int .u32) 59 w71 w.heap.size (fun k_ => some k_ ≠ (u7 : Value).ownBlock) (.slice (some d9a) a9a.length co72) a9a) := ⟨by rw [← hq_]; exact (rr c9a)⟩; have n1_ : Aside0 (Kd.R (Kd.int .u32) 59 w71 w.heap.size (fun k_ => some k_ ≠ (.slice (some d9a) a9a.length co72 : Value).ownBlock) u7 x7_2) := ⟨by rw [← hq_]; exact (rr HO_7)⟩; have n2_ : Aside0 (Below w.heap.size w w71) := ⟨by rw [← hq_]; exact (be HB)⟩; clear c9a HO_7 HB hq_; have c9a := n0_; have HO_7 := n1_; have HB := n2_; clear n0_ n1_ n2_))
                      have n0_ := Aside0.mk (Kd.R_drew HO_7.out)
                      have n1_ := Aside0.mk (Kd.R_drew c9a.out)
                      have n2_ := Aside0.mk (below_drew1 HB.out)
                      clear HO_7 c9a HB; have HO_7 := n0_; have c9a := n1_; have HB := n2_; clear n0_ n1_ n2_; have p144 : 0 ≤ (7 : Int) := (by omega)
                      have q144 : 7 < (a9a.length : Int) := of_decide_eq_true (by first | (with_reducible assumption) | assumption)
                      obtain ⟨ad144, e144, l9a⟩ := Kd.at_int (Kd.R_reads' c9a.out).2.2 7 p144 q144
                      obtain rfl : d9a = ad144 := (by injection e144)
                      (try simp only [show (7 : Int).toNat = 7 from rfl, Nat.reduceMul, Nat.reduceEqDiff, Go.Addr.add, ↓reduceIte] at l9a)
                      have qi144 : (7 < a9a.length) = True := eq_true (by omega)
                      (try rw [show ((7 : Int)).toNat = 7 from rfl] at l9a)
                      replace p144 := eq_true p144
                      replace q144 := eq_true q144
                      have p145 : 0 ≤ (4 : Int) := (by omega)
                      have q145 : 4 < (a9a.length : Int) := of_decide_eq_true (by first | (with_reducible assumption) | assumption)
                      obtain ⟨ad145, e145, m9a⟩ := Kd.at_int (Kd.R_reads' c9a.out).2.2 4 p145 q145
                      obtain rfl : d9a = ad145 := (by injection e145)
                      (try simp only [show (4 : Int).toNat = 4 from rfl, Nat.reduceMul, Nat.reduceEqDiff, Go.Addr.add, ↓reduceIte] at m9a)
                      have qi145 : (4 < a9a.length) = True := eq_true (by omega)
                      (try rw [show ((4 : Int)).toNat = 4 from rfl] at m9a)
                      replace p145 := eq_true p145
                      replace q145 := eq_true q145
                      have p146 : 0 ≤ (5 : Int) := (by omega)
                      have q146 : 5 < (a9a.length : Int) := of_decide_eq_true (by first | (with_reducible assumption) | assumption)
                      obtain ⟨ad146, e146, n9a⟩ := Kd.at_int (Kd.R_reads' c9a.out).2.2 5 p146 q146
                      obtain rfl : d9a = ad146 := (by injection e146)
                      (try simp only [show (5 : Int).toNat = 5 from rfl, Nat.reduceMul, Nat.reduceEqDiff, Go.Addr.add, ↓reduceIte] at n9a)
                      have qi146 : (5 < a9a.length) = True := eq_true (by omega)
                      (try rw [show ((5 : Int)).toNat = 5 from rfl] at n9a)
                      replace p146 := eq_true p146
                      replace q146 := eq_true q146
                      have p147 : 0 ≤ (4 : Int) := (by omega)
                      have q147 : 4 < (a9a.length : Int) := of_decide_eq_true (by first | (with_reducible assumption) | assumption)
                      obtain ⟨ad147, e147, o9a⟩ := Kd.at_int (Kd.R_reads' c9a.out).2.2 4 p147 q147
                      obtain rfl : d9a = ad147 := (by injection e147)
                      (try simp only [show (4 : Int).toNat = 4 from rfl, Nat.reduceMul, Nat.reduceEqDiff, Go.Addr.add, ↓reduceIte] at o9a)
                      have qi147 : (4 < a9a.length) = True := eq_true (by omega)
                      (try rw [show ((4 : Int)).toNat = 4 from rfl] at o9a)
                      replace p147 := eq_true p147
                      replace q147 := eq_true q147
                      have p148 : 0 ≤ (6 : Int) := (by omega)
                      have q148 : 6 < (a9a.length : Int) := of_decide_eq_true (by first | (with_reducible assumption) | assumption)
                      obtain ⟨ad148, e148, p9a⟩ := Kd.at_int (Kd.R_reads' c9a.out).2.2 6 p148 q148
                      obtain rfl : d9a = ad148 := (by injection e148)
                      (try simp only [show (6 : Int).toNat = 6 from rfl, Nat.reduceMul, Nat.reduceEqDiff, Go.Addr.add, ↓reduceIte] at p9a)
                      have qi148 : (6 < a9a.length) = True := eq_true (by omega)
                      (try rw [show ((6 : Int)).toNat = 6 from rfl] at p9a)
                      replace p148 := eq_true p148
                      replace q148 := eq_true q148
                      have p149 : 0 ≤ (b9a : Int) := of_decide_eq_true (by first | (with_reducible assumption) | assumption)
                      have q149 : b9a < (l1.length : Int) := of_decide_eq_true (by first | (with_reducible assumption) | assumption)
                      obtain ⟨ad149, e149, g9a⟩ := Kd.at_int HR1.out b9a p149 q149
                      have hw149_0 := g9a
                      cases e149
                      replace g9a := (HB.out.cell (World.block_lt_of_cell? w _ g9a)).trans g9a
                      replace p149 := eq_true p149
                      replace q149 := eq_true q149
                      obtain ⟨Ao74, co74, eo74⟩ := Kd.R_slice HO_7.out
                      (first | subst eo74 | (injection eo74 with f1_ f2_ f3_; have f4_ := f1_.symm; have f5_ := f3_.symm; clear f1_ f2_ f3_; subst f4_; subst f5_))
                      have p150 : 0 ≤ (b9a : Int) := of_decide_eq_true (by first | (with_reducible assumption) | assumption)
                      have q150 : b9a < (x7_2.length : Int) := of_decide_eq_true (by first | (with_reducible assumption) | assumption)
                      obtain ⟨ad150, e150, hx150_0⟩ := Kd.at_int (Kd.R_reads' HO_7.out).2.2 b9a p150 q150
                      cases e150
                      replace p150 := eq_true p150
                      replace q150 := eq_true q150
                      refine start_ (n := 33) (S := fun w' => w'.cell? ⟨d9a.block, d9a.off + 7, none⟩ = some (.int .u32 (rd a9a 7)) ∧ w'.cell? ⟨d9a.block, d9a.off + 4, none⟩ = some (.int .u32 (rd a9a 4)) ∧ w'.cell? ⟨d9a.block, d9a.off + 5, none⟩ = some (.int .u32 (rd a9a 5)) ∧ w'.cell? ⟨d9a.block, d9a.off + 4, none⟩ = some (.int .u32 (rd a9a 4)) ∧ w'.cell? ⟨d9a.block, d9a.off + 6, none⟩ = some (.int .u32 (rd a9a 6)) ∧ w'.cell? (ad149.add (b9a).toNat) = some (.int .u32 (rd l1 b9a)) ∧ w'.cell? (ad150.add (b9a).toNat) = some (.int .u32 (rd x7_2 b9a))) (ds := []) #[ff,ff,ff,ff,ff,ff,ff,ff,ff,ff,ff,ff,ff,ff,ff,ff,ff,ff,ff,ff,ff,ff,ff,ff,ff,ff,ff,ff,ff,ff,ff,ff,ff] (by kernel_rfl) rfl rfl ⟨l9a, m9a, n9a, o9a, p9a, ((HB.out.cell (World.block_lt_of_cell? w _ hw149_0)).trans hw149_0), hx150_0⟩ (fun hHeld => ?_); refine with_tabW spec_l2Block.tab17 spec_l2Block.bits17 (fun HT_ HW_ => ?_)
                      generalize w71.drew = w73 at HO_7 c9a HB l9a m9a n9a o9a p9a g9a hx150_0 hHeld ⊢
                      refine pu 0 140 (tb 33 1) HT_ ?_
                      refine pu 1 141 (tb 33 3) HT_ ?_
                      refine pu 3 143 (tb 33 11) HT_ ?_
                      refine pu 5 145 (tb 33 43) HT_ ?_
                      refine pu 6 146 (tb 33 107) HT_ ?_
                      refine pu 8 148 (tb 33 363) HT_ ?_
                      refine pu 9 149 (tb 33 875) HT_ ?_
                      refine pu 12 152 (tb 33 4971) HT_ ?_
                      refine pu 13 153 (tb 33 13163) HT_ ?_
                      refine pu 16 156 (tb 33 78699) HT_ ?_
                      refine pu 17 157 (tb 33 209771) HT_ ?_
                      refine pu 22 162 (tb 33 4404075) HT_ ?_
                      refine pu 23 163 (tb 33 12792683) HT_ ?_
                      refine pu 24 164 (tb 33 29569899) HT_ ?_
                      refine pu 27 167 (tb 33 163787627) HT_ ?_
                      refine pu 28 168 (tb 33 432223083) HT_ ?_
                      refine pu 29 169 (tb 33 969093995) HT_ ?_
                      refine tk 2 142 (tb 33 969093999) rfl rfl HT_ HW_ hHeld (by rintro w' ⟨s0, s1, s2, s3, s4, s5, s6⟩; go_simp; with_reducible rfl) ?_
                      refine pu 4 144 (tb 33 969094015) HT_ ?_
                      refine tk 7 147 (tb 33 969094143) rfl rfl HT_ HW_ hHeld (by rintro w' ⟨s0, s1, s2, s3, s4, s5, s6⟩; go_simp; with_reducible rfl) ?_
                      refine tk 10 150 (tb 33 969095167) rfl rfl HT_ HW_ hHeld (by rintro w' ⟨s0, s1, s2, s3, s4, s5, s6⟩; go_simp; with_reducible rfl) ?_
                      refine pu 11 151 (tb 33 969097215) HT_ ?_
                      refine tk 14 154 (tb 33 969113599) rfl rfl HT_ HW_ hHeld (by rintro w' ⟨s0, s1, s2, s3, s4, s5, s6⟩; go_simp; with_reducible rfl) ?_
                      refine pu 15 155 (tb 33 969146367) HT_ ?_
                      refine tk 18 158 (tb 33 969408511) rfl rfl HT_ HW_ hHeld (by rintro w' ⟨s0, s1, s2, s3, s4, s5, s6⟩; go_simp; with_reducible rfl) ?_
                      refine pu 19 159 (tb 33 969932799) HT_ ?_
                      refine pu 20 160 (tb 33 970981375) HT_ ?_
                      refine pu 21 161 (tb 33 973078527) HT_ ?_
                      refine tk 25 165 (tb 33 1006632959) rfl rfl HT_ HW_ hHeld (by rintro w' ⟨s0, s1, s2, s3, s4, s5, s6⟩; go_simp; with_reducible rfl) ?_
                      refine pu 26 166 (tb 33 1073741823) HT_ ?_
                      refine tk 30 170 (tb 33 2147483647) rfl rfl HT_ HW_ hHeld (by rintro w' ⟨s0, s1, s2, s3, s4, s5, s6⟩; go_simp; with_reducible rfl) ?_
                      refine pu 31 171 (tb 33 4294967295) HT_ ?_
                      refine pu 32 15 (tb 33 8589934591) HT_ ?_
                      refine done_ (done_of HT_.out (by kernel_rfl)) ?_
                      try go_wp2
                      have n0_ := Aside0.mk (Kd.R_drew HO_7.out)
                      have n1_ := Aside0.mk (Kd.R_drew c9a.out)
                      have n2_ := Aside0.mk (below_drew1 HB.out)
                      clear HO_7 c9a HB; have HO_7 := n0_; have c9a := n1_; have HB := n2_; clear n0_ n1_ n2_; have p151 : 0 ≤ (0 : Int) := (by omega)
                      have q151 : 0 < (a9a.length : Int) := of_decide_eq_true (by first | (with_reducible assumption) | assumption)
                      obtain ⟨ad151, e151, q9a⟩ := Kd.at_int (Kd.R_reads' c9a.out).2.2 0 p151 q151
                      obtain rfl : d9a = ad151 := (by injection e151)
                      have qi151 : (0 < a9a.length) = True := eq_true (by omega)
                      (try rw [show ((0 : Int)).toNat = 0 from rfl] at q9a)
                      (try rw [Addr.add_zero'] at q9a)
                      replace p151 := eq_true p151
                      replace q151 := eq_true q151
                      have p153 : 0 ≤ (0 : Int) := (by omega)
                      have q153 : 0 < (a9a.length : Int) := of_decide_eq_true (by first | (with_reducible assumption) | assumption)
                      obtain ⟨ad153, e153, r9a⟩ := Kd.at_int (Kd.R_reads' c9a.out).2.2 0 p153 q153
                      obtain rfl : d9a = ad153 := (by injection e153)
                      have qi153 : (0 < a9a.length) = True := eq_true (by omega)
                      (try rw [show ((0 : Int)).toNat = 0 from rfl] at r9a)
                      (try rw [Addr.add_zero'] at r9a)
                      replace p153 := eq_true p153
                      replace q153 := eq_true q153
                      have p155 : 0 ≤ (0 : Int) := (by omega)
                      have q155 : 0 < (a9a.length : Int) := of_decide_eq_true (by first | (with_reducible assumption) | assumption)
                      obtain ⟨ad155, e155, s9a⟩ := Kd.at_int (Kd.R_reads' c9a.out).2.2 0 p155 q155
                      obtain rfl : d9a = ad155 := (by injection e155)
                      have qi155 : (0 < a9a.length) = True := eq_true (by omega)
                      (try rw [show ((0 : Int)).toNat = 0 from rfl] at s9a)
                      (try rw [Addr.add_zero'] at s9a)
                      replace p155 := eq_true p155
                      replace q155 := eq_true q155
                      refine start_ (n := 15) (S := fun w' => w'.cell? d9a = some (.int .u32 (rd a9a 0)) ∧ w'.cell? d9a = some (.int .u32 (rd a9a 0)) ∧ w'.cell? d9a = some (.int .u32 (rd a9a 0))) (ds := []) #[ff,ff,ff,ff,ff,ff,ff,ff,ff,ff,ff,ff,ff,ff,ff] (by kernel_rfl) rfl rfl ⟨q9a, r9a, s9a⟩ (fun hHeld => ?_); refine with_tabW spec_l2Block.tab18 spec_l2Block.bits18 (fun HT_ HW_ => ?_)
                      generalize w73.drew = w75 at HO_7 c9a HB q9a r9a s9a hHeld ⊢
                      refine pu 0 172 (tb 15 1) HT_ ?_
                      refine pu 1 173 (tb 15 3) HT_ ?_
                      refine pu 4 176 (tb 15 19) HT_ ?_
                      refine pu 5 177 (tb 15 51) HT_ ?_
                      refine pu 9 181 (tb 15 563) HT_ ?_
                      refine pu 10 182 (tb 15 1587) HT_ ?_
                      refine tk 2 174 (tb 15 1591) rfl rfl HT_ HW_ hHeld (by rintro w' ⟨s0, s1, s2⟩; go_simp; with_reducible rfl) ?_
                      refine tk 6 178 (tb 15 1655) rfl rfl HT_ HW_ hHeld (by rintro w' ⟨s0, s1, s2⟩; go_simp; with_reducible rfl) ?_
                      refine tk 11 183 (tb 15 3703) rfl rfl HT_ HW_ hHeld (by rintro w' ⟨s0, s1, s2⟩; go_simp; with_reducible rfl) ?_
                      refine one_ (i := 3) (N := some 175) #[tt,tt,tt,tt,tt,tt,tt,ff,ff,tt,tt,tt,ff,ff,ff] rfl rfl (one_of HT_.out (by kernel_rfl)) (by decide) (fun K hK => ?_)
                      refine goes_ Tryd.func66 (by kernel_rfl) rfl #[.int .u32 (rd a9a 0), .int .i64 2] (by rfl) rfl rfl (by (try simp only [List.map_toArray, List.map_cons, List.map_nil]); first | done | rfl | (simp only [List.length_drop, List.length_take]; rfl)) ?_
                      with_reducible refine (spec_l2Turn.calls (rd a9a 0) 2 t152 _ A65.out).mono ?_
                      rintro e w' ⟨rfl, ⟨nd, rfl⟩⟩
                      refine ⟨_, rfl, ?_⟩
                      refine hK.out _ _ ⟨hHeld.1, hHeld.2.1, hHeld.2.2⟩ (fun hHeld => ?_)
                      clear hK K; refine norm_ (a' := ?_) ?_ ?_
                      rotate_left
                      ·show Act.put _ (some 175) _ = _
                       simp only [putL, i64_w, i32_w]; rfl
                      refine one_ (i := 7) (N := some 179) #[tt,tt,tt,tt,tt,tt,tt,tt,ff,tt,tt,tt,ff,ff,ff] rfl rfl (one_of HT_.out (by kernel_rfl)) (by decide) (fun K hK => ?_)
                      refine goes_ Tryd.func66 (by kernel_rfl) rfl #[.int .u32 (rd a9a 0), .int .i64 13] (by rfl) rfl rfl (by (try simp only [List.map_toArray, List.map_cons, List.map_nil]); first | done | rfl | (simp only [List.length_drop, List.length_take]; rfl)) ?_
                      with_reducible refine (spec_l2Turn.calls (rd a9a 0) 13 t154 _ A66.out).mono ?_
                      rintro e w' ⟨rfl, ⟨nd, rfl⟩⟩
                      refine ⟨_, rfl, ?_⟩
                      refine hK.out _ _ ⟨hHeld.1, hHeld.2.1, hHeld.2.2⟩ (fun hHeld => ?_)
                      clear hK K; refine norm_ (a' := ?_) ?_ ?_
                      rotate_left
                      ·show Act.put _ (some 179) _ = _
                       simp only [putL, i64_w, i32_w]; rfl
                      refine pu 8 180 (tb 15 4095) HT_ ?_
                      refine one_ (i := 12) (N := some 184) #[tt,tt,tt,tt,tt,tt,tt,tt,tt,tt,tt,tt,tt,ff,ff] rfl rfl (one_of HT_.out (by kernel_rfl)) (by decide) (fun K hK => ?_)
                      refine goes_ Tryd.func66 (by kernel_rfl) rfl #[.int .u32 (rd a9a 0), .int .i64 22] (by rfl) rfl rfl (by (try simp only [List.map_toArray, List.map_cons, List.map_nil]); first | done | rfl | (simp only [List.length_drop, List.length_take]; rfl)) ?_
                      with_reducible refine (spec_l2Turn.calls (rd a9a 0) 22 t156 _ A67.out).mono ?_
                      rintro e w' ⟨rfl, ⟨nd, rfl⟩⟩
                      refine ⟨_, rfl, ?_⟩
                      refine hK.out _ _ ⟨hHeld.1, hHeld.2.1, hHeld.2.2⟩ (fun hHeld => ?_)
                      clear hK K; refine norm_ (a' := ?_) ?_ ?_
                      rotate_left
                      ·show Act.put _ (some 184) _ = _
                       simp only [putL, i64_w, i32_w]; rfl
                      refine pu 13 185 (tb 15 16383) HT_ ?_
                      refine pu 14 16 (tb 15 32767) HT_ ?_
                      refine done_ (done_of HT_.out (by kernel_rfl)) ?_
                      try go_wp2
                      (try (rw [drewN_self w75]; generalize hq_ : World.drewN w75 _ = w75; have n0_ : Aside0 (Kd.R (Kd.int .u32) 59 w75 w.heap.size (fun k_ => some k_ ≠ (.slice (some ad150) x7_2.length co74 : Value).ownBlock) (.slice (some d9a) a9a.length co72) a9a) := ⟨by rw [← hq_]; exact (rr c9a)⟩; have n1_ : Aside0 (Kd.R (Kd.int .u32) 59 w75 w.heap.size (fun k_ => some k_ ≠ (.slice (some d9a) a9a.length co72 : Value).ownBlock) (.slice (some ad150) x7_2.length co74) x7_2) := ⟨by rw [← hq_]; exact (rr HO_7)⟩; have n2_ : Aside0 (Below w.heap.size w w75) := ⟨by rw [← hq_]; exact (be HB)⟩; clear c9a HO_7 HB hq_; have c9a := n0_; have HO_7 := n1_; have HB := n2_; clear n0_ n1_ n2_))
                      have n0_ := Aside0.mk (Kd.R_drew HO_7.out)
                      have n1_ := Aside0.mk (Kd.R_drew c9a.out)
                      have n2_ := Aside0.mk (below_drew1 HB.out)
                      clear HO_7 c9a HB; have HO_7 := n0_; have c9a := n1_; have HB := n2_; clear n0_ n1_ n2_; have p157 : 0 ≤ (0 : Int) := (by omega)
                      have q157 : 0 < (a9a.length : Int) := of_decide_eq_true (by first | (with_reducible assumption) | assumption)
                      obtain ⟨ad157, e157, t9a⟩ := Kd.at_int (Kd.R_reads' c9a.out).2.2 0 p157 q157
                      obtain rfl : d9a = ad157 := (by injection e157)
                      have qi157 : (0 < a9a.length) = True := eq_true (by omega)
                      (try rw [show ((0 : Int)).toNat = 0 from rfl] at t9a)
                      (try rw [Addr.add_zero'] at t9a)
                      replace p157 := eq_true p157
                      replace q157 := eq_true q157
                      have p158 : 0 ≤ (1 : Int) := (by omega)
                      have q158 : 1 < (a9a.length : Int) := of_decide_eq_true (by first | (with_reducible assumption) | assumption)
                      obtain ⟨ad158, e158, u9a⟩ := Kd.at_int (Kd.R_reads' c9a.out).2.2 1 p158 q158
                      obtain rfl : d9a = ad158 := (by injection e158)
                      (try simp only [show (1 : Int).toNat = 1 from rfl, Nat.reduceMul, Nat.reduceEqDiff, Go.Addr.add, ↓reduceIte] at u9a)
                      have qi158 : (1 < a9a.length) = True := eq_true (by omega)
                      (try rw [show ((1 : Int)).toNat = 1 from rfl] at u9a)
                      replace p158 := eq_true p158
                      replace q158 := eq_true q158
                      have p159 : 0 ≤ (0 : Int) := (by omega)
                      have q159 : 0 < (a9a.length : Int) := of_decide_eq_true (by first | (with_reducible assumption) | assumption)
                      obtain ⟨ad159, e159, v9a⟩ := Kd.at_int (Kd.R_reads' c9a.out).2.2 0 p159 q159
                      obtain rfl : d9a = ad159 := (by injection e159)
                      have qi159 : (0 < a9a.length) = True := eq_true (by omega)
                      (try rw [show ((0 : Int)).toNat = 0 from rfl] at v9a)
                      (try rw [Addr.add_zero'] at v9a)
                      replace p159 := eq_true p159
                      replace q159 := eq_true q159
                      have p160 : 0 ≤ (2 : Int) := (by omega)
                      have q160 : 2 < (a9a.length : Int) := of_decide_eq_true (by first | (with_reducible assumption) | assumption)
                      obtain ⟨ad160, e160, w9a⟩ := Kd.at_int (Kd.R_reads' c9a.out).2.2 2 p160 q160
                      obtain rfl : d9a = ad160 := (by injection e160)
                      (try simp only [show (2 : Int).toNat = 2 from rfl, Nat.reduceMul, Nat.reduceEqDiff, Go.Addr.add, ↓reduceIte] at w9a)
                      have qi160 : (2 < a9a.length) = True := eq_true (by omega)
                      (try rw [show ((2 : Int)).toNat = 2 from rfl] at w9a)
                      replace p160 := eq_true p160
                      replace q160 := eq_true q160
                      have p161 : 0 ≤ (1 : Int) := (by omega)
                      have q161 : 1 < (a9a.length : Int) := of_decide_eq_true (by first | (with_reducible assumption) | assumption)
                      obtain ⟨ad161, e161, x9a⟩ := Kd.at_int (Kd.R_reads' c9a.out).2.2 1 p161 q161
                      obtain rfl : d9a = ad161 := (by injection e161)
                      (try simp only [show (1 : Int).toNat = 1 from rfl, Nat.reduceMul, Nat.reduceEqDiff, Go.Addr.add, ↓reduceIte] at x9a)
                      have qi161 : (1 < a9a.length) = True := eq_true (by omega)
                      (try rw [show ((1 : Int)).toNat = 1 from rfl] at x9a)
                      replace p161 := eq_true p161
                      replace q161 := eq_true q161
                      have p162 : 0 ≤ (2 : Int) := (by omega)
                      have q162 : 2 < (a9a.length : Int) := of_decide_eq_true (by first | (with_reducible assumption) | assumption)
                      obtain ⟨ad162, e162, y9a⟩ := Kd.at_int (Kd.R_reads' c9a.out).2.2 2 p162 q162
                      obtain rfl : d9a = ad162 := (by injection e162)
                      (try simp only [show (2 : Int).toNat = 2 from rfl, Nat.reduceMul, Nat.reduceEqDiff, Go.Addr.add, ↓reduceIte] at y9a)
                      have qi162 : (2 < a9a.length) = True := eq_true (by omega)
                      (try rw [show ((2 : Int)).toNat = 2 from rfl] at y9a)
                      replace p162 := eq_true p162
                      replace q162 := eq_true q162
                      refine start_ (n := 26) (S := fun w' => w'.cell? d9a = some (.int .u32 (rd a9a 0)) ∧ w'.cell? ⟨d9a.block, d9a.off + 1, none⟩ = some (.int .u32 (rd a9a 1)) ∧ w'.cell? d9a = some (.int .u32 (rd a9a 0)) ∧ w'.cell? ⟨d9a.block, d9a.off + 2, none⟩ = some (.int .u32 (rd a9a 2)) ∧ w'.cell? ⟨d9a.block, d9a.off + 1, none⟩ = some (.int .u32 (rd a9a 1)) ∧ w'.cell? ⟨d9a.block, d9a.off + 2, none⟩ = some (.int .u32 (rd a9a 2))) (ds := []) #[ff,ff,ff,ff,ff,ff,ff,ff,ff,ff,ff,ff,ff,ff,ff,ff,ff,ff,ff,ff,ff,ff,ff,ff,ff,ff] (by kernel_rfl) rfl rfl ⟨t9a, u9a, v9a, w9a, x9a, y9a⟩ (fun hHeld => ?_); refine with_tabW spec_l2Block.tab19 spec_l2Block.bits19 (fun HT_ HW_ => ?_)
                      generalize w75.drew = w76 at HO_7 c9a HB t9a u9a v9a w9a x9a y9a hHeld ⊢
                      refine pu 0 186 (tb 26 1) HT_ ?_
                      refine pu 1 187 (tb 26 3) HT_ ?_
                      refine pu 2 188 (tb 26 7) HT_ ?_
                      refine pu 4 190 (tb 26 23) HT_ ?_
                      refine pu 5 191 (tb 26 55) HT_ ?_
                      refine pu 8 194 (tb 26 311) HT_ ?_
                      refine pu 9 195 (tb 26 823) HT_ ?_
                      refine pu 11 197 (tb 26 2871) HT_ ?_
                      refine pu 12 198 (tb 26 6967) HT_ ?_
                      refine pu 16 202 (tb 26 72503) HT_ ?_
                      refine pu 17 203 (tb 26 203575) HT_ ?_
                      refine pu 19 205 (tb 26 727863) HT_ ?_
                      refine pu 20 206 (tb 26 1776439) HT_ ?_
                      refine tk 3 189 (tb 26 1776447) rfl rfl HT_ HW_ hHeld (by rintro w' ⟨s0, s1, s2, s3, s4, s5⟩; go_simp; with_reducible rfl) ?_
                      refine tk 6 192 (tb 26 1776511) rfl rfl HT_ HW_ hHeld (by rintro w' ⟨s0, s1, s2, s3, s4, s5⟩; go_simp; with_reducible rfl) ?_
                      refine pu 7 193 (tb 26 1776639) HT_ ?_
                      refine tk 10 196 (tb 26 1777663) rfl rfl HT_ HW_ hHeld (by rintro w' ⟨s0, s1, s2, s3, s4, s5⟩; go_simp; with_reducible rfl) ?_
                      refine tk 13 199 (tb 26 1785855) rfl rfl HT_ HW_ hHeld (by rintro w' ⟨s0, s1, s2, s3, s4, s5⟩; go_simp; with_reducible rfl) ?_
                      refine pu 14 200 (tb 26 1802239) HT_ ?_
                      refine pu 15 201 (tb 26 1835007) HT_ ?_
                      refine tk 18 204 (tb 26 2097151) rfl rfl HT_ HW_ hHeld (by rintro w' ⟨s0, s1, s2, s3, s4, s5⟩; go_simp; with_reducible rfl) ?_
                      refine tk 21 207 (tb 26 4194303) rfl rfl HT_ HW_ hHeld (by rintro w' ⟨s0, s1, s2, s3, s4, s5⟩; go_simp; with_reducible rfl) ?_
                      refine pu 22 208 (tb 26 8388607) HT_ ?_
                      refine pu 23 209 (tb 26 16777215) HT_ ?_
                      refine pu 24 210 (tb 26 33554431) HT_ ?_
                      refine pu 25 17 (tb 26 67108863) HT_ ?_
                      refine done_ (done_of HT_.out (by kernel_rfl)) ?_
                      try go_wp2
                      have n0_ := Aside0.mk (Kd.R_drew HO_7.out)
                      have n1_ := Aside0.mk (Kd.R_drew c9a.out)
                      have n2_ := Aside0.mk (below_drew1 HB.out)
                      clear HO_7 c9a HB; have HO_7 := n0_; have c9a := n1_; have HB := n2_; clear n0_ n1_ n2_; have p163 : 0 ≤ (0 : Int) := (by omega)
                      have q163 : 0 < (a9a.length : Int) := of_decide_eq_true (by first | (with_reducible assumption) | assumption)
                      obtain ⟨ad163, e163, z9a⟩ := Kd.at_int (Kd.R_reads' c9a.out).2.2 0 p163 q163
                      obtain rfl : d9a = ad163 := (by injection e163)
                      have qi163 : (0 < a9a.length) = True := eq_true (by omega)
                      (try rw [show ((0 : Int)).toNat = 0 from rfl] at z9a)
                      (try rw [Addr.add_zero'] at z9a)
                      replace p163 := eq_true p163
                      replace q163 := eq_true q163
                      have p164 : 0 ≤ (1 : Int) := (by omega)
                      have q164 : 1 < (a9a.length : Int) := of_decide_eq_true (by first | (with_reducible assumption) | assumption)
                      obtain ⟨ad164, e164, A9a⟩ := Kd.at_int (Kd.R_reads' c9a.out).2.2 1 p164 q164
                      obtain rfl : d9a = ad164 := (by injection e164)
                      (try simp only [show (1 : Int).toNat = 1 from rfl, Nat.reduceMul, Nat.reduceEqDiff, Go.Addr.add, ↓reduceIte] at A9a)
                      have qi164 : (1 < a9a.length) = True := eq_true (by omega)
                      (try rw [show ((1 : Int)).toNat = 1 from rfl] at A9a)
                      replace p164 := eq_true p164
                      replace q164 := eq_true q164
                      have p165 : 0 ≤ (2 : Int) := (by omega)
                      have q165 : 2 < (a9a.length : Int) := of_decide_eq_true (by first | (with_reducible assumption) | assumption)
                      obtain ⟨ad165, e165, B9a⟩ := Kd.at_int (Kd.R_reads' c9a.out).2.2 2 p165 q165
                      obtain rfl : d9a = ad165 := (by injection e165)
                      (try simp only [show (2 : Int).toNat = 2 from rfl, Nat.reduceMul, Nat.reduceEqDiff, Go.Addr.add, ↓reduceIte] at B9a)
                      have qi165 : (2 < a9a.length) = True := eq_true (by omega)
                      (try rw [show ((2 : Int)).toNat = 2 from rfl] at B9a)
                      replace p165 := eq_true p165
                      replace q165 := eq_true q165
                      have p166 : 0 ≤ (3 : Int) := (by omega)
                      have q166 : 3 < (a9a.length : Int) := of_decide_eq_true (by first | (with_reducible assumption) | assumption)
                      obtain ⟨ad166, e166, C9a⟩ := Kd.at_int (Kd.R_reads' c9a.out).2.2 3 p166 q166
                      obtain rfl : d9a = ad166 := (by injection e166)
                      (try simp only [show (3 : Int).toNat = 3 from rfl, Nat.reduceMul, Nat.reduceEqDiff, Go.Addr.add, ↓reduceIte] at C9a)
                      have qi166 : (3 < a9a.length) = True := eq_true (by omega)
                      (try rw [show ((3 : Int)).toNat = 3 from rfl] at C9a)
                      replace p166 := eq_true p166
                      replace q166 := eq_true q166
                      have p167 : 0 ≤ (4 : Int) := (by omega)
                      have q167 : 4 < (a9a.length : Int) := of_decide_eq_true (by first | (with_reducible assumption) | assumption)
                      obtain ⟨ad167, e167, D9a⟩ := Kd.at_int (Kd.R_reads' c9a.out).2.2 4 p167 q167
                      obtain rfl : d9a = ad167 := (by injection e167)
                      (try simp only [show (4 : Int).toNat = 4 from rfl, Nat.reduceMul, Nat.reduceEqDiff, Go.Addr.add, ↓reduceIte] at D9a)
                      have qi167 : (4 < a9a.length) = True := eq_true (by omega)
                      (try rw [show ((4 : Int)).toNat = 4 from rfl] at D9a)
                      replace p167 := eq_true p167
                      replace q167 := eq_true q167
                      have p168 : 0 ≤ (5 : Int) := (by omega)
                      have q168 : 5 < (a9a.length : Int) := of_decide_eq_true (by first | (with_reducible assumption) | assumption)
                      obtain ⟨ad168, e168, E9a⟩ := Kd.at_int (Kd.R_reads' c9a.out).2.2 5 p168 q168
                      obtain rfl : d9a = ad168 := (by injection e168)
                      (try simp only [show (5 : Int).toNat = 5 from rfl, Nat.reduceMul, Nat.reduceEqDiff, Go.Addr.add, ↓reduceIte] at E9a)
                      have qi168 : (5 < a9a.length) = True := eq_true (by omega)
                      (try rw [show ((5 : Int)).toNat = 5 from rfl] at E9a)
                      replace p168 := eq_true p168
                      replace q168 := eq_true q168
                      have p169 : 0 ≤ (6 : Int) := (by omega)
                      have q169 : 6 < (a9a.length : Int) := of_decide_eq_true (by first | (with_reducible assumption) | assumption)
                      obtain ⟨ad169, e169, F9a⟩ := Kd.at_int (Kd.R_reads' c9a.out).2.2 6 p169 q169
                      obtain rfl : d9a = ad169 := (by injection e169)
                      (try simp only [show (6 : Int).toNat = 6 from rfl, Nat.reduceMul, Nat.reduceEqDiff, Go.Addr.add, ↓reduceIte] at F9a)
                      have qi169 : (6 < a9a.length) = True := eq_true (by omega)
                      (try rw [show ((6 : Int)).toNat = 6 from rfl] at F9a)
                      replace p169 := eq_true p169
                      replace q169 := eq_true q169
                      refine start_ (n := 28) (S := fun w' => w'.cell? d9a = some (.int .u32 (rd a9a 0)) ∧ w'.cell? ⟨d9a.block, d9a.off + 1, none⟩ = some (.int .u32 (rd a9a 1)) ∧ w'.cell? ⟨d9a.block, d9a.off + 2, none⟩ = some (.int .u32 (rd a9a 2)) ∧ w'.cell? ⟨d9a.block, d9a.off + 3, none⟩ = some (.int .u32 (rd a9a 3)) ∧ w'.cell? ⟨d9a.block, d9a.off + 4, none⟩ = some (.int .u32 (rd a9a 4)) ∧ w'.cell? ⟨d9a.block, d9a.off + 5, none⟩ = some (.int .u32 (rd a9a 5)) ∧ w'.cell? ⟨d9a.block, d9a.off + 6, none⟩ = some (.int .u32 (rd a9a 6))) (ds := []) #[ff,ff,ff,ff,ff,ff,ff,ff,ff,ff,ff,ff,ff,ff,ff,ff,ff,ff,ff,ff,ff,ff,ff,ff,ff,ff,ff,ff] (by kernel_rfl) rfl rfl ⟨z9a, A9a, B9a, C9a, D9a, E9a, F9a⟩ (fun hHeld => ?_); refine with_tabW spec_l2Block.tab20 spec_l2Block.bits20 (fun HT_ HW_ => ?_)
                      generalize w76.drew = w77 at HO_7 c9a HB z9a A9a B9a C9a D9a E9a F9a hHeld ⊢
                      refine pu 0 211 (tb 28 1) HT_ ?_
                      refine pu 1 212 (tb 28 3) HT_ ?_
                      refine pu 2 213 (tb 28 7) HT_ ?_
                      refine pu 3 214 (tb 28 15) HT_ ?_
                      refine pu 4 215 (tb 28 31) HT_ ?_
                      refine pu 6 217 (tb 28 95) HT_ ?_
                      refine pu 7 218 (tb 28 223) HT_ ?_
                      refine pu 9 220 (tb 28 735) HT_ ?_
                      refine pu 10 221 (tb 28 1759) HT_ ?_
                      refine pu 12 223 (tb 28 5855) HT_ ?_
                      refine pu 13 224 (tb 28 14047) HT_ ?_
                      refine pu 15 226 (tb 28 46815) HT_ ?_
                      refine pu 17 228 (tb 28 177887) HT_ ?_
                      refine pu 18 229 (tb 28 440031) HT_ ?_
                      refine pu 20 231 (tb 28 1488607) HT_ ?_
                      refine pu 21 232 (tb 28 3585759) HT_ ?_
                      refine pu 23 234 (tb 28 11974367) HT_ ?_
                      refine pu 24 235 (tb 28 28751583) HT_ ?_
                      refine tk 5 216 (tb 28 28751615) rfl rfl HT_ HW_ hHeld (by rintro w' ⟨s0, s1, s2, s3, s4, s5, s6⟩; go_simp; with_reducible rfl) ?_
                      refine tk 8 219 (tb 28 28751871) rfl rfl HT_ HW_ hHeld (by rintro w' ⟨s0, s1, s2, s3, s4, s5, s6⟩; go_simp; with_reducible rfl) ?_
                      refine tk 11 222 (tb 28 28753919) rfl rfl HT_ HW_ hHeld (by rintro w' ⟨s0, s1, s2, s3, s4, s5, s6⟩; go_simp; with_reducible rfl) ?_
                      refine tk 14 225 (tb 28 28770303) rfl rfl HT_ HW_ hHeld (by rintro w' ⟨s0, s1, s2, s3, s4, s5, s6⟩; go_simp; with_reducible rfl) ?_
                      refine pu 16 227 (tb 28 28835839) HT_ ?_
                      refine tk 19 230 (tb 28 29360127) rfl rfl HT_ HW_ hHeld (by rintro w' ⟨s0, s1, s2, s3, s4, s5, s6⟩; go_simp; with_reducible rfl) ?_
                      refine tk 22 233 (tb 28 33554431) rfl rfl HT_ HW_ hHeld (by rintro w' ⟨s0, s1, s2, s3, s4, s5, s6⟩; go_simp; with_reducible rfl) ?_
                      refine tk 25 236 (tb 28 67108863) rfl rfl HT_ HW_ hHeld (by rintro w' ⟨s0, s1, s2, s3, s4, s5, s6⟩; go_simp; with_reducible rfl) ?_
                      refine one_ (i := 26) (N := some 237) #[tt,tt,tt,tt,tt,tt,tt,tt,tt,tt,tt,tt,tt,tt,tt,tt,tt,tt,tt,tt,tt,tt,tt,tt,tt,tt,tt,ff] rfl rfl (one_of HT_.out (by kernel_rfl)) (by decide) (fun K hK => ?_)
                      refine Kd.R_lit_step (Kd.int .u32) _ 59 ?hg (N := 237) ?hd (xs := ([((((((((((rd a9a 7) + (Go.bits .xor .u32 (Go.bits .xor .u32 t139 t141) t143)) % 4294967296) + (Go.bits .xor .u32 (Go.bits .and .u32 (rd a9a 4) (rd a9a 5)) (Go.bits .and .u32 (Go.bits .xor .u32 IntKind.u32.max (rd a9a 4)) (rd a9a 6)))) % 4294967296) + (rd l1 b9a)) % 4294967296) + (rd x7_2 b9a)) % 4294967296) + (((Go.bits .xor .u32 (Go.bits .xor .u32 t152 t154) t156) + (Go.bits .xor .u32 (Go.bits .xor .u32 (Go.bits .and .u32 (rd a9a 0) (rd a9a 1)) (Go.bits .and .u32 (rd a9a 0) (rd a9a 2))) (Go.bits .and .u32 (rd a9a 1) (rd a9a 2)))) % 4294967296)) % 4294967296, rd a9a 0, rd a9a 1, rd a9a 2, ((rd a9a 3) + (((((((((rd a9a 7) + (Go.bits .xor .u32 (Go.bits .xor .u32 t139 t141) t143)) % 4294967296) + (Go.bits .xor .u32 (Go.bits .and .u32 (rd a9a 4) (rd a9a 5)) (Go.bits .and .u32 (Go.bits .xor .u32 IntKind.u32.max (rd a9a 4)) (rd a9a 6)))) % 4294967296) + (rd l1 b9a)) % 4294967296) + (rd x7_2 b9a)) % 4294967296)) % 4294967296, rd a9a 4, rd a9a 5, rd a9a 6] : List Int)) (inner := [.int .u32 (((((((((((rd a9a 7) + (Go.bits .xor .u32 (Go.bits .xor .u32 t139 t141) t143)) % 4294967296) + (Go.bits .xor .u32 (Go.bits .and .u32 (rd a9a 4) (rd a9a 5)) (Go.bits .and .u32 (Go.bits .xor .u32 IntKind.u32.max (rd a9a 4)) (rd a9a 6)))) % 4294967296) + (rd l1 b9a)) % 4294967296) + (rd x7_2 b9a)) % 4294967296) + (((Go.bits .xor .u32 (Go.bits .xor .u32 t152 t154) t156) + (Go.bits .xor .u32 (Go.bits .xor .u32 (Go.bits .and .u32 (rd a9a 0) (rd a9a 1)) (Go.bits .and .u32 (rd a9a 0) (rd a9a 2))) (Go.bits .and .u32 (rd a9a 1) (rd a9a 2)))) % 4294967296)) % 4294967296), .int .u32 (rd a9a 0), .int .u32 (rd a9a 1), .int .u32 (rd a9a 2), .int .u32 (((rd a9a 3) + (((((((((rd a9a 7) + (Go.bits .xor .u32 (Go.bits .xor .u32 t139 t141) t143)) % 4294967296) + (Go.bits .xor .u32 (Go.bits .and .u32 (rd a9a 4) (rd a9a 5)) (Go.bits .and .u32 (Go.bits .xor .u32 IntKind.u32.max (rd a9a 4)) (rd a9a 6)))) % 4294967296) + (rd l1 b9a)) % 4294967296) + (rd x7_2 b9a)) % 4294967296)) % 4294967296), .int .u32 (rd a9a 4), .int .u32 (rd a9a 5), .int .u32 (rd a9a 6)]) (ok := fun _ => True) (okp := fun _ => True) ?hr ?hp (fun _ hk => hk) trivial (Below.refl _ _) (Nat.le_refl _) (by simp) ?_; (case hd => rfl); (case hg => rfl); (case hr => first | (go_simp; done) | (go_simp; rfl) | (go_simp; simp [IntKind.wrap_u32']; done)); (case hp => exact (Reps.one (show Kd.M (Kd.int .u32) _ _ _ (((((((((((rd a9a 7) + (Go.bits .xor .u32 (Go.bits .xor .u32 t139 t141) t143)) % 4294967296) + (Go.bits .xor .u32 (Go.bits .and .u32 (rd a9a 4) (rd a9a 5)) (Go.bits .and .u32 (Go.bits .xor .u32 IntKind.u32.max (rd a9a 4)) (rd a9a 6)))) % 4294967296) + (rd l1 b9a)) % 4294967296) + (rd x7_2 b9a)) % 4294967296) + (((Go.bits .xor .u32 (Go.bits .xor .u32 t152 t154) t156) + (Go.bits .xor .u32 (Go.bits .xor .u32 (Go.bits .and .u32 (rd a9a 0) (rd a9a 1)) (Go.bits .and .u32 (rd a9a 0) (rd a9a 2))) (Go.bits .and .u32 (rd a9a 1) (rd a9a 2)))) % 4294967296)) % 4294967296) [.int .u32 (((((((((((rd a9a 7) + (Go.bits .xor .u32 (Go.bits .xor .u32 t139 t141) t143)) % 4294967296) + (Go.bits .xor .u32 (Go.bits .and .u32 (rd a9a 4) (rd a9a 5)) (Go.bits .and .u32 (Go.bits .xor .u32 IntKind.u32.max (rd a9a 4)) (rd a9a 6)))) % 4294967296) + (rd l1 b9a)) % 4294967296) + (rd x7_2 b9a)) % 4294967296) + (((Go.bits .xor .u32 (Go.bits .xor .u32 t152 t154) t156) + (Go.bits .xor .u32 (Go.bits .xor .u32 (Go.bits .and .u32 (rd a9a 0) (rd a9a 1)) (Go.bits .and .u32 (rd a9a 0) (rd a9a 2))) (Go.bits .and .u32 (rd a9a 1) (rd a9a 2)))) % 4294967296)) % 4294967296)] from rfl) (Reps.one (show Kd.M (Kd.int .u32) _ _ _ (rd a9a 0) [.int .u32 (rd a9a 0)] from rfl) (Reps.one (show Kd.M (Kd.int .u32) _ _ _ (rd a9a 1) [.int .u32 (rd a9a 1)] from rfl) (Reps.one (show Kd.M (Kd.int .u32) _ _ _ (rd a9a 2) [.int .u32 (rd a9a 2)] from rfl) (Reps.one (show Kd.M (Kd.int .u32) _ _ _ (((rd a9a 3) + (((((((((rd a9a 7) + (Go.bits .xor .u32 (Go.bits .xor .u32 t139 t141) t143)) % 4294967296) + (Go.bits .xor .u32 (Go.bits .and .u32 (rd a9a 4) (rd a9a 5)) (Go.bits .and .u32 (Go.bits .xor .u32 IntKind.u32.max (rd a9a 4)) (rd a9a 6)))) % 4294967296) + (rd l1 b9a)) % 4294967296) + (rd x7_2 b9a)) % 4294967296)) % 4294967296) [.int .u32 (((rd a9a 3) + (((((((((rd a9a 7) + (Go.bits .xor .u32 (Go.bits .xor .u32 t139 t141) t143)) % 4294967296) + (Go.bits .xor .u32 (Go.bits .and .u32 (rd a9a 4) (rd a9a 5)) (Go.bits .and .u32 (Go.bits .xor .u32 IntKind.u32.max (rd a9a 4)) (rd a9a 6)))) % 4294967296) + (rd l1 b9a)) % 4294967296) + (rd x7_2 b9a)) % 4294967296)) % 4294967296)] from rfl) (Reps.one (show Kd.M (Kd.int .u32) _ _ _ (rd a9a 4) [.int .u32 (rd a9a 4)] from rfl) (Reps.one (show Kd.M (Kd.int .u32) _ _ _ (rd a9a 5) [.int .u32 (rd a9a 5)] from rfl) (Reps.one (show Kd.M (Kd.int .u32) _ _ _ (rd a9a 6) [.int .u32 (rd a9a 6)] from rfl) (Reps.none _ _))))))))))
                      intro v171 w78 ho79 hb hg_ hnew_
                      have HS0_ := (hb.cell (World.block_lt_of_cell? _ _ (hHeld.1))).trans (hHeld.1)
                      have HS1_ := (hb.cell (World.block_lt_of_cell? _ _ (hHeld.2.1))).trans (hHeld.2.1)
                      have HS2_ := (hb.cell (World.block_lt_of_cell? _ _ (hHeld.2.2.1))).trans (hHeld.2.2.1)
                      have HS3_ := (hb.cell (World.block_lt_of_cell? _ _ (hHeld.2.2.2.1))).trans (hHeld.2.2.2.1)
                      have HS4_ := (hb.cell (World.block_lt_of_cell? _ _ (hHeld.2.2.2.2.1))).trans (hHeld.2.2.2.2.1)
                      have HS5_ := (hb.cell (World.block_lt_of_cell? _ _ (hHeld.2.2.2.2.2.1))).trans (hHeld.2.2.2.2.2.1)
                      have HS6_ := (hb.cell (World.block_lt_of_cell? _ _ (hHeld.2.2.2.2.2.2))).trans (hHeld.2.2.2.2.2.2)
                      clear hg_ hnew_
                      (first | rw [← Ny170.out] at ho79 | (simp only [Int.reduceToNat] at ho79; rw [← Ny170.out] at ho79))
                      have n0_ := Aside0.mk (Kd.R_elder' (rr HO_7) (Kd.R_base ho79) hb)
                      have n1_ := Aside0.mk (Kd.R_elder' (rr c9a) (Kd.R_base ho79) hb)
                      have HO172 := Aside0.mk (Kd.R_lower (Kd.R_new' (Kd.R_new' ho79 (Kd.R_lt (rr HO_7))) (Kd.R_lt (rr c9a))) (below_size (be HB)))
                      replace HB := bh HB hb
                      clear HO_7 c9a; have HO_7 := n0_; have c9a := n1_; clear n0_ n1_; clear hb ho79; refine hK.out _ _ ⟨HS0_, HS1_, HS2_, HS3_, HS4_, HS5_, HS6_⟩ (fun hHeld => ?_)
                      clear hK K; refine norm_ (a' := ?_) ?_ ?_
                      rotate_left
                      ·show Act.put _ (some 237) _ = _
                       simp only [putL, i64_w, i32_w]; rfl
                      refine pu 27 12 (tb 28 268435455) HT_ ?_
                      refine done_ (done_of HT_.out (by kernel_rfl)) ?_
                      try go_wp2
                      go_roundg k3
                      case measure => have := HK1.out; have := HK2.out; have := HK3.out; omega
                      case rel => exact ⟨(y170), (wrap64 (b9a + 1)), (by first | rfl | (simp; done) | (simp [*]; done)), H', ⟨by have := HK1.out; have := HK2.out; have := HK3.out; omega⟩, ⟨by (with_reducible repeat (first | apply Kd.R_alloc | apply Kd.R_drewN | apply Kd.R_drew)); exact Kd.R_mono HO_7.out (fun _ hk => hk.2)⟩, ⟨by (with_reducible repeat (first | apply Kd.R_alloc | apply Kd.R_drewN | apply Kd.R_drew)); exact Kd.R_mono HO172.out (fun _ hk => hk.1.2)⟩, ⟨by repeat (first | (with_reducible first | exact HB.out | apply below_alloc | apply pw_below_drewN | apply below_drew1) | exact HB.out)⟩⟩
                     ·rw [if_neg c70] at H
                      exact absurd H (by simp)
                    ·rw [if_neg c69] at H
                     exact absurd H (by simp)
                   ·rw [if_neg c68] at H
                    exact absurd H (by simp)
                  ·rw [if_neg c64] at H
                   exact absurd H (by simp)
                 ·rw [if_neg c63] at H
                  exact absurd H (by simp)
                ·rw [if_neg c62] at H
                 exact absurd H (by simp)
               ·rw [if_neg c61] at H
                exact absurd H (by simp)
              ·rw [if_neg c60] at H
               exact absurd H (by simp)
             ·rw [if_neg c59] at H
              exact absurd H (by simp)
            ·rw [if_neg c58] at H
             exact absurd H (by simp)
           ·rw [if_neg c54] at H
            exact absurd H (by simp)
          ·rw [if_neg c53] at H
           have c53b0 : decide (b9a < 64) = false := decide_eq_false c53
           clear c53; obtain ⟨y173, hy173⟩ : ∃ y_ : List Int, y_ = (([] : List Int)) := ⟨_, rfl⟩
           replace H : (spec_l2Block.l3 k3 l0 a9a y173 0) = some r := by first | (rw [hy173]; with_reducible exact H) | (have H2_ := (Option.bind_some _ _).symm.trans H; rw [hy173]; with_reducible exact H2_) | (have H2_ := (Option.bind_some _ _).symm.trans H; with_reducible exact H2_) | with_reducible exact H | (rw [hy173]; exact H) | exact H
           have Ny173 := Aside0.mk hy173
           clear hy173; have H' := Aside0.mk H
           clear H
           go_wp2_with (first | ((with_reducible refine gate_dst (N := 238) rfl ?_); refine Kd.R_lit (Kd.int .u32) _ 59 ?hg (N := 238) ?hd (xs := ([] : List Int)) (inner := []) (ok := fun _ => True) (okp := fun _ => True) ?hr ?hp (fun _ hk => hk) trivial (Below.refl _ _) (Nat.le_refl _) (by simp) ?_; (case hd => rfl); (case hg => rfl); (case hr => first | (go_simp; done) | (go_simp; rfl) | (go_simp; simp [IntKind.wrap_u32']; done)); (case hp => exact (Reps.none _ _)); intro v174 w80 ho81 hb hg_ hnew_; clear hg_ hnew_; (first | rw [← Ny173.out] at ho81 | (simp only [Int.reduceToNat] at ho81; rw [← Ny173.out] at ho81)); have n0_ := Aside0.mk (Kd.R_elder' (rr HO_7) (Kd.R_base ho81) hb); have n1_ := Aside0.mk (Kd.R_elder' (rr c9a) (Kd.R_base ho81) hb); have HO175 := Aside0.mk (Kd.R_lower (Kd.R_new' (Kd.R_new' ho81 (Kd.R_lt (rr HO_7))) (Kd.R_lt (rr c9a))) (below_size (be HB))); replace HB := bh HB hb; clear HO_7 c9a; have HO_7 := n0_; have c9a := n1_; clear n0_ n1_; clear hb ho81))
           go_loopg [18, 19] k3 (fun kq v18 v19 w' => ∃ (H9a : List Int) (e9a : Int), v19 = .int .i64 e9a ∧ Aside0 (spec_l2Block.l3 kq l0 a9a H9a e9a = some r) ∧ Aside0 (kq ≤ k3) ∧ Aside0 (Kd.R (Kd.int .u32) 59 w' w.heap.size (fun k_ => some k_ ≠ (v18 : Value).ownBlock) u12 a9a) ∧ Aside0 (Kd.R (Kd.int .u32) 59 w' w.heap.size (fun k_ => some k_ ≠ (u12 : Value).ownBlock) v18 H9a) ∧ Aside0 (Below w.heap.size w w'))
           case atStart => exact ⟨(y173), (0), (by first | rfl | (simp; done) | (simp [*]; done)), H', ⟨Nat.le_refl _⟩, ⟨by (with_reducible repeat (first | apply Kd.R_alloc | apply Kd.R_drewN | apply Kd.R_drew)); exact Kd.R_mono c9a.out (fun _ hk => hk.2)⟩, ⟨by (with_reducible repeat (first | apply Kd.R_alloc | apply Kd.R_drewN | apply Kd.R_drew)); exact Kd.R_mono HO175.out (fun _ hk => hk.2)⟩, ⟨by repeat (first | (with_reducible first | exact HB.out | apply below_alloc | apply pw_below_drewN | apply below_drew1) | exact HB.out)⟩⟩
           case round =>
            clear H'
            obtain ⟨H9a, e9a, rfl, HA, HK4, c9a, G9a, HB⟩ := hrel
            cases gk with
            | zero => exact absurd HA.out (by simp [spec_l2Block.l3])
            | succ k4 =>
             have H := HA.out; clear HA; simp only [spec_l2Block.l3] at H
             by_cases c82 : e9a < 8
             ·rw [if_pos c82] at H
              have c82b0 : decide (e9a < 8) = true := decide_eq_true c82
              clear c82
              by_cases c83 : 0 ≤ e9a
              ·rw [if_pos c83] at H
               have c83b0 : decide (0 ≤ e9a) = true := decide_eq_true c83
               clear c83
               by_cases c84 : e9a < (l0.length : Int)
               ·rw [if_pos c84] at H
                have c84b0 : decide (e9a < (l0.length : Int)) = true := decide_eq_true c84
                clear c84
                by_cases c85 : e9a < (a9a.length : Int)
                ·rw [if_pos c85] at H
                 have c85b0 : decide (e9a < (a9a.length : Int)) = true := decide_eq_true c85
                 clear c85
                 by_cases c86 : H9a.length < 35184372088832
                 ·rw [if_pos c86] at H
                  have LMc86 := Aside0.mk c86
                  clear c86; obtain ⟨y178, hy178⟩ : ∃ y_ : List Int, y_ = (H9a ++ [((rd l0 e9a) + (rd a9a e9a)) % 4294967296]) := ⟨_, rfl⟩
                  replace H : (spec_l2Block.l3 k4 l0 a9a y178 (wrap64 (e9a + 1))) = some r := by first | (rw [hy178]; with_reducible exact H) | (have H2_ := (Option.bind_some _ _).symm.trans H; rw [hy178]; with_reducible exact H2_) | (have H2_ := (Option.bind_some _ _).symm.trans H; with_reducible exact H2_) | with_reducible exact H | (rw [hy178]; exact H) | exact H
                  have Ny178 := Aside0.mk hy178
                  clear hy178; have H' := Aside0.mk H
                  clear H
                  try go_wp2
                  have n0_ := Aside0.mk (Kd.R_drew c9a.out)
                  have n1_ := Aside0.mk (Kd.R_drew G9a.out)
                  have n2_ := Aside0.mk (below_drew1 HB.out)
                  clear c9a G9a HB; have c9a := n0_; have G9a := n1_; have HB := n2_; clear n0_ n1_ n2_; have p176 : 0 ≤ (e9a : Int) := of_decide_eq_true (by first | (with_reducible assumption) | assumption)
                  have q176 : e9a < (l0.length : Int) := of_decide_eq_true (by first | (with_reducible assumption) | assumption)
                  obtain ⟨ad176, e176, h9a⟩ := Kd.at_int HR0.out e9a p176 q176
                  have hw176_0 := h9a
                  cases e176
                  replace h9a := (HB.out.cell (World.block_lt_of_cell? w _ h9a)).trans h9a
                  replace p176 := eq_true p176
                  replace q176 := eq_true q176
                  obtain ⟨Ao88, co88, eo88⟩ := Kd.R_slice c9a.out
                  (first | subst eo88 | (injection eo88 with f1_ f2_ f3_; have f4_ := f1_.symm; have f5_ := f3_.symm; clear f1_ f2_ f3_; subst f4_; subst f5_))
                  have p177 : 0 ≤ (e9a : Int) := of_decide_eq_true (by first | (with_reducible assumption) | assumption)
                  have q177 : e9a < (a9a.length : Int) := of_decide_eq_true (by first | (with_reducible assumption) | assumption)
                  obtain ⟨ad177, e177, hx177_0⟩ := Kd.at_int (Kd.R_reads' c9a.out).2.2 e9a p177 q177
                  cases e177
                  replace p177 := eq_true p177
                  replace q177 := eq_true q177
                  refine start_ (n := 13) (S := fun w' => w'.cell? (ad176.add (e9a).toNat) = some (.int .u32 (rd l0 e9a)) ∧ w'.cell? (ad177.add (e9a).toNat) = some (.int .u32 (rd a9a e9a))) (ds := [10, 11]) #[ff,ff,ff,ff,ff,ff,ff,ff,ff,ff,ff,ff,ff] (by kernel_rfl) rfl rfl ⟨((HB.out.cell (World.block_lt_of_cell? w _ hw176_0)).trans hw176_0), hx177_0⟩ (fun hHeld => ?_); refine with_tabW spec_l2Block.tab25 spec_l2Block.bits25 (fun HT_ HW_ => ?_)
                  generalize wr.drew = w87 at c9a G9a HB h9a hx177_0 hHeld ⊢
                  refine pu 0 243 (tb 13 1) HT_ ?_
                  refine pu 1 244 (tb 13 3) HT_ ?_
                  refine pu 2 245 (tb 13 7) HT_ ?_
                  refine pu 3 246 (tb 13 15) HT_ ?_
                  refine pu 5 248 (tb 13 47) HT_ ?_
                  refine pu 6 249 (tb 13 111) HT_ ?_
                  refine pu 7 250 (tb 13 239) HT_ ?_
                  refine tk 4 247 (tb 13 255) rfl rfl HT_ HW_ hHeld (by rintro w' ⟨s0, s1⟩; go_simp; with_reducible rfl) ?_
                  refine tk 8 251 (tb 13 511) rfl rfl HT_ HW_ hHeld (by rintro w' ⟨s0, s1⟩; go_simp; with_reducible rfl) ?_
                  refine pu 9 252 (tb 13 1023) HT_ ?_
                  refine last_ (i := 10) (N := some 253) #[tt,tt,tt,tt,tt,tt,tt,tt,tt,tt,tt,ff,ff] rfl rfl (one_of HT_.out (by kernel_rfl)) (by decide) (fun K hK => ?_)
                  refine value_ (w1 := ?_) (v := ?_) (by rfl) rfl ?_ ?_
                  rotate_left 2
                  ·go_simp
                   constructor
                   ·rfl
                   ·rfl
                  refine hK.out _ _ ?_
                  clear hK K; refine norm_ (a' := ?_) ?_ ?_
                  rotate_left
                  ·show Act.put _ (some 253) _ = _
                   simp only [putL, i64_w, i32_w]; rfl
                  refine last_ (i := 11) (N := some 254) #[tt,tt,tt,tt,tt,tt,tt,tt,tt,tt,tt,tt,ff] rfl rfl (one_of HT_.out (by kernel_rfl)) (by decide) (fun K hK => ?_)
                  refine Kd.R_append_step (Kd.int .u32) (w0 := w) w.heap.size (by rfl) (.tmp 243) (.tmp 253) 55 59 (.int .u32 0) 4 rfl Tryd.underlying55 info59 rfl (by decide) (by omega) u18 H9a (((rd l0 e9a) + (rd a9a e9a)) % 4294967296) [.int .u32 (((rd l0 e9a) + (rd a9a e9a)) % 4294967296)] (fun k_ => some k_ ≠ (.slice (some ad177) a9a.length co88 : Value).ownBlock) (fun _ => False) rfl rfl ?aP (fun _ hk => hk.elim) ?aF ?aO ?aB ?aS ?aL ?_
                  (case aP => exact rfl)
                  (case aB => exact (be HB))
                  (case aF => exact (fun k_ hk => Kd.fresh' (Kd.R_lt (rr c9a)) k_ hk))
                  (case aO => exact (rr G9a))
                  (case aS => exact (below_size (be HB)))
                  (case aL => have := LMc86.out; omega)
                  intro v179 w89 ho hb hg hat
                  rw [← Ny178.out] at ho
                  have n0_ := Aside0.mk (Kd.R_after (ok := (fun _ => True)) (by (with_reducible repeat (first | apply Kd.R_alloc | apply Kd.R_drewN | apply Kd.R_drew)); exact Kd.R_mono c9a.out (fun _ hk => ⟨trivial, hk⟩)) hg hat)
                  have n1_ := Aside0.mk (hb)
                  have HO180 := Aside0.mk (ho)
                  clear G9a c9a HB; have c9a := n0_; have HB := n1_; clear n0_ n1_; clear ho hb hg hat; refine hK.out _ _ ?_
                  clear hK K; refine norm_ (a' := ?_) ?_ ?_
                  rotate_left
                  ·show Act.put _ (some 254) _ = _
                   simp only [putL, i64_w, i32_w]; rfl
                  refine pu 12 18 (tb 13 8191) HT_ ?_
                  refine done_ (done_of HT_.out (by kernel_rfl)) ?_
                  try go_wp2
                  go_roundg k4
                  case measure => have := HK1.out; have := HK2.out; have := HK3.out; have := HK4.out; omega
                  case rel => exact ⟨(y178), (wrap64 (e9a + 1)), (by first | rfl | (simp; done) | (simp [*]; done)), H', ⟨by have := HK1.out; have := HK2.out; have := HK3.out; have := HK4.out; omega⟩, ⟨by (with_reducible repeat (first | apply Kd.R_alloc | apply Kd.R_drewN | apply Kd.R_drew)); exact Kd.R_mono c9a.out (fun _ hk => hk.2)⟩, ⟨rr HO180⟩, ⟨by repeat (first | (with_reducible first | exact HB.out | apply below_alloc | apply pw_below_drewN | apply below_drew1) | exact HB.out)⟩⟩
                 ·rw [if_neg c86] at H
                  exact absurd H (by simp)
                ·rw [if_neg c85] at H
                 exact absurd H (by simp)
               ·rw [if_neg c84] at H
                exact absurd H (by simp)
              ·rw [if_neg c83] at H
               exact absurd H (by simp)
             ·rw [if_neg c82] at H
              have c82b0 : decide (e9a < 8) = false := decide_eq_false c82
              clear c82; obtain rfl := Option.some.inj H
              go_wp2
              go_ret
              exact ⟨_, by first | rfl | (simp [errW_none, errW_some] <;> rfl) | (simp [*, errW_none, errW_some] <;> rfl), by (with_reducible repeat (first | apply Kd.R_alloc | apply Kd.R_drewN | apply Kd.R_drew)); exact Kd.R_mono G9a.out (fun _ hk => trivial), by repeat (first | (with_reducible first | exact HB.out | apply below_alloc | apply pw_below_drewN | apply below_drew1) | exact HB.out)⟩
       ·rw [if_neg c49] at H
        exact absurd H (by simp)
end Go.Proofs.YtobkmpihjfiihaaDoor.PFnCanon
