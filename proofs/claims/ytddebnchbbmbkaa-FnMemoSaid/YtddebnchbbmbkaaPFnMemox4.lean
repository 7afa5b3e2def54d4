-- The machine side of a law: written by a program of this session (wip/tools), a turned print.
import Derived.Test.YtddebnchbbmbkaaPFnMemox0
import Derived.Test.YtddebnchbbmbkaaPFnMemox2
import Derived.Test.YtddebnchbbmbkaaPFnMemox3
namespace Go.Proofs.Ytddebnchbbmbkaa.PFnMemo
open Go.RowKit Go.Proofs.YtddebnchbbmbkaaW.PrintWords Go.Proofs.YtddebnchbbmbkaaW.PrintLast Go.Proofs.YtddebnchbbmbkaaW.PrintMore
attribute [local go_sem] max2_int min2_int max_two min_two max_three min_three max_four min_four   -- for this text's walks alone
set_option linter.unusedVariables false
set_option linter.unusedSimpArgs false
def spec_l1Below.f (s0_0 : List Int) (s0_1 : Int) (s0_2 : Int) (a1 : Int) : Option (Int × Int × Int) := if a1 ≤ 0 then (some (0, s0_1, s0_2)) else (if a1 ≤ 256 then ((spec_l1Byte.f s0_0 s0_1 s0_2).bind fun bt130 => (if a1 = 0 then (none) else (some (Int.tmod bt130.1 a1, bt130.2.1, bt130.2.2)))) else ((spec_l1Byte.f s0_0 s0_1 s0_2).bind fun bt133 => ((spec_l1Byte.f s0_0 bt133.2.1 bt133.2.2).bind fun bt136 => ((spec_l1Byte.f s0_0 bt136.2.1 bt136.2.2).bind fun bt139 => ((spec_l1Byte.f s0_0 bt139.2.1 bt139.2.2).bind fun bt142 => (if a1 = 0 then (none) else (some (Int.tmod (wrap64 ((wrap64 ((wrap64 ((wrap64 (bt133.1 * 16777216)) + (wrap64 (bt136.1 * 65536)))) + (wrap64 (bt139.1 * 256)))) + bt142.1)) a1, bt142.2.1, bt142.2.2))))))))
set_option maxHeartbeats 8000000 in
set_option maxRecDepth 100000 in
theorem spec_l1Below.calls (g : Nat) (s0_0 : List Int) (s0_1 : Int) (s0_2 : Int) (a1 : Int) (r1 : Int) (r2 : Int) (r3 : Int) (w0 w : World) (hI : IsS90 w0 w g s0_0 s0_1 s0_2) (hB : Below w0.heap.size w0 w) (h : spec_l1Below.f s0_0 s0_1 s0_2 a1 = some (r1, r2, r3)) :
  Calls Try.prog 65 #[.pointer (some ⟨g, 0, none⟩), .int .i64 a1] w fun e w' => e = .returned (.int .i64 r1) ∧ IsS90 w0 w' g s0_0 r2 r3 ∧ Below w0.heap.size w0 w' ∧ KeepBut w w' g none := by
 have HI0 := Aside0.mk hI
 have HK := Aside0.mk (KeepBut.refl w g none)
 have HL := Aside0.mk hB.size
 clear hI; have HW0 := Aside0.mk hB.size
 have HB := Aside0.mk hB
 clear hB; have H : (if a1 ≤ 0 then (some (0, s0_1, s0_2)) else (if a1 ≤ 256 then ((spec_l1Byte.f s0_0 s0_1 s0_2).bind fun bt130 => (if a1 = 0 then (none) else (some (Int.tmod bt130.1 a1, bt130.2.1, bt130.2.2)))) else ((spec_l1Byte.f s0_0 s0_1 s0_2).bind fun bt133 => ((spec_l1Byte.f s0_0 bt133.2.1 bt133.2.2).bind fun c9a => ((spec_l1Byte.f s0_0 c9a.2.1 c9a.2.2).bind fun b9a => ((spec_l1Byte.f s0_0 b9a.2.1 b9a.2.2).bind fun a9a => (if a1 = 0 then (none) else (some (Int.tmod (wrap64 ((wrap64 ((wrap64 ((wrap64 (bt133.1 * 16777216)) + (wrap64 (c9a.1 * 65536)))) + (wrap64 (b9a.1 * 256)))) + a9a.1)) a1, a9a.2.1, a9a.2.2))))))))) = some (r1, r2, r3) := h
 clear h
 by_cases c3 : a1 ≤ 0
 ·rw [if_pos c3] at H
  have c3b0 : decide (a1 ≤ 0) = true := decide_eq_true c3
  clear c3; simp only [Option.some.injEq, Prod.mk.injEq] at H
  obtain ⟨rfl, rfl, rfl⟩ := H
  go_enter Try.func65, Try.ntmps65
  go_wp2
  go_ret
  exact ⟨eR, iS HI0, iD HB, iK HK⟩
 ·rw [if_neg c3] at H
  have c3b0 : decide (a1 ≤ 0) = false := decide_eq_false c3
  clear c3
  by_cases c4 : a1 ≤ 256
  ·rw [if_pos c4] at H
   have c4b0 : decide (a1 ≤ 256) = true := decide_eq_true c4
   clear c4; replace H := Option.bind_eq_some_iff.mp H
   obtain ⟨⟨t130, t131, t132⟩, A50, H⟩ := H
   replace H : (if a1 = 0 then (none) else (some (Int.tmod t130 a1, t131, t132))) = some (r1, r2, r3) := H
   have A5 := Aside0.mk A50
   clear A50
   by_cases c6 : a1 = 0
   ·rw [if_pos c6] at H
    exact absurd H (by simp)
   ·rw [if_neg c6] at H
    have c6b0 : (a1 == 0) = false := beq_eq_false_iff_ne.mpr c6
    have c6b1 : (a1 != 0) = true := bne_iff_ne.mpr c6
    simp only [Option.some.injEq, Prod.mk.injEq] at H
    obtain ⟨rfl, rfl, rfl⟩ := H
    go_enter Try.func65, Try.ntmps65
    go_wp2_with (first | ((with_reducible refine gate_callee (f := 87) rfl ?_); refine goesC_ (some 14) Try.func87 #[.pointer (some ⟨g, 0, none⟩)] ?_; (with_reducible refine (spec_l1Byte.calls g s0_0 s0_1 s0_2 t130 t131 t132 w0 _ ?side1 ?side2 A5.out).mono ?_); (case side1 => exact iS HI0); (case side2 => exact iD HB); rintro e w7 ⟨rfl, hi, hb, hk⟩; refine ⟨_, rfl, ?_⟩; have n0_ := Aside0.mk (KeepBut.trans (iK HK) hk (.inl rfl)); have n1_ := Aside0.mk (hb); have n2_ := Aside0.mk (hi); clear HK HB HI0; have HK := n0_; have HB := n1_; have HI0 := n2_; clear n0_ n1_ n2_; (try clear hb); (try clear hb2); (try clear hk); (try clear hi)))
    go_ret
    exact ⟨eR, iS HI0, iD HB, iK HK⟩
  ·rw [if_neg c4] at H
   have c4b0 : decide (a1 ≤ 256) = false := decide_eq_false c4
   clear c4; replace H := Option.bind_eq_some_iff.mp H
   obtain ⟨⟨t133, t134, t135⟩, A80, H⟩ := H
   replace H : ((spec_l1Byte.f s0_0 t134 t135).bind fun c9a => ((spec_l1Byte.f s0_0 c9a.2.1 c9a.2.2).bind fun b9a => ((spec_l1Byte.f s0_0 b9a.2.1 b9a.2.2).bind fun a9a => (if a1 = 0 then (none) else (some (Int.tmod (wrap64 ((wrap64 ((wrap64 ((wrap64 (t133 * 16777216)) + (wrap64 (c9a.1 * 65536)))) + (wrap64 (b9a.1 * 256)))) + a9a.1)) a1, a9a.2.1, a9a.2.2)))))) = some (r1, r2, r3) := H
   have A8 := Aside0.mk A80
   clear A80; replace H := Option.bind_eq_some_iff.mp H
   obtain ⟨⟨t136, t137, t138⟩, A90, H⟩ := H
   replace H : ((spec_l1Byte.f s0_0 t137 t138).bind fun b9a => ((spec_l1Byte.f s0_0 b9a.2.1 b9a.2.2).bind fun a9a => (if a1 = 0 then (none) else (some (Int.tmod (wrap64 ((wrap64 ((wrap64 ((wrap64 (t133 * 16777216)) + (wrap64 (t136 * 65536)))) + (wrap64 (b9a.1 * 256)))) + a9a.1)) a1, a9a.2.1, a9a.2.2))))) = some (r1, r2, r3) := H
   have A9 := Aside0.mk A90
   clear A90; replace H := Option.bind_eq_some_iff.mp H
   obtain ⟨⟨t139, t140, t141⟩, A100, H⟩ := H
   replace H : ((spec_l1Byte.f s0_0 t140 t141).bind fun a9a => (if a1 = 0 then (none) else (some (Int.tmod (wrap64 ((wrap64 ((wrap64 ((wrap64 (t133 * 16777216)) + (wrap64 (t136 * 65536)))) + (wrap64 (t139 * 256)))) + a9a.1)) a1, a9a.2.1, a9a.2.2)))) = some (r1, r2, r3) := H
   have A10 := Aside0.mk A100
   clear A100; replace H := Option.bind_eq_some_iff.mp H
   obtain ⟨⟨t142, t143, t144⟩, A110, H⟩ := H
   replace H : (if a1 = 0 then (none) else (some (Int.tmod (wrap64 ((wrap64 ((wrap64 ((wrap64 (t133 * 16777216)) + (wrap64 (t136 * 65536)))) + (wrap64 (t139 * 256)))) + t142)) a1, t143, t144))) = some (r1, r2, r3) := H
   have A11 := Aside0.mk A110
   clear A110
   by_cases c12 : a1 = 0
   ·rw [if_pos c12] at H
    exact absurd H (by simp)
   ·rw [if_neg c12] at H
    have c12b0 : (a1 == 0) = false := beq_eq_false_iff_ne.mpr c12
    have c12b1 : (a1 != 0) = true := bne_iff_ne.mpr c12
    simp only [Option.some.injEq, Prod.mk.injEq] at H
    obtain ⟨rfl, rfl, rfl⟩ := H
    go_enter Try.func65, Try.ntmps65
    go_wp2_with (first | ((with_reducible refine gate_callee (f := 87) rfl ?_); refine goesC_ (some 18) Try.func87 #[.pointer (some ⟨g, 0, none⟩)] ?_; (with_reducible refine (spec_l1Byte.calls g s0_0 s0_1 s0_2 t133 t134 t135 w0 _ ?side1 ?side2 A8.out).mono ?_); (case side1 => exact iS HI0); (case side2 => exact iD HB); rintro e w13 ⟨rfl, hi, hb, hk⟩; refine ⟨_, rfl, ?_⟩; have n0_ := Aside0.mk (KeepBut.trans (iK HK) hk (.inl rfl)); have n1_ := Aside0.mk (hb); have n2_ := Aside0.mk (hi); clear HK HB HI0; have HK := n0_; have HB := n1_; have HI0 := n2_; clear n0_ n1_ n2_; (try clear hb); (try clear hb2); (try clear hk); (try clear hi)) | ((with_reducible refine gate_callee (f := 87) rfl ?_); refine goesC_ (some 20) Try.func87 #[.pointer (some ⟨g, 0, none⟩)] ?_; (with_reducible refine (spec_l1Byte.calls g s0_0 t134 t135 t136 t137 t138 w0 _ ?side1 ?side2 A9.out).mono ?_); (case side1 => exact iS HI0); (case side2 => exact iD HB); rintro e w14 ⟨rfl, hi, hb, hk⟩; refine ⟨_, rfl, ?_⟩; have n0_ := Aside0.mk (KeepBut.trans (iK HK) hk (.inl rfl)); have n1_ := Aside0.mk (hb); have n2_ := Aside0.mk (hi); clear HK HB HI0; have HK := n0_; have HB := n1_; have HI0 := n2_; clear n0_ n1_ n2_; (try clear hb); (try clear hb2); (try clear hk); (try clear hi)) | ((with_reducible refine gate_callee (f := 87) rfl ?_); refine goesC_ (some 22) Try.func87 #[.pointer (some ⟨g, 0, none⟩)] ?_; (with_reducible refine (spec_l1Byte.calls g s0_0 t137 t138 t139 t140 t141 w0 _ ?side1 ?side2 A10.out).mono ?_); (case side1 => exact iS HI0); (case side2 => exact iD HB); rintro e w15 ⟨rfl, hi, hb, hk⟩; refine ⟨_, rfl, ?_⟩; have n0_ := Aside0.mk (KeepBut.trans (iK HK) hk (.inl rfl)); have n1_ := Aside0.mk (hb); have n2_ := Aside0.mk (hi); clear HK HB HI0; have HK := n0_; have HB := n1_; have HI0 := n2_; clear n0_ n1_ n2_; (try clear hb); (try clear hb2); (try clear hk); (try clear hi)) | ((with_reducible refine gate_callee (f := 87) rfl ?_); refine goesC_ (some 24) Try.func87 #[.pointer (some ⟨g, 0, none⟩)] ?_; (with_reducible refine (spec_l1Byte.calls g s0_0 t140 t141 t142 t143 t144 w0 _ ?side1 ?side2 A11.out).mono ?_); (case side1 => exact iS HI0); (case side2 => exact iD HB); rintro e w16 ⟨rfl, hi, hb, hk⟩; refine ⟨_, rfl, ?_⟩; have n0_ := Aside0.mk (KeepBut.trans (iK HK) hk (.inl rfl)); have n1_ := Aside0.mk (hb); have n2_ := Aside0.mk (hi); clear HK HB HI0; have HK := n0_; have HB := n1_; have HI0 := n2_; clear n0_ n1_ n2_; (try clear hb); (try clear hb2); (try clear hk); (try clear hi)))
    go_ret
    exact ⟨eR, iS HI0, iD HB, iK HK⟩
def spec_l1Once.f (s0_0 : List Int) (s0_1 : Int) (s0_2 : Int) (a1 : Int) : Option (Bool × Int × Int) := (spec_l1Below.f s0_0 s0_1 s0_2 a1).bind fun bt145 => (some ((bt145.1 == 0), bt145.2.1, bt145.2.2))
set_option maxHeartbeats 8000000 in
set_option maxRecDepth 100000 in
theorem spec_l1Once.calls (g : Nat) (s0_0 : List Int) (s0_1 : Int) (s0_2 : Int) (a1 : Int) (r1 : Bool) (r2 : Int) (r3 : Int) (w0 w : World) (hI : IsS90 w0 w g s0_0 s0_1 s0_2) (hB : Below w0.heap.size w0 w) (h : spec_l1Once.f s0_0 s0_1 s0_2 a1 = some (r1, r2, r3)) :
  Calls Try.prog 64 #[.pointer (some ⟨g, 0, none⟩), .int .i64 a1] w fun e w' => e = .returned (.bool r1) ∧ IsS90 w0 w' g s0_0 r2 r3 ∧ Below w0.heap.size w0 w' ∧ KeepBut w w' g none := by
 have HI0 := Aside0.mk hI
 have HK := Aside0.mk (KeepBut.refl w g none)
 have HL := Aside0.mk hB.size
 clear hI; have HW0 := Aside0.mk hB.size
 have HB := Aside0.mk hB
 clear hB; have H : ((spec_l1Below.f s0_0 s0_1 s0_2 a1).bind fun bt145 => (some ((bt145.1 == 0), bt145.2.1, bt145.2.2))) = some (r1, r2, r3) := h
 clear h; replace H := Option.bind_eq_some_iff.mp H
 obtain ⟨⟨t145, t146, t147⟩, A30, H⟩ := H
 replace H : (some ((t145 == 0), t146, t147)) = some (r1, r2, r3) := H
 have A3 := Aside0.mk A30
 clear A30; simp only [Option.some.injEq, Prod.mk.injEq] at H
 obtain ⟨rfl, rfl, rfl⟩ := H
 go_enter Try.func64, Try.ntmps64
 go_wp2_with (first | ((with_reducible refine gate_callee (f := 65) rfl ?_); refine goesC_ (some 7) Try.func65 #[.pointer (some ⟨g, 0, none⟩), .int .i64 a1] ?_; (with_reducible refine (spec_l1Below.calls g s0_0 s0_1 s0_2 a1 t145 t146 t147 w0 _ ?side1 ?side2 A3.out).mono ?_); (case side1 => exact iS HI0); (case side2 => exact iD HB); rintro e w4 ⟨rfl, hi, hb, hk⟩; refine ⟨_, rfl, ?_⟩; have n0_ := Aside0.mk (KeepBut.trans (iK HK) hk (.inl rfl)); have n1_ := Aside0.mk (hb); have n2_ := Aside0.mk (hi); clear HK HB HI0; have HK := n0_; have HB := n1_; have HI0 := n2_; clear n0_ n1_ n2_; (try clear hb); (try clear hb2); (try clear hk); (try clear hi)))
 go_ret
 exact ⟨eR, iS HI0, iD HB, iK HK⟩
def spec_l1PickInt.f (s0_0 : List Int) (s0_1 : Int) (s0_2 : Int) (l1 : List Int) : Option (Int × Int × Int) := (spec_l1Below.f s0_0 s0_1 s0_2 (l1.length : Int)).bind fun bt148 => (if 0 ≤ bt148.1 then (if bt148.1 < (l1.length : Int) then (some (rd l1 bt148.1, bt148.2.1, bt148.2.2)) else (none)) else (none))
set_option maxHeartbeats 8000000 in
set_option maxRecDepth 100000 in
theorem spec_l1PickInt.calls (g : Nat) (s0_0 : List Int) (s0_1 : Int) (s0_2 : Int) (A1 : Option Addr) (c1 : Nat) (l1 : List Int) (r1 : Int) (r2 : Int) (r3 : Int) (w0 w : World) (hI : IsS90 w0 w g s0_0 s0_1 s0_2) (hB : Below w0.heap.size w0 w) (hr1 : Kd.C (Kd.int .i64) w A1 l1.length l1) (hc1 : l1.length ≤ c1) (hf1 : ∀ ad, A1 = some ad → 0 < l1.length → ad.block ≠ g) (h : spec_l1PickInt.f s0_0 s0_1 s0_2 l1 = some (r1, r2, r3)) :
  Calls Try.prog 66 #[.pointer (some ⟨g, 0, none⟩), .slice A1 l1.length c1] w fun e w' => e = .returned (.int .i64 r1) ∧ IsS90 w0 w' g s0_0 r2 r3 ∧ Below w0.heap.size w0 w' ∧ KeepBut w w' g none := by
 have HR1 := Aside0.mk hr1
 have HC1 := Aside0.mk hc1
 clear hr1 hc1; have HI0 := Aside0.mk hI
 have HK := Aside0.mk (KeepBut.refl w g none)
 have HL := Aside0.mk hB.size
 clear hI; have HW0 := Aside0.mk hB.size
 have HB := Aside0.mk hB
 clear hB; have H : ((spec_l1Below.f s0_0 s0_1 s0_2 (l1.length : Int)).bind fun bt148 => (if 0 ≤ bt148.1 then (if bt148.1 < (l1.length : Int) then (some (rd l1 bt148.1, bt148.2.1, bt148.2.2)) else (none)) else (none))) = some (r1, r2, r3) := h
 clear h; replace H := Option.bind_eq_some_iff.mp H
 obtain ⟨⟨t148, t149, t150⟩, A30, H⟩ := H
 replace H : (if 0 ≤ t148 then (if t148 < (l1.length : Int) then (some (rd l1 t148, t149, t150)) else (none)) else (none)) = some (r1, r2, r3) := H
 have A3 := Aside0.mk A30
 clear A30
 by_cases c4 : 0 ≤ t148
 ·rw [if_pos c4] at H
  have c4b0 : decide (0 ≤ t148) = true := decide_eq_true c4
  clear c4
  by_cases c5 : t148 < (l1.length : Int)
  ·rw [if_pos c5] at H
   have c5b0 : decide (t148 < (l1.length : Int)) = true := decide_eq_true c5
   clear c5; simp only [Option.some.injEq, Prod.mk.injEq] at H
   obtain ⟨rfl, rfl, rfl⟩ := H
   go_enter Try.func66, Try.ntmps66
   go_wp2_with (first | ((with_reducible refine gate_callee (f := 65) rfl ?_); refine goesC_ (some 9) Try.func65 #[.pointer (some ⟨g, 0, none⟩), .int .i64 (l1.length : Int)] ?_; (with_reducible refine (spec_l1Below.calls g s0_0 s0_1 s0_2 (l1.length : Int) t148 t149 t150 w0 _ ?side1 ?side2 A3.out).mono ?_); (case side1 => exact iS HI0); (case side2 => exact iD HB); rintro e w6 ⟨rfl, hi, hb, hk⟩; refine ⟨_, rfl, ?_⟩; have n0_ := Aside0.mk (KeepBut.trans (iK HK) hk (.inl rfl)); have n1_ := Aside0.mk (hb); have n2_ := Aside0.mk (hi); clear HK HB HI0; have HK := n0_; have HB := n1_; have HI0 := n2_; clear n0_ n1_ n2_; (try clear hb); (try clear hb2); (try clear hk); (try clear hi); have p151 : 0 ≤ (t148 : Int) := oD; have q151 : t148 < (l1.length : Int) := oD; obtain ⟨ad151, e151, hx151_0⟩ := Kd.at_int HR1.out t148 p151 q151; cases e151; replace hx151_0 := keep_cell HK.out hx151_0 (by first | (rw [add_block]; exact hf1 _ rfl (by omega)) | exact hf1 _ rfl (by omega) | exact hf1 ad151 rfl (by omega)); replace p151 := eq_true p151; replace q151 := eq_true q151))
   go_ret
   exact ⟨eR, iS HI0, iD HB, iK HK⟩
  ·rw [if_neg c5] at H
   exact absurd H (by simp)
 ·rw [if_neg c4] at H
  exact absurd H (by simp)
mutual
def spec_l7Draw.l0 : Nat → Int → List Int → Int → Int → List (S95) → Option ((List (S95)) × Int × Int)
 | 0, _, _, _, _, _ => none
 | k + 1, x6, x1000, x1001, x1002, x154000 => if x6 > 0 then ((spec_l1Below.f x1000 x1001 x1002 3).bind fun bt157 => ((spec_l1Below.f x1000 bt157.2.1 bt157.2.2 3).bind fun bt160 => ((spec_l1Once.f x1000 bt160.2.1 bt160.2.2 6).bind fun bt163 => (if bt163.1 = true then ((spec_l1PickInt.f x1000 bt163.2.1 bt163.2.2 (([32, 48, 200, 0, 255] : List Int))).bind fun bt169 => (spec_l7Draw.j1 k x6 bt169.1 (wrap64 (97 + bt160.1)) x1000 bt169.2.1 bt169.2.2 x154000)) else (spec_l7Draw.j1 k x6 (wrap64 (97 + bt157.1)) (wrap64 (97 + bt160.1)) x1000 bt163.2.1 bt163.2.2 x154000))))) else (some (x154000, x1001, x1002))
def spec_l7Draw.j1 : Nat → Int → Int → Int → List Int → Int → Int → List (S95) → Option ((List (S95)) × Int × Int)
 | 0, _, _, _, _, _, _, _ => none
 | k + 1, x6, x7, x8, x1000, x1001, x1002, x154000 => if (x154000.length : Int) > 0 then ((spec_l1Once.f x1000 x1001 x1002 2).bind fun bt172 => (spec_l7Draw.j2 k x6 x7 x8 bt172.1 x1000 bt172.2.1 bt172.2.2 x154000)) else (spec_l7Draw.j2 k x6 x7 x8 false x1000 x1001 x1002 x154000)
def spec_l7Draw.j2 : Nat → Int → Int → Int → Bool → List Int → Int → Int → List (S95) → Option ((List (S95)) × Int × Int)
 | 0, _, _, _, _, _, _, _, _ => none
 | k + 1, x6, x7, x8, x37, x1000, x1001, x1002, x154000 => if x37 = true then ((spec_l1Below.f x1000 x1001 x1002 (x154000.length : Int)).bind fun bt175 => (spec_l7Draw.j3 k x6 (wrap64 (256 + bt175.1)) x8 x1000 bt175.2.1 bt175.2.2 x154000)) else (spec_l7Draw.j3 k x6 x7 x8 x1000 x1001 x1002 x154000)
def spec_l7Draw.j3 : Nat → Int → Int → Int → List Int → Int → Int → List (S95) → Option ((List (S95)) × Int × Int)
 | 0, _, _, _, _, _, _, _ => none
 | k + 1, x6, x7, x8, x1000, x1001, x1002, x154000 => if (x154000.length : Int) > 0 then ((spec_l1Once.f x1000 x1001 x1002 3).bind fun bt178 => (spec_l7Draw.j4 k x6 x7 x8 bt178.1 x1000 bt178.2.1 bt178.2.2 x154000)) else (spec_l7Draw.j4 k x6 x7 x8 false x1000 x1001 x1002 x154000)
def spec_l7Draw.j4 : Nat → Int → Int → Int → Bool → List Int → Int → Int → List (S95) → Option ((List (S95)) × Int × Int)
 | 0, _, _, _, _, _, _, _, _ => none
 | k + 1, x6, x7, x8, x51, x1000, x1001, x1002, x154000 => if x51 = true then ((spec_l1Below.f x1000 x1001 x1002 (x154000.length : Int)).bind fun bt181 => ((some (([] : List (S95)) : List (S95))).bind fun y184 => (if y184.length + x154000.length < 8796093022208 then ((some (y184 ++ x154000 : List (S95))).bind fun y187 => (if y187.length < 8796093022208 then ((some (y187 ++ [(⟨x7, wrap64 (256 + bt181.1)⟩ : S95)] : List (S95))).bind fun y190 => ((spec_VocabOk.f k y190).bind fun t194 => (if t194 = true then (spec_l7Draw.l0 k (wrap64 (x6 - 1)) x1000 bt181.2.1 bt181.2.2 y190) else (spec_l7Draw.l0 k (wrap64 (x6 - 1)) x1000 bt181.2.1 bt181.2.2 x154000)))) else (none))) else (none)))) else ((some (([] : List (S95)) : List (S95))).bind fun y195 => (if y195.length + x154000.length < 8796093022208 then ((some (y195 ++ x154000 : List (S95))).bind fun y198 => (if y198.length < 8796093022208 then ((some (y198 ++ [(⟨x7, x8⟩ : S95)] : List (S95))).bind fun y201 => ((spec_VocabOk.f k y201).bind fun t205 => (if t205 = true then (spec_l7Draw.l0 k (wrap64 (x6 - 1)) x1000 x1001 x1002 y201) else (spec_l7Draw.l0 k (wrap64 (x6 - 1)) x1000 x1001 x1002 x154000)))) else (none))) else (none)))
end
def spec_l7Draw.f (k : Nat) (s0_0 : List Int) (s0_1 : Int) (s0_2 : Int) (a1 : Int) : Option ((List (S95)) × Int × Int) := (spec_l1Below.f s0_0 s0_1 s0_2 (wrap64 (a1 + 1))).bind fun bt154 => (spec_l7Draw.l0 k bt154.1 s0_0 bt154.2.1 bt154.2.2 ([] : List (S95)))
theorem spec_l7Draw.mono_l : ∀ k, (∀ y0 y1 y2 y3 y4, LeO (spec_l7Draw.l0 k y0 y1 y2 y3 y4) (spec_l7Draw.l0 (k + 1) y0 y1 y2 y3 y4)) ∧ (∀ y0 y1 y2 y3 y4 y5 y6, LeO (spec_l7Draw.j1 k y0 y1 y2 y3 y4 y5 y6) (spec_l7Draw.j1 (k + 1) y0 y1 y2 y3 y4 y5 y6)) ∧ (∀ y0 y1 y2 y3 y4 y5 y6 y7, LeO (spec_l7Draw.j2 k y0 y1 y2 y3 y4 y5 y6 y7) (spec_l7Draw.j2 (k + 1) y0 y1 y2 y3 y4 y5 y6 y7)) ∧ (∀ y0 y1 y2 y3 y4 y5 y6, LeO (spec_l7Draw.j3 k y0 y1 y2 y3 y4 y5 y6) (spec_l7Draw.j3 (k + 1) y0 y1 y2 y3 y4 y5 y6)) ∧ (∀ y0 y1 y2 y3 y4 y5 y6 y7, LeO (spec_l7Draw.j4 k y0 y1 y2 y3 y4 y5 y6 y7) (spec_l7Draw.j4 (k + 1) y0 y1 y2 y3 y4 y5 y6 y7))
 | 0 => ⟨fun _ _ _ _ _ r h => by simp [spec_l7Draw.l0] at h, fun _ _ _ _ _ _ _ r h => by simp [spec_l7Draw.j1] at h, fun _ _ _ _ _ _ _ _ r h => by simp [spec_l7Draw.j2] at h, fun _ _ _ _ _ _ _ r h => by simp [spec_l7Draw.j3] at h, fun _ _ _ _ _ _ _ _ r h => by simp [spec_l7Draw.j4] at h⟩
 | k + 1 => by
  obtain ⟨ih0, ih1, ih2, ih3, ih4⟩ := spec_l7Draw.mono_l k
  refine ⟨?_, ?_, ?_, ?_, ?_⟩
  ·intro y0 y1 y2 y3 y4
   unfold spec_l7Draw.l0
   repeat' first
   | (with_reducible exact ih0 _ _ _ _ _)
   | (with_reducible exact ih1 _ _ _ _ _ _ _)
   | (with_reducible exact ih2 _ _ _ _ _ _ _ _)
   | (with_reducible exact ih3 _ _ _ _ _ _ _)
   | (with_reducible exact ih4 _ _ _ _ _ _ _ _)
   | (with_reducible exact spec_VocabOk.mono _ _)
   | (with_reducible exact LeO.refl _)
   | (with_reducible exact LeO.none _)
   | (with_reducible refine LeO.ite ?_ ?_)
   | (with_reducible refine LeO.bind ?_ (fun _ => ?_))
   | exact ih0 _ _ _ _ _
   | exact ih1 _ _ _ _ _ _ _
   | exact ih2 _ _ _ _ _ _ _ _
   | exact ih3 _ _ _ _ _ _ _
   | exact ih4 _ _ _ _ _ _ _ _
   | exact spec_VocabOk.mono _ _
   | exact LeO.none _
   | refine LeO.ite ?_ ?_
   | refine LeO.bind ?_ (fun _ => ?_)
  ·intro y0 y1 y2 y3 y4 y5 y6
   unfold spec_l7Draw.j1
   repeat' first
   | (with_reducible exact ih0 _ _ _ _ _)
   | (with_reducible exact ih1 _ _ _ _ _ _ _)
   | (with_reducible exact ih2 _ _ _ _ _ _ _ _)
   | (with_reducible exact ih3 _ _ _ _ _ _ _)
   | (with_reducible exact ih4 _ _ _ _ _ _ _ _)
   | (with_reducible exact spec_VocabOk.mono _ _)
   | (with_reducible exact LeO.refl _)
   | (with_reducible exact LeO.none _)
   | (with_reducible refine LeO.ite ?_ ?_)
   | (with_reducible refine LeO.bind ?_ (fun _ => ?_))
   | exact ih0 _ _ _ _ _
   | exact ih1 _ _ _ _ _ _ _
   | exact ih2 _ _ _ _ _ _ _ _
   | exact ih3 _ _ _ _ _ _ _
   | exact ih4 _ _ _ _ _ _ _ _
   | exact spec_VocabOk.mono _ _
   | exact LeO.none _
   | refine LeO.ite ?_ ?_
   | refine LeO.bind ?_ (fun _ => ?_)
  ·intro y0 y1 y2 y3 y4 y5 y6 y7
   unfold spec_l7Draw.j2
   repeat' first
   | (with_reducible exact ih0 _ _ _ _ _)
   | (with_reducible exact ih1 _ _ _ _ _ _ _)
   | (with_reducible exact ih2 _ _ _ _ _ _ _ _)
   | (with_reducible exact ih3 _ _ _ _ _ _ _)
   | (with_reducible exact ih4 _ _ _ _ _ _ _ _)
   | (with_reducible exact spec_VocabOk.mono _ _)
   | (with_reducible exact LeO.refl _)
   | (with_reducible exact LeO.none _)
   | (with_reducible refine LeO.ite ?_ ?_)
   | (with_reducible refine LeO.bind ?_ (fun _ => ?_))
   | exact ih0 _ _ _ _ _
   | exact ih1 _ _ _ _ _ _ _
   | exact ih2 _ _ _ _ _ _ _ _
   | exact ih3 _ _ _ _ _ _ _
   | exact ih4 _ _ _ _ _ _ _ _
   | exact spec_VocabOk.mono _ _
   | exact LeO.none _
   | refine LeO.ite ?_ ?_
   | refine LeO.bind ?_ (fun _ => ?_)
  ·intro y0 y1 y2 y3 y4 y5 y6
   unfold spec_l7Draw.j3
   repeat' first
   | (with_reducible exact ih0 _ _ _ _ _)
   | (with_reducible exact ih1 _ _ _ _ _ _ _)
   | (with_reducible exact ih2 _ _ _ _ _ _ _ _)
   | (with_reducible exact ih3 _ _ _ _ _ _ _)
   | (with_reducible exact ih4 _ _ _ _ _ _ _ _)
   | (with_reducible exact spec_VocabOk.mono _ _)
   | (with_reducible exact LeO.refl _)
   | (with_reducible exact LeO.none _)
   | (with_reducible refine LeO.ite ?_ ?_)
   | (with_reducible refine LeO.bind ?_ (fun _ => ?_))
   | exact ih0 _ _ _ _ _
   | exact ih1 _ _ _ _ _ _ _
   | exact ih2 _ _ _ _ _ _ _ _
   | exact ih3 _ _ _ _ _ _ _
   | exact ih4 _ _ _ _ _ _ _ _
   | exact spec_VocabOk.mono _ _
   | exact LeO.none _
   | refine LeO.ite ?_ ?_
   | refine LeO.bind ?_ (fun _ => ?_)
  ·intro y0 y1 y2 y3 y4 y5 y6 y7
   unfold spec_l7Draw.j4
   repeat' first
   | (with_reducible exact ih0 _ _ _ _ _)
   | (with_reducible exact ih1 _ _ _ _ _ _ _)
   | (with_reducible exact ih2 _ _ _ _ _ _ _ _)
   | (with_reducible exact ih3 _ _ _ _ _ _ _)
   | (with_reducible exact ih4 _ _ _ _ _ _ _ _)
   | (with_reducible exact spec_VocabOk.mono _ _)
   | (with_reducible exact LeO.refl _)
   | (with_reducible exact LeO.none _)
   | (with_reducible refine LeO.ite ?_ ?_)
   | (with_reducible refine LeO.bind ?_ (fun _ => ?_))
   | exact ih0 _ _ _ _ _
   | exact ih1 _ _ _ _ _ _ _
   | exact ih2 _ _ _ _ _ _ _ _
   | exact ih3 _ _ _ _ _ _ _
   | exact ih4 _ _ _ _ _ _ _ _
   | exact spec_VocabOk.mono _ _
   | exact LeO.none _
   | refine LeO.ite ?_ ?_
   | refine LeO.bind ?_ (fun _ => ?_)
theorem spec_l7Draw.mono : ∀ a0 a1 a2 a3 k, LeO (spec_l7Draw.f k a0 a1 a2 a3) (spec_l7Draw.f (k + 1) a0 a1 a2 a3) := by
 intro a0 a1 a2 a3 k
 obtain ⟨ih0, ih1, ih2, ih3, ih4⟩ := spec_l7Draw.mono_l k
 unfold spec_l7Draw.f
 repeat' first
   | (with_reducible exact ih0 _ _ _ _ _)
   | (with_reducible exact ih1 _ _ _ _ _ _ _)
   | (with_reducible exact ih2 _ _ _ _ _ _ _ _)
   | (with_reducible exact ih3 _ _ _ _ _ _ _)
   | (with_reducible exact ih4 _ _ _ _ _ _ _ _)
   | (with_reducible exact spec_VocabOk.mono _ _)
   | (with_reducible exact LeO.refl _)
   | (with_reducible exact LeO.none _)
   | (with_reducible refine LeO.ite ?_ ?_)
   | (with_reducible refine LeO.bind ?_ (fun _ => ?_))
   | exact ih0 _ _ _ _ _
   | exact ih1 _ _ _ _ _ _ _
   | exact ih2 _ _ _ _ _ _ _ _
   | exact ih3 _ _ _ _ _ _ _
   | exact ih4 _ _ _ _ _ _ _ _
   | exact spec_VocabOk.mono _ _
   | exact LeO.none _
   | refine LeO.ite ?_ ?_
   | refine LeO.bind ?_ (fun _ => ?_)
set_option maxHeartbeats 8000000 in
set_option maxRecDepth 100000 in
theorem spec_l7Draw.calls (k : Nat) (g : Nat) (s0_0 : List Int) (s0_1 : Int) (s0_2 : Int) (a1 : Int) (r1 : List (S95)) (r2 : Int) (r3 : Int) (w0 w : World) (hI : IsS90 w0 w g s0_0 s0_1 s0_2) (hB : Below w0.heap.size w0 w) (h : spec_l7Draw.f k s0_0 s0_1 s0_2 a1 = some (r1, r2, r3)) :
  Calls Try.prog 63 #[.pointer (some ⟨g, 0, none⟩), .int .i64 a1] w fun e w' => ∃ v0_ : Value, e = .returned (.agg #[v0_]) ∧ Kd.R k95 95 w' w.heap.size (fun _ => True) v0_ r1 ∧ IsS90 w0 w' g s0_0 r2 r3 ∧ Below w0.heap.size w0 w' ∧ KeepBut w w' g none := by
 have hu26 := Try.underlying26
 have hu95 := Try.underlying95
 have HI0 := Aside0.mk hI
 have HK := Aside0.mk (KeepBut.refl w g none)
 have HL := Aside0.mk hB.size
 clear hI; have HW0 := Aside0.mk hB.size
 have HB := Aside0.mk hB
 clear hB; have H : ((spec_l1Below.f s0_0 s0_1 s0_2 (wrap64 (a1 + 1))).bind fun bt154 => (spec_l7Draw.l0 k bt154.1 s0_0 bt154.2.1 bt154.2.2 ([] : List (S95)))) = some (r1, r2, r3) := h
 clear h; replace H := Option.bind_eq_some_iff.mp H
 obtain ⟨⟨t154, t155, t156⟩, A30, H⟩ := H
 replace H : (spec_l7Draw.l0 k t154 s0_0 t155 t156 ([] : List (S95))) = some (r1, r2, r3) := H
 have A3 := Aside0.mk A30
 clear A30; have H' := Aside0.mk H
 clear H
 go_enter Try.func63, Try.ntmps63
 go_wp2_with (first | ((with_reducible refine gate_dst (N := 4) rfl ?_); refine bX 4 #[.slice none 0 0] 26 ?_; intro r9a hg w4 hbox hb; have n0_ := Aside0.mk (IsS90.below (iS HI0) hb); have n1_ := Aside0.mk (KeepBut.trans (iK HK) (KeepBut.of_below hb g none) (.inl rfl)); have n2_ := Aside0.mk (below_step (iD HB) hb); have f9a := Aside0.mk (hbox); have i9a := Aside0.mk ((by rw [hg]; exact (keep_size (w := w) (g := g) (row := none) (iK HK)) : w.heap.size ≤ r9a)); have l9a := Aside0.mk ((Nat.le_trans HW0.out (by rw [hg]; exact (keep_size (w := w) (g := g) (row := none) (iK HK)) : w.heap.size ≤ r9a) : w0.heap.size ≤ r9a)); have e9a := Aside0.mk ((by rw [hg]; exact Nat.ne_of_lt (IsS90.lt (show IsS90 w0 _ g s0_0 s0_1 s0_2 from iS HI0)) : g ≠ r9a)); have t9a := Aside0.mk ((by rw [hg]; exact Nat.ne_of_gt (IsS90.lt (show IsS90 w0 _ g s0_0 s0_1 s0_2 from iS HI0)) : r9a ≠ g)); clear HI0 HK HB; have HI0 := n0_; have HK := n1_; have HB := n2_; clear n0_ n1_ n2_; clear hb hbox hg) | ((with_reducible refine gate_dst (N := 5) rfl ?_); refine bX 5 #[.slice none 0 0] 26 ?_; intro m9a hg w5 hbox hb; have n0_ := Aside0.mk (IsS90.below (iS HI0) hb); have n2_ := Aside0.mk (KeepBut.trans (iK HK) (KeepBut.of_below hb g none) (.inl rfl)); have n3_ := Aside0.mk (below_step (iD HB) hb); have c9a := Aside0.mk (hbox); have j9a := Aside0.mk ((by rw [hg]; exact (keep_size (w := w) (g := g) (row := none) (iK HK)) : w.heap.size ≤ m9a)); have n9a := Aside0.mk ((Nat.le_trans HW0.out (by rw [hg]; exact (keep_size (w := w) (g := g) (row := none) (iK HK)) : w.heap.size ≤ m9a) : w0.heap.size ≤ m9a)); have o9a := bl f9a hg; have q9a := bg f9a hg; have d9a := Aside0.mk ((by rw [hg]; exact Nat.ne_of_lt (IsS90.lt (show IsS90 w0 _ g s0_0 s0_1 s0_2 from iS HI0)) : g ≠ m9a)); have p9a := Aside0.mk ((by rw [hg]; exact Nat.ne_of_gt (IsS90.lt (show IsS90 w0 _ g s0_0 s0_1 s0_2 from iS HI0)) : m9a ≠ g)); replace f9a := bq f9a hb; clear HI0 HK HB; have HI0 := n0_; have HK := n2_; have HB := n3_; clear n0_ n2_ n3_; clear hb hbox hg; have hnb6 := q9a.out; have hnc6 := o9a.out; have hnb7 := p9a.out; have hnc7 := d9a.out; have hcz8_0 : w5.cell? ⟨m9a, 0, none⟩ = some (.slice none 0 0) := bc c9a 0; have hfz8_0 := blk_frozen c9a.out 0) | ((with_reducible refine gate_callee (f := 65) rfl ?_); refine goesC_ (some 14) Try.func65 #[.pointer (some ⟨g, 0, none⟩), .int .i64 (wrap64 (a1 + 1))] ?_; (with_reducible refine (spec_l1Below.calls g s0_0 s0_1 s0_2 (wrap64 (a1 + 1)) t154 t155 t156 w0 _ ?side1 ?side2 A3.out).mono ?_); (case side1 => exact iS HI0); (case side2 => exact iD HB); rintro e w9 ⟨rfl, hi, hb, hk⟩; refine ⟨_, rfl, ?_⟩; have n0_ := Aside0.mk (KeepBut.blk hk (g' := r9a) (o := .cells #[.slice none 0 0] 26 (0, 0)) (by (with_reducible repeat first | refine bkN ?_ _ | refine bkD ?_ | refine bkA ?_ _ | refine blk_far ?_ o9a.out _); exact f9a.out) t9a.out (by simp)); have n1_ := Aside0.mk (KeepBut.blk hk (g' := m9a) (o := .cells #[.slice none 0 0] 26 (0, 0)) (by (with_reducible repeat first | refine bkN ?_ _ | refine bkD ?_ | refine bkA ?_ _); refine blk_put (cs := #[.slice none 0 0]) ?_ 0 _ rfl; (with_reducible repeat first | refine bkN ?_ _ | refine bkD ?_ | refine bkA ?_ _); exact c9a.out) p9a.out (by simp)); have n2_ := Aside0.mk (KeepBut.trans (iK HK) hk (.inl rfl)); have n3_ := Aside0.mk (hb); have n4_ := Aside0.mk (hi); clear f9a c9a HK HB HI0; have f9a := n0_; have c9a := n1_; have HK := n2_; have HB := n3_; have HI0 := n4_; clear n0_ n1_ n2_ n3_ n4_; (try clear hb); (try clear hb2); (try clear hk); (try clear hi)))
 go_loopg [6] k (fun kq v6 w' => ∃ (x6_1 : Int) (N9a : Int) (O9a : Int) (b9a : List (S95)) (k9a : Value), v6 = .int .i64 x6_1 ∧ Aside0 (spec_l7Draw.l0 kq x6_1 s0_0 N9a O9a b9a = some (r1, r2, r3)) ∧ Aside0 (kq ≤ k) ∧ Aside0 (Kd.R k95 95 w' w.heap.size (fun _ => True) k9a b9a) ∧ Aside0 (w'.heap[r9a]? = some (.cells #[(.slice none 0 0)] 26 (0, 0))) ∧ Aside0 (w'.heap[m9a]? = some (.cells #[k9a] 26 (0, 0))) ∧ Aside0 (IsS90 w0 w' g s0_0 N9a O9a) ∧ Aside0 (KeepBut w w' g none) ∧ Aside0 (Below w0.heap.size w0 w'))
 case atStart => exact ⟨(t154), (t155), (t156), (([] : List (S95))), (.slice none 0 0), sR, H', ⟨Nat.le_refl _⟩, ⟨by first | exact Kd.R_nil _ _ _ _ _ | exact Kd.N_nil _ _ _ _ _ | exact Kd.V_nil _ _ _ _ _ | exact Kd.Q_nil _ _ _ _ _ | exact Kd.S_nil _ _ _ _ _⟩, ⟨bb f9a⟩, ⟨bb c9a⟩, ⟨iS HI0⟩, ⟨iK HK⟩, ⟨iD HB⟩⟩
 case round =>
  clear H'
  obtain ⟨x6_1, N9a, O9a, b9a, k9a, rfl, HA, HK1, a9a, f9a, c9a, HI0, HK, HB⟩ := hrel
  cases gk with
  | zero => exact absurd HA.out (by simp [spec_l7Draw.l0])
  | succ k1 =>
   have H := HA.out; clear HA; simp only [spec_l7Draw.l0] at H
   by_cases c10 : x6_1 > 0
   ·rw [if_pos c10] at H
    have c10b0 : decide (0 < x6_1) = true := decide_eq_true c10
    clear c10; replace H := Option.bind_eq_some_iff.mp H
    obtain ⟨⟨t157, t158, t159⟩, A110, H⟩ := H
    replace H : ((spec_l1Below.f s0_0 t158 t159 3).bind fun bt160 => ((spec_l1Once.f s0_0 bt160.2.1 bt160.2.2 6).bind fun P9a => (if P9a.1 = true then ((spec_l1PickInt.f s0_0 P9a.2.1 P9a.2.2 (([32, 48, 200, 0, 255] : List Int))).bind fun y9a => (spec_l7Draw.j1 k1 x6_1 y9a.1 (wrap64 (97 + bt160.1)) s0_0 y9a.2.1 y9a.2.2 b9a)) else (spec_l7Draw.j1 k1 x6_1 (wrap64 (97 + t157)) (wrap64 (97 + bt160.1)) s0_0 P9a.2.1 P9a.2.2 b9a)))) = some (r1, r2, r3) := H
    have A11 := Aside0.mk A110
    clear A110; replace H := Option.bind_eq_some_iff.mp H
    obtain ⟨⟨t160, t161, t162⟩, A120, H⟩ := H
    replace H : ((spec_l1Once.f s0_0 t161 t162 6).bind fun P9a => (if P9a.1 = true then ((spec_l1PickInt.f s0_0 P9a.2.1 P9a.2.2 (([32, 48, 200, 0, 255] : List Int))).bind fun y9a => (spec_l7Draw.j1 k1 x6_1 y9a.1 (wrap64 (97 + t160)) s0_0 y9a.2.1 y9a.2.2 b9a)) else (spec_l7Draw.j1 k1 x6_1 (wrap64 (97 + t157)) (wrap64 (97 + t160)) s0_0 P9a.2.1 P9a.2.2 b9a))) = some (r1, r2, r3) := H
    have A12 := Aside0.mk A120
    clear A120; replace H := Option.bind_eq_some_iff.mp H
    obtain ⟨⟨t163, t164, t165⟩, A130, H⟩ := H
    replace H : (if t163 = true then ((spec_l1PickInt.f s0_0 t164 t165 (([32, 48, 200, 0, 255] : List Int))).bind fun y9a => (spec_l7Draw.j1 k1 x6_1 y9a.1 (wrap64 (97 + t160)) s0_0 y9a.2.1 y9a.2.2 b9a)) else (spec_l7Draw.j1 k1 x6_1 (wrap64 (97 + t157)) (wrap64 (97 + t160)) s0_0 t164 t165 b9a)) = some (r1, r2, r3) := H
    have A13 := Aside0.mk A130
    clear A130; have HC14 := Aside0.mk H
    clear H
    go_upto_if 26 with (first | ((with_reducible refine gate_callee (f := 65) rfl ?_); refine goesC_ (some 20) Try.func65 #[.pointer (some ⟨g, 0, none⟩), .int .i64 3] ?_; (with_reducible refine (spec_l1Below.calls g s0_0 N9a O9a 3 t157 t158 t159 w0 _ ?side1 ?side2 A11.out).mono ?_); (case side1 => exact iS HI0); (case side2 => exact iD HB); rintro e w15 ⟨rfl, hi, hb, hk⟩; refine ⟨_, rfl, ?_⟩; have n0_ := Aside0.mk (Kd.R_mono (Kd.R_keep (IsS90.apart (show IsS90 w0 _ g s0_0 N9a O9a from iS HI0) (rr a9a) (by decide)) hk (fun _ h => h.2)) (fun _ h => h.1)); have n1_ := Aside0.mk (KeepBut.blk hk (g' := r9a) (o := .cells #[.slice none 0 0] 26 (0, 0)) kB t9a.out (by simp)); have n2_ := Aside0.mk (KeepBut.blk hk (g' := m9a) (o := .cells #[k9a] 26 (0, 0)) kB p9a.out (by simp)); have n3_ := Aside0.mk (KeepBut.trans (iK HK) hk (.inl rfl)); have n4_ := Aside0.mk (hb); have n5_ := Aside0.mk (hi); clear a9a f9a c9a HK HB HI0; have a9a := n0_; have f9a := n1_; have c9a := n2_; have HK := n3_; have HB := n4_; have HI0 := n5_; clear n0_ n1_ n2_ n3_ n4_ n5_; (try clear hb); (try clear hb2); (try clear hk); (try clear hi)) | ((with_reducible refine gate_callee (f := 65) rfl ?_); refine goesC_ (some 23) Try.func65 #[.pointer (some ⟨g, 0, none⟩), .int .i64 3] ?_; (with_reducible refine (spec_l1Below.calls g s0_0 t158 t159 3 t160 t161 t162 w0 _ ?side1 ?side2 A12.out).mono ?_); (case side1 => exact iS HI0); (case side2 => exact iD HB); rintro e w16 ⟨rfl, hi, hb, hk⟩; refine ⟨_, rfl, ?_⟩; have n0_ := Aside0.mk (Kd.R_mono (Kd.R_keep (IsS90.apart (show IsS90 w0 _ g s0_0 t158 t159 from iS HI0) (rr a9a) (by decide)) hk (fun _ h => h.2)) (fun _ h => h.1)); have n1_ := Aside0.mk (KeepBut.blk hk (g' := r9a) (o := .cells #[.slice none 0 0] 26 (0, 0)) kB t9a.out (by simp)); have n2_ := Aside0.mk (KeepBut.blk hk (g' := m9a) (o := .cells #[k9a] 26 (0, 0)) kB p9a.out (by simp)); have n3_ := Aside0.mk (KeepBut.trans (iK HK) hk (.inl rfl)); have n4_ := Aside0.mk (hb); have n5_ := Aside0.mk (hi); clear a9a f9a c9a HK HB HI0; have a9a := n0_; have f9a := n1_; have c9a := n2_; have HK := n3_; have HB := n4_; have HI0 := n5_; clear n0_ n1_ n2_ n3_ n4_ n5_; (try clear hb); (try clear hb2); (try clear hk); (try clear hi)) | ((with_reducible refine gate_callee (f := 64) rfl ?_); refine goesC_ (some 26) Try.func64 #[.pointer (some ⟨g, 0, none⟩), .int .i64 6] ?_; (with_reducible refine (spec_l1Once.calls g s0_0 t161 t162 6 t163 t164 t165 w0 _ ?side1 ?side2 A13.out).mono ?_); (case side1 => exact iS HI0); (case side2 => exact iD HB); rintro e w17 ⟨rfl, hi, hb, hk⟩; refine ⟨_, rfl, ?_⟩; have n0_ := Aside0.mk (Kd.R_mono (Kd.R_keep (IsS90.apart (show IsS90 w0 _ g s0_0 t161 t162 from iS HI0) (rr a9a) (by decide)) hk (fun _ h => h.2)) (fun _ h => h.1)); have n1_ := Aside0.mk (KeepBut.blk hk (g' := r9a) (o := .cells #[.slice none 0 0] 26 (0, 0)) kB t9a.out (by simp)); have n2_ := Aside0.mk (KeepBut.blk hk (g' := m9a) (o := .cells #[k9a] 26 (0, 0)) kB p9a.out (by simp)); have n3_ := Aside0.mk (KeepBut.trans (iK HK) hk (.inl rfl)); have n4_ := Aside0.mk (hb); have n5_ := Aside0.mk (hi); clear a9a f9a c9a HK HB HI0; have a9a := n0_; have f9a := n1_; have c9a := n2_; have HK := n3_; have HB := n4_; have HI0 := n5_; clear n0_ n1_ n2_ n3_ n4_ n5_; (try clear hb); (try clear hb2); (try clear hk); (try clear hi)))
    (try simp only [putL])
    go_cut [7] (fun v7 wc => ∃ (kq : Nat) (a9b : Int) (D9a : Int) (E9a : Int), v7 = .int .i64 a9b ∧ Aside0 (spec_l7Draw.j1 kq x6_1 a9b (wrap64 (97 + t160)) s0_0 D9a E9a b9a = some (r1, r2, r3)) ∧ Aside0 (kq ≤ k1) ∧ Aside0 (Kd.R k95 95 wc w.heap.size (fun _ => True) k9a b9a) ∧ Aside0 (wc.heap[r9a]? = some (.cells #[(.slice none 0 0)] 26 (0, 0))) ∧ Aside0 (wc.heap[m9a]? = some (.cells #[k9a] 26 (0, 0))) ∧ Aside0 (IsS90 w0 wc g s0_0 D9a E9a) ∧ Aside0 (KeepBut w wc g none) ∧ Aside0 (Below w0.heap.size w0 wc))
    case first =>
     have H := HC14.out; clear HC14
     by_cases c18 : t163 = true
     ·subst c18
      have H1 : ((spec_l1PickInt.f s0_0 t164 t165 (([32, 48, 200, 0, 255] : List Int))).bind fun y9a => (spec_l7Draw.j1 k1 x6_1 y9a.1 (wrap64 (97 + t160)) s0_0 y9a.2.1 y9a.2.2 b9a)) = some (r1, r2, r3) := by rw [if_pos rfl] at H; exact H
      clear H; have H := H1
      clear H1; obtain ⟨y166, hy166⟩ : ∃ y_ : List Int, y_ = (([32, 48, 200, 0, 255] : List Int)) := ⟨_, rfl⟩
      replace H : ((spec_l1PickInt.f s0_0 t164 t165 y166).bind fun y9a => (spec_l7Draw.j1 k1 x6_1 y9a.1 (wrap64 (97 + t160)) s0_0 y9a.2.1 y9a.2.2 b9a)) = some (r1, r2, r3) := by first | (rw [hy166]; with_reducible exact H) | (have H2_ := (Option.bind_some _ _).symm.trans H; rw [hy166]; with_reducible exact H2_) | (have H2_ := (Option.bind_some _ _).symm.trans H; with_reducible exact H2_) | with_reducible exact H | (rw [hy166]; exact H) | exact H
      have Ny166 := Aside0.mk hy166
      clear hy166; replace H := Option.bind_eq_some_iff.mp H
      obtain ⟨⟨t169, t170, t171⟩, A190, H⟩ := H
      replace H : (spec_l7Draw.j1 k1 x6_1 t169 (wrap64 (97 + t160)) s0_0 t170 t171 b9a) = some (r1, r2, r3) := H
      have A19 := Aside0.mk A190
      clear A190; have H' := Aside0.mk H
      clear H
      go_wp2_with (first | ((with_reducible refine gate_dst (N := 28) rfl ?_); refine Kd.R_lit (Kd.int .i64) _ 3 ?hg (N := 28) ?hd (xs := ([32, 48, 200, 0, 255] : List Int)) (inner := [.int .i64 32, .int .i64 48, .int .i64 200, .int .i64 0, .int .i64 255]) (ok := fun _ => True) (okp := fun _ => True) ?hr ?hp (fun _ hk => hk) trivial (Below.refl _ _) (Nat.le_refl _) (by simp) ?_; (case hd => rfl); (case hg => rfl); (case hr => first | (go_simp; done) | (go_simp; rfl)); (case hp => exact (Reps.one (show Kd.M (Kd.int .i64) _ _ _ 32 [.int .i64 32] from rfl) (Reps.one (show Kd.M (Kd.int .i64) _ _ _ 48 [.int .i64 48] from rfl) (Reps.one (show Kd.M (Kd.int .i64) _ _ _ 200 [.int .i64 200] from rfl) (Reps.one (show Kd.M (Kd.int .i64) _ _ _ 0 [.int .i64 0] from rfl) (Reps.one (show Kd.M (Kd.int .i64) _ _ _ 255 [.int .i64 255] from rfl) (Reps.none _ _))))))); intro v167 w20 ho21 hb hg_ hnew_; clear hg_ hnew_; (first | rw [← Ny166.out] at ho21 | (simp only [Int.reduceToNat] at ho21; rw [← Ny166.out] at ho21)); have n4_ := Aside0.mk (IsS90.below (iS HI0) hb); have n5_ := Aside0.mk (KeepBut.trans (iK HK) (KeepBut.of_below hb g none) (.inl rfl)); have n6_ := Aside0.mk (below_step (iD HB) hb); have b9b := Aside0.mk (Kd.R_lower ho21 (keep_size (w := w) (g := g) (row := none) (iK HK))); replace a9a := Aside0.mk (Kd.R_below (rr a9a) hb); replace f9a := bq f9a hb; replace c9a := bq c9a hb; clear HI0 HK HB; have HI0 := n4_; have HK := n5_; have HB := n6_; clear n4_ n5_ n6_; clear hb ho21; obtain ⟨Ao22, co22, eo22⟩ := Kd.R_slice b9b.out; subst eo22) | ((with_reducible refine gate_callee (f := 66) rfl ?_); refine goesC_ (some 29) Try.func66 #[.pointer (some ⟨g, 0, none⟩), .slice Ao22 y166.length co22] ?_; (with_reducible refine (spec_l1PickInt.calls g s0_0 t164 t165 _ _ y166 t169 t170 t171 w0 _ ?side1 ?side2 ?side3 ?side4 ?side5 A19.out).mono ?_); (case side1 => exact iS HI0); (case side2 => exact iD HB); (case side3 => exact cX ((Kd.R_reads' b9b.out).2.2)); (case side4 => exact (Kd.R_reads' b9b.out).2.1); (case side5 => exact far_slice (IsS90.own_ne HI0.out b9b.out (by decide))); rintro e w23 ⟨rfl, hi, hb, hk⟩; refine ⟨_, rfl, ?_⟩; have n0_ := Aside0.mk (Kd.R_mono (Kd.R_keep (IsS90.apart (show IsS90 w0 _ g s0_0 t164 t165 from iS HI0) (rr a9a) (by decide)) hk (fun _ h => h.2)) (fun _ h => h.1)); have n1_ := Aside0.mk (KeepBut.blk hk (g' := r9a) (o := .cells #[.slice none 0 0] 26 (0, 0)) kB t9a.out (by simp)); have n2_ := Aside0.mk (KeepBut.blk hk (g' := m9a) (o := .cells #[k9a] 26 (0, 0)) kB p9a.out (by simp)); have n3_ := Aside0.mk (Kd.R_mono (Kd.R_keep (IsS90.apart (show IsS90 w0 _ g s0_0 t164 t165 from iS HI0) (rr b9b) (by decide)) hk (fun _ h => h.2)) (fun _ h => h.1)); have n4_ := Aside0.mk (KeepBut.trans (iK HK) hk (.inl rfl)); have n5_ := Aside0.mk (hb); have n6_ := Aside0.mk (hi); clear a9a f9a c9a b9b HK HB HI0; have a9a := n0_; have f9a := n1_; have c9a := n2_; have b9b := n3_; have HK := n4_; have HB := n5_; have HI0 := n6_; clear n0_ n1_ n2_ n3_ n4_ n5_ n6_; (try clear hb); (try clear hb2); (try clear hk); (try clear hi)))
      go_meet
      case rel => exact ⟨_, (t169), (t170), (t171), sR, H', ⟨by have := HK1.out; first | omega | exact Nat.le_refl _⟩, ⟨rr a9a⟩, ⟨bb f9a⟩, ⟨bb c9a⟩, ⟨iS HI0⟩, ⟨iK HK⟩, ⟨iD HB⟩⟩
     ·replace c18 := Bool.eq_false_iff.mpr c18
      subst c18
      have H1 : (spec_l7Draw.j1 k1 x6_1 (wrap64 (97 + t157)) (wrap64 (97 + t160)) s0_0 t164 t165 b9a) = some (r1, r2, r3) := by rw [if_neg (show ¬ (false = true) by decide)] at H; exact H
      clear H; have H := H1
      clear H1; have H' := Aside0.mk H
      clear H
      go_wp2
      go_meet
      case rel => exact ⟨_, (wrap64 (97 + t157)), (t164), (t165), sR, H', ⟨by have := HK1.out; first | omega | exact Nat.le_refl _⟩, ⟨rr a9a⟩, ⟨bb f9a⟩, ⟨bb c9a⟩, ⟨iS HI0⟩, ⟨iK HK⟩, ⟨iD HB⟩⟩
    case rest =>
     clear HC14; obtain ⟨kq, a9b, D9a, E9a, rfl, HA, HJ13, a9a, f9a, c9a, HI0, HK, HB⟩ := hcut
     cases kq with
     | zero => exact absurd HA.out (by simp [spec_l7Draw.j1])
     | succ kj13 =>
      have H := HA.out; clear HA; simp only [spec_l7Draw.j1] at H
      have HC24 := Aside0.mk H
      clear H
      go_upto_region 9 with (fail)
      go_cut [37] (fun v37 wc => ∃ (kq : Nat) (h9b : Bool) (w9a : Int) (x9a : Int), v37 = .bool h9b ∧ Aside0 (spec_l7Draw.j2 kq x6_1 a9b (wrap64 (97 + t160)) h9b s0_0 w9a x9a b9a = some (r1, r2, r3)) ∧ Aside0 (kq ≤ kj13) ∧ Aside0 (Kd.R k95 95 wc w.heap.size (fun _ => True) k9a b9a) ∧ Aside0 (wc.heap[r9a]? = some (.cells #[(.slice none 0 0)] 26 (0, 0))) ∧ Aside0 (wc.heap[m9a]? = some (.cells #[k9a] 26 (0, 0))) ∧ Aside0 (IsS90 w0 wc g s0_0 w9a x9a) ∧ Aside0 (KeepBut w wc g none) ∧ Aside0 (Below w0.heap.size w0 wc))
      case first =>
       have H := HC24.out; clear HC24
       by_cases c25 : (b9a.length : Int) > 0
       ·rw [if_pos c25] at H
        have c25b0 : decide (0 < (b9a.length : Int)) = true := decide_eq_true c25
        have c25b1 : decide (0 < b9a.length) = true := decide_eq_true (by omega)
        clear c25
        (first | rw [c25b0] | (simp only [i64_w, i32_w]; rw [c25b0]) | skip)
        replace H := Option.bind_eq_some_iff.mp H
        obtain ⟨⟨t172, t173, t174⟩, A260, H⟩ := H
        replace H : (spec_l7Draw.j2 kj13 x6_1 a9b (wrap64 (97 + t160)) t172 s0_0 t173 t174 b9a) = some (r1, r2, r3) := H
        have A26 := Aside0.mk A260
        clear A260; have H' := Aside0.mk H
        clear H; have hnb27 := q9a.out; have hnc27 := o9a.out; have hnb28 := p9a.out; have hnc28 := d9a.out; have hcz29_0 : wc.cell? ⟨m9a, 0, none⟩ = some (k9a) := bc c9a 0
        have hfz29_0 := blk_frozen c9a.out 0; obtain ⟨Ao30, co30, eo30⟩ := Kd.R_slice a9a.out
        subst eo30
        go_wp2_with (first | (go_at_call 64; (with_reducible refine (spec_l1Once.calls g s0_0 D9a E9a 2 t172 t173 t174 w0 _ ?side1 ?side2 A26.out).mono ?_); (case side1 => exact iS HI0); (case side2 => exact iD HB); rintro e w31 ⟨rfl, hi, hb, hk⟩; have n0_ := Aside0.mk (Kd.R_mono (Kd.R_keep (IsS90.apart (show IsS90 w0 _ g s0_0 D9a E9a from iS HI0) (rr a9a) (by decide)) hk (fun _ h => h.2)) (fun _ h => h.1)); have n1_ := Aside0.mk (KeepBut.blk hk (g' := r9a) (o := .cells #[.slice none 0 0] 26 (0, 0)) kB t9a.out (by simp)); have n2_ := Aside0.mk (KeepBut.blk hk (g' := m9a) (o := .cells #[.slice Ao30 b9a.length co30] 26 (0, 0)) kB p9a.out (by simp)); have n3_ := Aside0.mk (KeepBut.trans (iK HK) hk (.inl rfl)); have n4_ := Aside0.mk (hb); have n5_ := Aside0.mk (hi); clear a9a f9a c9a HK HB HI0; have a9a := n0_; have f9a := n1_; have c9a := n2_; have HK := n3_; have HB := n4_; have HI0 := n5_; clear n0_ n1_ n2_ n3_ n4_ n5_; (try clear hb); (try clear hb2); (try clear hk); (try clear hi)))
        go_meet
        case rel => exact ⟨_, (t172), (t173), (t174), sR, H', ⟨by have := HK1.out; have := HJ13.out; first | omega | exact Nat.le_refl _⟩, ⟨rr a9a⟩, ⟨bb f9a⟩, ⟨bb c9a⟩, ⟨iS HI0⟩, ⟨iK HK⟩, ⟨iD HB⟩⟩
       ·rw [if_neg c25] at H
        have c25b0 : decide (0 < (b9a.length : Int)) = false := decide_eq_false c25
        have c25b1 : decide (0 < b9a.length) = false := decide_eq_false (by omega)
        clear c25
        (first | rw [c25b0] | (simp only [i64_w, i32_w]; rw [c25b0]) | skip)
        have H' := Aside0.mk H
        clear H; have hnb32 := q9a.out; have hnc32 := o9a.out; have hnb33 := p9a.out; have hnc33 := d9a.out; have hcz34_0 : wc.cell? ⟨m9a, 0, none⟩ = some (k9a) := bc c9a 0
        have hfz34_0 := blk_frozen c9a.out 0; obtain ⟨Ao35, co35, eo35⟩ := Kd.R_slice a9a.out
        subst eo35
        go_wp2
        go_meet
        case rel => exact ⟨_, (false), (D9a), (E9a), sR, H', ⟨by have := HK1.out; have := HJ13.out; first | omega | exact Nat.le_refl _⟩, ⟨rr a9a⟩, ⟨bb f9a⟩, ⟨bb c9a⟩, ⟨iS HI0⟩, ⟨iK HK⟩, ⟨iD HB⟩⟩
      case rest =>
       clear HC24; obtain ⟨kq, h9b, w9a, x9a, rfl, HA, HJ23, a9a, f9a, c9a, HI0, HK, HB⟩ := hcut
       cases kq with
       | zero => exact absurd HA.out (by simp [spec_l7Draw.j2])
       | succ kj23 =>
        have H := HA.out; clear HA; simp only [spec_l7Draw.j2] at H
        have HC36 := Aside0.mk H
        clear H
        go_upto_if 37 with (fail)
        go_cut [7] (fun v7 wc => ∃ (kq : Nat) (s9a : Int) (F9a : Int) (G9a : Int), v7 = .int .i64 s9a ∧ Aside0 (spec_l7Draw.j3 kq x6_1 s9a (wrap64 (97 + t160)) s0_0 F9a G9a b9a = some (r1, r2, r3)) ∧ Aside0 (kq ≤ kj23) ∧ Aside0 (Kd.R k95 95 wc w.heap.size (fun _ => True) k9a b9a) ∧ Aside0 (wc.heap[r9a]? = some (.cells #[(.slice none 0 0)] 26 (0, 0))) ∧ Aside0 (wc.heap[m9a]? = some (.cells #[k9a] 26 (0, 0))) ∧ Aside0 (IsS90 w0 wc g s0_0 F9a G9a) ∧ Aside0 (KeepBut w wc g none) ∧ Aside0 (Below w0.heap.size w0 wc))
        case first =>
         have H := HC36.out; clear HC36
         by_cases c37 : h9b = true
         ·subst c37
          have H1 : ((spec_l1Below.f s0_0 w9a x9a (b9a.length : Int)).bind fun bt175 => (spec_l7Draw.j3 kj23 x6_1 (wrap64 (256 + bt175.1)) (wrap64 (97 + t160)) s0_0 bt175.2.1 bt175.2.2 b9a)) = some (r1, r2, r3) := by rw [if_pos rfl] at H; exact H
          clear H; have H := H1
          clear H1; replace H := Option.bind_eq_some_iff.mp H
          obtain ⟨⟨t175, t176, t177⟩, A380, H⟩ := H
          replace H : (spec_l7Draw.j3 kj23 x6_1 (wrap64 (256 + t175)) (wrap64 (97 + t160)) s0_0 t176 t177 b9a) = some (r1, r2, r3) := H
          have A38 := Aside0.mk A380
          clear A380; have H' := Aside0.mk H
          clear H; have hnb39 := q9a.out; have hnc39 := o9a.out; have hnb40 := p9a.out; have hnc40 := d9a.out; have hcz41_0 : wc.cell? ⟨m9a, 0, none⟩ = some (k9a) := bc c9a 0
          have hfz41_0 := blk_frozen c9a.out 0; obtain ⟨Ao42, co42, eo42⟩ := Kd.R_slice a9a.out
          subst eo42
          go_wp2_with (first | ((with_reducible refine gate_callee (f := 65) rfl ?_); refine goesC_ (some 42) Try.func65 #[.pointer (some ⟨g, 0, none⟩), .int .i64 (b9a.length : Int)] ?_; (with_reducible refine (spec_l1Below.calls g s0_0 w9a x9a (b9a.length : Int) t175 t176 t177 w0 _ ?side1 ?side2 A38.out).mono ?_); (case side1 => exact iS HI0); (case side2 => exact iD HB); rintro e w43 ⟨rfl, hi, hb, hk⟩; refine ⟨_, rfl, ?_⟩; have n0_ := Aside0.mk (Kd.R_mono (Kd.R_keep (IsS90.apart (show IsS90 w0 _ g s0_0 w9a x9a from iS HI0) (rr a9a) (by decide)) hk (fun _ h => h.2)) (fun _ h => h.1)); have n1_ := Aside0.mk (KeepBut.blk hk (g' := r9a) (o := .cells #[.slice none 0 0] 26 (0, 0)) kB t9a.out (by simp)); have n2_ := Aside0.mk (KeepBut.blk hk (g' := m9a) (o := .cells #[.slice Ao42 b9a.length co42] 26 (0, 0)) kB p9a.out (by simp)); have n3_ := Aside0.mk (KeepBut.trans (iK HK) hk (.inl rfl)); have n4_ := Aside0.mk (hb); have n5_ := Aside0.mk (hi); clear a9a f9a c9a HK HB HI0; have a9a := n0_; have f9a := n1_; have c9a := n2_; have HK := n3_; have HB := n4_; have HI0 := n5_; clear n0_ n1_ n2_ n3_ n4_ n5_; (try clear hb); (try clear hb2); (try clear hk); (try clear hi)))
          go_meet
          case rel => exact ⟨_, (wrap64 (256 + t175)), (t176), (t177), sR, H', ⟨by have := HK1.out; have := HJ13.out; have := HJ23.out; first | omega | exact Nat.le_refl _⟩, ⟨rr a9a⟩, ⟨bb f9a⟩, ⟨bb c9a⟩, ⟨iS HI0⟩, ⟨iK HK⟩, ⟨iD HB⟩⟩
         ·replace c37 := Bool.eq_false_iff.mpr c37
          subst c37
          have H1 : (spec_l7Draw.j3 kj23 x6_1 a9b (wrap64 (97 + t160)) s0_0 w9a x9a b9a) = some (r1, r2, r3) := by rw [if_neg (show ¬ (false = true) by decide)] at H; exact H
          clear H; have H := H1
          clear H1; have H' := Aside0.mk H
          clear H
          go_wp2
          go_meet
          case rel => exact ⟨_, (a9b), (w9a), (x9a), sR, H', ⟨by have := HK1.out; have := HJ13.out; have := HJ23.out; first | omega | exact Nat.le_refl _⟩, ⟨rr a9a⟩, ⟨bb f9a⟩, ⟨bb c9a⟩, ⟨iS HI0⟩, ⟨iK HK⟩, ⟨iD HB⟩⟩
        case rest =>
         clear HC36; obtain ⟨kq, s9a, F9a, G9a, rfl, HA, HJ35, a9a, f9a, c9a, HI0, HK, HB⟩ := hcut
         cases kq with
         | zero => exact absurd HA.out (by simp [spec_l7Draw.j3])
         | succ kj35 =>
          have H := HA.out; clear HA; simp only [spec_l7Draw.j3] at H
          have HC44 := Aside0.mk H
          clear H
          go_upto_region 11 with (fail)
          go_cut [51] (fun v51 wc => ∃ (kq : Nat) (i9b : Bool) (g9a : Int) (h9a : Int), v51 = .bool i9b ∧ Aside0 (spec_l7Draw.j4 kq x6_1 s9a (wrap64 (97 + t160)) i9b s0_0 g9a h9a b9a = some (r1, r2, r3)) ∧ Aside0 (kq ≤ kj35) ∧ Aside0 (Kd.R k95 95 wc w.heap.size (fun _ => True) k9a b9a) ∧ Aside0 (wc.heap[r9a]? = some (.cells #[(.slice none 0 0)] 26 (0, 0))) ∧ Aside0 (wc.heap[m9a]? = some (.cells #[k9a] 26 (0, 0))) ∧ Aside0 (IsS90 w0 wc g s0_0 g9a h9a) ∧ Aside0 (KeepBut w wc g none) ∧ Aside0 (Below w0.heap.size w0 wc))
          case first =>
           have H := HC44.out; clear HC44
           by_cases c45 : (b9a.length : Int) > 0
           ·rw [if_pos c45] at H
            have c45b0 : decide (0 < (b9a.length : Int)) = true := decide_eq_true c45
            have c45b1 : decide (0 < b9a.length) = true := decide_eq_true (by omega)
            clear c45
            (first | rw [c45b0] | (simp only [i64_w, i32_w]; rw [c45b0]) | skip)
            replace H := Option.bind_eq_some_iff.mp H
            obtain ⟨⟨t178, t179, t180⟩, A460, H⟩ := H
            replace H : (spec_l7Draw.j4 kj35 x6_1 s9a (wrap64 (97 + t160)) t178 s0_0 t179 t180 b9a) = some (r1, r2, r3) := H
            have A46 := Aside0.mk A460
            clear A460; have H' := Aside0.mk H
            clear H; have hnb47 := q9a.out; have hnc47 := o9a.out; have hnb48 := p9a.out; have hnc48 := d9a.out; have hcz49_0 : wc.cell? ⟨m9a, 0, none⟩ = some (k9a) := bc c9a 0
            have hfz49_0 := blk_frozen c9a.out 0; obtain ⟨Ao50, co50, eo50⟩ := Kd.R_slice a9a.out
            subst eo50
            go_wp2_with (first | (go_at_call 64; (with_reducible refine (spec_l1Once.calls g s0_0 F9a G9a 3 t178 t179 t180 w0 _ ?side1 ?side2 A46.out).mono ?_); (case side1 => exact iS HI0); (case side2 => exact iD HB); rintro e w51 ⟨rfl, hi, hb, hk⟩; have n0_ := Aside0.mk (Kd.R_mono (Kd.R_keep (IsS90.apart (show IsS90 w0 _ g s0_0 F9a G9a from iS HI0) (rr a9a) (by decide)) hk (fun _ h => h.2)) (fun _ h => h.1)); have n1_ := Aside0.mk (KeepBut.blk hk (g' := r9a) (o := .cells #[.slice none 0 0] 26 (0, 0)) kB t9a.out (by simp)); have n2_ := Aside0.mk (KeepBut.blk hk (g' := m9a) (o := .cells #[.slice Ao50 b9a.length co50] 26 (0, 0)) kB p9a.out (by simp)); have n3_ := Aside0.mk (KeepBut.trans (iK HK) hk (.inl rfl)); have n4_ := Aside0.mk (hb); have n5_ := Aside0.mk (hi); clear a9a f9a c9a HK HB HI0; have a9a := n0_; have f9a := n1_; have c9a := n2_; have HK := n3_; have HB := n4_; have HI0 := n5_; clear n0_ n1_ n2_ n3_ n4_ n5_; (try clear hb); (try clear hb2); (try clear hk); (try clear hi)))
            go_meet
            case rel => exact ⟨_, (t178), (t179), (t180), sR, H', ⟨by have := HK1.out; have := HJ13.out; have := HJ23.out; have := HJ35.out; first | omega | exact Nat.le_refl _⟩, ⟨rr a9a⟩, ⟨bb f9a⟩, ⟨bb c9a⟩, ⟨iS HI0⟩, ⟨iK HK⟩, ⟨iD HB⟩⟩
           ·rw [if_neg c45] at H
            have c45b0 : decide (0 < (b9a.length : Int)) = false := decide_eq_false c45
            have c45b1 : decide (0 < b9a.length) = false := decide_eq_false (by omega)
            clear c45
            (first | rw [c45b0] | (simp only [i64_w, i32_w]; rw [c45b0]) | skip)
            have H' := Aside0.mk H
            clear H; have hnb52 := q9a.out; have hnc52 := o9a.out; have hnb53 := p9a.out; have hnc53 := d9a.out; have hcz54_0 : wc.cell? ⟨m9a, 0, none⟩ = some (k9a) := bc c9a 0
            have hfz54_0 := blk_frozen c9a.out 0; obtain ⟨Ao55, co55, eo55⟩ := Kd.R_slice a9a.out
            subst eo55
            go_wp2
            go_meet
            case rel => exact ⟨_, (false), (F9a), (G9a), sR, H', ⟨by have := HK1.out; have := HJ13.out; have := HJ23.out; have := HJ35.out; first | omega | exact Nat.le_refl _⟩, ⟨rr a9a⟩, ⟨bb f9a⟩, ⟨bb c9a⟩, ⟨iS HI0⟩, ⟨iK HK⟩, ⟨iD HB⟩⟩
          case rest =>
           clear HC44; obtain ⟨kq, i9b, g9a, h9a, rfl, HA, HJ43, a9a, f9a, c9a, HI0, HK, HB⟩ := hcut
           cases kq with
           | zero => exact absurd HA.out (by simp [spec_l7Draw.j4])
           | succ kj43 =>
            have H := HA.out; clear HA; simp only [spec_l7Draw.j4] at H
            by_cases c56 : i9b = true
            ·subst c56
             have H1 : ((spec_l1Below.f s0_0 g9a h9a (b9a.length : Int)).bind fun bt181 => ((some (([] : List (S95)) : List (S95))).bind fun y184 => (if y184.length + b9a.length < 8796093022208 then ((some (y184 ++ b9a : List (S95))).bind fun y187 => (if y187.length < 8796093022208 then ((some (y187 ++ [(⟨s9a, wrap64 (256 + bt181.1)⟩ : S95)] : List (S95))).bind fun y190 => ((spec_VocabOk.f kj43 y190).bind fun t194 => (if t194 = true then (spec_l7Draw.l0 kj43 (wrap64 (x6_1 - 1)) s0_0 bt181.2.1 bt181.2.2 y190) else (spec_l7Draw.l0 kj43 (wrap64 (x6_1 - 1)) s0_0 bt181.2.1 bt181.2.2 b9a)))) else (none))) else (none)))) = some (r1, r2, r3) := by rw [if_pos rfl] at H; exact H
             clear H; have H := H1
             clear H1; replace H := Option.bind_eq_some_iff.mp H
             obtain ⟨⟨t181, t182, t183⟩, A570, H⟩ := H
             replace H : ((some (([] : List (S95)) : List (S95))).bind fun y184 => (if y184.length + b9a.length < 8796093022208 then ((some (y184 ++ b9a : List (S95))).bind fun y187 => (if y187.length < 8796093022208 then ((some (y187 ++ [(⟨s9a, wrap64 (256 + t181)⟩ : S95)] : List (S95))).bind fun y190 => ((spec_VocabOk.f kj43 y190).bind fun t194 => (if t194 = true then (spec_l7Draw.l0 kj43 (wrap64 (x6_1 - 1)) s0_0 t182 t183 y190) else (spec_l7Draw.l0 kj43 (wrap64 (x6_1 - 1)) s0_0 t182 t183 b9a)))) else (none))) else (none))) = some (r1, r2, r3) := H
             have A57 := Aside0.mk A570
             clear A570; obtain ⟨y184, hy184⟩ : ∃ y_ : List (S95), y_ = (([] : List (S95))) := ⟨_, rfl⟩
             replace H : (if y184.length + b9a.length < 8796093022208 then ((some (y184 ++ b9a : List (S95))).bind fun y187 => (if y187.length < 8796093022208 then ((some (y187 ++ [(⟨s9a, wrap64 (256 + t181)⟩ : S95)] : List (S95))).bind fun y190 => ((spec_VocabOk.f kj43 y190).bind fun t194 => (if t194 = true then (spec_l7Draw.l0 kj43 (wrap64 (x6_1 - 1)) s0_0 t182 t183 y190) else (spec_l7Draw.l0 kj43 (wrap64 (x6_1 - 1)) s0_0 t182 t183 b9a)))) else (none))) else (none)) = some (r1, r2, r3) := by first | (rw [hy184]; with_reducible exact H) | (have H2_ := (Option.bind_some _ _).symm.trans H; rw [hy184]; with_reducible exact H2_) | (have H2_ := (Option.bind_some _ _).symm.trans H; with_reducible exact H2_) | with_reducible exact H | (rw [hy184]; exact H) | exact H
             have Ny184 := Aside0.mk hy184
             clear hy184
             by_cases c58 : y184.length + b9a.length < 8796093022208
             ·rw [if_pos c58] at H
              have LMc58 := Aside0.mk c58
              clear c58; obtain ⟨y187, hy187⟩ : ∃ y_ : List (S95), y_ = (y184 ++ b9a) := ⟨_, rfl⟩
              replace H : (if y187.length < 8796093022208 then ((some (y187 ++ [(⟨s9a, wrap64 (256 + t181)⟩ : S95)] : List (S95))).bind fun y190 => ((spec_VocabOk.f kj43 y190).bind fun t194 => (if t194 = true then (spec_l7Draw.l0 kj43 (wrap64 (x6_1 - 1)) s0_0 t182 t183 y190) else (spec_l7Draw.l0 kj43 (wrap64 (x6_1 - 1)) s0_0 t182 t183 b9a)))) else (none)) = some (r1, r2, r3) := by first | (rw [hy187]; with_reducible exact H) | (have H2_ := (Option.bind_some _ _).symm.trans H; rw [hy187]; with_reducible exact H2_) | (have H2_ := (Option.bind_some _ _).symm.trans H; with_reducible exact H2_) | with_reducible exact H | (rw [hy187]; exact H) | exact H
              have Ny187 := Aside0.mk hy187
              clear hy187
              by_cases c59 : y187.length < 8796093022208
              ·rw [if_pos c59] at H
               have LMc59 := Aside0.mk c59
               clear c59; obtain ⟨y190, hy190⟩ : ∃ y_ : List (S95), y_ = (y187 ++ [(⟨s9a, wrap64 (256 + t181)⟩ : S95)]) := ⟨_, rfl⟩
               replace H : ((spec_VocabOk.f kj43 y190).bind fun t194 => (if t194 = true then (spec_l7Draw.l0 kj43 (wrap64 (x6_1 - 1)) s0_0 t182 t183 y190) else (spec_l7Draw.l0 kj43 (wrap64 (x6_1 - 1)) s0_0 t182 t183 b9a))) = some (r1, r2, r3) := by first | (rw [hy190]; with_reducible exact H) | (have H2_ := (Option.bind_some _ _).symm.trans H; rw [hy190]; with_reducible exact H2_) | (have H2_ := (Option.bind_some _ _).symm.trans H; with_reducible exact H2_) | with_reducible exact H | (rw [hy190]; exact H) | exact H
               have Ny190 := Aside0.mk hy190
               clear hy190; replace H := Option.bind_eq_some_iff.mp H
               obtain ⟨t194, A600, H⟩ := H
               replace H : (if t194 = true then (spec_l7Draw.l0 kj43 (wrap64 (x6_1 - 1)) s0_0 t182 t183 y190) else (spec_l7Draw.l0 kj43 (wrap64 (x6_1 - 1)) s0_0 t182 t183 b9a)) = some (r1, r2, r3) := H
               have A60 := Aside0.mk A600
               clear A600
               by_cases c61 : t194 = true
               ·subst c61
                have H1 : (spec_l7Draw.l0 kj43 (wrap64 (x6_1 - 1)) s0_0 t182 t183 y190) = some (r1, r2, r3) := by rw [if_pos rfl] at H; exact H
                clear H; have H := H1
                clear H1; have H' := Aside0.mk H
                clear H; have hnb62 := q9a.out; have hnc62 := o9a.out; have hnb63 := p9a.out; have hnc63 := d9a.out; have hcz64_0 : wc.cell? ⟨m9a, 0, none⟩ = some (k9a) := bc c9a 0
                have hfz64_0 := blk_frozen c9a.out 0; obtain ⟨Ao65, co65, eo65⟩ := Kd.R_slice a9a.out
                subst eo65
                go_wp2_with (first | ((with_reducible refine gate_callee (f := 65) rfl ?_); refine goesC_ (some 56) Try.func65 #[.pointer (some ⟨g, 0, none⟩), .int .i64 (b9a.length : Int)] ?_; (with_reducible refine (spec_l1Below.calls g s0_0 g9a h9a (b9a.length : Int) t181 t182 t183 w0 _ ?side1 ?side2 A57.out).mono ?_); (case side1 => exact iS HI0); (case side2 => exact iD HB); rintro e w66 ⟨rfl, hi, hb, hk⟩; refine ⟨_, rfl, ?_⟩; have n0_ := Aside0.mk (Kd.R_mono (Kd.R_keep (IsS90.apart (show IsS90 w0 _ g s0_0 g9a h9a from iS HI0) (rr a9a) (by decide)) hk (fun _ h => h.2)) (fun _ h => h.1)); have n1_ := Aside0.mk (KeepBut.blk hk (g' := r9a) (o := .cells #[.slice none 0 0] 26 (0, 0)) kB t9a.out (by simp)); have n2_ := Aside0.mk (KeepBut.blk hk (g' := m9a) (o := .cells #[.slice Ao65 b9a.length co65] 26 (0, 0)) kB p9a.out (by simp)); have n3_ := Aside0.mk (KeepBut.trans (iK HK) hk (.inl rfl)); have n4_ := Aside0.mk (hb); have n5_ := Aside0.mk (hi); clear a9a f9a c9a HK HB HI0; have a9a := n0_; have f9a := n1_; have c9a := n2_; have HK := n3_; have HB := n4_; have HI0 := n5_; clear n0_ n1_ n2_ n3_ n4_ n5_; (try clear hb); (try clear hb2); (try clear hk); (try clear hi)) | ((with_reducible refine gate_dst (N := 58) rfl ?_); refine Kd.R_lit k95 _ 95 ?hg (N := 58) ?hd (xs := ([] : List (S95))) (inner := []) (ok := fun _ => True) (okp := fun _ => True) ?hr ?hp (fun _ hk => hk) trivial (Below.refl _ _) (Nat.le_refl _) (by simp) ?_; (case hd => rfl); (case hg => rfl); (case hr => first | (go_simp; done) | (go_simp; rfl)); (case hp => exact (Reps.none _ _)); intro v185 w67 ho68 hb hg_ hnew_; clear hg_ hnew_; (first | rw [← Ny184.out] at ho68 | (simp only [Int.reduceToNat] at ho68; rw [← Ny184.out] at ho68)); have n0_ := Aside0.mk (Kd.R_elder' (rr a9a) (Kd.R_base ho68) hb); have n4_ := Aside0.mk (IsS90.below (iS HI0) hb); have n5_ := Aside0.mk (KeepBut.trans (iK HK) (KeepBut.of_below hb g none) (.inl rfl)); have n6_ := Aside0.mk (below_step (iD HB) hb); have J9a := Aside0.mk (Kd.R_lower (Kd.R_new' ho68 (Kd.R_lt (rr a9a))) (keep_size (w := w) (g := g) (row := none) (iK HK))); replace f9a := bq f9a hb; replace c9a := bq c9a hb; clear a9a HI0 HK HB; have a9a := n0_; have HI0 := n4_; have HK := n5_; have HB := n6_; clear n0_ n4_ n5_ n6_; clear hb ho68; have hcz69_0 : w67.cell? ⟨m9a, 0, none⟩ = some (.slice Ao65 b9a.length co65) := bc c9a 0; have hfz69_0 := blk_frozen c9a.out 0) | ((with_reducible refine gate_builtin (b := .append) (xs := #[.tmp 58, .tmp 60]) rfl ?_); at_builtin; refine Kd.R_append_rows k95 w.heap.size rfl (.tmp 58) (.tmp 60) 24 95 (.agg #[(.int .i64 0), (.int .i64 0)]) 16 rfl Try.underlying24 info95 rfl (by decide) (by omega) v185 y184 b9a _ _ _ (fun k_ => some k_ ≠ (.slice Ao65 b9a.length co65 : Value).ownBlock) (fun _ => False) rfl rfl ?aO ?aR (fun _ _ h => h) (fun _ h => h.elim) ?aF (Below.refl _ _) ?aS ?aL ?_; (case aR => exact cX ((Kd.R_reads' a9a.out).2.2)); (case aF => exact (fun k_ hk => Kd.fresh' (Kd.R_lt (rr a9a)) k_ hk)); (case aO => exact (rX (Kd.R_mono J9a.out (fun _ hk => hk.2)))); (case aS => exact (keep_size (w := w) (g := g) (row := none) (iK HK))); (case aL => have := LMc58.out; omega); intro v188 w70 ho hb hg hat; rw [← Ny187.out] at ho; have n0_ := Aside0.mk (Kd.R_after (ok := (fun _ => True)) (rr a9a) hg hat); have n1_ := Aside0.mk (blk_grown (g := r9a) (o := .cells #[.slice none 0 0] 26 (0, 0)) kB hg (Kd.R_ne J9a.out f9a.out (by decide))); have n2_ := Aside0.mk (blk_grown (g := m9a) (o := .cells #[.slice Ao65 b9a.length co65] 26 (0, 0)) kB hg (Kd.R_ne J9a.out c9a.out (by decide))); have n3_ := Aside0.mk (IsS90.grown (iS HI0) hg (IsS90.own_ne HI0.out J9a.out (by decide))); have n4_ := Aside0.mk (below_weaken (iD HB) HL.out hb); have n5_ := Aside0.mk (KeepBut.trans (iK HK) (KeepBut.of_grown hg g) (Kd.R_base2 J9a.out)); have K9a := Aside0.mk (ho); clear J9a a9a f9a c9a HI0 HB HK; have a9a := n0_; have f9a := n1_; have c9a := n2_; have HI0 := n3_; have HB := n4_; have HK := n5_; clear n0_ n1_ n2_ n3_ n4_ n5_; clear ho hb hg hat) | ((with_reducible refine gate_builtin (b := .append) (xs := #[.tmp 61, .tmp 65]) rfl ?_); at_builtin; refine Kd.R_append k95 w.heap.size rfl (.tmp 61) (.tmp 65) 24 95 (.agg #[(.int .i64 0), (.int .i64 0)]) 16 rfl Try.underlying24 info95 rfl (by decide) (by omega) v188 y187 (⟨s9a, wrap64 (256 + t181)⟩ : S95) [.int .i64 s9a, .int .i64 (wrap64 (256 + t181))] (fun k_ => some k_ ≠ (.slice Ao65 b9a.length co65 : Value).ownBlock) (fun _ => False) rfl rfl ?aP (fun _ hk => hk.elim) ?aF ?aO (Below.refl _ _) ?aS ?aL ?_; (case aP => exact k95_mkM _ _ _ (⟨s9a, wrap64 (256 + t181)⟩ : S95)); (case aF => exact (fun k_ hk => Kd.fresh' (Kd.R_lt (rr a9a)) k_ hk)); (case aO => exact (rr K9a)); (case aS => exact (keep_size (w := w) (g := g) (row := none) (iK HK))); (case aL => have := LMc59.out; omega); intro v191 w71 ho hb hg hat; rw [← Ny190.out] at ho; have n0_ := Aside0.mk (Kd.R_after (ok := (fun _ => True)) (rr a9a) hg hat); have n1_ := Aside0.mk (blk_grown (g := r9a) (o := .cells #[.slice none 0 0] 26 (0, 0)) kB hg (Kd.R_ne K9a.out f9a.out (by decide))); have n2_ := Aside0.mk (blk_grown (g := m9a) (o := .cells #[.slice Ao65 b9a.length co65] 26 (0, 0)) kB hg (Kd.R_ne K9a.out c9a.out (by decide))); have n3_ := Aside0.mk (IsS90.grown (iS HI0) hg (IsS90.own_ne HI0.out K9a.out (by decide))); have n4_ := Aside0.mk (below_weaken (iD HB) HL.out hb); have n5_ := Aside0.mk (KeepBut.trans (iK HK) (KeepBut.of_grown hg g) (Kd.R_base2 K9a.out)); have B9a := Aside0.mk (ho); clear K9a a9a f9a c9a HI0 HB HK; have a9a := n0_; have f9a := n1_; have c9a := n2_; have HI0 := n3_; have HB := n4_; have HK := n5_; clear n0_ n1_ n2_ n3_ n4_ n5_; clear ho hb hg hat; obtain ⟨Ao72, co72, eo72⟩ := Kd.R_slice B9a.out; subst eo72) | ((with_reducible refine gate_dst (N := 9) rfl ?_); refine bX 9 #[.slice none 0 0] 26 ?_; intro u9a hg w73 hbox hb; have n4_ := Aside0.mk (IsS90.below (iS HI0) hb); have n5_ := Aside0.mk (KeepBut.trans (iK HK) (KeepBut.of_below hb g none) (.inl rfl)); have n6_ := Aside0.mk (below_step (iD HB) hb); have z9a := Aside0.mk (hbox); have GW193 := Aside0.mk ((by rw [hg]; exact (keep_size (w := w) (g := g) (row := none) (iK HK)) : w.heap.size ≤ u9a)); have GE193 := Aside0.mk ((Nat.le_trans HW0.out (by rw [hg]; exact (keep_size (w := w) (g := g) (row := none) (iK HK)) : w.heap.size ≤ u9a) : w0.heap.size ≤ u9a)); have Q9a := bl f9a hg; have R9a := bg f9a hg; have S9a := bl c9a hg; have T9a := bg c9a hg; have H9a := Aside0.mk ((by rw [hg]; exact Nat.ne_of_lt (IsS90.lt (show IsS90 w0 _ g s0_0 t182 t183 from iS HI0)) : g ≠ u9a)); have c9b := Aside0.mk ((by rw [hg]; exact Nat.ne_of_gt (IsS90.lt (show IsS90 w0 _ g s0_0 t182 t183 from iS HI0)) : u9a ≠ g)); replace a9a := Aside0.mk (Kd.R_below (rr a9a) hb); replace B9a := Aside0.mk (Kd.R_below (rr B9a) hb); replace f9a := bq f9a hb; replace c9a := bq c9a hb; clear HI0 HK HB; have HI0 := n4_; have HK := n5_; have HB := n6_; clear n4_ n5_ n6_; clear hb hbox hg; have hnb74 := R9a.out; have hnc74 := Q9a.out; have hnb75 := T9a.out; have hnc75 := S9a.out; have hnb76 := c9b.out; have hnc76 := H9a.out; have hcz77_0 : w73.cell? ⟨u9a, 0, none⟩ = some (.slice none 0 0) := bc z9a 0; have hfz77_0 := blk_frozen z9a.out 0) | ((with_reducible refine gate_callee (f := 10) rfl ?_); refine goesC_ (some 69) Try.func10 #[.agg #[.slice Ao72 y190.length co72]] ?_; (with_reducible refine (spec_VocabOk.calls kj43 _ _ y190 true _ ?side1 ?side2 A60.out).mono ?_); (case side1 => refine (Kd.R_reads' (e := 95) (base := w.heap.size) (ok := fun k_ => some k_ ≠ (.slice Ao65 b9a.length co65 : Value).ownBlock) (n := y190.length) (c := co72) ?_).2.2; exact (rX (Kd.R_mono (Kd.R_far (p := ⟨u9a, 0, none⟩) (Kd.R_types B9a.out z9a.out (by decide)) (fun _ hk => hk.2) (.slice Ao72 y190.length co72)) (fun _ h_ => h_.1)))); (case side2 => exact (Kd.R_reads' B9a.out).2.1); rintro e w78 ⟨rfl, hb⟩; refine ⟨_, rfl, ?_⟩; have n0_ := Aside0.mk (Kd.R_below (rX (Kd.R_mono (Kd.R_far (p := ⟨u9a, 0, none⟩) (Kd.R_types a9a.out z9a.out (by decide)) (fun _ hk => hk.2) (.slice Ao72 y190.length co72)) (fun _ h_ => h_.1))) hb); have n1_ := Aside0.mk (Kd.R_below (rX (Kd.R_mono (Kd.R_far (p := ⟨u9a, 0, none⟩) (Kd.R_types B9a.out z9a.out (by decide)) (fun _ hk => hk.2) (.slice Ao72 y190.length co72)) (fun _ h_ => h_.1))) hb); have n2_ := bf f9a hb; have n3_ := bf c9a hb; have n4_ := Aside0.mk (IsS90.below (show IsS90 w0 (w73.setCell ⟨u9a, 0, none⟩ (.slice Ao72 y190.length co72)) g s0_0 t182 t183 from iS HI0) hb); have n5_ := bp #[.slice Ao72 y190.length co72] z9a hb; have n6_ := Aside0.mk (KeepBut.trans (iK HK) (KeepBut.of_below hb g none) (.inl rfl)); have n7_ := Aside0.mk (below_step (iD HB) hb); clear a9a B9a f9a c9a HI0 z9a HK HB; have a9a := n0_; have B9a := n1_; have f9a := n2_; have c9a := n3_; have HI0 := n4_; have z9a := n5_; have HK := n6_; have HB := n7_; clear n0_ n1_ n2_ n3_ n4_ n5_ n6_ n7_; (try clear hb); (try clear hb2); (try clear hk); (try clear hi); have hcz79_0 : w78.cell? ⟨u9a, 0, none⟩ = some (.slice Ao72 y190.length co72) := bc z9a 0; have hfz79_0 := blk_frozen z9a.out 0; have hcz80_0 : w78.cell? ⟨m9a, 0, none⟩ = some (.slice Ao65 b9a.length co65) := bc c9a 0; have hfz80_0 := blk_frozen c9a.out 0))
                go_roundg kj43
                case measure => have := HK1.out; have := HJ13.out; have := HJ23.out; have := HJ35.out; have := HJ43.out; omega
                case rel => exact ⟨(wrap64 (x6_1 - 1)), (t182), (t183), (y190), (.slice Ao72 y190.length co72), sR, H', ⟨by have := HK1.out; have := HJ13.out; have := HJ23.out; have := HJ35.out; have := HJ43.out; omega⟩, ⟨rX (Kd.R_mono (Kd.R_far (p := ⟨m9a, 0, none⟩) (Kd.R_types B9a.out c9a.out (by decide)) (fun _ hk => hk.2) (.slice Ao72 y190.length co72)) (fun _ hk => trivial))⟩, ⟨by (with_reducible repeat first | refine bkN ?_ _ | refine bkD ?_ | refine bkA ?_ _ | refine blk_far ?_ o9a.out _); exact f9a.out⟩, ⟨by (with_reducible repeat first | refine bkN ?_ _ | refine bkD ?_ | refine bkA ?_ _); refine blk_put (cs := #[.slice Ao65 b9a.length co65]) ?_ 0 _ rfl; (with_reducible repeat first | refine bkN ?_ _ | refine bkD ?_ | refine bkA ?_ _); exact c9a.out⟩, ⟨iS HI0⟩, ⟨iK HK⟩, ⟨iD HB⟩⟩
               ·replace c61 := Bool.eq_false_iff.mpr c61
                subst c61
                have H1 : (spec_l7Draw.l0 kj43 (wrap64 (x6_1 - 1)) s0_0 t182 t183 b9a) = some (r1, r2, r3) := by rw [if_neg (show ¬ (false = true) by decide)] at H; exact H
                clear H; have H := H1
                clear H1; have H' := Aside0.mk H
                clear H; have hnb81 := q9a.out; have hnc81 := o9a.out; have hnb82 := p9a.out; have hnc82 := d9a.out; have hcz83_0 : wc.cell? ⟨m9a, 0, none⟩ = some (k9a) := bc c9a 0
                have hfz83_0 := blk_frozen c9a.out 0; obtain ⟨Ao84, co84, eo84⟩ := Kd.R_slice a9a.out
                subst eo84
                go_wp2_with (first | ((with_reducible refine gate_callee (f := 65) rfl ?_); refine goesC_ (some 56) Try.func65 #[.pointer (some ⟨g, 0, none⟩), .int .i64 (b9a.length : Int)] ?_; (with_reducible refine (spec_l1Below.calls g s0_0 g9a h9a (b9a.length : Int) t181 t182 t183 w0 _ ?side1 ?side2 A57.out).mono ?_); (case side1 => exact iS HI0); (case side2 => exact iD HB); rintro e w85 ⟨rfl, hi, hb, hk⟩; refine ⟨_, rfl, ?_⟩; have n0_ := Aside0.mk (Kd.R_mono (Kd.R_keep (IsS90.apart (show IsS90 w0 _ g s0_0 g9a h9a from iS HI0) (rr a9a) (by decide)) hk (fun _ h => h.2)) (fun _ h => h.1)); have n1_ := Aside0.mk (KeepBut.blk hk (g' := r9a) (o := .cells #[.slice none 0 0] 26 (0, 0)) kB t9a.out (by simp)); have n2_ := Aside0.mk (KeepBut.blk hk (g' := m9a) (o := .cells #[.slice Ao84 b9a.length co84] 26 (0, 0)) kB p9a.out (by simp)); have n3_ := Aside0.mk (KeepBut.trans (iK HK) hk (.inl rfl)); have n4_ := Aside0.mk (hb); have n5_ := Aside0.mk (hi); clear a9a f9a c9a HK HB HI0; have a9a := n0_; have f9a := n1_; have c9a := n2_; have HK := n3_; have HB := n4_; have HI0 := n5_; clear n0_ n1_ n2_ n3_ n4_ n5_; (try clear hb); (try clear hb2); (try clear hk); (try clear hi)) | ((with_reducible refine gate_dst (N := 58) rfl ?_); refine Kd.R_lit k95 _ 95 ?hg (N := 58) ?hd (xs := ([] : List (S95))) (inner := []) (ok := fun _ => True) (okp := fun _ => True) ?hr ?hp (fun _ hk => hk) trivial (Below.refl _ _) (Nat.le_refl _) (by simp) ?_; (case hd => rfl); (case hg => rfl); (case hr => first | (go_simp; done) | (go_simp; rfl)); (case hp => exact (Reps.none _ _)); intro v185 w86 ho87 hb hg_ hnew_; clear hg_ hnew_; (first | rw [← Ny184.out] at ho87 | (simp only [Int.reduceToNat] at ho87; rw [← Ny184.out] at ho87)); have n0_ := Aside0.mk (Kd.R_elder' (rr a9a) (Kd.R_base ho87) hb); have n4_ := Aside0.mk (IsS90.below (iS HI0) hb); have n5_ := Aside0.mk (KeepBut.trans (iK HK) (KeepBut.of_below hb g none) (.inl rfl)); have n6_ := Aside0.mk (below_step (iD HB) hb); have J9a := Aside0.mk (Kd.R_lower (Kd.R_new' ho87 (Kd.R_lt (rr a9a))) (keep_size (w := w) (g := g) (row := none) (iK HK))); replace f9a := bq f9a hb; replace c9a := bq c9a hb; clear a9a HI0 HK HB; have a9a := n0_; have HI0 := n4_; have HK := n5_; have HB := n6_; clear n0_ n4_ n5_ n6_; clear hb ho87; have hcz88_0 : w86.cell? ⟨m9a, 0, none⟩ = some (.slice Ao84 b9a.length co84) := bc c9a 0; have hfz88_0 := blk_frozen c9a.out 0) | ((with_reducible refine gate_builtin (b := .append) (xs := #[.tmp 58, .tmp 60]) rfl ?_); at_builtin; refine Kd.R_append_rows k95 w.heap.size rfl (.tmp 58) (.tmp 60) 24 95 (.agg #[(.int .i64 0), (.int .i64 0)]) 16 rfl Try.underlying24 info95 rfl (by decide) (by omega) v185 y184 b9a _ _ _ (fun k_ => some k_ ≠ (.slice Ao84 b9a.length co84 : Value).ownBlock) (fun _ => False) rfl rfl ?aO ?aR (fun _ _ h => h) (fun _ h => h.elim) ?aF (Below.refl _ _) ?aS ?aL ?_; (case aR => exact cX ((Kd.R_reads' a9a.out).2.2)); (case aF => exact (fun k_ hk => Kd.fresh' (Kd.R_lt (rr a9a)) k_ hk)); (case aO => exact (rX (Kd.R_mono J9a.out (fun _ hk => hk.2)))); (case aS => exact (keep_size (w := w) (g := g) (row := none) (iK HK))); (case aL => have := LMc58.out; omega); intro v188 w89 ho hb hg hat; rw [← Ny187.out] at ho; have n0_ := Aside0.mk (Kd.R_after (ok := (fun _ => True)) (rr a9a) hg hat); have n1_ := Aside0.mk (blk_grown (g := r9a) (o := .cells #[.slice none 0 0] 26 (0, 0)) kB hg (Kd.R_ne J9a.out f9a.out (by decide))); have n2_ := Aside0.mk (blk_grown (g := m9a) (o := .cells #[.slice Ao84 b9a.length co84] 26 (0, 0)) kB hg (Kd.R_ne J9a.out c9a.out (by decide))); have n3_ := Aside0.mk (IsS90.grown (iS HI0) hg (IsS90.own_ne HI0.out J9a.out (by decide))); have n4_ := Aside0.mk (below_weaken (iD HB) HL.out hb); have n5_ := Aside0.mk (KeepBut.trans (iK HK) (KeepBut.of_grown hg g) (Kd.R_base2 J9a.out)); have K9a := Aside0.mk (ho); clear J9a a9a f9a c9a HI0 HB HK; have a9a := n0_; have f9a := n1_; have c9a := n2_; have HI0 := n3_; have HB := n4_; have HK := n5_; clear n0_ n1_ n2_ n3_ n4_ n5_; clear ho hb hg hat) | ((with_reducible refine gate_builtin (b := .append) (xs := #[.tmp 61, .tmp 65]) rfl ?_); at_builtin; refine Kd.R_append k95 w.heap.size rfl (.tmp 61) (.tmp 65) 24 95 (.agg #[(.int .i64 0), (.int .i64 0)]) 16 rfl Try.underlying24 info95 rfl (by decide) (by omega) v188 y187 (⟨s9a, wrap64 (256 + t181)⟩ : S95) [.int .i64 s9a, .int .i64 (wrap64 (256 + t181))] (fun k_ => some k_ ≠ (.slice Ao84 b9a.length co84 : Value).ownBlock) (fun _ => False) rfl rfl ?aP (fun _ hk => hk.elim) ?aF ?aO (Below.refl _ _) ?aS ?aL ?_; (case aP => exact k95_mkM _ _ _ (⟨s9a, wrap64 (256 + t181)⟩ : S95)); (case aF => exact (fun k_ hk => Kd.fresh' (Kd.R_lt (rr a9a)) k_ hk)); (case aO => exact (rr K9a)); (case aS => exact (keep_size (w := w) (g := g) (row := none) (iK HK))); (case aL => have := LMc59.out; omega); intro v191 w90 ho hb hg hat; rw [← Ny190.out] at ho; have n0_ := Aside0.mk (Kd.R_after (ok := (fun _ => True)) (rr a9a) hg hat); have n1_ := Aside0.mk (blk_grown (g := r9a) (o := .cells #[.slice none 0 0] 26 (0, 0)) kB hg (Kd.R_ne K9a.out f9a.out (by decide))); have n2_ := Aside0.mk (blk_grown (g := m9a) (o := .cells #[.slice Ao84 b9a.length co84] 26 (0, 0)) kB hg (Kd.R_ne K9a.out c9a.out (by decide))); have n3_ := Aside0.mk (IsS90.grown (iS HI0) hg (IsS90.own_ne HI0.out K9a.out (by decide))); have n4_ := Aside0.mk (below_weaken (iD HB) HL.out hb); have n5_ := Aside0.mk (KeepBut.trans (iK HK) (KeepBut.of_grown hg g) (Kd.R_base2 K9a.out)); have B9a := Aside0.mk (ho); clear K9a a9a f9a c9a HI0 HB HK; have a9a := n0_; have f9a := n1_; have c9a := n2_; have HI0 := n3_; have HB := n4_; have HK := n5_; clear n0_ n1_ n2_ n3_ n4_ n5_; clear ho hb hg hat; obtain ⟨Ao91, co91, eo91⟩ := Kd.R_slice B9a.out; subst eo91) | ((with_reducible refine gate_dst (N := 9) rfl ?_); refine bX 9 #[.slice none 0 0] 26 ?_; intro u9a hg w92 hbox hb; have n4_ := Aside0.mk (IsS90.below (iS HI0) hb); have n5_ := Aside0.mk (KeepBut.trans (iK HK) (KeepBut.of_below hb g none) (.inl rfl)); have n6_ := Aside0.mk (below_step (iD HB) hb); have z9a := Aside0.mk (hbox); have GW193 := Aside0.mk ((by rw [hg]; exact (keep_size (w := w) (g := g) (row := none) (iK HK)) : w.heap.size ≤ u9a)); have GE193 := Aside0.mk ((Nat.le_trans HW0.out (by rw [hg]; exact (keep_size (w := w) (g := g) (row := none) (iK HK)) : w.heap.size ≤ u9a) : w0.heap.size ≤ u9a)); have Q9a := bl f9a hg; have R9a := bg f9a hg; have S9a := bl c9a hg; have T9a := bg c9a hg; have H9a := Aside0.mk ((by rw [hg]; exact Nat.ne_of_lt (IsS90.lt (show IsS90 w0 _ g s0_0 t182 t183 from iS HI0)) : g ≠ u9a)); have c9b := Aside0.mk ((by rw [hg]; exact Nat.ne_of_gt (IsS90.lt (show IsS90 w0 _ g s0_0 t182 t183 from iS HI0)) : u9a ≠ g)); replace a9a := Aside0.mk (Kd.R_below (rr a9a) hb); replace B9a := Aside0.mk (Kd.R_below (rr B9a) hb); replace f9a := bq f9a hb; replace c9a := bq c9a hb; clear HI0 HK HB; have HI0 := n4_; have HK := n5_; have HB := n6_; clear n4_ n5_ n6_; clear hb hbox hg; have hnb93 := R9a.out; have hnc93 := Q9a.out; have hnb94 := T9a.out; have hnc94 := S9a.out; have hnb95 := c9b.out; have hnc95 := H9a.out; have hcz96_0 : w92.cell? ⟨u9a, 0, none⟩ = some (.slice none 0 0) := bc z9a 0; have hfz96_0 := blk_frozen z9a.out 0) | ((with_reducible refine gate_callee (f := 10) rfl ?_); refine goesC_ (some 69) Try.func10 #[.agg #[.slice Ao91 y190.length co91]] ?_; (with_reducible refine (spec_VocabOk.calls kj43 _ _ y190 false _ ?side1 ?side2 A60.out).mono ?_); (case side1 => refine (Kd.R_reads' (e := 95) (base := w.heap.size) (ok := fun k_ => some k_ ≠ (.slice Ao84 b9a.length co84 : Value).ownBlock) (n := y190.length) (c := co91) ?_).2.2; exact (rX (Kd.R_mono (Kd.R_far (p := ⟨u9a, 0, none⟩) (Kd.R_types B9a.out z9a.out (by decide)) (fun _ hk => hk.2) (.slice Ao91 y190.length co91)) (fun _ h_ => h_.1)))); (case side2 => exact (Kd.R_reads' B9a.out).2.1); rintro e w97 ⟨rfl, hb⟩; refine ⟨_, rfl, ?_⟩; have n0_ := Aside0.mk (Kd.R_below (rX (Kd.R_mono (Kd.R_far (p := ⟨u9a, 0, none⟩) (Kd.R_types a9a.out z9a.out (by decide)) (fun _ hk => hk.2) (.slice Ao91 y190.length co91)) (fun _ h_ => h_.1))) hb); have n1_ := Aside0.mk (Kd.R_below (rX (Kd.R_mono (Kd.R_far (p := ⟨u9a, 0, none⟩) (Kd.R_types B9a.out z9a.out (by decide)) (fun _ hk => hk.2) (.slice Ao91 y190.length co91)) (fun _ h_ => h_.1))) hb); have n2_ := bf f9a hb; have n3_ := bf c9a hb; have n4_ := Aside0.mk (IsS90.below (show IsS90 w0 (w92.setCell ⟨u9a, 0, none⟩ (.slice Ao91 y190.length co91)) g s0_0 t182 t183 from iS HI0) hb); have n5_ := bp #[.slice Ao91 y190.length co91] z9a hb; have n6_ := Aside0.mk (KeepBut.trans (iK HK) (KeepBut.of_below hb g none) (.inl rfl)); have n7_ := Aside0.mk (below_step (iD HB) hb); clear a9a B9a f9a c9a HI0 z9a HK HB; have a9a := n0_; have B9a := n1_; have f9a := n2_; have c9a := n3_; have HI0 := n4_; have z9a := n5_; have HK := n6_; have HB := n7_; clear n0_ n1_ n2_ n3_ n4_ n5_ n6_ n7_; (try clear hb); (try clear hb2); (try clear hk); (try clear hi)))
                go_roundg kj43
                case measure => have := HK1.out; have := HJ13.out; have := HJ23.out; have := HJ35.out; have := HJ43.out; omega
                case rel => exact ⟨(wrap64 (x6_1 - 1)), (t182), (t183), (b9a), (.slice Ao84 b9a.length co84), sR, H', ⟨by have := HK1.out; have := HJ13.out; have := HJ23.out; have := HJ35.out; have := HJ43.out; omega⟩, ⟨rX (Kd.R_mono a9a.out (fun _ hk => trivial))⟩, ⟨bb f9a⟩, ⟨bb c9a⟩, ⟨iS HI0⟩, ⟨iK HK⟩, ⟨iD HB⟩⟩
              ·rw [if_neg c59] at H
               exact absurd H (by simp)
             ·rw [if_neg c58] at H
              exact absurd H (by simp)
            ·replace c56 := Bool.eq_false_iff.mpr c56
             subst c56
             have H1 : ((some (([] : List (S95)) : List (S95))).bind fun y195 => (if y195.length + b9a.length < 8796093022208 then ((some (y195 ++ b9a : List (S95))).bind fun y198 => (if y198.length < 8796093022208 then ((some (y198 ++ [(⟨s9a, (wrap64 (97 + t160))⟩ : S95)] : List (S95))).bind fun y201 => ((spec_VocabOk.f kj43 y201).bind fun t205 => (if t205 = true then (spec_l7Draw.l0 kj43 (wrap64 (x6_1 - 1)) s0_0 g9a h9a y201) else (spec_l7Draw.l0 kj43 (wrap64 (x6_1 - 1)) s0_0 g9a h9a b9a)))) else (none))) else (none))) = some (r1, r2, r3) := by rw [if_neg (show ¬ (false = true) by decide)] at H; exact H
             clear H; have H := H1
             clear H1; obtain ⟨y195, hy195⟩ : ∃ y_ : List (S95), y_ = (([] : List (S95))) := ⟨_, rfl⟩
             replace H : (if y195.length + b9a.length < 8796093022208 then ((some (y195 ++ b9a : List (S95))).bind fun y198 => (if y198.length < 8796093022208 then ((some (y198 ++ [(⟨s9a, (wrap64 (97 + t160))⟩ : S95)] : List (S95))).bind fun y201 => ((spec_VocabOk.f kj43 y201).bind fun t205 => (if t205 = true then (spec_l7Draw.l0 kj43 (wrap64 (x6_1 - 1)) s0_0 g9a h9a y201) else (spec_l7Draw.l0 kj43 (wrap64 (x6_1 - 1)) s0_0 g9a h9a b9a)))) else (none))) else (none)) = some (r1, r2, r3) := by first | (rw [hy195]; with_reducible exact H) | (have H2_ := (Option.bind_some _ _).symm.trans H; rw [hy195]; with_reducible exact H2_) | (have H2_ := (Option.bind_some _ _).symm.trans H; with_reducible exact H2_) | with_reducible exact H | (rw [hy195]; exact H) | exact H
             have Ny195 := Aside0.mk hy195
             clear hy195
             by_cases c98 : y195.length + b9a.length < 8796093022208
             ·rw [if_pos c98] at H
              have LMc98 := Aside0.mk c98
              clear c98; obtain ⟨y198, hy198⟩ : ∃ y_ : List (S95), y_ = (y195 ++ b9a) := ⟨_, rfl⟩
              replace H : (if y198.length < 8796093022208 then ((some (y198 ++ [(⟨s9a, (wrap64 (97 + t160))⟩ : S95)] : List (S95))).bind fun y201 => ((spec_VocabOk.f kj43 y201).bind fun t205 => (if t205 = true then (spec_l7Draw.l0 kj43 (wrap64 (x6_1 - 1)) s0_0 g9a h9a y201) else (spec_l7Draw.l0 kj43 (wrap64 (x6_1 - 1)) s0_0 g9a h9a b9a)))) else (none)) = some (r1, r2, r3) := by first | (rw [hy198]; with_reducible exact H) | (have H2_ := (Option.bind_some _ _).symm.trans H; rw [hy198]; with_reducible exact H2_) | (have H2_ := (Option.bind_some _ _).symm.trans H; with_reducible exact H2_) | with_reducible exact H | (rw [hy198]; exact H) | exact H
              have Ny198 := Aside0.mk hy198
              clear hy198
              by_cases c99 : y198.length < 8796093022208
              ·rw [if_pos c99] at H
               have LMc99 := Aside0.mk c99
               clear c99; obtain ⟨y201, hy201⟩ : ∃ y_ : List (S95), y_ = (y198 ++ [(⟨s9a, (wrap64 (97 + t160))⟩ : S95)]) := ⟨_, rfl⟩
               replace H : ((spec_VocabOk.f kj43 y201).bind fun t205 => (if t205 = true then (spec_l7Draw.l0 kj43 (wrap64 (x6_1 - 1)) s0_0 g9a h9a y201) else (spec_l7Draw.l0 kj43 (wrap64 (x6_1 - 1)) s0_0 g9a h9a b9a))) = some (r1, r2, r3) := by first | (rw [hy201]; with_reducible exact H) | (have H2_ := (Option.bind_some _ _).symm.trans H; rw [hy201]; with_reducible exact H2_) | (have H2_ := (Option.bind_some _ _).symm.trans H; with_reducible exact H2_) | with_reducible exact H | (rw [hy201]; exact H) | exact H
               have Ny201 := Aside0.mk hy201
               clear hy201; replace H := Option.bind_eq_some_iff.mp H
               obtain ⟨t205, A1000, H⟩ := H
               replace H : (if t205 = true then (spec_l7Draw.l0 kj43 (wrap64 (x6_1 - 1)) s0_0 g9a h9a y201) else (spec_l7Draw.l0 kj43 (wrap64 (x6_1 - 1)) s0_0 g9a h9a b9a)) = some (r1, r2, r3) := H
               have A100 := Aside0.mk A1000
               clear A1000
               by_cases c101 : t205 = true
               ·subst c101
                have H1 : (spec_l7Draw.l0 kj43 (wrap64 (x6_1 - 1)) s0_0 g9a h9a y201) = some (r1, r2, r3) := by rw [if_pos rfl] at H; exact H
                clear H; have H := H1
                clear H1; have H' := Aside0.mk H
                clear H
                go_wp2_with (first | ((with_reducible refine gate_dst (N := 58) rfl ?_); refine Kd.R_lit k95 _ 95 ?hg (N := 58) ?hd (xs := ([] : List (S95))) (inner := []) (ok := fun _ => True) (okp := fun _ => True) ?hr ?hp (fun _ hk => hk) trivial (Below.refl _ _) (Nat.le_refl _) (by simp) ?_; (case hd => rfl); (case hg => rfl); (case hr => first | (go_simp; done) | (go_simp; rfl)); (case hp => exact (Reps.none _ _)); intro v196 w102 j9b hb hg_ hnew_; clear hg_ hnew_; (first | rw [← Ny195.out] at j9b | (simp only [Int.reduceToNat] at j9b; rw [← Ny195.out] at j9b)); have n0_ := Aside0.mk (Kd.R_elder' (rr a9a) (Kd.R_base j9b) hb); have n4_ := Aside0.mk (IsS90.below (iS HI0) hb); have n5_ := Aside0.mk (KeepBut.trans (iK HK) (KeepBut.of_below hb g none) (.inl rfl)); have n6_ := Aside0.mk (below_step (iD HB) hb); have L9a := Aside0.mk (Kd.R_lower (Kd.R_new' j9b (Kd.R_lt (rr a9a))) (keep_size (w := w) (g := g) (row := none) (iK HK))); replace f9a := bq f9a hb; replace c9a := bq c9a hb; clear a9a HI0 HK HB; have a9a := n0_; have HI0 := n4_; have HK := n5_; have HB := n6_; clear n0_ n4_ n5_ n6_; clear hb j9b; have hnb104 := q9a.out; have hnc104 := o9a.out; have hnb105 := p9a.out; have hnc105 := d9a.out; have hcz106_0 : w102.cell? ⟨m9a, 0, none⟩ = some (k9a) := bc c9a 0; have hfz106_0 := blk_frozen c9a.out 0; obtain ⟨d9b, e9b, eo108⟩ := Kd.R_slice a9a.out; subst eo108) | ((with_reducible refine gate_builtin (b := .append) (xs := #[.tmp 58, .tmp 60]) rfl ?_); at_builtin; refine Kd.R_append_rows k95 w.heap.size rfl (.tmp 58) (.tmp 60) 24 95 (.agg #[(.int .i64 0), (.int .i64 0)]) 16 rfl Try.underlying24 info95 rfl (by decide) (by omega) v196 y195 b9a _ _ _ (fun k_ => some k_ ≠ (.slice d9b b9a.length e9b : Value).ownBlock) (fun _ => False) rfl rfl ?aO ?aR (fun _ _ h => h) (fun _ h => h.elim) ?aF (Below.refl _ _) ?aS ?aL ?_; (case aR => exact cX ((Kd.R_reads' a9a.out).2.2)); (case aF => exact (fun k_ hk => Kd.fresh' (Kd.R_lt (rr a9a)) k_ hk)); (case aO => exact (rX (Kd.R_mono L9a.out (fun _ hk => hk.2)))); (case aS => exact (keep_size (w := w) (g := g) (row := none) (iK HK))); (case aL => have := LMc98.out; omega); intro v199 w107 ho hb hg hat; rw [← Ny198.out] at ho; have n0_ := Aside0.mk (Kd.R_after (ok := (fun _ => True)) (rr a9a) hg hat); have n1_ := Aside0.mk (blk_grown (g := r9a) (o := .cells #[.slice none 0 0] 26 (0, 0)) kB hg (Kd.R_ne L9a.out f9a.out (by decide))); have n2_ := Aside0.mk (blk_grown (g := m9a) (o := .cells #[.slice d9b b9a.length e9b] 26 (0, 0)) kB hg (Kd.R_ne L9a.out c9a.out (by decide))); have n3_ := Aside0.mk (IsS90.grown (iS HI0) hg (IsS90.own_ne HI0.out L9a.out (by decide))); have n4_ := Aside0.mk (below_weaken (iD HB) HL.out hb); have n5_ := Aside0.mk (KeepBut.trans (iK HK) (KeepBut.of_grown hg g) (Kd.R_base2 L9a.out)); have M9a := Aside0.mk (ho); clear L9a a9a f9a c9a HI0 HB HK; have a9a := n0_; have f9a := n1_; have c9a := n2_; have HI0 := n3_; have HB := n4_; have HK := n5_; clear n0_ n1_ n2_ n3_ n4_ n5_; clear ho hb hg hat) | ((with_reducible refine gate_builtin (b := .append) (xs := #[.tmp 61, .tmp 65]) rfl ?_); at_builtin; refine Kd.R_append k95 w.heap.size rfl (.tmp 61) (.tmp 65) 24 95 (.agg #[(.int .i64 0), (.int .i64 0)]) 16 rfl Try.underlying24 info95 rfl (by decide) (by omega) v199 y198 (⟨s9a, (wrap64 (97 + t160))⟩ : S95) [.int .i64 s9a, .int .i64 (wrap64 (97 + t160))] (fun k_ => some k_ ≠ (.slice d9b b9a.length e9b : Value).ownBlock) (fun _ => False) rfl rfl ?aP (fun _ hk => hk.elim) ?aF ?aO (Below.refl _ _) ?aS ?aL ?_; (case aP => exact k95_mkM _ _ _ (⟨s9a, (wrap64 (97 + t160))⟩ : S95)); (case aF => exact (fun k_ hk => Kd.fresh' (Kd.R_lt (rr a9a)) k_ hk)); (case aO => exact (rr M9a)); (case aS => exact (keep_size (w := w) (g := g) (row := none) (iK HK))); (case aL => have := LMc99.out; omega); intro v202 w109 ho hb hg hat; rw [← Ny201.out] at ho; have n0_ := Aside0.mk (Kd.R_after (ok := (fun _ => True)) (rr a9a) hg hat); have n1_ := Aside0.mk (blk_grown (g := r9a) (o := .cells #[.slice none 0 0] 26 (0, 0)) kB hg (Kd.R_ne M9a.out f9a.out (by decide))); have n2_ := Aside0.mk (blk_grown (g := m9a) (o := .cells #[.slice d9b b9a.length e9b] 26 (0, 0)) kB hg (Kd.R_ne M9a.out c9a.out (by decide))); have n3_ := Aside0.mk (IsS90.grown (iS HI0) hg (IsS90.own_ne HI0.out M9a.out (by decide))); have n4_ := Aside0.mk (below_weaken (iD HB) HL.out hb); have n5_ := Aside0.mk (KeepBut.trans (iK HK) (KeepBut.of_grown hg g) (Kd.R_base2 M9a.out)); have C9a := Aside0.mk (ho); clear M9a a9a f9a c9a HI0 HB HK; have a9a := n0_; have f9a := n1_; have c9a := n2_; have HI0 := n3_; have HB := n4_; have HK := n5_; clear n0_ n1_ n2_ n3_ n4_ n5_; clear ho hb hg hat; obtain ⟨Z9a, Y9a, eo110⟩ := Kd.R_slice C9a.out; subst eo110) | ((with_reducible refine gate_dst (N := 9) rfl ?_); refine bX 9 #[.slice none 0 0] 26 ?_; intro v9a hg w111 hbox hb; have n4_ := Aside0.mk (IsS90.below (iS HI0) hb); have n5_ := Aside0.mk (KeepBut.trans (iK HK) (KeepBut.of_below hb g none) (.inl rfl)); have n6_ := Aside0.mk (below_step (iD HB) hb); have A9a := Aside0.mk (hbox); have GW204 := Aside0.mk ((by rw [hg]; exact (keep_size (w := w) (g := g) (row := none) (iK HK)) : w.heap.size ≤ v9a)); have GE204 := Aside0.mk ((Nat.le_trans HW0.out (by rw [hg]; exact (keep_size (w := w) (g := g) (row := none) (iK HK)) : w.heap.size ≤ v9a) : w0.heap.size ≤ v9a)); have U9a := bl f9a hg; have V9a := bg f9a hg; have W9a := bl c9a hg; have X9a := bg c9a hg; have I9a := Aside0.mk ((by rw [hg]; exact Nat.ne_of_lt (IsS90.lt (show IsS90 w0 _ g s0_0 g9a h9a from iS HI0)) : g ≠ v9a)); have f9b := Aside0.mk ((by rw [hg]; exact Nat.ne_of_gt (IsS90.lt (show IsS90 w0 _ g s0_0 g9a h9a from iS HI0)) : v9a ≠ g)); replace a9a := Aside0.mk (Kd.R_below (rr a9a) hb); replace C9a := Aside0.mk (Kd.R_below (rr C9a) hb); replace f9a := bq f9a hb; replace c9a := bq c9a hb; clear HI0 HK HB; have HI0 := n4_; have HK := n5_; have HB := n6_; clear n4_ n5_ n6_; clear hb hbox hg; have hnb112 := V9a.out; have hnc112 := U9a.out; have hnb113 := X9a.out; have hnc113 := W9a.out; have hnb114 := f9b.out; have hnc114 := I9a.out; have hcz115_0 : w111.cell? ⟨v9a, 0, none⟩ = some (.slice none 0 0) := bc A9a 0; have hfz115_0 := blk_frozen A9a.out 0) | ((with_reducible refine gate_callee (f := 10) rfl ?_); refine goesC_ (some 69) Try.func10 #[.agg #[.slice Z9a y201.length Y9a]] ?_; (with_reducible refine (spec_VocabOk.calls kj43 _ _ y201 true _ ?side1 ?side2 A100.out).mono ?_); (case side1 => refine (Kd.R_reads' (e := 95) (base := w.heap.size) (ok := fun k_ => some k_ ≠ (.slice d9b b9a.length e9b : Value).ownBlock) (n := y201.length) (c := Y9a) ?_).2.2; exact (rX (Kd.R_mono (Kd.R_far (p := ⟨v9a, 0, none⟩) (Kd.R_types C9a.out A9a.out (by decide)) (fun _ hk => hk.2) (.slice Z9a y201.length Y9a)) (fun _ h_ => h_.1)))); (case side2 => exact (Kd.R_reads' C9a.out).2.1); rintro e w116 ⟨rfl, hb⟩; refine ⟨_, rfl, ?_⟩; have n0_ := Aside0.mk (Kd.R_below (rX (Kd.R_mono (Kd.R_far (p := ⟨v9a, 0, none⟩) (Kd.R_types a9a.out A9a.out (by decide)) (fun _ hk => hk.2) (.slice Z9a y201.length Y9a)) (fun _ h_ => h_.1))) hb); have n1_ := Aside0.mk (Kd.R_below (rX (Kd.R_mono (Kd.R_far (p := ⟨v9a, 0, none⟩) (Kd.R_types C9a.out A9a.out (by decide)) (fun _ hk => hk.2) (.slice Z9a y201.length Y9a)) (fun _ h_ => h_.1))) hb); have n2_ := bf f9a hb; have n3_ := bf c9a hb; have n4_ := Aside0.mk (IsS90.below (show IsS90 w0 (w111.setCell ⟨v9a, 0, none⟩ (.slice Z9a y201.length Y9a)) g s0_0 g9a h9a from iS HI0) hb); have n5_ := bp #[.slice Z9a y201.length Y9a] A9a hb; have n6_ := Aside0.mk (KeepBut.trans (iK HK) (KeepBut.of_below hb g none) (.inl rfl)); have n7_ := Aside0.mk (below_step (iD HB) hb); clear a9a C9a f9a c9a HI0 A9a HK HB; have a9a := n0_; have C9a := n1_; have f9a := n2_; have c9a := n3_; have HI0 := n4_; have A9a := n5_; have HK := n6_; have HB := n7_; clear n0_ n1_ n2_ n3_ n4_ n5_ n6_ n7_; (try clear hb); (try clear hb2); (try clear hk); (try clear hi); have hcz117_0 : w116.cell? ⟨v9a, 0, none⟩ = some (.slice Z9a y201.length Y9a) := bc A9a 0; have hfz117_0 := blk_frozen A9a.out 0; have hcz118_0 : w116.cell? ⟨m9a, 0, none⟩ = some (.slice d9b b9a.length e9b) := bc c9a 0; have hfz118_0 := blk_frozen c9a.out 0))
                go_roundg kj43
                case measure => have := HK1.out; have := HJ13.out; have := HJ23.out; have := HJ35.out; have := HJ43.out; omega
                case rel => exact ⟨(wrap64 (x6_1 - 1)), (g9a), (h9a), (y201), (.slice Z9a y201.length Y9a), sR, H', ⟨by have := HK1.out; have := HJ13.out; have := HJ23.out; have := HJ35.out; have := HJ43.out; omega⟩, ⟨rX (Kd.R_mono (Kd.R_far (p := ⟨m9a, 0, none⟩) (Kd.R_types C9a.out c9a.out (by decide)) (fun _ hk => hk.2) (.slice Z9a y201.length Y9a)) (fun _ hk => trivial))⟩, ⟨by (with_reducible repeat first | refine bkN ?_ _ | refine bkD ?_ | refine bkA ?_ _ | refine blk_far ?_ o9a.out _); exact f9a.out⟩, ⟨by (with_reducible repeat first | refine bkN ?_ _ | refine bkD ?_ | refine bkA ?_ _); refine blk_put (cs := #[.slice d9b b9a.length e9b]) ?_ 0 _ rfl; (with_reducible repeat first | refine bkN ?_ _ | refine bkD ?_ | refine bkA ?_ _); exact c9a.out⟩, ⟨iS HI0⟩, ⟨iK HK⟩, ⟨iD HB⟩⟩
               ·replace c101 := Bool.eq_false_iff.mpr c101
                subst c101
                have H1 : (spec_l7Draw.l0 kj43 (wrap64 (x6_1 - 1)) s0_0 g9a h9a b9a) = some (r1, r2, r3) := by rw [if_neg (show ¬ (false = true) by decide)] at H; exact H
                clear H; have H := H1
                clear H1; have H' := Aside0.mk H
                clear H
                go_wp2_with (first | ((with_reducible refine gate_dst (N := 58) rfl ?_); refine Kd.R_lit k95 _ 95 ?hg (N := 58) ?hd (xs := ([] : List (S95))) (inner := []) (ok := fun _ => True) (okp := fun _ => True) ?hr ?hp (fun _ hk => hk) trivial (Below.refl _ _) (Nat.le_refl _) (by simp) ?_; (case hd => rfl); (case hg => rfl); (case hr => first | (go_simp; done) | (go_simp; rfl)); (case hp => exact (Reps.none _ _)); intro v196 w119 k9b hb hg_ hnew_; clear hg_ hnew_; (first | rw [← Ny195.out] at k9b | (simp only [Int.reduceToNat] at k9b; rw [← Ny195.out] at k9b)); have n0_ := Aside0.mk (Kd.R_elder' (rr a9a) (Kd.R_base k9b) hb); have n4_ := Aside0.mk (IsS90.below (iS HI0) hb); have n5_ := Aside0.mk (KeepBut.trans (iK HK) (KeepBut.of_below hb g none) (.inl rfl)); have n6_ := Aside0.mk (below_step (iD HB) hb); have L9a := Aside0.mk (Kd.R_lower (Kd.R_new' k9b (Kd.R_lt (rr a9a))) (keep_size (w := w) (g := g) (row := none) (iK HK))); replace f9a := bq f9a hb; replace c9a := bq c9a hb; clear a9a HI0 HK HB; have a9a := n0_; have HI0 := n4_; have HK := n5_; have HB := n6_; clear n0_ n4_ n5_ n6_; clear hb k9b; have hnb121 := q9a.out; have hnc121 := o9a.out; have hnb122 := p9a.out; have hnc122 := d9a.out; have hcz123_0 : w119.cell? ⟨m9a, 0, none⟩ = some (k9a) := bc c9a 0; have hfz123_0 := blk_frozen c9a.out 0; obtain ⟨l9b, m9b, eo125⟩ := Kd.R_slice a9a.out; subst eo125) | ((with_reducible refine gate_builtin (b := .append) (xs := #[.tmp 58, .tmp 60]) rfl ?_); at_builtin; refine Kd.R_append_rows k95 w.heap.size rfl (.tmp 58) (.tmp 60) 24 95 (.agg #[(.int .i64 0), (.int .i64 0)]) 16 rfl Try.underlying24 info95 rfl (by decide) (by omega) v196 y195 b9a _ _ _ (fun k_ => some k_ ≠ (.slice l9b b9a.length m9b : Value).ownBlock) (fun _ => False) rfl rfl ?aO ?aR (fun _ _ h => h) (fun _ h => h.elim) ?aF (Below.refl _ _) ?aS ?aL ?_; (case aR => exact cX ((Kd.R_reads' a9a.out).2.2)); (case aF => exact (fun k_ hk => Kd.fresh' (Kd.R_lt (rr a9a)) k_ hk)); (case aO => exact (rX (Kd.R_mono L9a.out (fun _ hk => hk.2)))); (case aS => exact (keep_size (w := w) (g := g) (row := none) (iK HK))); (case aL => have := LMc98.out; omega); intro v199 w124 ho hb hg hat; rw [← Ny198.out] at ho; have n0_ := Aside0.mk (Kd.R_after (ok := (fun _ => True)) (rr a9a) hg hat); have n1_ := Aside0.mk (blk_grown (g := r9a) (o := .cells #[.slice none 0 0] 26 (0, 0)) kB hg (Kd.R_ne L9a.out f9a.out (by decide))); have n2_ := Aside0.mk (blk_grown (g := m9a) (o := .cells #[.slice l9b b9a.length m9b] 26 (0, 0)) kB hg (Kd.R_ne L9a.out c9a.out (by decide))); have n3_ := Aside0.mk (IsS90.grown (iS HI0) hg (IsS90.own_ne HI0.out L9a.out (by decide))); have n4_ := Aside0.mk (below_weaken (iD HB) HL.out hb); have n5_ := Aside0.mk (KeepBut.trans (iK HK) (KeepBut.of_grown hg g) (Kd.R_base2 L9a.out)); have M9a := Aside0.mk (ho); clear L9a a9a f9a c9a HI0 HB HK; have a9a := n0_; have f9a := n1_; have c9a := n2_; have HI0 := n3_; have HB := n4_; have HK := n5_; clear n0_ n1_ n2_ n3_ n4_ n5_; clear ho hb hg hat) | ((with_reducible refine gate_builtin (b := .append) (xs := #[.tmp 61, .tmp 65]) rfl ?_); at_builtin; refine Kd.R_append k95 w.heap.size rfl (.tmp 61) (.tmp 65) 24 95 (.agg #[(.int .i64 0), (.int .i64 0)]) 16 rfl Try.underlying24 info95 rfl (by decide) (by omega) v199 y198 (⟨s9a, (wrap64 (97 + t160))⟩ : S95) [.int .i64 s9a, .int .i64 (wrap64 (97 + t160))] (fun k_ => some k_ ≠ (.slice l9b b9a.length m9b : Value).ownBlock) (fun _ => False) rfl rfl ?aP (fun _ hk => hk.elim) ?aF ?aO (Below.refl _ _) ?aS ?aL ?_; (case aP => exact k95_mkM _ _ _ (⟨s9a, (wrap64 (97 + t160))⟩ : S95)); (case aF => exact (fun k_ hk => Kd.fresh' (Kd.R_lt (rr a9a)) k_ hk)); (case aO => exact (rr M9a)); (case aS => exact (keep_size (w := w) (g := g) (row := none) (iK HK))); (case aL => have := LMc99.out; omega); intro v202 w126 ho hb hg hat; rw [← Ny201.out] at ho; have n0_ := Aside0.mk (Kd.R_after (ok := (fun _ => True)) (rr a9a) hg hat); have n1_ := Aside0.mk (blk_grown (g := r9a) (o := .cells #[.slice none 0 0] 26 (0, 0)) kB hg (Kd.R_ne M9a.out f9a.out (by decide))); have n2_ := Aside0.mk (blk_grown (g := m9a) (o := .cells #[.slice l9b b9a.length m9b] 26 (0, 0)) kB hg (Kd.R_ne M9a.out c9a.out (by decide))); have n3_ := Aside0.mk (IsS90.grown (iS HI0) hg (IsS90.own_ne HI0.out M9a.out (by decide))); have n4_ := Aside0.mk (below_weaken (iD HB) HL.out hb); have n5_ := Aside0.mk (KeepBut.trans (iK HK) (KeepBut.of_grown hg g) (Kd.R_base2 M9a.out)); have C9a := Aside0.mk (ho); clear M9a a9a f9a c9a HI0 HB HK; have a9a := n0_; have f9a := n1_; have c9a := n2_; have HI0 := n3_; have HB := n4_; have HK := n5_; clear n0_ n1_ n2_ n3_ n4_ n5_; clear ho hb hg hat; obtain ⟨n9b, g9b, eo127⟩ := Kd.R_slice C9a.out; subst eo127) | ((with_reducible refine gate_dst (N := 9) rfl ?_); refine bX 9 #[.slice none 0 0] 26 ?_; intro v9a hg w128 hbox hb; have n4_ := Aside0.mk (IsS90.below (iS HI0) hb); have n5_ := Aside0.mk (KeepBut.trans (iK HK) (KeepBut.of_below hb g none) (.inl rfl)); have n6_ := Aside0.mk (below_step (iD HB) hb); have A9a := Aside0.mk (hbox); have GW204 := Aside0.mk ((by rw [hg]; exact (keep_size (w := w) (g := g) (row := none) (iK HK)) : w.heap.size ≤ v9a)); have GE204 := Aside0.mk ((Nat.le_trans HW0.out (by rw [hg]; exact (keep_size (w := w) (g := g) (row := none) (iK HK)) : w.heap.size ≤ v9a) : w0.heap.size ≤ v9a)); have U9a := bl f9a hg; have V9a := bg f9a hg; have W9a := bl c9a hg; have X9a := bg c9a hg; have I9a := Aside0.mk ((by rw [hg]; exact Nat.ne_of_lt (IsS90.lt (show IsS90 w0 _ g s0_0 g9a h9a from iS HI0)) : g ≠ v9a)); have f9b := Aside0.mk ((by rw [hg]; exact Nat.ne_of_gt (IsS90.lt (show IsS90 w0 _ g s0_0 g9a h9a from iS HI0)) : v9a ≠ g)); replace a9a := Aside0.mk (Kd.R_below (rr a9a) hb); replace C9a := Aside0.mk (Kd.R_below (rr C9a) hb); replace f9a := bq f9a hb; replace c9a := bq c9a hb; clear HI0 HK HB; have HI0 := n4_; have HK := n5_; have HB := n6_; clear n4_ n5_ n6_; clear hb hbox hg; have hnb129 := V9a.out; have hnc129 := U9a.out; have hnb130 := X9a.out; have hnc130 := W9a.out; have hnb131 := f9b.out; have hnc131 := I9a.out; have hcz132_0 : w128.cell? ⟨v9a, 0, none⟩ = some (.slice none 0 0) := bc A9a 0; have hfz132_0 := blk_frozen A9a.out 0) | ((with_reducible refine gate_callee (f := 10) rfl ?_); refine goesC_ (some 69) Try.func10 #[.agg #[.slice n9b y201.length g9b]] ?_; (with_reducible refine (spec_VocabOk.calls kj43 _ _ y201 false _ ?side1 ?side2 A100.out).mono ?_); (case side1 => refine (Kd.R_reads' (e := 95) (base := w.heap.size) (ok := fun k_ => some k_ ≠ (.slice l9b b9a.length m9b : Value).ownBlock) (n := y201.length) (c := g9b) ?_).2.2; exact (rX (Kd.R_mono (Kd.R_far (p := ⟨v9a, 0, none⟩) (Kd.R_types C9a.out A9a.out (by decide)) (fun _ hk => hk.2) (.slice n9b y201.length g9b)) (fun _ h_ => h_.1)))); (case side2 => exact (Kd.R_reads' C9a.out).2.1); rintro e w133 ⟨rfl, hb⟩; refine ⟨_, rfl, ?_⟩; have n0_ := Aside0.mk (Kd.R_below (rX (Kd.R_mono (Kd.R_far (p := ⟨v9a, 0, none⟩) (Kd.R_types a9a.out A9a.out (by decide)) (fun _ hk => hk.2) (.slice n9b y201.length g9b)) (fun _ h_ => h_.1))) hb); have n1_ := Aside0.mk (Kd.R_below (rX (Kd.R_mono (Kd.R_far (p := ⟨v9a, 0, none⟩) (Kd.R_types C9a.out A9a.out (by decide)) (fun _ hk => hk.2) (.slice n9b y201.length g9b)) (fun _ h_ => h_.1))) hb); have n2_ := bf f9a hb; have n3_ := bf c9a hb; have n4_ := Aside0.mk (IsS90.below (show IsS90 w0 (w128.setCell ⟨v9a, 0, none⟩ (.slice n9b y201.length g9b)) g s0_0 g9a h9a from iS HI0) hb); have n5_ := bp #[.slice n9b y201.length g9b] A9a hb; have n6_ := Aside0.mk (KeepBut.trans (iK HK) (KeepBut.of_below hb g none) (.inl rfl)); have n7_ := Aside0.mk (below_step (iD HB) hb); clear a9a C9a f9a c9a HI0 A9a HK HB; have a9a := n0_; have C9a := n1_; have f9a := n2_; have c9a := n3_; have HI0 := n4_; have A9a := n5_; have HK := n6_; have HB := n7_; clear n0_ n1_ n2_ n3_ n4_ n5_ n6_ n7_; (try clear hb); (try clear hb2); (try clear hk); (try clear hi)))
                go_roundg kj43
                case measure => have := HK1.out; have := HJ13.out; have := HJ23.out; have := HJ35.out; have := HJ43.out; omega
                case rel => exact ⟨(wrap64 (x6_1 - 1)), (g9a), (h9a), (b9a), (.slice l9b b9a.length m9b), sR, H', ⟨by have := HK1.out; have := HJ13.out; have := HJ23.out; have := HJ35.out; have := HJ43.out; omega⟩, ⟨rX (Kd.R_mono a9a.out (fun _ hk => trivial))⟩, ⟨bb f9a⟩, ⟨bb c9a⟩, ⟨iS HI0⟩, ⟨iK HK⟩, ⟨iD HB⟩⟩
              ·rw [if_neg c99] at H
               exact absurd H (by simp)
             ·rw [if_neg c98] at H
              exact absurd H (by simp)
   ·rw [if_neg c10] at H
    have c10b0 : decide (0 < x6_1) = false := decide_eq_false c10
    clear c10; simp only [Option.some.injEq, Prod.mk.injEq] at H
    obtain ⟨rfl, rfl, rfl⟩ := H
    have hnb134 := q9a.out; have hnc134 := o9a.out; have hnb135 := p9a.out; have hnc135 := d9a.out; have hcz136_0 : wr.cell? ⟨m9a, 0, none⟩ = some (k9a) := bc c9a 0
    have hfz136_0 := blk_frozen c9a.out 0; obtain ⟨Ao137, co137, eo137⟩ := Kd.R_slice a9a.out
    subst eo137
    have hnb138 := t9a.out; have hnc138 := e9a.out; have hcz139_0 : wr.cell? ⟨r9a, 0, none⟩ = some (.slice none 0 0) := bc f9a 0
    have hfz139_0 := blk_frozen f9a.out 0
    go_wp2
    refine bodyPost_ret (results_cell_row rfl _ _ r9a 26 #[.slice Ao137 b9a.length co137] (0, 0) _ rfl (by (with_reducible repeat first | refine bkN ?_ _ | refine bkD ?_ | refine bkA ?_ _); refine blk_put (cs := #[.slice none 0 0]) ?_ 0 _ rfl; (with_reducible repeat first | refine bkN ?_ _ | refine bkD ?_ | refine bkA ?_ _); exact f9a.out) Try.underlying26 rfl (by kernel_rfl)) rfl ?_
    exact ⟨_, eR, rX (Kd.R_mono (Kd.R_far (p := ⟨r9a, 0, none⟩) (Kd.R_types a9a.out f9a.out (by decide)) (fun _ hk => hk.2) (.slice Ao137 b9a.length co137)) (fun _ hk => trivial)), iS HI0, iD HB, iK HK⟩
end Go.Proofs.Ytddebnchbbmbkaa.PFnMemo
