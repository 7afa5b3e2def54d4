-- The machine side of a law: written by a program of this session (wip/tools), a turned print.
import Derived.Test.YtobkmpihjfiihaaDoorPFnCanonx0
import Derived.Test.YtobkmpihjfiihaaDoorPFnCanonx8
import Derived.Test.YtobkmpihjfiihaaDoorPFnCanonx9
import Derived.Test.YtobkmpihjfiihaaDoorPFnCanonx10
import Derived.Test.YtobkmpihjfiihaaDoorPFnCanonx12
import Derived.Test.YtobkmpihjfiihaaDoorPFnCanonx13
import Derived.Test.YtobkmpihjfiihaaDoorPFnCanonx14
namespace Go.Proofs.YtobkmpihjfiihaaDoor.PFnCanon
open Go.RowKit Go.Proofs.YtobkmpihjfiihaaDoorW.PrintWords Go.Proofs.YtobkmpihjfiihaaDoorW.PrintLast Go.Proofs.YtobkmpihjfiihaaDoorW.PrintMore
attribute [local go_sem] max2_int min2_int max_two min_two max_three min_three max_four min_four   -- for this text's walks alone
set_option linter.unusedVariables false
set_option linter.unusedSimpArgs false
def spec_l1Spoil.f (k : Nat) (s0_0 : List Int) (s0_1 : Int) (s0_2 : Int) (a1 : ByteArray) : Option (ByteArray × Int × Int) := if (a1.size : Int) = 0 then ((spec_l1Text.f k s0_0 s0_1 s0_2 3).bind fun bt484 => (some (bt484.1, bt484.2.1, bt484.2.2))) else ((spec_l1Below.f s0_0 s0_1 s0_2 (a1.size : Int)).bind fun bt487 => ((spec_l1Below.f s0_0 bt487.2.1 bt487.2.2 4).bind fun bt490 => (if bt490.1 = 0 then (if 0 ≤ bt487.1 then (if bt487.1 ≤ (a1.size : Int) then (if 0 ≤ (wrap64 (bt487.1 + 1)) then (if (wrap64 (bt487.1 + 1)) ≤ (a1.size : Int) then (if (a1.extract 0 (bt487.1 : Int).toNat).size + (a1.extract ((wrap64 (bt487.1 + 1)) : Int).toNat a1.size).size ≤ 9223372036854775807 then (some ((a1.extract 0 (bt487.1 : Int).toNat) ++ (a1.extract ((wrap64 (bt487.1 + 1)) : Int).toNat a1.size), bt490.2.1, bt490.2.2)) else (none)) else (none)) else (none)) else (none)) else (none)) else (if bt490.1 = 1 then (if 0 ≤ bt487.1 then (if bt487.1 ≤ (a1.size : Int) then ((spec_l1Byte.f s0_0 bt490.2.1 bt490.2.2).bind fun bt493 => ((some (([(bt493.1) % 256] : List Int) : List Int)).bind fun y496 => (if (a1.extract 0 (bt487.1 : Int).toNat).size + (strOfNums y496).size ≤ 9223372036854775807 then (if ((a1.extract 0 (bt487.1 : Int).toNat) ++ (strOfNums y496)).size + (a1.extract (bt487.1 : Int).toNat a1.size).size ≤ 9223372036854775807 then (some (((a1.extract 0 (bt487.1 : Int).toNat) ++ (strOfNums y496)) ++ (a1.extract (bt487.1 : Int).toNat a1.size), bt493.2.1, bt493.2.2)) else (none)) else (none)))) else (none)) else (none)) else (if bt490.1 = 2 then (if 0 ≤ bt487.1 then (if bt487.1 ≤ (a1.size : Int) then (some (a1.extract 0 (bt487.1 : Int).toNat, bt490.2.1, bt490.2.2)) else (none)) else (none)) else (if 0 ≤ bt487.1 then (if bt487.1 ≤ (a1.size : Int) then (if bt487.1 < (a1.size : Int) then ((spec_l1Below.f s0_0 bt490.2.1 bt490.2.2 255).bind fun bt499 => ((some (([(Go.bits .xor .i64 (wrap64 (bt a1 bt487.1)) (wrap64 (1 + bt499.1))) % 256] : List Int) : List Int)).bind fun y502 => (if (a1.extract 0 (bt487.1 : Int).toNat).size + (strOfNums y502).size ≤ 9223372036854775807 then (if 0 ≤ (wrap64 (bt487.1 + 1)) then (if (wrap64 (bt487.1 + 1)) ≤ (a1.size : Int) then (if ((a1.extract 0 (bt487.1 : Int).toNat) ++ (strOfNums y502)).size + (a1.extract ((wrap64 (bt487.1 + 1)) : Int).toNat a1.size).size ≤ 9223372036854775807 then (some (((a1.extract 0 (bt487.1 : Int).toNat) ++ (strOfNums y502)) ++ (a1.extract ((wrap64 (bt487.1 + 1)) : Int).toNat a1.size), bt499.2.1, bt499.2.2)) else (none)) else (none)) else (none)) else (none)))) else (none)) else (none)) else (none)))))))
theorem spec_l1Spoil.mono : ∀ a0 a1 a2 a3 k, LeO (spec_l1Spoil.f k a0 a1 a2 a3) (spec_l1Spoil.f (k + 1) a0 a1 a2 a3) := by
 intro a0 a1 a2 a3 k
 unfold spec_l1Spoil.f
 repeat' first
   | (with_reducible exact spec_l1Text.mono _ _ _ _ _)
   | (with_reducible exact LeO.refl _)
   | (with_reducible exact LeO.none _)
   | (with_reducible refine LeO.ite ?_ ?_)
   | (with_reducible refine LeO.bind ?_ (fun _ => ?_))
   | exact spec_l1Text.mono _ _ _ _ _
   | exact LeO.none _
   | refine LeO.ite ?_ ?_
   | refine LeO.bind ?_ (fun _ => ?_)
def spec_l1Spoil.T6 : Bool × List (List Nat × List Nat) := (true, [([], []), ([], []), ([0, 1], [0, 1]), ([], []), ([], []), ([4], [4]), ([3, 5], [3, 5]), ([2, 6], [2, 6]), ([7, 0, 1, 2, 3, 4, 5, 6, 7], [7])])
def spec_l1Spoil.B6 : List Nat := [0, 0, 3, 0, 0, 16, 56, 127, 255]
theorem spec_l1Spoil.tab6 : rtab .any (opsOf Tryd.f63 6) = spec_l1Spoil.T6 := by kernel_rfl
theorem spec_l1Spoil.bits6 : waitsOk spec_l1Spoil.T6.2 spec_l1Spoil.B6 = true := by kernel_rfl
def spec_l1Spoil.T8 : Bool × List (List Nat × List Nat) := (true, [([], []), ([], []), ([0, 1], [0, 1]), ([], []), ([3], [3]), ([4], [4]), ([5], [5]), ([6], [6]), ([2, 7], [2, 7]), ([], []), ([], []), ([9, 10], [9, 10]), ([8, 11], [8, 11]), ([12, 4, 0, 1, 2, 3, 4, 5, 6, 7, 8, 9, 10, 11, 12], [12])])
def spec_l1Spoil.B8 : List Nat := [0, 0, 3, 0, 8, 24, 56, 120, 255, 0, 0, 1536, 4095, 8191]
theorem spec_l1Spoil.tab8 : rtab .any (opsOf Tryd.f63 8) = spec_l1Spoil.T8 := by kernel_rfl
theorem spec_l1Spoil.bits8 : waitsOk spec_l1Spoil.T8.2 spec_l1Spoil.B8 = true := by kernel_rfl
def spec_l1Spoil.T11 : Bool × List (List Nat × List Nat) := (true, [([], []), ([], []), ([0, 1], [0, 1]), ([], []), ([], []), ([3, 4], [3, 4]), ([5], [5]), ([], []), ([7], [7]), ([8], [8]), ([6, 9], [6, 9]), ([10], [10]), ([11], [11]), ([12], [12]), ([2, 13], [2, 13]), ([], []), ([], []), ([16], [16]), ([15, 17], [15, 17]), ([14, 18], [14, 18]), ([19, 8, 0, 1, 2, 3, 4, 5, 6, 7, 8, 9, 10, 11, 12, 13, 14, 15, 16, 17, 18, 19], [19])])
def spec_l1Spoil.B11 : List Nat := [0, 0, 3, 0, 0, 24, 56, 0, 128, 384, 1016, 2040, 4088, 8184, 16383, 0, 0, 65536, 229376, 524287, 1048575]
theorem spec_l1Spoil.tab11 : rtab .any (opsOf Tryd.f63 11) = spec_l1Spoil.T11 := by kernel_rfl
theorem spec_l1Spoil.bits11 : waitsOk spec_l1Spoil.T11.2 spec_l1Spoil.B11 = true := by kernel_rfl
set_option maxHeartbeats 8000000 in
set_option maxRecDepth 100000 in
theorem spec_l1Spoil.calls (k : Nat) (g : Nat) (s0_0 : List Int) (s0_1 : Int) (s0_2 : Int) (a1 : ByteArray) (r1 : ByteArray) (r2 : Int) (r3 : Int) (w0 w : World) (hI : IsS95 w0 w g s0_0 s0_1 s0_2) (hB : Below w0.heap.size w0 w) (h : spec_l1Spoil.f k s0_0 s0_1 s0_2 a1 = some (r1, r2, r3)) :
  Calls Tryd.prog 63 #[.pointer (some ⟨g, 0, none⟩), .string a1] w fun e w' => e = .returned (.string r1) ∧ IsS95 w0 w' g s0_0 r2 r3 ∧ Below w0.heap.size w0 w' ∧ KeepBut w w' g none := by
 have HI0 := Aside0.mk hI
 have HK := Aside0.mk (KeepBut.refl w g none)
 have HL := Aside0.mk hB.size
 clear hI; have HW0 := Aside0.mk hB.size
 have HB := Aside0.mk hB
 clear hB; have H : (if (a1.size : Int) = 0 then ((spec_l1Text.f k s0_0 s0_1 s0_2 3).bind fun bt484 => (some (bt484.1, bt484.2.1, bt484.2.2))) else ((spec_l1Below.f s0_0 s0_1 s0_2 (a1.size : Int)).bind fun a9a => ((spec_l1Below.f s0_0 a9a.2.1 a9a.2.2 4).bind fun b9a => (if b9a.1 = 0 then (if 0 ≤ a9a.1 then (if a9a.1 ≤ (a1.size : Int) then (if 0 ≤ (wrap64 (a9a.1 + 1)) then (if (wrap64 (a9a.1 + 1)) ≤ (a1.size : Int) then (if (a1.extract 0 (a9a.1 : Int).toNat).size + (a1.extract ((wrap64 (a9a.1 + 1)) : Int).toNat a1.size).size ≤ 9223372036854775807 then (some ((a1.extract 0 (a9a.1 : Int).toNat) ++ (a1.extract ((wrap64 (a9a.1 + 1)) : Int).toNat a1.size), b9a.2.1, b9a.2.2)) else (none)) else (none)) else (none)) else (none)) else (none)) else (if b9a.1 = 1 then (if 0 ≤ a9a.1 then (if a9a.1 ≤ (a1.size : Int) then ((spec_l1Byte.f s0_0 b9a.2.1 b9a.2.2).bind fun c9a => ((some (([(c9a.1) % 256] : List Int) : List Int)).bind fun y496 => (if (a1.extract 0 (a9a.1 : Int).toNat).size + (strOfNums y496).size ≤ 9223372036854775807 then (if ((a1.extract 0 (a9a.1 : Int).toNat) ++ (strOfNums y496)).size + (a1.extract (a9a.1 : Int).toNat a1.size).size ≤ 9223372036854775807 then (some (((a1.extract 0 (a9a.1 : Int).toNat) ++ (strOfNums y496)) ++ (a1.extract (a9a.1 : Int).toNat a1.size), c9a.2.1, c9a.2.2)) else (none)) else (none)))) else (none)) else (none)) else (if b9a.1 = 2 then (if 0 ≤ a9a.1 then (if a9a.1 ≤ (a1.size : Int) then (some (a1.extract 0 (a9a.1 : Int).toNat, b9a.2.1, b9a.2.2)) else (none)) else (none)) else (if 0 ≤ a9a.1 then (if a9a.1 ≤ (a1.size : Int) then (if a9a.1 < (a1.size : Int) then ((spec_l1Below.f s0_0 b9a.2.1 b9a.2.2 255).bind fun d9a => ((some (([(Go.bits .xor .i64 (wrap64 (bt a1 a9a.1)) (wrap64 (1 + d9a.1))) % 256] : List Int) : List Int)).bind fun y502 => (if (a1.extract 0 (a9a.1 : Int).toNat).size + (strOfNums y502).size ≤ 9223372036854775807 then (if 0 ≤ (wrap64 (a9a.1 + 1)) then (if (wrap64 (a9a.1 + 1)) ≤ (a1.size : Int) then (if ((a1.extract 0 (a9a.1 : Int).toNat) ++ (strOfNums y502)).size + (a1.extract ((wrap64 (a9a.1 + 1)) : Int).toNat a1.size).size ≤ 9223372036854775807 then (some (((a1.extract 0 (a9a.1 : Int).toNat) ++ (strOfNums y502)) ++ (a1.extract ((wrap64 (a9a.1 + 1)) : Int).toNat a1.size), d9a.2.1, d9a.2.2)) else (none)) else (none)) else (none)) else (none)))) else (none)) else (none)) else (none)))))))) = some (r1, r2, r3) := h
 clear h
 by_cases c3 : (a1.size : Int) = 0
 ·rw [if_pos c3] at H
  have c3b0 : ((a1.size : Int) == 0) = true := beq_iff_eq.mpr c3
  have c3b1 : ((a1.size : Int) != 0) = false := bne_eq_false_iff_eq.mpr c3
  clear c3; replace H := Option.bind_eq_some_iff.mp H
  obtain ⟨⟨t484, t485, t486⟩, A40, H⟩ := H
  replace H : (some (t484, t485, t486)) = some (r1, r2, r3) := H
  have A4 := Aside0.mk A40
  clear A40; simp only [Option.some.injEq, Prod.mk.injEq] at H
  obtain ⟨rfl, rfl, rfl⟩ := H
  go_enter Tryd.func63, Tryd.ntmps63
  go_wp2_with (first | ((with_reducible refine gate_callee (f := 80) rfl ?_); refine goesC_ (some 10) Tryd.func80 #[.pointer (some ⟨g, 0, none⟩), .int .i64 3] ?_; (with_reducible refine (spec_l1Text.calls k g s0_0 s0_1 s0_2 3 t484 t485 t486 w0 _ ?side1 ?side2 A4.out).mono ?_); (case side1 => repeat (first | (with_reducible first | exact HI0.out | apply IsS95.alloc | apply IsS95.drewN | apply IsS95.drew | apply IsS95.set_1 | apply IsS95.set_2) | exact HI0.out)); (case side2 => repeat (first | (with_reducible first | exact HB.out | apply below_alloc | apply pw_below_drewN | apply below_drew1 | refine below_set ?_ (IsS95.ge HI0.out)) | exact HB.out)); rintro e w5 ⟨rfl, hi, hb, hk⟩; refine ⟨_, rfl, ?_⟩; have n0_ := Aside0.mk (KeepBut.trans (by repeat (first | (with_reducible first | exact HK.out | apply KeepBut.set_ | apply keep_drewN | apply keep_drew | apply keep_alloc) | exact HK.out)) hk (.inl rfl)); have n1_ := Aside0.mk (hb); have n2_ := Aside0.mk (hi); clear HK HB HI0; have HK := n0_; have HB := n1_; have HI0 := n2_; clear n0_ n1_ n2_; (try clear hb); (try clear hb2); (try clear hk); (try clear hi)))
  go_ret
  exact ⟨by first | rfl | (simp [errW_none, errW_some] <;> rfl) | (simp [*, errW_none, errW_some] <;> rfl), by repeat (first | (with_reducible first | exact HI0.out | apply IsS95.alloc | apply IsS95.drewN | apply IsS95.drew | apply IsS95.set_1 | apply IsS95.set_2) | exact HI0.out), by repeat (first | (with_reducible first | exact HB.out | apply below_alloc | apply pw_below_drewN | apply below_drew1 | refine below_set ?_ (IsS95.ge HI0.out)) | exact HB.out), by repeat (first | (with_reducible first | exact HK.out | apply KeepBut.set_ | apply keep_drewN | apply keep_drew | apply keep_alloc) | exact HK.out)⟩
 ·rw [if_neg c3] at H
  have c3b0 : ((a1.size : Int) == 0) = false := beq_eq_false_iff_ne.mpr c3
  have c3b1 : ((a1.size : Int) != 0) = true := bne_iff_ne.mpr c3
  replace H := Option.bind_eq_some_iff.mp H
  obtain ⟨⟨t487, t488, t489⟩, A60, H⟩ := H
  replace H : ((spec_l1Below.f s0_0 t488 t489 4).bind fun b9a => (if b9a.1 = 0 then (if 0 ≤ t487 then (if t487 ≤ (a1.size : Int) then (if 0 ≤ (wrap64 (t487 + 1)) then (if (wrap64 (t487 + 1)) ≤ (a1.size : Int) then (if (a1.extract 0 (t487 : Int).toNat).size + (a1.extract ((wrap64 (t487 + 1)) : Int).toNat a1.size).size ≤ 9223372036854775807 then (some ((a1.extract 0 (t487 : Int).toNat) ++ (a1.extract ((wrap64 (t487 + 1)) : Int).toNat a1.size), b9a.2.1, b9a.2.2)) else (none)) else (none)) else (none)) else (none)) else (none)) else (if b9a.1 = 1 then (if 0 ≤ t487 then (if t487 ≤ (a1.size : Int) then ((spec_l1Byte.f s0_0 b9a.2.1 b9a.2.2).bind fun c9a => ((some (([(c9a.1) % 256] : List Int) : List Int)).bind fun y496 => (if (a1.extract 0 (t487 : Int).toNat).size + (strOfNums y496).size ≤ 9223372036854775807 then (if ((a1.extract 0 (t487 : Int).toNat) ++ (strOfNums y496)).size + (a1.extract (t487 : Int).toNat a1.size).size ≤ 9223372036854775807 then (some (((a1.extract 0 (t487 : Int).toNat) ++ (strOfNums y496)) ++ (a1.extract (t487 : Int).toNat a1.size), c9a.2.1, c9a.2.2)) else (none)) else (none)))) else (none)) else (none)) else (if b9a.1 = 2 then (if 0 ≤ t487 then (if t487 ≤ (a1.size : Int) then (some (a1.extract 0 (t487 : Int).toNat, b9a.2.1, b9a.2.2)) else (none)) else (none)) else (if 0 ≤ t487 then (if t487 ≤ (a1.size : Int) then (if t487 < (a1.size : Int) then ((spec_l1Below.f s0_0 b9a.2.1 b9a.2.2 255).bind fun d9a => ((some (([(Go.bits .xor .i64 (wrap64 (bt a1 t487)) (wrap64 (1 + d9a.1))) % 256] : List Int) : List Int)).bind fun y502 => (if (a1.extract 0 (t487 : Int).toNat).size + (strOfNums y502).size ≤ 9223372036854775807 then (if 0 ≤ (wrap64 (t487 + 1)) then (if (wrap64 (t487 + 1)) ≤ (a1.size : Int) then (if ((a1.extract 0 (t487 : Int).toNat) ++ (strOfNums y502)).size + (a1.extract ((wrap64 (t487 + 1)) : Int).toNat a1.size).size ≤ 9223372036854775807 then (some (((a1.extract 0 (t487 : Int).toNat) ++ (strOfNums y502)) ++ (a1.extract ((wrap64 (t487 + 1)) : Int).toNat a1.size), d9a.2.1, d9a.2.2)) else (none)) else (none)) else (none)) else (none)))) else (none)) else (none)) else (none)))))) = some (r1, r2, r3) := H
  have A6 := Aside0.mk A60
  clear A60; replace H := Option.bind_eq_some_iff.mp H
  obtain ⟨⟨t490, t491, t492⟩, A70, H⟩ := H
  replace H : (if t490 = 0 then (if 0 ≤ t487 then (if t487 ≤ (a1.size : Int) then (if 0 ≤ (wrap64 (t487 + 1)) then (if (wrap64 (t487 + 1)) ≤ (a1.size : Int) then (if (a1.extract 0 (t487 : Int).toNat).size + (a1.extract ((wrap64 (t487 + 1)) : Int).toNat a1.size).size ≤ 9223372036854775807 then (some ((a1.extract 0 (t487 : Int).toNat) ++ (a1.extract ((wrap64 (t487 + 1)) : Int).toNat a1.size), t491, t492)) else (none)) else (none)) else (none)) else (none)) else (none)) else (if t490 = 1 then (if 0 ≤ t487 then (if t487 ≤ (a1.size : Int) then ((spec_l1Byte.f s0_0 t491 t492).bind fun c9a => ((some (([(c9a.1) % 256] : List Int) : List Int)).bind fun y496 => (if (a1.extract 0 (t487 : Int).toNat).size + (strOfNums y496).size ≤ 9223372036854775807 then (if ((a1.extract 0 (t487 : Int).toNat) ++ (strOfNums y496)).size + (a1.extract (t487 : Int).toNat a1.size).size ≤ 9223372036854775807 then (some (((a1.extract 0 (t487 : Int).toNat) ++ (strOfNums y496)) ++ (a1.extract (t487 : Int).toNat a1.size), c9a.2.1, c9a.2.2)) else (none)) else (none)))) else (none)) else (none)) else (if t490 = 2 then (if 0 ≤ t487 then (if t487 ≤ (a1.size : Int) then (some (a1.extract 0 (t487 : Int).toNat, t491, t492)) else (none)) else (none)) else (if 0 ≤ t487 then (if t487 ≤ (a1.size : Int) then (if t487 < (a1.size : Int) then ((spec_l1Below.f s0_0 t491 t492 255).bind fun d9a => ((some (([(Go.bits .xor .i64 (wrap64 (bt a1 t487)) (wrap64 (1 + d9a.1))) % 256] : List Int) : List Int)).bind fun y502 => (if (a1.extract 0 (t487 : Int).toNat).size + (strOfNums y502).size ≤ 9223372036854775807 then (if 0 ≤ (wrap64 (t487 + 1)) then (if (wrap64 (t487 + 1)) ≤ (a1.size : Int) then (if ((a1.extract 0 (t487 : Int).toNat) ++ (strOfNums y502)).size + (a1.extract ((wrap64 (t487 + 1)) : Int).toNat a1.size).size ≤ 9223372036854775807 then (some (((a1.extract 0 (t487 : Int).toNat) ++ (strOfNums y502)) ++ (a1.extract ((wrap64 (t487 + 1)) : Int).toNat a1.size), d9a.2.1, d9a.2.2)) else (none)) else (none)) else (none)) else (none)))) else (none)) else (none)) else (none))))) = some (r1, r2, r3) := H
  have A7 := Aside0.mk A70
  clear A70
  by_cases c8 : t490 = 0
  ·rw [if_pos c8] at H
   have c8b0 : (t490 == 0) = true := beq_iff_eq.mpr c8
   have c8b1 : (t490 != 0) = false := bne_eq_false_iff_eq.mpr c8
   clear c8
   by_cases c9 : 0 ≤ t487
   ·rw [if_pos c9] at H
    have c9b0 := eq_true c9
    have c9b1 : decide (0 ≤ t487) = true := decide_eq_true c9
    clear c9
    by_cases c10 : t487 ≤ (a1.size : Int)
    ·rw [if_pos c10] at H
     have c10b0 := eq_true c10
     have c10b1 : decide (t487 ≤ (a1.size : Int)) = true := decide_eq_true c10
     clear c10; obtain ⟨ji11, hji11⟩ : ∃ j_ : Int, (wrap64 (t487 + 1)) = j_ := ⟨_, rfl⟩
     replace H : (if 0 ≤ (ji11) then (if (ji11) ≤ (a1.size : Int) then (if (a1.extract 0 (t487 : Int).toNat).size + (a1.extract ((ji11) : Int).toNat a1.size).size ≤ 9223372036854775807 then (some ((a1.extract 0 (t487 : Int).toNat) ++ (a1.extract ((ji11) : Int).toNat a1.size), t491, t492)) else (none)) else (none)) else (none)) = some (r1, r2, r3) := by first | (rw [hji11] at H; exact H) | (simp only [hji11] at H ⊢; exact H)
     (try rw [hji11] at A6)
     (try rw [hji11] at A7)
     have hji11w : (IntKind.i64.wrap (t487 + 1)) = ji11 := (i64_w _).trans hji11
     by_cases c12 : 0 ≤ (ji11)
     ·rw [if_pos c12] at H
      have c12b0 := eq_true c12
      have c12b1 : decide (0 ≤ (ji11)) = true := decide_eq_true c12
      clear c12
      by_cases c13 : (ji11) ≤ (a1.size : Int)
      ·rw [if_pos c13] at H
       have c13b0 := eq_true c13
       have c13b1 : decide ((ji11) ≤ (a1.size : Int)) = true := decide_eq_true c13
       clear c13
       by_cases c14 : (a1.extract 0 (t487 : Int).toNat).size + (a1.extract ((ji11) : Int).toNat a1.size).size ≤ 9223372036854775807
       ·rw [if_pos c14] at H
        have c14b0 := eq_true c14
        have c14b1 : decide ((a1.extract 0 (t487 : Int).toNat).size + (a1.extract ((ji11) : Int).toNat a1.size).size ≤ 9223372036854775807) = true := decide_eq_true c14
        try have c14b2 : (9223372036854775807 < (a1.extract 0 (t487 : Int).toNat).size + (a1.extract ((ji11) : Int).toNat a1.size).size) = False := eq_false (Nat.not_lt.2 c14)
        try have c14b7 : (9223372036854775807 < (t487 : Int).toNat + (a1.size - ((ji11) : Int).toNat)) = False := eq_false (by have h_ := c14; simp only [ByteArray.size_append, ByteArray.size_extract] at h_; have g0_ := of_decide_eq_true c9b1; have g1_ := of_decide_eq_true c10b1; have g2_ := of_decide_eq_true c12b1; have g3_ := of_decide_eq_true c13b1; have g4_ := of_decide_eq_true c14b1; omega)
        simp only [Option.some.injEq, Prod.mk.injEq] at H
        obtain ⟨rfl, rfl, rfl⟩ := H
        go_enter Tryd.func63, Tryd.ntmps63
        try go_wp2_with (first | ((with_reducible refine gate_callee (f := 77) rfl ?_); refine goesC_ (some 14) Tryd.func77 #[.pointer (some ⟨g, 0, none⟩), .int .i64 (a1.size : Int)] ?_; (with_reducible refine (spec_l1Below.calls g s0_0 s0_1 s0_2 (a1.size : Int) t487 t488 t489 w0 _ ?side1 ?side2 A6.out).mono ?_); (case side1 => repeat (first | (with_reducible first | exact HI0.out | apply IsS95.alloc | apply IsS95.drewN | apply IsS95.drew | apply IsS95.set_1 | apply IsS95.set_2) | exact HI0.out)); (case side2 => repeat (first | (with_reducible first | exact HB.out | apply below_alloc | apply pw_below_drewN | apply below_drew1 | refine below_set ?_ (IsS95.ge HI0.out)) | exact HB.out)); rintro e w15 ⟨rfl, hi, hb, hk⟩; refine ⟨_, rfl, ?_⟩; have n0_ := Aside0.mk (KeepBut.trans (by repeat (first | (with_reducible first | exact HK.out | apply KeepBut.set_ | apply keep_drewN | apply keep_drew | apply keep_alloc) | exact HK.out)) hk (.inl rfl)); have n1_ := Aside0.mk (hb); have n2_ := Aside0.mk (hi); clear HK HB HI0; have HK := n0_; have HB := n1_; have HI0 := n2_; clear n0_ n1_ n2_; (try clear hb); (try clear hb2); (try clear hk); (try clear hi)) | ((with_reducible refine gate_callee (f := 77) rfl ?_); refine goesC_ (some 16) Tryd.func77 #[.pointer (some ⟨g, 0, none⟩), .int .i64 4] ?_; (with_reducible refine (spec_l1Below.calls g s0_0 t488 t489 4 t490 t491 t492 w0 _ ?side1 ?side2 A7.out).mono ?_); (case side1 => repeat (first | (with_reducible first | exact HI0.out | apply IsS95.alloc | apply IsS95.drewN | apply IsS95.drew | apply IsS95.set_1 | apply IsS95.set_2) | exact HI0.out)); (case side2 => repeat (first | (with_reducible first | exact HB.out | apply below_alloc | apply pw_below_drewN | apply below_drew1 | refine below_set ?_ (IsS95.ge HI0.out)) | exact HB.out)); rintro e w16 ⟨rfl, hi, hb, hk⟩; refine ⟨_, rfl, ?_⟩; have n0_ := Aside0.mk (KeepBut.trans (by repeat (first | (with_reducible first | exact HK.out | apply KeepBut.set_ | apply keep_drewN | apply keep_drew | apply keep_alloc) | exact HK.out)) hk (.inl rfl)); have n1_ := Aside0.mk (hb); have n2_ := Aside0.mk (hi); clear HK HB HI0; have HK := n0_; have HB := n1_; have HI0 := n2_; clear n0_ n1_ n2_; (try clear hb); (try clear hb2); (try clear hk); (try clear hi)))
        have n0_ := Aside0.mk (IsS95.drew HI0.out)
        have n1_ := Aside0.mk (keep_drew HK.out)
        have n2_ := Aside0.mk (below_drew1 HB.out)
        clear HI0 HK HB; have HI0 := n0_; have HK := n1_; have HB := n2_; clear n0_ n1_ n2_; refine start_ (n := 9) (S := fun w' => True) (ds := []) #[ff,ff,ff,ff,ff,ff,ff,ff,ff] (by kernel_rfl) rfl rfl trivial (fun hHeld => ?_); refine with_tabW spec_l1Spoil.tab6 spec_l1Spoil.bits6 (fun HT_ HW_ => ?_)
        generalize w16.drew = w17 at HI0 HK HB hHeld ⊢
        refine pu 0 19 (tb 9 1) HT_ ?_
        refine pu 1 20 (tb 9 3) HT_ ?_
        refine pu 2 21 (tb 9 7) HT_ ?_
        refine pu 3 22 (tb 9 15) HT_ ?_
        refine pu 4 23 (tb 9 31) HT_ ?_
        refine pu 5 24 (tb 9 63) HT_ ?_
        refine pu 6 25 (tb 9 127) HT_ ?_
        refine pu 7 26 (tb 9 255) HT_ ?_
        refine pu 8 4 (tb 9 511) HT_ ?_
        refine done_ (done_of HT_.out (by kernel_rfl)) ?_
        try go_wp2
        go_ret
        exact ⟨by first | rfl | (simp [errW_none, errW_some] <;> rfl) | (simp only [← hji11]; first | rfl | (simp [errW_none, errW_some] <;> rfl)) | (simp [*, errW_none, errW_some] <;> rfl), by repeat (first | (with_reducible first | exact HI0.out | apply IsS95.alloc | apply IsS95.drewN | apply IsS95.drew | apply IsS95.set_1 | apply IsS95.set_2) | exact HI0.out), by repeat (first | (with_reducible first | exact HB.out | apply below_alloc | apply pw_below_drewN | apply below_drew1 | refine below_set ?_ (IsS95.ge HI0.out)) | exact HB.out), by repeat (first | (with_reducible first | exact HK.out | apply KeepBut.set_ | apply keep_drewN | apply keep_drew | apply keep_alloc) | exact HK.out)⟩
       ·rw [if_neg c14] at H
        exact absurd H (by simp)
      ·rw [if_neg c13] at H
       exact absurd H (by simp)
     ·rw [if_neg c12] at H
      exact absurd H (by simp)
    ·rw [if_neg c10] at H
     exact absurd H (by simp)
   ·rw [if_neg c9] at H
    exact absurd H (by simp)
  ·rw [if_neg c8] at H
   have c8b0 : (t490 == 0) = false := beq_eq_false_iff_ne.mpr c8
   have c8b1 : (t490 != 0) = true := bne_iff_ne.mpr c8
   by_cases c18 : t490 = 1
   ·rw [if_pos c18] at H
    have c18b0 : (t490 == 1) = true := beq_iff_eq.mpr c18
    have c18b1 : (t490 != 1) = false := bne_eq_false_iff_eq.mpr c18
    clear c18
    by_cases c19 : 0 ≤ t487
    ·rw [if_pos c19] at H
     have c19b0 := eq_true c19
     have c19b1 : decide (0 ≤ t487) = true := decide_eq_true c19
     clear c19
     by_cases c20 : t487 ≤ (a1.size : Int)
     ·rw [if_pos c20] at H
      have c20b0 := eq_true c20
      have c20b1 : decide (t487 ≤ (a1.size : Int)) = true := decide_eq_true c20
      clear c20; replace H := Option.bind_eq_some_iff.mp H
      obtain ⟨⟨t493, t494, t495⟩, A210, H⟩ := H
      replace H : ((some (([(t493) % 256] : List Int) : List Int)).bind fun y496 => (if (a1.extract 0 (t487 : Int).toNat).size + (strOfNums y496).size ≤ 9223372036854775807 then (if ((a1.extract 0 (t487 : Int).toNat) ++ (strOfNums y496)).size + (a1.extract (t487 : Int).toNat a1.size).size ≤ 9223372036854775807 then (some (((a1.extract 0 (t487 : Int).toNat) ++ (strOfNums y496)) ++ (a1.extract (t487 : Int).toNat a1.size), t494, t495)) else (none)) else (none))) = some (r1, r2, r3) := H
      have A21 := Aside0.mk A210
      clear A210; obtain ⟨y496, hy496⟩ : ∃ y_ : List Int, y_ = (([(t493) % 256] : List Int)) := ⟨_, rfl⟩
      replace H : (if (a1.extract 0 (t487 : Int).toNat).size + (strOfNums y496).size ≤ 9223372036854775807 then (if ((a1.extract 0 (t487 : Int).toNat) ++ (strOfNums y496)).size + (a1.extract (t487 : Int).toNat a1.size).size ≤ 9223372036854775807 then (some (((a1.extract 0 (t487 : Int).toNat) ++ (strOfNums y496)) ++ (a1.extract (t487 : Int).toNat a1.size), t494, t495)) else (none)) else (none)) = some (r1, r2, r3) := by first | (rw [hy496]; with_reducible exact H) | (have H2_ := (Option.bind_some _ _).symm.trans H; rw [hy496]; with_reducible exact H2_) | (have H2_ := (Option.bind_some _ _).symm.trans H; with_reducible exact H2_) | with_reducible exact H | (rw [hy496]; exact H) | exact H
      have Ny496 := Aside0.mk hy496
      clear hy496
      by_cases c22 : (a1.extract 0 (t487 : Int).toNat).size + (strOfNums y496).size ≤ 9223372036854775807
      ·rw [if_pos c22] at H
       have c22b0 := eq_true c22
       have c22b1 : decide ((a1.extract 0 (t487 : Int).toNat).size + (strOfNums y496).size ≤ 9223372036854775807) = true := decide_eq_true c22
       try have c22b2 : (9223372036854775807 < (a1.extract 0 (t487 : Int).toNat).size + (strOfNums y496).size) = False := eq_false (Nat.not_lt.2 c22)
       try have c22b7 : (9223372036854775807 < (t487 : Int).toNat + (strOfNums y496).size) = False := eq_false (by have h_ := c22; simp only [ByteArray.size_append, ByteArray.size_extract] at h_; have g0_ := of_decide_eq_true c19b1; have g1_ := of_decide_eq_true c20b1; have g2_ := of_decide_eq_true c22b1; omega)
       have c23b0 := eq_true (of_decide_eq_true (by first | (with_reducible assumption) | assumption) : 0 ≤ t487)
       have c24b0 := eq_true (of_decide_eq_true (by first | (with_reducible assumption) | assumption) : t487 ≤ (a1.size : Int))
       by_cases c25 : ((a1.extract 0 (t487 : Int).toNat) ++ (strOfNums y496)).size + (a1.extract (t487 : Int).toNat a1.size).size ≤ 9223372036854775807
       ·rw [if_pos c25] at H
        have c25b0 := eq_true c25
        have c25b1 : decide (((a1.extract 0 (t487 : Int).toNat) ++ (strOfNums y496)).size + (a1.extract (t487 : Int).toNat a1.size).size ≤ 9223372036854775807) = true := decide_eq_true c25
        try have c25b2 : (9223372036854775807 < ((a1.extract 0 (t487 : Int).toNat) ++ (strOfNums y496)).size + (a1.extract (t487 : Int).toNat a1.size).size) = False := eq_false (Nat.not_lt.2 c25)
        try have c25b6 : (9223372036854775807 < ((a1.extract 0 (t487 : Int).toNat).size + (strOfNums y496).size) + (a1.extract (t487 : Int).toNat a1.size).size) = False := eq_false (by have h_ := c25; simp only [ByteArray.size_append] at h_; omega)
        try have c25b7 : (9223372036854775807 < ((t487 : Int).toNat + (strOfNums y496).size) + (a1.size - (t487 : Int).toNat)) = False := eq_false (by have h_ := c25; simp only [ByteArray.size_append, ByteArray.size_extract] at h_; have g0_ := of_decide_eq_true c19b1; have g1_ := of_decide_eq_true c20b1; have g2_ := of_decide_eq_true c22b1; have g3_ := of_decide_eq_true c25b1; omega)
        simp only [Option.some.injEq, Prod.mk.injEq] at H
        obtain ⟨rfl, rfl, rfl⟩ := H
        go_enter Tryd.func63, Tryd.ntmps63
        try go_wp2_with (first | ((with_reducible refine gate_callee (f := 77) rfl ?_); refine goesC_ (some 14) Tryd.func77 #[.pointer (some ⟨g, 0, none⟩), .int .i64 (a1.size : Int)] ?_; (with_reducible refine (spec_l1Below.calls g s0_0 s0_1 s0_2 (a1.size : Int) t487 t488 t489 w0 _ ?side1 ?side2 A6.out).mono ?_); (case side1 => repeat (first | (with_reducible first | exact HI0.out | apply IsS95.alloc | apply IsS95.drewN | apply IsS95.drew | apply IsS95.set_1 | apply IsS95.set_2) | exact HI0.out)); (case side2 => repeat (first | (with_reducible first | exact HB.out | apply below_alloc | apply pw_below_drewN | apply below_drew1 | refine below_set ?_ (IsS95.ge HI0.out)) | exact HB.out)); rintro e w26 ⟨rfl, hi, hb, hk⟩; refine ⟨_, rfl, ?_⟩; have n0_ := Aside0.mk (KeepBut.trans (by repeat (first | (with_reducible first | exact HK.out | apply KeepBut.set_ | apply keep_drewN | apply keep_drew | apply keep_alloc) | exact HK.out)) hk (.inl rfl)); have n1_ := Aside0.mk (hb); have n2_ := Aside0.mk (hi); clear HK HB HI0; have HK := n0_; have HB := n1_; have HI0 := n2_; clear n0_ n1_ n2_; (try clear hb); (try clear hb2); (try clear hk); (try clear hi)) | ((with_reducible refine gate_callee (f := 77) rfl ?_); refine goesC_ (some 16) Tryd.func77 #[.pointer (some ⟨g, 0, none⟩), .int .i64 4] ?_; (with_reducible refine (spec_l1Below.calls g s0_0 t488 t489 4 t490 t491 t492 w0 _ ?side1 ?side2 A7.out).mono ?_); (case side1 => repeat (first | (with_reducible first | exact HI0.out | apply IsS95.alloc | apply IsS95.drewN | apply IsS95.drew | apply IsS95.set_1 | apply IsS95.set_2) | exact HI0.out)); (case side2 => repeat (first | (with_reducible first | exact HB.out | apply below_alloc | apply pw_below_drewN | apply below_drew1 | refine below_set ?_ (IsS95.ge HI0.out)) | exact HB.out)); rintro e w27 ⟨rfl, hi, hb, hk⟩; refine ⟨_, rfl, ?_⟩; have n0_ := Aside0.mk (KeepBut.trans (by repeat (first | (with_reducible first | exact HK.out | apply KeepBut.set_ | apply keep_drewN | apply keep_drew | apply keep_alloc) | exact HK.out)) hk (.inl rfl)); have n1_ := Aside0.mk (hb); have n2_ := Aside0.mk (hi); clear HK HB HI0; have HK := n0_; have HB := n1_; have HI0 := n2_; clear n0_ n1_ n2_; (try clear hb); (try clear hb2); (try clear hk); (try clear hi)))
        have n0_ := Aside0.mk (IsS95.drew HI0.out)
        have n1_ := Aside0.mk (keep_drew HK.out)
        have n2_ := Aside0.mk (below_drew1 HB.out)
        clear HI0 HK HB; have HI0 := n0_; have HK := n1_; have HB := n2_; clear n0_ n1_ n2_; refine start_ (n := 14) (S := fun w' => True) (ds := []) #[ff,ff,ff,ff,ff,ff,ff,ff,ff,ff,ff,ff,ff,ff] (by kernel_rfl) rfl rfl trivial (fun hHeld => ?_); refine with_tabW spec_l1Spoil.tab8 spec_l1Spoil.bits8 (fun HT_ HW_ => ?_)
        generalize w27.drew = w28 at HI0 HK HB hHeld ⊢
        refine pu 0 29 (tb 14 1) HT_ ?_
        refine pu 1 30 (tb 14 3) HT_ ?_
        refine pu 2 31 (tb 14 7) HT_ ?_
        refine pu 3 32 (tb 14 15) HT_ ?_
        refine pu 9 38 (tb 14 527) HT_ ?_
        refine pu 10 39 (tb 14 1551) HT_ ?_
        refine pu 11 40 (tb 14 3599) HT_ ?_
        refine one_ (i := 4) (N := some 33) #[tt,tt,tt,tt,tt,ff,ff,ff,ff,tt,tt,tt,ff,ff] rfl rfl (one_of HT_.out (by kernel_rfl)) (by decide) (fun K hK => ?_)
        refine goes_ Tryd.func81 (by kernel_rfl) rfl #[.pointer (some ⟨g, 0, none⟩)] (by rfl) rfl rfl (by (try simp only [List.map_toArray, List.map_cons, List.map_nil]); first | done | rfl | (simp only [List.length_drop, List.length_take]; rfl)) ?_
        with_reducible refine (spec_l1Byte.calls g s0_0 t491 t492 t493 t494 t495 w0 _ ?side1 ?side2 A21.out).mono ?_
        (case side1 => repeat (first | (with_reducible first | exact HI0.out | apply IsS95.alloc | apply IsS95.drewN | apply IsS95.drew | apply IsS95.set_1 | apply IsS95.set_2) | exact HI0.out))
        (case side2 => repeat (first | (with_reducible first | exact HB.out | apply below_alloc | apply pw_below_drewN | apply below_drew1 | refine below_set ?_ (IsS95.ge HI0.out)) | exact HB.out))
        rintro e w29 ⟨rfl, hi, hb, hk⟩
        refine ⟨_, rfl, ?_⟩
        have n0_ := Aside0.mk (KeepBut.trans (by repeat (first | (with_reducible first | exact HK.out | apply KeepBut.set_ | apply keep_drewN | apply keep_drew | apply keep_alloc) | exact HK.out)) hk (.inl rfl))
        have n1_ := Aside0.mk (hb)
        have n2_ := Aside0.mk (hi)
        clear HK HB HI0; have HK := n0_; have HB := n1_; have HI0 := n2_; clear n0_ n1_ n2_; (try clear hb); (try clear hb2); (try clear hk); (try clear hi); refine hK.out _ _ trivial (fun hHeld => ?_)
        clear hK K; refine norm_ (a' := ?_) ?_ ?_
        rotate_left
        ·show Act.put _ (some 33) _ = _
         simp only [putL, i64_w, i32_w]; rfl
        refine pu 5 34 (tb 14 3647) HT_ ?_
        refine one_ (i := 6) (N := some 35) #[tt,tt,tt,tt,tt,tt,tt,ff,ff,tt,tt,tt,ff,ff] rfl rfl (one_of HT_.out (by kernel_rfl)) (by decide) (fun K hK => ?_)
        refine Kd.R_lit_step (Kd.int .u8) _ 5 ?hg (N := 35) ?hd (xs := ([(t493) % 256] : List Int)) (inner := [.int .u8 ((t493) % 256)]) (ok := fun _ => True) (okp := fun _ => True) ?hr ?hp (fun _ hk => hk) trivial (Below.refl _ _) (Nat.le_refl _) (by simp) ?_; (case hd => rfl); (case hg => rfl); (case hr => first | (go_simp; done) | (go_simp; rfl)); (case hp => exact (Reps.one (show Kd.M (Kd.int .u8) _ _ _ ((t493) % 256) [.int .u8 ((t493) % 256)] from rfl) (Reps.none _ _)))
        intro v497 w30 ho31 hb hg_ hnew_
        clear hg_ hnew_
        (first | rw [← Ny496.out] at ho31 | (simp only [Int.reduceToNat] at ho31; rw [← Ny496.out] at ho31))
        have n1_ := Aside0.mk (IsS95.below (by repeat (first | (with_reducible first | exact HI0.out | apply IsS95.alloc | apply IsS95.drewN | apply IsS95.drew | apply IsS95.set_1 | apply IsS95.set_2) | exact HI0.out)) hb)
        have n2_ := Aside0.mk (KeepBut.trans (by repeat (first | (with_reducible first | exact HK.out | apply KeepBut.set_ | apply keep_drewN | apply keep_drew | apply keep_alloc) | exact HK.out)) (KeepBut.of_below hb g none) (.inl rfl))
        have n3_ := Aside0.mk (below_step (by repeat (first | (with_reducible first | exact HB.out | apply below_alloc | apply pw_below_drewN | apply below_drew1 | refine below_set ?_ (IsS95.ge HI0.out)) | exact HB.out)) hb)
        have HO498 := Aside0.mk (Kd.R_lower ho31 (keep_size (w := w) (g := g) (row := none) (by repeat (first | (with_reducible first | exact HK.out | apply KeepBut.set_ | apply keep_drewN | apply keep_drew | apply keep_alloc) | exact HK.out))))
        clear HI0 HK HB; have HI0 := n1_; have HK := n2_; have HB := n3_; clear n1_ n2_ n3_; clear hb ho31; refine hK.out _ _ trivial (fun hHeld => ?_)
        clear hK K; refine norm_ (a' := ?_) ?_ ?_
        rotate_left
        ·show Act.put _ (some 35) _ = _
         simp only [putL, i64_w, i32_w]; rfl
        refine one_ (i := 7) (N := some 36) #[tt,tt,tt,tt,tt,tt,tt,tt,ff,tt,tt,tt,ff,ff] rfl rfl (one_of HT_.out (by kernel_rfl)) (by decide) (fun K hK => ?_)
        have hcv32 := own_string (P := Tryd.prog) Tryd.underlying24 Tryd.underlying5 Tryd.underlying9 (Kd.own_of_R HO498.out)
        refine value_ (w1 := ?_) (v := ?_) (by rfl) rfl ?_ ?_
        rotate_left 2
        ·go_simp
         constructor
         ·rfl
         ·rfl
        clear hcv32; refine hK.out _ _ trivial (fun hHeld => ?_)
        clear hK K; refine norm_ (a' := ?_) ?_ ?_
        rotate_left
        ·show Act.put _ (some 36) _ = _
         simp only [putL, i64_w, i32_w]; rfl
        refine pu 8 37 (tb 14 4095) HT_ ?_
        refine pu 12 41 (tb 14 8191) HT_ ?_
        refine pu 13 4 (tb 14 16383) HT_ ?_
        refine done_ (done_of HT_.out (by kernel_rfl)) ?_
        try go_wp2
        go_ret
        exact ⟨by first | rfl | (simp [errW_none, errW_some] <;> rfl) | (simp [*, errW_none, errW_some] <;> rfl), by repeat (first | (with_reducible first | exact HI0.out | apply IsS95.alloc | apply IsS95.drewN | apply IsS95.drew | apply IsS95.set_1 | apply IsS95.set_2) | exact HI0.out), by repeat (first | (with_reducible first | exact HB.out | apply below_alloc | apply pw_below_drewN | apply below_drew1 | refine below_set ?_ (IsS95.ge HI0.out)) | exact HB.out), by repeat (first | (with_reducible first | exact HK.out | apply KeepBut.set_ | apply keep_drewN | apply keep_drew | apply keep_alloc) | exact HK.out)⟩
       ·rw [if_neg c25] at H
        exact absurd H (by simp)
      ·rw [if_neg c22] at H
       exact absurd H (by simp)
     ·rw [if_neg c20] at H
      exact absurd H (by simp)
    ·rw [if_neg c19] at H
     exact absurd H (by simp)
   ·rw [if_neg c18] at H
    have c18b0 : (t490 == 1) = false := beq_eq_false_iff_ne.mpr c18
    have c18b1 : (t490 != 1) = true := bne_iff_ne.mpr c18
    by_cases c33 : t490 = 2
    ·rw [if_pos c33] at H
     have c33b0 : (t490 == 2) = true := beq_iff_eq.mpr c33
     have c33b1 : (t490 != 2) = false := bne_eq_false_iff_eq.mpr c33
     clear c33
     by_cases c34 : 0 ≤ t487
     ·rw [if_pos c34] at H
      have c34b0 := eq_true c34
      have c34b1 : decide (0 ≤ t487) = true := decide_eq_true c34
      clear c34
      by_cases c35 : t487 ≤ (a1.size : Int)
      ·rw [if_pos c35] at H
       have c35b0 := eq_true c35
       have c35b1 : decide (t487 ≤ (a1.size : Int)) = true := decide_eq_true c35
       clear c35; simp only [Option.some.injEq, Prod.mk.injEq] at H
       obtain ⟨rfl, rfl, rfl⟩ := H
       go_enter Tryd.func63, Tryd.ntmps63
       go_wp2_with (first | ((with_reducible refine gate_callee (f := 77) rfl ?_); refine goesC_ (some 14) Tryd.func77 #[.pointer (some ⟨g, 0, none⟩), .int .i64 (a1.size : Int)] ?_; (with_reducible refine (spec_l1Below.calls g s0_0 s0_1 s0_2 (a1.size : Int) t487 t488 t489 w0 _ ?side1 ?side2 A6.out).mono ?_); (case side1 => repeat (first | (with_reducible first | exact HI0.out | apply IsS95.alloc | apply IsS95.drewN | apply IsS95.drew | apply IsS95.set_1 | apply IsS95.set_2) | exact HI0.out)); (case side2 => repeat (first | (with_reducible first | exact HB.out | apply below_alloc | apply pw_below_drewN | apply below_drew1 | refine below_set ?_ (IsS95.ge HI0.out)) | exact HB.out)); rintro e w36 ⟨rfl, hi, hb, hk⟩; refine ⟨_, rfl, ?_⟩; have n0_ := Aside0.mk (KeepBut.trans (by repeat (first | (with_reducible first | exact HK.out | apply KeepBut.set_ | apply keep_drewN | apply keep_drew | apply keep_alloc) | exact HK.out)) hk (.inl rfl)); have n1_ := Aside0.mk (hb); have n2_ := Aside0.mk (hi); clear HK HB HI0; have HK := n0_; have HB := n1_; have HI0 := n2_; clear n0_ n1_ n2_; (try clear hb); (try clear hb2); (try clear hk); (try clear hi)) | ((with_reducible refine gate_callee (f := 77) rfl ?_); refine goesC_ (some 16) Tryd.func77 #[.pointer (some ⟨g, 0, none⟩), .int .i64 4] ?_; (with_reducible refine (spec_l1Below.calls g s0_0 t488 t489 4 t490 t491 t492 w0 _ ?side1 ?side2 A7.out).mono ?_); (case side1 => repeat (first | (with_reducible first | exact HI0.out | apply IsS95.alloc | apply IsS95.drewN | apply IsS95.drew | apply IsS95.set_1 | apply IsS95.set_2) | exact HI0.out)); (case side2 => repeat (first | (with_reducible first | exact HB.out | apply below_alloc | apply pw_below_drewN | apply below_drew1 | refine below_set ?_ (IsS95.ge HI0.out)) | exact HB.out)); rintro e w37 ⟨rfl, hi, hb, hk⟩; refine ⟨_, rfl, ?_⟩; have n0_ := Aside0.mk (KeepBut.trans (by repeat (first | (with_reducible first | exact HK.out | apply KeepBut.set_ | apply keep_drewN | apply keep_drew | apply keep_alloc) | exact HK.out)) hk (.inl rfl)); have n1_ := Aside0.mk (hb); have n2_ := Aside0.mk (hi); clear HK HB HI0; have HK := n0_; have HB := n1_; have HI0 := n2_; clear n0_ n1_ n2_; (try clear hb); (try clear hb2); (try clear hk); (try clear hi)))
       go_ret
       exact ⟨by first | rfl | (simp [errW_none, errW_some] <;> rfl) | (simp [*, errW_none, errW_some] <;> rfl), by repeat (first | (with_reducible first | exact HI0.out | apply IsS95.alloc | apply IsS95.drewN | apply IsS95.drew | apply IsS95.set_1 | apply IsS95.set_2) | exact HI0.out), by repeat (first | (with_reducible first | exact HB.out | apply below_alloc | apply pw_below_drewN | apply below_drew1 | refine below_set ?_ (IsS95.ge HI0.out)) | exact HB.out), by repeat (first | (with_reducible first | exact HK.out | apply KeepBut.set_ | apply keep_drewN | apply keep_drew | apply keep_alloc) | exact HK.out)⟩
      ·rw [if_neg c35] at H
       exact absurd H (by simp)
     ·rw [if_neg c34] at H
      exact absurd H (by simp)
    ·rw [if_neg c33] at H
     have c33b0 : (t490 == 2) = false := beq_eq_false_iff_ne.mpr c33
     have c33b1 : (t490 != 2) = true := bne_iff_ne.mpr c33
     by_cases c38 : 0 ≤ t487
     ·rw [if_pos c38] at H
      have c38b0 := eq_true c38
      have c38b1 : decide (0 ≤ t487) = true := decide_eq_true c38
      clear c38
      by_cases c39 : t487 ≤ (a1.size : Int)
      ·rw [if_pos c39] at H
       have c39b0 := eq_true c39
       have c39b1 : decide (t487 ≤ (a1.size : Int)) = true := decide_eq_true c39
       clear c39
       by_cases c40 : t487 < (a1.size : Int)
       ·rw [if_pos c40] at H
        have c40b0 : decide (t487 < (a1.size : Int)) = true := decide_eq_true c40
        clear c40; replace H := Option.bind_eq_some_iff.mp H
        obtain ⟨⟨t499, t500, t501⟩, A420, H⟩ := H
        replace H : ((some (([(Go.bits .xor .i64 (wrap64 (bt a1 t487)) (wrap64 (1 + t499))) % 256] : List Int) : List Int)).bind fun y502 => (if (a1.extract 0 (t487 : Int).toNat).size + (strOfNums y502).size ≤ 9223372036854775807 then (if 0 ≤ (wrap64 (t487 + 1)) then (if (wrap64 (t487 + 1)) ≤ (a1.size : Int) then (if ((a1.extract 0 (t487 : Int).toNat) ++ (strOfNums y502)).size + (a1.extract ((wrap64 (t487 + 1)) : Int).toNat a1.size).size ≤ 9223372036854775807 then (some (((a1.extract 0 (t487 : Int).toNat) ++ (strOfNums y502)) ++ (a1.extract ((wrap64 (t487 + 1)) : Int).toNat a1.size), t500, t501)) else (none)) else (none)) else (none)) else (none))) = some (r1, r2, r3) := H
        have A42 := Aside0.mk A420
        clear A420; obtain ⟨y502, hy502⟩ : ∃ y_ : List Int, y_ = (([(Go.bits .xor .i64 (wrap64 (bt a1 t487)) (wrap64 (1 + t499))) % 256] : List Int)) := ⟨_, rfl⟩
        replace H : (if (a1.extract 0 (t487 : Int).toNat).size + (strOfNums y502).size ≤ 9223372036854775807 then (if 0 ≤ (wrap64 (t487 + 1)) then (if (wrap64 (t487 + 1)) ≤ (a1.size : Int) then (if ((a1.extract 0 (t487 : Int).toNat) ++ (strOfNums y502)).size + (a1.extract ((wrap64 (t487 + 1)) : Int).toNat a1.size).size ≤ 9223372036854775807 then (some (((a1.extract 0 (t487 : Int).toNat) ++ (strOfNums y502)) ++ (a1.extract ((wrap64 (t487 + 1)) : Int).toNat a1.size), t500, t501)) else (none)) else (none)) else (none)) else (none)) = some (r1, r2, r3) := by first | (rw [hy502]; with_reducible exact H) | (have H2_ := (Option.bind_some _ _).symm.trans H; rw [hy502]; with_reducible exact H2_) | (have H2_ := (Option.bind_some _ _).symm.trans H; with_reducible exact H2_) | with_reducible exact H | (rw [hy502]; exact H) | exact H
        have Ny502 := Aside0.mk hy502
        clear hy502
        by_cases c43 : (a1.extract 0 (t487 : Int).toNat).size + (strOfNums y502).size ≤ 9223372036854775807
        ·rw [if_pos c43] at H
         have c43b0 := eq_true c43
         have c43b1 : decide ((a1.extract 0 (t487 : Int).toNat).size + (strOfNums y502).size ≤ 9223372036854775807) = true := decide_eq_true c43
         try have c43b2 : (9223372036854775807 < (a1.extract 0 (t487 : Int).toNat).size + (strOfNums y502).size) = False := eq_false (Nat.not_lt.2 c43)
         try have c43b7 : (9223372036854775807 < (t487 : Int).toNat + (strOfNums y502).size) = False := eq_false (by have h_ := c43; simp only [ByteArray.size_append, ByteArray.size_extract] at h_; have g0_ := of_decide_eq_true c38b1; have g1_ := of_decide_eq_true c39b1; have g2_ := of_decide_eq_true c43b1; omega)
         obtain ⟨ji44, hji44⟩ : ∃ j_ : Int, (wrap64 (t487 + 1)) = j_ := ⟨_, rfl⟩
         replace H : (if 0 ≤ (ji44) then (if (ji44) ≤ (a1.size : Int) then (if ((a1.extract 0 (t487 : Int).toNat) ++ (strOfNums y502)).size + (a1.extract ((ji44) : Int).toNat a1.size).size ≤ 9223372036854775807 then (some (((a1.extract 0 (t487 : Int).toNat) ++ (strOfNums y502)) ++ (a1.extract ((ji44) : Int).toNat a1.size), t500, t501)) else (none)) else (none)) else (none)) = some (r1, r2, r3) := by first | (rw [hji44] at H; exact H) | (simp only [hji44] at H ⊢; exact H)
         (try rw [hji44] at A6)
         (try rw [hji44] at A7)
         (try rw [hji44] at A42)
         have hji44w : (IntKind.i64.wrap (t487 + 1)) = ji44 := (i64_w _).trans hji44
         by_cases c45 : 0 ≤ (ji44)
         ·rw [if_pos c45] at H
          have c45b0 := eq_true c45
          have c45b1 : decide (0 ≤ (ji44)) = true := decide_eq_true c45
          clear c45
          by_cases c46 : (ji44) ≤ (a1.size : Int)
          ·rw [if_pos c46] at H
           have c46b0 := eq_true c46
           have c46b1 : decide ((ji44) ≤ (a1.size : Int)) = true := decide_eq_true c46
           clear c46
           by_cases c47 : ((a1.extract 0 (t487 : Int).toNat) ++ (strOfNums y502)).size + (a1.extract ((ji44) : Int).toNat a1.size).size ≤ 9223372036854775807
           ·rw [if_pos c47] at H
            have c47b0 := eq_true c47
            have c47b1 : decide (((a1.extract 0 (t487 : Int).toNat) ++ (strOfNums y502)).size + (a1.extract ((ji44) : Int).toNat a1.size).size ≤ 9223372036854775807) = true := decide_eq_true c47
            try have c47b2 : (9223372036854775807 < ((a1.extract 0 (t487 : Int).toNat) ++ (strOfNums y502)).size + (a1.extract ((ji44) : Int).toNat a1.size).size) = False := eq_false (Nat.not_lt.2 c47)
            try have c47b6 : (9223372036854775807 < ((a1.extract 0 (t487 : Int).toNat).size + (strOfNums y502).size) + (a1.extract ((ji44) : Int).toNat a1.size).size) = False := eq_false (by have h_ := c47; simp only [ByteArray.size_append] at h_; omega)
            try have c47b7 : (9223372036854775807 < ((t487 : Int).toNat + (strOfNums y502).size) + (a1.size - ((ji44) : Int).toNat)) = False := eq_false (by have h_ := c47; simp only [ByteArray.size_append, ByteArray.size_extract] at h_; have g0_ := of_decide_eq_true c38b1; have g1_ := of_decide_eq_true c39b1; have g2_ := of_decide_eq_true c43b1; have g3_ := of_decide_eq_true c45b1; have g4_ := of_decide_eq_true c46b1; have g5_ := of_decide_eq_true c47b1; omega)
            simp only [Option.some.injEq, Prod.mk.injEq] at H
            obtain ⟨rfl, rfl, rfl⟩ := H
            go_enter Tryd.func63, Tryd.ntmps63
            try go_wp2_with (first | ((with_reducible refine gate_callee (f := 77) rfl ?_); refine goesC_ (some 14) Tryd.func77 #[.pointer (some ⟨g, 0, none⟩), .int .i64 (a1.size : Int)] ?_; (with_reducible refine (spec_l1Below.calls g s0_0 s0_1 s0_2 (a1.size : Int) t487 t488 t489 w0 _ ?side1 ?side2 A6.out).mono ?_); (case side1 => repeat (first | (with_reducible first | exact HI0.out | apply IsS95.alloc | apply IsS95.drewN | apply IsS95.drew | apply IsS95.set_1 | apply IsS95.set_2) | exact HI0.out)); (case side2 => repeat (first | (with_reducible first | exact HB.out | apply below_alloc | apply pw_below_drewN | apply below_drew1 | refine below_set ?_ (IsS95.ge HI0.out)) | exact HB.out)); rintro e w48 ⟨rfl, hi, hb, hk⟩; refine ⟨_, rfl, ?_⟩; have n0_ := Aside0.mk (KeepBut.trans (by repeat (first | (with_reducible first | exact HK.out | apply KeepBut.set_ | apply keep_drewN | apply keep_drew | apply keep_alloc) | exact HK.out)) hk (.inl rfl)); have n1_ := Aside0.mk (hb); have n2_ := Aside0.mk (hi); clear HK HB HI0; have HK := n0_; have HB := n1_; have HI0 := n2_; clear n0_ n1_ n2_; (try clear hb); (try clear hb2); (try clear hk); (try clear hi)) | ((with_reducible refine gate_callee (f := 77) rfl ?_); refine goesC_ (some 16) Tryd.func77 #[.pointer (some ⟨g, 0, none⟩), .int .i64 4] ?_; (with_reducible refine (spec_l1Below.calls g s0_0 t488 t489 4 t490 t491 t492 w0 _ ?side1 ?side2 A7.out).mono ?_); (case side1 => repeat (first | (with_reducible first | exact HI0.out | apply IsS95.alloc | apply IsS95.drewN | apply IsS95.drew | apply IsS95.set_1 | apply IsS95.set_2) | exact HI0.out)); (case side2 => repeat (first | (with_reducible first | exact HB.out | apply below_alloc | apply pw_below_drewN | apply below_drew1 | refine below_set ?_ (IsS95.ge HI0.out)) | exact HB.out)); rintro e w49 ⟨rfl, hi, hb, hk⟩; refine ⟨_, rfl, ?_⟩; have n0_ := Aside0.mk (KeepBut.trans (by repeat (first | (with_reducible first | exact HK.out | apply KeepBut.set_ | apply keep_drewN | apply keep_drew | apply keep_alloc) | exact HK.out)) hk (.inl rfl)); have n1_ := Aside0.mk (hb); have n2_ := Aside0.mk (hi); clear HK HB HI0; have HK := n0_; have HB := n1_; have HI0 := n2_; clear n0_ n1_ n2_; (try clear hb); (try clear hb2); (try clear hk); (try clear hi)))
            have n0_ := Aside0.mk (IsS95.drew HI0.out)
            have n1_ := Aside0.mk (keep_drew HK.out)
            have n2_ := Aside0.mk (below_drew1 HB.out)
            clear HI0 HK HB; have HI0 := n0_; have HK := n1_; have HB := n2_; clear n0_ n1_ n2_; have p41 : 0 ≤ (t487 : Int) := of_decide_eq_true (by first | (with_reducible assumption) | assumption)
            have q41 : t487 < (a1.size : Int) := of_decide_eq_true (by first | (with_reducible assumption) | assumption)
            have hx41 := bt_at a1 t487
            replace p41 := eq_true p41
            replace q41 := eq_true q41
            refine start_ (n := 21) (S := fun w' => True) (ds := []) #[ff,ff,ff,ff,ff,ff,ff,ff,ff,ff,ff,ff,ff,ff,ff,ff,ff,ff,ff,ff,ff] (by kernel_rfl) rfl rfl trivial (fun hHeld => ?_); refine with_tabW spec_l1Spoil.tab11 spec_l1Spoil.bits11 (fun HT_ HW_ => ?_)
            generalize w49.drew = w50 at HI0 HK HB hHeld ⊢
            refine pu 0 47 (tb 21 1) HT_ ?_
            refine pu 1 48 (tb 21 3) HT_ ?_
            refine pu 2 49 (tb 21 7) HT_ ?_
            refine pu 3 50 (tb 21 15) HT_ ?_
            refine pu 4 51 (tb 21 31) HT_ ?_
            refine pu 7 54 (tb 21 159) HT_ ?_
            refine pu 15 62 (tb 21 32927) HT_ ?_
            refine pu 16 63 (tb 21 98463) HT_ ?_
            refine pu 17 64 (tb 21 229535) HT_ ?_
            refine pu 18 65 (tb 21 491679) HT_ ?_
            refine tk 5 52 (tb 21 491711) rfl rfl HT_ HW_ hHeld (by intro w' _; go_simp; with_reducible rfl) ?_
            refine pu 6 53 (tb 21 491775) HT_ ?_
            refine one_ (i := 8) (N := some 55) #[tt,tt,tt,tt,tt,tt,tt,tt,tt,ff,ff,ff,ff,ff,ff,tt,tt,tt,tt,ff,ff] rfl rfl (one_of HT_.out (by kernel_rfl)) (by decide) (fun K hK => ?_)
            refine goes_ Tryd.func77 (by kernel_rfl) rfl #[.pointer (some ⟨g, 0, none⟩), .int .i64 255] (by rfl) rfl rfl (by (try simp only [List.map_toArray, List.map_cons, List.map_nil]); first | done | rfl | (simp only [List.length_drop, List.length_take]; rfl)) ?_
            with_reducible refine (spec_l1Below.calls g s0_0 t491 t492 255 t499 t500 t501 w0 _ ?side1 ?side2 A42.out).mono ?_
            (case side1 => repeat (first | (with_reducible first | exact HI0.out | apply IsS95.alloc | apply IsS95.drewN | apply IsS95.drew | apply IsS95.set_1 | apply IsS95.set_2) | exact HI0.out))
            (case side2 => repeat (first | (with_reducible first | exact HB.out | apply below_alloc | apply pw_below_drewN | apply below_drew1 | refine below_set ?_ (IsS95.ge HI0.out)) | exact HB.out))
            rintro e w51 ⟨rfl, hi, hb, hk⟩
            refine ⟨_, rfl, ?_⟩
            have n0_ := Aside0.mk (KeepBut.trans (by repeat (first | (with_reducible first | exact HK.out | apply KeepBut.set_ | apply keep_drewN | apply keep_drew | apply keep_alloc) | exact HK.out)) hk (.inl rfl))
            have n1_ := Aside0.mk (hb)
            have n2_ := Aside0.mk (hi)
            clear HK HB HI0; have HK := n0_; have HB := n1_; have HI0 := n2_; clear n0_ n1_ n2_; (try clear hb); (try clear hb2); (try clear hk); (try clear hi); refine hK.out _ _ trivial (fun hHeld => ?_)
            clear hK K; refine norm_ (a' := ?_) ?_ ?_
            rotate_left
            ·show Act.put _ (some 55) _ = _
             simp only [putL, i64_w, i32_w]; rfl
            refine pu 9 56 (tb 21 492543) HT_ ?_
            refine pu 10 57 (tb 21 493567) HT_ ?_
            refine pu 11 58 (tb 21 495615) HT_ ?_
            refine one_ (i := 12) (N := some 59) #[tt,tt,tt,tt,tt,tt,tt,tt,tt,tt,tt,tt,tt,ff,ff,tt,tt,tt,tt,ff,ff] rfl rfl (one_of HT_.out (by kernel_rfl)) (by decide) (fun K hK => ?_)
            refine Kd.R_lit_step (Kd.int .u8) _ 5 ?hg (N := 59) ?hd (xs := ([(Go.bits .xor .i64 (wrap64 (bt a1 t487)) (wrap64 (1 + t499))) % 256] : List Int)) (inner := [.int .u8 ((Go.bits .xor .i64 (wrap64 (bt a1 t487)) (wrap64 (1 + t499))) % 256)]) (ok := fun _ => True) (okp := fun _ => True) ?hr ?hp (fun _ hk => hk) trivial (Below.refl _ _) (Nat.le_refl _) (by simp) ?_; (case hd => rfl); (case hg => rfl); (case hr => first | (go_simp; done) | (go_simp; rfl)); (case hp => exact (Reps.one (show Kd.M (Kd.int .u8) _ _ _ ((Go.bits .xor .i64 (wrap64 (bt a1 t487)) (wrap64 (1 + t499))) % 256) [.int .u8 ((Go.bits .xor .i64 (wrap64 (bt a1 t487)) (wrap64 (1 + t499))) % 256)] from rfl) (Reps.none _ _)))
            intro v503 w52 ho53 hb hg_ hnew_
            clear hg_ hnew_
            (first | rw [← Ny502.out] at ho53 | (simp only [Int.reduceToNat] at ho53; rw [← Ny502.out] at ho53))
            have n1_ := Aside0.mk (IsS95.below (by repeat (first | (with_reducible first | exact HI0.out | apply IsS95.alloc | apply IsS95.drewN | apply IsS95.drew | apply IsS95.set_1 | apply IsS95.set_2) | exact HI0.out)) hb)
            have n2_ := Aside0.mk (KeepBut.trans (by repeat (first | (with_reducible first | exact HK.out | apply KeepBut.set_ | apply keep_drewN | apply keep_drew | apply keep_alloc) | exact HK.out)) (KeepBut.of_below hb g none) (.inl rfl))
            have n3_ := Aside0.mk (below_step (by repeat (first | (with_reducible first | exact HB.out | apply below_alloc | apply pw_below_drewN | apply below_drew1 | refine below_set ?_ (IsS95.ge HI0.out)) | exact HB.out)) hb)
            have HO504 := Aside0.mk (Kd.R_lower ho53 (keep_size (w := w) (g := g) (row := none) (by repeat (first | (with_reducible first | exact HK.out | apply KeepBut.set_ | apply keep_drewN | apply keep_drew | apply keep_alloc) | exact HK.out))))
            clear HI0 HK HB; have HI0 := n1_; have HK := n2_; have HB := n3_; clear n1_ n2_ n3_; clear hb ho53; refine hK.out _ _ trivial (fun hHeld => ?_)
            clear hK K; refine norm_ (a' := ?_) ?_ ?_
            rotate_left
            ·show Act.put _ (some 59) _ = _
             simp only [putL, i64_w, i32_w]; rfl
            refine one_ (i := 13) (N := some 60) #[tt,tt,tt,tt,tt,tt,tt,tt,tt,tt,tt,tt,tt,tt,ff,tt,tt,tt,tt,ff,ff] rfl rfl (one_of HT_.out (by kernel_rfl)) (by decide) (fun K hK => ?_)
            have hcv54 := own_string (P := Tryd.prog) Tryd.underlying24 Tryd.underlying5 Tryd.underlying9 (Kd.own_of_R HO504.out)
            refine value_ (w1 := ?_) (v := ?_) (by rfl) rfl ?_ ?_
            rotate_left 2
            ·go_simp
             constructor
             ·rfl
             ·rfl
            clear hcv54; refine hK.out _ _ trivial (fun hHeld => ?_)
            clear hK K; refine norm_ (a' := ?_) ?_ ?_
            rotate_left
            ·show Act.put _ (some 60) _ = _
             simp only [putL, i64_w, i32_w]; rfl
            refine pu 14 61 (tb 21 524287) HT_ ?_
            refine pu 19 66 (tb 21 1048575) HT_ ?_
            refine pu 20 4 (tb 21 2097151) HT_ ?_
            refine done_ (done_of HT_.out (by kernel_rfl)) ?_
            try go_wp2
            go_ret
            exact ⟨by first | rfl | (simp [errW_none, errW_some] <;> rfl) | (simp only [← hji44]; first | rfl | (simp [errW_none, errW_some] <;> rfl)) | (simp [*, errW_none, errW_some] <;> rfl), by repeat (first | (with_reducible first | exact HI0.out | apply IsS95.alloc | apply IsS95.drewN | apply IsS95.drew | apply IsS95.set_1 | apply IsS95.set_2) | exact HI0.out), by repeat (first | (with_reducible first | exact HB.out | apply below_alloc | apply pw_below_drewN | apply below_drew1 | refine below_set ?_ (IsS95.ge HI0.out)) | exact HB.out), by repeat (first | (with_reducible first | exact HK.out | apply KeepBut.set_ | apply keep_drewN | apply keep_drew | apply keep_alloc) | exact HK.out)⟩
           ·rw [if_neg c47] at H
            exact absurd H (by simp)
          ·rw [if_neg c46] at H
           exact absurd H (by simp)
         ·rw [if_neg c45] at H
          exact absurd H (by simp)
        ·rw [if_neg c43] at H
         exact absurd H (by simp)
       ·rw [if_neg c40] at H
        exact absurd H (by simp)
      ·rw [if_neg c39] at H
       exact absurd H (by simp)
     ·rw [if_neg c38] at H
      exact absurd H (by simp)
def spec_DrawReadCanon.f (k : Nat) (l0 : List Int) : Option (ByteArray) := (spec_l1New.f k l0).bind fun bt505 => ((spec_l1Size.f l0 20).bind fun t509 => ((spec_l7Draw.f k bt505.1 bt505.2.1 bt505.2.2 t509).bind fun bt510 => ((spec_Canon.f k bt510.1).bind fun t515 => ((spec_l1Once.f bt505.1 bt510.2.1 bt510.2.2 3).bind fun bt516 => (if bt516.1 = true then ((spec_l1Spoil.f k bt505.1 bt516.2.1 bt516.2.2 t515).bind fun bt519 => (some bt519.1)) else (some t515))))))
theorem spec_DrawReadCanon.mono : ∀ a0 k, LeO (spec_DrawReadCanon.f k a0) (spec_DrawReadCanon.f (k + 1) a0) := by
 intro a0 k
 unfold spec_DrawReadCanon.f
 repeat' first
   | (with_reducible exact spec_Canon.mono _ _)
   | (with_reducible exact spec_l1New.mono _ _)
   | (with_reducible exact spec_l1Spoil.mono _ _ _ _ _)
   | (with_reducible exact spec_l7Draw.mono _ _ _ _ _)
   | (with_reducible exact LeO.refl _)
   | (with_reducible exact LeO.none _)
   | (with_reducible refine LeO.ite ?_ ?_)
   | (with_reducible refine LeO.bind ?_ (fun _ => ?_))
   | exact spec_Canon.mono _ _
   | exact spec_l1New.mono _ _
   | exact spec_l1Spoil.mono _ _ _ _ _
   | exact spec_l7Draw.mono _ _ _ _ _
   | exact LeO.none _
   | refine LeO.ite ?_ ?_
   | refine LeO.bind ?_ (fun _ => ?_)
set_option maxHeartbeats 8000000 in
set_option maxRecDepth 100000 in
theorem spec_DrawReadCanon.calls (k : Nat) (A0 : Option Addr) (c0 : Nat) (l0 : List Int) (r : ByteArray) (w : World) (hr0 : Kd.C (Kd.int .u8) w A0 l0.length l0) (hc0 : l0.length ≤ c0) (h : spec_DrawReadCanon.f k l0 = some r) :
  Calls Tryd.prog 31 #[.slice A0 l0.length c0] w fun e w' => e = .returned (.string r) ∧ Below w.heap.size w w' := by
 have HR0 := Aside0.mk hr0
 have HC0 := Aside0.mk hc0
 clear hr0 hc0; have HB := Aside0.mk (Below.refl w.heap.size w)
 have H : ((spec_l1New.f k l0).bind fun bt505 => ((spec_l1Size.f l0 20).bind fun t509 => ((spec_l7Draw.f k bt505.1 bt505.2.1 bt505.2.2 t509).bind fun d9a => ((spec_Canon.f k d9a.1).bind fun t515 => ((spec_l1Once.f bt505.1 d9a.2.1 d9a.2.2 3).bind fun b9a => (if b9a.1 = true then ((spec_l1Spoil.f k bt505.1 b9a.2.1 b9a.2.2 t515).bind fun c9a => (some c9a.1)) else (some t515))))))) = some r := h
 clear h; replace H := Option.bind_eq_some_iff.mp H
 obtain ⟨⟨t505, t506, t507⟩, A20, H⟩ := H
 replace H : ((spec_l1Size.f l0 20).bind fun t509 => ((spec_l7Draw.f k t505 t506 t507 t509).bind fun d9a => ((spec_Canon.f k d9a.1).bind fun t515 => ((spec_l1Once.f t505 d9a.2.1 d9a.2.2 3).bind fun b9a => (if b9a.1 = true then ((spec_l1Spoil.f k t505 b9a.2.1 b9a.2.2 t515).bind fun c9a => (some c9a.1)) else (some t515)))))) = some r := H
 have A2 := Aside0.mk A20
 clear A20; replace H := Option.bind_eq_some_iff.mp H
 obtain ⟨t509, A30, H⟩ := H
 replace H : ((spec_l7Draw.f k t505 t506 t507 t509).bind fun d9a => ((spec_Canon.f k d9a.1).bind fun t515 => ((spec_l1Once.f t505 d9a.2.1 d9a.2.2 3).bind fun b9a => (if b9a.1 = true then ((spec_l1Spoil.f k t505 b9a.2.1 b9a.2.2 t515).bind fun c9a => (some c9a.1)) else (some t515))))) = some r := H
 have A3 := Aside0.mk A30
 clear A30; replace H := Option.bind_eq_some_iff.mp H
 obtain ⟨⟨t510, t513, t514⟩, A40, H⟩ := H
 replace H : ((spec_Canon.f k t510).bind fun t515 => ((spec_l1Once.f t505 t513 t514 3).bind fun b9a => (if b9a.1 = true then ((spec_l1Spoil.f k t505 b9a.2.1 b9a.2.2 t515).bind fun c9a => (some c9a.1)) else (some t515)))) = some r := H
 have A4 := Aside0.mk A40
 clear A40; replace H := Option.bind_eq_some_iff.mp H
 obtain ⟨t515, A50, H⟩ := H
 replace H : ((spec_l1Once.f t505 t513 t514 3).bind fun b9a => (if b9a.1 = true then ((spec_l1Spoil.f k t505 b9a.2.1 b9a.2.2 t515).bind fun c9a => (some c9a.1)) else (some t515))) = some r := H
 have A5 := Aside0.mk A50
 clear A50; replace H := Option.bind_eq_some_iff.mp H
 obtain ⟨⟨t516, t517, t518⟩, A60, H⟩ := H
 replace H : (if t516 = true then ((spec_l1Spoil.f k t505 t517 t518 t515).bind fun c9a => (some c9a.1)) else (some t515)) = some r := H
 have A6 := Aside0.mk A60
 clear A60
 by_cases c7 : t516 = true
 ·subst c7
  have H1 : ((spec_l1Spoil.f k t505 t517 t518 t515).bind fun c9a => (some c9a.1)) = some r := by rw [if_pos rfl] at H; exact H
  clear H; have H := H1
  clear H1; replace H := Option.bind_eq_some_iff.mp H
  obtain ⟨⟨t519, t520, t521⟩, A80, H⟩ := H
  replace H : (some t519) = some r := H
  have A8 := Aside0.mk A80
  clear A80; obtain rfl := Option.some.inj H
  go_enter Tryd.func31, Tryd.ntmps31
  go_wp2_with (first | ((with_reducible refine gate_callee (f := 40) rfl ?_); refine goesC_ (some 6) Tryd.func40 #[.slice A0 l0.length c0] ?_; (with_reducible refine (spec_l1New.calls k _ _ l0 t505 t506 t507 w _ ?side1 ?side2 ?side3 A2.out).mono ?_); (case side1 => repeat (first | (with_reducible first | exact HB.out | apply below_alloc | apply pw_below_drewN | apply below_drew1) | exact HB.out)); (case side2 => exact HR0.out); (case side3 => exact HC0.out); rintro e w9 ⟨g508, rfl, hi, hb, hb2⟩; refine ⟨_, rfl, ?_⟩; have n0_ := Aside0.mk (hb); have HI508 := Aside0.mk (hi); clear HB; have HB := n0_; clear n0_; (try clear hb); (try clear hb2); (try clear hk); (try clear hi)) | ((with_reducible refine gate_callee (f := 55) rfl ?_); refine goesC_ (some 9) Tryd.func55 #[.slice A0 l0.length c0, .int .i64 20] ?_; (with_reducible refine (spec_l1Size.calls _ _ l0 20 t509 _ ?side1 ?side2 A3.out).mono ?_); (case side1 => repeat (first | exact (Kd.C_below HR0.out HB.out) | (with_reducible refine Kd.C_alloc ?_ _) | (with_reducible refine Kd.C_drewN ?_ _) | (with_reducible refine Kd.C_drew ?_))); (case side2 => exact HC0.out); rintro e w' ⟨rfl, ⟨nd, rfl⟩⟩; refine ⟨_, rfl, ?_⟩) | ((with_reducible refine gate_callee (f := 61) rfl ?_); refine goesC_ (some 10) Tryd.func61 #[.pointer (some ⟨g508, 0, none⟩), .int .i64 t509] ?_; (with_reducible refine (spec_l7Draw.calls k g508 t505 t506 t507 t509 t510 t513 t514 w _ ?side1 ?side2 A4.out).mono ?_); (case side1 => repeat (first | (with_reducible first | exact HI508.out | apply IsS95.alloc | apply IsS95.drewN | apply IsS95.drew | apply IsS95.set_1 | apply IsS95.set_2) | exact HI508.out)); (case side2 => repeat (first | (with_reducible first | exact HB.out | apply below_alloc | apply pw_below_drewN | apply below_drew1 | refine below_set ?_ (IsS95.ge HI508.out)) | exact HB.out)); rintro e w10 ⟨v511, rfl, ho0, hi, hb, hk⟩; refine ⟨_, rfl, ?_⟩; have n1_ := Aside0.mk (hb); have n2_ := Aside0.mk (hi); have a9a := Aside0.mk (Kd.R_lower ho0 (below_size (by repeat (first | (with_reducible first | exact HB.out | apply below_alloc | apply pw_below_drewN | apply below_drew1 | refine below_set ?_ (IsS95.ge HI508.out)) | exact HB.out)))); clear HB HI508; have HB := n1_; have HI508 := n2_; clear n1_ n2_; (try clear hb); (try clear hb2); (try clear hk); (try clear hi); obtain ⟨Ao11, co11, eo11⟩ := Kd.R_slice a9a.out; subst eo11) | ((with_reducible refine gate_callee (f := 51) rfl ?_); refine goesC_ (some 11) Tryd.func51 #[.agg #[.slice Ao11 t510.length co11]] ?_; (with_reducible refine (spec_Canon.calls k _ _ t510 t515 _ ?side1 ?side2 A5.out).mono ?_); (case side1 => repeat (first | exact (Kd.R_reads' a9a.out).2.2 | (with_reducible refine Kd.C_alloc ?_ _) | (with_reducible refine Kd.C_drewN ?_ _) | (with_reducible refine Kd.C_drew ?_))); (case side2 => exact (Kd.R_reads' a9a.out).2.1); rintro e w12 ⟨rfl, hb⟩; refine ⟨_, rfl, ?_⟩; have n1_ := Aside0.mk (IsS95.below (by repeat (first | (with_reducible first | exact HI508.out | apply IsS95.alloc | apply IsS95.drewN | apply IsS95.drew | apply IsS95.set_1 | apply IsS95.set_2) | exact HI508.out)) hb); have n2_ := Aside0.mk (below_step (by repeat (first | (with_reducible first | exact HB.out | apply below_alloc | apply pw_below_drewN | apply below_drew1 | refine below_set ?_ (IsS95.ge HI508.out)) | exact HB.out)) hb); replace a9a := Aside0.mk (Kd.R_below (rr a9a) hb); clear HI508 HB; have HI508 := n1_; have HB := n2_; clear n1_ n2_; (try clear hb); (try clear hb2); (try clear hk); (try clear hi)) | ((with_reducible refine gate_callee (f := 62) rfl ?_); refine goesC_ (some 13) Tryd.func62 #[.pointer (some ⟨g508, 0, none⟩), .int .i64 3] ?_; (with_reducible refine (spec_l1Once.calls g508 t505 t513 t514 3 true t517 t518 w _ ?side1 ?side2 A6.out).mono ?_); (case side1 => repeat (first | (with_reducible first | exact HI508.out | apply IsS95.alloc | apply IsS95.drewN | apply IsS95.drew | apply IsS95.set_1 | apply IsS95.set_2) | exact HI508.out)); (case side2 => repeat (first | (with_reducible first | exact HB.out | apply below_alloc | apply pw_below_drewN | apply below_drew1 | refine below_set ?_ (IsS95.ge HI508.out)) | exact HB.out)); rintro e w13 ⟨rfl, hi, hb, hk⟩; refine ⟨_, rfl, ?_⟩; have n0_ := Aside0.mk (Kd.R_mono (Kd.R_keep (IsS95.apart (show IsS95 w _ g508 t505 t513 t514 from by repeat (first | (with_reducible first | exact HI508.out | apply IsS95.alloc | apply IsS95.drewN | apply IsS95.drew | apply IsS95.set_1 | apply IsS95.set_2) | exact HI508.out)) (rr a9a) (by decide)) hk (fun _ h => h.2)) (fun _ h => h.1)); have n1_ := Aside0.mk (hb); have n2_ := Aside0.mk (hi); clear a9a HB HI508; have a9a := n0_; have HB := n1_; have HI508 := n2_; clear n0_ n1_ n2_; (try clear hb); (try clear hb2); (try clear hk); (try clear hi)) | ((with_reducible refine gate_callee (f := 63) rfl ?_); refine goesC_ (some 16) Tryd.func63 #[.pointer (some ⟨g508, 0, none⟩), .string t515] ?_; (with_reducible refine (spec_l1Spoil.calls k g508 t505 t517 t518 t515 t519 t520 t521 w _ ?side1 ?side2 A8.out).mono ?_); (case side1 => repeat (first | (with_reducible first | exact HI508.out | apply IsS95.alloc | apply IsS95.drewN | apply IsS95.drew | apply IsS95.set_1 | apply IsS95.set_2) | exact HI508.out)); (case side2 => repeat (first | (with_reducible first | exact HB.out | apply below_alloc | apply pw_below_drewN | apply below_drew1 | refine below_set ?_ (IsS95.ge HI508.out)) | exact HB.out)); rintro e w14 ⟨rfl, hi, hb, hk⟩; refine ⟨_, rfl, ?_⟩; have n0_ := Aside0.mk (Kd.R_mono (Kd.R_keep (IsS95.apart (show IsS95 w _ g508 t505 t517 t518 from by repeat (first | (with_reducible first | exact HI508.out | apply IsS95.alloc | apply IsS95.drewN | apply IsS95.drew | apply IsS95.set_1 | apply IsS95.set_2) | exact HI508.out)) (rr a9a) (by decide)) hk (fun _ h => h.2)) (fun _ h => h.1)); have n1_ := Aside0.mk (hb); have n2_ := Aside0.mk (hi); clear a9a HB HI508; have a9a := n0_; have HB := n1_; have HI508 := n2_; clear n0_ n1_ n2_; (try clear hb); (try clear hb2); (try clear hk); (try clear hi)))
  go_ret
  exact ⟨by first | rfl | (simp [errW_none, errW_some] <;> rfl) | (simp [*, errW_none, errW_some] <;> rfl), by repeat (first | (with_reducible first | exact HB.out | apply below_alloc | apply pw_below_drewN | apply below_drew1 | refine below_set ?_ (IsS95.ge HI508.out)) | exact HB.out)⟩
 ·replace c7 := Bool.eq_false_iff.mpr c7
  subst c7
  have H1 : (some t515) = some r := by rw [if_neg (show ¬ (false = true) by decide)] at H; exact H
  clear H; have H := H1
  clear H1; obtain rfl := Option.some.inj H
  go_enter Tryd.func31, Tryd.ntmps31
  go_wp2_with (first | ((with_reducible refine gate_callee (f := 40) rfl ?_); refine goesC_ (some 6) Tryd.func40 #[.slice A0 l0.length c0] ?_; (with_reducible refine (spec_l1New.calls k _ _ l0 t505 t506 t507 w _ ?side1 ?side2 ?side3 A2.out).mono ?_); (case side1 => repeat (first | (with_reducible first | exact HB.out | apply below_alloc | apply pw_below_drewN | apply below_drew1) | exact HB.out)); (case side2 => exact HR0.out); (case side3 => exact HC0.out); rintro e w15 ⟨g508, rfl, hi, hb, hb2⟩; refine ⟨_, rfl, ?_⟩; have n0_ := Aside0.mk (hb); have HI508 := Aside0.mk (hi); clear HB; have HB := n0_; clear n0_; (try clear hb); (try clear hb2); (try clear hk); (try clear hi)) | ((with_reducible refine gate_callee (f := 55) rfl ?_); refine goesC_ (some 9) Tryd.func55 #[.slice A0 l0.length c0, .int .i64 20] ?_; (with_reducible refine (spec_l1Size.calls _ _ l0 20 t509 _ ?side1 ?side2 A3.out).mono ?_); (case side1 => repeat (first | exact (Kd.C_below HR0.out HB.out) | (with_reducible refine Kd.C_alloc ?_ _) | (with_reducible refine Kd.C_drewN ?_ _) | (with_reducible refine Kd.C_drew ?_))); (case side2 => exact HC0.out); rintro e w' ⟨rfl, ⟨nd, rfl⟩⟩; refine ⟨_, rfl, ?_⟩) | ((with_reducible refine gate_callee (f := 61) rfl ?_); refine goesC_ (some 10) Tryd.func61 #[.pointer (some ⟨g508, 0, none⟩), .int .i64 t509] ?_; (with_reducible refine (spec_l7Draw.calls k g508 t505 t506 t507 t509 t510 t513 t514 w _ ?side1 ?side2 A4.out).mono ?_); (case side1 => repeat (first | (with_reducible first | exact HI508.out | apply IsS95.alloc | apply IsS95.drewN | apply IsS95.drew | apply IsS95.set_1 | apply IsS95.set_2) | exact HI508.out)); (case side2 => repeat (first | (with_reducible first | exact HB.out | apply below_alloc | apply pw_below_drewN | apply below_drew1 | refine below_set ?_ (IsS95.ge HI508.out)) | exact HB.out)); rintro e w16 ⟨v511, rfl, ho0, hi, hb, hk⟩; refine ⟨_, rfl, ?_⟩; have n1_ := Aside0.mk (hb); have n2_ := Aside0.mk (hi); have a9a := Aside0.mk (Kd.R_lower ho0 (below_size (by repeat (first | (with_reducible first | exact HB.out | apply below_alloc | apply pw_below_drewN | apply below_drew1 | refine below_set ?_ (IsS95.ge HI508.out)) | exact HB.out)))); clear HB HI508; have HB := n1_; have HI508 := n2_; clear n1_ n2_; (try clear hb); (try clear hb2); (try clear hk); (try clear hi); obtain ⟨Ao17, co17, eo17⟩ := Kd.R_slice a9a.out; subst eo17) | ((with_reducible refine gate_callee (f := 51) rfl ?_); refine goesC_ (some 11) Tryd.func51 #[.agg #[.slice Ao17 t510.length co17]] ?_; (with_reducible refine (spec_Canon.calls k _ _ t510 t515 _ ?side1 ?side2 A5.out).mono ?_); (case side1 => repeat (first | exact (Kd.R_reads' a9a.out).2.2 | (with_reducible refine Kd.C_alloc ?_ _) | (with_reducible refine Kd.C_drewN ?_ _) | (with_reducible refine Kd.C_drew ?_))); (case side2 => exact (Kd.R_reads' a9a.out).2.1); rintro e w18 ⟨rfl, hb⟩; refine ⟨_, rfl, ?_⟩; have n1_ := Aside0.mk (IsS95.below (by repeat (first | (with_reducible first | exact HI508.out | apply IsS95.alloc | apply IsS95.drewN | apply IsS95.drew | apply IsS95.set_1 | apply IsS95.set_2) | exact HI508.out)) hb); have n2_ := Aside0.mk (below_step (by repeat (first | (with_reducible first | exact HB.out | apply below_alloc | apply pw_below_drewN | apply below_drew1 | refine below_set ?_ (IsS95.ge HI508.out)) | exact HB.out)) hb); replace a9a := Aside0.mk (Kd.R_below (rr a9a) hb); clear HI508 HB; have HI508 := n1_; have HB := n2_; clear n1_ n2_; (try clear hb); (try clear hb2); (try clear hk); (try clear hi)) | ((with_reducible refine gate_callee (f := 62) rfl ?_); refine goesC_ (some 13) Tryd.func62 #[.pointer (some ⟨g508, 0, none⟩), .int .i64 3] ?_; (with_reducible refine (spec_l1Once.calls g508 t505 t513 t514 3 false t517 t518 w _ ?side1 ?side2 A6.out).mono ?_); (case side1 => repeat (first | (with_reducible first | exact HI508.out | apply IsS95.alloc | apply IsS95.drewN | apply IsS95.drew | apply IsS95.set_1 | apply IsS95.set_2) | exact HI508.out)); (case side2 => repeat (first | (with_reducible first | exact HB.out | apply below_alloc | apply pw_below_drewN | apply below_drew1 | refine below_set ?_ (IsS95.ge HI508.out)) | exact HB.out)); rintro e w19 ⟨rfl, hi, hb, hk⟩; refine ⟨_, rfl, ?_⟩; have n0_ := Aside0.mk (Kd.R_mono (Kd.R_keep (IsS95.apart (show IsS95 w _ g508 t505 t513 t514 from by repeat (first | (with_reducible first | exact HI508.out | apply IsS95.alloc | apply IsS95.drewN | apply IsS95.drew | apply IsS95.set_1 | apply IsS95.set_2) | exact HI508.out)) (rr a9a) (by decide)) hk (fun _ h => h.2)) (fun _ h => h.1)); have n1_ := Aside0.mk (hb); have n2_ := Aside0.mk (hi); clear a9a HB HI508; have a9a := n0_; have HB := n1_; have HI508 := n2_; clear n0_ n1_ n2_; (try clear hb); (try clear hb2); (try clear hk); (try clear hi)))
  go_ret
  exact ⟨by first | rfl | (simp [errW_none, errW_some] <;> rfl) | (simp [*, errW_none, errW_some] <;> rfl), by repeat (first | (with_reducible first | exact HB.out | apply below_alloc | apply pw_below_drewN | apply below_drew1 | refine below_set ?_ (IsS95.ge HI508.out)) | exact HB.out)⟩
end Go.Proofs.YtobkmpihjfiihaaDoor.PFnCanon
