-- The machine side of a law: written by a program of this session (wip/tools), a turned print.
import Derived.Test.YtddebnchbbmbkaaPFnLatestx0
import Derived.Test.YtddebnchbbmbkaaPFnLatestx2
import Derived.Test.YtddebnchbbmbkaaPFnLatestx3
import Derived.Test.YtddebnchbbmbkaaPFnLatestx6
import Derived.Test.YtddebnchbbmbkaaPFnLatestx13
import Derived.Test.YtddebnchbbmbkaaPFnLatestx14
namespace Go.Proofs.Ytddebnchbbmbkaa.PFnLatest
open Go.RowKit Go.Proofs.YtddebnchbbmbkaaW.PrintWords Go.Proofs.YtddebnchbbmbkaaW.PrintLast Go.Proofs.YtddebnchbbmbkaaW.PrintMore
attribute [local go_sem] max2_int min2_int max_two min_two max_three min_three max_four min_four   -- for this text's walks alone
set_option linter.unusedVariables false
set_option linter.unusedSimpArgs false

/-! ### laws_FnLatest: function 3 -/
mutual
def laws_FnLatest.j0 : Nat → Int → Bool → Bool → List (S95) → Int → List (S86) → Option (Bool)
 | 0, _, _, _, _, _, _ => none
 | k + 1, x4, x6, x38, x400000, x407000, x407001 => if x38 = true then (some x6) else (laws_FnLatest.l0 k x4 (([(⟨#[97]⟩ : ByteArray), (⟨#[97, 98]⟩ : ByteArray), (⟨#[97, 98, 99]⟩ : ByteArray), (⟨#[32, 97]⟩ : ByteArray), (⟨#[98, 97]⟩ : ByteArray), (⟨#[98]⟩ : ByteArray), (⟨#[99, 97, 98]⟩ : ByteArray), (⟨#[120]⟩ : ByteArray)] : List ByteArray)) 0 x400000 x407000 x407001)
def laws_FnLatest.l0 : Nat → Int → List ByteArray → Int → List (S95) → Int → List (S86) → Option (Bool)
 | 0, _, _, _, _, _, _ => none
 | k + 1, x4, x7, x8, x400000, x407000, x407001 => if x8 < 8 then (if 0 ≤ x8 then (if x8 < (x7.length : Int) then ((impl_Recall.f k x400000 x407000 x407001 (rdOf ByteArray.empty x7 x8)).bind fun bt412 => (if bt412.2.2.2 = true then (none) else ((spec_Bpe.f k x400000 (rdOf ByteArray.empty x7 x8)).bind fun t422 => ((laws_sameInts.f k bt412.2.2.1 t422).bind fun t425 => (if t425 = true then (laws_FnLatest.l0 k x4 x7 (wrap64 (x8 + 1)) x400000 bt412.1 bt412.2.1) else (none)))))) else (none)) else (none)) else (laws_FnLatest.l1 k x4 x7 (wrap64 (8 - x4)) x400000 x407000 x407001)
def laws_FnLatest.l1 : Nat → Int → List ByteArray → Int → List (S95) → Int → List (S86) → Option (Bool)
 | 0, _, _, _, _, _, _ => none
 | k + 1, x4, x7, x12, x400000, x407000, x407001 => if x12 < 8 then (if 0 ≤ x12 then (if x12 < (x7.length : Int) then ((impl_Recall.f k x400000 x407000 x407001 (rdOf ByteArray.empty x7 x12)).bind fun bt427 => (if bt427.2.2.2 = true then (laws_FnLatest.l1 k x4 x7 (wrap64 (x12 + 1)) x400000 bt427.1 bt427.2.1) else (none))) else (none)) else (none)) else (if 0 < (x7.length : Int) then ((impl_Recall.f k x400000 x407000 x407001 (rdOf ByteArray.empty x7 0)).bind fun bt437 => (if bt437.2.2.2 = true then (none) else (some ((x407001.length : Int) == x4)))) else (none))
end
def laws_FnLatest.f (k : Nat) (l0 : List Int) : Option (Bool) := (laws_big.f l0).bind fun t395 => (if t395 = true then (some true) else ((spec_DrawCanon.f k l0).bind fun t396 => ((laws_at.f l0 0).bind fun t400 => ((impl_NewMemo.f (wrap64 (1 + (Int.tmod t400 5)))).bind fun bt401 => (if bt401.2.2 = true then ((spec_VocabOk.f k t396).bind fun t407 => (laws_FnLatest.j0 k (wrap64 (1 + (Int.tmod t400 5))) bt401.2.2 (!t407) t396 bt401.1 bt401.2.1)) else (laws_FnLatest.j0 k (wrap64 (1 + (Int.tmod t400 5))) bt401.2.2 true t396 bt401.1 bt401.2.1))))))
theorem laws_FnLatest.mono_l : ∀ k, (∀ y0 y1 y2 y3 y4 y5, LeO (laws_FnLatest.j0 k y0 y1 y2 y3 y4 y5) (laws_FnLatest.j0 (k + 1) y0 y1 y2 y3 y4 y5)) ∧ (∀ y0 y1 y2 y3 y4 y5, LeO (laws_FnLatest.l0 k y0 y1 y2 y3 y4 y5) (laws_FnLatest.l0 (k + 1) y0 y1 y2 y3 y4 y5)) ∧ (∀ y0 y1 y2 y3 y4 y5, LeO (laws_FnLatest.l1 k y0 y1 y2 y3 y4 y5) (laws_FnLatest.l1 (k + 1) y0 y1 y2 y3 y4 y5))
 | 0 => ⟨fun _ _ _ _ _ _ r h => by simp [laws_FnLatest.j0] at h, fun _ _ _ _ _ _ r h => by simp [laws_FnLatest.l0] at h, fun _ _ _ _ _ _ r h => by simp [laws_FnLatest.l1] at h⟩
 | k + 1 => by
  obtain ⟨ih0, ih1, ih2⟩ := laws_FnLatest.mono_l k
  refine ⟨?_, ?_, ?_⟩
  ·intro y0 y1 y2 y3 y4 y5
   unfold laws_FnLatest.j0
   repeat' first
   | (with_reducible exact ih0 _ _ _ _ _ _)
   | (with_reducible exact ih1 _ _ _ _ _ _)
   | (with_reducible exact ih2 _ _ _ _ _ _)
   | (with_reducible exact impl_Recall.mono _ _ _ _ _)
   | (with_reducible exact laws_sameInts.mono _ _ _)
   | (with_reducible exact spec_Bpe.mono _ _ _)
   | (with_reducible exact spec_DrawCanon.mono _ _)
   | (with_reducible exact spec_VocabOk.mono _ _)
   | (with_reducible exact LeO.refl _)
   | (with_reducible exact LeO.none _)
   | (with_reducible refine LeO.ite ?_ ?_)
   | (with_reducible refine LeO.bind ?_ (fun _ => ?_))
   | exact ih0 _ _ _ _ _ _
   | exact ih1 _ _ _ _ _ _
   | exact ih2 _ _ _ _ _ _
   | exact impl_Recall.mono _ _ _ _ _
   | exact laws_sameInts.mono _ _ _
   | exact spec_Bpe.mono _ _ _
   | exact spec_DrawCanon.mono _ _
   | exact spec_VocabOk.mono _ _
   | exact LeO.none _
   | refine LeO.ite ?_ ?_
   | refine LeO.bind ?_ (fun _ => ?_)
  ·intro y0 y1 y2 y3 y4 y5
   unfold laws_FnLatest.l0
   repeat' first
   | (with_reducible exact ih0 _ _ _ _ _ _)
   | (with_reducible exact ih1 _ _ _ _ _ _)
   | (with_reducible exact ih2 _ _ _ _ _ _)
   | (with_reducible exact impl_Recall.mono _ _ _ _ _)
   | (with_reducible exact laws_sameInts.mono _ _ _)
   | (with_reducible exact spec_Bpe.mono _ _ _)
   | (with_reducible exact spec_DrawCanon.mono _ _)
   | (with_reducible exact spec_VocabOk.mono _ _)
   | (with_reducible exact LeO.refl _)
   | (with_reducible exact LeO.none _)
   | (with_reducible refine LeO.ite ?_ ?_)
   | (with_reducible refine LeO.bind ?_ (fun _ => ?_))
   | exact ih0 _ _ _ _ _ _
   | exact ih1 _ _ _ _ _ _
   | exact ih2 _ _ _ _ _ _
   | exact impl_Recall.mono _ _ _ _ _
   | exact laws_sameInts.mono _ _ _
   | exact spec_Bpe.mono _ _ _
   | exact spec_DrawCanon.mono _ _
   | exact spec_VocabOk.mono _ _
   | exact LeO.none _
   | refine LeO.ite ?_ ?_
   | refine LeO.bind ?_ (fun _ => ?_)
  ·intro y0 y1 y2 y3 y4 y5
   unfold laws_FnLatest.l1
   repeat' first
   | (with_reducible exact ih0 _ _ _ _ _ _)
   | (with_reducible exact ih1 _ _ _ _ _ _)
   | (with_reducible exact ih2 _ _ _ _ _ _)
   | (with_reducible exact impl_Recall.mono _ _ _ _ _)
   | (with_reducible exact laws_sameInts.mono _ _ _)
   | (with_reducible exact spec_Bpe.mono _ _ _)
   | (with_reducible exact spec_DrawCanon.mono _ _)
   | (with_reducible exact spec_VocabOk.mono _ _)
   | (with_reducible exact LeO.refl _)
   | (with_reducible exact LeO.none _)
   | (with_reducible refine LeO.ite ?_ ?_)
   | (with_reducible refine LeO.bind ?_ (fun _ => ?_))
   | exact ih0 _ _ _ _ _ _
   | exact ih1 _ _ _ _ _ _
   | exact ih2 _ _ _ _ _ _
   | exact impl_Recall.mono _ _ _ _ _
   | exact laws_sameInts.mono _ _ _
   | exact spec_Bpe.mono _ _ _
   | exact spec_DrawCanon.mono _ _
   | exact spec_VocabOk.mono _ _
   | exact LeO.none _
   | refine LeO.ite ?_ ?_
   | refine LeO.bind ?_ (fun _ => ?_)
theorem laws_FnLatest.mono : ∀ a0 k, LeO (laws_FnLatest.f k a0) (laws_FnLatest.f (k + 1) a0) := by
 intro a0 k
 obtain ⟨ih0, ih1, ih2⟩ := laws_FnLatest.mono_l k
 unfold laws_FnLatest.f
 repeat' first
   | (with_reducible exact ih0 _ _ _ _ _ _)
   | (with_reducible exact ih1 _ _ _ _ _ _)
   | (with_reducible exact ih2 _ _ _ _ _ _)
   | (with_reducible exact impl_Recall.mono _ _ _ _ _)
   | (with_reducible exact laws_sameInts.mono _ _ _)
   | (with_reducible exact spec_Bpe.mono _ _ _)
   | (with_reducible exact spec_DrawCanon.mono _ _)
   | (with_reducible exact spec_VocabOk.mono _ _)
   | (with_reducible exact LeO.refl _)
   | (with_reducible exact LeO.none _)
   | (with_reducible refine LeO.ite ?_ ?_)
   | (with_reducible refine LeO.bind ?_ (fun _ => ?_))
   | exact ih0 _ _ _ _ _ _
   | exact ih1 _ _ _ _ _ _
   | exact ih2 _ _ _ _ _ _
   | exact impl_Recall.mono _ _ _ _ _
   | exact laws_sameInts.mono _ _ _
   | exact spec_Bpe.mono _ _ _
   | exact spec_DrawCanon.mono _ _
   | exact spec_VocabOk.mono _ _
   | exact LeO.none _
   | refine LeO.ite ?_ ?_
   | refine LeO.bind ?_ (fun _ => ?_)
def laws_FnLatest.T12 : Bool × List (List Nat × List Nat) := (true, [([], []), ([], []), ([], []), ([], []), ([2, 3], [2, 3]), ([4], [4]), ([0, 1, 5], [0, 1, 5]), ([6], [6]), ([7], [7]), ([7], [7]), ([7], [7]), ([], []), ([11, 8, 6, 0, 1, 2, 3, 4, 5, 6, 7, 8, 11], [8, 11]), ([9, 12, 0, 1, 2, 3, 4, 5, 6, 7, 8, 9, 11, 12], [9]), ([10, 13, 0, 1, 2, 3, 4, 5, 6, 7, 8, 9, 10, 11, 12, 13], [10])])
def laws_FnLatest.B12 : List Nat := [0, 0, 0, 0, 12, 28, 63, 127, 255, 255, 255, 0, 2559, 7167, 16383]
theorem laws_FnLatest.tab12 : rtab .any (opsOf Try.f3 12) = laws_FnLatest.T12 := by kernel_rfl
theorem laws_FnLatest.bits12 : waitsOk laws_FnLatest.T12.2 laws_FnLatest.B12 = true := by kernel_rfl
def laws_FnLatest.T13 : Bool × List (List Nat × List Nat) := (true, [([], []), ([0], [0]), ([1], [1]), ([1], [1]), ([1], [1]), ([1], [1]), ([4, 5, 1], [1, 4, 5]), ([6, 1], [1, 6]), ([3, 7, 1, 1], [1, 3, 7]), ([2, 8, 8, 1], [1, 2, 8]), ([9, 1], [1, 9]), ([1, 10], [1, 10])])
def laws_FnLatest.B13 : List Nat := [0, 1, 3, 3, 3, 3, 51, 115, 251, 511, 1023, 2047]
theorem laws_FnLatest.tab13 : rtab .any (opsOf Try.f3 13) = laws_FnLatest.T13 := by kernel_rfl
theorem laws_FnLatest.bits13 : waitsOk laws_FnLatest.T13.2 laws_FnLatest.B13 = true := by kernel_rfl
def laws_FnLatest.T19 : Bool × List (List Nat × List Nat) := (true, [([], []), ([], []), ([], []), ([], []), ([2, 3], [2, 3]), ([4], [4]), ([0, 1, 5], [0, 1, 5]), ([6], [6]), ([7], [7]), ([7], [7]), ([7], [7]), ([], []), ([11, 8, 6, 0, 1, 2, 3, 4, 5, 6, 7, 8, 11], [8, 11]), ([9, 12, 0, 1, 2, 3, 4, 5, 6, 7, 8, 9, 11, 12], [9]), ([10, 13, 0, 1, 2, 3, 4, 5, 6, 7, 8, 9, 10, 11, 12, 13], [10])])
def laws_FnLatest.B19 : List Nat := [0, 0, 0, 0, 12, 28, 63, 127, 255, 255, 255, 0, 2559, 7167, 16383]
theorem laws_FnLatest.tab19 : rtab .any (opsOf Try.f3 19) = laws_FnLatest.T19 := by kernel_rfl
theorem laws_FnLatest.bits19 : waitsOk laws_FnLatest.T19.2 laws_FnLatest.B19 = true := by kernel_rfl
def laws_FnLatest.T23 : Bool × List (List Nat × List Nat) := (true, [([], []), ([], []), ([], []), ([2], [2]), ([3], [3]), ([0, 1, 4], [0, 1, 4]), ([5], [5]), ([6], [6]), ([6], [6]), ([6], [6]), ([], []), ([10, 7, 5, 0, 1, 2, 3, 4, 5, 6, 7, 10], [7, 10]), ([8, 11, 0, 1, 2, 3, 4, 5, 6, 7, 8, 10, 11], [8]), ([9, 12, 0, 1, 2, 3, 4, 5, 6, 7, 8, 9, 10, 11, 12], [9])])
def laws_FnLatest.B23 : List Nat := [0, 0, 0, 4, 12, 31, 63, 127, 127, 127, 0, 1279, 3583, 8191]
theorem laws_FnLatest.tab23 : rtab .any (opsOf Try.f3 23) = laws_FnLatest.T23 := by kernel_rfl
theorem laws_FnLatest.bits23 : waitsOk laws_FnLatest.T23.2 laws_FnLatest.B23 = true := by kernel_rfl
set_option maxHeartbeats 8000000 in
set_option maxRecDepth 100000 in
theorem laws_FnLatest.calls (k : Nat) (A0 : Option Addr) (c0 : Nat) (l0 : List Int) (r : Bool) (w : World) (hr0 : Kd.C (Kd.int .u8) w A0 l0.length l0) (hc0 : l0.length ≤ c0) (h : laws_FnLatest.f k l0 = some r) :
  Calls Try.prog 3 #[.slice A0 l0.length c0] w fun e w' => e = .returned (.bool r) ∧ Below w.heap.size w w' := by
 have hu26 := Try.underlying26
 have hu31 := Try.underlying31
 have HR0 := Aside0.mk hr0
 have HC0 := Aside0.mk hc0
 clear hr0 hc0; have HB := Aside0.mk (Below.refl w.heap.size w)
 have H : ((laws_big.f l0).bind fun t395 => (if t395 = true then (some true) else ((spec_DrawCanon.f k l0).bind fun t396 => ((laws_at.f l0 0).bind fun t400 => ((impl_NewMemo.f (wrap64 (1 + (Int.tmod t400 5)))).bind fun bt401 => (if bt401.2.2 = true then ((spec_VocabOk.f k t396).bind fun t407 => (laws_FnLatest.j0 k (wrap64 (1 + (Int.tmod t400 5))) bt401.2.2 (!t407) t396 bt401.1 bt401.2.1)) else (laws_FnLatest.j0 k (wrap64 (1 + (Int.tmod t400 5))) bt401.2.2 true t396 bt401.1 bt401.2.1))))))) = some r := h
 clear h; replace H := Option.bind_eq_some_iff.mp H
 obtain ⟨t395, A20, H⟩ := H
 replace H : (if t395 = true then (some true) else ((spec_DrawCanon.f k l0).bind fun t396 => ((laws_at.f l0 0).bind fun t400 => ((impl_NewMemo.f (wrap64 (1 + (Int.tmod t400 5)))).bind fun bt401 => (if bt401.2.2 = true then ((spec_VocabOk.f k t396).bind fun t407 => (laws_FnLatest.j0 k (wrap64 (1 + (Int.tmod t400 5))) bt401.2.2 (!t407) t396 bt401.1 bt401.2.1)) else (laws_FnLatest.j0 k (wrap64 (1 + (Int.tmod t400 5))) bt401.2.2 true t396 bt401.1 bt401.2.1)))))) = some r := H
 have A2 := Aside0.mk A20
 clear A20
 by_cases c3 : t395 = true
 ·subst c3
  have H1 : (some true) = some r := by rw [if_pos rfl] at H; exact H
  clear H; have H := H1
  clear H1; obtain rfl := Option.some.inj H
  go_enter Try.func3, Try.ntmps3
  go_wp2_with (first | ((with_reducible refine gate_callee (f := 6) rfl ?_); refine goesL_ (some 20) rfl rfl Try.func6 (by kernel_rfl) rfl #[.slice A0 l0.length c0] rfl (by (try simp only [List.map_toArray, List.map_cons, List.map_nil]); first | done | rfl | (simp only [List.length_drop, List.length_take]; rfl)) ?_; (with_reducible refine (laws_big.calls _ _ l0 true _ ?side1 ?side2 A2.out).mono ?_); (case side1 => repeat (first | exact HR0.out | (with_reducible refine Kd.C_alloc ?_ _) | (with_reducible refine Kd.C_drewN ?_ _) | (with_reducible refine Kd.C_drew ?_))); (case side2 => exact HC0.out); rintro e w' ⟨rfl, ⟨nd, rfl⟩⟩; refine ⟨_, rfl, ?_⟩))
  go_ret
  exact ⟨by first | rfl | (simp [errW_none, errW_some] <;> rfl) | (simp [*, errW_none, errW_some] <;> rfl), by repeat (first | (with_reducible first | exact HB.out | apply below_alloc | apply pw_below_drewN | apply below_drew1) | exact HB.out)⟩
 ·replace c3 := Bool.eq_false_iff.mpr c3
  subst c3
  have H1 : ((spec_DrawCanon.f k l0).bind fun t396 => ((laws_at.f l0 0).bind fun t400 => ((impl_NewMemo.f (wrap64 (1 + (Int.tmod t400 5)))).bind fun bt401 => (if bt401.2.2 = true then ((spec_VocabOk.f k t396).bind fun t407 => (laws_FnLatest.j0 k (wrap64 (1 + (Int.tmod t400 5))) bt401.2.2 (!t407) t396 bt401.1 bt401.2.1)) else (laws_FnLatest.j0 k (wrap64 (1 + (Int.tmod t400 5))) bt401.2.2 true t396 bt401.1 bt401.2.1))))) = some r := by rw [if_neg (show ¬ (false = true) by decide)] at H; exact H
  clear H; have H := H1
  clear H1; replace H := Option.bind_eq_some_iff.mp H
  obtain ⟨t396, A40, H⟩ := H
  replace H : ((laws_at.f l0 0).bind fun t400 => ((impl_NewMemo.f (wrap64 (1 + (Int.tmod t400 5)))).bind fun bt401 => (if bt401.2.2 = true then ((spec_VocabOk.f k t396).bind fun t407 => (laws_FnLatest.j0 k (wrap64 (1 + (Int.tmod t400 5))) bt401.2.2 (!t407) t396 bt401.1 bt401.2.1)) else (laws_FnLatest.j0 k (wrap64 (1 + (Int.tmod t400 5))) bt401.2.2 true t396 bt401.1 bt401.2.1)))) = some r := H
  have A4 := Aside0.mk A40
  clear A40; replace H := Option.bind_eq_some_iff.mp H
  obtain ⟨t400, A50, H⟩ := H
  replace H : ((impl_NewMemo.f (wrap64 (1 + (Int.tmod t400 5)))).bind fun bt401 => (if bt401.2.2 = true then ((spec_VocabOk.f k t396).bind fun t407 => (laws_FnLatest.j0 k (wrap64 (1 + (Int.tmod t400 5))) bt401.2.2 (!t407) t396 bt401.1 bt401.2.1)) else (laws_FnLatest.j0 k (wrap64 (1 + (Int.tmod t400 5))) bt401.2.2 true t396 bt401.1 bt401.2.1))) = some r := H
  have A5 := Aside0.mk A50
  clear A50; replace H := Option.bind_eq_some_iff.mp H
  obtain ⟨⟨t401, t402, t405⟩, A60, H⟩ := H
  replace H : (if t405 = true then ((spec_VocabOk.f k t396).bind fun t407 => (laws_FnLatest.j0 k (wrap64 (1 + (Int.tmod t400 5))) t405 (!t407) t396 t401 t402)) else (laws_FnLatest.j0 k (wrap64 (1 + (Int.tmod t400 5))) t405 true t396 t401 t402)) = some r := H
  have A6 := Aside0.mk A60
  clear A60; have HC7 := Aside0.mk H
  clear H
  go_enter Try.func3, Try.ntmps3
  go_upto_region 6 with (first | ((with_reducible refine gate_callee (f := 6) rfl ?_); refine goesL_ (some 20) rfl rfl Try.func6 (by kernel_rfl) rfl #[.slice A0 l0.length c0] rfl (by (try simp only [List.map_toArray, List.map_cons, List.map_nil]); first | done | rfl | (simp only [List.length_drop, List.length_take]; rfl)) ?_; (with_reducible refine (laws_big.calls _ _ l0 false _ ?side1 ?side2 A2.out).mono ?_); (case side1 => repeat (first | exact HR0.out | (with_reducible refine Kd.C_alloc ?_ _) | (with_reducible refine Kd.C_drewN ?_ _) | (with_reducible refine Kd.C_drew ?_))); (case side2 => exact HC0.out); rintro e w' ⟨rfl, ⟨nd, rfl⟩⟩; refine ⟨_, rfl, ?_⟩) | ((with_reducible refine gate_callee (f := 7) rfl ?_); refine goesL_ (some 22) rfl rfl Try.func7 (by kernel_rfl) rfl #[.slice A0 l0.length c0] rfl (by (try simp only [List.map_toArray, List.map_cons, List.map_nil]); first | done | rfl | (simp only [List.length_drop, List.length_take]; rfl)) ?_; (with_reducible refine (spec_DrawCanon.calls k _ _ l0 t396 _ ?side1 ?side2 A4.out).mono ?_); (case side1 => repeat (first | exact HR0.out | (with_reducible refine Kd.C_alloc ?_ _) | (with_reducible refine Kd.C_drewN ?_ _) | (with_reducible refine Kd.C_drew ?_))); (case side2 => exact HC0.out); rintro e w8 ⟨v397, rfl, ho0, hb⟩; refine ⟨_, rfl, ?_⟩; have HO398 := Aside0.mk (Kd.R_lower ho0 (below_size (be HB))); replace HB := bh HB hb; (try clear hb); (try clear hb2); (try clear hk); (try clear hi); (try clear ho0)) | ((with_reducible refine gate_dst (N := 3) rfl ?_); (try (refine gate_guard (by rfl) ?_; dsimp only)); refine box_event ?hg (N := 3) ?hd (cs := #[.slice none 0 0]) (t := 26) ?hr ?_; (case hd => rfl); (case hg => rfl); (case hr => first | (go_simp; done) | (go_simp; rfl)); intro gb399 hg w9 hbox hb; have BK399 := Aside0.mk (hbox); have GW399 := bs HB hg; have GE399 := bs HB hg; replace HO398 := Aside0.mk (Kd.R_below (rr HO398) hb); replace HB := bh HB hb; clear hb hbox hg; obtain ⟨Ao10, co10, eo10⟩ := Kd.R_slice HO398.out; subst eo10; have hcz11_0 : w9.cell? ⟨gb399, 0, none⟩ = some (.slice none 0 0) := bc BK399 0; have hfz11_0 := blk_frozen BK399.out 0) | ((with_reducible refine gate_callee (f := 8) rfl ?_); refine goesL_ (some 24) rfl rfl Try.func8 (by kernel_rfl) rfl #[.slice A0 l0.length c0, .int .i64 0] rfl (by (try simp only [List.map_toArray, List.map_cons, List.map_nil]); first | done | rfl | (simp only [List.length_drop, List.length_take]; rfl)) ?_; (with_reducible refine (laws_at.calls _ _ l0 0 t400 _ ?side1 ?side2 A5.out).mono ?_); (case side1 => exact Kd.C_below HR0.out (be HB)); (case side2 => exact HC0.out); rintro e w' ⟨rfl, ⟨nd, rfl⟩⟩; refine ⟨_, rfl, ?_⟩) | ((with_reducible refine gate_callee (f := 9) rfl ?_); refine goesL_ (some 29) rfl rfl Try.func9 (by kernel_rfl) rfl #[.int .i64 (wrap64 (1 + (Int.tmod t400 5)))] rfl (by (try simp only [List.map_toArray, List.map_cons, List.map_nil]); first | done | rfl | (simp only [List.length_drop, List.length_take]; rfl)) ?_; (with_reducible refine (impl_NewMemo.calls (wrap64 (1 + (Int.tmod t400 5))) t401 t402 t405 _ A6.out).mono ?_); rintro e w12 ⟨v403, rfl, ho0, hb⟩; refine ⟨_, rfl, ?_⟩; have n0_ := Aside0.mk (Kd.R_below (by (with_reducible repeat (first | apply Kd.R_alloc | apply Kd.R_drewN | apply Kd.R_drew)); exact (Kd.R_mono (Kd.R_far (p := ⟨gb399, 0, none⟩) (Kd.R_types HO398.out BK399.out (by decide)) (fun _ hk => hk.2) (.slice Ao10 t396.length co10)) (fun _ h_ => h_.1))) hb); have n2_ := bp #[.slice Ao10 t396.length co10] BK399 hb; have HO404 := Aside0.mk (Kd.S_lower ho0 (below_size (be HB))); replace HB := bh HB hb; clear HO398 BK399; have HO398 := n0_; have BK399 := n2_; clear n0_ n2_; (try clear hb); (try clear hb2); (try clear hk); (try clear hi); (try clear ho0)) | ((with_reducible refine gate_dst (N := 5) rfl ?_); (try (refine gate_guard (by rfl) ?_; dsimp only)); refine box_event ?hg (N := 5) ?hd (cs := #[.int .i64 0, .slice none 0 0]) (t := 31) ?hr ?_; (case hd => rfl); (case hg => rfl); (case hr => first | (go_simp; done) | (go_simp; rfl)); intro gb406 hg w13 hbox hb; have n1_ := Aside0.mk (Kd.S_below (by (with_reducible repeat (first | apply Kd.S_alloc | apply Kd.S_drewN | apply Kd.S_drew)); exact HO404.out) hb); have BK406 := Aside0.mk (hbox); have GW406 := bs HB hg; have GE406 := bs HB hg; have NB399_406 := bl BK399 hg; have NB406_399 := bg BK399 hg; replace HO398 := Aside0.mk (Kd.R_below (rr HO398) hb); replace BK399 := bq BK399 hb; replace HB := bh HB hb; clear HO404; have HO404 := n1_; clear n1_; clear hb hbox hg; have hnb14 := NB406_399.out; have hnc14 := NB399_406.out; obtain ⟨hcz15_0, hcz15_1⟩ := cs2 BK406; obtain ⟨hfz15_0, hfz15_1⟩ := fs2 BK406; obtain ⟨Ao16, co16, eo16⟩ := Kd.S_slice HO404.out; subst eo16))
  (try simp only [putL])
  go_cut [38] (fun v38 wc => ∃ (kq : Nat) (x38_6 : Bool), v38 = .bool x38_6 ∧ Aside0 (laws_FnLatest.j0 kq (wrap64 (1 + (Int.tmod t400 5))) t405 x38_6 t396 t401 t402 = some r) ∧ Aside0 (kq ≤ k) ∧ Aside0 (Kd.R k95 95 wc w.heap.size (fun _ => True) (.slice Ao10 t396.length co10) t396) ∧ Aside0 (Kd.S k86 86 wc w.heap.size (fun _ => True) (.slice Ao16 t402.length co16) t402) ∧ Aside0 (wc.heap[gb399]? = some (.cells #[(.slice Ao10 t396.length co10)] 26 (0, 0))) ∧ Aside0 (wc.heap[gb406]? = some (.cells #[.int .i64 t401, (.slice Ao16 t402.length co16)] 31 (0, 0))) ∧ Aside0 (Below w.heap.size w wc))
  case first =>
   have H := HC7.out; clear HC7
   by_cases c17 : t405 = true
   ·subst c17
    have H1 : ((spec_VocabOk.f k t396).bind fun t407 => (laws_FnLatest.j0 k (wrap64 (1 + (Int.tmod t400 5))) true (!t407) t396 t401 t402)) = some r := by rw [if_pos rfl] at H; exact H
    clear H; have H := H1
    clear H1; replace H := Option.bind_eq_some_iff.mp H
    obtain ⟨t407, A180, H⟩ := H
    replace H : (laws_FnLatest.j0 k (wrap64 (1 + (Int.tmod t400 5))) true (!t407) t396 t401 t402) = some r := H
    have A18 := Aside0.mk A180
    clear A180; have H' := Aside0.mk H
    clear H; have hnb19 := NB399_406.out; have hnc19 := NB406_399.out; have hcz20_0 : w13.cell? ⟨gb399, 0, none⟩ = some (.slice Ao10 t396.length co10) := bc BK399 0
    have hfz20_0 := blk_frozen BK399.out 0
    go_wp2_with (first | (go_at_call 10; (with_reducible refine (spec_VocabOk.calls k _ _ t396 t407 _ ?side1 ?side2 A18.out).mono ?_); (case side1 => refine (Kd.R_reads' (e := 95) (base := w.heap.size) (ok := fun k_ => True) (n := t396.length) (c := co10) ?_).2.2; exact (by (with_reducible repeat (first | apply Kd.R_alloc | apply Kd.R_drewN | apply Kd.R_drew)); exact (Kd.R_mono (Kd.R_far (p := ⟨gb406, 1, none⟩) (Kd.R_far (p := ⟨gb406, 0, none⟩) (Kd.R_types HO398.out BK406.out (by decide)) (fun _ hk => hk.2) (.int .i64 t401)) (fun _ hk => hk.2) (.slice Ao16 t402.length co16)) (fun _ h_ => h_.1)))); (case side2 => exact (Kd.R_reads' HO398.out).2.1); rintro e w21 ⟨rfl, hb⟩; have n0_ := Aside0.mk (Kd.R_below (by (with_reducible repeat (first | apply Kd.R_alloc | apply Kd.R_drewN | apply Kd.R_drew)); exact (Kd.R_mono (Kd.R_far (p := ⟨gb406, 1, none⟩) (Kd.R_far (p := ⟨gb406, 0, none⟩) (Kd.R_types HO398.out BK406.out (by decide)) (fun _ hk => hk.2) (.int .i64 t401)) (fun _ hk => hk.2) (.slice Ao16 t402.length co16)) (fun _ h_ => h_.1))) hb); have n1_ := Aside0.mk (Kd.S_below (by (with_reducible repeat (first | apply Kd.S_alloc | apply Kd.S_drewN | apply Kd.S_drew)); exact (Kd.S_mono (Kd.S_far (p := ⟨gb406, 1, none⟩) (Kd.S_far (p := ⟨gb406, 0, none⟩) (Kd.S_types HO404.out BK406.out (by decide)) (fun _ hk => hk.2) (.int .i64 t401)) (fun _ hk => hk.2) (.slice Ao16 t402.length co16)) (fun _ h_ => h_.1))) hb); have n2_ := bf BK399 hb; have n3_ := bp #[.int .i64 t401, .slice Ao16 t402.length co16] BK406 hb; replace HB := bh HB hb; clear HO398 HO404 BK399 BK406; have HO398 := n0_; have HO404 := n1_; have BK399 := n2_; have BK406 := n3_; clear n0_ n1_ n2_ n3_; (try clear hb); (try clear hb2); (try clear hk); (try clear hi)))
    go_meet
    case rel => exact ⟨_, (!t407), (by first | rfl | (simp; done) | (simp [*]; done)), H', ⟨by first | omega | exact Nat.le_refl _⟩, ⟨rr HO398⟩, ⟨by (with_reducible repeat (first | apply Kd.S_alloc | apply Kd.S_drewN | apply Kd.S_drew)); exact HO404.out⟩, ⟨bb BK399⟩, ⟨bb BK406⟩, ⟨by repeat (first | (with_reducible first | exact HB.out | apply below_alloc | apply pw_below_drewN | apply below_drew1 | refine below_set ?_ GE399.out | refine below_set ?_ GE406.out) | exact HB.out)⟩⟩
   ·replace c17 := Bool.eq_false_iff.mpr c17
    subst c17
    have H1 : (laws_FnLatest.j0 k (wrap64 (1 + (Int.tmod t400 5))) false true t396 t401 t402) = some r := by rw [if_neg (show ¬ (false = true) by decide)] at H; exact H
    clear H; have H := H1
    clear H1; have H' := Aside0.mk H
    clear H
    go_wp2
    go_meet
    case rel => exact ⟨_, (true), (by first | rfl | (simp; done) | (simp [*]; done)), H', ⟨by first | omega | exact Nat.le_refl _⟩, ⟨by (with_reducible repeat (first | apply Kd.R_alloc | apply Kd.R_drewN | apply Kd.R_drew)); exact Kd.R_mono (Kd.R_far (p := ⟨gb406, 1, none⟩) (Kd.R_far (p := ⟨gb406, 0, none⟩) (Kd.R_types HO398.out BK406.out (by decide)) (fun _ hk => hk.2) (.int .i64 t401)) (fun _ hk => hk.2) (.slice Ao16 t402.length co16)) (fun _ hk => trivial)⟩, ⟨by (with_reducible repeat (first | apply Kd.S_alloc | apply Kd.S_drewN | apply Kd.S_drew)); exact Kd.S_mono (Kd.S_far (p := ⟨gb406, 1, none⟩) (Kd.S_far (p := ⟨gb406, 0, none⟩) (Kd.S_types HO404.out BK406.out (by decide)) (fun _ hk => hk.2) (.int .i64 t401)) (fun _ hk => hk.2) (.slice Ao16 t402.length co16)) (fun _ hk => trivial)⟩, ⟨by (with_reducible repeat first | refine bkN ?_ _ | refine bkD ?_ | refine bkA ?_ _ | refine blk_far ?_ NB399_406.out _); exact BK399.out⟩, ⟨by (with_reducible repeat first | refine bkN ?_ _ | refine bkD ?_ | refine bkA ?_ _); refine blk_put (cs := #[.int .i64 t401, .slice none 0 0]) ?_ 1 _ rfl; (with_reducible repeat first | refine bkN ?_ _ | refine bkD ?_ | refine bkA ?_ _); refine blk_put (cs := #[.int .i64 0, .slice none 0 0]) ?_ 0 _ rfl; (with_reducible repeat first | refine bkN ?_ _ | refine bkD ?_ | refine bkA ?_ _); exact BK406.out⟩, ⟨by repeat (first | (with_reducible first | exact HB.out | apply below_alloc | apply pw_below_drewN | apply below_drew1 | refine below_set ?_ GE399.out | refine below_set ?_ GE406.out) | exact HB.out)⟩⟩
  case rest =>
   clear HC7; (try clear c1); (try clear p2); (try clear c3); (try clear c6); (try clear p6); (try clear c7); (try clear c8); (try clear c9); (try clear c14); (try clear c17); (try clear c19); (try clear hcz11_0); (try clear hcz15_0); (try clear hcz15_1); (try clear hcz20_0); (try clear hfz11_0); (try clear hfz15_0); (try clear hfz15_1); (try clear hfz20_0); obtain ⟨kq, x38_6, rfl, HA, HJ6, HO_400000, HO_407001, BK399, BK406, HB⟩ := hcut
   cases kq with
   | zero => exact absurd HA.out (by simp [laws_FnLatest.j0])
   | succ kj6 =>
    have H := HA.out; clear HA; simp only [laws_FnLatest.j0] at H
    by_cases c22 : x38_6 = true
    ·subst c22
     have H1 : (some t405) = some r := by rw [if_pos rfl] at H; exact H
     clear H; have H := H1
     clear H1; obtain rfl := Option.some.inj H
     go_wp2
     go_ret
     exact ⟨by first | rfl | (simp [errW_none, errW_some] <;> rfl) | (simp [*, errW_none, errW_some] <;> rfl), by repeat (first | (with_reducible first | exact HB.out | apply below_alloc | apply pw_below_drewN | apply below_drew1 | refine below_set ?_ GE399.out | refine below_set ?_ GE406.out) | exact HB.out)⟩
    ·replace c22 := Bool.eq_false_iff.mpr c22
     subst c22
     have H1 : (laws_FnLatest.l0 kj6 (wrap64 (1 + (Int.tmod t400 5))) (([(⟨#[97]⟩ : ByteArray), (⟨#[97, 98]⟩ : ByteArray), (⟨#[97, 98, 99]⟩ : ByteArray), (⟨#[32, 97]⟩ : ByteArray), (⟨#[98, 97]⟩ : ByteArray), (⟨#[98]⟩ : ByteArray), (⟨#[99, 97, 98]⟩ : ByteArray), (⟨#[120]⟩ : ByteArray)] : List ByteArray)) 0 t396 t401 t402) = some r := by rw [if_neg (show ¬ (false = true) by decide)] at H; exact H
     clear H; have H := H1
     clear H1; obtain ⟨y408, hy408⟩ : ∃ y_ : List ByteArray, y_ = (([(⟨#[97]⟩ : ByteArray), (⟨#[97, 98]⟩ : ByteArray), (⟨#[97, 98, 99]⟩ : ByteArray), (⟨#[32, 97]⟩ : ByteArray), (⟨#[98, 97]⟩ : ByteArray), (⟨#[98]⟩ : ByteArray), (⟨#[99, 97, 98]⟩ : ByteArray), (⟨#[120]⟩ : ByteArray)] : List ByteArray)) := ⟨_, rfl⟩
     replace H : (laws_FnLatest.l0 kj6 (wrap64 (1 + (Int.tmod t400 5))) y408 0 t396 t401 t402) = some r := by first | (rw [hy408]; with_reducible exact H) | (have H2_ := (Option.bind_some _ _).symm.trans H; rw [hy408]; with_reducible exact H2_) | (have H2_ := (Option.bind_some _ _).symm.trans H; with_reducible exact H2_) | with_reducible exact H | (rw [hy408]; exact H) | exact H
     have Ny408 := Aside0.mk hy408
     clear hy408; have H' := Aside0.mk H
     clear H
     go_wp2_with (first | ((with_reducible refine gate_dst (N := 40) rfl ?_); (try (refine gate_guard (by rfl) ?_; dsimp only)); refine Kd.R_lit Kd.string _ 9 ?hg (N := 40) ?hd (xs := ([(⟨#[97]⟩ : ByteArray), (⟨#[97, 98]⟩ : ByteArray), (⟨#[97, 98, 99]⟩ : ByteArray), (⟨#[32, 97]⟩ : ByteArray), (⟨#[98, 97]⟩ : ByteArray), (⟨#[98]⟩ : ByteArray), (⟨#[99, 97, 98]⟩ : ByteArray), (⟨#[120]⟩ : ByteArray)] : List ByteArray)) (inner := [.string (⟨#[97]⟩ : ByteArray), .string (⟨#[97, 98]⟩ : ByteArray), .string (⟨#[97, 98, 99]⟩ : ByteArray), .string (⟨#[32, 97]⟩ : ByteArray), .string (⟨#[98, 97]⟩ : ByteArray), .string (⟨#[98]⟩ : ByteArray), .string (⟨#[99, 97, 98]⟩ : ByteArray), .string (⟨#[120]⟩ : ByteArray)]) (ok := fun _ => True) (okp := fun _ => True) ?hr ?hp (fun _ hk => hk) trivial (Below.refl _ _) (Nat.le_refl _) (by simp) ?_; (case hd => rfl); (case hg => rfl); (case hr => first | (go_simp; done) | (go_simp; rfl)); (case hp => exact (Reps.one (show Kd.M Kd.string _ _ _ (⟨#[97]⟩ : ByteArray) [.string (⟨#[97]⟩ : ByteArray)] from rfl) (Reps.one (show Kd.M Kd.string _ _ _ (⟨#[97, 98]⟩ : ByteArray) [.string (⟨#[97, 98]⟩ : ByteArray)] from rfl) (Reps.one (show Kd.M Kd.string _ _ _ (⟨#[97, 98, 99]⟩ : ByteArray) [.string (⟨#[97, 98, 99]⟩ : ByteArray)] from rfl) (Reps.one (show Kd.M Kd.string _ _ _ (⟨#[32, 97]⟩ : ByteArray) [.string (⟨#[32, 97]⟩ : ByteArray)] from rfl) (Reps.one (show Kd.M Kd.string _ _ _ (⟨#[98, 97]⟩ : ByteArray) [.string (⟨#[98, 97]⟩ : ByteArray)] from rfl) (Reps.one (show Kd.M Kd.string _ _ _ (⟨#[98]⟩ : ByteArray) [.string (⟨#[98]⟩ : ByteArray)] from rfl) (Reps.one (show Kd.M Kd.string _ _ _ (⟨#[99, 97, 98]⟩ : ByteArray) [.string (⟨#[99, 97, 98]⟩ : ByteArray)] from rfl) (Reps.one (show Kd.M Kd.string _ _ _ (⟨#[120]⟩ : ByteArray) [.string (⟨#[120]⟩ : ByteArray)] from rfl) (Reps.none _ _)))))))))); intro v409 w23 ho24 hb hg_ hnew_; clear hg_ hnew_; (first | rw [← Ny408.out] at ho24 | (simp only [Int.reduceToNat] at ho24; rw [← Ny408.out] at ho24)); have n1_ := Aside0.mk (Kd.S_below (by (with_reducible repeat (first | apply Kd.S_alloc | apply Kd.S_drewN | apply Kd.S_drew)); exact HO_407001.out) hb); have HO410 := Aside0.mk (Kd.R_lower ho24 (below_size (be HB))); replace HO_400000 := Aside0.mk (Kd.R_below (rr HO_400000) hb); replace BK399 := bq BK399 hb; replace BK406 := bq BK406 hb; replace HB := bh HB hb; clear HO_407001; have HO_407001 := n1_; clear n1_; clear hb ho24))
     go_loopg [8] kj6 (fun kq v8 w' => ∃ (x8_2 : Int) (x407000_2 : Int) (x407001_2 : List (S86)) (u407001 : Value), v8 = .int .i64 x8_2 ∧ Aside0 (laws_FnLatest.l0 kq (wrap64 (1 + (Int.tmod t400 5))) y408 x8_2 t396 x407000_2 x407001_2 = some r) ∧ Aside0 (kq ≤ kj6) ∧ Aside0 (Kd.R Kd.string 9 w' w.heap.size (fun _ => True) v409 y408) ∧ Aside0 (Kd.R k95 95 w' w.heap.size (fun _ => True) (.slice Ao10 t396.length co10) t396) ∧ Aside0 (Kd.S k86 86 w' w.heap.size (fun _ => True) u407001 x407001_2) ∧ Aside0 (w'.heap[gb399]? = some (.cells #[(.slice Ao10 t396.length co10)] 26 (0, 0))) ∧ Aside0 (w'.heap[gb406]? = some (.cells #[.int .i64 x407000_2, u407001] 31 (0, 0))) ∧ Aside0 (Below w.heap.size w w'))
     case atStart => exact ⟨(0), (t401), (t402), (.slice Ao16 t402.length co16), (by first | rfl | (simp; done) | (simp [*]; done)), H', ⟨Nat.le_refl _⟩, ⟨rr HO410⟩, ⟨rr HO_400000⟩, ⟨by (with_reducible repeat (first | apply Kd.S_alloc | apply Kd.S_drewN | apply Kd.S_drew)); exact HO_407001.out⟩, ⟨bb BK399⟩, ⟨bb BK406⟩, ⟨by repeat (first | (with_reducible first | exact HB.out | apply below_alloc | apply pw_below_drewN | apply below_drew1 | refine below_set ?_ GE399.out | refine below_set ?_ GE406.out) | exact HB.out)⟩⟩
     case round =>
      clear H'
      (try clear c1); (try clear c2); (try clear p2); (try clear c3); (try clear c6); (try clear p6); (try clear c7); (try clear c8); (try clear c9); (try clear c14); (try clear c17); (try clear c19); (try clear c22); (try clear hcz11_0); (try clear hcz15_0); (try clear hcz15_1); (try clear hcz20_0); (try clear hfz11_0); (try clear hfz15_0); (try clear hfz15_1); (try clear hfz20_0); (try clear p2); (try clear p6); obtain ⟨x8_2, x407000_2, x407001_2, u407001, rfl, HA, HK2, HO_7, HO_400000, HO_407001, BK399, BK406, HB⟩ := hrel
      cases gk with
      | zero => exact absurd HA.out (by simp [laws_FnLatest.l0])
      | succ k2 =>
       have H := HA.out; clear HA; simp only [laws_FnLatest.l0] at H
       by_cases c25 : x8_2 < 8
       ·rw [if_pos c25] at H
        have c25b0 : decide (x8_2 < 8) = true := decide_eq_true c25
        clear c25
        by_cases c26 : 0 ≤ x8_2
        ·rw [if_pos c26] at H
         have c26b0 : decide (0 ≤ x8_2) = true := decide_eq_true c26
         clear c26
         by_cases c27 : x8_2 < (y408.length : Int)
         ·rw [if_pos c27] at H
          have c27b0 : decide (x8_2 < (y408.length : Int)) = true := decide_eq_true c27
          clear c27; replace H := Option.bind_eq_some_iff.mp H
          obtain ⟨⟨t412, t413, t416, t419⟩, A280, H⟩ := H
          replace H : (if t419 = true then (none) else ((spec_Bpe.f k2 t396 (rdOf ByteArray.empty y408 x8_2)).bind fun t422 => ((laws_sameInts.f k2 t416 t422).bind fun t425 => (if t425 = true then (laws_FnLatest.l0 k2 (wrap64 (1 + (Int.tmod t400 5))) y408 (wrap64 (x8_2 + 1)) t396 t412 t413) else (none))))) = some r := H
          have A28 := Aside0.mk A280
          clear A280
          by_cases c29 : t419 = true
          ·subst c29
           have H1 : (none) = some r := by rw [if_pos rfl] at H; exact H
           clear H; have H := H1
           clear H1; exact absurd H (by simp)
          ·replace c29 := Bool.eq_false_iff.mpr c29
           subst c29
           have H1 : ((spec_Bpe.f k2 t396 (rdOf ByteArray.empty y408 x8_2)).bind fun t422 => ((laws_sameInts.f k2 t416 t422).bind fun t425 => (if t425 = true then (laws_FnLatest.l0 k2 (wrap64 (1 + (Int.tmod t400 5))) y408 (wrap64 (x8_2 + 1)) t396 t412 t413) else (none)))) = some r := by rw [if_neg (show ¬ (false = true) by decide)] at H; exact H
           clear H; have H := H1
           clear H1; replace H := Option.bind_eq_some_iff.mp H
           obtain ⟨t422, A300, H⟩ := H
           replace H : ((laws_sameInts.f k2 t416 t422).bind fun t425 => (if t425 = true then (laws_FnLatest.l0 k2 (wrap64 (1 + (Int.tmod t400 5))) y408 (wrap64 (x8_2 + 1)) t396 t412 t413) else (none))) = some r := H
           have A30 := Aside0.mk A300
           clear A300; replace H := Option.bind_eq_some_iff.mp H
           obtain ⟨t425, A310, H⟩ := H
           replace H : (if t425 = true then (laws_FnLatest.l0 k2 (wrap64 (1 + (Int.tmod t400 5))) y408 (wrap64 (x8_2 + 1)) t396 t412 t413) else (none)) = some r := H
           have A31 := Aside0.mk A310
           clear A310
           by_cases c32 : t425 = true
           ·subst c32
            have H1 : (laws_FnLatest.l0 k2 (wrap64 (1 + (Int.tmod t400 5))) y408 (wrap64 (x8_2 + 1)) t396 t412 t413) = some r := by rw [if_pos rfl] at H; exact H
            clear H; have H := H1
            clear H1; have H' := Aside0.mk H
            clear H; obtain ⟨Ao33, co33, eo33⟩ := Kd.S_slice HO_407001.out
            subst eo33
            try go_wp2
            have n0_ := Aside0.mk (Kd.R_drew HO_7.out)
            have n1_ := Aside0.mk (Kd.R_drew HO_400000.out)
            have n2_ := Aside0.mk (Kd.S_drew HO_407001.out)
            have n3_ := Aside0.mk (blk_drew BK399.out)
            have n4_ := Aside0.mk (blk_drew BK406.out)
            have n5_ := Aside0.mk (below_drew1 HB.out)
            clear HO_7 HO_400000 HO_407001 BK399 BK406 HB; have HO_7 := n0_; have HO_400000 := n1_; have HO_407001 := n2_; have BK399 := n3_; have BK406 := n4_; have HB := n5_; clear n0_ n1_ n2_ n3_ n4_ n5_; obtain ⟨Ao35, co35, eo35⟩ := Kd.R_slice HO_7.out
            (first | subst eo35 | (injection eo35 with f1_ f2_ f3_; have f4_ := f1_.symm; have f5_ := f3_.symm; clear f1_ f2_ f3_; subst f4_; subst f5_))
            have p411 : 0 ≤ (x8_2 : Int) := of_decide_eq_true (by first | (with_reducible assumption) | assumption)
            have q411 : x8_2 < (y408.length : Int) := of_decide_eq_true (by first | (with_reducible assumption) | assumption)
            obtain ⟨ad411, e411, hx411_0⟩ := Kd.at_string (Kd.R_reads' HO_7.out).2.2 x8_2 p411 q411
            cases e411
            replace p411 := eq_true p411
            replace q411 := eq_true q411
            refine start_ (n := 15) (S := fun w' => w'.cell? ⟨gb399, 0, none⟩ = some (.slice Ao10 t396.length co10) ∧ w'.cell? ⟨gb406, 0, none⟩ = some (.int .i64 x407000_2) ∧ w'.cell? ⟨gb406, 1, none⟩ = some (.slice Ao33 x407001_2.length co33) ∧ w'.cell? (ad411.add (x8_2).toNat) = some (.string (rdOf ByteArray.empty y408 x8_2))) (ds := []) #[ff,ff,ff,ff,ff,ff,ff,ff,ff,ff,ff,ff,ff,ff,ff] (by kernel_rfl) rfl rfl ⟨bc BK399 0, bc BK406 0, bc BK406 1, hx411_0⟩ (fun hHeld => ?_); refine with_tabW laws_FnLatest.tab12 laws_FnLatest.bits12 (fun HT_ HW_ => ?_)
            generalize wr.drew = w34 at HO_7 HO_400000 HO_407001 BK399 BK406 HB hx411_0 hHeld ⊢
            refine pu 2 48 (tb 15 4) HT_ ?_
            refine pu 3 49 (tb 15 12) HT_ ?_
            refine pu 4 50 (tb 15 28) HT_ ?_
            refine tk 0 46 (tb 15 29) rfl rfl HT_ HW_ hHeld (by rintro w' ⟨s0, s1, s2, s3⟩; go_simp; with_reducible rfl) ?_
            refine tk 1 47 (tb 15 31) rfl rfl HT_ HW_ hHeld (by rintro w' ⟨s0, s1, s2, s3⟩; go_simp; with_reducible rfl) ?_
            refine tk 5 51 (tb 15 63) rfl rfl HT_ HW_ hHeld (by rintro w' ⟨s0, s1, s2, s3⟩; go_simp; with_reducible rfl) ?_
            refine join_ (σ := Value × Value × Nat) 3 #[tt,tt,tt,tt,tt,tt,tt,tt,tt,tt,tt,tt,ff,ff,ff] (fun s_ => [(52, .tuple #[.agg #[.int .i64 t412, s_.1], s_.2.1, .bool false]), (9, .pointer (some ⟨s_.2.2, 0, none⟩)), (45, .tuple #[.agg #[.int .i64 t412, s_.1], s_.2.1, .bool false]), (53, .agg #[.int .i64 t412, s_.1]), (54, s_.2.1), (55, .bool false)]) (fun s_ w' => (w'.cell? ⟨gb399, 0, none⟩ = some (.slice Ao10 t396.length co10) ∧ w'.cell? ⟨gb406, 0, none⟩ = some (.int .i64 x407000_2) ∧ w'.cell? ⟨gb406, 1, none⟩ = some (.slice Ao33 x407001_2.length co33) ∧ w'.cell? (ad411.add (x8_2).toNat) = some (.string (rdOf ByteArray.empty y408 x8_2))) ∧ (Kd.S k86 86 w' w.heap.size (fun k_ => some k_ ≠ (s_.2.1 : Value).ownBlock ∧ some k_ ≠ (.slice Ao33 x407001_2.length co33 : Value).ownBlock) s_.1 t413) ∧ (Kd.R (Kd.int .i64) 3 w' w.heap.size (fun _ => True) s_.2.1 t416) ∧ (Kd.R k95 95 w' w.heap.size (fun _ => True) (.slice Ao10 t396.length co10) t396) ∧ (Kd.S k86 86 w' w.heap.size (fun k_ => some k_ ≠ (s_.1 : Value).ownBlock ∧ some k_ ≠ (s_.2.1 : Value).ownBlock) (.slice Ao33 x407001_2.length co33) x407001_2) ∧ (Kd.R Kd.string 9 w' w.heap.size (fun _ => True) (.slice (some ad411) y408.length co35) y408) ∧ (w'.heap[gb399]? = some (.cells #[.slice Ao10 t396.length co10] 26 (0, 0))) ∧ (w'.heap[gb406]? = some (.cells #[.int .i64 x407000_2, .slice Ao33 x407001_2.length co33] 31 (0, 0))) ∧ (w'.heap[s_.2.2]? = some (.cells #[.int .i64 0, .slice none 0 0] 31 (0, 0))) ∧ (w.heap.size ≤ s_.2.2) ∧ (w.heap.size ≤ s_.2.2) ∧ (gb399 ≠ s_.2.2) ∧ (s_.2.2 ≠ gb399) ∧ (gb406 ≠ s_.2.2) ∧ (s_.2.2 ≠ gb406) ∧ (Below w.heap.size w w')) ?_ ?_
            rotate_left
            ·intro hCont; refine two_ (i := 6) (j := 11) (Ni := some 52) (Nj := some 9) #[tt,tt,tt,tt,tt,tt,tt,ff,ff,ff,ff,ff,ff,ff,ff] #[tt,tt,tt,tt,tt,tt,ff,ff,ff,ff,ff,tt,ff,ff,ff] rfl rfl rfl rfl (two_of HT_.out (by kernel_rfl)) (by decide) (by decide) (fun K hK => ?_) (fun K hK => ?_)
             ·skip
              refine goes_ Try.func11 (by kernel_rfl) rfl #[.agg #[.slice Ao10 t396.length co10], .agg #[.int .i64 x407000_2, .slice Ao33 x407001_2.length co33], .string (rdOf ByteArray.empty y408 x8_2)] (by rfl) rfl rfl (by (try simp only [List.map_toArray, List.map_cons, List.map_nil]); first | done | rfl | (simp only [List.length_drop, List.length_take]; rfl)) ?_
              with_reducible refine (impl_Recall.calls k2 _ _ t396 x407000_2 _ _ x407001_2 (rdOf ByteArray.empty y408 x8_2) t412 t413 t416 false _ ?side1 ?side2 ?side3 ?side4 A28.out).mono ?_
              (case side1 => repeat (first | exact (Kd.R_reads' HO_400000.out).2.2 | (with_reducible refine Kd.C_alloc ?_ _) | (with_reducible refine Kd.C_drewN ?_ _) | (with_reducible refine Kd.C_drew ?_)))
              (case side2 => exact (Kd.R_reads' HO_400000.out).2.1)
              (case side3 => repeat (first | exact (Kd.S_reads' HO_407001.out).2.2 | (with_reducible refine Kd.C_alloc ?_ _) | (with_reducible refine Kd.C_drewN ?_ _) | (with_reducible refine Kd.C_drew ?_)))
              (case side4 => exact (Kd.S_reads' HO_407001.out).2.1)
              rintro e w36 ⟨v414, v417, rfl, ho0, ho1, hb⟩
              have HS3_ := (hb.cell (World.block_lt_of_cell? _ _ (hHeld.2.2.2))).trans (hHeld.2.2.2)
              refine ⟨_, rfl, ?_⟩
              have n2_ := Aside0.mk (Kd.S_mono (Kd.S_told (Kd.S_told (Kd.S_old (by (with_reducible repeat (first | apply Kd.S_alloc | apply Kd.S_drewN | apply Kd.S_drew)); exact HO_407001.out) hb) (Kd.S_base ho0)) (Kd.R_base ho1)) (fun _ h_ => h_.1))
              have HO415 := Aside0.mk (Kd.S_lower (Kd.S_new' ho0 (Kd.S_lt (by (with_reducible repeat (first | apply Kd.S_alloc | apply Kd.S_drewN | apply Kd.S_drew)); exact HO_407001.out))) (below_size (be HB)))
              have HO418 := Aside0.mk (Kd.R_lower ho1 (below_size (be HB)))
              replace HO_7 := Aside0.mk (Kd.R_below (rr HO_7) hb); replace HO_400000 := Aside0.mk (Kd.R_below (rr HO_400000) hb); replace BK399 := bq BK399 hb; replace BK406 := bq BK406 hb; replace HB := bh HB hb
              clear HO_407001; have HO_407001 := n2_; clear n2_; (try clear hb); (try clear hb2); (try clear hk); (try clear hi); (try clear ho0); (try clear ho1); refine hK.out _ _ ⟨bc BK399 0, bc BK406 0, bc BK406 1, HS3_⟩ (fun hHeld => ?_)
              clear hK K; refine norm_ (a' := ?_) ?_ ?_
              rotate_left
              ·show Act.put _ (some 52) _ = _
               simp only [putL, i64_w, i32_w]; rfl
              refine pu 7 45 (tb 15 255) HT_ ?_
              refine pu 8 53 (tb 15 511) HT_ ?_
              refine pu 9 54 (tb 15 1023) HT_ ?_
              refine pu 10 55 (tb 15 2047) HT_ ?_
              refine one_ (i := 11) (N := some 9) #[tt,tt,tt,tt,tt,tt,tt,tt,tt,tt,tt,tt,ff,ff,ff] rfl rfl (one_of HT_.out (by kernel_rfl)) (by decide) (fun K hK => ?_)
              refine box_step ?hg (N := 9) ?hd (cs := #[.int .i64 0, .slice none 0 0]) (t := 31) ?hr ?_; (case hd => rfl); (case hg => rfl); (case hr => first | (go_simp; done) | (go_simp; rfl))
              intro gb420 hg w37 hbox hb
              have HS3_ := (hb.cell (World.block_lt_of_cell? _ _ (hHeld.2.2.2))).trans (hHeld.2.2.2)
              have n2_ := Aside0.mk (Kd.S_below (by (with_reducible repeat (first | apply Kd.S_alloc | apply Kd.S_drewN | apply Kd.S_drew)); exact HO_407001.out) hb)
              have n3_ := Aside0.mk (Kd.S_below (by (with_reducible repeat (first | apply Kd.S_alloc | apply Kd.S_drewN | apply Kd.S_drew)); exact HO415.out) hb)
              have BK420 := Aside0.mk (hbox)
              have GW420 := bs HB hg; have GE420 := bs HB hg; have NB399_420 := bl BK399 hg; have NB420_399 := bg BK399 hg; have NB406_420 := bl BK406 hg; have NB420_406 := bg BK406 hg; replace HO_7 := Aside0.mk (Kd.R_below (rr HO_7) hb); replace HO_400000 := Aside0.mk (Kd.R_below (rr HO_400000) hb); replace HO418 := Aside0.mk (Kd.R_below (rr HO418) hb); replace BK399 := bq BK399 hb; replace BK406 := bq BK406 hb; replace HB := bh HB hb
              clear HO_407001 HO415; have HO_407001 := n2_; have HO415 := n3_; clear n2_ n3_; clear hb hbox hg; refine hK.out _ _ ⟨bc BK399 0, bc BK406 0, bc BK406 1, HS3_⟩ (fun hHeld => ?_)
              clear hK K; refine norm_ (a' := ?_) ?_ ?_
              rotate_left
              ·show Act.put _ (some 9) _ = _
               simp only [putL, i64_w, i32_w]; rfl
              exact norm_ (by simp only [putAll, putL]) (hCont (v414, v417, gb420) _ ⟨hHeld, (by (with_reducible repeat (first | apply Kd.S_alloc | apply Kd.S_drewN | apply Kd.S_drew)); exact HO415.out), (rr HO418), (rr HO_400000), (by (with_reducible repeat (first | apply Kd.S_alloc | apply Kd.S_drewN | apply Kd.S_drew)); exact Kd.S_mono HO_407001.out (fun _ hk => ⟨hk.1.2, hk.2⟩)), (rr HO_7), (by (with_reducible repeat first | refine bkN ?_ _ | refine bkD ?_ | refine bkA ?_ _); exact BK399.out), (by (with_reducible repeat first | refine bkN ?_ _ | refine bkD ?_ | refine bkA ?_ _); exact BK406.out), (by (with_reducible repeat first | refine bkN ?_ _ | refine bkD ?_ | refine bkA ?_ _); exact BK420.out), GW420.out, GE420.out, NB399_420.out, NB420_399.out, NB406_420.out, NB420_406.out, (be HB)⟩)
             ·skip
              refine box_step ?hg (N := 9) ?hd (cs := #[.int .i64 0, .slice none 0 0]) (t := 31) ?hr ?_; (case hd => rfl); (case hg => rfl); (case hr => first | (go_simp; done) | (go_simp; rfl))
              intro gb420 hg w36 hbox hb
              have HS3_ := (hb.cell (World.block_lt_of_cell? _ _ (hHeld.2.2.2))).trans (hHeld.2.2.2)
              have n2_ := Aside0.mk (Kd.S_below (by (with_reducible repeat (first | apply Kd.S_alloc | apply Kd.S_drewN | apply Kd.S_drew)); exact HO_407001.out) hb)
              have BK420 := Aside0.mk (hbox)
              have GW420 := bs HB hg; have GE420 := bs HB hg; have NB399_420 := bl BK399 hg; have NB420_399 := bg BK399 hg; have NB406_420 := bl BK406 hg; have NB420_406 := bg BK406 hg; replace HO_7 := Aside0.mk (Kd.R_below (rr HO_7) hb); replace HO_400000 := Aside0.mk (Kd.R_below (rr HO_400000) hb); replace BK399 := bq BK399 hb; replace BK406 := bq BK406 hb; replace HB := bh HB hb
              clear HO_407001; have HO_407001 := n2_; clear n2_; clear hb hbox hg; refine hK.out _ _ ⟨bc BK399 0, bc BK406 0, bc BK406 1, HS3_⟩ (fun hHeld => ?_)
              clear hK K; refine norm_ (a' := ?_) ?_ ?_
              rotate_left
              ·show Act.put _ (some 9) _ = _
               simp only [putL, i64_w, i32_w]; rfl
              refine one_ (i := 6) (N := some 52) #[tt,tt,tt,tt,tt,tt,tt,ff,ff,ff,ff,tt,ff,ff,ff] rfl rfl (one_of HT_.out (by kernel_rfl)) (by decide) (fun K hK => ?_)
              refine goes_ Try.func11 (by kernel_rfl) rfl #[.agg #[.slice Ao10 t396.length co10], .agg #[.int .i64 x407000_2, .slice Ao33 x407001_2.length co33], .string (rdOf ByteArray.empty y408 x8_2)] (by rfl) rfl rfl (by (try simp only [List.map_toArray, List.map_cons, List.map_nil]); first | done | rfl | (simp only [List.length_drop, List.length_take]; rfl)) ?_
              with_reducible refine (impl_Recall.calls k2 _ _ t396 x407000_2 _ _ x407001_2 (rdOf ByteArray.empty y408 x8_2) t412 t413 t416 false _ ?side1 ?side2 ?side3 ?side4 A28.out).mono ?_
              (case side1 => repeat (first | exact (Kd.R_reads' HO_400000.out).2.2 | (with_reducible refine Kd.C_alloc ?_ _) | (with_reducible refine Kd.C_drewN ?_ _) | (with_reducible refine Kd.C_drew ?_)))
              (case side2 => exact (Kd.R_reads' HO_400000.out).2.1)
              (case side3 => repeat (first | exact (Kd.S_reads' HO_407001.out).2.2 | (with_reducible refine Kd.C_alloc ?_ _) | (with_reducible refine Kd.C_drewN ?_ _) | (with_reducible refine Kd.C_drew ?_)))
              (case side4 => exact (Kd.S_reads' HO_407001.out).2.1)
              rintro e w37 ⟨v414, v417, rfl, ho0, ho1, hb⟩
              have HS3_ := (hb.cell (World.block_lt_of_cell? _ _ (hHeld.2.2.2))).trans (hHeld.2.2.2)
              refine ⟨_, rfl, ?_⟩
              have n2_ := Aside0.mk (Kd.S_mono (Kd.S_told (Kd.S_told (Kd.S_old (by (with_reducible repeat (first | apply Kd.S_alloc | apply Kd.S_drewN | apply Kd.S_drew)); exact HO_407001.out) hb) (Kd.S_base ho0)) (Kd.R_base ho1)) (fun _ h_ => h_.1))
              have HO415 := Aside0.mk (Kd.S_lower (Kd.S_new' ho0 (Kd.S_lt (by (with_reducible repeat (first | apply Kd.S_alloc | apply Kd.S_drewN | apply Kd.S_drew)); exact HO_407001.out))) (below_size (be HB)))
              have HO418 := Aside0.mk (Kd.R_lower ho1 (below_size (be HB)))
              replace HO_7 := Aside0.mk (Kd.R_below (rr HO_7) hb); replace HO_400000 := Aside0.mk (Kd.R_below (rr HO_400000) hb); replace BK399 := bq BK399 hb; replace BK406 := bq BK406 hb; replace BK420 := bq BK420 hb; replace HB := bh HB hb
              clear HO_407001; have HO_407001 := n2_; clear n2_; (try clear hb); (try clear hb2); (try clear hk); (try clear hi); (try clear ho0); (try clear ho1); refine hK.out _ _ ⟨bc BK399 0, bc BK406 0, bc BK406 1, HS3_⟩ (fun hHeld => ?_)
              clear hK K; refine norm_ (a' := ?_) ?_ ?_
              rotate_left
              ·show Act.put _ (some 52) _ = _
               simp only [putL, i64_w, i32_w]; rfl
              refine pu 7 45 (tb 15 2303) HT_ ?_
              refine pu 8 53 (tb 15 2559) HT_ ?_
              refine pu 9 54 (tb 15 3071) HT_ ?_
              refine pu 10 55 (tb 15 4095) HT_ ?_
              exact norm_ (by simp only [putAll, putL]) (hCont (v414, v417, gb420) _ ⟨hHeld, (by (with_reducible repeat (first | apply Kd.S_alloc | apply Kd.S_drewN | apply Kd.S_drew)); exact HO415.out), (rr HO418), (rr HO_400000), (by (with_reducible repeat (first | apply Kd.S_alloc | apply Kd.S_drewN | apply Kd.S_drew)); exact Kd.S_mono HO_407001.out (fun _ hk => ⟨hk.1.2, hk.2⟩)), (rr HO_7), (by (with_reducible repeat first | refine bkN ?_ _ | refine bkD ?_ | refine bkA ?_ _); exact BK399.out), (by (with_reducible repeat first | refine bkN ?_ _ | refine bkD ?_ | refine bkA ?_ _); exact BK406.out), (by (with_reducible repeat first | refine bkN ?_ _ | refine bkD ?_ | refine bkA ?_ _); exact BK420.out), GW420.out, GE420.out, NB399_420.out, NB420_399.out, NB406_420.out, NB420_406.out, (be HB)⟩)
            rintro ⟨v414, v417, gb420⟩ w38 ⟨hS_, h0_, h1_, h2_, h3_, h4_, h5_, h6_, h7_, h8_, h9_, h10_, h11_, h12_, h13_, h14_⟩
            have n0_ : Aside0 (Kd.S k86 86 w38 w.heap.size (fun k_ => some k_ ≠ (v417 : Value).ownBlock ∧ some k_ ≠ (.slice Ao33 x407001_2.length co33 : Value).ownBlock) v414 t413) := ⟨h0_⟩
            have n1_ : Aside0 (Kd.R (Kd.int .i64) 3 w38 w.heap.size (fun _ => True) v417 t416) := ⟨h1_⟩
            have n2_ : Aside0 (Kd.R k95 95 w38 w.heap.size (fun _ => True) (.slice Ao10 t396.length co10) t396) := ⟨h2_⟩
            have n3_ : Aside0 (Kd.S k86 86 w38 w.heap.size (fun k_ => some k_ ≠ (v414 : Value).ownBlock ∧ some k_ ≠ (v417 : Value).ownBlock) (.slice Ao33 x407001_2.length co33) x407001_2) := ⟨h3_⟩
            have n4_ : Aside0 (Kd.R Kd.string 9 w38 w.heap.size (fun _ => True) (.slice (some ad411) y408.length co35) y408) := ⟨h4_⟩
            have n5_ : Aside0 (w38.heap[gb399]? = some (.cells #[.slice Ao10 t396.length co10] 26 (0, 0))) := ⟨h5_⟩
            have n6_ : Aside0 (w38.heap[gb406]? = some (.cells #[.int .i64 x407000_2, .slice Ao33 x407001_2.length co33] 31 (0, 0))) := ⟨h6_⟩
            have n7_ : Aside0 (w38.heap[gb420]? = some (.cells #[.int .i64 0, .slice none 0 0] 31 (0, 0))) := ⟨h7_⟩
            have n8_ : Aside0 (w.heap.size ≤ gb420) := ⟨h8_⟩
            have n9_ : Aside0 (w.heap.size ≤ gb420) := ⟨h9_⟩
            have n10_ : Aside0 (gb399 ≠ gb420) := ⟨h10_⟩
            have n11_ : Aside0 (gb420 ≠ gb399) := ⟨h11_⟩
            have n12_ : Aside0 (gb406 ≠ gb420) := ⟨h12_⟩
            have n13_ : Aside0 (gb420 ≠ gb406) := ⟨h13_⟩
            have n14_ : Aside0 (Below w.heap.size w w38) := ⟨h14_⟩
            clear HO_7; clear HO_400000; clear HO_407001; clear BK399; clear BK406; clear HB; clear h0_ h1_ h2_ h3_ h4_ h5_ h6_ h7_ h8_ h9_ h10_ h11_ h12_ h13_ h14_; have HO415 := n0_; have HO418 := n1_; have HO_400000 := n2_; have HO_407001 := n3_; have HO_7 := n4_; have BK399 := n5_; have BK406 := n6_; have BK420 := n7_; have GW420 := n8_; have GE420 := n9_; have NB399_420 := n10_; have NB420_399 := n11_; have NB406_420 := n12_; have NB420_406 := n13_; have HB := n14_; clear n0_ n1_ n2_ n3_ n4_ n5_ n6_ n7_ n8_ n9_ n10_ n11_ n12_ n13_ n14_; have hHeld : w38.cell? ⟨gb399, 0, none⟩ = some (.slice Ao10 t396.length co10) ∧ w38.cell? ⟨gb406, 0, none⟩ = some (.int .i64 x407000_2) ∧ w38.cell? ⟨gb406, 1, none⟩ = some (.slice Ao33 x407001_2.length co33) ∧ w38.cell? (ad411.add (x8_2).toNat) = some (.string (rdOf ByteArray.empty y408 x8_2)) := hS_
            obtain ⟨Ao40, co40, eo40⟩ := Kd.S_slice HO415.out
            (first | subst eo40 | (injection eo40 with f1_ f2_ f3_; have f4_ := f1_.symm; have f5_ := f3_.symm; clear f1_ f2_ f3_; subst f4_; subst f5_))
            refine norm_ (a' := ?_) ?_ ?_
            rotate_left
            ·simp only [putAll, putL]; rfl
            refine one_ (i := 12) (N := none) #[tt,tt,tt,tt,tt,tt,tt,tt,tt,tt,tt,tt,tt,ff,ff] rfl rfl (one_of HT_.out (by kernel_rfl)) (by decide) (fun K hK => ?_)
            have hs39 : w38.cell? ⟨gb420, 0, none⟩ = some (.int .i64 0) := bc BK420 0
            have hfs39 := blk_frozen BK420.out 0; have hns39_0 := NB399_420.out; have hns39_1 := NB406_420.out; have hms39_0 := NB420_399.out; have hms39_1 := NB420_406.out; have hs41 : w38.cell? ⟨gb420, 1, none⟩ = some (.slice none 0 0) := bc BK420 1
            have hfs41 := blk_frozen BK420.out 1; have hns41_0 := NB399_420.out; have hns41_1 := NB406_420.out; have hms41_0 := NB420_399.out; have hms41_1 := NB420_406.out; refine skip_ (w1 := ?_) (by rfl) rfl ?_ ?_
            rotate_left
            ·go_simp; rfl
            refine hK.out _ _ ⟨((cell_far (p := ⟨gb420, _, none⟩) NB399_420.out _).trans (((cell_far (p := ⟨gb420, _, none⟩) NB399_420.out _).trans (hHeld.1)))), ((cell_far (p := ⟨gb420, _, none⟩) NB406_420.out _).trans (((cell_far (p := ⟨gb420, _, none⟩) NB406_420.out _).trans (hHeld.2.1)))), ((cell_far (p := ⟨gb420, _, none⟩) NB406_420.out _).trans (((cell_far (p := ⟨gb420, _, none⟩) NB406_420.out _).trans (hHeld.2.2.1)))), ((cell_far (p := ⟨gb420, _, none⟩) (by first | exact Kd.own_blk (Kd.R_ne HO_7.out BK420.out (by decide)) | (rw [add_block]; exact Kd.own_blk (Kd.R_ne HO_7.out BK420.out (by decide))) | (show (Addr.add _ _).block ≠ _; rw [add_block]; exact Kd.own_blk (Kd.R_ne HO_7.out BK420.out (by decide))) | (dsimp only; exact Kd.own_blk (Kd.R_ne HO_7.out BK420.out (by decide)))) _).trans (((cell_far (p := ⟨gb420, _, none⟩) (by first | exact Kd.own_blk (Kd.R_ne HO_7.out BK420.out (by decide)) | (rw [add_block]; exact Kd.own_blk (Kd.R_ne HO_7.out BK420.out (by decide))) | (show (Addr.add _ _).block ≠ _; rw [add_block]; exact Kd.own_blk (Kd.R_ne HO_7.out BK420.out (by decide))) | (dsimp only; exact Kd.own_blk (Kd.R_ne HO_7.out BK420.out (by decide)))) _).trans (hHeld.2.2.2))))⟩ (fun hHeld => ?_)
            clear hK K; refine pure_ (i := 13) (N := some 10) (v := ?_) (a' := ?_) #[tt,tt,tt,tt,tt,tt,tt,tt,tt,tt,tt,tt,tt,tt,ff] rfl rfl (any_of HT_.out (by kernel_rfl)) (fun _ _ _ h => h) (Or.inl ⟨by rfl, ?_⟩) ?_ ?_
            rotate_left
            ·intro w'; go_simp; with_reducible rfl
            rotate_left
            ·simp only [putL, i64_w, i32_w]; rfl
            refine pu 14 11 (tb 15 32767) HT_ ?_
            refine done_ (done_of HT_.out (by kernel_rfl)) ?_
            try go_wp2
            have n0_ : Aside0 (Kd.R Kd.string 9 ((w38.setCell ⟨gb420, 0, none⟩ (.int .i64 t412)).setCell ⟨gb420, 1, none⟩ (.slice Ao40 t413.length co40)) w.heap.size (fun _ => True) (.slice (some ad411) y408.length co35) y408) := ⟨by (with_reducible repeat (first | apply Kd.R_alloc | apply Kd.R_drewN | apply Kd.R_drew)); exact Kd.R_mono (Kd.R_far (p := ⟨gb420, 1, none⟩) (Kd.R_far (p := ⟨gb420, 0, none⟩) (Kd.R_types HO_7.out BK420.out (by decide)) (fun _ hk => hk.2) (.int .i64 t412)) (fun _ hk => hk.2) (.slice Ao40 t413.length co40)) (fun _ hk => trivial)⟩
            have n1_ : Aside0 (Kd.R k95 95 ((w38.setCell ⟨gb420, 0, none⟩ (.int .i64 t412)).setCell ⟨gb420, 1, none⟩ (.slice Ao40 t413.length co40)) w.heap.size (fun _ => True) (.slice Ao10 t396.length co10) t396) := ⟨by (with_reducible repeat (first | apply Kd.R_alloc | apply Kd.R_drewN | apply Kd.R_drew)); exact Kd.R_mono (Kd.R_far (p := ⟨gb420, 1, none⟩) (Kd.R_far (p := ⟨gb420, 0, none⟩) (Kd.R_types HO_400000.out BK420.out (by decide)) (fun _ hk => hk.2) (.int .i64 t412)) (fun _ hk => hk.2) (.slice Ao40 t413.length co40)) (fun _ hk => trivial)⟩
            have n2_ : Aside0 (Kd.S k86 86 ((w38.setCell ⟨gb420, 0, none⟩ (.int .i64 t412)).setCell ⟨gb420, 1, none⟩ (.slice Ao40 t413.length co40)) w.heap.size (fun k_ => some k_ ≠ (.slice Ao40 t413.length co40 : Value).ownBlock ∧ some k_ ≠ (v417 : Value).ownBlock) (.slice Ao33 x407001_2.length co33) x407001_2) := ⟨by (with_reducible repeat (first | apply Kd.S_alloc | apply Kd.S_drewN | apply Kd.S_drew)); exact Kd.S_mono (Kd.S_far (p := ⟨gb420, 1, none⟩) (Kd.S_far (p := ⟨gb420, 0, none⟩) (Kd.S_types HO_407001.out BK420.out (by decide)) (fun _ hk => hk.2) (.int .i64 t412)) (fun _ hk => hk.2) (.slice Ao40 t413.length co40)) (fun _ hk => ⟨hk.1.1, hk.1.2⟩)⟩
            have n3_ : Aside0 (Kd.S k86 86 ((w38.setCell ⟨gb420, 0, none⟩ (.int .i64 t412)).setCell ⟨gb420, 1, none⟩ (.slice Ao40 t413.length co40)) w.heap.size (fun k_ => some k_ ≠ (.slice Ao33 x407001_2.length co33 : Value).ownBlock ∧ some k_ ≠ (v417 : Value).ownBlock) (.slice Ao40 t413.length co40) t413) := ⟨by (with_reducible repeat (first | apply Kd.S_alloc | apply Kd.S_drewN | apply Kd.S_drew)); exact Kd.S_mono (Kd.S_far (p := ⟨gb420, 1, none⟩) (Kd.S_far (p := ⟨gb420, 0, none⟩) (Kd.S_types HO415.out BK420.out (by decide)) (fun _ hk => hk.2) (.int .i64 t412)) (fun _ hk => hk.2) (.slice Ao40 t413.length co40)) (fun _ hk => ⟨hk.1.2, hk.1.1⟩)⟩
            have n4_ : Aside0 (Kd.R (Kd.int .i64) 3 ((w38.setCell ⟨gb420, 0, none⟩ (.int .i64 t412)).setCell ⟨gb420, 1, none⟩ (.slice Ao40 t413.length co40)) w.heap.size (fun _ => True) v417 t416) := ⟨by (with_reducible repeat (first | apply Kd.R_alloc | apply Kd.R_drewN | apply Kd.R_drew)); exact Kd.R_mono (Kd.R_far (p := ⟨gb420, 1, none⟩) (Kd.R_far (p := ⟨gb420, 0, none⟩) (Kd.R_types HO418.out BK420.out (by decide)) (fun _ hk => hk.2) (.int .i64 t412)) (fun _ hk => hk.2) (.slice Ao40 t413.length co40)) (fun _ hk => trivial)⟩
            have n5_ : Aside0 (((w38.setCell ⟨gb420, 0, none⟩ (.int .i64 t412)).setCell ⟨gb420, 1, none⟩ (.slice Ao40 t413.length co40)).heap[gb399]? = some (.cells #[.slice Ao10 t396.length co10] 26 (0, 0))) := ⟨by (with_reducible repeat first | refine bkN ?_ _ | refine bkD ?_ | refine bkA ?_ _ | refine blk_far ?_ NB399_420.out _); exact BK399.out⟩
            have n6_ : Aside0 (((w38.setCell ⟨gb420, 0, none⟩ (.int .i64 t412)).setCell ⟨gb420, 1, none⟩ (.slice Ao40 t413.length co40)).heap[gb406]? = some (.cells #[.int .i64 x407000_2, .slice Ao33 x407001_2.length co33] 31 (0, 0))) := ⟨by (with_reducible repeat first | refine bkN ?_ _ | refine bkD ?_ | refine bkA ?_ _ | refine blk_far ?_ NB406_420.out _); exact BK406.out⟩
            have n7_ : Aside0 (((w38.setCell ⟨gb420, 0, none⟩ (.int .i64 t412)).setCell ⟨gb420, 1, none⟩ (.slice Ao40 t413.length co40)).heap[gb420]? = some (.cells #[.int .i64 t412, .slice Ao40 t413.length co40] 31 (0, 0))) := ⟨by (with_reducible repeat first | refine bkN ?_ _ | refine bkD ?_ | refine bkA ?_ _); refine blk_put (cs := #[.int .i64 t412, .slice none 0 0]) ?_ 1 _ rfl; (with_reducible repeat first | refine bkN ?_ _ | refine bkD ?_ | refine bkA ?_ _); refine blk_put (cs := #[.int .i64 0, .slice none 0 0]) ?_ 0 _ rfl; (with_reducible repeat first | refine bkN ?_ _ | refine bkD ?_ | refine bkA ?_ _); exact BK420.out⟩
            have n8_ : Aside0 (Below w.heap.size w ((w38.setCell ⟨gb420, 0, none⟩ (.int .i64 t412)).setCell ⟨gb420, 1, none⟩ (.slice Ao40 t413.length co40))) := ⟨by repeat (first | (with_reducible first | exact HB.out | apply below_alloc | apply pw_below_drewN | apply below_drew1 | refine below_set ?_ GE399.out | refine below_set ?_ GE406.out | refine below_set ?_ GE420.out) | exact HB.out)⟩
            (try clear HO_7); (try clear HO_400000); (try clear HO_407001); (try clear HO415); (try clear HO418); (try clear BK399); (try clear BK406); (try clear BK420); (try clear HB); generalize ((w38.setCell ⟨gb420, 0, none⟩ (.int .i64 t412)).setCell ⟨gb420, 1, none⟩ (.slice Ao40 t413.length co40)) = w42 at n0_ n1_ n2_ n3_ n4_ n5_ n6_ n7_ n8_ ⊢
            have HO_7 := n0_; have HO_400000 := n1_; have HO_407001 := n2_; have HO415 := n3_; have HO418 := n4_; have BK399 := n5_; have BK406 := n6_; have BK420 := n7_; have HB := n8_; clear n0_ n1_ n2_ n3_ n4_ n5_ n6_ n7_ n8_; have n0_ := Aside0.mk (Kd.R_drew HO_7.out)
            have n1_ := Aside0.mk (Kd.R_drew HO_400000.out)
            have n2_ := Aside0.mk (Kd.S_drew HO_407001.out)
            have n3_ := Aside0.mk (Kd.S_drew HO415.out)
            have n4_ := Aside0.mk (Kd.R_drew HO418.out)
            have n5_ := Aside0.mk (blk_drew BK399.out)
            have n6_ := Aside0.mk (blk_drew BK406.out)
            have n7_ := Aside0.mk (blk_drew BK420.out)
            have n8_ := Aside0.mk (below_drew1 HB.out)
            clear HO_7 HO_400000 HO_407001 HO415 HO418 BK399 BK406 BK420 HB; have HO_7 := n0_; have HO_400000 := n1_; have HO_407001 := n2_; have HO415 := n3_; have HO418 := n4_; have BK399 := n5_; have BK406 := n6_; have BK420 := n7_; have HB := n8_; clear n0_ n1_ n2_ n3_ n4_ n5_ n6_ n7_ n8_; have p421 : 0 ≤ (x8_2 : Int) := of_decide_eq_true (by first | (with_reducible assumption) | assumption)
            have q421 : x8_2 < (y408.length : Int) := of_decide_eq_true (by first | (with_reducible assumption) | assumption)
            obtain ⟨ad421, e421, hx421_0⟩ := Kd.at_string (Kd.R_reads' HO_7.out).2.2 x8_2 p421 q421
            obtain rfl : ad411 = ad421 := (by injection e421)
            replace p421 := eq_true p421
            replace q421 := eq_true q421
            refine start_ (n := 12) (S := fun w' => w'.cell? ⟨gb399, 0, none⟩ = some (.slice Ao10 t396.length co10) ∧ w'.cell? (ad411.add (x8_2).toNat) = some (.string (rdOf ByteArray.empty y408 x8_2))) (ds := []) #[ff,ff,ff,ff,ff,ff,ff,ff,ff,ff,ff,ff] (by kernel_rfl) rfl rfl ⟨bc BK399 0, hx421_0⟩ (fun hHeld => ?_); refine with_tabW laws_FnLatest.tab13 laws_FnLatest.bits13 (fun HT_ HW_ => ?_)
            generalize w42.drew = w43 at HO_7 HO_400000 HO_407001 HO415 HO418 BK399 BK406 BK420 HB hx421_0 hHeld ⊢
            refine pu 0 56 (tb 12 1) HT_ ?_
            refine pu 1 57 (tb 12 3) HT_ ?_
            refine pu 2 58 (tb 12 7) HT_ ?_
            refine pu 4 60 (tb 12 23) HT_ ?_
            refine pu 5 61 (tb 12 55) HT_ ?_
            refine pu 6 62 (tb 12 119) HT_ ?_
            refine tk 3 59 (tb 12 127) rfl rfl HT_ HW_ hHeld (by rintro w' ⟨s0, s1⟩; go_simp; with_reducible rfl) ?_
            refine tk 7 63 (tb 12 255) rfl rfl HT_ HW_ hHeld (by rintro w' ⟨s0, s1⟩; go_simp; with_reducible rfl) ?_
            refine one_ (i := 8) (N := some 64) #[tt,tt,tt,tt,tt,tt,tt,tt,tt,ff,ff,ff] rfl rfl (one_of HT_.out (by kernel_rfl)) (by decide) (fun K hK => ?_)
            refine goes_ Try.func13 (by kernel_rfl) rfl #[.agg #[.slice Ao10 t396.length co10], .string (rdOf ByteArray.empty y408 x8_2)] (by rfl) rfl rfl (by (try simp only [List.map_toArray, List.map_cons, List.map_nil]); first | done | rfl | (simp only [List.length_drop, List.length_take]; rfl)) ?_
            with_reducible refine (spec_Bpe.calls k2 _ _ t396 (rdOf ByteArray.empty y408 x8_2) t422 _ ?side1 ?side2 A30.out).mono ?_
            (case side1 => repeat (first | exact (Kd.R_reads' HO_400000.out).2.2 | (with_reducible refine Kd.C_alloc ?_ _) | (with_reducible refine Kd.C_drewN ?_ _) | (with_reducible refine Kd.C_drew ?_)))
            (case side2 => exact (Kd.R_reads' HO_400000.out).2.1)
            rintro e w44 ⟨v423, rfl, ho0, hb⟩
            have HS1_ := (hb.cell (World.block_lt_of_cell? _ _ (hHeld.2))).trans (hHeld.2)
            refine ⟨_, rfl, ?_⟩
            have n2_ := Aside0.mk (Kd.S_elder' (by (with_reducible repeat (first | apply Kd.S_alloc | apply Kd.S_drewN | apply Kd.S_drew)); exact HO_407001.out) (Kd.R_base ho0) hb)
            have n3_ := Aside0.mk (Kd.S_elder' (by (with_reducible repeat (first | apply Kd.S_alloc | apply Kd.S_drewN | apply Kd.S_drew)); exact HO415.out) (Kd.R_base ho0) hb)
            have n4_ := Aside0.mk (Kd.R_elder' (rr HO418) (Kd.R_base ho0) hb)
            have HO424 := Aside0.mk (Kd.R_lower (Kd.R_new' ho0 (Kd.R_lt (rr HO418))) (below_size (be HB)))
            replace HO_7 := Aside0.mk (Kd.R_below (rr HO_7) hb); replace HO_400000 := Aside0.mk (Kd.R_below (rr HO_400000) hb); replace BK399 := bq BK399 hb; replace BK406 := bq BK406 hb; replace BK420 := bq BK420 hb; replace HB := bh HB hb
            clear HO_407001 HO415 HO418; have HO_407001 := n2_; have HO415 := n3_; have HO418 := n4_; clear n2_ n3_ n4_; (try clear hb); (try clear hb2); (try clear hk); (try clear hi); (try clear ho0); obtain ⟨Ao45, co45, eo45⟩ := Kd.R_slice HO418.out
            (first | subst eo45 | (injection eo45 with f1_ f2_ f3_; have f4_ := f1_.symm; have f5_ := f3_.symm; clear f1_ f2_ f3_; subst f4_; subst f5_))
            obtain ⟨Ao46, co46, eo46⟩ := Kd.R_slice HO424.out
            (first | subst eo46 | (injection eo46 with f1_ f2_ f3_; have f4_ := f1_.symm; have f5_ := f3_.symm; clear f1_ f2_ f3_; subst f4_; subst f5_))
            refine hK.out _ _ ⟨bc BK399 0, HS1_⟩ (fun hHeld => ?_)
            clear hK K; refine norm_ (a' := ?_) ?_ ?_
            rotate_left
            ·show Act.put _ (some 64) _ = _
             simp only [putL, i64_w, i32_w]; rfl
            refine one_ (i := 9) (N := some 65) #[tt,tt,tt,tt,tt,tt,tt,tt,tt,tt,ff,ff] rfl rfl (one_of HT_.out (by kernel_rfl)) (by decide) (fun K hK => ?_)
            refine goes_ Try.func12 (by kernel_rfl) rfl #[.slice Ao45 t416.length co45, .slice Ao46 t422.length co46] (by rfl) rfl rfl (by (try simp only [List.map_toArray, List.map_cons, List.map_nil]); first | done | rfl | (simp only [List.length_drop, List.length_take]; rfl)) ?_
            with_reducible refine (laws_sameInts.calls k2 _ _ t416 _ _ t422 true _ ?side1 ?side2 ?side3 ?side4 A31.out).mono ?_
            (case side1 => repeat (first | exact (Kd.R_reads' HO418.out).2.2 | (with_reducible refine Kd.C_alloc ?_ _) | (with_reducible refine Kd.C_drewN ?_ _) | (with_reducible refine Kd.C_drew ?_)))
            (case side2 => exact (Kd.R_reads' HO418.out).2.1)
            (case side3 => repeat (first | exact (Kd.R_reads' HO424.out).2.2 | (with_reducible refine Kd.C_alloc ?_ _) | (with_reducible refine Kd.C_drewN ?_ _) | (with_reducible refine Kd.C_drew ?_)))
            (case side4 => exact (Kd.R_reads' HO424.out).2.1)
            rintro e w' ⟨rfl, ⟨nd, rfl⟩⟩
            refine ⟨_, rfl, ?_⟩
            refine hK.out _ _ ⟨bc BK399 0, hHeld.2⟩ (fun hHeld => ?_)
            clear hK K; refine norm_ (a' := ?_) ?_ ?_
            rotate_left
            ·show Act.put _ (some 65) _ = _
             simp only [putL, i64_w, i32_w]; rfl
            refine pu 10 66 (tb 12 2047) HT_ ?_
            refine pu 11 67 (tb 12 4095) HT_ ?_
            refine done_ (done_of HT_.out (by kernel_rfl)) ?_
            have hnb47 := NB420_399.out; have hnc47 := NB399_420.out; have hnb48 := NB420_406.out; have hnc48 := NB406_420.out; obtain ⟨hcz49_0, hcz49_1⟩ := cs2 BK420; obtain ⟨hfz49_0, hfz49_1⟩ := fs2 BK420; have hnb50 := NB406_399.out; have hnc50 := NB399_406.out; obtain ⟨hcz51_0, hcz51_1⟩ := cs2 BK406; obtain ⟨hfz51_0, hfz51_1⟩ := fs2 BK406
            try go_wp2
            go_roundg k2
            case measure => have := HJ6.out; have := HK2.out; omega
            case rel => exact ⟨(wrap64 (x8_2 + 1)), (t412), (t413), (.slice Ao40 t413.length co40), (by first | rfl | (simp; done) | (simp [*]; done)), H', ⟨by have := HJ6.out; have := HK2.out; omega⟩, ⟨by (with_reducible repeat (first | apply Kd.R_alloc | apply Kd.R_drewN | apply Kd.R_drew)); exact Kd.R_mono (Kd.R_far (p := ⟨gb406, 1, none⟩) (Kd.R_far (p := ⟨gb406, 0, none⟩) (Kd.R_types HO_7.out BK406.out (by decide)) (fun _ hk => hk.2) (.int .i64 t412)) (fun _ hk => hk.2) (.slice Ao40 t413.length co40)) (fun _ hk => trivial)⟩, ⟨by (with_reducible repeat (first | apply Kd.R_alloc | apply Kd.R_drewN | apply Kd.R_drew)); exact Kd.R_mono (Kd.R_far (p := ⟨gb406, 1, none⟩) (Kd.R_far (p := ⟨gb406, 0, none⟩) (Kd.R_types HO_400000.out BK406.out (by decide)) (fun _ hk => hk.2) (.int .i64 t412)) (fun _ hk => hk.2) (.slice Ao40 t413.length co40)) (fun _ hk => trivial)⟩, ⟨by (with_reducible repeat (first | apply Kd.S_alloc | apply Kd.S_drewN | apply Kd.S_drew)); exact Kd.S_mono (Kd.S_far (p := ⟨gb406, 1, none⟩) (Kd.S_far (p := ⟨gb406, 0, none⟩) (Kd.S_types HO415.out BK406.out (by decide)) (fun _ hk => hk.2) (.int .i64 t412)) (fun _ hk => hk.2) (.slice Ao40 t413.length co40)) (fun _ hk => trivial)⟩, ⟨by (with_reducible repeat first | refine bkN ?_ _ | refine bkD ?_ | refine bkA ?_ _ | refine blk_far ?_ NB399_406.out _); exact BK399.out⟩, ⟨by (with_reducible repeat first | refine bkN ?_ _ | refine bkD ?_ | refine bkA ?_ _); refine blk_put (cs := #[.int .i64 t412, .slice Ao33 x407001_2.length co33]) ?_ 1 _ rfl; (with_reducible repeat first | refine bkN ?_ _ | refine bkD ?_ | refine bkA ?_ _); refine blk_put (cs := #[.int .i64 x407000_2, .slice Ao33 x407001_2.length co33]) ?_ 0 _ rfl; (with_reducible repeat first | refine bkN ?_ _ | refine bkD ?_ | refine bkA ?_ _); exact BK406.out⟩, ⟨by repeat (first | (with_reducible first | exact HB.out | apply below_alloc | apply pw_below_drewN | apply below_drew1 | refine below_set ?_ GE399.out | refine below_set ?_ GE406.out | refine below_set ?_ GE420.out) | exact HB.out)⟩⟩
           ·replace c32 := Bool.eq_false_iff.mpr c32
            subst c32
            have H1 : (none) = some r := by rw [if_neg (show ¬ (false = true) by decide)] at H; exact H
            clear H; have H := H1
            clear H1; exact absurd H (by simp)
         ·rw [if_neg c27] at H
          exact absurd H (by simp)
        ·rw [if_neg c26] at H
         exact absurd H (by simp)
       ·rw [if_neg c25] at H
        have c25b0 : decide (x8_2 < 8) = false := decide_eq_false c25
        clear c25; have H' := Aside0.mk H
        clear H
        go_wp2
        go_loopg [12] k2 (fun kq v12 w' => ∃ (x12_3 : Int) (x407000_3 : Int) (x407001_3 : List (S86)) (u407001 : Value), v12 = .int .i64 x12_3 ∧ Aside0 (laws_FnLatest.l1 kq (wrap64 (1 + (Int.tmod t400 5))) y408 x12_3 t396 x407000_3 x407001_3 = some r) ∧ Aside0 (kq ≤ k2) ∧ Aside0 (Kd.R Kd.string 9 w' w.heap.size (fun _ => True) v409 y408) ∧ Aside0 (Kd.R k95 95 w' w.heap.size (fun _ => True) (.slice Ao10 t396.length co10) t396) ∧ Aside0 (Kd.S k86 86 w' w.heap.size (fun _ => True) u407001 x407001_3) ∧ Aside0 (w'.heap[gb399]? = some (.cells #[(.slice Ao10 t396.length co10)] 26 (0, 0))) ∧ Aside0 (w'.heap[gb406]? = some (.cells #[.int .i64 x407000_3, u407001] 31 (0, 0))) ∧ Aside0 (Below w.heap.size w w'))
        case atStart => exact ⟨(wrap64 (8 - (wrap64 (1 + (Int.tmod t400 5))))), (x407000_2), (x407001_2), (u407001), (by first | rfl | (simp; done) | (simp [*]; done)), H', ⟨Nat.le_refl _⟩, ⟨rr HO_7⟩, ⟨rr HO_400000⟩, ⟨by (with_reducible repeat (first | apply Kd.S_alloc | apply Kd.S_drewN | apply Kd.S_drew)); exact HO_407001.out⟩, ⟨bb BK399⟩, ⟨bb BK406⟩, ⟨by repeat (first | (with_reducible first | exact HB.out | apply below_alloc | apply pw_below_drewN | apply below_drew1 | refine below_set ?_ GE399.out | refine below_set ?_ GE406.out) | exact HB.out)⟩⟩
        case round =>
         clear H'
         (try clear c1); (try clear c2); (try clear p2); (try clear c3); (try clear c4); (try clear p4); (try clear q4); (try clear hx4); (try clear c5); (try clear p6); (try clear c11); (try clear c12); (try clear c13); (try clear c25); (try clear c25b0); (try clear c26); (try clear c27); (try clear c32); (try clear p42); (try clear q42); (try clear hx42); (try clear c47); (try clear c48); (try clear c50); (try clear hcz49_0); (try clear hcz49_1); (try clear hcz51_0); (try clear hcz51_1); (try clear hfz49_0); (try clear hfz49_1); (try clear hfz51_0); (try clear hfz51_1); (try clear hx421_0); (try clear p421); (try clear q421); obtain ⟨x12_3, x407000_3, x407001_3, u407001, rfl, HA, HK3, HO_7, HO_400000, HO_407001, BK399, BK406, HB⟩ := hrel
         cases gk with
         | zero => exact absurd HA.out (by simp [laws_FnLatest.l1])
         | succ k3 =>
          have H := HA.out; clear HA; simp only [laws_FnLatest.l1] at H
          by_cases c52 : x12_3 < 8
          ·rw [if_pos c52] at H
           have c52b0 : decide (x12_3 < 8) = true := decide_eq_true c52
           clear c52
           by_cases c53 : 0 ≤ x12_3
           ·rw [if_pos c53] at H
            have c53b0 : decide (0 ≤ x12_3) = true := decide_eq_true c53
            clear c53
            by_cases c54 : x12_3 < (y408.length : Int)
            ·rw [if_pos c54] at H
             have c54b0 : decide (x12_3 < (y408.length : Int)) = true := decide_eq_true c54
             clear c54; replace H := Option.bind_eq_some_iff.mp H
             obtain ⟨⟨t427, t428, t431, t434⟩, A550, H⟩ := H
             replace H : (if t434 = true then (laws_FnLatest.l1 k3 (wrap64 (1 + (Int.tmod t400 5))) y408 (wrap64 (x12_3 + 1)) t396 t427 t428) else (none)) = some r := H
             have A55 := Aside0.mk A550
             clear A550
             by_cases c56 : t434 = true
             ·subst c56
              have H1 : (laws_FnLatest.l1 k3 (wrap64 (1 + (Int.tmod t400 5))) y408 (wrap64 (x12_3 + 1)) t396 t427 t428) = some r := by rw [if_pos rfl] at H; exact H
              clear H; have H := H1
              clear H1; have H' := Aside0.mk H
              clear H; obtain ⟨Ao57, co57, eo57⟩ := Kd.S_slice HO_407001.out
              subst eo57
              try go_wp2
              have n0_ := Aside0.mk (Kd.R_drew HO_7.out)
              have n1_ := Aside0.mk (Kd.R_drew HO_400000.out)
              have n2_ := Aside0.mk (Kd.S_drew HO_407001.out)
              have n3_ := Aside0.mk (blk_drew BK399.out)
              have n4_ := Aside0.mk (blk_drew BK406.out)
              have n5_ := Aside0.mk (below_drew1 HB.out)
              clear HO_7 HO_400000 HO_407001 BK399 BK406 HB; have HO_7 := n0_; have HO_400000 := n1_; have HO_407001 := n2_; have BK399 := n3_; have BK406 := n4_; have HB := n5_; clear n0_ n1_ n2_ n3_ n4_ n5_; obtain ⟨Ao59, co59, eo59⟩ := Kd.R_slice HO_7.out
              (first | subst eo59 | (injection eo59 with f1_ f2_ f3_; have f4_ := f1_.symm; have f5_ := f3_.symm; clear f1_ f2_ f3_; subst f4_; subst f5_))
              have p426 : 0 ≤ (x12_3 : Int) := of_decide_eq_true (by first | (with_reducible assumption) | assumption)
              have q426 : x12_3 < (y408.length : Int) := of_decide_eq_true (by first | (with_reducible assumption) | assumption)
              obtain ⟨ad426, e426, hx426_0⟩ := Kd.at_string (Kd.R_reads' HO_7.out).2.2 x12_3 p426 q426
              cases e426
              replace p426 := eq_true p426
              replace q426 := eq_true q426
              refine start_ (n := 15) (S := fun w' => w'.cell? ⟨gb399, 0, none⟩ = some (.slice Ao10 t396.length co10) ∧ w'.cell? ⟨gb406, 0, none⟩ = some (.int .i64 x407000_3) ∧ w'.cell? ⟨gb406, 1, none⟩ = some (.slice Ao57 x407001_3.length co57) ∧ w'.cell? (ad426.add (x12_3).toNat) = some (.string (rdOf ByteArray.empty y408 x12_3))) (ds := []) #[ff,ff,ff,ff,ff,ff,ff,ff,ff,ff,ff,ff,ff,ff,ff] (by kernel_rfl) rfl rfl ⟨bc BK399 0, bc BK406 0, bc BK406 1, hx426_0⟩ (fun hHeld => ?_); refine with_tabW laws_FnLatest.tab19 laws_FnLatest.bits19 (fun HT_ HW_ => ?_)
              generalize wr.drew = w58 at HO_7 HO_400000 HO_407001 BK399 BK406 HB hx426_0 hHeld ⊢
              refine pu 2 78 (tb 15 4) HT_ ?_
              refine pu 3 79 (tb 15 12) HT_ ?_
              refine pu 4 80 (tb 15 28) HT_ ?_
              refine tk 0 76 (tb 15 29) rfl rfl HT_ HW_ hHeld (by rintro w' ⟨s0, s1, s2, s3⟩; go_simp; with_reducible rfl) ?_
              refine tk 1 77 (tb 15 31) rfl rfl HT_ HW_ hHeld (by rintro w' ⟨s0, s1, s2, s3⟩; go_simp; with_reducible rfl) ?_
              refine tk 5 81 (tb 15 63) rfl rfl HT_ HW_ hHeld (by rintro w' ⟨s0, s1, s2, s3⟩; go_simp; with_reducible rfl) ?_
              refine join_ (σ := Value × Value × Nat) 3 #[tt,tt,tt,tt,tt,tt,tt,tt,tt,tt,tt,tt,ff,ff,ff] (fun s_ => [(82, .tuple #[.agg #[.int .i64 t427, s_.1], s_.2.1, .bool true]), (13, .pointer (some ⟨s_.2.2, 0, none⟩)), (75, .tuple #[.agg #[.int .i64 t427, s_.1], s_.2.1, .bool true]), (83, .agg #[.int .i64 t427, s_.1]), (84, s_.2.1), (85, .bool true)]) (fun s_ w' => (w'.cell? ⟨gb399, 0, none⟩ = some (.slice Ao10 t396.length co10) ∧ w'.cell? ⟨gb406, 0, none⟩ = some (.int .i64 x407000_3) ∧ w'.cell? ⟨gb406, 1, none⟩ = some (.slice Ao57 x407001_3.length co57) ∧ w'.cell? (ad426.add (x12_3).toNat) = some (.string (rdOf ByteArray.empty y408 x12_3))) ∧ (Kd.S k86 86 w' w.heap.size (fun k_ => some k_ ≠ (s_.2.1 : Value).ownBlock ∧ some k_ ≠ (.slice Ao57 x407001_3.length co57 : Value).ownBlock) s_.1 t428) ∧ (Kd.R (Kd.int .i64) 3 w' w.heap.size (fun _ => True) s_.2.1 t431) ∧ (Kd.R k95 95 w' w.heap.size (fun _ => True) (.slice Ao10 t396.length co10) t396) ∧ (Kd.S k86 86 w' w.heap.size (fun k_ => some k_ ≠ (s_.1 : Value).ownBlock ∧ some k_ ≠ (s_.2.1 : Value).ownBlock) (.slice Ao57 x407001_3.length co57) x407001_3) ∧ (Kd.R Kd.string 9 w' w.heap.size (fun _ => True) (.slice (some ad426) y408.length co59) y408) ∧ (w'.heap[gb399]? = some (.cells #[.slice Ao10 t396.length co10] 26 (0, 0))) ∧ (w'.heap[gb406]? = some (.cells #[.int .i64 x407000_3, .slice Ao57 x407001_3.length co57] 31 (0, 0))) ∧ (w'.heap[s_.2.2]? = some (.cells #[.int .i64 0, .slice none 0 0] 31 (0, 0))) ∧ (w.heap.size ≤ s_.2.2) ∧ (w.heap.size ≤ s_.2.2) ∧ (gb399 ≠ s_.2.2) ∧ (s_.2.2 ≠ gb399) ∧ (gb406 ≠ s_.2.2) ∧ (s_.2.2 ≠ gb406) ∧ (Below w.heap.size w w')) ?_ ?_
              rotate_left
              ·intro hCont; refine two_ (i := 6) (j := 11) (Ni := some 82) (Nj := some 13) #[tt,tt,tt,tt,tt,tt,tt,ff,ff,ff,ff,ff,ff,ff,ff] #[tt,tt,tt,tt,tt,tt,ff,ff,ff,ff,ff,tt,ff,ff,ff] rfl rfl rfl rfl (two_of HT_.out (by kernel_rfl)) (by decide) (by decide) (fun K hK => ?_) (fun K hK => ?_)
               ·skip
                refine goes_ Try.func11 (by kernel_rfl) rfl #[.agg #[.slice Ao10 t396.length co10], .agg #[.int .i64 x407000_3, .slice Ao57 x407001_3.length co57], .string (rdOf ByteArray.empty y408 x12_3)] (by rfl) rfl rfl (by (try simp only [List.map_toArray, List.map_cons, List.map_nil]); first | done | rfl | (simp only [List.length_drop, List.length_take]; rfl)) ?_
                with_reducible refine (impl_Recall.calls k3 _ _ t396 x407000_3 _ _ x407001_3 (rdOf ByteArray.empty y408 x12_3) t427 t428 t431 true _ ?side1 ?side2 ?side3 ?side4 A55.out).mono ?_
                (case side1 => repeat (first | exact (Kd.R_reads' HO_400000.out).2.2 | (with_reducible refine Kd.C_alloc ?_ _) | (with_reducible refine Kd.C_drewN ?_ _) | (with_reducible refine Kd.C_drew ?_)))
                (case side2 => exact (Kd.R_reads' HO_400000.out).2.1)
                (case side3 => repeat (first | exact (Kd.S_reads' HO_407001.out).2.2 | (with_reducible refine Kd.C_alloc ?_ _) | (with_reducible refine Kd.C_drewN ?_ _) | (with_reducible refine Kd.C_drew ?_)))
                (case side4 => exact (Kd.S_reads' HO_407001.out).2.1)
                rintro e w60 ⟨v429, v432, rfl, ho0, ho1, hb⟩
                have HS3_ := (hb.cell (World.block_lt_of_cell? _ _ (hHeld.2.2.2))).trans (hHeld.2.2.2)
                refine ⟨_, rfl, ?_⟩
                have n2_ := Aside0.mk (Kd.S_mono (Kd.S_told (Kd.S_told (Kd.S_old (by (with_reducible repeat (first | apply Kd.S_alloc | apply Kd.S_drewN | apply Kd.S_drew)); exact HO_407001.out) hb) (Kd.S_base ho0)) (Kd.R_base ho1)) (fun _ h_ => h_.1))
                have HO430 := Aside0.mk (Kd.S_lower (Kd.S_new' ho0 (Kd.S_lt (by (with_reducible repeat (first | apply Kd.S_alloc | apply Kd.S_drewN | apply Kd.S_drew)); exact HO_407001.out))) (below_size (be HB)))
                have HO433 := Aside0.mk (Kd.R_lower ho1 (below_size (be HB)))
                replace HO_7 := Aside0.mk (Kd.R_below (rr HO_7) hb); replace HO_400000 := Aside0.mk (Kd.R_below (rr HO_400000) hb); replace BK399 := bq BK399 hb; replace BK406 := bq BK406 hb; replace HB := bh HB hb
                clear HO_407001; have HO_407001 := n2_; clear n2_; (try clear hb); (try clear hb2); (try clear hk); (try clear hi); (try clear ho0); (try clear ho1); refine hK.out _ _ ⟨bc BK399 0, bc BK406 0, bc BK406 1, HS3_⟩ (fun hHeld => ?_)
                clear hK K; refine norm_ (a' := ?_) ?_ ?_
                rotate_left
                ·show Act.put _ (some 82) _ = _
                 simp only [putL, i64_w, i32_w]; rfl
                refine pu 7 75 (tb 15 255) HT_ ?_
                refine pu 8 83 (tb 15 511) HT_ ?_
                refine pu 9 84 (tb 15 1023) HT_ ?_
                refine pu 10 85 (tb 15 2047) HT_ ?_
                refine one_ (i := 11) (N := some 13) #[tt,tt,tt,tt,tt,tt,tt,tt,tt,tt,tt,tt,ff,ff,ff] rfl rfl (one_of HT_.out (by kernel_rfl)) (by decide) (fun K hK => ?_)
                refine box_step ?hg (N := 13) ?hd (cs := #[.int .i64 0, .slice none 0 0]) (t := 31) ?hr ?_; (case hd => rfl); (case hg => rfl); (case hr => first | (go_simp; done) | (go_simp; rfl))
                intro gb435 hg w61 hbox hb
                have HS3_ := (hb.cell (World.block_lt_of_cell? _ _ (hHeld.2.2.2))).trans (hHeld.2.2.2)
                have n2_ := Aside0.mk (Kd.S_below (by (with_reducible repeat (first | apply Kd.S_alloc | apply Kd.S_drewN | apply Kd.S_drew)); exact HO_407001.out) hb)
                have n3_ := Aside0.mk (Kd.S_below (by (with_reducible repeat (first | apply Kd.S_alloc | apply Kd.S_drewN | apply Kd.S_drew)); exact HO430.out) hb)
                have BK435 := Aside0.mk (hbox)
                have GW435 := bs HB hg; have GE435 := bs HB hg; have NB399_435 := bl BK399 hg; have NB435_399 := bg BK399 hg; have NB406_435 := bl BK406 hg; have NB435_406 := bg BK406 hg; replace HO_7 := Aside0.mk (Kd.R_below (rr HO_7) hb); replace HO_400000 := Aside0.mk (Kd.R_below (rr HO_400000) hb); replace HO433 := Aside0.mk (Kd.R_below (rr HO433) hb); replace BK399 := bq BK399 hb; replace BK406 := bq BK406 hb; replace HB := bh HB hb
                clear HO_407001 HO430; have HO_407001 := n2_; have HO430 := n3_; clear n2_ n3_; clear hb hbox hg; refine hK.out _ _ ⟨bc BK399 0, bc BK406 0, bc BK406 1, HS3_⟩ (fun hHeld => ?_)
                clear hK K; refine norm_ (a' := ?_) ?_ ?_
                rotate_left
                ·show Act.put _ (some 13) _ = _
                 simp only [putL, i64_w, i32_w]; rfl
                exact norm_ (by simp only [putAll, putL]) (hCont (v429, v432, gb435) _ ⟨hHeld, (by (with_reducible repeat (first | apply Kd.S_alloc | apply Kd.S_drewN | apply Kd.S_drew)); exact HO430.out), (rr HO433), (rr HO_400000), (by (with_reducible repeat (first | apply Kd.S_alloc | apply Kd.S_drewN | apply Kd.S_drew)); exact Kd.S_mono HO_407001.out (fun _ hk => ⟨hk.1.2, hk.2⟩)), (rr HO_7), (by (with_reducible repeat first | refine bkN ?_ _ | refine bkD ?_ | refine bkA ?_ _); exact BK399.out), (by (with_reducible repeat first | refine bkN ?_ _ | refine bkD ?_ | refine bkA ?_ _); exact BK406.out), (by (with_reducible repeat first | refine bkN ?_ _ | refine bkD ?_ | refine bkA ?_ _); exact BK435.out), GW435.out, GE435.out, NB399_435.out, NB435_399.out, NB406_435.out, NB435_406.out, (be HB)⟩)
               ·skip
                refine box_step ?hg (N := 13) ?hd (cs := #[.int .i64 0, .slice none 0 0]) (t := 31) ?hr ?_; (case hd => rfl); (case hg => rfl); (case hr => first | (go_simp; done) | (go_simp; rfl))
                intro gb435 hg w60 hbox hb
                have HS3_ := (hb.cell (World.block_lt_of_cell? _ _ (hHeld.2.2.2))).trans (hHeld.2.2.2)
                have n2_ := Aside0.mk (Kd.S_below (by (with_reducible repeat (first | apply Kd.S_alloc | apply Kd.S_drewN | apply Kd.S_drew)); exact HO_407001.out) hb)
                have BK435 := Aside0.mk (hbox)
                have GW435 := bs HB hg; have GE435 := bs HB hg; have NB399_435 := bl BK399 hg; have NB435_399 := bg BK399 hg; have NB406_435 := bl BK406 hg; have NB435_406 := bg BK406 hg; replace HO_7 := Aside0.mk (Kd.R_below (rr HO_7) hb); replace HO_400000 := Aside0.mk (Kd.R_below (rr HO_400000) hb); replace BK399 := bq BK399 hb; replace BK406 := bq BK406 hb; replace HB := bh HB hb
                clear HO_407001; have HO_407001 := n2_; clear n2_; clear hb hbox hg; refine hK.out _ _ ⟨bc BK399 0, bc BK406 0, bc BK406 1, HS3_⟩ (fun hHeld => ?_)
                clear hK K; refine norm_ (a' := ?_) ?_ ?_
                rotate_left
                ·show Act.put _ (some 13) _ = _
                 simp only [putL, i64_w, i32_w]; rfl
                refine one_ (i := 6) (N := some 82) #[tt,tt,tt,tt,tt,tt,tt,ff,ff,ff,ff,tt,ff,ff,ff] rfl rfl (one_of HT_.out (by kernel_rfl)) (by decide) (fun K hK => ?_)
                refine goes_ Try.func11 (by kernel_rfl) rfl #[.agg #[.slice Ao10 t396.length co10], .agg #[.int .i64 x407000_3, .slice Ao57 x407001_3.length co57], .string (rdOf ByteArray.empty y408 x12_3)] (by rfl) rfl rfl (by (try simp only [List.map_toArray, List.map_cons, List.map_nil]); first | done | rfl | (simp only [List.length_drop, List.length_take]; rfl)) ?_
                with_reducible refine (impl_Recall.calls k3 _ _ t396 x407000_3 _ _ x407001_3 (rdOf ByteArray.empty y408 x12_3) t427 t428 t431 true _ ?side1 ?side2 ?side3 ?side4 A55.out).mono ?_
                (case side1 => repeat (first | exact (Kd.R_reads' HO_400000.out).2.2 | (with_reducible refine Kd.C_alloc ?_ _) | (with_reducible refine Kd.C_drewN ?_ _) | (with_reducible refine Kd.C_drew ?_)))
                (case side2 => exact (Kd.R_reads' HO_400000.out).2.1)
                (case side3 => repeat (first | exact (Kd.S_reads' HO_407001.out).2.2 | (with_reducible refine Kd.C_alloc ?_ _) | (with_reducible refine Kd.C_drewN ?_ _) | (with_reducible refine Kd.C_drew ?_)))
                (case side4 => exact (Kd.S_reads' HO_407001.out).2.1)
                rintro e w61 ⟨v429, v432, rfl, ho0, ho1, hb⟩
                have HS3_ := (hb.cell (World.block_lt_of_cell? _ _ (hHeld.2.2.2))).trans (hHeld.2.2.2)
                refine ⟨_, rfl, ?_⟩
                have n2_ := Aside0.mk (Kd.S_mono (Kd.S_told (Kd.S_told (Kd.S_old (by (with_reducible repeat (first | apply Kd.S_alloc | apply Kd.S_drewN | apply Kd.S_drew)); exact HO_407001.out) hb) (Kd.S_base ho0)) (Kd.R_base ho1)) (fun _ h_ => h_.1))
                have HO430 := Aside0.mk (Kd.S_lower (Kd.S_new' ho0 (Kd.S_lt (by (with_reducible repeat (first | apply Kd.S_alloc | apply Kd.S_drewN | apply Kd.S_drew)); exact HO_407001.out))) (below_size (be HB)))
                have HO433 := Aside0.mk (Kd.R_lower ho1 (below_size (be HB)))
                replace HO_7 := Aside0.mk (Kd.R_below (rr HO_7) hb); replace HO_400000 := Aside0.mk (Kd.R_below (rr HO_400000) hb); replace BK399 := bq BK399 hb; replace BK406 := bq BK406 hb; replace BK435 := bq BK435 hb; replace HB := bh HB hb
                clear HO_407001; have HO_407001 := n2_; clear n2_; (try clear hb); (try clear hb2); (try clear hk); (try clear hi); (try clear ho0); (try clear ho1); refine hK.out _ _ ⟨bc BK399 0, bc BK406 0, bc BK406 1, HS3_⟩ (fun hHeld => ?_)
                clear hK K; refine norm_ (a' := ?_) ?_ ?_
                rotate_left
                ·show Act.put _ (some 82) _ = _
                 simp only [putL, i64_w, i32_w]; rfl
                refine pu 7 75 (tb 15 2303) HT_ ?_
                refine pu 8 83 (tb 15 2559) HT_ ?_
                refine pu 9 84 (tb 15 3071) HT_ ?_
                refine pu 10 85 (tb 15 4095) HT_ ?_
                exact norm_ (by simp only [putAll, putL]) (hCont (v429, v432, gb435) _ ⟨hHeld, (by (with_reducible repeat (first | apply Kd.S_alloc | apply Kd.S_drewN | apply Kd.S_drew)); exact HO430.out), (rr HO433), (rr HO_400000), (by (with_reducible repeat (first | apply Kd.S_alloc | apply Kd.S_drewN | apply Kd.S_drew)); exact Kd.S_mono HO_407001.out (fun _ hk => ⟨hk.1.2, hk.2⟩)), (rr HO_7), (by (with_reducible repeat first | refine bkN ?_ _ | refine bkD ?_ | refine bkA ?_ _); exact BK399.out), (by (with_reducible repeat first | refine bkN ?_ _ | refine bkD ?_ | refine bkA ?_ _); exact BK406.out), (by (with_reducible repeat first | refine bkN ?_ _ | refine bkD ?_ | refine bkA ?_ _); exact BK435.out), GW435.out, GE435.out, NB399_435.out, NB435_399.out, NB406_435.out, NB435_406.out, (be HB)⟩)
              rintro ⟨v429, v432, gb435⟩ w62 ⟨hS_, h0_, h1_, h2_, h3_, h4_, h5_, h6_, h7_, h8_, h9_, h10_, h11_, h12_, h13_, h14_⟩
              have n0_ : Aside0 (Kd.S k86 86 w62 w.heap.size (fun k_ => some k_ ≠ (v432 : Value).ownBlock ∧ some k_ ≠ (.slice Ao57 x407001_3.length co57 : Value).ownBlock) v429 t428) := ⟨h0_⟩
              have n1_ : Aside0 (Kd.R (Kd.int .i64) 3 w62 w.heap.size (fun _ => True) v432 t431) := ⟨h1_⟩
              have n2_ : Aside0 (Kd.R k95 95 w62 w.heap.size (fun _ => True) (.slice Ao10 t396.length co10) t396) := ⟨h2_⟩
              have n3_ : Aside0 (Kd.S k86 86 w62 w.heap.size (fun k_ => some k_ ≠ (v429 : Value).ownBlock ∧ some k_ ≠ (v432 : Value).ownBlock) (.slice Ao57 x407001_3.length co57) x407001_3) := ⟨h3_⟩
              have n4_ : Aside0 (Kd.R Kd.string 9 w62 w.heap.size (fun _ => True) (.slice (some ad426) y408.length co59) y408) := ⟨h4_⟩
              have n5_ : Aside0 (w62.heap[gb399]? = some (.cells #[.slice Ao10 t396.length co10] 26 (0, 0))) := ⟨h5_⟩
              have n6_ : Aside0 (w62.heap[gb406]? = some (.cells #[.int .i64 x407000_3, .slice Ao57 x407001_3.length co57] 31 (0, 0))) := ⟨h6_⟩
              have n7_ : Aside0 (w62.heap[gb435]? = some (.cells #[.int .i64 0, .slice none 0 0] 31 (0, 0))) := ⟨h7_⟩
              have n8_ : Aside0 (w.heap.size ≤ gb435) := ⟨h8_⟩
              have n9_ : Aside0 (w.heap.size ≤ gb435) := ⟨h9_⟩
              have n10_ : Aside0 (gb399 ≠ gb435) := ⟨h10_⟩
              have n11_ : Aside0 (gb435 ≠ gb399) := ⟨h11_⟩
              have n12_ : Aside0 (gb406 ≠ gb435) := ⟨h12_⟩
              have n13_ : Aside0 (gb435 ≠ gb406) := ⟨h13_⟩
              have n14_ : Aside0 (Below w.heap.size w w62) := ⟨h14_⟩
              clear HO_7; clear HO_400000; clear HO_407001; clear BK399; clear BK406; clear HB; clear h0_ h1_ h2_ h3_ h4_ h5_ h6_ h7_ h8_ h9_ h10_ h11_ h12_ h13_ h14_; have HO430 := n0_; have HO433 := n1_; have HO_400000 := n2_; have HO_407001 := n3_; have HO_7 := n4_; have BK399 := n5_; have BK406 := n6_; have BK435 := n7_; have GW435 := n8_; have GE435 := n9_; have NB399_435 := n10_; have NB435_399 := n11_; have NB406_435 := n12_; have NB435_406 := n13_; have HB := n14_; clear n0_ n1_ n2_ n3_ n4_ n5_ n6_ n7_ n8_ n9_ n10_ n11_ n12_ n13_ n14_; have hHeld : w62.cell? ⟨gb399, 0, none⟩ = some (.slice Ao10 t396.length co10) ∧ w62.cell? ⟨gb406, 0, none⟩ = some (.int .i64 x407000_3) ∧ w62.cell? ⟨gb406, 1, none⟩ = some (.slice Ao57 x407001_3.length co57) ∧ w62.cell? (ad426.add (x12_3).toNat) = some (.string (rdOf ByteArray.empty y408 x12_3)) := hS_
              obtain ⟨Ao64, co64, eo64⟩ := Kd.S_slice HO430.out
              (first | subst eo64 | (injection eo64 with f1_ f2_ f3_; have f4_ := f1_.symm; have f5_ := f3_.symm; clear f1_ f2_ f3_; subst f4_; subst f5_))
              refine norm_ (a' := ?_) ?_ ?_
              rotate_left
              ·simp only [putAll, putL]; rfl
              refine one_ (i := 12) (N := none) #[tt,tt,tt,tt,tt,tt,tt,tt,tt,tt,tt,tt,tt,ff,ff] rfl rfl (one_of HT_.out (by kernel_rfl)) (by decide) (fun K hK => ?_)
              have hs63 : w62.cell? ⟨gb435, 0, none⟩ = some (.int .i64 0) := bc BK435 0
              have hfs63 := blk_frozen BK435.out 0; have hns63_0 := NB399_435.out; have hns63_1 := NB406_435.out; have hms63_0 := NB435_399.out; have hms63_1 := NB435_406.out; have hs65 : w62.cell? ⟨gb435, 1, none⟩ = some (.slice none 0 0) := bc BK435 1
              have hfs65 := blk_frozen BK435.out 1; have hns65_0 := NB399_435.out; have hns65_1 := NB406_435.out; have hms65_0 := NB435_399.out; have hms65_1 := NB435_406.out; refine skip_ (w1 := ?_) (by rfl) rfl ?_ ?_
              rotate_left
              ·go_simp; rfl
              refine hK.out _ _ ⟨((cell_far (p := ⟨gb435, _, none⟩) NB399_435.out _).trans (((cell_far (p := ⟨gb435, _, none⟩) NB399_435.out _).trans (hHeld.1)))), ((cell_far (p := ⟨gb435, _, none⟩) NB406_435.out _).trans (((cell_far (p := ⟨gb435, _, none⟩) NB406_435.out _).trans (hHeld.2.1)))), ((cell_far (p := ⟨gb435, _, none⟩) NB406_435.out _).trans (((cell_far (p := ⟨gb435, _, none⟩) NB406_435.out _).trans (hHeld.2.2.1)))), ((cell_far (p := ⟨gb435, _, none⟩) (by first | exact Kd.own_blk (Kd.R_ne HO_7.out BK435.out (by decide)) | (rw [add_block]; exact Kd.own_blk (Kd.R_ne HO_7.out BK435.out (by decide))) | (show (Addr.add _ _).block ≠ _; rw [add_block]; exact Kd.own_blk (Kd.R_ne HO_7.out BK435.out (by decide))) | (dsimp only; exact Kd.own_blk (Kd.R_ne HO_7.out BK435.out (by decide)))) _).trans (((cell_far (p := ⟨gb435, _, none⟩) (by first | exact Kd.own_blk (Kd.R_ne HO_7.out BK435.out (by decide)) | (rw [add_block]; exact Kd.own_blk (Kd.R_ne HO_7.out BK435.out (by decide))) | (show (Addr.add _ _).block ≠ _; rw [add_block]; exact Kd.own_blk (Kd.R_ne HO_7.out BK435.out (by decide))) | (dsimp only; exact Kd.own_blk (Kd.R_ne HO_7.out BK435.out (by decide)))) _).trans (hHeld.2.2.2))))⟩ (fun hHeld => ?_)
              clear hK K; refine pure_ (i := 13) (N := some 14) (v := ?_) (a' := ?_) #[tt,tt,tt,tt,tt,tt,tt,tt,tt,tt,tt,tt,tt,tt,ff] rfl rfl (any_of HT_.out (by kernel_rfl)) (fun _ _ _ h => h) (Or.inl ⟨by rfl, ?_⟩) ?_ ?_
              rotate_left
              ·intro w'; go_simp; with_reducible rfl
              rotate_left
              ·simp only [putL, i64_w, i32_w]; rfl
              refine pu 14 15 (tb 15 32767) HT_ ?_
              refine done_ (done_of HT_.out (by kernel_rfl)) ?_
              have hnb66 := NB435_399.out; have hnc66 := NB399_435.out; have hnb67 := NB435_406.out; have hnc67 := NB406_435.out; obtain ⟨hcz68_0, hcz68_1⟩ := cs2 BK435; obtain ⟨hfz68_0, hfz68_1⟩ := fs2 BK435; have hnb69 := NB406_399.out; have hnc69 := NB399_406.out; obtain ⟨hcz70_0, hcz70_1⟩ := cs2 BK406; obtain ⟨hfz70_0, hfz70_1⟩ := fs2 BK406
              try go_wp2
              go_roundg k3
              case measure => have := HJ6.out; have := HK2.out; have := HK3.out; omega
              case rel => exact ⟨(wrap64 (x12_3 + 1)), (t427), (t428), (.slice Ao64 t428.length co64), (by first | rfl | (simp; done) | (simp [*]; done)), H', ⟨by have := HJ6.out; have := HK2.out; have := HK3.out; omega⟩, ⟨by (with_reducible repeat (first | apply Kd.R_alloc | apply Kd.R_drewN | apply Kd.R_drew)); exact Kd.R_mono (Kd.R_far (p := ⟨gb406, 1, none⟩) (Kd.R_far (p := ⟨gb406, 0, none⟩) (Kd.R_far (p := ⟨gb435, 1, none⟩) (Kd.R_far (p := ⟨gb435, 0, none⟩) (Kd.R_types (Kd.R_types HO_7.out BK435.out (by decide)) BK406.out (by decide)) (fun _ hk => hk.1.2) (.int .i64 t427)) (fun _ hk => hk.1.2) (.slice Ao64 t428.length co64)) (fun _ hk => hk.2) (.int .i64 t427)) (fun _ hk => hk.2) (.slice Ao64 t428.length co64)) (fun _ hk => trivial)⟩, ⟨by (with_reducible repeat (first | apply Kd.R_alloc | apply Kd.R_drewN | apply Kd.R_drew)); exact Kd.R_mono (Kd.R_far (p := ⟨gb406, 1, none⟩) (Kd.R_far (p := ⟨gb406, 0, none⟩) (Kd.R_far (p := ⟨gb435, 1, none⟩) (Kd.R_far (p := ⟨gb435, 0, none⟩) (Kd.R_types (Kd.R_types HO_400000.out BK435.out (by decide)) BK406.out (by decide)) (fun _ hk => hk.1.2) (.int .i64 t427)) (fun _ hk => hk.1.2) (.slice Ao64 t428.length co64)) (fun _ hk => hk.2) (.int .i64 t427)) (fun _ hk => hk.2) (.slice Ao64 t428.length co64)) (fun _ hk => trivial)⟩, ⟨by (with_reducible repeat (first | apply Kd.S_alloc | apply Kd.S_drewN | apply Kd.S_drew)); exact Kd.S_mono (Kd.S_far (p := ⟨gb406, 1, none⟩) (Kd.S_far (p := ⟨gb406, 0, none⟩) (Kd.S_far (p := ⟨gb435, 1, none⟩) (Kd.S_far (p := ⟨gb435, 0, none⟩) (Kd.S_types (Kd.S_types HO430.out BK435.out (by decide)) BK406.out (by decide)) (fun _ hk => hk.1.2) (.int .i64 t427)) (fun _ hk => hk.1.2) (.slice Ao64 t428.length co64)) (fun _ hk => hk.2) (.int .i64 t427)) (fun _ hk => hk.2) (.slice Ao64 t428.length co64)) (fun _ hk => trivial)⟩, ⟨by (with_reducible repeat first | refine bkN ?_ _ | refine bkD ?_ | refine bkA ?_ _ | refine blk_far ?_ NB399_406.out _); refine blk_far ?_ NB399_435.out _; (with_reducible repeat first | refine bkN ?_ _ | refine bkD ?_ | refine bkA ?_ _ | refine blk_far ?_ NB399_435.out _); exact BK399.out⟩, ⟨by (with_reducible repeat first | refine bkN ?_ _ | refine bkD ?_ | refine bkA ?_ _); refine blk_put (cs := #[.int .i64 t427, .slice Ao57 x407001_3.length co57]) ?_ 1 _ rfl; (with_reducible repeat first | refine bkN ?_ _ | refine bkD ?_ | refine bkA ?_ _); refine blk_put (cs := #[.int .i64 x407000_3, .slice Ao57 x407001_3.length co57]) ?_ 0 _ rfl; (with_reducible repeat first | refine bkN ?_ _ | refine bkD ?_ | refine bkA ?_ _ | refine blk_far ?_ NB406_435.out _); exact BK406.out⟩, ⟨by repeat (first | (with_reducible first | exact HB.out | apply below_alloc | apply pw_below_drewN | apply below_drew1 | refine below_set ?_ GE399.out | refine below_set ?_ GE406.out | refine below_set ?_ GE435.out) | exact HB.out)⟩⟩
             ·replace c56 := Bool.eq_false_iff.mpr c56
              subst c56
              have H1 : (none) = some r := by rw [if_neg (show ¬ (false = true) by decide)] at H; exact H
              clear H; have H := H1
              clear H1; exact absurd H (by simp)
            ·rw [if_neg c54] at H
             exact absurd H (by simp)
           ·rw [if_neg c53] at H
            exact absurd H (by simp)
          ·rw [if_neg c52] at H
           have c52b0 : decide (x12_3 < 8) = false := decide_eq_false c52
           clear c52
           by_cases c71 : 0 < (y408.length : Int)
           ·rw [if_pos c71] at H
            have c71b0 : decide (0 < (y408.length : Int)) = true := decide_eq_true c71
            have c71b1 : decide (0 < y408.length) = true := decide_eq_true (by omega)
            clear c71; replace H := Option.bind_eq_some_iff.mp H
            obtain ⟨⟨t437, t438, t441, t444⟩, A720, H⟩ := H
            replace H : (if t444 = true then (none) else (some ((x407001_3.length : Int) == (wrap64 (1 + (Int.tmod t400 5)))))) = some r := H
            have A72 := Aside0.mk A720
            clear A720
            by_cases c73 : t444 = true
            ·subst c73
             have H1 : (none) = some r := by rw [if_pos rfl] at H; exact H
             clear H; have H := H1
             clear H1; exact absurd H (by simp)
            ·replace c73 := Bool.eq_false_iff.mpr c73
             subst c73
             have H1 : (some ((x407001_3.length : Int) == (wrap64 (1 + (Int.tmod t400 5))))) = some r := by rw [if_neg (show ¬ (false = true) by decide)] at H; exact H
             clear H; have H := H1
             clear H1; obtain rfl := Option.some.inj H
             obtain ⟨Ao74, co74, eo74⟩ := Kd.S_slice HO_407001.out
             subst eo74
             try go_wp2
             have n0_ := Aside0.mk (Kd.R_drew HO_7.out)
             have n1_ := Aside0.mk (Kd.R_drew HO_400000.out)
             have n2_ := Aside0.mk (Kd.S_drew HO_407001.out)
             have n3_ := Aside0.mk (blk_drew BK399.out)
             have n4_ := Aside0.mk (blk_drew BK406.out)
             have n5_ := Aside0.mk (below_drew1 HB.out)
             clear HO_7 HO_400000 HO_407001 BK399 BK406 HB; have HO_7 := n0_; have HO_400000 := n1_; have HO_407001 := n2_; have BK399 := n3_; have BK406 := n4_; have HB := n5_; clear n0_ n1_ n2_ n3_ n4_ n5_; obtain ⟨Ao76, co76, eo76⟩ := Kd.R_slice HO_7.out
             (first | subst eo76 | (injection eo76 with f1_ f2_ f3_; have f4_ := f1_.symm; have f5_ := f3_.symm; clear f1_ f2_ f3_; subst f4_; subst f5_))
             have p436 : 0 ≤ (0 : Int) := (by omega)
             have q436 : 0 < (y408.length : Int) := of_decide_eq_true (by first | (with_reducible assumption) | assumption)
             obtain ⟨ad436, e436, hx436_0⟩ := Kd.at_string (Kd.R_reads' HO_7.out).2.2 0 p436 q436
             cases e436
             have qi436 : (0 < y408.length) = True := eq_true (by omega)
             (try rw [show ((0 : Int)).toNat = 0 from rfl] at hx436_0)
             (try rw [Addr.add_zero'] at hx436_0)
             replace p436 := eq_true p436
             replace q436 := eq_true q436
             refine start_ (n := 14) (S := fun w' => w'.cell? ⟨gb399, 0, none⟩ = some (.slice Ao10 t396.length co10) ∧ w'.cell? ⟨gb406, 0, none⟩ = some (.int .i64 x407000_3) ∧ w'.cell? ⟨gb406, 1, none⟩ = some (.slice Ao74 x407001_3.length co74) ∧ w'.cell? ad436 = some (.string (rdOf ByteArray.empty y408 0))) (ds := []) #[ff,ff,ff,ff,ff,ff,ff,ff,ff,ff,ff,ff,ff,ff] (by kernel_rfl) rfl rfl ⟨bc BK399 0, bc BK406 0, bc BK406 1, hx436_0⟩ (fun hHeld => ?_); refine with_tabW laws_FnLatest.tab23 laws_FnLatest.bits23 (fun HT_ HW_ => ?_)
             generalize wr.drew = w75 at HO_7 HO_400000 HO_407001 BK399 BK406 HB hx436_0 hHeld ⊢
             refine pu 2 92 (tb 14 4) HT_ ?_
             refine pu 3 93 (tb 14 12) HT_ ?_
             refine tk 0 90 (tb 14 13) rfl rfl HT_ HW_ hHeld (by rintro w' ⟨s0, s1, s2, s3⟩; go_simp; with_reducible rfl) ?_
             refine tk 1 91 (tb 14 15) rfl rfl HT_ HW_ hHeld (by rintro w' ⟨s0, s1, s2, s3⟩; go_simp; with_reducible rfl) ?_
             refine tk 4 94 (tb 14 31) rfl rfl HT_ HW_ hHeld (by rintro w' ⟨s0, s1, s2, s3⟩; go_simp; with_reducible rfl) ?_
             refine join_ (σ := Value × Value × Nat) 3 #[tt,tt,tt,tt,tt,tt,tt,tt,tt,tt,tt,ff,ff,ff] (fun s_ => [(95, .tuple #[.agg #[.int .i64 t437, s_.1], s_.2.1, .bool false]), (16, .pointer (some ⟨s_.2.2, 0, none⟩)), (89, .tuple #[.agg #[.int .i64 t437, s_.1], s_.2.1, .bool false]), (96, .agg #[.int .i64 t437, s_.1]), (97, s_.2.1), (98, .bool false)]) (fun s_ w' => (w'.cell? ⟨gb399, 0, none⟩ = some (.slice Ao10 t396.length co10) ∧ w'.cell? ⟨gb406, 0, none⟩ = some (.int .i64 x407000_3) ∧ w'.cell? ⟨gb406, 1, none⟩ = some (.slice Ao74 x407001_3.length co74) ∧ w'.cell? ad436 = some (.string (rdOf ByteArray.empty y408 0))) ∧ (Kd.S k86 86 w' w.heap.size (fun k_ => some k_ ≠ (s_.2.1 : Value).ownBlock ∧ some k_ ≠ (.slice Ao74 x407001_3.length co74 : Value).ownBlock) s_.1 t438) ∧ (Kd.R (Kd.int .i64) 3 w' w.heap.size (fun _ => True) s_.2.1 t441) ∧ (Kd.R k95 95 w' w.heap.size (fun _ => True) (.slice Ao10 t396.length co10) t396) ∧ (Kd.S k86 86 w' w.heap.size (fun k_ => some k_ ≠ (s_.1 : Value).ownBlock ∧ some k_ ≠ (s_.2.1 : Value).ownBlock) (.slice Ao74 x407001_3.length co74) x407001_3) ∧ (Kd.R Kd.string 9 w' w.heap.size (fun _ => True) (.slice (some ad436) y408.length co76) y408) ∧ (w'.heap[gb399]? = some (.cells #[.slice Ao10 t396.length co10] 26 (0, 0))) ∧ (w'.heap[gb406]? = some (.cells #[.int .i64 x407000_3, .slice Ao74 x407001_3.length co74] 31 (0, 0))) ∧ (w'.heap[s_.2.2]? = some (.cells #[.int .i64 0, .slice none 0 0] 31 (0, 0))) ∧ (w.heap.size ≤ s_.2.2) ∧ (w.heap.size ≤ s_.2.2) ∧ (gb399 ≠ s_.2.2) ∧ (s_.2.2 ≠ gb399) ∧ (gb406 ≠ s_.2.2) ∧ (s_.2.2 ≠ gb406) ∧ (Below w.heap.size w w')) ?_ ?_
             rotate_left
             ·intro hCont; refine two_ (i := 5) (j := 10) (Ni := some 95) (Nj := some 16) #[tt,tt,tt,tt,tt,tt,ff,ff,ff,ff,ff,ff,ff,ff] #[tt,tt,tt,tt,tt,ff,ff,ff,ff,ff,tt,ff,ff,ff] rfl rfl rfl rfl (two_of HT_.out (by kernel_rfl)) (by decide) (by decide) (fun K hK => ?_) (fun K hK => ?_)
              ·skip
               refine goes_ Try.func11 (by kernel_rfl) rfl #[.agg #[.slice Ao10 t396.length co10], .agg #[.int .i64 x407000_3, .slice Ao74 x407001_3.length co74], .string (rdOf ByteArray.empty y408 0)] (by rfl) rfl rfl (by (try simp only [List.map_toArray, List.map_cons, List.map_nil]); first | done | rfl | (simp only [List.length_drop, List.length_take]; rfl)) ?_
               with_reducible refine (impl_Recall.calls k3 _ _ t396 x407000_3 _ _ x407001_3 (rdOf ByteArray.empty y408 0) t437 t438 t441 false _ ?side1 ?side2 ?side3 ?side4 A72.out).mono ?_
               (case side1 => repeat (first | exact (Kd.R_reads' HO_400000.out).2.2 | (with_reducible refine Kd.C_alloc ?_ _) | (with_reducible refine Kd.C_drewN ?_ _) | (with_reducible refine Kd.C_drew ?_)))
               (case side2 => exact (Kd.R_reads' HO_400000.out).2.1)
               (case side3 => repeat (first | exact (Kd.S_reads' HO_407001.out).2.2 | (with_reducible refine Kd.C_alloc ?_ _) | (with_reducible refine Kd.C_drewN ?_ _) | (with_reducible refine Kd.C_drew ?_)))
               (case side4 => exact (Kd.S_reads' HO_407001.out).2.1)
               rintro e w77 ⟨v439, v442, rfl, ho0, ho1, hb⟩
               have HS3_ := (hb.cell (World.block_lt_of_cell? _ _ (hHeld.2.2.2))).trans (hHeld.2.2.2)
               refine ⟨_, rfl, ?_⟩
               have n2_ := Aside0.mk (Kd.S_mono (Kd.S_told (Kd.S_told (Kd.S_old (by (with_reducible repeat (first | apply Kd.S_alloc | apply Kd.S_drewN | apply Kd.S_drew)); exact HO_407001.out) hb) (Kd.S_base ho0)) (Kd.R_base ho1)) (fun _ h_ => h_.1))
               have HO440 := Aside0.mk (Kd.S_lower (Kd.S_new' ho0 (Kd.S_lt (by (with_reducible repeat (first | apply Kd.S_alloc | apply Kd.S_drewN | apply Kd.S_drew)); exact HO_407001.out))) (below_size (be HB)))
               have HO443 := Aside0.mk (Kd.R_lower ho1 (below_size (be HB)))
               replace HO_7 := Aside0.mk (Kd.R_below (rr HO_7) hb); replace HO_400000 := Aside0.mk (Kd.R_below (rr HO_400000) hb); replace BK399 := bq BK399 hb; replace BK406 := bq BK406 hb; replace HB := bh HB hb
               clear HO_407001; have HO_407001 := n2_; clear n2_; (try clear hb); (try clear hb2); (try clear hk); (try clear hi); (try clear ho0); (try clear ho1); refine hK.out _ _ ⟨bc BK399 0, bc BK406 0, bc BK406 1, HS3_⟩ (fun hHeld => ?_)
               clear hK K; refine norm_ (a' := ?_) ?_ ?_
               rotate_left
               ·show Act.put _ (some 95) _ = _
                simp only [putL, i64_w, i32_w]; rfl
               refine pu 6 89 (tb 14 127) HT_ ?_
               refine pu 7 96 (tb 14 255) HT_ ?_
               refine pu 8 97 (tb 14 511) HT_ ?_
               refine pu 9 98 (tb 14 1023) HT_ ?_
               refine one_ (i := 10) (N := some 16) #[tt,tt,tt,tt,tt,tt,tt,tt,tt,tt,tt,ff,ff,ff] rfl rfl (one_of HT_.out (by kernel_rfl)) (by decide) (fun K hK => ?_)
               refine box_step ?hg (N := 16) ?hd (cs := #[.int .i64 0, .slice none 0 0]) (t := 31) ?hr ?_; (case hd => rfl); (case hg => rfl); (case hr => first | (go_simp; done) | (go_simp; rfl))
               intro gb445 hg w78 hbox hb
               have HS3_ := (hb.cell (World.block_lt_of_cell? _ _ (hHeld.2.2.2))).trans (hHeld.2.2.2)
               have n2_ := Aside0.mk (Kd.S_below (by (with_reducible repeat (first | apply Kd.S_alloc | apply Kd.S_drewN | apply Kd.S_drew)); exact HO_407001.out) hb)
               have n3_ := Aside0.mk (Kd.S_below (by (with_reducible repeat (first | apply Kd.S_alloc | apply Kd.S_drewN | apply Kd.S_drew)); exact HO440.out) hb)
               have BK445 := Aside0.mk (hbox)
               have GW445 := bs HB hg; have GE445 := bs HB hg; have NB399_445 := bl BK399 hg; have NB445_399 := bg BK399 hg; have NB406_445 := bl BK406 hg; have NB445_406 := bg BK406 hg; replace HO_7 := Aside0.mk (Kd.R_below (rr HO_7) hb); replace HO_400000 := Aside0.mk (Kd.R_below (rr HO_400000) hb); replace HO443 := Aside0.mk (Kd.R_below (rr HO443) hb); replace BK399 := bq BK399 hb; replace BK406 := bq BK406 hb; replace HB := bh HB hb
               clear HO_407001 HO440; have HO_407001 := n2_; have HO440 := n3_; clear n2_ n3_; clear hb hbox hg; refine hK.out _ _ ⟨bc BK399 0, bc BK406 0, bc BK406 1, HS3_⟩ (fun hHeld => ?_)
               clear hK K; refine norm_ (a' := ?_) ?_ ?_
               rotate_left
               ·show Act.put _ (some 16) _ = _
                simp only [putL, i64_w, i32_w]; rfl
               exact norm_ (by simp only [putAll, putL]) (hCont (v439, v442, gb445) _ ⟨hHeld, (by (with_reducible repeat (first | apply Kd.S_alloc | apply Kd.S_drewN | apply Kd.S_drew)); exact HO440.out), (rr HO443), (rr HO_400000), (by (with_reducible repeat (first | apply Kd.S_alloc | apply Kd.S_drewN | apply Kd.S_drew)); exact Kd.S_mono HO_407001.out (fun _ hk => ⟨hk.1.2, hk.2⟩)), (rr HO_7), (by (with_reducible repeat first | refine bkN ?_ _ | refine bkD ?_ | refine bkA ?_ _); exact BK399.out), (by (with_reducible repeat first | refine bkN ?_ _ | refine bkD ?_ | refine bkA ?_ _); exact BK406.out), (by (with_reducible repeat first | refine bkN ?_ _ | refine bkD ?_ | refine bkA ?_ _); exact BK445.out), GW445.out, GE445.out, NB399_445.out, NB445_399.out, NB406_445.out, NB445_406.out, (be HB)⟩)
              ·skip
               refine box_step ?hg (N := 16) ?hd (cs := #[.int .i64 0, .slice none 0 0]) (t := 31) ?hr ?_; (case hd => rfl); (case hg => rfl); (case hr => first | (go_simp; done) | (go_simp; rfl))
               intro gb445 hg w77 hbox hb
               have HS3_ := (hb.cell (World.block_lt_of_cell? _ _ (hHeld.2.2.2))).trans (hHeld.2.2.2)
               have n2_ := Aside0.mk (Kd.S_below (by (with_reducible repeat (first | apply Kd.S_alloc | apply Kd.S_drewN | apply Kd.S_drew)); exact HO_407001.out) hb)
               have BK445 := Aside0.mk (hbox)
               have GW445 := bs HB hg; have GE445 := bs HB hg; have NB399_445 := bl BK399 hg; have NB445_399 := bg BK399 hg; have NB406_445 := bl BK406 hg; have NB445_406 := bg BK406 hg; replace HO_7 := Aside0.mk (Kd.R_below (rr HO_7) hb); replace HO_400000 := Aside0.mk (Kd.R_below (rr HO_400000) hb); replace BK399 := bq BK399 hb; replace BK406 := bq BK406 hb; replace HB := bh HB hb
               clear HO_407001; have HO_407001 := n2_; clear n2_; clear hb hbox hg; refine hK.out _ _ ⟨bc BK399 0, bc BK406 0, bc BK406 1, HS3_⟩ (fun hHeld => ?_)
               clear hK K; refine norm_ (a' := ?_) ?_ ?_
               rotate_left
               ·show Act.put _ (some 16) _ = _
                simp only [putL, i64_w, i32_w]; rfl
               refine one_ (i := 5) (N := some 95) #[tt,tt,tt,tt,tt,tt,ff,ff,ff,ff,tt,ff,ff,ff] rfl rfl (one_of HT_.out (by kernel_rfl)) (by decide) (fun K hK => ?_)
               refine goes_ Try.func11 (by kernel_rfl) rfl #[.agg #[.slice Ao10 t396.length co10], .agg #[.int .i64 x407000_3, .slice Ao74 x407001_3.length co74], .string (rdOf ByteArray.empty y408 0)] (by rfl) rfl rfl (by (try simp only [List.map_toArray, List.map_cons, List.map_nil]); first | done | rfl | (simp only [List.length_drop, List.length_take]; rfl)) ?_
               with_reducible refine (impl_Recall.calls k3 _ _ t396 x407000_3 _ _ x407001_3 (rdOf ByteArray.empty y408 0) t437 t438 t441 false _ ?side1 ?side2 ?side3 ?side4 A72.out).mono ?_
               (case side1 => repeat (first | exact (Kd.R_reads' HO_400000.out).2.2 | (with_reducible refine Kd.C_alloc ?_ _) | (with_reducible refine Kd.C_drewN ?_ _) | (with_reducible refine Kd.C_drew ?_)))
               (case side2 => exact (Kd.R_reads' HO_400000.out).2.1)
               (case side3 => repeat (first | exact (Kd.S_reads' HO_407001.out).2.2 | (with_reducible refine Kd.C_alloc ?_ _) | (with_reducible refine Kd.C_drewN ?_ _) | (with_reducible refine Kd.C_drew ?_)))
               (case side4 => exact (Kd.S_reads' HO_407001.out).2.1)
               rintro e w78 ⟨v439, v442, rfl, ho0, ho1, hb⟩
               have HS3_ := (hb.cell (World.block_lt_of_cell? _ _ (hHeld.2.2.2))).trans (hHeld.2.2.2)
               refine ⟨_, rfl, ?_⟩
               have n2_ := Aside0.mk (Kd.S_mono (Kd.S_told (Kd.S_told (Kd.S_old (by (with_reducible repeat (first | apply Kd.S_alloc | apply Kd.S_drewN | apply Kd.S_drew)); exact HO_407001.out) hb) (Kd.S_base ho0)) (Kd.R_base ho1)) (fun _ h_ => h_.1))
               have HO440 := Aside0.mk (Kd.S_lower (Kd.S_new' ho0 (Kd.S_lt (by (with_reducible repeat (first | apply Kd.S_alloc | apply Kd.S_drewN | apply Kd.S_drew)); exact HO_407001.out))) (below_size (be HB)))
               have HO443 := Aside0.mk (Kd.R_lower ho1 (below_size (be HB)))
               replace HO_7 := Aside0.mk (Kd.R_below (rr HO_7) hb); replace HO_400000 := Aside0.mk (Kd.R_below (rr HO_400000) hb); replace BK399 := bq BK399 hb; replace BK406 := bq BK406 hb; replace BK445 := bq BK445 hb; replace HB := bh HB hb
               clear HO_407001; have HO_407001 := n2_; clear n2_; (try clear hb); (try clear hb2); (try clear hk); (try clear hi); (try clear ho0); (try clear ho1); refine hK.out _ _ ⟨bc BK399 0, bc BK406 0, bc BK406 1, HS3_⟩ (fun hHeld => ?_)
               clear hK K; refine norm_ (a' := ?_) ?_ ?_
               rotate_left
               ·show Act.put _ (some 95) _ = _
                simp only [putL, i64_w, i32_w]; rfl
               refine pu 6 89 (tb 14 1151) HT_ ?_
               refine pu 7 96 (tb 14 1279) HT_ ?_
               refine pu 8 97 (tb 14 1535) HT_ ?_
               refine pu 9 98 (tb 14 2047) HT_ ?_
               exact norm_ (by simp only [putAll, putL]) (hCont (v439, v442, gb445) _ ⟨hHeld, (by (with_reducible repeat (first | apply Kd.S_alloc | apply Kd.S_drewN | apply Kd.S_drew)); exact HO440.out), (rr HO443), (rr HO_400000), (by (with_reducible repeat (first | apply Kd.S_alloc | apply Kd.S_drewN | apply Kd.S_drew)); exact Kd.S_mono HO_407001.out (fun _ hk => ⟨hk.1.2, hk.2⟩)), (rr HO_7), (by (with_reducible repeat first | refine bkN ?_ _ | refine bkD ?_ | refine bkA ?_ _); exact BK399.out), (by (with_reducible repeat first | refine bkN ?_ _ | refine bkD ?_ | refine bkA ?_ _); exact BK406.out), (by (with_reducible repeat first | refine bkN ?_ _ | refine bkD ?_ | refine bkA ?_ _); exact BK445.out), GW445.out, GE445.out, NB399_445.out, NB445_399.out, NB406_445.out, NB445_406.out, (be HB)⟩)
             rintro ⟨v439, v442, gb445⟩ w79 ⟨hS_, h0_, h1_, h2_, h3_, h4_, h5_, h6_, h7_, h8_, h9_, h10_, h11_, h12_, h13_, h14_⟩
             have n0_ : Aside0 (Kd.S k86 86 w79 w.heap.size (fun k_ => some k_ ≠ (v442 : Value).ownBlock ∧ some k_ ≠ (.slice Ao74 x407001_3.length co74 : Value).ownBlock) v439 t438) := ⟨h0_⟩
             have n1_ : Aside0 (Kd.R (Kd.int .i64) 3 w79 w.heap.size (fun _ => True) v442 t441) := ⟨h1_⟩
             have n2_ : Aside0 (Kd.R k95 95 w79 w.heap.size (fun _ => True) (.slice Ao10 t396.length co10) t396) := ⟨h2_⟩
             have n3_ : Aside0 (Kd.S k86 86 w79 w.heap.size (fun k_ => some k_ ≠ (v439 : Value).ownBlock ∧ some k_ ≠ (v442 : Value).ownBlock) (.slice Ao74 x407001_3.length co74) x407001_3) := ⟨h3_⟩
             have n4_ : Aside0 (Kd.R Kd.string 9 w79 w.heap.size (fun _ => True) (.slice (some ad436) y408.length co76) y408) := ⟨h4_⟩
             have n5_ : Aside0 (w79.heap[gb399]? = some (.cells #[.slice Ao10 t396.length co10] 26 (0, 0))) := ⟨h5_⟩
             have n6_ : Aside0 (w79.heap[gb406]? = some (.cells #[.int .i64 x407000_3, .slice Ao74 x407001_3.length co74] 31 (0, 0))) := ⟨h6_⟩
             have n7_ : Aside0 (w79.heap[gb445]? = some (.cells #[.int .i64 0, .slice none 0 0] 31 (0, 0))) := ⟨h7_⟩
             have n8_ : Aside0 (w.heap.size ≤ gb445) := ⟨h8_⟩
             have n9_ : Aside0 (w.heap.size ≤ gb445) := ⟨h9_⟩
             have n10_ : Aside0 (gb399 ≠ gb445) := ⟨h10_⟩
             have n11_ : Aside0 (gb445 ≠ gb399) := ⟨h11_⟩
             have n12_ : Aside0 (gb406 ≠ gb445) := ⟨h12_⟩
             have n13_ : Aside0 (gb445 ≠ gb406) := ⟨h13_⟩
             have n14_ : Aside0 (Below w.heap.size w w79) := ⟨h14_⟩
             clear HO_7; clear HO_400000; clear HO_407001; clear BK399; clear BK406; clear HB; clear h0_ h1_ h2_ h3_ h4_ h5_ h6_ h7_ h8_ h9_ h10_ h11_ h12_ h13_ h14_; have HO440 := n0_; have HO443 := n1_; have HO_400000 := n2_; have HO_407001 := n3_; have HO_7 := n4_; have BK399 := n5_; have BK406 := n6_; have BK445 := n7_; have GW445 := n8_; have GE445 := n9_; have NB399_445 := n10_; have NB445_399 := n11_; have NB406_445 := n12_; have NB445_406 := n13_; have HB := n14_; clear n0_ n1_ n2_ n3_ n4_ n5_ n6_ n7_ n8_ n9_ n10_ n11_ n12_ n13_ n14_; have hHeld : w79.cell? ⟨gb399, 0, none⟩ = some (.slice Ao10 t396.length co10) ∧ w79.cell? ⟨gb406, 0, none⟩ = some (.int .i64 x407000_3) ∧ w79.cell? ⟨gb406, 1, none⟩ = some (.slice Ao74 x407001_3.length co74) ∧ w79.cell? ad436 = some (.string (rdOf ByteArray.empty y408 0)) := hS_
             obtain ⟨Ao81, co81, eo81⟩ := Kd.S_slice HO440.out
             (first | subst eo81 | (injection eo81 with f1_ f2_ f3_; have f4_ := f1_.symm; have f5_ := f3_.symm; clear f1_ f2_ f3_; subst f4_; subst f5_))
             refine norm_ (a' := ?_) ?_ ?_
             rotate_left
             ·simp only [putAll, putL]; rfl
             refine one_ (i := 11) (N := none) #[tt,tt,tt,tt,tt,tt,tt,tt,tt,tt,tt,tt,ff,ff] rfl rfl (one_of HT_.out (by kernel_rfl)) (by decide) (fun K hK => ?_)
             have hs80 : w79.cell? ⟨gb445, 0, none⟩ = some (.int .i64 0) := bc BK445 0
             have hfs80 := blk_frozen BK445.out 0; have hns80_0 := NB399_445.out; have hns80_1 := NB406_445.out; have hms80_0 := NB445_399.out; have hms80_1 := NB445_406.out; have hs82 : w79.cell? ⟨gb445, 1, none⟩ = some (.slice none 0 0) := bc BK445 1
             have hfs82 := blk_frozen BK445.out 1; have hns82_0 := NB399_445.out; have hns82_1 := NB406_445.out; have hms82_0 := NB445_399.out; have hms82_1 := NB445_406.out; refine skip_ (w1 := ?_) (by rfl) rfl ?_ ?_
             rotate_left
             ·go_simp; rfl
             refine hK.out _ _ ⟨((cell_far (p := ⟨gb445, _, none⟩) NB399_445.out _).trans (((cell_far (p := ⟨gb445, _, none⟩) NB399_445.out _).trans (hHeld.1)))), ((cell_far (p := ⟨gb445, _, none⟩) NB406_445.out _).trans (((cell_far (p := ⟨gb445, _, none⟩) NB406_445.out _).trans (hHeld.2.1)))), ((cell_far (p := ⟨gb445, _, none⟩) NB406_445.out _).trans (((cell_far (p := ⟨gb445, _, none⟩) NB406_445.out _).trans (hHeld.2.2.1)))), ((cell_far (p := ⟨gb445, _, none⟩) (by first | exact Kd.own_blk (Kd.R_ne HO_7.out BK445.out (by decide)) | (rw [add_block]; exact Kd.own_blk (Kd.R_ne HO_7.out BK445.out (by decide))) | (show (Addr.add _ _).block ≠ _; rw [add_block]; exact Kd.own_blk (Kd.R_ne HO_7.out BK445.out (by decide))) | (dsimp only; exact Kd.own_blk (Kd.R_ne HO_7.out BK445.out (by decide)))) _).trans (((cell_far (p := ⟨gb445, _, none⟩) (by first | exact Kd.own_blk (Kd.R_ne HO_7.out BK445.out (by decide)) | (rw [add_block]; exact Kd.own_blk (Kd.R_ne HO_7.out BK445.out (by decide))) | (show (Addr.add _ _).block ≠ _; rw [add_block]; exact Kd.own_blk (Kd.R_ne HO_7.out BK445.out (by decide))) | (dsimp only; exact Kd.own_blk (Kd.R_ne HO_7.out BK445.out (by decide)))) _).trans (hHeld.2.2.2))))⟩ (fun hHeld => ?_)
             clear hK K; refine pure_ (i := 12) (N := some 17) (v := ?_) (a' := ?_) #[tt,tt,tt,tt,tt,tt,tt,tt,tt,tt,tt,tt,tt,ff] rfl rfl (any_of HT_.out (by kernel_rfl)) (fun _ _ _ h => h) (Or.inl ⟨by rfl, ?_⟩) ?_ ?_
             rotate_left
             ·intro w'; go_simp; with_reducible rfl
             rotate_left
             ·simp only [putL, i64_w, i32_w]; rfl
             refine pu 13 18 (tb 14 16383) HT_ ?_
             refine done_ (done_of HT_.out (by kernel_rfl)) ?_
             have hnb83 := NB406_399.out; have hnc83 := NB399_406.out; have hnb84 := NB406_445.out; have hnc84 := NB445_406.out; obtain ⟨hcz85_0, hcz85_1⟩ := cs2 BK406; obtain ⟨hfz85_0, hfz85_1⟩ := fs2 BK406
             try go_wp2
             go_ret
             exact ⟨by first | rfl | (simp [errW_none, errW_some] <;> rfl) | (simp [*, errW_none, errW_some] <;> rfl), by repeat (first | (with_reducible first | exact HB.out | apply below_alloc | apply pw_below_drewN | apply below_drew1 | refine below_set ?_ GE399.out | refine below_set ?_ GE406.out | refine below_set ?_ GE445.out) | exact HB.out)⟩
           ·rw [if_neg c71] at H
            exact absurd H (by simp)

/-- THE ONE PURE STATEMENT of laws_FnLatest. -/
def laws_FnLatest.Pure : Prop := ∀ (l0 : List Int), (l0.length ≤ 9223372036854775807 ∧ ∀ y ∈ l0, (Lit.int .u8 y).wf = true) → ∃ k, laws_FnLatest.f k l0 = some true

end Go.Proofs.Ytddebnchbbmbkaa.PFnLatest
