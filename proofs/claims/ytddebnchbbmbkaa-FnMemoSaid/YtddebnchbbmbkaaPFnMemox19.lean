-- The machine side of a law: written by a program of this session (wip/tools), a turned print.
import Derived.Test.YtddebnchbbmbkaaPFnMemox0
import Derived.Test.YtddebnchbbmbkaaPFnMemox2
namespace Go.Proofs.Ytddebnchbbmbkaa.PFnMemo
open Go.RowKit Go.Proofs.YtddebnchbbmbkaaW.PrintWords Go.Proofs.YtddebnchbbmbkaaW.PrintLast Go.Proofs.YtddebnchbbmbkaaW.PrintMore
attribute [local go_sem] max2_int min2_int max_two min_two max_three min_three max_four min_four   -- for this text's walks alone
set_option linter.unusedVariables false
set_option linter.unusedSimpArgs false
mutual
def spec_Class.j0 : Nat → Int → Bool → Option (Int)
 | 0, _, _ => none
 | k + 1, x0, x7 => if x7 = true then (some 1) else (if x0 ≥ 48 then (spec_Class.j1 k x0 (decide (x0 ≤ 57))) else (spec_Class.j1 k x0 false))
def spec_Class.j1 : Nat → Int → Bool → Option (Int)
 | 0, _, _ => none
 | k + 1, x0, x26 => if x26 = true then (some 2) else (if x0 = 9 then (some 3) else (if x0 = 10 then (some 3) else (if x0 = 13 then (some 3) else (if x0 = 32 then (some 3) else (some 4)))))
end
def spec_Class.f (k : Nat) (a0 : Int) : Option (Int) := (spec_l1In.f a0 0 255).bind fun t528 => (if t528 = true then (if a0 ≥ 97 then (if a0 ≤ 122 then (spec_Class.j0 k a0 true) else (if a0 ≥ 65 then (if a0 ≤ 90 then (spec_Class.j0 k a0 true) else (spec_Class.j0 k a0 (decide (a0 ≥ 128)))) else (spec_Class.j0 k a0 (decide (a0 ≥ 128))))) else (if a0 ≥ 65 then (if a0 ≤ 90 then (spec_Class.j0 k a0 true) else (spec_Class.j0 k a0 (decide (a0 ≥ 128)))) else (spec_Class.j0 k a0 (decide (a0 ≥ 128))))) else (some 0))
theorem spec_Class.mono_l : ∀ k, (∀ y0 y1, LeO (spec_Class.j0 k y0 y1) (spec_Class.j0 (k + 1) y0 y1)) ∧ (∀ y0 y1, LeO (spec_Class.j1 k y0 y1) (spec_Class.j1 (k + 1) y0 y1))
 | 0 => ⟨fun _ _ r h => by simp [spec_Class.j0] at h, fun _ _ r h => by simp [spec_Class.j1] at h⟩
 | k + 1 => by
  obtain ⟨ih0, ih1⟩ := spec_Class.mono_l k
  refine ⟨?_, ?_⟩
  ·intro y0 y1
   unfold spec_Class.j0
   repeat' first
   | (with_reducible exact ih0 _ _)
   | (with_reducible exact ih1 _ _)
   | (with_reducible exact LeO.refl _)
   | (with_reducible exact LeO.none _)
   | (with_reducible refine LeO.ite ?_ ?_)
   | (with_reducible refine LeO.bind ?_ (fun _ => ?_))
   | exact ih0 _ _
   | exact ih1 _ _
   | exact LeO.none _
   | refine LeO.ite ?_ ?_
   | refine LeO.bind ?_ (fun _ => ?_)
  ·intro y0 y1
   unfold spec_Class.j1
   repeat' first
   | (with_reducible exact ih0 _ _)
   | (with_reducible exact ih1 _ _)
   | (with_reducible exact LeO.refl _)
   | (with_reducible exact LeO.none _)
   | (with_reducible refine LeO.ite ?_ ?_)
   | (with_reducible refine LeO.bind ?_ (fun _ => ?_))
   | exact ih0 _ _
   | exact ih1 _ _
   | exact LeO.none _
   | refine LeO.ite ?_ ?_
   | refine LeO.bind ?_ (fun _ => ?_)
theorem spec_Class.mono : ∀ a0 k, LeO (spec_Class.f k a0) (spec_Class.f (k + 1) a0) := by
 intro a0 k
 obtain ⟨ih0, ih1⟩ := spec_Class.mono_l k
 unfold spec_Class.f
 repeat' first
   | (with_reducible exact ih0 _ _)
   | (with_reducible exact ih1 _ _)
   | (with_reducible exact LeO.refl _)
   | (with_reducible exact LeO.none _)
   | (with_reducible refine LeO.ite ?_ ?_)
   | (with_reducible refine LeO.bind ?_ (fun _ => ?_))
   | exact ih0 _ _
   | exact ih1 _ _
   | exact LeO.none _
   | refine LeO.ite ?_ ?_
   | refine LeO.bind ?_ (fun _ => ?_)
set_option maxHeartbeats 8000000 in
set_option maxRecDepth 100000 in
theorem spec_Class.calls (k : Nat) (a0 : Int) (r : Int) (w : World) (h : spec_Class.f k a0 = some r) :
  Calls Try.prog 93 #[.int .i64 a0] w fun e w' => e = .returned (.int .i64 r) ∧ Drawn0 w w' := by
 have H : ((spec_l1In.f a0 0 255).bind fun t528 => (if t528 = true then (if a0 ≥ 97 then (if a0 ≤ 122 then (spec_Class.j0 k a0 true) else (if a0 ≥ 65 then (if a0 ≤ 90 then (spec_Class.j0 k a0 true) else (spec_Class.j0 k a0 (decide (a0 ≥ 128)))) else (spec_Class.j0 k a0 (decide (a0 ≥ 128))))) else (if a0 ≥ 65 then (if a0 ≤ 90 then (spec_Class.j0 k a0 true) else (spec_Class.j0 k a0 (decide (a0 ≥ 128)))) else (spec_Class.j0 k a0 (decide (a0 ≥ 128))))) else (some 0))) = some r := h
 clear h; replace H := Option.bind_eq_some_iff.mp H
 obtain ⟨t528, A20, H⟩ := H
 replace H : (if t528 = true then (if a0 ≥ 97 then (if a0 ≤ 122 then (spec_Class.j0 k a0 true) else (if a0 ≥ 65 then (if a0 ≤ 90 then (spec_Class.j0 k a0 true) else (spec_Class.j0 k a0 (decide (a0 ≥ 128)))) else (spec_Class.j0 k a0 (decide (a0 ≥ 128))))) else (if a0 ≥ 65 then (if a0 ≤ 90 then (spec_Class.j0 k a0 true) else (spec_Class.j0 k a0 (decide (a0 ≥ 128)))) else (spec_Class.j0 k a0 (decide (a0 ≥ 128))))) else (some 0)) = some r := H
 have A2 := Aside0.mk A20
 clear A20
 by_cases c3 : t528 = true
 ·subst c3
  have H1 : (if a0 ≥ 97 then (if a0 ≤ 122 then (spec_Class.j0 k a0 true) else (if a0 ≥ 65 then (if a0 ≤ 90 then (spec_Class.j0 k a0 true) else (spec_Class.j0 k a0 (decide (a0 ≥ 128)))) else (spec_Class.j0 k a0 (decide (a0 ≥ 128))))) else (if a0 ≥ 65 then (if a0 ≤ 90 then (spec_Class.j0 k a0 true) else (spec_Class.j0 k a0 (decide (a0 ≥ 128)))) else (spec_Class.j0 k a0 (decide (a0 ≥ 128))))) = some r := by rw [if_pos rfl] at H; exact H
  clear H; have H := H1
  clear H1; have HC4 := Aside0.mk H
  clear H
  go_enter Try.func93, Try.ntmps93
  go_upto_region 3 with (first | ((with_reducible refine gate_callee (f := 43) rfl ?_); refine goesC_ (some 5) Try.func43 #[.int .i64 a0, .int .i64 0, .int .i64 255] ?_; (with_reducible refine (spec_l1In.calls a0 0 255 true _ A2.out).mono ?_); rintro e w' ⟨rfl, ⟨nd, rfl⟩⟩; refine ⟨_, rfl, ?_⟩))
  (try simp only [putL])
  go_cut [7] (fun v7 wc => ∃ (kq : Nat) (x7_3 : Bool), v7 = .bool x7_3 ∧ Aside0 (spec_Class.j0 kq a0 x7_3 = some r) ∧ Aside0 (kq ≤ k) ∧ Drawn0 w wc)
  case first =>
   have H := HC4.out; clear HC4
   by_cases c5 : a0 ≥ 97
   ·rw [if_pos c5] at H
    have c5b0 : decide (97 ≤ a0) = true := decide_eq_true c5
    clear c5
    (first | rw [c5b0] | (simp only [i64_w, i32_w]; rw [c5b0]) | skip)
    by_cases c6 : a0 ≤ 122
    ·rw [if_pos c6] at H
     have c6b0 : decide (a0 ≤ 122) = true := decide_eq_true c6
     clear c6; have H' := Aside0.mk H
     clear H
     go_wp2
     go_meet
     case rel => exact ⟨_, (true), sR, H', ⟨by first | omega | exact Nat.le_refl _⟩, by repeat (first | exact Drawn0.refl _ | apply Drawn0.step)⟩
    ·rw [if_neg c6] at H
     have c6b0 : decide (a0 ≤ 122) = false := decide_eq_false c6
     clear c6
     by_cases c7 : a0 ≥ 65
     ·rw [if_pos c7] at H
      have c7b0 : decide (65 ≤ a0) = true := decide_eq_true c7
      clear c7
      by_cases c8 : a0 ≤ 90
      ·rw [if_pos c8] at H
       have c8b0 : decide (a0 ≤ 90) = true := decide_eq_true c8
       clear c8; have H' := Aside0.mk H
       clear H
       go_wp2
       go_meet
       case rel => exact ⟨_, (true), sR, H', ⟨by first | omega | exact Nat.le_refl _⟩, by repeat (first | exact Drawn0.refl _ | apply Drawn0.step)⟩
      ·rw [if_neg c8] at H
       have c8b0 : decide (a0 ≤ 90) = false := decide_eq_false c8
       clear c8; have H' := Aside0.mk H
       clear H
       go_wp2
       go_meet
       case rel => exact ⟨_, (decide (a0 ≥ 128)), sR, H', ⟨by first | omega | exact Nat.le_refl _⟩, by repeat (first | exact Drawn0.refl _ | apply Drawn0.step)⟩
     ·rw [if_neg c7] at H
      have c7b0 : decide (65 ≤ a0) = false := decide_eq_false c7
      clear c7; have H' := Aside0.mk H
      clear H
      go_wp2
      go_meet
      case rel => exact ⟨_, (decide (a0 ≥ 128)), sR, H', ⟨by first | omega | exact Nat.le_refl _⟩, by repeat (first | exact Drawn0.refl _ | apply Drawn0.step)⟩
   ·rw [if_neg c5] at H
    have c5b0 : decide (97 ≤ a0) = false := decide_eq_false c5
    clear c5
    (first | rw [c5b0] | (simp only [i64_w, i32_w]; rw [c5b0]) | skip)
    by_cases c9 : a0 ≥ 65
    ·rw [if_pos c9] at H
     have c9b0 : decide (65 ≤ a0) = true := decide_eq_true c9
     clear c9
     by_cases c10 : a0 ≤ 90
     ·rw [if_pos c10] at H
      have c10b0 : decide (a0 ≤ 90) = true := decide_eq_true c10
      clear c10; have H' := Aside0.mk H
      clear H
      go_wp2
      go_meet
      case rel => exact ⟨_, (true), sR, H', ⟨by first | omega | exact Nat.le_refl _⟩, by repeat (first | exact Drawn0.refl _ | apply Drawn0.step)⟩
     ·rw [if_neg c10] at H
      have c10b0 : decide (a0 ≤ 90) = false := decide_eq_false c10
      clear c10; have H' := Aside0.mk H
      clear H
      go_wp2
      go_meet
      case rel => exact ⟨_, (decide (a0 ≥ 128)), sR, H', ⟨by first | omega | exact Nat.le_refl _⟩, by repeat (first | exact Drawn0.refl _ | apply Drawn0.step)⟩
    ·rw [if_neg c9] at H
     have c9b0 : decide (65 ≤ a0) = false := decide_eq_false c9
     clear c9; have H' := Aside0.mk H
     clear H
     go_wp2
     go_meet
     case rel => exact ⟨_, (decide (a0 ≥ 128)), sR, H', ⟨by first | omega | exact Nat.le_refl _⟩, by repeat (first | exact Drawn0.refl _ | apply Drawn0.step)⟩
  case rest =>
   clear HC4; obtain ⟨kq, x7_3, rfl, HA, HJ3, ⟨mc3, rfl⟩⟩ := hcut
   cases kq with
   | zero => exact absurd HA.out (by simp [spec_Class.j0])
   | succ kj3 =>
    have H := HA.out; clear HA; simp only [spec_Class.j0] at H
    by_cases c11 : x7_3 = true
    ·subst c11
     have H1 : (some 1) = some r := by rw [if_pos rfl] at H; exact H
     clear H; have H := H1
     clear H1; obtain rfl := Option.some.inj H
     go_wp2
     go_ret
     exact ⟨by first | rfl | (simp; done) | (simp [*]; done), by repeat (first | exact Drawn0.refl _ | apply Drawn0.step)⟩
    ·replace c11 := Bool.eq_false_iff.mpr c11
     subst c11
     have H1 : (if a0 ≥ 48 then (spec_Class.j1 kj3 a0 (decide (a0 ≤ 57))) else (spec_Class.j1 kj3 a0 false)) = some r := by rw [if_neg (show ¬ (false = true) by decide)] at H; exact H
     clear H; have H := H1
     clear H1; have HC12 := Aside0.mk H
     clear H
     go_upto_region 5 with (fail)
     go_cut [26] (fun v26 wc => ∃ (kq : Nat) (a9a : Bool), v26 = .bool a9a ∧ Aside0 (spec_Class.j1 kq a0 a9a = some r) ∧ Aside0 (kq ≤ kj3) ∧ Drawn0 w wc)
     case first =>
      have H := HC12.out; clear HC12
      by_cases c13 : a0 ≥ 48
      ·rw [if_pos c13] at H
       have c13b0 : decide (48 ≤ a0) = true := decide_eq_true c13
       clear c13
       (first | rw [c13b0] | (simp only [i64_w, i32_w]; rw [c13b0]) | skip)
       have H' := Aside0.mk H
       clear H
       go_wp2
       go_meet
       case rel => exact ⟨_, (decide (a0 ≤ 57)), sR, H', ⟨by have := HJ3.out; first | omega | exact Nat.le_refl _⟩, by repeat (first | exact Drawn0.refl _ | apply Drawn0.step)⟩
      ·rw [if_neg c13] at H
       have c13b0 : decide (48 ≤ a0) = false := decide_eq_false c13
       clear c13
       (first | rw [c13b0] | (simp only [i64_w, i32_w]; rw [c13b0]) | skip)
       have H' := Aside0.mk H
       clear H
       go_wp2
       go_meet
       case rel => exact ⟨_, (false), sR, H', ⟨by have := HJ3.out; first | omega | exact Nat.le_refl _⟩, by repeat (first | exact Drawn0.refl _ | apply Drawn0.step)⟩
     case rest =>
      clear HC12; obtain ⟨kq, a9a, rfl, HA, HJ11, ⟨mc11, rfl⟩⟩ := hcut
      cases kq with
      | zero => exact absurd HA.out (by simp [spec_Class.j1])
      | succ kj11 =>
       have H := HA.out; clear HA; simp only [spec_Class.j1] at H
       by_cases c14 : a9a = true
       ·subst c14
        have H1 : (some 2) = some r := by rw [if_pos rfl] at H; exact H
        clear H; have H := H1
        clear H1; obtain rfl := Option.some.inj H
        go_wp2
        go_ret
        exact ⟨by first | rfl | (simp; done) | (simp [*]; done), by repeat (first | exact Drawn0.refl _ | apply Drawn0.step)⟩
       ·replace c14 := Bool.eq_false_iff.mpr c14
        subst c14
        have H1 : (if a0 = 9 then (some 3) else (if a0 = 10 then (some 3) else (if a0 = 13 then (some 3) else (if a0 = 32 then (some 3) else (some 4))))) = some r := by rw [if_neg (show ¬ (false = true) by decide)] at H; exact H
        clear H; have H := H1
        clear H1
        by_cases c15 : a0 = 9
        ·rw [if_pos c15] at H
         have c15b0 : (a0 == 9) = true := beq_iff_eq.mpr c15
         have c15b1 : (a0 != 9) = false := bne_eq_false_iff_eq.mpr c15
         clear c15; obtain rfl := Option.some.inj H
         go_wp2
         go_ret
         exact ⟨by first | rfl | (simp; done) | (simp [*]; done), by repeat (first | exact Drawn0.refl _ | apply Drawn0.step)⟩
        ·rw [if_neg c15] at H
         have c15b0 : (a0 == 9) = false := beq_eq_false_iff_ne.mpr c15
         have c15b1 : (a0 != 9) = true := bne_iff_ne.mpr c15
         by_cases c16 : a0 = 10
         ·rw [if_pos c16] at H
          have c16b0 : (a0 == 10) = true := beq_iff_eq.mpr c16
          have c16b1 : (a0 != 10) = false := bne_eq_false_iff_eq.mpr c16
          clear c16; obtain rfl := Option.some.inj H
          go_wp2
          go_ret
          exact ⟨by first | rfl | (simp; done) | (simp [*]; done), by repeat (first | exact Drawn0.refl _ | apply Drawn0.step)⟩
         ·rw [if_neg c16] at H
          have c16b0 : (a0 == 10) = false := beq_eq_false_iff_ne.mpr c16
          have c16b1 : (a0 != 10) = true := bne_iff_ne.mpr c16
          by_cases c17 : a0 = 13
          ·rw [if_pos c17] at H
           have c17b0 : (a0 == 13) = true := beq_iff_eq.mpr c17
           have c17b1 : (a0 != 13) = false := bne_eq_false_iff_eq.mpr c17
           clear c17; obtain rfl := Option.some.inj H
           go_wp2
           go_ret
           exact ⟨by first | rfl | (simp; done) | (simp [*]; done), by repeat (first | exact Drawn0.refl _ | apply Drawn0.step)⟩
          ·rw [if_neg c17] at H
           have c17b0 : (a0 == 13) = false := beq_eq_false_iff_ne.mpr c17
           have c17b1 : (a0 != 13) = true := bne_iff_ne.mpr c17
           by_cases c18 : a0 = 32
           ·rw [if_pos c18] at H
            have c18b0 : (a0 == 32) = true := beq_iff_eq.mpr c18
            have c18b1 : (a0 != 32) = false := bne_eq_false_iff_eq.mpr c18
            clear c18; obtain rfl := Option.some.inj H
            go_wp2
            go_ret
            exact ⟨by first | rfl | (simp; done) | (simp [*]; done), by repeat (first | exact Drawn0.refl _ | apply Drawn0.step)⟩
           ·rw [if_neg c18] at H
            have c18b0 : (a0 == 32) = false := beq_eq_false_iff_ne.mpr c18
            have c18b1 : (a0 != 32) = true := bne_iff_ne.mpr c18
            obtain rfl := Option.some.inj H
            go_wp2
            go_ret
            exact ⟨by first | rfl | (simp; done) | (simp [*]; done), by repeat (first | exact Drawn0.refl _ | apply Drawn0.step)⟩
 ·replace c3 := Bool.eq_false_iff.mpr c3
  subst c3
  have H1 : (some 0) = some r := by rw [if_neg (show ¬ (false = true) by decide)] at H; exact H
  clear H; have H := H1
  clear H1; obtain rfl := Option.some.inj H
  go_enter Try.func93, Try.ntmps93
  go_wp2_with (first | ((with_reducible refine gate_callee (f := 43) rfl ?_); refine goesC_ (some 5) Try.func43 #[.int .i64 a0, .int .i64 0, .int .i64 255] ?_; (with_reducible refine (spec_l1In.calls a0 0 255 false _ A2.out).mono ?_); rintro e w' ⟨rfl, ⟨nd, rfl⟩⟩; refine ⟨_, rfl, ?_⟩))
  go_ret
  exact ⟨by first | rfl | (simp; done) | (simp [*]; done), by repeat (first | exact Drawn0.refl _ | apply Drawn0.step)⟩
def spec_l9Run.l0 : Nat → ByteArray → Int → Option (Int)
 | 0, _, _ => none
 | k + 1, x0, x3 => if x3 < (x0.size : Int) then (if 0 ≤ x3 then ((spec_Class.f k (wrap64 (bt x0 x3))).bind fun t529 => (if 0 < (x0.size : Int) then ((spec_Class.f k (wrap64 (bt x0 0))).bind fun t530 => (if t529 = t530 then (spec_l9Run.l0 k x0 (wrap64 (x3 + 1))) else (some x3))) else (none))) else (none)) else (some x3)
def spec_l9Run.f (k : Nat) (a0 : ByteArray) : Option (Int) := spec_l9Run.l0 k a0 0
theorem spec_l9Run.mono_l : ∀ k, (∀ y0 y1, LeO (spec_l9Run.l0 k y0 y1) (spec_l9Run.l0 (k + 1) y0 y1))
 | 0 => fun _ _ r h => by simp [spec_l9Run.l0] at h
 | k + 1 => by
  have ih0 := spec_l9Run.mono_l k
  ·intro y0 y1
   unfold spec_l9Run.l0
   repeat' first
   | (with_reducible exact ih0 _ _)
   | (with_reducible exact spec_Class.mono _ _)
   | (with_reducible exact LeO.refl _)
   | (with_reducible exact LeO.none _)
   | (with_reducible refine LeO.ite ?_ ?_)
   | (with_reducible refine LeO.bind ?_ (fun _ => ?_))
   | exact ih0 _ _
   | exact spec_Class.mono _ _
   | exact LeO.none _
   | refine LeO.ite ?_ ?_
   | refine LeO.bind ?_ (fun _ => ?_)
theorem spec_l9Run.mono : ∀ a0 k, LeO (spec_l9Run.f k a0) (spec_l9Run.f (k + 1) a0) := by
 intro a0 k
 have ih0 := spec_l9Run.mono_l k
 unfold spec_l9Run.f
 repeat' first
   | (with_reducible exact ih0 _ _)
   | (with_reducible exact spec_Class.mono _ _)
   | (with_reducible exact LeO.refl _)
   | (with_reducible exact LeO.none _)
   | (with_reducible refine LeO.ite ?_ ?_)
   | (with_reducible refine LeO.bind ?_ (fun _ => ?_))
   | exact ih0 _ _
   | exact spec_Class.mono _ _
   | exact LeO.none _
   | refine LeO.ite ?_ ?_
   | refine LeO.bind ?_ (fun _ => ?_)
set_option maxHeartbeats 8000000 in
set_option maxRecDepth 100000 in
theorem spec_l9Run.calls (k : Nat) (a0 : ByteArray) (r : Int) (w : World) (h : spec_l9Run.f k a0 = some r) :
  Calls Try.prog 92 #[.string a0] w fun e w' => e = .returned (.int .i64 r) ∧ Drawn0 w w' := by
 have H : (spec_l9Run.l0 k a0 0) = some r := h
 clear h; have H' := Aside0.mk H
 clear H
 go_enter Try.func92, Try.ntmps92
 go_wp2
 repeat (go_quiet (fail); try go_wp2)
 go_loopg [3] k (fun kq v3 w' => ∃ (x3_1 : Int), v3 = .int .i64 x3_1 ∧ Aside0 (spec_l9Run.l0 kq a0 x3_1 = some r) ∧ Aside0 (kq ≤ k) ∧ Drawn0 w w')
 case atStart => exact ⟨(0), sR, H', ⟨Nat.le_refl _⟩, by repeat (first | exact Drawn0.refl _ | apply Drawn0.step)⟩
 case round =>
  clear H'
  obtain ⟨x3_1, rfl, HA, HK1, ⟨m1, rfl⟩⟩ := hrel
  cases gk with
  | zero => exact absurd HA.out (by simp [spec_l9Run.l0])
  | succ k1 =>
   have H := HA.out; clear HA; simp only [spec_l9Run.l0] at H
   by_cases c2 : x3_1 < (a0.size : Int)
   ·rw [if_pos c2] at H
    have c2b0 : decide (x3_1 < (a0.size : Int)) = true := decide_eq_true c2
    clear c2
    by_cases c3 : 0 ≤ x3_1
    ·rw [if_pos c3] at H
     have c3b0 : decide (0 ≤ x3_1) = true := decide_eq_true c3
     clear c3; replace H := Option.bind_eq_some_iff.mp H
     obtain ⟨t529, A50, H⟩ := H
     replace H : (if 0 < (a0.size : Int) then ((spec_Class.f k1 (wrap64 (bt a0 0))).bind fun t530 => (if t529 = t530 then (spec_l9Run.l0 k1 a0 (wrap64 (x3_1 + 1))) else (some x3_1))) else (none)) = some r := H
     have A5 := Aside0.mk A50
     clear A50
     by_cases c6 : 0 < (a0.size : Int)
     ·rw [if_pos c6] at H
      have c6b0 : decide (0 < (a0.size : Int)) = true := decide_eq_true c6
      have c6b1 : decide (0 < a0.size) = true := decide_eq_true (by omega)
      clear c6; replace H := Option.bind_eq_some_iff.mp H
      obtain ⟨t530, A80, H⟩ := H
      replace H : (if t529 = t530 then (spec_l9Run.l0 k1 a0 (wrap64 (x3_1 + 1))) else (some x3_1)) = some r := H
      have A8 := Aside0.mk A80
      clear A80
      by_cases c9 : t529 = t530
      ·rw [if_pos c9] at H
       have c9b0 : (t529 == t530) = true := beq_iff_eq.mpr c9
       have c9b1 : (t529 != t530) = false := bne_eq_false_iff_eq.mpr c9
       clear c9; have H' := Aside0.mk H
       clear H; have p4 : 0 ≤ (x3_1 : Int) := oD
       have q4 : x3_1 < (a0.size : Int) := oD
       have hx4 := bt_at a0 x3_1
       replace p4 := eq_true p4
       replace q4 := eq_true q4
       (try (have p7 : 0 ≤ (0 : Int) := (by omega); have q7 : 0 < a0.size := (by have : (0 : Int) < (a0.size : Int) := oD; omega); have hx7 : ∀ h : 0 < a0.size, ((a0[0]'h).toNat : Int) = bt a0 0 := bt_at a0 0; clear p7; have qi7 : (0 < (a0.size : Int)) = True := eq_true (oD); replace q7 := eq_true q7))
       go_wp2_with (first | (go_at_call 93; (with_reducible refine (spec_Class.calls k1 (wrap64 (bt a0 x3_1)) t529 _ A5.out).mono ?_); rintro e w' ⟨rfl, ⟨nd, rfl⟩⟩; (first | exact ⟨rfl, _, World.drewN_drewN _ _ _⟩ | exact ⟨rfl, _, Eq.trans (World.drewN_drewN _ _ _) (congrArg (World.drewN _) (Nat.add_assoc _ _ _))⟩ | (have p7 : 0 ≤ (0 : Int) := (by omega); have q7 : 0 < a0.size := (by have : (0 : Int) < (a0.size : Int) := oD; omega); have hx7 : ∀ h : 0 < a0.size, ((a0[0]'h).toNat : Int) = bt a0 0 := bt_at a0 0; clear p7; have qi7 : (0 < (a0.size : Int)) = True := eq_true (oD); replace q7 := eq_true q7))) | (go_at_call 93; (with_reducible refine (spec_Class.calls k1 (wrap64 (bt a0 0)) t530 _ A8.out).mono ?_); rintro e w' ⟨rfl, ⟨nd, rfl⟩⟩; (try first | exact ⟨rfl, _, World.drewN_drewN _ _ _⟩ | exact ⟨rfl, _, Eq.trans (World.drewN_drewN _ _ _) (congrArg (World.drewN _) (Nat.add_assoc _ _ _))⟩)))
       repeat (go_quiet (first | (go_at_call 93; (with_reducible refine (spec_Class.calls k1 (wrap64 (bt a0 x3_1)) t529 _ A5.out).mono ?_); rintro e w' ⟨rfl, ⟨nd, rfl⟩⟩; (first | exact ⟨rfl, _, World.drewN_drewN _ _ _⟩ | exact ⟨rfl, _, Eq.trans (World.drewN_drewN _ _ _) (congrArg (World.drewN _) (Nat.add_assoc _ _ _))⟩ | (have p7 : 0 ≤ (0 : Int) := (by omega); have q7 : 0 < a0.size := (by have : (0 : Int) < (a0.size : Int) := oD; omega); have hx7 : ∀ h : 0 < a0.size, ((a0[0]'h).toNat : Int) = bt a0 0 := bt_at a0 0; clear p7; have qi7 : (0 < (a0.size : Int)) = True := eq_true (oD); replace q7 := eq_true q7))) | (go_at_call 93; (with_reducible refine (spec_Class.calls k1 (wrap64 (bt a0 0)) t530 _ A8.out).mono ?_); rintro e w' ⟨rfl, ⟨nd, rfl⟩⟩; (try first | exact ⟨rfl, _, World.drewN_drewN _ _ _⟩ | exact ⟨rfl, _, Eq.trans (World.drewN_drewN _ _ _) (congrArg (World.drewN _) (Nat.add_assoc _ _ _))⟩))); try go_wp2_with (first | (go_at_call 93; (with_reducible refine (spec_Class.calls k1 (wrap64 (bt a0 x3_1)) t529 _ A5.out).mono ?_); rintro e w' ⟨rfl, ⟨nd, rfl⟩⟩; (first | exact ⟨rfl, _, World.drewN_drewN _ _ _⟩ | exact ⟨rfl, _, Eq.trans (World.drewN_drewN _ _ _) (congrArg (World.drewN _) (Nat.add_assoc _ _ _))⟩ | (have p7 : 0 ≤ (0 : Int) := (by omega); have q7 : 0 < a0.size := (by have : (0 : Int) < (a0.size : Int) := oD; omega); have hx7 : ∀ h : 0 < a0.size, ((a0[0]'h).toNat : Int) = bt a0 0 := bt_at a0 0; clear p7; have qi7 : (0 < (a0.size : Int)) = True := eq_true (oD); replace q7 := eq_true q7))) | (go_at_call 93; (with_reducible refine (spec_Class.calls k1 (wrap64 (bt a0 0)) t530 _ A8.out).mono ?_); rintro e w' ⟨rfl, ⟨nd, rfl⟩⟩; (try first | exact ⟨rfl, _, World.drewN_drewN _ _ _⟩ | exact ⟨rfl, _, Eq.trans (World.drewN_drewN _ _ _) (congrArg (World.drewN _) (Nat.add_assoc _ _ _))⟩))))
       go_roundg k1
       case measure => have := HK1.out; omega
       case rel => exact ⟨(wrap64 (x3_1 + 1)), sR, H', ⟨by have := HK1.out; omega⟩, by repeat (first | exact Drawn0.refl _ | apply Drawn0.step)⟩
      ·rw [if_neg c9] at H
       have c9b0 : (t529 == t530) = false := beq_eq_false_iff_ne.mpr c9
       have c9b1 : (t529 != t530) = true := bne_iff_ne.mpr c9
       obtain rfl := Option.some.inj H
       have p4 : 0 ≤ (x3_1 : Int) := oD
       have q4 : x3_1 < (a0.size : Int) := oD
       have hx4 := bt_at a0 x3_1
       replace p4 := eq_true p4
       replace q4 := eq_true q4
       (try (have p7 : 0 ≤ (0 : Int) := (by omega); have q7 : 0 < a0.size := (by have : (0 : Int) < (a0.size : Int) := oD; omega); have hx7 : ∀ h : 0 < a0.size, ((a0[0]'h).toNat : Int) = bt a0 0 := bt_at a0 0; clear p7; have qi7 : (0 < (a0.size : Int)) = True := eq_true (oD); replace q7 := eq_true q7))
       go_wp2_with (first | (go_at_call 93; (with_reducible refine (spec_Class.calls k1 (wrap64 (bt a0 x3_1)) t529 _ A5.out).mono ?_); rintro e w' ⟨rfl, ⟨nd, rfl⟩⟩; (first | exact ⟨rfl, _, World.drewN_drewN _ _ _⟩ | exact ⟨rfl, _, Eq.trans (World.drewN_drewN _ _ _) (congrArg (World.drewN _) (Nat.add_assoc _ _ _))⟩ | (have p7 : 0 ≤ (0 : Int) := (by omega); have q7 : 0 < a0.size := (by have : (0 : Int) < (a0.size : Int) := oD; omega); have hx7 : ∀ h : 0 < a0.size, ((a0[0]'h).toNat : Int) = bt a0 0 := bt_at a0 0; clear p7; have qi7 : (0 < (a0.size : Int)) = True := eq_true (oD); replace q7 := eq_true q7))) | (go_at_call 93; (with_reducible refine (spec_Class.calls k1 (wrap64 (bt a0 0)) t530 _ A8.out).mono ?_); rintro e w' ⟨rfl, ⟨nd, rfl⟩⟩; (try first | exact ⟨rfl, _, World.drewN_drewN _ _ _⟩ | exact ⟨rfl, _, Eq.trans (World.drewN_drewN _ _ _) (congrArg (World.drewN _) (Nat.add_assoc _ _ _))⟩)))
       repeat (go_quiet (first | (go_at_call 93; (with_reducible refine (spec_Class.calls k1 (wrap64 (bt a0 x3_1)) t529 _ A5.out).mono ?_); rintro e w' ⟨rfl, ⟨nd, rfl⟩⟩; (first | exact ⟨rfl, _, World.drewN_drewN _ _ _⟩ | exact ⟨rfl, _, Eq.trans (World.drewN_drewN _ _ _) (congrArg (World.drewN _) (Nat.add_assoc _ _ _))⟩ | (have p7 : 0 ≤ (0 : Int) := (by omega); have q7 : 0 < a0.size := (by have : (0 : Int) < (a0.size : Int) := oD; omega); have hx7 : ∀ h : 0 < a0.size, ((a0[0]'h).toNat : Int) = bt a0 0 := bt_at a0 0; clear p7; have qi7 : (0 < (a0.size : Int)) = True := eq_true (oD); replace q7 := eq_true q7))) | (go_at_call 93; (with_reducible refine (spec_Class.calls k1 (wrap64 (bt a0 0)) t530 _ A8.out).mono ?_); rintro e w' ⟨rfl, ⟨nd, rfl⟩⟩; (try first | exact ⟨rfl, _, World.drewN_drewN _ _ _⟩ | exact ⟨rfl, _, Eq.trans (World.drewN_drewN _ _ _) (congrArg (World.drewN _) (Nat.add_assoc _ _ _))⟩))); try go_wp2_with (first | (go_at_call 93; (with_reducible refine (spec_Class.calls k1 (wrap64 (bt a0 x3_1)) t529 _ A5.out).mono ?_); rintro e w' ⟨rfl, ⟨nd, rfl⟩⟩; (first | exact ⟨rfl, _, World.drewN_drewN _ _ _⟩ | exact ⟨rfl, _, Eq.trans (World.drewN_drewN _ _ _) (congrArg (World.drewN _) (Nat.add_assoc _ _ _))⟩ | (have p7 : 0 ≤ (0 : Int) := (by omega); have q7 : 0 < a0.size := (by have : (0 : Int) < (a0.size : Int) := oD; omega); have hx7 : ∀ h : 0 < a0.size, ((a0[0]'h).toNat : Int) = bt a0 0 := bt_at a0 0; clear p7; have qi7 : (0 < (a0.size : Int)) = True := eq_true (oD); replace q7 := eq_true q7))) | (go_at_call 93; (with_reducible refine (spec_Class.calls k1 (wrap64 (bt a0 0)) t530 _ A8.out).mono ?_); rintro e w' ⟨rfl, ⟨nd, rfl⟩⟩; (try first | exact ⟨rfl, _, World.drewN_drewN _ _ _⟩ | exact ⟨rfl, _, Eq.trans (World.drewN_drewN _ _ _) (congrArg (World.drewN _) (Nat.add_assoc _ _ _))⟩))))
       go_ret
       exact ⟨by first | rfl | (simp; done) | (simp [*]; done), by repeat (first | exact Drawn0.refl _ | apply Drawn0.step)⟩
     ·rw [if_neg c6] at H
      exact absurd H (by simp)
    ·rw [if_neg c3] at H
     exact absurd H (by simp)
   ·rw [if_neg c2] at H
    have c2b0 : decide (x3_1 < (a0.size : Int)) = false := decide_eq_false c2
    clear c2; obtain rfl := Option.some.inj H
    go_wp2
    repeat (go_quiet (fail); try go_wp2)
    go_ret
    exact ⟨by first | rfl | (simp; done) | (simp [*]; done), by repeat (first | exact Drawn0.refl _ | apply Drawn0.step)⟩
def spec_l9Next.j0 : Nat → ByteArray → Int → Bool → Option (Int)
 | 0, _, _, _ => none
 | k + 1, x0, x3, x34 => if x34 = true then (if x3 = 1 then (if 1 ≤ (x0.size : Int) then ((spec_l9Run.f k (x0.extract 1 x0.size)).bind fun t534 => (if (wrap64 (1 + t534)) > 64 then (some 64) else (some (wrap64 (1 + t534))))) else (none)) else (if (wrap64 (x3 - 1)) > 64 then (some 64) else (some (wrap64 (x3 - 1))))) else (if x3 > 64 then (some 64) else (some x3))
def spec_l9Next.f (k : Nat) (a0 : ByteArray) : Option (Int) := (spec_l9Run.f k a0).bind fun t531 => (if 0 < (a0.size : Int) then ((spec_Class.f k (wrap64 (bt a0 0))).bind fun t532 => (if t532 = 2 then (if t531 > 3 then (if 3 > 64 then (some 64) else (some 3)) else (if t531 > 64 then (some 64) else (some t531))) else (if t532 = 3 then (if t531 < (a0.size : Int) then (if 0 ≤ t531 then ((spec_Class.f k (wrap64 (bt a0 t531))).bind fun t533 => (if t533 = 2 then (spec_l9Next.j0 k a0 t531 false) else (if 0 ≤ (wrap64 (t531 - 1)) then (if (wrap64 (t531 - 1)) < (a0.size : Int) then (spec_l9Next.j0 k a0 t531 ((bt a0 (wrap64 (t531 - 1))) == 32)) else (none)) else (none)))) else (none)) else (spec_l9Next.j0 k a0 t531 false)) else (if t531 > 64 then (some 64) else (some t531))))) else (none))
theorem spec_l9Next.mono_l : ∀ k, (∀ y0 y1 y2, LeO (spec_l9Next.j0 k y0 y1 y2) (spec_l9Next.j0 (k + 1) y0 y1 y2))
 | 0 => fun _ _ _ r h => by simp [spec_l9Next.j0] at h
 | k + 1 => by
  have ih0 := spec_l9Next.mono_l k
  ·intro y0 y1 y2
   unfold spec_l9Next.j0
   repeat' first
   | (with_reducible exact ih0 _ _ _)
   | (with_reducible exact spec_Class.mono _ _)
   | (with_reducible exact spec_l9Run.mono _ _)
   | (with_reducible exact LeO.refl _)
   | (with_reducible exact LeO.none _)
   | (with_reducible refine LeO.ite ?_ ?_)
   | (with_reducible refine LeO.bind ?_ (fun _ => ?_))
   | exact ih0 _ _ _
   | exact spec_Class.mono _ _
   | exact spec_l9Run.mono _ _
   | exact LeO.none _
   | refine LeO.ite ?_ ?_
   | refine LeO.bind ?_ (fun _ => ?_)
theorem spec_l9Next.mono : ∀ a0 k, LeO (spec_l9Next.f k a0) (spec_l9Next.f (k + 1) a0) := by
 intro a0 k
 have ih0 := spec_l9Next.mono_l k
 unfold spec_l9Next.f
 repeat' first
   | (with_reducible exact ih0 _ _ _)
   | (with_reducible exact spec_Class.mono _ _)
   | (with_reducible exact spec_l9Run.mono _ _)
   | (with_reducible exact LeO.refl _)
   | (with_reducible exact LeO.none _)
   | (with_reducible refine LeO.ite ?_ ?_)
   | (with_reducible refine LeO.bind ?_ (fun _ => ?_))
   | exact ih0 _ _ _
   | exact spec_Class.mono _ _
   | exact spec_l9Run.mono _ _
   | exact LeO.none _
   | refine LeO.ite ?_ ?_
   | refine LeO.bind ?_ (fun _ => ?_)
set_option maxHeartbeats 8000000 in
set_option maxRecDepth 100000 in
theorem spec_l9Next.calls (k : Nat) (a0 : ByteArray) (r : Int) (w : World) (h : spec_l9Next.f k a0 = some r) :
  Calls Try.prog 81 #[.string a0] w fun e w' => e = .returned (.int .i64 r) ∧ Drawn0 w w' := by
 have H : ((spec_l9Run.f k a0).bind fun t531 => (if 0 < (a0.size : Int) then ((spec_Class.f k (wrap64 (bt a0 0))).bind fun t532 => (if t532 = 2 then (if t531 > 3 then (if 3 > 64 then (some 64) else (some 3)) else (if t531 > 64 then (some 64) else (some t531))) else (if t532 = 3 then (if t531 < (a0.size : Int) then (if 0 ≤ t531 then ((spec_Class.f k (wrap64 (bt a0 t531))).bind fun t533 => (if t533 = 2 then (spec_l9Next.j0 k a0 t531 false) else (if 0 ≤ (wrap64 (t531 - 1)) then (if (wrap64 (t531 - 1)) < (a0.size : Int) then (spec_l9Next.j0 k a0 t531 ((bt a0 (wrap64 (t531 - 1))) == 32)) else (none)) else (none)))) else (none)) else (spec_l9Next.j0 k a0 t531 false)) else (if t531 > 64 then (some 64) else (some t531))))) else (none))) = some r := h
 clear h; replace H := Option.bind_eq_some_iff.mp H
 obtain ⟨t531, A20, H⟩ := H
 replace H : (if 0 < (a0.size : Int) then ((spec_Class.f k (wrap64 (bt a0 0))).bind fun t532 => (if t532 = 2 then (if t531 > 3 then (if 3 > 64 then (some 64) else (some 3)) else (if t531 > 64 then (some 64) else (some t531))) else (if t532 = 3 then (if t531 < (a0.size : Int) then (if 0 ≤ t531 then ((spec_Class.f k (wrap64 (bt a0 t531))).bind fun t533 => (if t533 = 2 then (spec_l9Next.j0 k a0 t531 false) else (if 0 ≤ (wrap64 (t531 - 1)) then (if (wrap64 (t531 - 1)) < (a0.size : Int) then (spec_l9Next.j0 k a0 t531 ((bt a0 (wrap64 (t531 - 1))) == 32)) else (none)) else (none)))) else (none)) else (spec_l9Next.j0 k a0 t531 false)) else (if t531 > 64 then (some 64) else (some t531))))) else (none)) = some r := H
 have A2 := Aside0.mk A20
 clear A20
 by_cases c3 : 0 < (a0.size : Int)
 ·rw [if_pos c3] at H
  have c3b0 : decide (0 < (a0.size : Int)) = true := decide_eq_true c3
  have c3b1 : decide (0 < a0.size) = true := decide_eq_true (by omega)
  clear c3; replace H := Option.bind_eq_some_iff.mp H
  obtain ⟨t532, A50, H⟩ := H
  replace H : (if t532 = 2 then (if t531 > 3 then (if 3 > 64 then (some 64) else (some 3)) else (if t531 > 64 then (some 64) else (some t531))) else (if t532 = 3 then (if t531 < (a0.size : Int) then (if 0 ≤ t531 then ((spec_Class.f k (wrap64 (bt a0 t531))).bind fun t533 => (if t533 = 2 then (spec_l9Next.j0 k a0 t531 false) else (if 0 ≤ (wrap64 (t531 - 1)) then (if (wrap64 (t531 - 1)) < (a0.size : Int) then (spec_l9Next.j0 k a0 t531 ((bt a0 (wrap64 (t531 - 1))) == 32)) else (none)) else (none)))) else (none)) else (spec_l9Next.j0 k a0 t531 false)) else (if t531 > 64 then (some 64) else (some t531)))) = some r := H
  have A5 := Aside0.mk A50
  clear A50
  by_cases c6 : t532 = 2
  ·rw [if_pos c6] at H
   have c6b0 : (t532 == 2) = true := beq_iff_eq.mpr c6
   have c6b1 : (t532 != 2) = false := bne_eq_false_iff_eq.mpr c6
   clear c6
   by_cases c7 : t531 > 3
   ·rw [if_pos c7] at H
    have c7b0 : decide (3 < t531) = true := decide_eq_true c7
    clear c7
    by_cases c8 : 3 > 64
    ·rw [if_pos c8] at H
     have c8b0 : decide (64 < 3) = true := decide_eq_true c8
     clear c8; obtain rfl := Option.some.inj H
     go_enter Try.func81, Try.ntmps81
     go_wp2_with (first | ((with_reducible refine gate_callee (f := 92) rfl ?_); refine goesC_ (some 5) Try.func92 #[.string a0] ?_; (with_reducible refine (spec_l9Run.calls k a0 t531 _ A2.out).mono ?_); rintro e w' ⟨rfl, ⟨nd, rfl⟩⟩; refine ⟨_, rfl, ?_⟩; have p4 : 0 ≤ (0 : Int) := (by omega); have q4 : 0 < a0.size := (by have : (0 : Int) < (a0.size : Int) := oD; omega); have hx4 : ∀ h : 0 < a0.size, ((a0[0]'h).toNat : Int) = bt a0 0 := bt_at a0 0; clear p4; have qi4 : (0 < (a0.size : Int)) = True := eq_true (oD); replace q4 := eq_true q4) | ((with_reducible refine gate_callee (f := 93) rfl ?_); refine goesC_ (some 9) Try.func93 #[.int .i64 (wrap64 (bt a0 0))] ?_; (with_reducible refine (spec_Class.calls k (wrap64 (bt a0 0)) t532 _ A5.out).mono ?_); rintro e w' ⟨rfl, ⟨nd, rfl⟩⟩; refine ⟨_, rfl, ?_⟩))
     go_ret
     first | exact absurd c8b0 (by decide) | (exact ⟨by first | rfl | (simp; done) | (simp [*]; done), by repeat (first | exact Drawn0.refl _ | apply Drawn0.step)⟩)
    ·rw [if_neg c8] at H
     have c8b0 : decide (64 < 3) = false := decide_eq_false c8
     clear c8; obtain rfl := Option.some.inj H
     go_enter Try.func81, Try.ntmps81
     go_wp2_with (first | ((with_reducible refine gate_callee (f := 92) rfl ?_); refine goesC_ (some 5) Try.func92 #[.string a0] ?_; (with_reducible refine (spec_l9Run.calls k a0 t531 _ A2.out).mono ?_); rintro e w' ⟨rfl, ⟨nd, rfl⟩⟩; refine ⟨_, rfl, ?_⟩; have p4 : 0 ≤ (0 : Int) := (by omega); have q4 : 0 < a0.size := (by have : (0 : Int) < (a0.size : Int) := oD; omega); have hx4 : ∀ h : 0 < a0.size, ((a0[0]'h).toNat : Int) = bt a0 0 := bt_at a0 0; clear p4; have qi4 : (0 < (a0.size : Int)) = True := eq_true (oD); replace q4 := eq_true q4) | ((with_reducible refine gate_callee (f := 93) rfl ?_); refine goesC_ (some 9) Try.func93 #[.int .i64 (wrap64 (bt a0 0))] ?_; (with_reducible refine (spec_Class.calls k (wrap64 (bt a0 0)) t532 _ A5.out).mono ?_); rintro e w' ⟨rfl, ⟨nd, rfl⟩⟩; refine ⟨_, rfl, ?_⟩))
     go_ret
     exact ⟨by first | rfl | (simp; done) | (simp [*]; done), by repeat (first | exact Drawn0.refl _ | apply Drawn0.step)⟩
   ·rw [if_neg c7] at H
    have c7b0 : decide (3 < t531) = false := decide_eq_false c7
    clear c7
    by_cases c9 : t531 > 64
    ·rw [if_pos c9] at H
     have c9b0 : decide (64 < t531) = true := decide_eq_true c9
     clear c9; obtain rfl := Option.some.inj H
     go_enter Try.func81, Try.ntmps81
     go_wp2_with (first | ((with_reducible refine gate_callee (f := 92) rfl ?_); refine goesC_ (some 5) Try.func92 #[.string a0] ?_; (with_reducible refine (spec_l9Run.calls k a0 t531 _ A2.out).mono ?_); rintro e w' ⟨rfl, ⟨nd, rfl⟩⟩; refine ⟨_, rfl, ?_⟩; have p4 : 0 ≤ (0 : Int) := (by omega); have q4 : 0 < a0.size := (by have : (0 : Int) < (a0.size : Int) := oD; omega); have hx4 : ∀ h : 0 < a0.size, ((a0[0]'h).toNat : Int) = bt a0 0 := bt_at a0 0; clear p4; have qi4 : (0 < (a0.size : Int)) = True := eq_true (oD); replace q4 := eq_true q4) | ((with_reducible refine gate_callee (f := 93) rfl ?_); refine goesC_ (some 9) Try.func93 #[.int .i64 (wrap64 (bt a0 0))] ?_; (with_reducible refine (spec_Class.calls k (wrap64 (bt a0 0)) t532 _ A5.out).mono ?_); rintro e w' ⟨rfl, ⟨nd, rfl⟩⟩; refine ⟨_, rfl, ?_⟩))
     go_ret
     exact ⟨by first | rfl | (simp; done) | (simp [*]; done), by repeat (first | exact Drawn0.refl _ | apply Drawn0.step)⟩
    ·rw [if_neg c9] at H
     have c9b0 : decide (64 < t531) = false := decide_eq_false c9
     clear c9; obtain rfl := Option.some.inj H
     go_enter Try.func81, Try.ntmps81
     go_wp2_with (first | ((with_reducible refine gate_callee (f := 92) rfl ?_); refine goesC_ (some 5) Try.func92 #[.string a0] ?_; (with_reducible refine (spec_l9Run.calls k a0 t531 _ A2.out).mono ?_); rintro e w' ⟨rfl, ⟨nd, rfl⟩⟩; refine ⟨_, rfl, ?_⟩; have p4 : 0 ≤ (0 : Int) := (by omega); have q4 : 0 < a0.size := (by have : (0 : Int) < (a0.size : Int) := oD; omega); have hx4 : ∀ h : 0 < a0.size, ((a0[0]'h).toNat : Int) = bt a0 0 := bt_at a0 0; clear p4; have qi4 : (0 < (a0.size : Int)) = True := eq_true (oD); replace q4 := eq_true q4) | ((with_reducible refine gate_callee (f := 93) rfl ?_); refine goesC_ (some 9) Try.func93 #[.int .i64 (wrap64 (bt a0 0))] ?_; (with_reducible refine (spec_Class.calls k (wrap64 (bt a0 0)) t532 _ A5.out).mono ?_); rintro e w' ⟨rfl, ⟨nd, rfl⟩⟩; refine ⟨_, rfl, ?_⟩))
     go_ret
     exact ⟨by first | rfl | (simp; done) | (simp [*]; done), by repeat (first | exact Drawn0.refl _ | apply Drawn0.step)⟩
  ·rw [if_neg c6] at H
   have c6b0 : (t532 == 2) = false := beq_eq_false_iff_ne.mpr c6
   have c6b1 : (t532 != 2) = true := bne_iff_ne.mpr c6
   by_cases c10 : t532 = 3
   ·rw [if_pos c10] at H
    have c10b0 : (t532 == 3) = true := beq_iff_eq.mpr c10
    have c10b1 : (t532 != 3) = false := bne_eq_false_iff_eq.mpr c10
    clear c10; have HC11 := Aside0.mk H
    clear H
    go_enter Try.func81, Try.ntmps81
    go_upto_region 7 with (first | ((with_reducible refine gate_callee (f := 92) rfl ?_); refine goesC_ (some 5) Try.func92 #[.string a0] ?_; (with_reducible refine (spec_l9Run.calls k a0 t531 _ A2.out).mono ?_); rintro e w' ⟨rfl, ⟨nd, rfl⟩⟩; refine ⟨_, rfl, ?_⟩; have p4 : 0 ≤ (0 : Int) := (by omega); have q4 : 0 < a0.size := (by have : (0 : Int) < (a0.size : Int) := oD; omega); have hx4 : ∀ h : 0 < a0.size, ((a0[0]'h).toNat : Int) = bt a0 0 := bt_at a0 0; clear p4; have qi4 : (0 < (a0.size : Int)) = True := eq_true (oD); replace q4 := eq_true q4) | ((with_reducible refine gate_callee (f := 93) rfl ?_); refine goesC_ (some 9) Try.func93 #[.int .i64 (wrap64 (bt a0 0))] ?_; (with_reducible refine (spec_Class.calls k (wrap64 (bt a0 0)) t532 _ A5.out).mono ?_); rintro e w' ⟨rfl, ⟨nd, rfl⟩⟩; refine ⟨_, rfl, ?_⟩))
    (try simp only [putL])
    go_cut [34] (fun v34 wc => ∃ (kq : Nat) (a9a : Bool), v34 = .bool a9a ∧ Aside0 (spec_l9Next.j0 kq a0 t531 a9a = some r) ∧ Aside0 (kq ≤ k) ∧ Drawn0 w wc)
    case first =>
     have H := HC11.out; clear HC11
     by_cases c12 : t531 < (a0.size : Int)
     ·rw [if_pos c12] at H
      have c12b0 : decide (t531 < (a0.size : Int)) = true := decide_eq_true c12
      clear c12
      (first | rw [c12b0] | (simp only [i64_w, i32_w]; rw [c12b0]) | skip)
      by_cases c13 : 0 ≤ t531
      ·rw [if_pos c13] at H
       have c13b0 : decide (0 ≤ t531) = true := decide_eq_true c13
       clear c13; replace H := Option.bind_eq_some_iff.mp H
       obtain ⟨t533, A150, H⟩ := H
       replace H : (if t533 = 2 then (spec_l9Next.j0 k a0 t531 false) else (if 0 ≤ (wrap64 (t531 - 1)) then (if (wrap64 (t531 - 1)) < (a0.size : Int) then (spec_l9Next.j0 k a0 t531 ((bt a0 (wrap64 (t531 - 1))) == 32)) else (none)) else (none))) = some r := H
       have A15 := Aside0.mk A150
       clear A150
       by_cases c16 : t533 = 2
       ·rw [if_pos c16] at H
        have c16b0 : (t533 == 2) = true := beq_iff_eq.mpr c16
        have c16b1 : (t533 != 2) = false := bne_eq_false_iff_eq.mpr c16
        clear c16; have H' := Aside0.mk H
        clear H; have p14 : 0 ≤ (t531 : Int) := oD
        have q14 : t531 < (a0.size : Int) := oD
        have hx14 := bt_at a0 t531
        replace p14 := eq_true p14
        replace q14 := eq_true q14
        go_wp2_with (first | (go_at_call 93; (with_reducible refine (spec_Class.calls k (wrap64 (bt a0 t531)) t533 _ A15.out).mono ?_); rintro e w' ⟨rfl, ⟨nd, rfl⟩⟩))
        go_meet
        case rel => exact ⟨_, (false), sR, H', ⟨by first | omega | exact Nat.le_refl _⟩, by repeat (first | exact Drawn0.refl _ | apply Drawn0.step)⟩
       ·rw [if_neg c16] at H
        have c16b0 : (t533 == 2) = false := beq_eq_false_iff_ne.mpr c16
        have c16b1 : (t533 != 2) = true := bne_iff_ne.mpr c16
        obtain ⟨ji17, hji17⟩ : ∃ j_ : Int, (wrap64 (t531 - 1)) = j_ := ⟨_, rfl⟩
        replace H : (if 0 ≤ (ji17) then (if (ji17) < (a0.size : Int) then (spec_l9Next.j0 k a0 t531 ((bt a0 (ji17)) == 32)) else (none)) else (none)) = some r := by first | (rw [hji17] at H; exact H) | (simp only [hji17] at H ⊢; exact H)
        (try rw [hji17] at A15)
        have hji17w : (IntKind.i64.wrap (t531 - 1)) = ji17 := (i64_w _).trans hji17
        by_cases c18 : 0 ≤ (ji17)
        ·rw [if_pos c18] at H
         have c18b0 : decide (0 ≤ (ji17)) = true := decide_eq_true c18
         clear c18
         by_cases c19 : (ji17) < (a0.size : Int)
         ·rw [if_pos c19] at H
          have c19b0 : decide ((ji17) < (a0.size : Int)) = true := decide_eq_true c19
          clear c19; have H' := Aside0.mk H
          clear H; have p14 : 0 ≤ (t531 : Int) := oD
          have q14 : t531 < (a0.size : Int) := oD
          have hx14 := bt_at a0 t531
          replace p14 := eq_true p14
          replace q14 := eq_true q14
          go_wp2_with (first | (go_at_call 93; (with_reducible refine (spec_Class.calls k (wrap64 (bt a0 t531)) t533 _ A15.out).mono ?_); rintro e w' ⟨rfl, ⟨nd, rfl⟩⟩; have p20 : 0 ≤ ((ji17) : Int) := oD; have q20 : (ji17) < (a0.size : Int) := oD; have hx20 := bt_at a0 (ji17); replace p20 := eq_true p20; replace q20 := eq_true q20))
          go_meet
          case rel => exact ⟨_, (((bt a0 (ji17)) == 32)), (by first | rfl | (simp; done) | (simp only [← hji17] <;> (first | rfl | simp)) | (simp [*]; done)), H', ⟨by first | omega | exact Nat.le_refl _⟩, by repeat (first | exact Drawn0.refl _ | apply Drawn0.step)⟩
         ·rw [if_neg c19] at H
          exact absurd H (by simp)
        ·rw [if_neg c18] at H
         exact absurd H (by simp)
      ·rw [if_neg c13] at H
       exact absurd H (by simp)
     ·rw [if_neg c12] at H
      have c12b0 : decide (t531 < (a0.size : Int)) = false := decide_eq_false c12
      clear c12
      (first | rw [c12b0] | (simp only [i64_w, i32_w]; rw [c12b0]) | skip)
      have H' := Aside0.mk H
      clear H
      go_wp2
      go_meet
      case rel => exact ⟨_, (false), sR, H', ⟨by first | omega | exact Nat.le_refl _⟩, by repeat (first | exact Drawn0.refl _ | apply Drawn0.step)⟩
    case rest =>
     clear HC11; obtain ⟨kq, a9a, rfl, HA, HJ10, ⟨mc10, rfl⟩⟩ := hcut
     cases kq with
     | zero => exact absurd HA.out (by simp [spec_l9Next.j0])
     | succ kj10 =>
      have H := HA.out; clear HA; simp only [spec_l9Next.j0] at H
      by_cases c21 : a9a = true
      ·subst c21
       have H1 : (if t531 = 1 then (if 1 ≤ (a0.size : Int) then ((spec_l9Run.f kj10 (a0.extract 1 a0.size)).bind fun t534 => (if (wrap64 (1 + t534)) > 64 then (some 64) else (some (wrap64 (1 + t534))))) else (none)) else (if (wrap64 (t531 - 1)) > 64 then (some 64) else (some (wrap64 (t531 - 1))))) = some r := by rw [if_pos rfl] at H; exact H
       clear H; have H := H1
       clear H1
       by_cases c22 : t531 = 1
       ·rw [if_pos c22] at H
        have c22b0 : (t531 == 1) = true := beq_iff_eq.mpr c22
        have c22b1 : (t531 != 1) = false := bne_eq_false_iff_eq.mpr c22
        clear c22
        by_cases c23 : 1 ≤ (a0.size : Int)
        ·rw [if_pos c23] at H
         have c23b0 := eq_true c23
         have c23b1 : decide (1 ≤ (a0.size : Int)) = true := decide_eq_true c23
         clear c23; replace H := Option.bind_eq_some_iff.mp H
         obtain ⟨t534, A240, H⟩ := H
         replace H : (if (wrap64 (1 + t534)) > 64 then (some 64) else (some (wrap64 (1 + t534)))) = some r := H
         have A24 := Aside0.mk A240
         clear A240
         by_cases c25 : (wrap64 (1 + t534)) > 64
         ·rw [if_pos c25] at H
          have c25b0 : decide (64 < (wrap64 (1 + t534))) = true := decide_eq_true c25
          clear c25; obtain rfl := Option.some.inj H
          go_wp2_with (first | ((with_reducible refine gate_callee (f := 92) rfl ?_); refine goesC_ (some 39) Try.func92 #[.string (a0.extract 1 a0.size)] ?_; (with_reducible refine (spec_l9Run.calls kj10 (a0.extract 1 a0.size) t534 _ A24.out).mono ?_); rintro e w' ⟨rfl, ⟨nd, rfl⟩⟩; refine ⟨_, rfl, ?_⟩))
          go_ret
          exact ⟨by first | rfl | (simp; done) | (simp [*]; done), by repeat (first | exact Drawn0.refl _ | apply Drawn0.step)⟩
         ·rw [if_neg c25] at H
          have c25b0 : decide (64 < (wrap64 (1 + t534))) = false := decide_eq_false c25
          clear c25; obtain rfl := Option.some.inj H
          go_wp2_with (first | ((with_reducible refine gate_callee (f := 92) rfl ?_); refine goesC_ (some 39) Try.func92 #[.string (a0.extract 1 a0.size)] ?_; (with_reducible refine (spec_l9Run.calls kj10 (a0.extract 1 a0.size) t534 _ A24.out).mono ?_); rintro e w' ⟨rfl, ⟨nd, rfl⟩⟩; refine ⟨_, rfl, ?_⟩))
          go_ret
          exact ⟨by first | rfl | (simp; done) | (simp [*]; done), by repeat (first | exact Drawn0.refl _ | apply Drawn0.step)⟩
        ·rw [if_neg c23] at H
         exact absurd H (by simp)
       ·rw [if_neg c22] at H
        have c22b0 : (t531 == 1) = false := beq_eq_false_iff_ne.mpr c22
        have c22b1 : (t531 != 1) = true := bne_iff_ne.mpr c22
        by_cases c26 : (wrap64 (t531 - 1)) > 64
        ·rw [if_pos c26] at H
         have c26b0 : decide (64 < (wrap64 (t531 - 1))) = true := decide_eq_true c26
         clear c26; obtain rfl := Option.some.inj H
         go_wp2
         go_ret
         exact ⟨by first | rfl | (simp; done) | (simp [*]; done), by repeat (first | exact Drawn0.refl _ | apply Drawn0.step)⟩
        ·rw [if_neg c26] at H
         have c26b0 : decide (64 < (wrap64 (t531 - 1))) = false := decide_eq_false c26
         clear c26; obtain rfl := Option.some.inj H
         go_wp2
         go_ret
         exact ⟨by first | rfl | (simp; done) | (simp [*]; done), by repeat (first | exact Drawn0.refl _ | apply Drawn0.step)⟩
      ·replace c21 := Bool.eq_false_iff.mpr c21
       subst c21
       have H1 : (if t531 > 64 then (some 64) else (some t531)) = some r := by rw [if_neg (show ¬ (false = true) by decide)] at H; exact H
       clear H; have H := H1
       clear H1
       by_cases c27 : t531 > 64
       ·rw [if_pos c27] at H
        have c27b0 : decide (64 < t531) = true := decide_eq_true c27
        clear c27; obtain rfl := Option.some.inj H
        go_wp2
        go_ret
        exact ⟨by first | rfl | (simp; done) | (simp [*]; done), by repeat (first | exact Drawn0.refl _ | apply Drawn0.step)⟩
       ·rw [if_neg c27] at H
        have c27b0 : decide (64 < t531) = false := decide_eq_false c27
        clear c27; obtain rfl := Option.some.inj H
        go_wp2
        go_ret
        exact ⟨by first | rfl | (simp; done) | (simp [*]; done), by repeat (first | exact Drawn0.refl _ | apply Drawn0.step)⟩
   ·rw [if_neg c10] at H
    have c10b0 : (t532 == 3) = false := beq_eq_false_iff_ne.mpr c10
    have c10b1 : (t532 != 3) = true := bne_iff_ne.mpr c10
    by_cases c28 : t531 > 64
    ·rw [if_pos c28] at H
     have c28b0 : decide (64 < t531) = true := decide_eq_true c28
     clear c28; obtain rfl := Option.some.inj H
     go_enter Try.func81, Try.ntmps81
     go_wp2_with (first | ((with_reducible refine gate_callee (f := 92) rfl ?_); refine goesC_ (some 5) Try.func92 #[.string a0] ?_; (with_reducible refine (spec_l9Run.calls k a0 t531 _ A2.out).mono ?_); rintro e w' ⟨rfl, ⟨nd, rfl⟩⟩; refine ⟨_, rfl, ?_⟩; have p4 : 0 ≤ (0 : Int) := (by omega); have q4 : 0 < a0.size := (by have : (0 : Int) < (a0.size : Int) := oD; omega); have hx4 : ∀ h : 0 < a0.size, ((a0[0]'h).toNat : Int) = bt a0 0 := bt_at a0 0; clear p4; have qi4 : (0 < (a0.size : Int)) = True := eq_true (oD); replace q4 := eq_true q4) | ((with_reducible refine gate_callee (f := 93) rfl ?_); refine goesC_ (some 9) Try.func93 #[.int .i64 (wrap64 (bt a0 0))] ?_; (with_reducible refine (spec_Class.calls k (wrap64 (bt a0 0)) t532 _ A5.out).mono ?_); rintro e w' ⟨rfl, ⟨nd, rfl⟩⟩; refine ⟨_, rfl, ?_⟩))
     go_ret
     exact ⟨by first | rfl | (simp; done) | (simp [*]; done), by repeat (first | exact Drawn0.refl _ | apply Drawn0.step)⟩
    ·rw [if_neg c28] at H
     have c28b0 : decide (64 < t531) = false := decide_eq_false c28
     clear c28; obtain rfl := Option.some.inj H
     go_enter Try.func81, Try.ntmps81
     go_wp2_with (first | ((with_reducible refine gate_callee (f := 92) rfl ?_); refine goesC_ (some 5) Try.func92 #[.string a0] ?_; (with_reducible refine (spec_l9Run.calls k a0 t531 _ A2.out).mono ?_); rintro e w' ⟨rfl, ⟨nd, rfl⟩⟩; refine ⟨_, rfl, ?_⟩; have p4 : 0 ≤ (0 : Int) := (by omega); have q4 : 0 < a0.size := (by have : (0 : Int) < (a0.size : Int) := oD; omega); have hx4 : ∀ h : 0 < a0.size, ((a0[0]'h).toNat : Int) = bt a0 0 := bt_at a0 0; clear p4; have qi4 : (0 < (a0.size : Int)) = True := eq_true (oD); replace q4 := eq_true q4) | ((with_reducible refine gate_callee (f := 93) rfl ?_); refine goesC_ (some 9) Try.func93 #[.int .i64 (wrap64 (bt a0 0))] ?_; (with_reducible refine (spec_Class.calls k (wrap64 (bt a0 0)) t532 _ A5.out).mono ?_); rintro e w' ⟨rfl, ⟨nd, rfl⟩⟩; refine ⟨_, rfl, ?_⟩))
     go_ret
     exact ⟨by first | rfl | (simp; done) | (simp [*]; done), by repeat (first | exact Drawn0.refl _ | apply Drawn0.step)⟩
 ·rw [if_neg c3] at H
  exact absurd H (by simp)
end Go.Proofs.Ytddebnchbbmbkaa.PFnMemo
