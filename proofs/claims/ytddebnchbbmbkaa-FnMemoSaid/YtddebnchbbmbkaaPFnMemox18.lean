-- The machine side of a law: written by a program of this session (wip/tools), a turned print.
import Derived.Test.YtddebnchbbmbkaaPFnMemox0
import Derived.Test.YtddebnchbbmbkaaPFnMemox11
import Derived.Test.YtddebnchbbmbkaaPFnMemox14
import Derived.Test.YtddebnchbbmbkaaPFnMemox15
import Derived.Test.YtddebnchbbmbkaaPFnMemox16
import Derived.Test.YtddebnchbbmbkaaPFnMemox17
namespace Go.Proofs.Ytddebnchbbmbkaa.PFnMemo
open Go.RowKit Go.Proofs.YtddebnchbbmbkaaW.PrintWords Go.Proofs.YtddebnchbbmbkaaW.PrintLast Go.Proofs.YtddebnchbbmbkaaW.PrintMore
attribute [local go_sem] max2_int min2_int max_two min_two max_three min_three max_four min_four   -- for this text's walks alone
set_option linter.unusedVariables false
set_option linter.unusedSimpArgs false
def impl_runOf.l0 : Nat → ByteArray → Int → Int → Option (Int)
  | 0, _, _, _ => none
  | k + 1, x0, x1, x5 => if x5 < (x0.size : Int) then (if 0 ≤ x5 then ((impl_Class.f k (wrap64 (bt x0 x5))).bind fun t515 => (if 0 ≤ x1 then (if x1 < (x0.size : Int) then ((impl_Class.f k (wrap64 (bt x0 x1))).bind fun t516 => (if t515 = t516 then (impl_runOf.l0 k x0 x1 (wrap64 (x5 + 1))) else (some x5))) else (none)) else (none))) else (none)) else (some x5)
def impl_runOf.f (k : Nat) (a0 : ByteArray) (a1 : Int) : Option (Int) := impl_runOf.l0 k a0 a1 a1
theorem impl_runOf.mono_l : ∀ k, (∀ y0 y1 y2, LeO (impl_runOf.l0 k y0 y1 y2) (impl_runOf.l0 (k + 1) y0 y1 y2))
  | 0 => fun _ _ _ r h => by simp [impl_runOf.l0] at h
  | k + 1 => by
    have ih0 := impl_runOf.mono_l k
    · intro y0 y1 y2
      unfold impl_runOf.l0
      repeat' first
      | (with_reducible exact ih0 _ _ _)
      | (with_reducible exact impl_Class.mono _ _)
      | (with_reducible exact LeO.refl _)
      | (with_reducible exact LeO.none _)
      | (with_reducible refine LeO.ite ?_ ?_)
      | (with_reducible refine LeO.bind ?_ (fun _ => ?_))
      | exact ih0 _ _ _
      | exact impl_Class.mono _ _
      | exact LeO.none _
      | refine LeO.ite ?_ ?_
      | refine LeO.bind ?_ (fun _ => ?_)
theorem impl_runOf.mono : ∀ a0 a1 k, LeO (impl_runOf.f k a0 a1) (impl_runOf.f (k + 1) a0 a1) := by
  intro a0 a1 k
  have ih0 := impl_runOf.mono_l k
  unfold impl_runOf.f
  repeat' first
      | (with_reducible exact ih0 _ _ _)
      | (with_reducible exact impl_Class.mono _ _)
      | (with_reducible exact LeO.refl _)
      | (with_reducible exact LeO.none _)
      | (with_reducible refine LeO.ite ?_ ?_)
      | (with_reducible refine LeO.bind ?_ (fun _ => ?_))
      | exact ih0 _ _ _
      | exact impl_Class.mono _ _
      | exact LeO.none _
      | refine LeO.ite ?_ ?_
      | refine LeO.bind ?_ (fun _ => ?_)
set_option maxHeartbeats 8000000 in
set_option maxRecDepth 100000 in
theorem impl_runOf.calls (k : Nat) (a0 : ByteArray) (a1 : Int) (r : Int) (w : World) (h : impl_runOf.f k a0 a1 = some r) :
    Calls Try.prog 90 #[.string a0, .int .i64 a1] w fun e w' => e = .returned (.int .i64 r) ∧ Drawn0 w w' := by
  have H : (impl_runOf.l0 k a0 a1 a1) = some r := h
  clear h; have H' := Aside0.mk H
  clear H
  go_enter Try.func90, Try.ntmps90
  go_wp2
  repeat (go_quiet (fail); try go_wp2)
  go_loopg [5] k (fun kq v5 w' => ∃ (x5_1 : Int), v5 = .int .i64 x5_1 ∧ Aside0 (impl_runOf.l0 kq a0 a1 x5_1 = some r) ∧ Aside0 (kq ≤ k) ∧ Drawn0 w w')
  case atStart => exact ⟨(a1), sR, H', ⟨Nat.le_refl _⟩, by repeat (first | exact Drawn0.refl _ | apply Drawn0.step)⟩
  case round =>
    clear H'
    obtain ⟨x5_1, rfl, HA, HK1, ⟨m1, rfl⟩⟩ := hrel
    cases gk with
    | zero => exact absurd HA.out (by simp [impl_runOf.l0])
    | succ k1 =>
      have H := HA.out; clear HA; simp only [impl_runOf.l0] at H
      by_cases c3 : x5_1 < (a0.size : Int)
      · rw [if_pos c3] at H
        have c3b0 : decide (x5_1 < (a0.size : Int)) = true := decide_eq_true c3
        clear c3
        by_cases c4 : 0 ≤ x5_1
        · rw [if_pos c4] at H
          have c4b0 : decide (0 ≤ x5_1) = true := decide_eq_true c4
          clear c4; replace H := Option.bind_eq_some_iff.mp H
          obtain ⟨t515, A60, H⟩ := H
          replace H : (if 0 ≤ a1 then (if a1 < (a0.size : Int) then ((impl_Class.f k1 (wrap64 (bt a0 a1))).bind fun t516 => (if t515 = t516 then (impl_runOf.l0 k1 a0 a1 (wrap64 (x5_1 + 1))) else (some x5_1))) else (none)) else (none)) = some r := H
          have A6 := Aside0.mk A60
          clear A60
          by_cases c7 : 0 ≤ a1
          · rw [if_pos c7] at H
            have c7b0 : decide (0 ≤ a1) = true := decide_eq_true c7
            clear c7
            by_cases c8 : a1 < (a0.size : Int)
            · rw [if_pos c8] at H
              have c8b0 : decide (a1 < (a0.size : Int)) = true := decide_eq_true c8
              clear c8; replace H := Option.bind_eq_some_iff.mp H
              obtain ⟨t516, A100, H⟩ := H
              replace H : (if t515 = t516 then (impl_runOf.l0 k1 a0 a1 (wrap64 (x5_1 + 1))) else (some x5_1)) = some r := H
              have A10 := Aside0.mk A100
              clear A100
              by_cases c11 : t515 = t516
              · rw [if_pos c11] at H
                have c11b0 : (t515 == t516) = true := beq_iff_eq.mpr c11
                have c11b1 : (t515 != t516) = false := bne_eq_false_iff_eq.mpr c11
                clear c11; have H' := Aside0.mk H
                clear H; have p5 : 0 ≤ (x5_1 : Int) := oD
                have q5 : x5_1 < (a0.size : Int) := oD
                have hx5 := bt_at a0 x5_1
                replace p5 := eq_true p5
                replace q5 := eq_true q5
                (try (have p9 : 0 ≤ (a1 : Int) := oD; have q9 : a1 < (a0.size : Int) := oD; have hx9 := bt_at a0 a1; replace p9 := eq_true p9; replace q9 := eq_true q9))
                go_wp2_with (first | (go_at_call 91; (with_reducible refine (impl_Class.calls k1 (wrap64 (bt a0 x5_1)) t515 _ A6.out).mono ?_); rintro e w' ⟨rfl, ⟨nd, rfl⟩⟩; (first | exact ⟨rfl, _, World.drewN_drewN _ _ _⟩ | exact ⟨rfl, _, Eq.trans (World.drewN_drewN _ _ _) (congrArg (World.drewN _) (Nat.add_assoc _ _ _))⟩ | (have p9 : 0 ≤ (a1 : Int) := oD; have q9 : a1 < (a0.size : Int) := oD; have hx9 := bt_at a0 a1; replace p9 := eq_true p9; replace q9 := eq_true q9))) | (go_at_call 91; (with_reducible refine (impl_Class.calls k1 (wrap64 (bt a0 a1)) t516 _ A10.out).mono ?_); rintro e w' ⟨rfl, ⟨nd, rfl⟩⟩; (try first | exact ⟨rfl, _, World.drewN_drewN _ _ _⟩ | exact ⟨rfl, _, Eq.trans (World.drewN_drewN _ _ _) (congrArg (World.drewN _) (Nat.add_assoc _ _ _))⟩)))
                repeat (go_quiet (first | (go_at_call 91; (with_reducible refine (impl_Class.calls k1 (wrap64 (bt a0 x5_1)) t515 _ A6.out).mono ?_); rintro e w' ⟨rfl, ⟨nd, rfl⟩⟩; (first | exact ⟨rfl, _, World.drewN_drewN _ _ _⟩ | exact ⟨rfl, _, Eq.trans (World.drewN_drewN _ _ _) (congrArg (World.drewN _) (Nat.add_assoc _ _ _))⟩ | (have p9 : 0 ≤ (a1 : Int) := oD; have q9 : a1 < (a0.size : Int) := oD; have hx9 := bt_at a0 a1; replace p9 := eq_true p9; replace q9 := eq_true q9))) | (go_at_call 91; (with_reducible refine (impl_Class.calls k1 (wrap64 (bt a0 a1)) t516 _ A10.out).mono ?_); rintro e w' ⟨rfl, ⟨nd, rfl⟩⟩; (try first | exact ⟨rfl, _, World.drewN_drewN _ _ _⟩ | exact ⟨rfl, _, Eq.trans (World.drewN_drewN _ _ _) (congrArg (World.drewN _) (Nat.add_assoc _ _ _))⟩))); try go_wp2_with (first | (go_at_call 91; (with_reducible refine (impl_Class.calls k1 (wrap64 (bt a0 x5_1)) t515 _ A6.out).mono ?_); rintro e w' ⟨rfl, ⟨nd, rfl⟩⟩; (first | exact ⟨rfl, _, World.drewN_drewN _ _ _⟩ | exact ⟨rfl, _, Eq.trans (World.drewN_drewN _ _ _) (congrArg (World.drewN _) (Nat.add_assoc _ _ _))⟩ | (have p9 : 0 ≤ (a1 : Int) := oD; have q9 : a1 < (a0.size : Int) := oD; have hx9 := bt_at a0 a1; replace p9 := eq_true p9; replace q9 := eq_true q9))) | (go_at_call 91; (with_reducible refine (impl_Class.calls k1 (wrap64 (bt a0 a1)) t516 _ A10.out).mono ?_); rintro e w' ⟨rfl, ⟨nd, rfl⟩⟩; (try first | exact ⟨rfl, _, World.drewN_drewN _ _ _⟩ | exact ⟨rfl, _, Eq.trans (World.drewN_drewN _ _ _) (congrArg (World.drewN _) (Nat.add_assoc _ _ _))⟩))))
                go_roundg k1
                case measure => have := HK1.out; omega
                case rel => exact ⟨(wrap64 (x5_1 + 1)), sR, H', ⟨by have := HK1.out; omega⟩, by repeat (first | exact Drawn0.refl _ | apply Drawn0.step)⟩
              · rw [if_neg c11] at H
                have c11b0 : (t515 == t516) = false := beq_eq_false_iff_ne.mpr c11
                have c11b1 : (t515 != t516) = true := bne_iff_ne.mpr c11
                obtain rfl := Option.some.inj H
                have p5 : 0 ≤ (x5_1 : Int) := oD
                have q5 : x5_1 < (a0.size : Int) := oD
                have hx5 := bt_at a0 x5_1
                replace p5 := eq_true p5
                replace q5 := eq_true q5
                (try (have p9 : 0 ≤ (a1 : Int) := oD; have q9 : a1 < (a0.size : Int) := oD; have hx9 := bt_at a0 a1; replace p9 := eq_true p9; replace q9 := eq_true q9))
                go_wp2_with (first | (go_at_call 91; (with_reducible refine (impl_Class.calls k1 (wrap64 (bt a0 x5_1)) t515 _ A6.out).mono ?_); rintro e w' ⟨rfl, ⟨nd, rfl⟩⟩; (first | exact ⟨rfl, _, World.drewN_drewN _ _ _⟩ | exact ⟨rfl, _, Eq.trans (World.drewN_drewN _ _ _) (congrArg (World.drewN _) (Nat.add_assoc _ _ _))⟩ | (have p9 : 0 ≤ (a1 : Int) := oD; have q9 : a1 < (a0.size : Int) := oD; have hx9 := bt_at a0 a1; replace p9 := eq_true p9; replace q9 := eq_true q9))) | (go_at_call 91; (with_reducible refine (impl_Class.calls k1 (wrap64 (bt a0 a1)) t516 _ A10.out).mono ?_); rintro e w' ⟨rfl, ⟨nd, rfl⟩⟩; (try first | exact ⟨rfl, _, World.drewN_drewN _ _ _⟩ | exact ⟨rfl, _, Eq.trans (World.drewN_drewN _ _ _) (congrArg (World.drewN _) (Nat.add_assoc _ _ _))⟩)))
                repeat (go_quiet (first | (go_at_call 91; (with_reducible refine (impl_Class.calls k1 (wrap64 (bt a0 x5_1)) t515 _ A6.out).mono ?_); rintro e w' ⟨rfl, ⟨nd, rfl⟩⟩; (first | exact ⟨rfl, _, World.drewN_drewN _ _ _⟩ | exact ⟨rfl, _, Eq.trans (World.drewN_drewN _ _ _) (congrArg (World.drewN _) (Nat.add_assoc _ _ _))⟩ | (have p9 : 0 ≤ (a1 : Int) := oD; have q9 : a1 < (a0.size : Int) := oD; have hx9 := bt_at a0 a1; replace p9 := eq_true p9; replace q9 := eq_true q9))) | (go_at_call 91; (with_reducible refine (impl_Class.calls k1 (wrap64 (bt a0 a1)) t516 _ A10.out).mono ?_); rintro e w' ⟨rfl, ⟨nd, rfl⟩⟩; (try first | exact ⟨rfl, _, World.drewN_drewN _ _ _⟩ | exact ⟨rfl, _, Eq.trans (World.drewN_drewN _ _ _) (congrArg (World.drewN _) (Nat.add_assoc _ _ _))⟩))); try go_wp2_with (first | (go_at_call 91; (with_reducible refine (impl_Class.calls k1 (wrap64 (bt a0 x5_1)) t515 _ A6.out).mono ?_); rintro e w' ⟨rfl, ⟨nd, rfl⟩⟩; (first | exact ⟨rfl, _, World.drewN_drewN _ _ _⟩ | exact ⟨rfl, _, Eq.trans (World.drewN_drewN _ _ _) (congrArg (World.drewN _) (Nat.add_assoc _ _ _))⟩ | (have p9 : 0 ≤ (a1 : Int) := oD; have q9 : a1 < (a0.size : Int) := oD; have hx9 := bt_at a0 a1; replace p9 := eq_true p9; replace q9 := eq_true q9))) | (go_at_call 91; (with_reducible refine (impl_Class.calls k1 (wrap64 (bt a0 a1)) t516 _ A10.out).mono ?_); rintro e w' ⟨rfl, ⟨nd, rfl⟩⟩; (try first | exact ⟨rfl, _, World.drewN_drewN _ _ _⟩ | exact ⟨rfl, _, Eq.trans (World.drewN_drewN _ _ _) (congrArg (World.drewN _) (Nat.add_assoc _ _ _))⟩))))
                go_ret
                exact ⟨by first | rfl | (simp; done) | (simp [*]; done), by repeat (first | exact Drawn0.refl _ | apply Drawn0.step)⟩
            · rw [if_neg c8] at H
              exact absurd H (by simp)
          · rw [if_neg c7] at H
            exact absurd H (by simp)
        · rw [if_neg c4] at H
          exact absurd H (by simp)
      · rw [if_neg c3] at H
        have c3b0 : decide (x5_1 < (a0.size : Int)) = false := decide_eq_false c3
        clear c3; obtain rfl := Option.some.inj H
        go_wp2
        repeat (go_quiet (fail); try go_wp2)
        go_ret
        exact ⟨by first | rfl | (simp; done) | (simp [*]; done), by repeat (first | exact Drawn0.refl _ | apply Drawn0.step)⟩
def impl_wordOf.j0 : Nat → ByteArray → Int → Int → Bool → Option (Int)
  | 0, _, _, _, _ => none
  | k + 1, x0, x1, x5, x40 => if x40 = true then (some (mn x5 (wrap64 (x1 + 64)))) else (if x5 = (wrap64 (x1 + 1)) then ((impl_runOf.f k x0 x5).bind fun t520 => (some (mn t520 (wrap64 (x1 + 64))))) else (some (mn (wrap64 (x5 - 1)) (wrap64 (x1 + 64)))))
def impl_wordOf.f (k : Nat) (a0 : ByteArray) (a1 : Int) : Option (Int) := (impl_runOf.f k a0 a1).bind fun t517 => (if 0 ≤ a1 then (if a1 < (a0.size : Int) then ((impl_Class.f k (wrap64 (bt a0 a1))).bind fun t518 => (if t518 = 2 then (some (mn (mn t517 (wrap64 (a1 + 3))) (wrap64 (a1 + 64)))) else (if t518 = 3 then (if t517 = (a0.size : Int) then (impl_wordOf.j0 k a0 a1 t517 true) else (if 0 ≤ t517 then (if t517 < (a0.size : Int) then ((impl_Class.f k (wrap64 (bt a0 t517))).bind fun t519 => (if t519 = 2 then (impl_wordOf.j0 k a0 a1 t517 true) else (if 0 ≤ (wrap64 (t517 - 1)) then (if (wrap64 (t517 - 1)) < (a0.size : Int) then (impl_wordOf.j0 k a0 a1 t517 ((bt a0 (wrap64 (t517 - 1))) != 32)) else (none)) else (none)))) else (none)) else (none))) else (some (mn t517 (wrap64 (a1 + 64))))))) else (none)) else (none))
theorem impl_wordOf.mono_l : ∀ k, (∀ y0 y1 y2 y3, LeO (impl_wordOf.j0 k y0 y1 y2 y3) (impl_wordOf.j0 (k + 1) y0 y1 y2 y3))
  | 0 => fun _ _ _ _ r h => by simp [impl_wordOf.j0] at h
  | k + 1 => by
    have ih0 := impl_wordOf.mono_l k
    · intro y0 y1 y2 y3
      unfold impl_wordOf.j0
      repeat' first
      | (with_reducible exact ih0 _ _ _ _)
      | (with_reducible exact impl_Class.mono _ _)
      | (with_reducible exact impl_runOf.mono _ _ _)
      | (with_reducible exact LeO.refl _)
      | (with_reducible exact LeO.none _)
      | (with_reducible refine LeO.ite ?_ ?_)
      | (with_reducible refine LeO.bind ?_ (fun _ => ?_))
      | exact ih0 _ _ _ _
      | exact impl_Class.mono _ _
      | exact impl_runOf.mono _ _ _
      | exact LeO.none _
      | refine LeO.ite ?_ ?_
      | refine LeO.bind ?_ (fun _ => ?_)
theorem impl_wordOf.mono : ∀ a0 a1 k, LeO (impl_wordOf.f k a0 a1) (impl_wordOf.f (k + 1) a0 a1) := by
  intro a0 a1 k
  have ih0 := impl_wordOf.mono_l k
  unfold impl_wordOf.f
  repeat' first
      | (with_reducible exact ih0 _ _ _ _)
      | (with_reducible exact impl_Class.mono _ _)
      | (with_reducible exact impl_runOf.mono _ _ _)
      | (with_reducible exact LeO.refl _)
      | (with_reducible exact LeO.none _)
      | (with_reducible refine LeO.ite ?_ ?_)
      | (with_reducible refine LeO.bind ?_ (fun _ => ?_))
      | exact ih0 _ _ _ _
      | exact impl_Class.mono _ _
      | exact impl_runOf.mono _ _ _
      | exact LeO.none _
      | refine LeO.ite ?_ ?_
      | refine LeO.bind ?_ (fun _ => ?_)
set_option maxHeartbeats 8000000 in
set_option maxRecDepth 100000 in
theorem impl_wordOf.calls (k : Nat) (a0 : ByteArray) (a1 : Int) (r : Int) (w : World) (h : impl_wordOf.f k a0 a1 = some r) :
    Calls Try.prog 80 #[.string a0, .int .i64 a1] w fun e w' => e = .returned (.int .i64 r) ∧ Below w.heap.size w w' := by
  have HB := Aside0.mk (Below.refl w.heap.size w)
  have H : ((impl_runOf.f k a0 a1).bind fun t517 => (if 0 ≤ a1 then (if a1 < (a0.size : Int) then ((impl_Class.f k (wrap64 (bt a0 a1))).bind fun t518 => (if t518 = 2 then (some (mn (mn t517 (wrap64 (a1 + 3))) (wrap64 (a1 + 64)))) else (if t518 = 3 then (if t517 = (a0.size : Int) then (impl_wordOf.j0 k a0 a1 t517 true) else (if 0 ≤ t517 then (if t517 < (a0.size : Int) then ((impl_Class.f k (wrap64 (bt a0 t517))).bind fun t519 => (if t519 = 2 then (impl_wordOf.j0 k a0 a1 t517 true) else (if 0 ≤ (wrap64 (t517 - 1)) then (if (wrap64 (t517 - 1)) < (a0.size : Int) then (impl_wordOf.j0 k a0 a1 t517 ((bt a0 (wrap64 (t517 - 1))) != 32)) else (none)) else (none)))) else (none)) else (none))) else (some (mn t517 (wrap64 (a1 + 64))))))) else (none)) else (none))) = some r := h
  clear h; replace H := Option.bind_eq_some_iff.mp H
  obtain ⟨t517, A30, H⟩ := H
  replace H : (if 0 ≤ a1 then (if a1 < (a0.size : Int) then ((impl_Class.f k (wrap64 (bt a0 a1))).bind fun t518 => (if t518 = 2 then (some (mn (mn t517 (wrap64 (a1 + 3))) (wrap64 (a1 + 64)))) else (if t518 = 3 then (if t517 = (a0.size : Int) then (impl_wordOf.j0 k a0 a1 t517 true) else (if 0 ≤ t517 then (if t517 < (a0.size : Int) then ((impl_Class.f k (wrap64 (bt a0 t517))).bind fun t519 => (if t519 = 2 then (impl_wordOf.j0 k a0 a1 t517 true) else (if 0 ≤ (wrap64 (t517 - 1)) then (if (wrap64 (t517 - 1)) < (a0.size : Int) then (impl_wordOf.j0 k a0 a1 t517 ((bt a0 (wrap64 (t517 - 1))) != 32)) else (none)) else (none)))) else (none)) else (none))) else (some (mn t517 (wrap64 (a1 + 64))))))) else (none)) else (none)) = some r := H
  have A3 := Aside0.mk A30
  clear A30
  by_cases c4 : 0 ≤ a1
  · rw [if_pos c4] at H
    have c4b0 : decide (0 ≤ a1) = true := decide_eq_true c4
    clear c4
    by_cases c5 : a1 < (a0.size : Int)
    · rw [if_pos c5] at H
      have c5b0 : decide (a1 < (a0.size : Int)) = true := decide_eq_true c5
      clear c5; replace H := Option.bind_eq_some_iff.mp H
      obtain ⟨t518, A70, H⟩ := H
      replace H : (if t518 = 2 then (some (mn (mn t517 (wrap64 (a1 + 3))) (wrap64 (a1 + 64)))) else (if t518 = 3 then (if t517 = (a0.size : Int) then (impl_wordOf.j0 k a0 a1 t517 true) else (if 0 ≤ t517 then (if t517 < (a0.size : Int) then ((impl_Class.f k (wrap64 (bt a0 t517))).bind fun t519 => (if t519 = 2 then (impl_wordOf.j0 k a0 a1 t517 true) else (if 0 ≤ (wrap64 (t517 - 1)) then (if (wrap64 (t517 - 1)) < (a0.size : Int) then (impl_wordOf.j0 k a0 a1 t517 ((bt a0 (wrap64 (t517 - 1))) != 32)) else (none)) else (none)))) else (none)) else (none))) else (some (mn t517 (wrap64 (a1 + 64)))))) = some r := H
      have A7 := Aside0.mk A70
      clear A70
      by_cases c8 : t518 = 2
      · rw [if_pos c8] at H
        have c8b0 : (t518 == 2) = true := beq_iff_eq.mpr c8
        have c8b1 : (t518 != 2) = false := bne_eq_false_iff_eq.mpr c8
        clear c8; obtain ⟨ji9, hji9⟩ : ∃ j_ : Int, (mn t517 (wrap64 (a1 + 3))) = j_ := ⟨_, rfl⟩
        replace H : (some (mn (ji9) (wrap64 (a1 + 64)))) = some r := by first | (rw [hji9] at H; exact H) | (simp only [hji9] at H ⊢; exact H)
        (try rw [hji9] at A3)
        (try rw [hji9] at A7)
        have hji9_ : (if (wrap64 (a1 + 3)) < t517 then (wrap64 (a1 + 3)) else t517) = ji9 := hji9
        obtain ⟨ji10, hji10⟩ : ∃ j_ : Int, (mn (ji9) (wrap64 (a1 + 64))) = j_ := ⟨_, rfl⟩
        replace H : (some ji10) = some r := by first | (rw [hji10] at H; exact H) | (simp only [hji10] at H ⊢; exact H)
        (try rw [hji10] at A3)
        (try rw [hji10] at A7)
        have hji10_ : (if (wrap64 (a1 + 64)) < (ji9) then (wrap64 (a1 + 64)) else (ji9)) = ji10 := hji10
        obtain rfl := Option.some.inj H
        go_enter Try.func80, Try.ntmps80
        go_wp2_with (first | ((with_reducible refine gate_callee (f := 90) rfl ?_); refine goesC_ (some 8) Try.func90 #[.string a0, .int .i64 a1] ?_; (with_reducible refine (impl_runOf.calls k a0 a1 t517 _ A3.out).mono ?_); rintro e w' ⟨rfl, ⟨nd, rfl⟩⟩; refine ⟨_, rfl, ?_⟩; have p6 : 0 ≤ (a1 : Int) := oD; have q6 : a1 < (a0.size : Int) := oD; have hx6 := bt_at a0 a1; replace p6 := eq_true p6; replace q6 := eq_true q6) | ((with_reducible refine gate_callee (f := 91) rfl ?_); refine goesC_ (some 13) Try.func91 #[.int .i64 (wrap64 (bt a0 a1))] ?_; (with_reducible refine (impl_Class.calls k (wrap64 (bt a0 a1)) t518 _ A7.out).mono ?_); rintro e w' ⟨rfl, ⟨nd, rfl⟩⟩; refine ⟨_, rfl, ?_⟩))
        go_ret
        exact ⟨by first | rfl | (simp [errW_none, errW_some] <;> rfl) | (simp only [← hji9, ← hji10]; first | rfl | (simp [errW_none, errW_some] <;> rfl)) | (simp [*, errW_none, errW_some] <;> rfl), iB HB⟩
      · rw [if_neg c8] at H
        have c8b0 : (t518 == 2) = false := beq_eq_false_iff_ne.mpr c8
        have c8b1 : (t518 != 2) = true := bne_iff_ne.mpr c8
        by_cases c11 : t518 = 3
        · rw [if_pos c11] at H
          have c11b0 : (t518 == 3) = true := beq_iff_eq.mpr c11
          have c11b1 : (t518 != 3) = false := bne_eq_false_iff_eq.mpr c11
          clear c11; have HC12 := Aside0.mk H
          clear H
          go_enter Try.func80, Try.ntmps80
          go_upto_region 6 with (first | ((with_reducible refine gate_callee (f := 90) rfl ?_); refine goesC_ (some 8) Try.func90 #[.string a0, .int .i64 a1] ?_; (with_reducible refine (impl_runOf.calls k a0 a1 t517 _ A3.out).mono ?_); rintro e w' ⟨rfl, ⟨nd, rfl⟩⟩; refine ⟨_, rfl, ?_⟩; have p6 : 0 ≤ (a1 : Int) := oD; have q6 : a1 < (a0.size : Int) := oD; have hx6 := bt_at a0 a1; replace p6 := eq_true p6; replace q6 := eq_true q6) | ((with_reducible refine gate_callee (f := 91) rfl ?_); refine goesC_ (some 13) Try.func91 #[.int .i64 (wrap64 (bt a0 a1))] ?_; (with_reducible refine (impl_Class.calls k (wrap64 (bt a0 a1)) t518 _ A7.out).mono ?_); rintro e w' ⟨rfl, ⟨nd, rfl⟩⟩; refine ⟨_, rfl, ?_⟩))
          (try simp only [putL])
          go_cut [40] (fun v40 wc => ∃ (kq : Nat) (a9a : Bool), v40 = .bool a9a ∧ Aside0 (impl_wordOf.j0 kq a0 a1 t517 a9a = some r) ∧ Aside0 (kq ≤ k) ∧ Aside0 (Below w.heap.size w wc))
          case first =>
            have H := HC12.out; clear HC12
            by_cases c13 : t517 = (a0.size : Int)
            · rw [if_pos c13] at H
              have c13b0 : (t517 == (a0.size : Int)) = true := beq_iff_eq.mpr c13
              have c13b1 : (t517 != (a0.size : Int)) = false := bne_eq_false_iff_eq.mpr c13
              clear c13
              (first | rw [c13b0] | (simp only [i64_w, i32_w]; rw [c13b0]) | skip)
              have H' := Aside0.mk H
              clear H
              go_wp2
              go_meet
              case rel => exact ⟨_, (true), sR, H', ⟨by first | omega | exact Nat.le_refl _⟩, ⟨iB HB⟩⟩
            · rw [if_neg c13] at H
              have c13b0 : (t517 == (a0.size : Int)) = false := beq_eq_false_iff_ne.mpr c13
              have c13b1 : (t517 != (a0.size : Int)) = true := bne_iff_ne.mpr c13
              (first | rw [c13b0] | (simp only [i64_w, i32_w]; rw [c13b0]) | skip)
              by_cases c14 : 0 ≤ t517
              · rw [if_pos c14] at H
                have c14b0 : decide (0 ≤ t517) = true := decide_eq_true c14
                clear c14
                by_cases c15 : t517 < (a0.size : Int)
                · rw [if_pos c15] at H
                  have c15b0 : decide (t517 < (a0.size : Int)) = true := decide_eq_true c15
                  clear c15; replace H := Option.bind_eq_some_iff.mp H
                  obtain ⟨t519, A170, H⟩ := H
                  replace H : (if t519 = 2 then (impl_wordOf.j0 k a0 a1 t517 true) else (if 0 ≤ (wrap64 (t517 - 1)) then (if (wrap64 (t517 - 1)) < (a0.size : Int) then (impl_wordOf.j0 k a0 a1 t517 ((bt a0 (wrap64 (t517 - 1))) != 32)) else (none)) else (none))) = some r := H
                  have A17 := Aside0.mk A170
                  clear A170
                  by_cases c18 : t519 = 2
                  · rw [if_pos c18] at H
                    have c18b0 : (t519 == 2) = true := beq_iff_eq.mpr c18
                    have c18b1 : (t519 != 2) = false := bne_eq_false_iff_eq.mpr c18
                    clear c18; have H' := Aside0.mk H
                    clear H; have p16 : 0 ≤ (t517 : Int) := oD
                    have q16 : t517 < (a0.size : Int) := oD
                    have hx16 := bt_at a0 t517
                    replace p16 := eq_true p16
                    replace q16 := eq_true q16
                    go_wp2_with (first | (go_at_call 91; (with_reducible refine (impl_Class.calls k (wrap64 (bt a0 t517)) t519 _ A17.out).mono ?_); rintro e w' ⟨rfl, ⟨nd, rfl⟩⟩))
                    go_meet
                    case rel => exact ⟨_, (true), sR, H', ⟨by first | omega | exact Nat.le_refl _⟩, ⟨iB HB⟩⟩
                  · rw [if_neg c18] at H
                    have c18b0 : (t519 == 2) = false := beq_eq_false_iff_ne.mpr c18
                    have c18b1 : (t519 != 2) = true := bne_iff_ne.mpr c18
                    obtain ⟨ji19, hji19⟩ : ∃ j_ : Int, (wrap64 (t517 - 1)) = j_ := ⟨_, rfl⟩
                    replace H : (if 0 ≤ (ji19) then (if (ji19) < (a0.size : Int) then (impl_wordOf.j0 k a0 a1 t517 ((bt a0 (ji19)) != 32)) else (none)) else (none)) = some r := by first | (rw [hji19] at H; exact H) | (simp only [hji19] at H ⊢; exact H)
                    (try rw [hji19] at A17)
                    have hji19w : (IntKind.i64.wrap (t517 - 1)) = ji19 := (i64_w _).trans hji19
                    by_cases c20 : 0 ≤ (ji19)
                    · rw [if_pos c20] at H
                      have c20b0 : decide (0 ≤ (ji19)) = true := decide_eq_true c20
                      clear c20
                      by_cases c21 : (ji19) < (a0.size : Int)
                      · rw [if_pos c21] at H
                        have c21b0 : decide ((ji19) < (a0.size : Int)) = true := decide_eq_true c21
                        clear c21; have H' := Aside0.mk H
                        clear H; have p16 : 0 ≤ (t517 : Int) := oD
                        have q16 : t517 < (a0.size : Int) := oD
                        have hx16 := bt_at a0 t517
                        replace p16 := eq_true p16
                        replace q16 := eq_true q16
                        go_wp2_with (first | (go_at_call 91; (with_reducible refine (impl_Class.calls k (wrap64 (bt a0 t517)) t519 _ A17.out).mono ?_); rintro e w' ⟨rfl, ⟨nd, rfl⟩⟩; have p22 : 0 ≤ ((ji19) : Int) := oD; have q22 : (ji19) < (a0.size : Int) := oD; have hx22 := bt_at a0 (ji19); replace p22 := eq_true p22; replace q22 := eq_true q22))
                        go_meet
                        case rel => exact ⟨_, (((bt a0 (ji19)) != 32)), (by first | rfl | (simp; done) | (simp only [← hji19] <;> (first | rfl | simp)) | (simp [*]; done)), H', ⟨by first | omega | exact Nat.le_refl _⟩, ⟨iB HB⟩⟩
                      · rw [if_neg c21] at H
                        exact absurd H (by simp)
                    · rw [if_neg c20] at H
                      exact absurd H (by simp)
                · rw [if_neg c15] at H
                  exact absurd H (by simp)
              · rw [if_neg c14] at H
                exact absurd H (by simp)
          case rest =>
            clear HC12; obtain ⟨kq, a9a, rfl, HA, HJ11, HB⟩ := hcut
            cases kq with
            | zero => exact absurd HA.out (by simp [impl_wordOf.j0])
            | succ kj11 =>
              have H := HA.out; clear HA; simp only [impl_wordOf.j0] at H
              by_cases c23 : a9a = true
              · subst c23
                have H1 : (some (mn t517 (wrap64 (a1 + 64)))) = some r := by rw [if_pos rfl] at H; exact H
                clear H; have H := H1
                clear H1; obtain ⟨ji24, hji24⟩ : ∃ j_ : Int, (mn t517 (wrap64 (a1 + 64))) = j_ := ⟨_, rfl⟩
                replace H : (some ji24) = some r := by first | (rw [hji24] at H; exact H) | (simp only [hji24] at H ⊢; exact H)
                have hji24_ : (if (wrap64 (a1 + 64)) < t517 then (wrap64 (a1 + 64)) else t517) = ji24 := hji24
                obtain rfl := Option.some.inj H
                go_wp2
                go_ret
                exact ⟨by first | rfl | (simp [errW_none, errW_some] <;> rfl) | (simp only [← hji24]; first | rfl | (simp [errW_none, errW_some] <;> rfl)) | (simp [*, errW_none, errW_some] <;> rfl), iB HB⟩
              · replace c23 := Bool.eq_false_iff.mpr c23
                subst c23
                have H1 : (if t517 = (wrap64 (a1 + 1)) then ((impl_runOf.f kj11 a0 t517).bind fun t520 => (some (mn t520 (wrap64 (a1 + 64))))) else (some (mn (wrap64 (t517 - 1)) (wrap64 (a1 + 64))))) = some r := by rw [if_neg (show ¬ (false = true) by decide)] at H; exact H
                clear H; have H := H1
                clear H1
                by_cases c25 : t517 = (wrap64 (a1 + 1))
                · rw [if_pos c25] at H
                  have c25b0 : (t517 == (wrap64 (a1 + 1))) = true := beq_iff_eq.mpr c25
                  have c25b1 : (t517 != (wrap64 (a1 + 1))) = false := bne_eq_false_iff_eq.mpr c25
                  clear c25; replace H := Option.bind_eq_some_iff.mp H
                  obtain ⟨t520, A260, H⟩ := H
                  replace H : (some (mn t520 (wrap64 (a1 + 64)))) = some r := H
                  have A26 := Aside0.mk A260
                  clear A260; obtain ⟨ji27, hji27⟩ : ∃ j_ : Int, (mn t520 (wrap64 (a1 + 64))) = j_ := ⟨_, rfl⟩
                  replace H : (some ji27) = some r := by first | (rw [hji27] at H; exact H) | (simp only [hji27] at H ⊢; exact H)
                  (try rw [hji27] at A26)
                  have hji27_ : (if (wrap64 (a1 + 64)) < t520 then (wrap64 (a1 + 64)) else t520) = ji27 := hji27
                  obtain rfl := Option.some.inj H
                  go_wp2_with (first | ((with_reducible refine gate_callee (f := 90) rfl ?_); refine goesC_ (some 47) Try.func90 #[.string a0, .int .i64 t517] ?_; (with_reducible refine (impl_runOf.calls kj11 a0 t517 t520 _ A26.out).mono ?_); rintro e w' ⟨rfl, ⟨nd, rfl⟩⟩; refine ⟨_, rfl, ?_⟩))
                  go_ret
                  exact ⟨by first | rfl | (simp [errW_none, errW_some] <;> rfl) | (simp only [← hji27]; first | rfl | (simp [errW_none, errW_some] <;> rfl)) | (simp [*, errW_none, errW_some] <;> rfl), iB HB⟩
                · rw [if_neg c25] at H
                  have c25b0 : (t517 == (wrap64 (a1 + 1))) = false := beq_eq_false_iff_ne.mpr c25
                  have c25b1 : (t517 != (wrap64 (a1 + 1))) = true := bne_iff_ne.mpr c25
                  obtain ⟨ji28, hji28⟩ : ∃ j_ : Int, (mn (wrap64 (t517 - 1)) (wrap64 (a1 + 64))) = j_ := ⟨_, rfl⟩
                  replace H : (some ji28) = some r := by first | (rw [hji28] at H; exact H) | (simp only [hji28] at H ⊢; exact H)
                  have hji28_ : (if (wrap64 (a1 + 64)) < (wrap64 (t517 - 1)) then (wrap64 (a1 + 64)) else (wrap64 (t517 - 1))) = ji28 := hji28
                  obtain rfl := Option.some.inj H
                  go_wp2
                  go_ret
                  exact ⟨by first | rfl | (simp [errW_none, errW_some] <;> rfl) | (simp only [← hji28]; first | rfl | (simp [errW_none, errW_some] <;> rfl)) | (simp [*, errW_none, errW_some] <;> rfl), iB HB⟩
        · rw [if_neg c11] at H
          have c11b0 : (t518 == 3) = false := beq_eq_false_iff_ne.mpr c11
          have c11b1 : (t518 != 3) = true := bne_iff_ne.mpr c11
          obtain ⟨ji29, hji29⟩ : ∃ j_ : Int, (mn t517 (wrap64 (a1 + 64))) = j_ := ⟨_, rfl⟩
          replace H : (some ji29) = some r := by first | (rw [hji29] at H; exact H) | (simp only [hji29] at H ⊢; exact H)
          (try rw [hji29] at A3)
          (try rw [hji29] at A7)
          have hji29_ : (if (wrap64 (a1 + 64)) < t517 then (wrap64 (a1 + 64)) else t517) = ji29 := hji29
          obtain rfl := Option.some.inj H
          go_enter Try.func80, Try.ntmps80
          go_wp2_with (first | ((with_reducible refine gate_callee (f := 90) rfl ?_); refine goesC_ (some 8) Try.func90 #[.string a0, .int .i64 a1] ?_; (with_reducible refine (impl_runOf.calls k a0 a1 t517 _ A3.out).mono ?_); rintro e w' ⟨rfl, ⟨nd, rfl⟩⟩; refine ⟨_, rfl, ?_⟩; have p6 : 0 ≤ (a1 : Int) := oD; have q6 : a1 < (a0.size : Int) := oD; have hx6 := bt_at a0 a1; replace p6 := eq_true p6; replace q6 := eq_true q6) | ((with_reducible refine gate_callee (f := 91) rfl ?_); refine goesC_ (some 13) Try.func91 #[.int .i64 (wrap64 (bt a0 a1))] ?_; (with_reducible refine (impl_Class.calls k (wrap64 (bt a0 a1)) t518 _ A7.out).mono ?_); rintro e w' ⟨rfl, ⟨nd, rfl⟩⟩; refine ⟨_, rfl, ?_⟩))
          go_ret
          exact ⟨by first | rfl | (simp [errW_none, errW_some] <;> rfl) | (simp only [← hji29]; first | rfl | (simp [errW_none, errW_some] <;> rfl)) | (simp [*, errW_none, errW_some] <;> rfl), iB HB⟩
    · rw [if_neg c5] at H
      exact absurd H (by simp)
  · rw [if_neg c4] at H
    exact absurd H (by simp)
def impl_Cut.l0 : Nat → ByteArray → List ByteArray → Int → Option (List ByteArray)
  | 0, _, _, _ => none
  | k + 1, x0, x3, x4 => if x4 < (x0.size : Int) then ((impl_wordOf.f k x0 x4).bind fun t524 => (if 0 ≤ x4 then (if x4 ≤ t524 then (if t524 ≤ (x0.size : Int) then (if x3.length < 8796093022208 then (impl_Cut.l0 k x0 (x3 ++ [x0.extract (x4 : Int).toNat (t524 : Int).toNat]) t524) else (none)) else (none)) else (none)) else (none))) else (some x3)
def impl_Cut.f (k : Nat) (a0 : ByteArray) : Option (List ByteArray) := (some (([] : List ByteArray) : List ByteArray)).bind fun y521 => (if (a0.size : Int) > 1000 then (some y521) else (impl_Cut.l0 k a0 y521 0))
theorem impl_Cut.mono_l : ∀ k, (∀ y0 y1 y2, LeO (impl_Cut.l0 k y0 y1 y2) (impl_Cut.l0 (k + 1) y0 y1 y2))
  | 0 => fun _ _ _ r h => by simp [impl_Cut.l0] at h
  | k + 1 => by
    have ih0 := impl_Cut.mono_l k
    · intro y0 y1 y2
      unfold impl_Cut.l0
      repeat' first
      | (with_reducible exact ih0 _ _ _)
      | (with_reducible exact impl_wordOf.mono _ _ _)
      | (with_reducible exact LeO.refl _)
      | (with_reducible exact LeO.none _)
      | (with_reducible refine LeO.ite ?_ ?_)
      | (with_reducible refine LeO.bind ?_ (fun _ => ?_))
      | exact ih0 _ _ _
      | exact impl_wordOf.mono _ _ _
      | exact LeO.none _
      | refine LeO.ite ?_ ?_
      | refine LeO.bind ?_ (fun _ => ?_)
theorem impl_Cut.mono : ∀ a0 k, LeO (impl_Cut.f k a0) (impl_Cut.f (k + 1) a0) := by
  intro a0 k
  have ih0 := impl_Cut.mono_l k
  unfold impl_Cut.f
  repeat' first
      | (with_reducible exact ih0 _ _ _)
      | (with_reducible exact impl_wordOf.mono _ _ _)
      | (with_reducible exact LeO.refl _)
      | (with_reducible exact LeO.none _)
      | (with_reducible refine LeO.ite ?_ ?_)
      | (with_reducible refine LeO.bind ?_ (fun _ => ?_))
      | exact ih0 _ _ _
      | exact impl_wordOf.mono _ _ _
      | exact LeO.none _
      | refine LeO.ite ?_ ?_
      | refine LeO.bind ?_ (fun _ => ?_)
set_option maxHeartbeats 8000000 in
set_option maxRecDepth 100000 in
theorem impl_Cut.calls (k : Nat) (a0 : ByteArray) (r : List ByteArray) (w : World) (h : impl_Cut.f k a0 = some r) :
    Calls Try.prog 55 #[.string a0] w fun e w' => ∃ v0_ : Value, e = .returned (v0_) ∧ Kd.R Kd.string 9 w' w.heap.size (fun _ => True) v0_ r ∧ Below w.heap.size w w' := by
  have HB := Aside0.mk (Below.refl w.heap.size w)
  have H : ((some (([] : List ByteArray) : List ByteArray)).bind fun y521 => (if (a0.size : Int) > 1000 then (some y521) else (impl_Cut.l0 k a0 y521 0))) = some r := h
  clear h; obtain ⟨y521, hy521⟩ : ∃ y_ : List ByteArray, y_ = (([] : List ByteArray)) := ⟨_, rfl⟩
  replace H : (if (a0.size : Int) > 1000 then (some y521) else (impl_Cut.l0 k a0 y521 0)) = some r := by first | (rw [hy521]; with_reducible exact H) | (have H2_ := (Option.bind_some _ _).symm.trans H; rw [hy521]; with_reducible exact H2_) | (have H2_ := (Option.bind_some _ _).symm.trans H; with_reducible exact H2_) | with_reducible exact H | (rw [hy521]; exact H) | exact H
  have Ny521 := Aside0.mk hy521
  clear hy521
  by_cases c2 : (a0.size : Int) > 1000
  · rw [if_pos c2] at H
    have c2b0 : decide (1000 < (a0.size : Int)) = true := decide_eq_true c2
    have c2b1 : decide (1000 < a0.size) = true := decide_eq_true (by omega)
    clear c2; obtain rfl := Option.some.inj H
    go_enter Try.func55, Try.ntmps55
    go_wp2_with (first | ((with_reducible refine gate_dst (N := 6) rfl ?_); refine Kd.R_lit Kd.string _ 9 ?hg (N := 6) ?hd (xs := ([] : List ByteArray)) (inner := []) (ok := fun _ => True) (okp := fun _ => True) ?hr ?hp (fun _ hk => hk) trivial (Below.refl _ _) (Nat.le_refl _) (by simp) ?_; (case hd => rfl); (case hg => rfl); (case hr => first | (go_simp; done) | (go_simp; rfl)); (case hp => exact (Reps.none _ _)); intro v522 w3 ho4 hb hg_ hnew_; clear hg_ hnew_; (first | rw [← Ny521.out] at ho4 | (simp only [Int.reduceToNat] at ho4; rw [← Ny521.out] at ho4)); have HO523 := Aside0.mk (Kd.R_lower ho4 (below_size (be HB))); replace HB := bh HB hb; clear hb ho4))
    go_ret
    exact ⟨_, eR, rX HO523.out, iB HB⟩
  · rw [if_neg c2] at H
    have c2b0 : decide (1000 < (a0.size : Int)) = false := decide_eq_false c2
    have c2b1 : decide (1000 < a0.size) = false := decide_eq_false (by omega)
    clear c2; have H' := Aside0.mk H
    clear H
    go_enter Try.func55, Try.ntmps55
    go_wp2_with (first | ((with_reducible refine gate_dst (N := 6) rfl ?_); refine Kd.R_lit Kd.string _ 9 ?hg (N := 6) ?hd (xs := ([] : List ByteArray)) (inner := []) (ok := fun _ => True) (okp := fun _ => True) ?hr ?hp (fun _ hk => hk) trivial (Below.refl _ _) (Nat.le_refl _) (by simp) ?_; (case hd => rfl); (case hg => rfl); (case hr => first | (go_simp; done) | (go_simp; rfl)); (case hp => exact (Reps.none _ _)); intro v522 w5 ho6 hb hg_ hnew_; clear hg_ hnew_; (first | rw [← Ny521.out] at ho6 | (simp only [Int.reduceToNat] at ho6; rw [← Ny521.out] at ho6)); have HO523 := Aside0.mk (Kd.R_lower ho6 (below_size (be HB))); replace HB := bh HB hb; clear hb ho6))
    go_loopg [3, 4] k (fun kq v3 v4 w' => ∃ (x3_1 : List ByteArray) (x4_1 : Int), v4 = .int .i64 x4_1 ∧ Aside0 (impl_Cut.l0 kq a0 x3_1 x4_1 = some r) ∧ Aside0 (kq ≤ k) ∧ Aside0 (Kd.R Kd.string 9 w' w.heap.size (fun _ => True) v3 x3_1) ∧ Aside0 (Below w.heap.size w w'))
    case atStart => exact ⟨(y521), (0), sR, H', ⟨Nat.le_refl _⟩, ⟨rr HO523⟩, ⟨iB HB⟩⟩
    case round =>
      clear H'
      obtain ⟨x3_1, x4_1, rfl, HA, HK1, HO_3, HB⟩ := hrel
      cases gk with
      | zero => exact absurd HA.out (by simp [impl_Cut.l0])
      | succ k1 =>
        have H := HA.out; clear HA; simp only [impl_Cut.l0] at H
        by_cases c7 : x4_1 < (a0.size : Int)
        · rw [if_pos c7] at H
          have c7b0 : decide (x4_1 < (a0.size : Int)) = true := decide_eq_true c7
          clear c7; replace H := Option.bind_eq_some_iff.mp H
          obtain ⟨t524, A80, H⟩ := H
          replace H : (if 0 ≤ x4_1 then (if x4_1 ≤ t524 then (if t524 ≤ (a0.size : Int) then (if x3_1.length < 8796093022208 then (impl_Cut.l0 k1 a0 (x3_1 ++ [a0.extract (x4_1 : Int).toNat (t524 : Int).toNat]) t524) else (none)) else (none)) else (none)) else (none)) = some r := H
          have A8 := Aside0.mk A80
          clear A80
          by_cases c9 : 0 ≤ x4_1
          · rw [if_pos c9] at H
            have c9b0 := eq_true c9
            have c9b1 : decide (0 ≤ x4_1) = true := decide_eq_true c9
            clear c9
            by_cases c10 : x4_1 ≤ t524
            · rw [if_pos c10] at H
              have c10b0 := eq_true c10
              have c10b1 : decide (x4_1 ≤ t524) = true := decide_eq_true c10
              clear c10
              by_cases c11 : t524 ≤ (a0.size : Int)
              · rw [if_pos c11] at H
                have c11b0 := eq_true c11
                have c11b1 : decide (t524 ≤ (a0.size : Int)) = true := decide_eq_true c11
                clear c11
                by_cases c12 : x3_1.length < 8796093022208
                · rw [if_pos c12] at H
                  have LMc12 := Aside0.mk c12
                  clear c12; obtain ⟨y525, hy525⟩ : ∃ y_ : List ByteArray, y_ = (x3_1 ++ [a0.extract (x4_1 : Int).toNat (t524 : Int).toNat]) := ⟨_, rfl⟩
                  replace H : (impl_Cut.l0 k1 a0 y525 t524) = some r := by first | (rw [hy525]; with_reducible exact H) | (have H2_ := (Option.bind_some _ _).symm.trans H; rw [hy525]; with_reducible exact H2_) | (have H2_ := (Option.bind_some _ _).symm.trans H; with_reducible exact H2_) | with_reducible exact H | (rw [hy525]; exact H) | exact H
                  have Ny525 := Aside0.mk hy525
                  clear hy525; have H' := Aside0.mk H
                  clear H
                  go_wp2_with (first | ((with_reducible refine gate_callee (f := 80) rfl ?_); refine goesC_ (some 17) Try.func80 #[.string a0, .int .i64 x4_1] ?_; (with_reducible refine (impl_wordOf.calls k1 a0 x4_1 t524 _ A8.out).mono ?_); rintro e w13 ⟨rfl, hb⟩; refine ⟨_, rfl, ?_⟩; replace HO_3 := Aside0.mk (Kd.R_below (rr HO_3) hb); replace HB := bh HB hb; (try clear hb); (try clear hb2); (try clear hk); (try clear hi)) | ((with_reducible refine gate_builtin (b := .append) (xs := #[.tmp 18, .tmp 23]) rfl ?_); at_builtin; refine Kd.R_append Kd.string (w0 := w) w.heap.size rfl (.tmp 18) (.tmp 23) 35 9 (.string ⟨#[]⟩) 16 rfl Try.underlying35 info9 rfl (by decide) (by omega) u3 x3_1 (a0.extract (x4_1 : Int).toNat (t524 : Int).toNat) [.string (a0.extract (x4_1 : Int).toNat (t524 : Int).toNat)] (fun _ => True) (fun _ => False) rfl rfl ?aP (fun _ hk => hk.elim) ?aF ?aO ?aB ?aS ?aL ?_; (case aP => exact rfl); (case aB => exact (be HB)); (case aF => exact (fun _ _ => trivial)); (case aO => exact (rr HO_3)); (case aS => exact (below_size (be HB))); (case aL => have := LMc12.out; omega); intro v526 w14 ho hb hg hat; rw [← Ny525.out] at ho; have n0_ := Aside0.mk (hb); have HO527 := Aside0.mk (ho); clear HO_3 HB; have HB := n0_; clear n0_; clear ho hb hg hat))
                  go_roundg k1
                  case measure => have := HK1.out; omega
                  case rel => exact ⟨(y525), (t524), sR, H', ⟨by have := HK1.out; omega⟩, ⟨rr HO527⟩, ⟨iB HB⟩⟩
                · rw [if_neg c12] at H
                  exact absurd H (by simp)
              · rw [if_neg c11] at H
                exact absurd H (by simp)
            · rw [if_neg c10] at H
              exact absurd H (by simp)
          · rw [if_neg c9] at H
            exact absurd H (by simp)
        · rw [if_neg c7] at H
          have c7b0 : decide (x4_1 < (a0.size : Int)) = false := decide_eq_false c7
          clear c7; obtain rfl := Option.some.inj H
          go_wp2
          go_ret
          exact ⟨_, eR, rX HO_3.out, iB HB⟩
def impl_EncodeMemo.l0 : Nat → List ByteArray → Int → Int → List (S95) → Int → List (S86) → List Int → Option (Int × (List (S86)) × (List Int) × Int)
  | 0, _, _, _, _, _, _, _ => none
  | k + 1, ws, n, i, v, room, l, xs => if i < n then (if 0 ≤ i then (if i < (ws.length : Int) then ((impl_Memo_recall.f k v room l (rdOf ByteArray.empty ws i)).bind fun r => (if xs.length + r.2.1.length < 17592186044416 then (impl_EncodeMemo.l0 k ws n (wrap64 (i + 1)) v room r.1 (xs ++ r.2.1)) else (none))) else (none)) else (none)) else ((impl_copyMemo.f k room l).bind fun z => (some (z.1, z.2, xs, 0)))
def impl_EncodeMemo.f (k : Nat) (l0_0 : List (S95)) (a1_0 : Int) (l1_1 : List (S86)) (a2 : ByteArray) : Option (Int × (List (S86)) × (List Int) × Int) :=
  (impl_MemoOk.f k l0_0 a1_0 l1_1).bind fun b => (if b = true then ((impl_copyMemo.f k a1_0 l1_1).bind fun q => (if (a2.size : Int) > 1000 then (some (q.1, q.2, ([] : List Int), 2)) else ((impl_Cut.f k a2).bind fun t => (impl_EncodeMemo.l0 k t (t.length : Int) 0 l0_0 q.1 q.2 ([] : List Int))))) else (some (0, ([] : List (S86)), ([] : List Int), 1)))
theorem impl_Memo_recall.mono (l0 : List S95) (room : Int) (l1 : List S86) (a2 : ByteArray) (k : Nat) : LeO (impl_Memo_recall.f k l0 room l1 a2) (impl_Memo_recall.f (k + 1) l0 room l1 a2) := by
  unfold impl_Memo_recall.f impl_Memo_recall.pick
  refine LeO.bind (impl_Memo_at.mono _ _ _ _) (fun i => LeO.bind ?_ (fun q => LeO.refl _))
  exact LeO.ite (LeO.refl _) (LeO.bind (impl_bpe.mono _ _ _) (fun _ => LeO.refl _))
theorem impl_EncodeMemo.mono_l : ∀ k, (∀ y0 y1 y2 y3 y4 y5 y6, LeO (impl_EncodeMemo.l0 k y0 y1 y2 y3 y4 y5 y6) (impl_EncodeMemo.l0 (k + 1) y0 y1 y2 y3 y4 y5 y6))
  | 0 => fun _ _ _ _ _ _ _ r h => by simp [impl_EncodeMemo.l0] at h
  | k + 1 => by
    have ih0 := impl_EncodeMemo.mono_l k
    intro y0 y1 y2 y3 y4 y5 y6
    unfold impl_EncodeMemo.l0
    exact LeO.ite (LeO.ite (LeO.ite (LeO.bind (impl_Memo_recall.mono _ _ _ _ _) (fun _ => LeO.ite (ih0 _ _ _ _ _ _ _) (LeO.none _))) (LeO.none _)) (LeO.none _)) (LeO.bind (impl_copyMemo.mono _ _ _) (fun _ => LeO.refl _))
theorem impl_EncodeMemo.mono (l0_0 : List (S95)) (a1_0 : Int) (l1_1 : List (S86)) (a2 : ByteArray) (k : Nat) : LeO (impl_EncodeMemo.f k l0_0 a1_0 l1_1 a2) (impl_EncodeMemo.f (k + 1) l0_0 a1_0 l1_1 a2) := by
  unfold impl_EncodeMemo.f
  exact LeO.bind (impl_MemoOk.mono _ _ _ _) (fun b => LeO.ite (LeO.bind (impl_copyMemo.mono _ _ _) (fun q => LeO.ite (LeO.refl _) (LeO.bind (impl_Cut.mono _ _) (fun t => impl_EncodeMemo.mono_l k _ _ _ _ _ _ _)))) (LeO.refl _))
set_option maxHeartbeats 4000000 in
set_option maxRecDepth 100000 in
theorem impl_EncodeMemo.calls (k : Nat) (A0_0 : Option Addr) (c0_0 : Nat) (l0_0 : List (S95)) (a1_0 : Int) (A1_1 : Option Addr) (c1_1 : Nat) (l1_1 : List (S86)) (a2 : ByteArray) (r1 : Int) (r2 : List (S86)) (r3 : List Int) (r4 : Int) (w : World) (hr0_0 : Kd.C k95 w A0_0 l0_0.length l0_0) (hc0_0 : l0_0.length ≤ c0_0) (hr1_1 : Kd.C k86 w A1_1 l1_1.length l1_1) (hc1_1 : l1_1.length ≤ c1_1) (h : impl_EncodeMemo.f k l0_0 a1_0 l1_1 a2 = some (r1, r2, r3, r4)) :
  Calls Try.prog 28 #[.agg #[.slice A0_0 l0_0.length c0_0], .agg #[.int .i64 a1_0, .slice A1_1 l1_1.length c1_1], .string a2] w fun e w' => ∃ v1_ v2_ : Value, e = .returned (.tuple #[.agg #[.int .i64 r1, v1_], v2_, .int .i64 r4]) ∧ Kd.S k86 86 w' w.heap.size (fun k_ => some k_ ≠ (v2_ : Value).ownBlock) v1_ r2 ∧ Kd.R (Kd.int .i64) 3 w' w.heap.size (fun _ => True) v2_ r3 ∧ Below w.heap.size w w' := by
 have hu26 := Try.underlying26
 have hu31 := Try.underlying31
 unfold impl_EncodeMemo.f at h
 obtain ⟨b, hok, h⟩ := Option.bind_eq_some_iff.mp h
 have HR0 := Aside0.mk hr0_0
 have HC0 := Aside0.mk hc0_0
 have HR1 := Aside0.mk hr1_1
 have HC1 := Aside0.mk hc1_1
 have HOK := Aside0.mk hok
 have H := Aside0.mk h
 clear hr0_0 hc0_0 hr1_1 hc1_1 hok h
 go_enter Try.func28, Try.ntmps28
 go_upto_if 18 with (first
  | ((with_reducible refine gate_dst (N := 3) rfl ?_); refine bX 3 #[.slice A0_0 l0_0.length c0_0] 26 ?_; intro gv hg w1 hbox hb; have BKV := Aside0.mk hbox; have HB1 := Aside0.mk hb; have GV1 : Aside0 (gv = w.heap.size) := ⟨hg⟩; clear hbox hb hg)
  | ((with_reducible refine gate_dst (N := 4) rfl ?_); refine bX 4 #[.int .i64 a1_0, .slice A1_1 l1_1.length c1_1] 31 ?_; intro gw hg w2 hbox hb; have BKW := Aside0.mk hbox; have BKV2 := bq BKV hb; have HB2 : Aside0 (Below w.heap.size w w2) := ⟨below_step HB1.out hb⟩; have GW1 : Aside0 (gv < gw) := ⟨by rw [hg]; exact blk_lt BKV.out⟩; clear hbox hb hg)
  | ((with_reducible refine gate_dst (N := 6) rfl ?_); refine bX 6 #[.int .i64 0, .slice none 0 0] 31 ?_; intro gr hg w3 hbox hb; have BKR := Aside0.mk hbox; have BKV3 := bq BKV2 hb; have BKW3 := bq BKW hb; have HB3 : Aside0 (Below w.heap.size w w3) := ⟨below_step HB2.out hb⟩; have GR1 : Aside0 (gw < gr) := ⟨by rw [hg]; exact blk_lt BKW.out⟩; have hcv : w3.cell? ⟨gv, 0, none⟩ = some (.slice A0_0 l0_0.length c0_0) := bc BKV3 0; have hcw0 : w3.cell? ⟨gw, 0, none⟩ = some (.int .i64 a1_0) := bc BKW3 0; have hcw1 : w3.cell? ⟨gw, 1, none⟩ = some (.slice A1_1 l1_1.length c1_1) := bc BKW3 1; clear hbox hb hg)
  | (go_at_call 31; refine (impl_MemoOk.calls k A0_0 c0_0 l0_0 a1_0 A1_1 c1_1 l1_1 b _ (Kd.C_below HR0.out HB3.out) HC0.out (Kd.C_below HR1.out HB3.out) HC1.out HOK.out).mono ?_; rintro e w4 ⟨rfl, hb⟩; have BKV4 := bq BKV3 hb; have BKW4 := bq BKW3 hb; have BKR4 := bq BKR hb; have HB4 : Aside0 (Below w.heap.size w w4) := ⟨below_step HB3.out hb⟩; clear hb hcv hcw0 hcw1; have hcv : w4.cell? ⟨gv, 0, none⟩ = some (.slice A0_0 l0_0.length c0_0) := bc BKV4 0; have hcw0 : w4.cell? ⟨gw, 0, none⟩ = some (.int .i64 a1_0) := bc BKW4 0; have hcw1 : w4.cell? ⟨gw, 1, none⟩ = some (.slice A1_1 l1_1.length c1_1) := bc BKW4 1; have hcr0 : w4.cell? ⟨gr, 0, none⟩ = some (.int .i64 0) := bc BKR4 0; have hcr1 : w4.cell? ⟨gr, 1, none⟩ = some (.slice none 0 0) := bc BKR4 1; have hfr0 := blk_frozen BKR4.out 0; have hfr1 := blk_frozen BKR4.out 1))
 cases b with
 | false =>
  have h := H.out; rw [if_neg (by simp)] at h
  simp only [Option.some.injEq, Prod.mk.injEq] at h
  obtain ⟨rfl, rfl, rfl, rfl⟩ := h
  have hgr : w.heap.size ≤ gr := by have := GR1.out; have := GW1.out; have := GV1.out; omega
  go_wp2
  refine bodyPost_ret (results_ctt rfl _ _ gr 31 #[.int .i64 0, .slice none 0 0] (0, 0) _ rfl (blk_put (cs := #[.int .i64 0, .slice none 0 0]) (blk_put (cs := #[.int .i64 0, .slice none 0 0]) BKR4.out 0 _ rfl) 1 _ rfl) Try.underlying31 rfl (by kernel_rfl)) rfl ?_
  exact ⟨.slice none 0 0, .slice none 0 0, rfl, Kd.S_nil _ _ _ _ _, Kd.R_nil _ _ _ _ _, below_set (below_set HB4.out hgr) hgr⟩
 | true =>
  have h := H.out; rw [if_pos rfl] at h
  obtain ⟨⟨q1, q2⟩, hcp, h⟩ := Option.bind_eq_some_iff.mp h
  have HCP := Aside0.mk hcp
  have H2 := Aside0.mk h
  clear hcp h; have hgr : w.heap.size ≤ gr := by have := GR1.out; have := GW1.out; have := GV1.out; omega
  go_upto_if 24 with (first
   | (go_at_call 37; refine (impl_copyMemo.calls k a1_0 A1_1 c1_1 l1_1 q1 q2 _ (Kd.C_below HR1.out HB4.out) HC1.out HCP.out).mono ?_; rintro e w5 ⟨v5, rfl, ho5, hb5⟩; obtain ⟨Av, cv, rfl⟩ := Kd.S_slice ho5; have HS5 := Aside0.mk ho5; have BKV5 := bq BKV4 hb5; have BKW5 := bq BKW4 hb5; have BKR5 := bq BKR4 hb5; have HB5 : Aside0 (Below w.heap.size w w5) := ⟨below_step HB4.out hb5⟩; have HSZ5 : Aside0 (w4.heap.size ≤ w5.heap.size) := ⟨hb5.size⟩; clear ho5 hb5 hcv hcw0 hcw1 hcr0 hcr1 hfr0 hfr1)
   | ((with_reducible refine gate_dst (N := 9) rfl ?_); refine bX 9 #[.int .i64 0, .slice none 0 0] 31 ?_; intro go hg w6 hbox hb; have BKO := Aside0.mk hbox; have BKV6 := bq BKV5 hb; have BKR6 := bq BKR5 hb; have HB6 : Aside0 (Below w.heap.size w w6) := ⟨below_step HB5.out hb⟩; have HS6 := Aside0.mk (Kd.S_below (Kd.S_elderB HS5.out go (Nat.le_of_eq hg.symm)) hb); have GO1 : Aside0 (gr < go) := ⟨by rw [hg]; exact blk_lt BKR5.out⟩; have GO2 : Aside0 (w4.heap.size ≤ go) := ⟨by rw [hg]; exact HSZ5.out⟩; clear hbox hb hg; have hco0 : w6.cell? ⟨go, 0, none⟩ = some (.int .i64 0) := bc BKO 0; have hco1 : w6.cell? ⟨go, 1, none⟩ = some (.slice none 0 0) := bc BKO 1; have hfo0 := blk_frozen BKO.out 0; have hfo1 := blk_frozen BKO.out 1))
  generalize hwx : (w6.setCell ⟨go, 0, none⟩ (.int .i64 q1)).setCell ⟨go, 1, none⟩ (.slice Av q2.length cv) = wx
  have hrg : gr ≠ go := by have := GO1.out; omega
  have hvg : gv ≠ go := by have := GO1.out; have := GR1.out; have := GW1.out; omega
  have hgo : w.heap.size ≤ go := by have := GO2.out; have := HB4.out.size; omega
  have BKOx : Aside0 (wx.heap[go]? = some (.cells #[.int .i64 q1, .slice Av q2.length cv] 31 (0, 0))) := ⟨hwx ▸ blk_put (cs := #[.int .i64 q1, .slice none 0 0]) (blk_put (cs := #[.int .i64 0, .slice none 0 0]) BKO.out 0 _ rfl) 1 _ rfl⟩
  have BKRx : Aside0 (wx.heap[gr]? = some (.cells #[.int .i64 0, .slice none 0 0] 31 (0, 0))) := ⟨hwx ▸ blk_far (blk_far BKR6.out (p := ⟨go, 0, none⟩) hrg _) (p := ⟨go, 1, none⟩) hrg _⟩
  have BKVx : Aside0 (wx.heap[gv]? = some (.cells #[.slice A0_0 l0_0.length c0_0] 26 (0, 0))) := ⟨hwx ▸ blk_far (blk_far BKV6.out (p := ⟨go, 0, none⟩) hvg _) (p := ⟨go, 1, none⟩) hvg _⟩
  have HSx : Aside0 (Kd.S k86 86 wx w4.heap.size (fun k_ => True ∧ k_ ≠ go) (.slice Av q2.length cv) q2) := ⟨hwx ▸ Kd.S_far (Kd.S_far HS6.out (p := ⟨go, 0, none⟩) (fun _ hk => hk.2) _) (p := ⟨go, 1, none⟩) (fun _ hk => hk.2) _⟩
  have HBx : Aside0 (Below w.heap.size w wx) := ⟨hwx ▸ below_set (below_set HB6.out hgo) hgo⟩
  have GRL : Aside0 (gr < w4.heap.size) := ⟨blk_lt BKR4.out⟩
  have GVL : Aside0 (gv < w4.heap.size) := ⟨blk_lt BKV4.out⟩
  clear hwx BKO BKV6 BKR6 HB6 HS6 BKV5 BKW5 BKR5 HB5 HS5 hco0 hco1 hfo0 hfo1; have hco0 : wx.cell? ⟨go, 0, none⟩ = some (.int .i64 q1) := bc BKOx 0
  have hco1 : wx.cell? ⟨go, 1, none⟩ = some (.slice Av q2.length cv) := bc BKOx 1
  have hcr0 : wx.cell? ⟨gr, 0, none⟩ = some (.int .i64 0) := bc BKRx 0
  have hcr1 : wx.cell? ⟨gr, 1, none⟩ = some (.slice none 0 0) := bc BKRx 1
  have hfr0 := blk_frozen BKRx.out 0; have hfr1 := blk_frozen BKRx.out 1
  by_cases hsz : (a2.size : Int) > 1000
  · have h := H2.out
    rw [if_pos hsz] at h
    have hszb : decide (1000 < (a2.size : Int)) = true := decide_eq_true hsz
    simp only [Option.some.injEq, Prod.mk.injEq] at h
    obtain ⟨rfl, rfl, rfl, rfl⟩ := h
    rw [hszb]
    go_wp2
    refine bodyPost_ret (results_ctt rfl _ _ gr 31 #[.int .i64 q1, .slice Av q2.length cv] (0, 0) _ rfl (blk_put (cs := #[.int .i64 q1, .slice none 0 0]) (blk_put (cs := #[.int .i64 0, .slice none 0 0]) BKRx.out 0 _ rfl) 1 _ rfl) Try.underlying31 rfl (by kernel_rfl)) rfl ?_
    refine ⟨_, .slice none 0 0, rfl, Kd.S_mono (Kd.S_lower (Kd.S_step (Kd.S_bound HSx.out) (fun k hk hlt => ?_)) HB4.out.size) (fun k _ => by simp [Value.ownBlock]), Kd.R_nil _ _ _ _ _, below_set (below_set HBx.out hgr) hgr⟩
    have hne : k ≠ gr := by have := hk.2.1; have := GRL.out; omega
    rw [Below.heap_setCell _ _ _ k hne, Below.heap_setCell _ _ _ k hne]
  · have h := H2.out
    rw [if_neg hsz] at h
    have hszb : decide (1000 < (a2.size : Int)) = false := decide_eq_false hsz
    obtain ⟨t, hcut, h⟩ := Option.bind_eq_some_iff.mp h
    have HCT := Aside0.mk hcut
    have H' := Aside0.mk h
    clear hcut h hsz; rw [hszb]
    go_wp2_with (first
     | ((with_reducible refine gate_dst (N := 26) rfl ?_); refine Kd.R_lit (Kd.int .i64) _ 3 ?hg (N := 26) ?hd (xs := ([] : List Int)) (inner := []) (ok := fun _ => True) (okp := fun _ => True) ?hr ?hp (fun _ hk => hk) trivial (Below.refl _ _) (Nat.le_refl _) (by simp) ?_; (case hd => rfl); (case hg => rfl); (case hr => first | (go_simp; done) | (go_simp; rfl)); (case hp => exact (Reps.none _ _)); intro v10 w7 ho7 hb hg_ hnew_; clear hg_ hnew_; (try simp only [Int.reduceToNat] at ho7); have hle7 : w.heap.size ≤ wx.heap.size := HBx.out.size; have HA7 := Aside0.mk (Kd.R_lower ho7 hle7); have BKV7 := bq BKVx hb; have BKR7 := bq BKRx hb; have BKO7 := bq BKOx hb; have HN7 := Aside0.mk (Kd.N_elder' (Kd.S_N HSx.out) (Kd.R_base ho7) hb); have HB7 : Aside0 (Below w.heap.size w w7) := ⟨below_step HBx.out hb⟩; clear ho7 hb)
     | (go_at_call 55; refine (impl_Cut.calls k a2 t _ HCT.out).mono ?_; rintro e w8 ⟨v8, rfl, ho8, hb⟩; have HA8 := Aside0.mk (Kd.R_below HA7.out hb); have hle8 : w.heap.size ≤ w7.heap.size := HB7.out.size; have HW8 := Aside0.mk (Kd.R_lower ho8 hle8); have BKV8 := bq BKV7 hb; have BKR8 := bq BKR7 hb; have BKO8 := bq BKO7 hb; have HN8 := Aside0.mk (Kd.N_below HN7.out hb); have HB8 : Aside0 (Below w.heap.size w w8) := ⟨below_step HB7.out hb⟩; obtain ⟨Aw, cw, rfl⟩ := Kd.R_slice ho8; clear ho8 hb))
    have hbw8 : w4.heap.size ≤ wx.heap.size := by have := GO2.out; have := blk_lt BKOx.out; omega
    have H4L : Aside0 (w.heap.size ≤ w4.heap.size) := ⟨HB4.out.size⟩
    clear hbw8
    go_loopg [10, 30] k (fun kq v10 v30 w' => ∃ (ys : List Int) (i : Int) (L : List S86) (An : Option Addr) (cn : Nat), v30 = .int .i64 i ∧ Aside0 (impl_EncodeMemo.l0 kq t (t.length : Int) i l0_0 q1 L ys = some (r1, r2, r3, r4)) ∧ Aside0 (kq ≤ k) ∧ Aside0 (Kd.R (Kd.int .i64) 3 w' w.heap.size (fun _ => True) v10 ys) ∧ Aside0 (Kd.R Kd.string 9 w' w.heap.size (fun _ => True) (.slice Aw t.length cw) t) ∧ Aside0 (w'.heap[gv]? = some (.cells #[.slice A0_0 l0_0.length c0_0] 26 (0, 0))) ∧ Aside0 (w'.heap[gr]? = some (.cells #[.int .i64 0, .slice none 0 0] 31 (0, 0))) ∧ Aside0 (w'.heap[go]? = some (.cells #[.int .i64 q1, .slice An L.length cn] 31 (0, 0))) ∧ Aside0 (Kd.N k86 86 w' w4.heap.size (fun k_ => k_ ≠ go ∧ some k_ ≠ v10.ownBlock) (.slice An L.length cn) L) ∧ Aside0 (Below w.heap.size w w'))
    case atStart => exact ⟨[], 0, q2, Av, cv, rfl, H', ⟨Nat.le_refl _⟩, HA8, HW8, BKV8, BKR8, BKO8, ⟨Kd.N_mono HN8.out (fun k hk => ⟨hk.1.2, hk.2⟩)⟩, HB8⟩
    case round =>
      clear H' H2 H HN8 HW8 HA8 BKV8 BKR8 BKO8 HB8 HN7 HA7 BKV7 BKR7 BKO7 HB7 BKVx BKRx BKOx HSx HBx hco0 hco1 hcr0 hcr1 hfr0 hfr1
      obtain ⟨ys, i, L, An, cn, rfl, HA, HK1, HO, HW, BKV, BKR, BKO, HN, HB⟩ := hrel
      cases gk with
      | zero => exact absurd HA.out (by simp [impl_EncodeMemo.l0])
      | succ k1 =>
        have h := HA.out; clear HA; simp only [impl_EncodeMemo.l0] at h
        by_cases c1 : i < (t.length : Int)
        · rw [if_pos c1] at h
          have c1b : decide (i < (t.length : Int)) = true := decide_eq_true c1
          by_cases c2 : 0 ≤ i
          · rw [if_pos c2, if_pos c1] at h
            obtain ⟨⟨m1, m2, m3⟩, hrec, h⟩ := Option.bind_eq_some_iff.mp h
            by_cases c3 : ys.length + m2.length < 17592186044416
            · rw [if_pos c3] at h
              have HRC := Aside0.mk hrec
              have HL3 := Aside0.mk c3
              have H' := Aside0.mk h
              clear hrec c3 h; obtain ⟨ad, ead, hx0⟩ := Kd.at_string (Kd.R_reads' HW.out).2.2 i c2 c1
              cases ead
              have p1 := eq_true c2
              have q1_ := eq_true c1
              have c2b : decide (0 ≤ i) = true := decide_eq_true c2
              have hcv : wr.cell? ⟨gv, 0, none⟩ = some (.slice A0_0 l0_0.length c0_0) := bc BKV 0
              have hfv := blk_frozen BKV.out 0; clear c1 c2
              go_wp2_with (first
               | (go_at_call 39; refine (impl_Memo_recall.calls k1 A0_0 c0_0 l0_0 (rdOf ByteArray.empty t i) go q1 (.slice An L.length cn) L w4.heap.size (fun k_ => k_ ≠ go ∧ some k_ ≠ u10.ownBlock) m1 m2 m3 _ (Kd.C_below HR0.out HB.out) HC0.out BKO.out HN.out (fun _ hk => hk.1) GO2.out HRC.out).mono ?_; rintro e wy ⟨v7, Ay, cy, rfl, hoy, hby, hny, hbel, hfr⟩; obtain ⟨At, ct, rfl⟩ := Kd.R_slice hoy; have hgos : go < wr.heap.size := blk_lt BKO.out; have HTy := Aside0.mk hoy; have BKOy := Aside0.mk hby; have BKVy : Aside0 (wy.heap[gv]? = some (.cells #[.slice A0_0 l0_0.length c0_0] 26 (0, 0))) := ⟨(hbel.block gv GVL.out).trans BKV.out⟩; have BKRy : Aside0 (wy.heap[gr]? = some (.cells #[.int .i64 0, .slice none 0 0] 31 (0, 0))) := ⟨(hbel.block gr GRL.out).trans BKR.out⟩; have HBy : Aside0 (Below w.heap.size w wy) := ⟨HB.out.trans ⟨hbel.os, hbel.tape, hbel.output, hbel.size, fun k hk => hbel.block k (Nat.lt_of_lt_of_le hk H4L.out)⟩⟩; have HNy : Aside0 (Kd.N k86 86 wy w4.heap.size (fun k_ => k_ ≠ go ∧ some k_ ≠ u10.ownBlock) (.slice Ay m1.length cy) m1) := ⟨Kd.N_mono hny (fun k hk => hk.1.elim id (fun h => ⟨by omega, fun e => by have := Kd.R_lt HO.out k e.symm; omega⟩))⟩; have HOy : Aside0 (Kd.R (Kd.int .i64) 3 wy w.heap.size (fun k_ => some k_ ≠ (.slice At m2.length ct : Value).ownBlock) u10 ys) := ⟨Kd.R_mono (Kd.R_step (Kd.R_tight rfl HO.out) (fun k hk hlt => hfr k hlt (fun e => Kd.R_ne HO.out BKO.out (by decide) (by rw [← e]; exact hk)) (fun e => (HN.out.1 k e.symm).2 hk))) (fun k hk e => by have h1 := Kd.R_lt HO.out k hk.symm; have h2 := Kd.R_base hoy k e.symm; omega)⟩; have HWy : Aside0 (Kd.R Kd.string 9 wy w.heap.size (fun _ => True) (.slice (some ad) t.length cw) t) := ⟨Kd.R_mono (Kd.R_step (Kd.R_tight rfl HW.out) (fun k hk hlt => hfr k hlt (fun e => Kd.R_ne HW.out BKO.out (by decide) (by rw [← e]; exact hk)) (by obtain ⟨cl, hcl⟩ := Kd.R_typed HW.out k hk.symm; exact Kd.N_ne HN.out hcl (by decide)))) (fun _ _ => trivial)⟩; clear hoy hby hny hbel hfr hcv hfv)
               | ((with_reducible refine gate_builtin (b := .append) (xs := #[.tmp 40, .tmp 41]) rfl ?_); at_builtin; refine Kd.R_append_rows (Kd.int .i64) (w0 := w) w.heap.size rfl (.tmp 40) (.tmp 41) 36 3 (.int .i64 0) 8 rfl Try.underlying36 info3 rfl (by decide) (by omega) u10 ys m2 _ _ _ (fun k_ => some k_ ≠ (.slice At m2.length ct : Value).ownBlock) (fun _ => False) rfl rfl ?aO ?aR (fun _ _ h => h) (fun _ h => h.elim) ?aF ?aB ?aS ?aL ?_; (case aR => exact (Kd.R_reads' HTy.out).2.2); (case aB => exact HBy.out); (case aF => exact (fun k_ hk => Kd.fresh' (Kd.R_lt HTy.out) k_ hk)); (case aO => exact HOy.out); (case aS => exact HBy.out.size); (case aL => have := HL3.out; omega); intro v42 wz ho hb hg hat; have BKVz := Aside0.mk (blk_grown BKVy.out hg (Kd.R_ne HOy.out BKVy.out (by decide))); have BKRz := Aside0.mk (blk_grown BKRy.out hg (Kd.R_ne HOy.out BKRy.out (by decide))); have BKOz := Aside0.mk (blk_grown BKOy.out hg (Kd.R_ne HOy.out BKOy.out (by decide))); have HWz := Aside0.mk (Kd.R_over' HWy.out (Kd.R_typed HOy.out) (by decide) hg); have HNz := Aside0.mk (Kd.N_after HNy.out hg hat); have HOz : Aside0 (Kd.R (Kd.int .i64) 3 wz w.heap.size (fun _ => True) v42 (ys ++ m2)) := ⟨Kd.R_mono ho (fun _ _ => trivial)⟩; have HBz := Aside0.mk hb; clear ho hb hg hat))
              go_roundg k1
              case measure => have := HK1.out; omega
              case rel => exact ⟨ys ++ m2, wrap64 (i + 1), m1, Ay, cy, rfl, H', ⟨by have := HK1.out; omega⟩, HOz, HWz, BKVz, BKRz, BKOz, HNz, HBz⟩
            · rw [if_neg c3] at h
              cases h
          · rw [if_neg c2] at h
            cases h
        · rw [if_neg c1] at h
          have c1b : decide (i < (t.length : Int)) = false := decide_eq_false c1
          obtain ⟨⟨z1, z2⟩, hcp2, h⟩ := Option.bind_eq_some_iff.mp h
          simp only [Option.some.injEq, Prod.mk.injEq] at h
          obtain ⟨rfl, rfl, rfl, rfl⟩ := h
          have HC2 := Aside0.mk hcp2
          clear hcp2 c1; have hco0 : wr.cell? ⟨go, 0, none⟩ = some (.int .i64 q1) := bc BKO 0
          have hco1 : wr.cell? ⟨go, 1, none⟩ = some (.slice An L.length cn) := bc BKO 1
          go_wp2_with (go_at_call 37; refine (impl_copyMemo.calls _ q1 An cn L z1 z2 _ (Kd.N_reads' HN.out).2.2 (Kd.N_reads' HN.out).2.1 HC2.out).mono ?_; rintro e wz ⟨v8, rfl, ho8, hb8⟩; obtain ⟨Az, cz, rfl⟩ := Kd.S_slice ho8; have HSZ := Aside0.mk ho8; have HBZ := Aside0.mk hb8; have BKRz := bq BKR hb8; have HAz := Aside0.mk (Kd.R_below HO.out hb8); clear ho8 hb8; have hcr0 : wz.cell? ⟨gr, 0, none⟩ = some (.int .i64 0) := bc BKRz 0; have hcr1 : wz.cell? ⟨gr, 1, none⟩ = some (.slice none 0 0) := bc BKRz 1; have hfr0 := blk_frozen BKRz.out 0; have hfr1 := blk_frozen BKRz.out 1)
          have hgrr : gr < wr.heap.size := blk_lt BKR.out
          have hwr : w.heap.size ≤ wr.heap.size := HB.out.size
          have hBz : Below w.heap.size w wz := below_step HB.out HBZ.out
          refine bodyPost_ret (results_ctt rfl _ _ gr 31 #[.int .i64 z1, .slice Az z2.length cz] (0, 0) _ rfl (blk_put (cs := #[.int .i64 z1, .slice none 0 0]) (blk_put (cs := #[.int .i64 0, .slice none 0 0]) BKRz.out 0 _ rfl) 1 _ rfl) Try.underlying31 rfl (by kernel_rfl)) rfl ?_
          refine ⟨_, _, rfl, Kd.S_mono (Kd.S_lower (Kd.S_step (Kd.S_bound HSZ.out) (fun k hk hlt => ?_)) hwr) (fun k hk e => ?_), Kd.R_mono (Kd.R_step (Kd.R_tight rfl HAz.out) (fun k hk hlt => ?_)) (fun _ _ => trivial), below_set (below_set hBz hgr) hgr⟩
          · have hne : k ≠ gr := by have := hk.2.1; omega
            rw [Below.heap_setCell _ _ _ k hne, Below.heap_setCell _ _ _ k hne]
          · have h1 := Kd.R_lt HO.out k e.symm
            have h2 := hk.2.1
            omega
          · have hne : k ≠ gr := fun e => Kd.R_ne HAz.out BKRz.out (by decide) (by rw [← e]; exact hk)
            rw [Below.heap_setCell _ _ _ k hne, Below.heap_setCell _ _ _ k hne]
end Go.Proofs.Ytddebnchbbmbkaa.PFnMemo
