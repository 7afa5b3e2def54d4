-- The machine side of a law: written by a program of this session (wip/tools), a turned print.
import Derived.Test.YtobkmpihjfiihaaDoorPFnCanonx0
namespace Go.Proofs.YtobkmpihjfiihaaDoor.PFnCanon
open Go.RowKit Go.Proofs.YtobkmpihjfiihaaDoorW.PrintWords Go.Proofs.YtobkmpihjfiihaaDoorW.PrintLast Go.Proofs.YtobkmpihjfiihaaDoorW.PrintMore
attribute [local go_sem] max2_int min2_int max_two min_two max_three min_three max_four min_four   -- for this text's walks alone
set_option linter.unusedVariables false
set_option linter.unusedSimpArgs false
def laws_big.f (l0 : List Int) : Option (Bool) := some (decide ((l0.length : Int) > 1048576))
set_option maxHeartbeats 8000000 in
set_option maxRecDepth 100000 in
theorem laws_big.calls (A0 : Option Addr) (c0 : Nat) (l0 : List Int) (r : Bool) (w : World) (hr0 : Kd.C (Kd.int .u8) w A0 l0.length l0) (hc0 : l0.length ≤ c0) (h : laws_big.f l0 = some r) :
    Calls Tryd.prog 11 #[.slice A0 l0.length c0] w fun e w' => e = .returned (.bool r) ∧ Drawn0 w w' := by
  have HR0 := Aside0.mk hr0
  have HC0 := Aside0.mk hc0
  clear hr0 hc0; have H : (some (decide ((l0.length : Int) > 1048576))) = some r := h
  clear h; obtain rfl := Option.some.inj H
  go_enter Tryd.func11, Tryd.ntmps11
  go_wp2
  go_ret
  exact ⟨by first | rfl | (simp; done) | (simp [*]; done), by repeat (first | exact Drawn0.refl _ | apply Drawn0.step)⟩
def impl_within.f (a0 : Int) (a1 : Int) (a2 : Int) : Option (Bool) := if a0 ≥ a1 then (some (decide (a0 ≤ a2))) else (some false)
set_option maxHeartbeats 8000000 in
set_option maxRecDepth 100000 in
theorem impl_within.calls (a0 : Int) (a1 : Int) (a2 : Int) (r : Bool) (w : World) (h : impl_within.f a0 a1 a2 = some r) :
    Calls Tryd.prog 67 #[.int .i64 a0, .int .i64 a1, .int .i64 a2] w fun e w' => e = .returned (.bool r) ∧ Drawn0 w w' := by
  have H : (if a0 ≥ a1 then (some (decide (a0 ≤ a2))) else (some false)) = some r := h
  clear h
  by_cases c4 : a0 ≥ a1
  · rw [if_pos c4] at H
    have c4b0 : decide (a1 ≤ a0) = true := decide_eq_true c4
    clear c4; obtain rfl := Option.some.inj H
    go_enter Tryd.func67, Tryd.ntmps67
    go_wp2
    go_ret
    exact ⟨by first | rfl | (simp; done) | (simp [*]; done), by repeat (first | exact Drawn0.refl _ | apply Drawn0.step)⟩
  · rw [if_neg c4] at H
    have c4b0 : decide (a1 ≤ a0) = false := decide_eq_false c4
    clear c4; obtain rfl := Option.some.inj H
    go_enter Tryd.func67, Tryd.ntmps67
    go_wp2
    go_ret
    exact ⟨by first | rfl | (simp; done) | (simp [*]; done), by repeat (first | exact Drawn0.refl _ | apply Drawn0.step)⟩
mutual
def impl_Fixed.j0 : Nat → Int → Int → Bool → Option (ByteArray)
  | 0, _, _, _ => none
  | k + 1, x0, x1, x20 => if x20 = true then (some (⟨#[]⟩ : ByteArray)) else (if 0 ≤ x1 then (if (x1 : Int).toNat ≤ 281474976710656 then (impl_Fixed.l0 k x0 (List.replicate (x1 : Int).toNat 0) (wrap64 (x1 - 1))) else (none)) else (none))
def impl_Fixed.l0 : Nat → Int → List Int → Int → Option (ByteArray)
  | 0, _, _, _ => none
  | k + 1, x0, x5, x6 => if x6 ≥ 0 then (if 0 ≤ x6 then (if x6 < (x5.length : Int) then (impl_Fixed.l0 k (x0 / 256) (x5.set (x6 : Int).toNat ((Go.bits .and .i64 x0 255) % 256)) (wrap64 (x6 - 1))) else (none)) else (none)) else (some (strOfNums x5))
end
def impl_Fixed.f (k : Nat) (a0 : Int) (a1 : Int) : Option (ByteArray) := (impl_within.f a1 1 7).bind fun t205 => (if t205 = true then (if a0 < 0 then (impl_Fixed.j0 k a0 a1 true) else (if 0 ≤ (wrap64 (8 * a1)) then (impl_Fixed.j0 k a0 a1 (decide (a0 ≥ (shl .i64 1 (wrap64 (8 * a1)))))) else (none))) else (impl_Fixed.j0 k a0 a1 true))
theorem impl_Fixed.mono_l : ∀ k, (∀ y0 y1 y2, LeO (impl_Fixed.j0 k y0 y1 y2) (impl_Fixed.j0 (k + 1) y0 y1 y2)) ∧ (∀ y0 y1 y2, LeO (impl_Fixed.l0 k y0 y1 y2) (impl_Fixed.l0 (k + 1) y0 y1 y2))
  | 0 => ⟨fun _ _ _ r h => by simp [impl_Fixed.j0] at h, fun _ _ _ r h => by simp [impl_Fixed.l0] at h⟩
  | k + 1 => by
    obtain ⟨ih0, ih1⟩ := impl_Fixed.mono_l k
    refine ⟨?_, ?_⟩
    · intro y0 y1 y2
      unfold impl_Fixed.j0
      repeat' first
      | (with_reducible exact ih0 _ _ _)
      | (with_reducible exact ih1 _ _ _)
      | (with_reducible exact LeO.refl _)
      | (with_reducible exact LeO.none _)
      | (with_reducible refine LeO.ite ?_ ?_)
      | (with_reducible refine LeO.bind ?_ (fun _ => ?_))
      | exact ih0 _ _ _
      | exact ih1 _ _ _
      | exact LeO.none _
      | refine LeO.ite ?_ ?_
      | refine LeO.bind ?_ (fun _ => ?_)
    · intro y0 y1 y2
      unfold impl_Fixed.l0
      repeat' first
      | (with_reducible exact ih0 _ _ _)
      | (with_reducible exact ih1 _ _ _)
      | (with_reducible exact LeO.refl _)
      | (with_reducible exact LeO.none _)
      | (with_reducible refine LeO.ite ?_ ?_)
      | (with_reducible refine LeO.bind ?_ (fun _ => ?_))
      | exact ih0 _ _ _
      | exact ih1 _ _ _
      | exact LeO.none _
      | refine LeO.ite ?_ ?_
      | refine LeO.bind ?_ (fun _ => ?_)
theorem impl_Fixed.mono : ∀ a0 a1 k, LeO (impl_Fixed.f k a0 a1) (impl_Fixed.f (k + 1) a0 a1) := by
  intro a0 a1 k
  obtain ⟨ih0, ih1⟩ := impl_Fixed.mono_l k
  unfold impl_Fixed.f
  repeat' first
      | (with_reducible exact ih0 _ _ _)
      | (with_reducible exact ih1 _ _ _)
      | (with_reducible exact LeO.refl _)
      | (with_reducible exact LeO.none _)
      | (with_reducible refine LeO.ite ?_ ?_)
      | (with_reducible refine LeO.bind ?_ (fun _ => ?_))
      | exact ih0 _ _ _
      | exact ih1 _ _ _
      | exact LeO.none _
      | refine LeO.ite ?_ ?_
      | refine LeO.bind ?_ (fun _ => ?_)
set_option maxHeartbeats 8000000 in
set_option maxRecDepth 100000 in
theorem impl_Fixed.calls (k : Nat) (a0 : Int) (a1 : Int) (r : ByteArray) (w : World) (h : impl_Fixed.f k a0 a1 = some r) :
    Calls Tryd.prog 38 #[.int .i64 a0, .int .i64 a1] w fun e w' => e = .returned (.string r) ∧ Below w.heap.size w w' := by
  have HB := Aside0.mk (Below.refl w.heap.size w)
  have H : ((impl_within.f a1 1 7).bind fun t205 => (if t205 = true then (if a0 < 0 then (impl_Fixed.j0 k a0 a1 true) else (if 0 ≤ (wrap64 (8 * a1)) then (impl_Fixed.j0 k a0 a1 (decide (a0 ≥ (shl .i64 1 (wrap64 (8 * a1)))))) else (none))) else (impl_Fixed.j0 k a0 a1 true))) = some r := h
  clear h; have HC3 := Aside0.mk H
  clear H
  go_enter Tryd.func38, Tryd.ntmps38
  go_upto_region 1 with (fail)
  go_cut [20] (fun v20 wc => ∃ (kq : Nat) (x20_2 : Bool), v20 = .bool x20_2 ∧ Aside0 (impl_Fixed.j0 kq a0 a1 x20_2 = some r) ∧ Aside0 (kq ≤ k) ∧ Aside0 (Below w.heap.size w wc))
  case first =>
    have H := HC3.out; clear HC3; replace H := Option.bind_eq_some_iff.mp H
    obtain ⟨t205, A40, H⟩ := H
    replace H : (if t205 = true then (if a0 < 0 then (impl_Fixed.j0 k a0 a1 true) else (if 0 ≤ (wrap64 (8 * a1)) then (impl_Fixed.j0 k a0 a1 (decide (a0 ≥ (shl .i64 1 (wrap64 (8 * a1)))))) else (none))) else (impl_Fixed.j0 k a0 a1 true)) = some r := H
    have A4 := Aside0.mk A40
    clear A40
    by_cases c5 : t205 = true
    · subst c5
      have H1 : (if a0 < 0 then (impl_Fixed.j0 k a0 a1 true) else (if 0 ≤ (wrap64 (8 * a1)) then (impl_Fixed.j0 k a0 a1 (decide (a0 ≥ (shl .i64 1 (wrap64 (8 * a1)))))) else (none))) = some r := by rw [if_pos rfl] at H; exact H
      clear H; have H := H1
      clear H1
      by_cases c6 : a0 < 0
      · rw [if_pos c6] at H
        have c6b0 : decide (a0 < 0) = true := decide_eq_true c6
        clear c6
        (first | rw [c6b0] | (simp only [i64_w, i32_w]; rw [c6b0]) | skip)
        have H' := Aside0.mk H
        clear H
        go_wp2_with (first | ((with_reducible refine gate_callee (f := 67) rfl ?_); refine goesC_ (some 8) Tryd.func67 #[.int .i64 a1, .int .i64 1, .int .i64 7] ?_; (with_reducible refine (impl_within.calls a1 1 7 true _ A4.out).mono ?_); rintro e w' ⟨rfl, ⟨nd, rfl⟩⟩; refine ⟨_, rfl, ?_⟩))
        go_meet
        case rel => exact ⟨_, (true), (by first | rfl | (simp; done) | (simp [*]; done)), H', ⟨by first | omega | exact Nat.le_refl _⟩, ⟨by repeat (first | (with_reducible first | exact HB.out | apply below_alloc | apply pw_below_drewN | apply below_drew1) | exact HB.out)⟩⟩
      · rw [if_neg c6] at H
        have c6b0 : decide (a0 < 0) = false := decide_eq_false c6
        clear c6
        (first | rw [c6b0] | (simp only [i64_w, i32_w]; rw [c6b0]) | skip)
        obtain ⟨ji7, hji7⟩ : ∃ j_ : Int, (wrap64 (8 * a1)) = j_ := ⟨_, rfl⟩
        replace H : (if 0 ≤ (ji7) then (impl_Fixed.j0 k a0 a1 (decide (a0 ≥ (shl .i64 1 (ji7))))) else (none)) = some r := by first | (rw [hji7] at H; exact H) | (simp only [hji7] at H ⊢; exact H)
        (try rw [hji7] at A4)
        have hji7w : (IntKind.i64.wrap (8 * a1)) = ji7 := (i64_w _).trans hji7
        by_cases c8 : 0 ≤ (ji7)
        · rw [if_pos c8] at H
          have c8b0 := eq_true c8
          have c8b1 : decide (0 ≤ (ji7)) = true := decide_eq_true c8
          clear c8; obtain ⟨ji9, hji9⟩ : ∃ j_ : Int, (shl .i64 1 (ji7)) = j_ := ⟨_, rfl⟩
          replace H : (impl_Fixed.j0 k a0 a1 (decide (a0 ≥ (ji9)))) = some r := by first | (rw [hji9] at H; exact H) | (simp only [hji9] at H ⊢; exact H)
          (try rw [hji9] at A4)
          have hji9_ : (IntKind.i64.wrap (1 * 2 ^ min (ji7).toNat 64)) = ji9 := hji9
          have hji9z : (ji7) ≤ 64 → (IntKind.i64.wrap (1 * 2 ^ (ji7).toNat)) = ji9 := shl_small hji9
          have hji9u : (IntKind.i64.wrap (2 ^ min (ji7).toNat 64)) = ji9 := by have h_ := hji9_; rw [Int.one_mul] at h_; exact h_
          have hji9v : (ji7) ≤ 64 → (IntKind.i64.wrap (2 ^ (ji7).toNat)) = ji9 := fun hle_ => by have h_ := hji9z hle_; rw [Int.one_mul] at h_; exact h_
          have hji9y : (wrap64 (1 * 2 ^ min (ji7).toNat 64)) = ji9 := (i64_w _).symm.trans hji9_
          have hji9x : (ji7) ≤ 64 → (wrap64 (1 * 2 ^ (ji7).toNat)) = ji9 := fun h_ => (i64_w _).symm.trans (hji9z h_)
          have H' := Aside0.mk H
          clear H
          go_wp2_with (first | ((with_reducible refine gate_callee (f := 67) rfl ?_); refine goesC_ (some 8) Tryd.func67 #[.int .i64 a1, .int .i64 1, .int .i64 7] ?_; (with_reducible refine (impl_within.calls a1 1 7 true _ A4.out).mono ?_); rintro e w' ⟨rfl, ⟨nd, rfl⟩⟩; refine ⟨_, rfl, ?_⟩))
          go_meet
          case rel => exact ⟨_, (decide (a0 ≥ (ji9))), (by first | rfl | (simp; done) | (simp only [← hji9] <;> (first | rfl | simp)) | (simp [*]; done)), H', ⟨by first | omega | exact Nat.le_refl _⟩, ⟨by repeat (first | (with_reducible first | exact HB.out | apply below_alloc | apply pw_below_drewN | apply below_drew1) | exact HB.out)⟩⟩
        · rw [if_neg c8] at H
          exact absurd H (by simp)
    · replace c5 := Bool.eq_false_iff.mpr c5
      subst c5
      have H1 : (impl_Fixed.j0 k a0 a1 true) = some r := by rw [if_neg (show ¬ (false = true) by decide)] at H; exact H
      clear H; have H := H1
      clear H1; have H' := Aside0.mk H
      clear H
      go_wp2_with (first | ((with_reducible refine gate_callee (f := 67) rfl ?_); refine goesC_ (some 8) Tryd.func67 #[.int .i64 a1, .int .i64 1, .int .i64 7] ?_; (with_reducible refine (impl_within.calls a1 1 7 false _ A4.out).mono ?_); rintro e w' ⟨rfl, ⟨nd, rfl⟩⟩; refine ⟨_, rfl, ?_⟩))
      go_meet
      case rel => exact ⟨_, (true), (by first | rfl | (simp; done) | (simp [*]; done)), H', ⟨by first | omega | exact Nat.le_refl _⟩, ⟨by repeat (first | (with_reducible first | exact HB.out | apply below_alloc | apply pw_below_drewN | apply below_drew1) | exact HB.out)⟩⟩
  case rest =>
    clear HC3; obtain ⟨kq, x20_2, rfl, HA, HJ2, HB⟩ := hcut
    cases kq with
    | zero => exact absurd HA.out (by simp [impl_Fixed.j0])
    | succ kj2 =>
      have H := HA.out; clear HA; simp only [impl_Fixed.j0] at H
      by_cases c10 : x20_2 = true
      · subst c10
        have H1 : (some (⟨#[]⟩ : ByteArray)) = some r := by rw [if_pos rfl] at H; exact H
        clear H; have H := H1
        clear H1; obtain rfl := Option.some.inj H
        go_wp2
        go_ret
        exact ⟨by first | rfl | (simp [errW_none, errW_some] <;> rfl) | (simp [*, errW_none, errW_some] <;> rfl), by repeat (first | (with_reducible first | exact HB.out | apply below_alloc | apply pw_below_drewN | apply below_drew1) | exact HB.out)⟩
      · replace c10 := Bool.eq_false_iff.mpr c10
        subst c10
        have H1 : (if 0 ≤ a1 then (if (a1 : Int).toNat ≤ 281474976710656 then (impl_Fixed.l0 kj2 a0 (List.replicate (a1 : Int).toNat 0) (wrap64 (a1 - 1))) else (none)) else (none)) = some r := by rw [if_neg (show ¬ (false = true) by decide)] at H; exact H
        clear H; have H := H1
        clear H1
        by_cases c11 : 0 ≤ a1
        · rw [if_pos c11] at H
          have c11b0 := eq_true c11
          have c11b1 : decide (0 ≤ a1) = true := decide_eq_true c11
          clear c11
          by_cases c12 : (a1 : Int).toNat ≤ 281474976710656
          · rw [if_pos c12] at H
            have c12b0 := eq_true c12
            have c12b1 : decide ((a1 : Int).toNat ≤ 281474976710656) = true := decide_eq_true c12
            clear c12; obtain ⟨y206, hy206⟩ : ∃ y_ : List Int, y_ = (List.replicate (a1 : Int).toNat 0) := ⟨_, rfl⟩
            replace H : (impl_Fixed.l0 kj2 a0 y206 (wrap64 (a1 - 1))) = some r := by first | (rw [hy206]; with_reducible exact H) | (have H2_ := (Option.bind_some _ _).symm.trans H; rw [hy206]; with_reducible exact H2_) | (have H2_ := (Option.bind_some _ _).symm.trans H; with_reducible exact H2_) | with_reducible exact H | (rw [hy206]; exact H) | exact H
            have Ny206 := Aside0.mk hy206
            clear hy206; have H' := Aside0.mk H
            clear H
            go_wp2_with (first | ((with_reducible refine gate_dst (N := 22) rfl ?_); refine Kd.R_make (Kd.int .u8) _ 5 rfl (N := 22) rfl 24 _ _ rfl a1 rfl rfl Tryd.underlying24 (.int .u8 0) 1 info5 rfl (by decide) (by omega) 0 (ok := fun _ => True) (okp := fun _ => True) rfl (fun _ hk => hk) trivial (of_decide_eq_true (by first | (with_reducible assumption) | assumption)) (Nat.le_trans (Nat.mul_le_mul_right _ (of_decide_eq_true (by first | (with_reducible assumption) | assumption) : a1.toNat ≤ 281474976710656)) (by omega)) (Below.refl _ _) (Nat.le_refl _) ?_; intro v207 w13 ho14 hb hg_ hnew_; clear hg_ hnew_; (first | rw [← Ny206.out] at ho14 | (simp only [Int.reduceToNat] at ho14; rw [← Ny206.out] at ho14)); have HO208 := Aside0.mk (Kd.R_lower ho14 (below_size (be HB))); replace HB := bh HB hb; clear hb ho14))
            go_loopg [0, 6] kj2 (fun kq v0 v6 w' => ∃ (x0_2 : Int) (x5_2 : List Int) (x6_2 : Int), v0 = .int .i64 x0_2 ∧ v6 = .int .i64 x6_2 ∧ Aside0 (impl_Fixed.l0 kq x0_2 x5_2 x6_2 = some r) ∧ Aside0 (kq ≤ kj2) ∧ Aside0 (Kd.R (Kd.int .u8) 5 w' w.heap.size (fun _ => True) v207 x5_2) ∧ Aside0 (Below w.heap.size w w'))
            case atStart => exact ⟨(a0), (y206), (wrap64 (a1 - 1)), (by first | rfl | (simp; done) | (simp [*]; done)), (by first | rfl | (simp; done) | (simp [*]; done)), H', ⟨Nat.le_refl _⟩, ⟨rr HO208⟩, ⟨by repeat (first | (with_reducible first | exact HB.out | apply below_alloc | apply pw_below_drewN | apply below_drew1) | exact HB.out)⟩⟩
            case round =>
              clear H'
              obtain ⟨x0_2, x5_2, x6_2, rfl, rfl, HA, HK2, HO_5, HB⟩ := hrel
              cases gk with
              | zero => exact absurd HA.out (by simp [impl_Fixed.l0])
              | succ k2 =>
                have H := HA.out; clear HA; simp only [impl_Fixed.l0] at H
                by_cases c15 : x6_2 ≥ 0
                · rw [if_pos c15] at H
                  have c15b0 : decide (0 ≤ x6_2) = true := decide_eq_true c15
                  clear c15
                  by_cases c16 : 0 ≤ x6_2
                  · rw [if_pos c16] at H
                    have c16b0 : decide (0 ≤ x6_2) = true := decide_eq_true c16
                    clear c16
                    by_cases c17 : x6_2 < (x5_2.length : Int)
                    · rw [if_pos c17] at H
                      have c17b0 : decide (x6_2 < (x5_2.length : Int)) = true := decide_eq_true c17
                      clear c17; obtain ⟨y209, hy209⟩ : ∃ y_ : List Int, y_ = (x5_2.set (x6_2 : Int).toNat ((Go.bits .and .i64 x0_2 255) % 256)) := ⟨_, rfl⟩
                      replace H : (impl_Fixed.l0 k2 (x0_2 / 256) y209 (wrap64 (x6_2 - 1))) = some r := by first | (rw [hy209]; with_reducible exact H) | (have H2_ := (Option.bind_some _ _).symm.trans H; rw [hy209]; with_reducible exact H2_) | (have H2_ := (Option.bind_some _ _).symm.trans H; with_reducible exact H2_) | with_reducible exact H | (rw [hy209]; exact H) | exact H
                      have Ny209 := Aside0.mk hy209
                      clear hy209; have H' := Aside0.mk H
                      clear H; have p18 : 0 ≤ (x6_2 : Int) := of_decide_eq_true (by first | (with_reducible assumption) | assumption)
                      have q18 : (x6_2 : Int) < ((x5_2.length : Int) : Int) := of_decide_eq_true (by first | (with_reducible assumption) | assumption)
                      obtain ⟨go18, co18, eo18, gb18, gl18, cl18, HG18⟩ := Kd.R_form HO_5.out (by omega)
                      (first | cases eo18 | (injection eo18 with ea_ en_ ec_; (first | subst ea_ | (injection ea_ with ea_; subst ea_)); subst ec_; clear en_))
                      have GB18 := Aside0.mk gb18
                      have GG18 := Aside0.mk HG18
                      clear gb18 gl18 HG18; obtain ⟨hx18_0, hf18_0⟩ := Kd.R_celln 0 HO_5.out (x6_2 : Int) p18 q18
                      replace p18 := eq_true p18
                      replace q18 := eq_true q18
                      have HP19 := Kd.R_putg HO_5.out (x6_2 : Int) ((Go.bits .and .i64 x0_2 255) % 256)
                      go_wp2_with (first | ((with_reducible refine gate_store (t := 5) (p := 34) rfl ?_); refine store_event (t := 5) (p := 34) (v := ?vo_w20) (w1 := (wr.setCell ⟨go18, (x6_2 : Int).toNat, none⟩ (.int .u8 ((Go.bits .and .i64 x0_2 255) % 256)))) ?hg ?ho ?hn ?hr ?_; (case ho => rfl); (case hg => rfl); (case hn => rfl); (case hr => first | (go_simp; done) | (go_simp; rfl)); intro w20 hw; have hg : wr.grownBy w20 (some go18) := (by rw [hw]; exact HP19.2); have hp_ : Kd.R (Kd.int .u8) 5 w20 w.heap.size (fun _ => True) (.slice (some ⟨go18, 0, none⟩) x5_2.length co18) y209 := (by rw [hw, Ny209.out]; exact HP19.1); clear HP19; have n0_ := Aside0.mk (hp_); have n1_ := Aside0.mk ((by rw [hw]; exact below_set (HB.out) GB18.out : Below w.heap.size w w20)); clear HO_5 HB; have HO_5 := n0_; have HB := n1_; clear n0_ n1_; clear hg hw hp_))
                      go_roundg k2
                      case measure => have := HJ2.out; have := HK2.out; omega
                      case rel => exact ⟨(x0_2 / 256), (y209), (wrap64 (x6_2 - 1)), (by first | rfl | (simp; done) | (simp [*]; done)), (by first | rfl | (simp; done) | (simp [*]; done)), H', ⟨by have := HJ2.out; have := HK2.out; omega⟩, ⟨rr HO_5⟩, ⟨by repeat (first | (with_reducible first | exact HB.out | apply below_alloc | apply pw_below_drewN | apply below_drew1) | exact HB.out)⟩⟩
                    · rw [if_neg c17] at H
                      exact absurd H (by simp)
                  · rw [if_neg c16] at H
                    exact absurd H (by simp)
                · rw [if_neg c15] at H
                  have c15b0 : decide (0 ≤ x6_2) = false := decide_eq_false c15
                  clear c15; obtain rfl := Option.some.inj H
                  have hcv21 := own_string (P := Tryd.prog) Tryd.underlying24 Tryd.underlying5 Tryd.underlying9 (Kd.own_of_R HO_5.out)
                  go_wp2
                  go_ret
                  exact ⟨by first | rfl | (simp [errW_none, errW_some] <;> rfl) | (simp [*, errW_none, errW_some] <;> rfl), by repeat (first | (with_reducible first | exact HB.out | apply below_alloc | apply pw_below_drewN | apply below_drew1) | exact HB.out)⟩
          · rw [if_neg c12] at H
            exact absurd H (by simp)
        · rw [if_neg c11] at H
          exact absurd H (by simp)
def impl_fourBytes.f (a0 : ByteArray) : Option (Int) := if 0 < (a0.size : Int) then (if 1 < (a0.size : Int) then (if 2 < (a0.size : Int) then (if 3 < (a0.size : Int) then (some (Go.bits .or .u32 (Go.bits .or .u32 (Go.bits .or .u32 ((((bt a0 0) % 4294967296) * 16777216) % 4294967296) ((((bt a0 1) % 4294967296) * 65536) % 4294967296)) ((((bt a0 2) % 4294967296) * 256) % 4294967296)) ((bt a0 3) % 4294967296))) else (none)) else (none)) else (none)) else (none)
set_option maxHeartbeats 8000000 in
set_option maxRecDepth 100000 in
theorem impl_fourBytes.calls (a0 : ByteArray) (r : Int) (w : World) (h : impl_fourBytes.f a0 = some r) :
    Calls Tryd.prog 68 #[.string a0] w fun e w' => e = .returned (.int .u32 r) ∧ Drawn0 w w' := by
  have H : (if 0 < (a0.size : Int) then (if 1 < (a0.size : Int) then (if 2 < (a0.size : Int) then (if 3 < (a0.size : Int) then (some (Go.bits .or .u32 (Go.bits .or .u32 (Go.bits .or .u32 ((((bt a0 0) % 4294967296) * 16777216) % 4294967296) ((((bt a0 1) % 4294967296) * 65536) % 4294967296)) ((((bt a0 2) % 4294967296) * 256) % 4294967296)) ((bt a0 3) % 4294967296))) else (none)) else (none)) else (none)) else (none)) = some r := h
  clear h
  by_cases c2 : 0 < (a0.size : Int)
  · rw [if_pos c2] at H
    have c2b0 : decide (0 < (a0.size : Int)) = true := decide_eq_true c2
    have c2b1 : decide (0 < a0.size) = true := decide_eq_true (by omega)
    clear c2
    by_cases c4 : 1 < (a0.size : Int)
    · rw [if_pos c4] at H
      have c4b0 : decide (1 < (a0.size : Int)) = true := decide_eq_true c4
      have c4b1 : decide (1 < a0.size) = true := decide_eq_true (by omega)
      clear c4
      by_cases c6 : 2 < (a0.size : Int)
      · rw [if_pos c6] at H
        have c6b0 : decide (2 < (a0.size : Int)) = true := decide_eq_true c6
        have c6b1 : decide (2 < a0.size) = true := decide_eq_true (by omega)
        clear c6
        by_cases c8 : 3 < (a0.size : Int)
        · rw [if_pos c8] at H
          have c8b0 : decide (3 < (a0.size : Int)) = true := decide_eq_true c8
          have c8b1 : decide (3 < a0.size) = true := decide_eq_true (by omega)
          clear c8; obtain rfl := Option.some.inj H
          have p3 : 0 ≤ (0 : Int) := (by omega)
          have q3 : 0 < a0.size := (by have : (0 : Int) < (a0.size : Int) := of_decide_eq_true (by first | (with_reducible assumption) | assumption); omega)
          have hx3 : ∀ h : 0 < a0.size, ((a0[0]'h).toNat : Int) = bt a0 0 := bt_at a0 0
          clear p3; have qi3 : (0 < (a0.size : Int)) = True := eq_true (of_decide_eq_true (by first | (with_reducible assumption) | assumption))
          replace q3 := eq_true q3
          have p5 : 0 ≤ (1 : Int) := (by omega)
          have q5 : 1 < a0.size := (by have : (1 : Int) < (a0.size : Int) := of_decide_eq_true (by first | (with_reducible assumption) | assumption); omega)
          have hx5 : ∀ h : 1 < a0.size, ((a0[1]'h).toNat : Int) = bt a0 1 := bt_at a0 1
          clear p5; have qi5 : (1 < (a0.size : Int)) = True := eq_true (of_decide_eq_true (by first | (with_reducible assumption) | assumption))
          replace q5 := eq_true q5
          have p7 : 0 ≤ (2 : Int) := (by omega)
          have q7 : 2 < a0.size := (by have : (2 : Int) < (a0.size : Int) := of_decide_eq_true (by first | (with_reducible assumption) | assumption); omega)
          have hx7 : ∀ h : 2 < a0.size, ((a0[2]'h).toNat : Int) = bt a0 2 := bt_at a0 2
          clear p7; have qi7 : (2 < (a0.size : Int)) = True := eq_true (of_decide_eq_true (by first | (with_reducible assumption) | assumption))
          replace q7 := eq_true q7
          have p9 : 0 ≤ (3 : Int) := (by omega)
          have q9 : 3 < a0.size := (by have : (3 : Int) < (a0.size : Int) := of_decide_eq_true (by first | (with_reducible assumption) | assumption); omega)
          have hx9 : ∀ h : 3 < a0.size, ((a0[3]'h).toNat : Int) = bt a0 3 := bt_at a0 3
          clear p9; have qi9 : (3 < (a0.size : Int)) = True := eq_true (of_decide_eq_true (by first | (with_reducible assumption) | assumption))
          replace q9 := eq_true q9
          go_enter Tryd.func68, Tryd.ntmps68
          go_wp2
          repeat (go_quiet (fail); try go_wp2)
          go_ret
          exact ⟨by first | rfl | (simp; done) | (simp [*]; done), by repeat (first | exact Drawn0.refl _ | apply Drawn0.step)⟩
        · rw [if_neg c8] at H
          exact absurd H (by simp)
      · rw [if_neg c6] at H
        exact absurd H (by simp)
    · rw [if_neg c4] at H
      exact absurd H (by simp)
  · rw [if_neg c2] at H
    exact absurd H (by simp)
def bits_RotateLeft32.f (a0 : Int) (a1 : Int) : Option (Int) := if 0 ≤ (Go.bits .and .u64 (IntKind.u64.wrap (a1)) 31) then (if 0 ≤ (IntKind.u64.wrap (32 - (Go.bits .and .u64 (IntKind.u64.wrap (a1)) 31))) then (some (Go.bits .or .u32 (shl .u32 a0 (Go.bits .and .u64 (IntKind.u64.wrap (a1)) 31)) (shr .u32 a0 (IntKind.u64.wrap (32 - (Go.bits .and .u64 (IntKind.u64.wrap (a1)) 31)))))) else (none)) else (none)
set_option maxHeartbeats 8000000 in
set_option maxRecDepth 100000 in
theorem bits_RotateLeft32.calls (a0 : Int) (a1 : Int) (r : Int) (w : World) (h : bits_RotateLeft32.f a0 a1 = some r) :
    Calls Tryd.prog 69 #[.int .u32 a0, .int .i64 a1] w fun e w' => e = .returned (.int .u32 r) ∧ Drawn0 w w' := by
  have H : (if 0 ≤ (Go.bits .and .u64 (IntKind.u64.wrap (a1)) 31) then (if 0 ≤ (IntKind.u64.wrap (32 - (Go.bits .and .u64 (IntKind.u64.wrap (a1)) 31))) then (some (Go.bits .or .u32 (shl .u32 a0 (Go.bits .and .u64 (IntKind.u64.wrap (a1)) 31)) (shr .u32 a0 (IntKind.u64.wrap (32 - (Go.bits .and .u64 (IntKind.u64.wrap (a1)) 31)))))) else (none)) else (none)) = some r := h
  clear h; obtain ⟨ji3, hji3⟩ : ∃ j_ : Int, (Go.bits .and .u64 (IntKind.u64.wrap (a1)) 31) = j_ := ⟨_, rfl⟩
  replace H : (if 0 ≤ (ji3) then (if 0 ≤ (IntKind.u64.wrap (32 - (ji3))) then (some (Go.bits .or .u32 (shl .u32 a0 (ji3)) (shr .u32 a0 (IntKind.u64.wrap (32 - (ji3)))))) else (none)) else (none)) = some r := by first | (rw [hji3] at H; exact H) | (simp only [hji3] at H ⊢; exact H)
  by_cases c4 : 0 ≤ (ji3)
  · rw [if_pos c4] at H
    have c4b0 := eq_true c4
    have c4b1 : decide (0 ≤ (ji3)) = true := decide_eq_true c4
    clear c4; obtain ⟨ji5, hji5⟩ : ∃ j_ : Int, (shl .u32 a0 (ji3)) = j_ := ⟨_, rfl⟩
    replace H : (if 0 ≤ (IntKind.u64.wrap (32 - (ji3))) then (some (Go.bits .or .u32 (ji5) (shr .u32 a0 (IntKind.u64.wrap (32 - (ji3)))))) else (none)) = some r := by first | (rw [hji5] at H; exact H) | (simp only [hji5] at H ⊢; exact H)
    have hji5_ : (IntKind.u32.wrap (a0 * 2 ^ min (ji3).toNat 32)) = ji5 := hji5
    have hji5z : (ji3) ≤ 32 → (IntKind.u32.wrap (a0 * 2 ^ (ji3).toNat)) = ji5 := shl_small hji5
    obtain ⟨ji6, hji6⟩ : ∃ j_ : Int, (IntKind.u64.wrap (32 - (ji3))) = j_ := ⟨_, rfl⟩
    replace H : (if 0 ≤ (ji6) then (some (Go.bits .or .u32 (ji5) (shr .u32 a0 (ji6)))) else (none)) = some r := by first | (rw [hji6] at H; exact H) | (simp only [hji6] at H ⊢; exact H)
    by_cases c7 : 0 ≤ (ji6)
    · rw [if_pos c7] at H
      have c7b0 := eq_true c7
      have c7b1 : decide (0 ≤ (ji6)) = true := decide_eq_true c7
      clear c7; obtain ⟨ji8, hji8⟩ : ∃ j_ : Int, (shr .u32 a0 (ji6)) = j_ := ⟨_, rfl⟩
      replace H : (some (Go.bits .or .u32 (ji5) (ji8))) = some r := by first | (rw [hji8] at H; exact H) | (simp only [hji8] at H ⊢; exact H)
      have hji8_ : (a0 / 2 ^ min (ji6).toNat 32) = ji8 := hji8
      have hji8z : (ji6) ≤ 32 → (a0 / 2 ^ (ji6).toNat) = ji8 := shr_small hji8
      obtain rfl := Option.some.inj H
      go_enter Tryd.func69, Tryd.ntmps69
      go_wp2
      go_ret
      exact ⟨by first | rfl | (simp; done) | (simp only [← hji3, ← hji5, ← hji6, ← hji8] <;> (first | rfl | simp)) | (simp [*]; done), by repeat (first | exact Drawn0.refl _ | apply Drawn0.step)⟩
    · rw [if_neg c7] at H
      exact absurd H (by simp)
  · rw [if_neg c4] at H
    exact absurd H (by simp)
def cU (l : List Int) : Array Value := (l.map (fun x => Value.int .u32 x)).toArray
theorem cU_size (l : List Int) : (cU l).size = l.length := by simp [cU]
theorem cU_get (l : List Int) (i : Nat) (h : i < l.length) : (cU l)[i]? = some (.int .u32 (l.getD i 0)) := by simp [cU, h]
theorem cU_set (l : List Int) (i : Nat) (v : Int) : (cU l).setIfInBounds i (.int .u32 v) = cU (l.set i v) := by simp [cU, List.map_set]
theorem cU_one (l : List Int) : (cU l).all (·.oneCell') = true := by simp [cU, Array.all_eq_true_iff_forall_mem, Value.oneCell']
theorem blkU {w : World} {g t : Nat} {l : List Int} (h : Aside0 (w.heap[g]? = some (.cells (cU l) t (0, 0)))) (i : Nat) (hi : i < l.length) : w.cell? ⟨g, i, none⟩ = some (.int .u32 (l.getD i 0)) := (blk_cell h.out i).trans (cU_get l i hi)
theorem blkU_set {w : World} {g t : Nat} {l : List Int} (h : Aside0 (w.heap[g]? = some (.cells (cU l) t (0, 0)))) (i : Nat) (v : Int) : (w.setCell ⟨g, i, none⟩ (.int .u32 v)).heap[g]? = some (.cells (cU (l.set i v)) t (0, 0)) := blk_put h.out i _ (cU_set l i v)
def fbV (b : ByteArray) (o : Int) : Int := Go.bits .or .u32 (Go.bits .or .u32 (Go.bits .or .u32 ((((bt b o) % 4294967296) * 16777216) % 4294967296) ((((bt b (o + 1)) % 4294967296) * 65536) % 4294967296)) ((((bt b (o + 2)) % 4294967296) * 256) % 4294967296)) ((bt b (o + 3)) % 4294967296)
/-- The first words of a block: n more. -/
def wds (b : ByteArray) : Nat → List Int
 | 0 => []
 | n + 1 => wds b n ++ [fbV b (4 * (n : Int))]
theorem wds_len (b : ByteArray) (n : Nat) : (wds b n).length = n := by
  induction n with
  | zero => rfl
  | succ n ih => simp [wds, ih]
def rotV (x m : Int) : Int := Go.bits .or .u32 (shl .u32 x (32 + m)) (shr .u32 x (-m))
theorem rot_eq (x m : Int) (hm : m ∈ [-7, -18, -17, -19, -6, -11, -25, -2, -13, -22]) : bits_RotateLeft32.f x m = some (rotV x m) := by
  simp only [List.mem_cons, List.not_mem_nil, or_false] at hm
  rcases hm with rfl | rfl | rfl | rfl | rfl | rfl | rfl | rfl | rfl | rfl <;> (unfold bits_RotateLeft32.f rotV; rfl)
theorem rot_any (x m : Int) (w : World) (hm : m ∈ [-7, -18, -17, -19, -6, -11, -25, -2, -13, -22]) : Calls Tryd.prog 69 #[.int .u32 x, .int .i64 m] w fun e w' => e = .returned (.int .u32 (rotV x m)) ∧ Drawn0 w w' :=
  bits_RotateLeft32.calls x m _ w (rot_eq x m hm)
/-- The word behind these. -/
def nextW (l : List Int) : Int := ((l.getD (l.length - 16) 0) + (Go.bits .xor .u32 (Go.bits .xor .u32 (rotV (l.getD (l.length - 15) 0) (-7)) (rotV (l.getD (l.length - 15) 0) (-18))) ((l.getD (l.length - 15) 0) / 8)) + (l.getD (l.length - 7) 0) + (Go.bits .xor .u32 (Go.bits .xor .u32 (rotV (l.getD (l.length - 2) 0) (-17)) (rotV (l.getD (l.length - 2) 0) (-19))) ((l.getD (l.length - 2) 0) / 1024))) % 4294967296
theorem nextW_eq {l : List Int} {j : Nat} {x16 x15 x7 x2 : Int} (hj : l.length = j) (e16 : l.getD (j - 16) 0 = x16) (e15 : l.getD (j - 15) 0 = x15) (e7 : l.getD (j - 7) 0 = x7) (e2 : l.getD (j - 2) 0 = x2) :
  nextW l = (x16 + (Go.bits .xor .u32 (Go.bits .xor .u32 (rotV x15 (-7)) (rotV x15 (-18))) (x15 / 8)) + x7 + (Go.bits .xor .u32 (Go.bits .xor .u32 (rotV x2 (-17)) (rotV x2 (-19))) (x2 / 1024))) % 4294967296 := by
  subst hj e16 e15 e7 e2
  rfl
def wds2 (b : ByteArray) : Nat → List Int
 | 0 => wds b 16
 | n + 1 => wds2 b n ++ [nextW (wds2 b n)]
theorem wds2_len (b : ByteArray) (n : Nat) : (wds2 b n).length = 16 + n := by
  induction n with
  | zero => exact wds_len b 16
  | succ n ih => simp [wds2, ih]; omega
theorem set_zeros (l : List Int) (n : Nat) (v : Int) (hn : 0 < n) : (l ++ List.replicate n 0).set l.length v = l ++ [v] ++ List.replicate (n - 1) 0 := by
  obtain ⟨m, rfl⟩ : ∃ m, n = m + 1 := ⟨n - 1, by omega⟩
  simp [List.set_append, List.replicate_succ]
theorem getD_left (l r : List Int) (i : Nat) (h : i < l.length) : (l ++ r).getD i 0 = l.getD i 0 := by simp [List.getElem?_append_left h]
/-- One round over the eight words. -/
def rndT (k x v0 v1 v2 v3 v4 v5 v6 v7 : Int) : Int := v7 + (Go.bits .xor .u32 (Go.bits .xor .u32 (rotV v4 (-6)) (rotV v4 (-11))) (rotV v4 (-25))) + (Go.bits .xor .u32 (Go.bits .and .u32 v4 v5) (Go.bits .and .u32 (Go.bits .xor .u32 IntKind.u32.max v4) v6)) + k + x
def rndY (v0 v1 v2 : Int) : Int := Go.bits .xor .u32 (Go.bits .xor .u32 (rotV v0 (-2)) (rotV v0 (-13))) (rotV v0 (-22))
def rndM (v0 v1 v2 : Int) : Int := Go.bits .xor .u32 (Go.bits .xor .u32 (Go.bits .and .u32 v0 v1) (Go.bits .and .u32 v0 v2)) (Go.bits .and .u32 v1 v2)
def rndV (k x : Int) : List Int → List Int
 | [v0, v1, v2, v3, v4, v5, v6, v7] => [(rndT k x v0 v1 v2 v3 v4 v5 v6 v7 + rndY v0 v1 v2 + rndM v0 v1 v2) % 4294967296, v0, v1, v2, (v3 + rndT k x v0 v1 v2 v3 v4 v5 v6 v7) % 4294967296, v4, v5, v6]
 | l => l
def rnds (kt xt s : List Int) : Nat → List Int
 | 0 => s
 | n + 1 => rndV (kt.getD n 0) (xt.getD n 0) (rnds kt xt s n)
theorem eight (l : List Int) (h : l.length = 8) : ∃ v0 v1 v2 v3 v4 v5 v6 v7, l = [v0, v1, v2, v3, v4, v5, v6, v7] := by
  match l, h with
  | [v0, v1, v2, v3, v4, v5, v6, v7], _ => exact ⟨_, _, _, _, _, _, _, _, rfl⟩
theorem rndV_len (k x : Int) (l : List Int) (h : l.length = 8) : (rndV k x l).length = 8 := by
  obtain ⟨v0, v1, v2, v3, v4, v5, v6, v7, rfl⟩ := eight l h
  rfl
theorem rnds_len (kt xt s : List Int) (h : s.length = 8) (n : Nat) : (rnds kt xt s n).length = 8 := by
  induction n with
  | zero => exact h
  | succ n ih => exact rndV_len _ _ _ ih
def addsV (s v : List Int) : Nat → List Int
 | 0 => s
 | n + 1 => (addsV s v n).set n ((s.getD n 0 + v.getD n 0) % 4294967296)
theorem addsV_len (s v : List Int) (n : Nat) : (addsV s v n).length = s.length := by
  induction n with
  | zero => rfl
  | succ n ih => simp [addsV, ih]
theorem addsV_at (s v : List Int) (n i : Nat) (h : n ≤ i) : (addsV s v n).getD i 0 = s.getD i 0 := by
  induction n with
  | zero => rfl
  | succ n ih =>
    have := ih (by omega)
    simp only [addsV, List.getD_eq_getElem?_getD] at this ⊢
    rw [List.getElem?_set_ne (by omega)]
    exact this
/-- The table of the package, as it lies in memory when the call begins. -/
def shaTab : List Int := [1116352408, 1899447441, 3049323471, 3921009573, 961987163, 1508970993, 2453635748, 2870763221, 3624381080, 310598401, 607225278, 1426881987, 1925078388, 2162078206, 2614888103, 3248222580, 3835390401, 4022224774, 264347078, 604807628, 770255983, 1249150122, 1555081692, 1996064986, 2554220882, 2821834349, 2952996808, 3210313671, 3336571891, 3584528711, 113926993, 338241895, 666307205, 773529912, 1294757372, 1396182291, 1695183700, 1986661051, 2177026350, 2456956037, 2730485921, 2820302411, 3259730800, 3345764771, 3516065817, 3600352804, 4094571909, 275423344, 430227734, 506948616, 659060556, 883997877, 958139571, 1322822218, 1537002063, 1747873779, 1955562222, 2024104815, 2227730452, 2361852424, 2428436474, 2756734187, 3204031479, 3329325298]
/-- The state behind one block. -/
def shaB (s : List Int) (b : ByteArray) : List Int := addsV s (rnds shaTab (wds2 b 48) s 64) 8
structure WS (w W : World) (ls lw : List Int) : Prop where
  b : Below w.heap.size w W
  s : W.heap[w.heap.size]? = some (.cells (cU ls) 60 (0, 0))
  r : ∃ lr : List Int, lr.length = 8 ∧ W.heap[w.heap.size + 1]? = some (.cells (cU lr) 60 (0, 0))
  x : W.heap[w.heap.size + 1 + 1]? = some (.cells (cU lw) 92 (0, 0))
theorem WS.drewN {w W : World} {ls lw : List Int} (h : WS w W ls lw) (n : Nat) : WS w (W.drewN n) ls lw := ⟨pw_below_drewN h.b n, h.s, h.r, h.x⟩
theorem WS.drew {w W : World} {ls lw : List Int} (h : WS w W ls lw) : WS w W.drew ls lw := h.drewN 1
theorem WS.init (w : World) (ls : List Int) : WS w (((w.alloc (.cells (cU ls) 60)).alloc (.cells (cU (List.replicate 8 0)) 60)).alloc (.cells (cU (List.replicate 64 0)) 92)) ls (List.replicate 64 0) := by
  refine ⟨(((Below.refl _ _).alloc (Nat.le_refl _) _).alloc (by simp) _).alloc (by simp; omega) _, ?_, ⟨List.replicate 8 0, rfl, ?_⟩, ?_⟩
  · exact blk_alloc (blk_alloc (blk_new _ _) _) _
  · exact blk_alloc (by have := blk_new (w.alloc (.cells (cU ls) 60)) (.cells (cU (List.replicate 8 0)) 60); simpa using this) _
  · have := blk_new ((w.alloc (.cells (cU ls) 60)).alloc (.cells (cU (List.replicate 8 0)) 60)) (.cells (cU (List.replicate 64 0)) 92)
    simpa using this
theorem WS.setX {w W : World} {ls lw : List Int} (h : WS w W ls lw) (i : Nat) (v : Int) : WS w (W.setCell ⟨w.heap.size + 1 + 1, i, none⟩ (.int .u32 v)) ls (lw.set i v) := by
  obtain ⟨lr, e, hr⟩ := h.r
  exact ⟨h.b.setCell (by simp; omega) _, blk_far h.s (by simp; omega) _, ⟨lr, e, blk_far hr (by simp) _⟩, blkU_set ⟨h.x⟩ i v⟩
theorem WS.cellX {w W : World} {ls lw : List Int} (h : WS w W ls lw) (i : Nat) (hi : i < lw.length) : W.cell? ⟨w.heap.size + 1 + 1, i, none⟩ = some (.int .u32 (lw.getD i 0)) := blkU ⟨h.x⟩ i hi
theorem WS.frzX {w W : World} {ls lw : List Int} (h : WS w W ls lw) (i : Nat) : W.frozen? ⟨w.heap.size + 1 + 1, i, none⟩ = false := blk_frozen h.x i
theorem bt_ext (s : ByteArray) (a e j : Nat) (h : a + j < e) (he : e ≤ s.size) : bt (s.extract a e) (j : Int) = bt s ((a + j : Nat) : Int) := by
  have h1 : j < (s.extract a e).size := by simp; omega
  have h2 : a + j < s.size := by omega
  simp only [bt, Int.toNat_natCast]
  rw [dif_pos h1, dif_pos h2]
  simp [ByteArray.getElem_extract]
theorem fourB (b : ByteArray) (i : Nat) (hb : b.size = 64) (hi : i < 16) : impl_fourBytes.f (b.extract (4 * i) 64) = some (fbV b (4 * (i : Int))) := by
  have hs : (b.extract (4 * i) 64).size = 64 - 4 * i := by simp [hb]
  unfold impl_fourBytes.f fbV
  rw [if_pos (by omega), if_pos (by omega), if_pos (by omega), if_pos (by omega)]
  have e0 : bt (b.extract (4 * i) 64) 0 = bt b (4 * (i : Int)) := (bt_ext b (4 * i) 64 0 (by omega) (by omega)).trans (congrArg (bt b) (by omega))
  have e1 : bt (b.extract (4 * i) 64) 1 = bt b (4 * (i : Int) + 1) := (bt_ext b (4 * i) 64 1 (by omega) (by omega)).trans (congrArg (bt b) (by omega))
  have e2 : bt (b.extract (4 * i) 64) 2 = bt b (4 * (i : Int) + 2) := (bt_ext b (4 * i) 64 2 (by omega) (by omega)).trans (congrArg (bt b) (by omega))
  have e3 : bt (b.extract (4 * i) 64) 3 = bt b (4 * (i : Int) + 3) := (bt_ext b (4 * i) 64 3 (by omega) (by omega)).trans (congrArg (bt b) (by omega))
  rw [e0, e1, e2, e3]
theorem WS.below {w W W1 : World} {ls lw : List Int} (h : WS w W ls lw) (hb : Below W.heap.size W W1) : WS w W1 ls lw := by
  obtain ⟨lr, e, hr⟩ := h.r
  exact ⟨below_step h.b hb, blk_below h.s hb, ⟨lr, e, blk_below hr hb⟩, blk_below h.x hb⟩
theorem WS.lt {w W : World} {ls lw : List Int} (h : WS w W ls lw) : w.heap.size + 1 + 1 < W.heap.size := blk_lt h.x
theorem row_far {w : World} {g g' t : Nat} {cs cs' : Array Value} (h : w.heap[g]? = some (.cells cs t (0, 0))) (hne : g ≠ g') : (w.setRow g' cs').heap[g]? = some (.cells cs t (0, 0)) := (setRow_other w g' g cs' hne).trans h
theorem below_row {B : Nat} {w W : World} (h : Below B w W) {g : Nat} (hg : B ≤ g) (cs : Array Value) : Below B w (W.setRow g cs) :=
  h.trans ⟨rfl, rfl, rfl, by simp, fun k hk => setRow_other W g k cs (by omega)⟩
/-- The four blocks of a call: as WS; v besides. -/
structure VS (w W : World) (gv : Nat) (ls lw lv : List Int) : Prop where
  h : WS w W ls lw
  lt : w.heap.size + 1 + 1 < gv
  v : W.heap[gv]? = some (.cells (cU lv) 60 (0, 0))
theorem VS.drewN {w W : World} {gv : Nat} {ls lw lv : List Int} (h : VS w W gv ls lw lv) (n : Nat) : VS w (W.drewN n) gv ls lw lv := ⟨h.h.drewN n, h.lt, h.v⟩
theorem VS.put {w W : World} {gv : Nat} {ls lw lv : List Int} (h : VS w W gv ls lw lv) (l : List Int) : VS w (W.setRow gv (cU l)) gv ls lw l := by
  obtain ⟨⟨b, s, ⟨lr, e, hr⟩, x⟩, lt, v⟩ := h
  exact ⟨⟨below_row b (by omega) _, row_far s (by omega), ⟨lr, e, row_far hr (by omega)⟩, row_far x (by omega)⟩, lt, setRow_heap W gv _ _ 60 _ v⟩
theorem VS.setS {w W : World} {gv : Nat} {ls lw lv : List Int} (h : VS w W gv ls lw lv) (i : Nat) (x : Int) : VS w (W.setCell ⟨w.heap.size, i, none⟩ (.int .u32 x)) gv (ls.set i x) lw lv := by
  obtain ⟨⟨b, s, ⟨lr, e, hr⟩, hx⟩, lt, v⟩ := h
  exact ⟨⟨b.setCell (Nat.le_refl _) _, blkU_set ⟨s⟩ i x, ⟨lr, e, blk_far hr (by simp) _⟩, blk_far hx (by simp; omega) _⟩, lt, blk_far v (by simp; omega) _⟩
def Tab (w : World) : Prop := ∀ i : Nat, i < 64 → w.cell? ⟨0, i, none⟩ = some (.int .u32 (shaTab.getD i 0))
theorem Tab.below {w W : World} (h : Tab w) (hb : Below w.heap.size w W) : Tab W := fun i hi => (hb.cell (p := ⟨0, i, none⟩) (block_lt_of_cell (h i hi))).trans (h i hi)
theorem WS.word {w W : World} {ls : List Int} {b : ByteArray} {i : Nat} (h : WS w W ls (wds b i ++ List.replicate (64 - i) 0)) (hi : i < 64) : WS w (W.setCell ⟨w.heap.size + 1 + 1, i, none⟩ (.int .u32 (fbV b (4 * (i : Int))))) ls (wds b (i + 1) ++ List.replicate (64 - (i + 1)) 0) := by
  have h1 := h.setX i (fbV b (4 * (i : Int)))
  have e := set_zeros (wds b i) (64 - i) (fbV b (4 * (i : Int))) (by omega)
  rw [wds_len] at e
  rw [e] at h1
  exact h1
theorem WS.word2 {w W : World} {ls : List Int} {b : ByteArray} {i : Nat} (h : WS w W ls (wds2 b i ++ List.replicate (48 - i) 0)) (hi : i < 48) : WS w (W.setCell ⟨w.heap.size + 1 + 1, 16 + i, none⟩ (.int .u32 (nextW (wds2 b i)))) ls (wds2 b (i + 1) ++ List.replicate (48 - (i + 1)) 0) := by
  have h1 := h.setX (16 + i) (nextW (wds2 b i))
  have e := set_zeros (wds2 b i) (48 - i) (nextW (wds2 b i)) (by omega)
  rw [wds2_len] at e
  rw [e] at h1
  exact h1
set_option maxHeartbeats 8000000 in
set_option maxRecDepth 100000 in
theorem impl_shaBlock.calls (s : List Int) (b : ByteArray) (w : World) (hs : s.length = 8) (hb : b.size = 64) (hT : Tab w) :
  Calls Tryd.prog 39 #[.agg (cU s), .string b] w fun e w' => e = .returned (.agg (cU (shaB s b))) ∧ Below w.heap.size w w' := by
 have HS := Aside0.mk hs
 have HT := Aside0.mk hT
 clear hs hT
 go_enter Tryd.func39, Tryd.ntmps39
 go_wp2
 go_loopg [22] 16 (fun kq v22 W => ∃ i : Nat, i + kq = 16 ∧ v22 = .int .i64 i ∧ WS w W s (wds b i ++ List.replicate (64 - i) 0))
 case atStart => exact ⟨0, rfl, rfl, WS.init w s⟩
 case round =>
  obtain ⟨i, hi, rfl, HW⟩ := hrel
  by_cases hlt : i < 16
  · have HF := Aside0.mk (fourB b i hb hlt)
    have hc := fun n => (HW.drewN n).cellX i (by simp [wds_len]; omega)
    have hz := fun n => (HW.drewN n).frzX i
    go_wp2_with (go_at_call 68; refine (impl_fourBytes.calls _ _ _ HF.out).mono ?_; rintro e w' ⟨rfl, nd, rfl⟩)
    go_roundg (15 - i)
    case measure => omega
    case rel => exact ⟨i + 1, by omega, by first | rfl | (simp; done), (HW.drewN nd).word (by omega)⟩
  · obtain rfl : i = 16 := by omega
    clear hlt hi; have HW2 : WS w wr s (wds2 b 0 ++ List.replicate (48 - 0) 0) := HW
    clear HW
    go_wp2
    go_loopg [7] 48 (fun kq v7 W => ∃ i j : Nat, i + kq = 48 ∧ j = 16 + i ∧ v7 = .int .i64 j ∧ WS w W s (wds2 b i ++ List.replicate (48 - i) 0))
    case atStart => exact ⟨0, 16, rfl, rfl, rfl, HW2⟩
    case round =>
     clear HW2; obtain ⟨i, j, hi, hj, rfl, HW⟩ := hrel
     by_cases hlt : i < 48
     · have hjl : j < 64 := by omega
       have hj16 : 16 ≤ j := by omega
       have hwl := wds2_len b i
       have hc : ∀ (W : World), WS w W s (wds2 b i ++ List.replicate (48 - i) 0) → ∀ q, q < 16 + i → W.cell? ⟨w.heap.size + 1 + 1, q, none⟩ = some (.int .u32 ((wds2 b i).getD q 0)) := fun W h q hq => by
         have := h.cellX q (by simp; omega)
         rwa [getD_left _ _ _ (by omega)] at this
       have ex : ∀ q, q < 16 + i → ∃ x : Int, Aside0 ((wds2 b i).getD q 0 = x) ∧ ∀ n, (wr.drewN n).cell? ⟨w.heap.size + 1 + 1, q, none⟩ = some (.int .u32 x) := fun q hq => ⟨_, ⟨rfl⟩, fun n => hc _ (HW.drewN n) q hq⟩
       obtain ⟨x15, e15, c15⟩ := ex (j - 15) (by omega)
       obtain ⟨x2, e2, c2⟩ := ex (j - 2) (by omega)
       obtain ⟨x16, e16, c16⟩ := ex (j - 16) (by omega)
       obtain ⟨x7, e7, c7⟩ := ex (j - 7) (by omega)
       have ch := fun n => (HW.drewN n).cellX j (by simp; omega)
       have hz := fun n => (HW.drewN n).frzX j
       clear hc ex; have HJ := Aside0.mk hj
       have HL := Aside0.mk hwl
       have HN : Aside0 (∀ W, WS w W s (wds2 b i ++ List.replicate (48 - i) 0) → WS w (W.setCell ⟨w.heap.size + 1 + 1, j, none⟩ (.int .u32 ((x16 + (Go.bits .xor .u32 (Go.bits .xor .u32 (rotV x15 (-7)) (rotV x15 (-18))) (x15 / 8)) + x7 + (Go.bits .xor .u32 (Go.bits .xor .u32 (rotV x2 (-17)) (rotV x2 (-19))) (x2 / 1024))) % 4294967296))) s (wds2 b (i + 1) ++ List.replicate (48 - (i + 1)) 0)) := ⟨fun W h => by
         have h1 := h.word2 hlt
         rw [nextW_eq (HL.out.trans HJ.out.symm) e16.out e15.out e7.out e2.out, ← HJ.out] at h1
         exact h1⟩
       have HI := Aside0.mk hi
       clear hj hwl hi hlt
       go_wp2
       go_quiet (fail)
       go_wp2_with (go_at_call 69; refine (rot_any _ _ _ (by decide)).mono ?_; rintro e w' ⟨rfl, nd, rfl⟩)
       go_region
       go_wp2
       go_roundg (47 - i)
       case measure => have := HI.out; have := HJ.out; omega
       case rel => exact ⟨i + 1, j + 1, by have := HJ.out; have := HI.out; omega, by have := HJ.out; omega, by first | rfl | (simp; done), HN.out _ (HW.drewN _)⟩
     · obtain rfl : i = 48 := by omega
       subst hj
       clear hlt hi; have HX : WS w wr s (wds2 b 48) := by simpa using HW
       clear HW; have i60 : (Tryd.prog.info? 60).map (·.size) = some 8 := by kernel_rfl
       have I60 := Aside0.mk i60
       clear i60; have hsz : (cU s).size = 8 := (cU_size s).trans HS.out
       have HSZ := Aside0.mk hsz
       clear hsz
       go_wp2_with (first
        | ((with_reducible refine gate_dst (N := 76) rfl ?_); refine wpList_load_row rfl 60 (.tmp 2) rfl w.heap.size rfl 60 (cU s) (0, 0) _ HX.s Tryd.underlying60 rfl (I60.out.trans (congrArg some HSZ.out.symm)) ?_)
        | ((with_reducible refine gate_dst (N := 12) rfl ?_); refine box_event ?hg (N := 12) ?hd (cs := cU (List.replicate 8 0)) (t := 60) ?hr ?_; (case hd => rfl); (case hg => rfl); (case hr => first | (go_simp; done) | (go_simp; rfl)); intro gv hg w1 hbox hb; have HX1 := HX.below hb; have HLT := Aside0.mk (hg ▸ HX.lt : w.heap.size + 1 + 1 < gv); have HV1 := Aside0.mk hbox; clear hb hbox hg)
        | ((with_reducible refine gate_store (t := 60) (p := 12) rfl ?_); refine wpList_store_row rfl 60 (.tmp 12) (.tmp 76) rfl gv (cU s) rfl rfl 60 (cU (List.replicate 8 0)) HV1.out (I60.out.trans (congrArg some HSZ.out.symm)) HSZ.out.symm (cU_one s) ?_; have HV2 : VS w (w1.setRow gv (cU s)) gv s (wds2 b 48) s := VS.put ⟨HX1, HLT.out, HV1.out⟩ s; clear HX1 HLT HV1))
       clear HX
       go_loopg [77] 64 (fun kq v77 W => ∃ i : Nat, i + kq = 64 ∧ v77 = .int .i64 i ∧ VS w W gv s (wds2 b 48) (rnds shaTab (wds2 b 48) s i))
       case atStart => exact ⟨0, rfl, rfl, HV2⟩
       case round =>
        clear HV2; obtain ⟨i, hi, rfl, HW⟩ := hrel
        by_cases hlt : i < 64
        · obtain ⟨v0, v1, v2, v3, v4, v5, v6, v7, ev⟩ := eight _ (rnds_len shaTab (wds2 b 48) s HS.out i)
          have HE := Aside0.mk ev
          have HI := Aside0.mk hi
          have hx : ∃ x : Int, Aside0 ((wds2 b 48).getD i 0 = x) ∧ ∀ n, (wr.drewN n).cell? ⟨w.heap.size + 1 + 1, i, none⟩ = some (.int .u32 x) := ⟨_, ⟨rfl⟩, fun n => (HW.drewN n).h.cellX i (by rw [wds2_len]; omega)⟩
          obtain ⟨x, ex, cx⟩ := hx
          have hk : ∃ x : Int, Aside0 (shaTab.getD i 0 = x) ∧ ∀ n, (wr.drewN n).cell? ⟨0, i, none⟩ = some (.int .u32 x) := ⟨_, ⟨rfl⟩, fun n => HT.out.below (HW.drewN n).h.b i hlt⟩
          obtain ⟨kk, ek, ck⟩ := hk
          rw [ev] at HW
          clear ev hi; have HN : Aside0 (∀ W, VS w W gv s (wds2 b 48) [v0, v1, v2, v3, v4, v5, v6, v7] → VS w (W.setRow gv (cU (rndV kk x [v0, v1, v2, v3, v4, v5, v6, v7]))) gv s (wds2 b 48) (rnds shaTab (wds2 b 48) s (i + 1))) := ⟨fun W h => by
            show VS w _ gv s (wds2 b 48) (rndV (shaTab.getD i 0) ((wds2 b 48).getD i 0) (rnds shaTab (wds2 b 48) s i))
            rw [ek.out, ex.out, HE.out]
            exact h.put _⟩
          have c0 : ∀ n, (wr.drewN n).cell? ⟨gv, 0, none⟩ = some (.int .u32 v0) := fun n => (blk_cell HW.v 0).trans rfl
          have c1 : ∀ n, (wr.drewN n).cell? ⟨gv, 1, none⟩ = some (.int .u32 v1) := fun n => (blk_cell HW.v 1).trans rfl
          have c2 : ∀ n, (wr.drewN n).cell? ⟨gv, 2, none⟩ = some (.int .u32 v2) := fun n => (blk_cell HW.v 2).trans rfl
          have c3 : ∀ n, (wr.drewN n).cell? ⟨gv, 3, none⟩ = some (.int .u32 v3) := fun n => (blk_cell HW.v 3).trans rfl
          have c4 : ∀ n, (wr.drewN n).cell? ⟨gv, 4, none⟩ = some (.int .u32 v4) := fun n => (blk_cell HW.v 4).trans rfl
          have c5 : ∀ n, (wr.drewN n).cell? ⟨gv, 5, none⟩ = some (.int .u32 v5) := fun n => (blk_cell HW.v 5).trans rfl
          have c6 : ∀ n, (wr.drewN n).cell? ⟨gv, 6, none⟩ = some (.int .u32 v6) := fun n => (blk_cell HW.v 6).trans rfl
          have c7 : ∀ n, (wr.drewN n).cell? ⟨gv, 7, none⟩ = some (.int .u32 v7) := fun n => (blk_cell HW.v 7).trans rfl
          go_wp2
          go_quiet (fail)
          go_wp2_with (go_at_call 69; refine (rot_any _ _ _ (by decide)).mono ?_; rintro e w' ⟨rfl, nd, rfl⟩)
          go_quiet (fail)
          go_wp2_with (first
           | (go_at_call 69; refine (rot_any _ _ _ (by decide)).mono ?_; rintro e w' ⟨rfl, nd, rfl⟩)
           | ((with_reducible refine gate_store (t := 60) (p := 12) rfl ?_); refine wpList_store_row rfl 60 (.tmp 12) (.tmp 160) rfl gv (cU (rndV kk x [v0, v1, v2, v3, v4, v5, v6, v7])) rfl ?hy 60 (cU [v0, v1, v2, v3, v4, v5, v6, v7]) HW.v I60.out rfl (cU_one _) ?_; (case hy => first | rfl | (go_simp; rfl))))
          go_roundg (63 - i)
          case measure => have := HI.out; omega
          case rel => exact ⟨i + 1, by have := HI.out; omega, by first | rfl | (simp; done), HN.out _ (HW.drewN _)⟩
        · obtain rfl : i = 64 := by omega
          clear hlt hi; have HV : VS w wr gv (addsV s (rnds shaTab (wds2 b 48) s 64) 0) (wds2 b 48) (rnds shaTab (wds2 b 48) s 64) := HW
          clear HW; have HRL := Aside0.mk (rnds_len shaTab (wds2 b 48) s HS.out 64)
          obtain ⟨lv, elv⟩ : ∃ l, rnds shaTab (wds2 b 48) s 64 = l := ⟨_, rfl⟩
          have HLV := Aside0.mk elv
          rw [elv] at HV HRL
          clear elv
          go_wp2
          go_loopg [162] 8 (fun kq v162 W => ∃ i : Nat, i + kq = 8 ∧ v162 = .int .i64 i ∧ VS w W gv (addsV s lv i) (wds2 b 48) lv)
          case atStart => exact ⟨0, rfl, rfl, HV⟩
          case round =>
           clear HV; obtain ⟨i, hi, rfl, HW⟩ := hrel
           by_cases hlt : i < 8
           · have HI := Aside0.mk hi
             have hx : ∃ x : Int, Aside0 (s.getD i 0 = x) ∧ wr.cell? ⟨w.heap.size, i, none⟩ = some (.int .u32 x) := ⟨_, ⟨rfl⟩, by
               have := blkU ⟨HW.h.s⟩ i (by rw [addsV_len, HS.out]; omega)
               rwa [addsV_at _ _ _ _ (Nat.le_refl _)] at this⟩
             obtain ⟨x, ex, cx⟩ := hx
             have hy : ∃ x : Int, Aside0 (lv.getD i 0 = x) ∧ wr.cell? ⟨gv, i, none⟩ = some (.int .u32 x) := ⟨_, ⟨rfl⟩, blkU ⟨HW.v⟩ i (by rw [HRL.out]; omega)⟩
             obtain ⟨y, ey, cy⟩ := hy
             have hz : wr.frozen? ⟨w.heap.size, i, none⟩ = false := blk_frozen HW.h.s i
             clear hi; have HN : Aside0 (∀ W, VS w W gv (addsV s lv i) (wds2 b 48) lv → VS w (W.setCell ⟨w.heap.size, i, none⟩ (.int .u32 ((x + y) % 4294967296))) gv (addsV s lv (i + 1)) (wds2 b 48) lv) := ⟨fun W h => by
               show VS w _ gv ((addsV s lv i).set i ((s.getD i 0 + lv.getD i 0) % 4294967296)) (wds2 b 48) lv
               rw [ex.out, ey.out]
               exact h.setS i _⟩
             go_wp2
             go_region
             go_wp2
             go_roundg (7 - i)
             case measure => have := HI.out; omega
             case rel => exact ⟨i + 1, by have := HI.out; omega, by first | rfl | (simp; done), HN.out _ (HW.drewN 1)⟩
           · obtain rfl : i = 8 := by omega
             clear hlt hi; have HSF := Aside0.mk ((cU_size (addsV s lv 8)).trans ((addsV_len s lv 8).trans HS.out))
             obtain ⟨lr, elr, hr⟩ := HW.h.r
             have HLR := Aside0.mk ((cU_size lr).trans elr)
             have HR := Aside0.mk hr
             clear elr hr
             go_wp2_with (first
              | ((with_reducible refine gate_dst (N := 175) rfl ?_); refine wpList_load_row rfl 60 (.tmp 2) rfl w.heap.size rfl 60 (cU (addsV s lv 8)) (0, 0) _ HW.h.s Tryd.underlying60 rfl (I60.out.trans (congrArg some HSF.out.symm)) ?_)
              | ((with_reducible refine gate_store (t := 60) (p := 4) rfl ?_); refine wpList_store_row rfl 60 (.tmp 4) (.tmp 175) rfl (w.heap.size + 1) (cU (addsV s lv 8)) rfl rfl 60 (cU lr) HR.out (I60.out.trans (congrArg some HSF.out.symm)) (HLR.out.trans HSF.out.symm) (cU_one _) ?_))
             refine bodyPost_ret (v := .agg (cU (addsV s lv 8))) (results_cell_row rfl _ _ (w.heap.size + 1) 60 (cU (addsV s lv 8)) (0, 0) _ rfl (setRow_heap _ _ _ _ 60 _ HR.out) Tryd.underlying60 rfl (I60.out.trans (congrArg some HSF.out.symm))) rfl ⟨?_, below_row HW.h.b (by omega) _⟩
             rw [shaB, HLV.out]
end Go.Proofs.YtobkmpihjfiihaaDoor.PFnCanon
