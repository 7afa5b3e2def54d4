-- The machine side of a law: written by a program of this session (wip/tools), a turned print.
import Derived.Test.YtobkmpihjfiihaaDoorPFnCanonx0
import Derived.Test.YtobkmpihjfiihaaDoorPFnCanonx13
namespace Go.Proofs.YtobkmpihjfiihaaDoor.PFnCanon
open Go.RowKit Go.Proofs.YtobkmpihjfiihaaDoorW.PrintWords Go.Proofs.YtobkmpihjfiihaaDoorW.PrintLast Go.Proofs.YtobkmpihjfiihaaDoorW.PrintMore
attribute [local go_sem] max2_int min2_int max_two min_two max_three min_three max_four min_four   -- for this text's walks alone
set_option linter.unusedVariables false
set_option linter.unusedSimpArgs false
mutual
def spec_ReadVar.l0 : Nat → ByteArray → Int → Option (Int × Int)
 | 0, _, _ => none
 | k + 1, x0, x4 => if x4 ≤ 7 then (spec_ReadVar.j1 k x0 x4 (decide (x4 ≤ (x0.size : Int)))) else (spec_ReadVar.j1 k x0 x4 false)
def spec_ReadVar.j1 : Nat → ByteArray → Int → Bool → Option (Int × Int)
 | 0, _, _, _ => none
 | k + 1, x0, x4, x14 => if x14 = true then (spec_ReadVar.l1 k x0 x4 0 (wrap64 (x4 - 1))) else (some (0, 0))
def spec_ReadVar.l1 : Nat → ByteArray → Int → Int → Int → Option (Int × Int)
 | 0, _, _, _, _ => none
 | k + 1, x0, x4, x5, x6 => if x6 ≥ 0 then (if 0 ≤ x6 then (if x6 < (x0.size : Int) then (spec_ReadVar.l1 k x0 x4 (wrap64 ((wrap64 (x5 * 128)) + (Int.tmod (wrap64 (bt x0 x6)) 128))) (wrap64 (x6 - 1))) else (none)) else (none)) else ((spec_Var.f k x5).bind fun t522 => (if 0 ≤ x4 then (if x4 ≤ (x0.size : Int) then (if t522.toList = (x0.extract 0 (x4 : Int).toNat).toList then (some (x5, x4)) else (spec_ReadVar.l0 k x0 (wrap64 (x4 + 1)))) else (none)) else (none)))
end
def spec_ReadVar.f (k : Nat) (a0 : ByteArray) : Option (Int × Int) := spec_ReadVar.l0 k a0 1
theorem spec_ReadVar.mono_l : ∀ k, (∀ y0 y1, LeO (spec_ReadVar.l0 k y0 y1) (spec_ReadVar.l0 (k + 1) y0 y1)) ∧ (∀ y0 y1 y2, LeO (spec_ReadVar.j1 k y0 y1 y2) (spec_ReadVar.j1 (k + 1) y0 y1 y2)) ∧ (∀ y0 y1 y2 y3, LeO (spec_ReadVar.l1 k y0 y1 y2 y3) (spec_ReadVar.l1 (k + 1) y0 y1 y2 y3))
 | 0 => ⟨fun _ _ r h => by simp [spec_ReadVar.l0] at h, fun _ _ _ r h => by simp [spec_ReadVar.j1] at h, fun _ _ _ _ r h => by simp [spec_ReadVar.l1] at h⟩
 | k + 1 => by
  obtain ⟨ih0, ih1, ih2⟩ := spec_ReadVar.mono_l k
  refine ⟨?_, ?_, ?_⟩
  ·intro y0 y1
   unfold spec_ReadVar.l0
   repeat' first
   | (with_reducible exact ih0 _ _)
   | (with_reducible exact ih1 _ _ _)
   | (with_reducible exact ih2 _ _ _ _)
   | (with_reducible exact spec_Var.mono _ _)
   | (with_reducible exact LeO.refl _)
   | (with_reducible exact LeO.none _)
   | (with_reducible refine LeO.ite ?_ ?_)
   | (with_reducible refine LeO.bind ?_ (fun _ => ?_))
   | exact ih0 _ _
   | exact ih1 _ _ _
   | exact ih2 _ _ _ _
   | exact spec_Var.mono _ _
   | exact LeO.none _
   | refine LeO.ite ?_ ?_
   | refine LeO.bind ?_ (fun _ => ?_)
  ·intro y0 y1 y2
   unfold spec_ReadVar.j1
   repeat' first
   | (with_reducible exact ih0 _ _)
   | (with_reducible exact ih1 _ _ _)
   | (with_reducible exact ih2 _ _ _ _)
   | (with_reducible exact spec_Var.mono _ _)
   | (with_reducible exact LeO.refl _)
   | (with_reducible exact LeO.none _)
   | (with_reducible refine LeO.ite ?_ ?_)
   | (with_reducible refine LeO.bind ?_ (fun _ => ?_))
   | exact ih0 _ _
   | exact ih1 _ _ _
   | exact ih2 _ _ _ _
   | exact spec_Var.mono _ _
   | exact LeO.none _
   | refine LeO.ite ?_ ?_
   | refine LeO.bind ?_ (fun _ => ?_)
  ·intro y0 y1 y2 y3
   unfold spec_ReadVar.l1
   repeat' first
   | (with_reducible exact ih0 _ _)
   | (with_reducible exact ih1 _ _ _)
   | (with_reducible exact ih2 _ _ _ _)
   | (with_reducible exact spec_Var.mono _ _)
   | (with_reducible exact LeO.refl _)
   | (with_reducible exact LeO.none _)
   | (with_reducible refine LeO.ite ?_ ?_)
   | (with_reducible refine LeO.bind ?_ (fun _ => ?_))
   | exact ih0 _ _
   | exact ih1 _ _ _
   | exact ih2 _ _ _ _
   | exact spec_Var.mono _ _
   | exact LeO.none _
   | refine LeO.ite ?_ ?_
   | refine LeO.bind ?_ (fun _ => ?_)
theorem spec_ReadVar.mono : ∀ a0 k, LeO (spec_ReadVar.f k a0) (spec_ReadVar.f (k + 1) a0) := by
 intro a0 k
 obtain ⟨ih0, ih1, ih2⟩ := spec_ReadVar.mono_l k
 unfold spec_ReadVar.f
 repeat' first
   | (with_reducible exact ih0 _ _)
   | (with_reducible exact ih1 _ _ _)
   | (with_reducible exact ih2 _ _ _ _)
   | (with_reducible exact spec_Var.mono _ _)
   | (with_reducible exact LeO.refl _)
   | (with_reducible exact LeO.none _)
   | (with_reducible refine LeO.ite ?_ ?_)
   | (with_reducible refine LeO.bind ?_ (fun _ => ?_))
   | exact ih0 _ _
   | exact ih1 _ _ _
   | exact ih2 _ _ _ _
   | exact spec_Var.mono _ _
   | exact LeO.none _
   | refine LeO.ite ?_ ?_
   | refine LeO.bind ?_ (fun _ => ?_)
set_option maxHeartbeats 8000000 in
set_option maxRecDepth 100000 in
theorem spec_ReadVar.calls (k : Nat) (a0 : ByteArray) (r1 : Int) (r2 : Int) (w : World) (h : spec_ReadVar.f k a0 = some (r1, r2)) :
  Calls Tryd.prog 64 #[.string a0] w fun e w' => e = .returned (.tuple #[.int .i64 r1, .int .i64 r2]) ∧ Below w.heap.size w w' := by
 have HB := Aside0.mk (Below.refl w.heap.size w)
 have H : (spec_ReadVar.l0 k a0 1) = some (r1, r2) := h
 clear h; have H' := Aside0.mk H
 clear H
 go_enter Tryd.func64, Tryd.ntmps64
 go_wp2
 go_loopg [4] k (fun kq v4 w' => ∃ (x4_1 : Int), v4 = .int .i64 x4_1 ∧ Aside0 (spec_ReadVar.l0 kq a0 x4_1 = some (r1, r2)) ∧ Aside0 (kq ≤ k) ∧ Aside0 (Below w.heap.size w w'))
 case atStart => exact ⟨(1), (by first | rfl | (simp; done) | (simp [*]; done)), H', ⟨Nat.le_refl _⟩, ⟨by repeat (first | (with_reducible first | exact HB.out | apply below_alloc | apply pw_below_drewN | apply below_drew1) | exact HB.out)⟩⟩
 case round =>
  clear H'
  obtain ⟨x4_1, rfl, HA, HK1, HB⟩ := hrel
  cases gk with
  | zero => exact absurd HA.out (by simp [spec_ReadVar.l0])
  | succ k1 =>
   have H := HA.out; clear HA; simp only [spec_ReadVar.l0] at H
   have HC2 := Aside0.mk H
   clear H
   go_upto_region 2 with (fail)
   go_cut [14] (fun v14 wc => ∃ (kq : Nat) (x14_1 : Bool), v14 = .bool x14_1 ∧ Aside0 (spec_ReadVar.j1 kq a0 x4_1 x14_1 = some (r1, r2)) ∧ Aside0 (kq ≤ k1) ∧ Aside0 (Below w.heap.size w wc))
   case first =>
    have H := HC2.out; clear HC2
    by_cases c3 : x4_1 ≤ 7
    ·rw [if_pos c3] at H
     have c3b0 : decide (x4_1 ≤ 7) = true := decide_eq_true c3
     clear c3
     (first | rw [c3b0] | (simp only [i64_w, i32_w]; rw [c3b0]) | skip)
     have H' := Aside0.mk H
     clear H
     go_wp2
     go_meet
     case rel => exact ⟨_, (decide (x4_1 ≤ (a0.size : Int))), (by first | rfl | (simp; done) | (simp [*]; done)), H', ⟨by have := HK1.out; first | omega | exact Nat.le_refl _⟩, ⟨by repeat (first | (with_reducible first | exact HB.out | apply below_alloc | apply pw_below_drewN | apply below_drew1) | exact HB.out)⟩⟩
    ·rw [if_neg c3] at H
     have c3b0 : decide (x4_1 ≤ 7) = false := decide_eq_false c3
     clear c3
     (first | rw [c3b0] | (simp only [i64_w, i32_w]; rw [c3b0]) | skip)
     have H' := Aside0.mk H
     clear H
     go_wp2
     go_meet
     case rel => exact ⟨_, (false), (by first | rfl | (simp; done) | (simp [*]; done)), H', ⟨by have := HK1.out; first | omega | exact Nat.le_refl _⟩, ⟨by repeat (first | (with_reducible first | exact HB.out | apply below_alloc | apply pw_below_drewN | apply below_drew1) | exact HB.out)⟩⟩
   case rest =>
    clear HC2; obtain ⟨kq, x14_1, rfl, HA, HJ1, HB⟩ := hcut
    cases kq with
    | zero => exact absurd HA.out (by simp [spec_ReadVar.j1])
    | succ kj1 =>
     have H := HA.out; clear HA; simp only [spec_ReadVar.j1] at H
     by_cases c4 : x14_1 = true
     ·subst c4
      have H1 : (spec_ReadVar.l1 kj1 a0 x4_1 0 (wrap64 (x4_1 - 1))) = some (r1, r2) := by rw [if_pos rfl] at H; exact H
      clear H; have H := H1
      clear H1; have H' := Aside0.mk H
      clear H
      go_wp2
      go_loopg [5, 6] kj1 (fun kq v5 v6 w' => ∃ (x5_3 : Int) (x6_3 : Int), v5 = .int .i64 x5_3 ∧ v6 = .int .i64 x6_3 ∧ Aside0 (spec_ReadVar.l1 kq a0 x4_1 x5_3 x6_3 = some (r1, r2)) ∧ Aside0 (kq ≤ kj1) ∧ Aside0 (Below w.heap.size w w'))
      case atStart => exact ⟨(0), (wrap64 (x4_1 - 1)), (by first | rfl | (simp; done) | (simp [*]; done)), (by first | rfl | (simp; done) | (simp [*]; done)), H', ⟨Nat.le_refl _⟩, ⟨by repeat (first | (with_reducible first | exact HB.out | apply below_alloc | apply pw_below_drewN | apply below_drew1) | exact HB.out)⟩⟩
      case round =>
       clear H'
       obtain ⟨x5_3, x6_3, rfl, rfl, HA, HK3, HB⟩ := hrel
       cases gk with
       | zero => exact absurd HA.out (by simp [spec_ReadVar.l1])
       | succ k3 =>
        have H := HA.out; clear HA; simp only [spec_ReadVar.l1] at H
        by_cases c5 : x6_3 ≥ 0
        ·rw [if_pos c5] at H
         have c5b0 : decide (0 ≤ x6_3) = true := decide_eq_true c5
         clear c5
         by_cases c6 : 0 ≤ x6_3
         ·rw [if_pos c6] at H
          have c6b0 : decide (0 ≤ x6_3) = true := decide_eq_true c6
          clear c6
          by_cases c7 : x6_3 < (a0.size : Int)
          ·rw [if_pos c7] at H
           have c7b0 : decide (x6_3 < (a0.size : Int)) = true := decide_eq_true c7
           clear c7; have H' := Aside0.mk H
           clear H; have p8 : 0 ≤ (x6_3 : Int) := of_decide_eq_true (by first | (with_reducible assumption) | assumption)
           have q8 : x6_3 < (a0.size : Int) := of_decide_eq_true (by first | (with_reducible assumption) | assumption)
           have hx8 := bt_at a0 x6_3
           replace p8 := eq_true p8
           replace q8 := eq_true q8
           go_wp2
           go_roundg k3
           case measure => have := HK1.out; have := HJ1.out; have := HK3.out; omega
           case rel => exact ⟨(wrap64 ((wrap64 (x5_3 * 128)) + (Int.tmod (wrap64 (bt a0 x6_3)) 128))), (wrap64 (x6_3 - 1)), (by first | rfl | (simp; done) | (simp [*]; done)), (by first | rfl | (simp; done) | (simp [*]; done)), H', ⟨by have := HK1.out; have := HJ1.out; have := HK3.out; omega⟩, ⟨by repeat (first | (with_reducible first | exact HB.out | apply below_alloc | apply pw_below_drewN | apply below_drew1) | exact HB.out)⟩⟩
          ·rw [if_neg c7] at H
           exact absurd H (by simp)
         ·rw [if_neg c6] at H
          exact absurd H (by simp)
        ·rw [if_neg c5] at H
         have c5b0 : decide (0 ≤ x6_3) = false := decide_eq_false c5
         clear c5; replace H := Option.bind_eq_some_iff.mp H
         obtain ⟨t522, A90, H⟩ := H
         replace H : (if 0 ≤ x4_1 then (if x4_1 ≤ (a0.size : Int) then (if t522.toList = (a0.extract 0 (x4_1 : Int).toNat).toList then (some (x5_3, x4_1)) else (spec_ReadVar.l0 k3 a0 (wrap64 (x4_1 + 1)))) else (none)) else (none)) = some (r1, r2) := H
         have A9 := Aside0.mk A90
         clear A90
         by_cases c10 : 0 ≤ x4_1
         ·rw [if_pos c10] at H
          have c10b0 := eq_true c10
          have c10b1 : decide (0 ≤ x4_1) = true := decide_eq_true c10
          clear c10
          by_cases c11 : x4_1 ≤ (a0.size : Int)
          ·rw [if_pos c11] at H
           have c11b0 := eq_true c11
           have c11b1 : decide (x4_1 ≤ (a0.size : Int)) = true := decide_eq_true c11
           clear c11
           by_cases c12 : t522.toList = (a0.extract 0 (x4_1 : Int).toNat).toList
           ·rw [if_pos c12] at H
            have c12b0 : (t522.toList == (a0.extract 0 (x4_1 : Int).toNat).toList) = true := beq_iff_eq.mpr c12
            have c12b1 : (t522.toList != (a0.extract 0 (x4_1 : Int).toNat).toList) = false := bne_eq_false_iff_eq.mpr c12
            clear c12; simp only [Option.some.injEq, Prod.mk.injEq] at H
            obtain ⟨rfl, rfl⟩ := H
            try go_wp2
            have n0_ := Aside0.mk (below_drew1 HB.out)
            clear HB; have HB := n0_; clear n0_; refine start_ (n := 6) (S := fun w' => True) (ds := []) #[ff,ff,ff,ff,ff,ff] (by kernel_rfl) rfl rfl trivial (fun hHeld => ?_)
            generalize wr.drew = w13 at HB hHeld ⊢
            refine pure_ (i := 0) (N := some 31) (v := ?_) (a' := ?_) #[tt,ff,ff,ff,ff,ff] rfl rfl (by kernel_rfl) (fun _ _ _ h => h) (Or.inl ⟨by rfl, ?_⟩) ?_ ?_
            rotate_left
            ·intro w'; go_simp; with_reducible rfl
            rotate_left
            ·simp only [putL, i64_w, i32_w]; rfl
            refine pure_ (i := 2) (N := some 33) (v := ?_) (a' := ?_) #[tt,ff,tt,ff,ff,ff] rfl rfl (by kernel_rfl) (fun _ _ _ h => h) (Or.inl ⟨by rfl, ?_⟩) ?_ ?_
            rotate_left
            ·intro w'; go_simp; with_reducible rfl
            rotate_left
            ·simp only [putL, i64_w, i32_w]; rfl
            refine pure_ (i := 3) (N := some 34) (v := ?_) (a' := ?_) #[tt,ff,tt,tt,ff,ff] rfl rfl (by kernel_rfl) (fun _ _ _ h => h) (Or.inl ⟨by rfl, ?_⟩) ?_ ?_
            rotate_left
            ·intro w'; go_simp; with_reducible rfl
            rotate_left
            ·simp only [putL, i64_w, i32_w]; rfl
            refine pure_ (i := 4) (N := some 35) (v := ?_) (a' := ?_) #[tt,ff,tt,tt,tt,ff] rfl rfl (by kernel_rfl) (fun _ _ _ h => h) (Or.inl ⟨by rfl, ?_⟩) ?_ ?_
            rotate_left
            ·intro w'; go_simp; with_reducible rfl
            rotate_left
            ·simp only [putL, i64_w, i32_w]; rfl
            refine one_ (i := 1) (N := some 32) #[tt,tt,tt,tt,tt,ff] rfl rfl (by kernel_rfl) (by decide) (fun K hK => ?_)
            refine goes_ Tryd.func74 (by kernel_rfl) rfl #[.int .i64 x5_3] (by rfl) rfl rfl (by (try simp only [List.map_toArray, List.map_cons, List.map_nil]); first | done | rfl | (simp only [List.length_drop, List.length_take]; rfl)) ?_
            with_reducible refine (spec_Var.calls k3 x5_3 t522 _ A9.out).mono ?_
            rintro e w14 ⟨rfl, hb⟩
            refine ⟨_, rfl, ?_⟩
            replace HB := bh HB hb
            (try clear hb); (try clear hb2); (try clear hk); (try clear hi); refine hK.out _ _ trivial (fun hHeld => ?_)
            clear hK K; refine norm_ (a' := ?_) ?_ ?_
            rotate_left
            ·show Act.put _ (some 32) _ = _
             simp only [putL, i64_w, i32_w]; rfl
            refine pure_ (i := 5) (N := some 36) (v := ?_) (a' := ?_) #[tt,tt,tt,tt,tt,tt] rfl rfl (by kernel_rfl) (fun _ _ _ h => h) (Or.inl ⟨by rfl, ?_⟩) ?_ ?_
            rotate_left
            ·intro w'; go_simp; with_reducible rfl
            rotate_left
            ·simp only [putL, i64_w, i32_w]; rfl
            refine done_ (by kernel_rfl) ?_
            try go_wp2
            go_ret2
            exact ⟨by first | rfl | (simp [errW_none, errW_some] <;> rfl) | (simp [*, errW_none, errW_some] <;> rfl), by repeat (first | (with_reducible first | exact HB.out | apply below_alloc | apply pw_below_drewN | apply below_drew1) | exact HB.out)⟩
           ·rw [if_neg c12] at H
            have c12b0 : (t522.toList == (a0.extract 0 (x4_1 : Int).toNat).toList) = false := beq_eq_false_iff_ne.mpr c12
            have c12b1 : (t522.toList != (a0.extract 0 (x4_1 : Int).toNat).toList) = true := bne_iff_ne.mpr c12
            have H' := Aside0.mk H
            clear H
            try go_wp2
            have n0_ := Aside0.mk (below_drew1 HB.out)
            clear HB; have HB := n0_; clear n0_; refine start_ (n := 6) (S := fun w' => True) (ds := []) #[ff,ff,ff,ff,ff,ff] (by kernel_rfl) rfl rfl trivial (fun hHeld => ?_)
            generalize wr.drew = w15 at HB hHeld ⊢
            refine pure_ (i := 0) (N := some 31) (v := ?_) (a' := ?_) #[tt,ff,ff,ff,ff,ff] rfl rfl (by kernel_rfl) (fun _ _ _ h => h) (Or.inl ⟨by rfl, ?_⟩) ?_ ?_
            rotate_left
            ·intro w'; go_simp; with_reducible rfl
            rotate_left
            ·simp only [putL, i64_w, i32_w]; rfl
            refine pure_ (i := 2) (N := some 33) (v := ?_) (a' := ?_) #[tt,ff,tt,ff,ff,ff] rfl rfl (by kernel_rfl) (fun _ _ _ h => h) (Or.inl ⟨by rfl, ?_⟩) ?_ ?_
            rotate_left
            ·intro w'; go_simp; with_reducible rfl
            rotate_left
            ·simp only [putL, i64_w, i32_w]; rfl
            refine pure_ (i := 3) (N := some 34) (v := ?_) (a' := ?_) #[tt,ff,tt,tt,ff,ff] rfl rfl (by kernel_rfl) (fun _ _ _ h => h) (Or.inl ⟨by rfl, ?_⟩) ?_ ?_
            rotate_left
            ·intro w'; go_simp; with_reducible rfl
            rotate_left
            ·simp only [putL, i64_w, i32_w]; rfl
            refine pure_ (i := 4) (N := some 35) (v := ?_) (a' := ?_) #[tt,ff,tt,tt,tt,ff] rfl rfl (by kernel_rfl) (fun _ _ _ h => h) (Or.inl ⟨by rfl, ?_⟩) ?_ ?_
            rotate_left
            ·intro w'; go_simp; with_reducible rfl
            rotate_left
            ·simp only [putL, i64_w, i32_w]; rfl
            refine one_ (i := 1) (N := some 32) #[tt,tt,tt,tt,tt,ff] rfl rfl (by kernel_rfl) (by decide) (fun K hK => ?_)
            refine goes_ Tryd.func74 (by kernel_rfl) rfl #[.int .i64 x5_3] (by rfl) rfl rfl (by (try simp only [List.map_toArray, List.map_cons, List.map_nil]); first | done | rfl | (simp only [List.length_drop, List.length_take]; rfl)) ?_
            with_reducible refine (spec_Var.calls k3 x5_3 t522 _ A9.out).mono ?_
            rintro e w16 ⟨rfl, hb⟩
            refine ⟨_, rfl, ?_⟩
            replace HB := bh HB hb
            (try clear hb); (try clear hb2); (try clear hk); (try clear hi); refine hK.out _ _ trivial (fun hHeld => ?_)
            clear hK K; refine norm_ (a' := ?_) ?_ ?_
            rotate_left
            ·show Act.put _ (some 32) _ = _
             simp only [putL, i64_w, i32_w]; rfl
            refine pure_ (i := 5) (N := some 36) (v := ?_) (a' := ?_) #[tt,tt,tt,tt,tt,tt] rfl rfl (by kernel_rfl) (fun _ _ _ h => h) (Or.inl ⟨by rfl, ?_⟩) ?_ ?_
            rotate_left
            ·intro w'; go_simp; with_reducible rfl
            rotate_left
            ·simp only [putL, i64_w, i32_w]; rfl
            refine done_ (by kernel_rfl) ?_
            try go_wp2
            go_roundg k3
            case measure => have := HK1.out; have := HJ1.out; have := HK3.out; omega
            case rel => exact ⟨(wrap64 (x4_1 + 1)), (by first | rfl | (simp; done) | (simp [*]; done)), H', ⟨by have := HK1.out; have := HJ1.out; have := HK3.out; omega⟩, ⟨by repeat (first | (with_reducible first | exact HB.out | apply below_alloc | apply pw_below_drewN | apply below_drew1) | exact HB.out)⟩⟩
          ·rw [if_neg c11] at H
           exact absurd H (by simp)
         ·rw [if_neg c10] at H
          exact absurd H (by simp)
     ·replace c4 := Bool.eq_false_iff.mpr c4
      subst c4
      have H1 : (some (0, 0)) = some (r1, r2) := by rw [if_neg (show ¬ (false = true) by decide)] at H; exact H
      clear H; have H := H1
      clear H1; simp only [Option.some.injEq, Prod.mk.injEq] at H
      obtain ⟨rfl, rfl⟩ := H
      go_wp2
      go_ret2
      exact ⟨by first | rfl | (simp [errW_none, errW_some] <;> rfl) | (simp [*, errW_none, errW_some] <;> rfl), by repeat (first | (with_reducible first | exact HB.out | apply below_alloc | apply pw_below_drewN | apply below_drew1) | exact HB.out)⟩
mutual
def spec_ReadCanon.j0 : Nat → ByteArray → Bool → Option ((List (S76)) × Bool)
 | 0, _, _ => none
 | k + 1, x0, x17 => if x17 = true then (some (([] : List (S76)), false)) else (spec_ReadCanon.l0 k x0 4 ([] : List (S76)))
def spec_ReadCanon.l0 : Nat → ByteArray → Int → List (S76) → Option ((List (S76)) × Bool)
 | 0, _, _, _ => none
 | k + 1, x0, x5, x525000 => if x5 < (x0.size : Int) then (if 0 ≤ x5 then (if x5 ≤ (x0.size : Int) then ((spec_ReadVar.f k (x0.extract (x5 : Int).toNat x0.size)).bind fun bt526 => (if 0 ≤ (wrap64 (x5 + bt526.2)) then (if (wrap64 (x5 + bt526.2)) ≤ (x0.size : Int) then ((spec_ReadVar.f k (x0.extract ((wrap64 (x5 + bt526.2)) : Int).toNat x0.size)).bind fun bt528 => (if bt526.2 = 0 then (some (([] : List (S76)), false)) else (if bt528.2 = 0 then (some (([] : List (S76)), false)) else (if x525000.length < 8796093022208 then (spec_ReadCanon.l0 k x0 (wrap64 ((wrap64 (x5 + bt526.2)) + bt528.2)) (x525000 ++ [(⟨bt526.1, bt528.1⟩ : S76)])) else (none))))) else (none)) else (none))) else (none)) else (none)) else ((spec_Canon.f k x525000).bind fun t525 => (if t525.toList = x0.toList then (some (x525000, true)) else (some (([] : List (S76)), false))))
end
def spec_ReadCanon.f (k : Nat) (a0 : ByteArray) : Option ((List (S76)) × Bool) := if (a0.size : Int) < 4 then (spec_ReadCanon.j0 k a0 true) else (spec_ReadCanon.j0 k a0 (decide ((a0.size : Int) > 250)))
theorem spec_ReadCanon.mono_l : ∀ k, (∀ y0 y1, LeO (spec_ReadCanon.j0 k y0 y1) (spec_ReadCanon.j0 (k + 1) y0 y1)) ∧ (∀ y0 y1 y2, LeO (spec_ReadCanon.l0 k y0 y1 y2) (spec_ReadCanon.l0 (k + 1) y0 y1 y2))
 | 0 => ⟨fun _ _ r h => by simp [spec_ReadCanon.j0] at h, fun _ _ _ r h => by simp [spec_ReadCanon.l0] at h⟩
 | k + 1 => by
  obtain ⟨ih0, ih1⟩ := spec_ReadCanon.mono_l k
  refine ⟨?_, ?_⟩
  ·intro y0 y1
   unfold spec_ReadCanon.j0
   repeat' first
   | (with_reducible exact ih0 _ _)
   | (with_reducible exact ih1 _ _ _)
   | (with_reducible exact spec_Canon.mono _ _)
   | (with_reducible exact spec_ReadVar.mono _ _)
   | (with_reducible exact LeO.refl _)
   | (with_reducible exact LeO.none _)
   | (with_reducible refine LeO.ite ?_ ?_)
   | (with_reducible refine LeO.bind ?_ (fun _ => ?_))
   | exact ih0 _ _
   | exact ih1 _ _ _
   | exact spec_Canon.mono _ _
   | exact spec_ReadVar.mono _ _
   | exact LeO.none _
   | refine LeO.ite ?_ ?_
   | refine LeO.bind ?_ (fun _ => ?_)
  ·intro y0 y1 y2
   unfold spec_ReadCanon.l0
   repeat' first
   | (with_reducible exact ih0 _ _)
   | (with_reducible exact ih1 _ _ _)
   | (with_reducible exact spec_Canon.mono _ _)
   | (with_reducible exact spec_ReadVar.mono _ _)
   | (with_reducible exact LeO.refl _)
   | (with_reducible exact LeO.none _)
   | (with_reducible refine LeO.ite ?_ ?_)
   | (with_reducible refine LeO.bind ?_ (fun _ => ?_))
   | exact ih0 _ _
   | exact ih1 _ _ _
   | exact spec_Canon.mono _ _
   | exact spec_ReadVar.mono _ _
   | exact LeO.none _
   | refine LeO.ite ?_ ?_
   | refine LeO.bind ?_ (fun _ => ?_)
theorem spec_ReadCanon.mono : ∀ a0 k, LeO (spec_ReadCanon.f k a0) (spec_ReadCanon.f (k + 1) a0) := by
 intro a0 k
 obtain ⟨ih0, ih1⟩ := spec_ReadCanon.mono_l k
 unfold spec_ReadCanon.f
 repeat' first
   | (with_reducible exact ih0 _ _)
   | (with_reducible exact ih1 _ _ _)
   | (with_reducible exact spec_Canon.mono _ _)
   | (with_reducible exact spec_ReadVar.mono _ _)
   | (with_reducible exact LeO.refl _)
   | (with_reducible exact LeO.none _)
   | (with_reducible refine LeO.ite ?_ ?_)
   | (with_reducible refine LeO.bind ?_ (fun _ => ?_))
   | exact ih0 _ _
   | exact ih1 _ _ _
   | exact spec_Canon.mono _ _
   | exact spec_ReadVar.mono _ _
   | exact LeO.none _
   | refine LeO.ite ?_ ?_
   | refine LeO.bind ?_ (fun _ => ?_)
set_option maxHeartbeats 8000000 in
set_option maxRecDepth 100000 in
theorem spec_ReadCanon.calls (k : Nat) (a0 : ByteArray) (r1 : List (S76)) (r2 : Bool) (w : World) (h : spec_ReadCanon.f k a0 = some (r1, r2)) :
  Calls Tryd.prog 32 #[.string a0] w fun e w' => ∃ v0_ : Value, e = .returned (.tuple #[.agg #[v0_], .bool r2]) ∧ Kd.R k76 76 w' w.heap.size (fun _ => True) v0_ r1 ∧ Below w.heap.size w w' := by
 have hu45 := Tryd.underlying45
 have hu76 := Tryd.underlying76
 have HB := Aside0.mk (Below.refl w.heap.size w)
 have H : (if (a0.size : Int) < 4 then (spec_ReadCanon.j0 k a0 true) else (spec_ReadCanon.j0 k a0 (decide ((a0.size : Int) > 250)))) = some (r1, r2) := h
 clear h; have HC2 := Aside0.mk H
 clear H
 go_enter Tryd.func32, Tryd.ntmps32
 go_upto_region 1 with (first | ((with_reducible refine gate_dst (N := 2) rfl ?_); (try (refine gate_guard (by rfl) ?_; dsimp only)); refine box_event ?hg (N := 2) ?hd (cs := #[.slice none 0 0]) (t := 45) ?hr ?_; (case hd => rfl); (case hg => rfl); (case hr => first | (go_simp; done) | (go_simp; rfl)); intro h9a hg w3 hbox hb; have c9a := Aside0.mk (hbox); have GW523 := bs HB hg; have i9a := bs HB hg; replace HB := bh HB hb; clear hb hbox hg))
 (try simp only [putL])
 go_cut [17] (fun v17 wc => ∃ (kq : Nat) (x17_1 : Bool), v17 = .bool x17_1 ∧ Aside0 (spec_ReadCanon.j0 kq a0 x17_1 = some (r1, r2)) ∧ Aside0 (kq ≤ k) ∧ Aside0 (wc.heap[h9a]? = some (.cells #[(.slice none 0 0)] 45 (0, 0))) ∧ Aside0 (Below w.heap.size w wc))
 case first =>
  have H := HC2.out; clear HC2
  by_cases c4 : (a0.size : Int) < 4
  ·rw [if_pos c4] at H
   have c4b0 : decide ((a0.size : Int) < 4) = true := decide_eq_true c4
   have c4b1 : decide (a0.size < 4) = true := decide_eq_true (by omega)
   clear c4
   (first | rw [c4b0] | (simp only [i64_w, i32_w]; rw [c4b0]) | skip)
   have H' := Aside0.mk H
   clear H
   go_wp2
   go_meet
   case rel => exact ⟨_, (true), (by first | rfl | (simp; done) | (simp [*]; done)), H', ⟨by first | omega | exact Nat.le_refl _⟩, ⟨bb c9a⟩, ⟨by repeat (first | (with_reducible first | exact HB.out | apply below_alloc | apply pw_below_drewN | apply below_drew1 | refine below_set ?_ i9a.out) | exact HB.out)⟩⟩
  ·rw [if_neg c4] at H
   have c4b0 : decide ((a0.size : Int) < 4) = false := decide_eq_false c4
   have c4b1 : decide (a0.size < 4) = false := decide_eq_false (by omega)
   clear c4
   (first | rw [c4b0] | (simp only [i64_w, i32_w]; rw [c4b0]) | skip)
   have H' := Aside0.mk H
   clear H
   go_wp2
   go_meet
   case rel => exact ⟨_, (decide ((a0.size : Int) > 250)), (by first | rfl | (simp; done) | (simp [*]; done)), H', ⟨by first | omega | exact Nat.le_refl _⟩, ⟨bb c9a⟩, ⟨by repeat (first | (with_reducible first | exact HB.out | apply below_alloc | apply pw_below_drewN | apply below_drew1 | refine below_set ?_ i9a.out) | exact HB.out)⟩⟩
 case rest =>
  clear HC2; obtain ⟨kq, x17_1, rfl, HA, HJ1, c9a, HB⟩ := hcut
  cases kq with
  | zero => exact absurd HA.out (by simp [spec_ReadCanon.j0])
  | succ kj1 =>
   have H := HA.out; clear HA; simp only [spec_ReadCanon.j0] at H
   by_cases c5 : x17_1 = true
   ·subst c5
    have H1 : (some (([] : List (S76)), false)) = some (r1, r2) := by rw [if_pos rfl] at H; exact H
    clear H; have H := H1
    clear H1; simp only [Option.some.injEq, Prod.mk.injEq] at H
    obtain ⟨rfl, rfl⟩ := H
    have hcz6_0 : wc.cell? ⟨h9a, 0, none⟩ = some (.slice none 0 0) := bc c9a 0
    have hfz6_0 := blk_frozen c9a.out 0
    go_wp2
    refine bodyPost_ret (results_ct rfl _ _ h9a 45 #[.slice none 0 0] (0, 0) _ rfl (by (with_reducible repeat first | refine bkN ?_ _ | refine bkD ?_ | refine bkA ?_ _); refine blk_put (cs := #[.slice none 0 0]) ?_ 0 _ rfl; (with_reducible repeat first | refine bkN ?_ _ | refine bkD ?_ | refine bkA ?_ _); exact c9a.out) Tryd.underlying45 rfl (by kernel_rfl)) rfl ?_
    exact ⟨_, by first | rfl | (simp [errW_none, errW_some] <;> rfl) | (simp [*, errW_none, errW_some] <;> rfl), by first | exact Kd.R_nil _ _ _ _ _ | exact Kd.N_nil _ _ _ _ _ | exact Kd.V_nil _ _ _ _ _ | exact Kd.Q_nil _ _ _ _ _ | exact Kd.S_nil _ _ _ _ _, by repeat (first | (with_reducible first | exact HB.out | apply below_alloc | apply pw_below_drewN | apply below_drew1 | refine below_set ?_ i9a.out) | exact HB.out)⟩
   ·replace c5 := Bool.eq_false_iff.mpr c5
    subst c5
    have H1 : (spec_ReadCanon.l0 kj1 a0 4 ([] : List (S76))) = some (r1, r2) := by rw [if_neg (show ¬ (false = true) by decide)] at H; exact H
    clear H; have H := H1
    clear H1; have H' := Aside0.mk H
    clear H
    go_wp2_with (first | ((with_reducible refine gate_dst (N := 4) rfl ?_); (try (refine gate_guard (by rfl) ?_; dsimp only)); refine box_event ?hg (N := 4) ?hd (cs := #[.slice none 0 0]) (t := 45) ?hr ?_; (case hd => rfl); (case hg => rfl); (case hr => first | (go_simp; done) | (go_simp; rfl)); intro j9a hg w7 hbox hb; have d9a := Aside0.mk (hbox); have GW524 := bs HB hg; have l9a := bs HB hg; have e9a := bl c9a hg; have g9a := bg c9a hg; replace c9a := bq c9a hb; replace HB := bh HB hb; clear hb hbox hg; have hnb8 := g9a.out; have hnc8 := e9a.out; have hcz9_0 : w7.cell? ⟨j9a, 0, none⟩ = some (.slice none 0 0) := bc d9a 0; have hfz9_0 := blk_frozen d9a.out 0))
    go_loopg [5] kj1 (fun kq v5 w' => ∃ (x5_2 : Int) (b9a : List (S76)) (f9a : Value), v5 = .int .i64 x5_2 ∧ Aside0 (spec_ReadCanon.l0 kq a0 x5_2 b9a = some (r1, r2)) ∧ Aside0 (kq ≤ kj1) ∧ Aside0 (Kd.R k76 76 w' w.heap.size (fun _ => True) f9a b9a) ∧ Aside0 (w'.heap[h9a]? = some (.cells #[(.slice none 0 0)] 45 (0, 0))) ∧ Aside0 (w'.heap[j9a]? = some (.cells #[f9a] 45 (0, 0))) ∧ Aside0 (Below w.heap.size w w'))
    case atStart => exact ⟨(4), (([] : List (S76))), (.slice none 0 0), (by first | rfl | (simp; done) | (simp [*]; done)), H', ⟨Nat.le_refl _⟩, ⟨by first | exact Kd.R_nil _ _ _ _ _ | exact Kd.N_nil _ _ _ _ _ | exact Kd.V_nil _ _ _ _ _ | exact Kd.Q_nil _ _ _ _ _ | exact Kd.S_nil _ _ _ _ _⟩, ⟨by (with_reducible repeat first | refine bkN ?_ _ | refine bkD ?_ | refine bkA ?_ _ | refine blk_far ?_ e9a.out _); exact c9a.out⟩, ⟨by (with_reducible repeat first | refine bkN ?_ _ | refine bkD ?_ | refine bkA ?_ _); refine blk_put (cs := #[.slice none 0 0]) ?_ 0 _ rfl; (with_reducible repeat first | refine bkN ?_ _ | refine bkD ?_ | refine bkA ?_ _); exact d9a.out⟩, ⟨by repeat (first | (with_reducible first | exact HB.out | apply below_alloc | apply pw_below_drewN | apply below_drew1 | refine below_set ?_ i9a.out | refine below_set ?_ l9a.out) | exact HB.out)⟩⟩
    case round =>
     clear H'
     obtain ⟨x5_2, b9a, f9a, rfl, HA, HK2, a9a, c9a, d9a, HB⟩ := hrel
     cases gk with
     | zero => exact absurd HA.out (by simp [spec_ReadCanon.l0])
     | succ k2 =>
      have H := HA.out; clear HA; simp only [spec_ReadCanon.l0] at H
      by_cases c10 : x5_2 < (a0.size : Int)
      ·rw [if_pos c10] at H
       have c10b0 : decide (x5_2 < (a0.size : Int)) = true := decide_eq_true c10
       clear c10
       by_cases c11 : 0 ≤ x5_2
       ·rw [if_pos c11] at H
        have c11b0 := eq_true c11
        have c11b1 : decide (0 ≤ x5_2) = true := decide_eq_true c11
        clear c11
        by_cases c12 : x5_2 ≤ (a0.size : Int)
        ·rw [if_pos c12] at H
         have c12b0 := eq_true c12
         have c12b1 : decide (x5_2 ≤ (a0.size : Int)) = true := decide_eq_true c12
         clear c12; replace H := Option.bind_eq_some_iff.mp H
         obtain ⟨⟨t526, t527⟩, A130, H⟩ := H
         replace H : (if 0 ≤ (wrap64 (x5_2 + t527)) then (if (wrap64 (x5_2 + t527)) ≤ (a0.size : Int) then ((spec_ReadVar.f k2 (a0.extract ((wrap64 (x5_2 + t527)) : Int).toNat a0.size)).bind fun k9a => (if t527 = 0 then (some (([] : List (S76)), false)) else (if k9a.2 = 0 then (some (([] : List (S76)), false)) else (if b9a.length < 8796093022208 then (spec_ReadCanon.l0 k2 a0 (wrap64 ((wrap64 (x5_2 + t527)) + k9a.2)) (b9a ++ [(⟨t526, k9a.1⟩ : S76)])) else (none))))) else (none)) else (none)) = some (r1, r2) := H
         have A13 := Aside0.mk A130
         clear A130; obtain ⟨ji14, hji14⟩ : ∃ j_ : Int, (wrap64 (x5_2 + t527)) = j_ := ⟨_, rfl⟩
         replace H : (if 0 ≤ (ji14) then (if (ji14) ≤ (a0.size : Int) then ((spec_ReadVar.f k2 (a0.extract ((ji14) : Int).toNat a0.size)).bind fun k9a => (if t527 = 0 then (some (([] : List (S76)), false)) else (if k9a.2 = 0 then (some (([] : List (S76)), false)) else (if b9a.length < 8796093022208 then (spec_ReadCanon.l0 k2 a0 (wrap64 ((ji14) + k9a.2)) (b9a ++ [(⟨t526, k9a.1⟩ : S76)])) else (none))))) else (none)) else (none)) = some (r1, r2) := by first | (rw [hji14] at H; exact H) | (simp only [hji14] at H ⊢; exact H)
         (try rw [hji14] at A13)
         have hji14w : (IntKind.i64.wrap (x5_2 + t527)) = ji14 := (i64_w _).trans hji14
         by_cases c15 : 0 ≤ (ji14)
         ·rw [if_pos c15] at H
          have c15b0 := eq_true c15
          have c15b1 : decide (0 ≤ (ji14)) = true := decide_eq_true c15
          clear c15
          by_cases c16 : (ji14) ≤ (a0.size : Int)
          ·rw [if_pos c16] at H
           have c16b0 := eq_true c16
           have c16b1 : decide ((ji14) ≤ (a0.size : Int)) = true := decide_eq_true c16
           clear c16; replace H := Option.bind_eq_some_iff.mp H
           obtain ⟨⟨t528, t529⟩, A170, H⟩ := H
           replace H : (if t527 = 0 then (some (([] : List (S76)), false)) else (if t529 = 0 then (some (([] : List (S76)), false)) else (if b9a.length < 8796093022208 then (spec_ReadCanon.l0 k2 a0 (wrap64 ((ji14) + t529)) (b9a ++ [(⟨t526, t528⟩ : S76)])) else (none)))) = some (r1, r2) := H
           have A17 := Aside0.mk A170
           clear A170
           by_cases c18 : t527 = 0
           ·rw [if_pos c18] at H
            have c18b0 : (t527 == 0) = true := beq_iff_eq.mpr c18
            have c18b1 : (t527 != 0) = false := bne_eq_false_iff_eq.mpr c18
            clear c18; simp only [Option.some.injEq, Prod.mk.injEq] at H
            obtain ⟨rfl, rfl⟩ := H
            go_wp2_with (first | ((with_reducible refine gate_callee (f := 64) rfl ?_); refine goesC_ (some 28) Tryd.func64 #[.string (a0.extract (x5_2 : Int).toNat a0.size)] ?_; (with_reducible refine (spec_ReadVar.calls k2 (a0.extract (x5_2 : Int).toNat a0.size) t526 t527 _ A13.out).mono ?_); rintro e w19 ⟨rfl, hb⟩; refine ⟨_, rfl, ?_⟩; replace a9a := Aside0.mk (Kd.R_below (rr a9a) hb); replace c9a := bq c9a hb; replace d9a := bq d9a hb; replace HB := bh HB hb; (try clear hb); (try clear hb2); (try clear hk); (try clear hi)) | ((with_reducible refine gate_callee (f := 64) rfl ?_); refine goesL_ (some 37) rfl rfl Tryd.func64 (by kernel_rfl) rfl #[.string (a0.extract ((ji14) : Int).toNat a0.size)] rfl (by (try simp only [List.map_toArray, List.map_cons, List.map_nil]); first | done | (simp only [hji14]; rfl) | rfl | (simp only [List.length_drop, List.length_take]; rfl)) ?_; (with_reducible refine (spec_ReadVar.calls k2 (a0.extract ((ji14) : Int).toNat a0.size) t528 t529 _ A17.out).mono ?_); rintro e w20 ⟨rfl, hb⟩; refine ⟨_, rfl, ?_⟩; replace a9a := Aside0.mk (Kd.R_below (rr a9a) hb); replace c9a := bq c9a hb; replace d9a := bq d9a hb; replace HB := bh HB hb; (try clear hb); (try clear hb2); (try clear hk); (try clear hi); have hnb21 := e9a.out; have hnc21 := g9a.out; have hcz22_0 : w20.cell? ⟨h9a, 0, none⟩ = some (.slice none 0 0) := bc c9a 0; have hfz22_0 := blk_frozen c9a.out 0))
            refine bodyPost_ret (results_ct rfl _ _ h9a 45 #[.slice none 0 0] (0, 0) _ rfl (by (with_reducible repeat first | refine bkN ?_ _ | refine bkD ?_ | refine bkA ?_ _); refine blk_put (cs := #[.slice none 0 0]) ?_ 0 _ rfl; (with_reducible repeat first | refine bkN ?_ _ | refine bkD ?_ | refine bkA ?_ _); exact c9a.out) Tryd.underlying45 rfl (by kernel_rfl)) rfl ?_
            exact ⟨_, by first | rfl | (simp [errW_none, errW_some] <;> rfl) | (simp only [← hji14]; first | rfl | (simp [errW_none, errW_some] <;> rfl)) | (simp [*, errW_none, errW_some] <;> rfl), by first | exact Kd.R_nil _ _ _ _ _ | exact Kd.N_nil _ _ _ _ _ | exact Kd.V_nil _ _ _ _ _ | exact Kd.Q_nil _ _ _ _ _ | exact Kd.S_nil _ _ _ _ _, by repeat (first | (with_reducible first | exact HB.out | apply below_alloc | apply pw_below_drewN | apply below_drew1 | refine below_set ?_ i9a.out | refine below_set ?_ l9a.out) | exact HB.out)⟩
           ·rw [if_neg c18] at H
            have c18b0 : (t527 == 0) = false := beq_eq_false_iff_ne.mpr c18
            have c18b1 : (t527 != 0) = true := bne_iff_ne.mpr c18
            by_cases c23 : t529 = 0
            ·rw [if_pos c23] at H
             have c23b0 : (t529 == 0) = true := beq_iff_eq.mpr c23
             have c23b1 : (t529 != 0) = false := bne_eq_false_iff_eq.mpr c23
             clear c23; simp only [Option.some.injEq, Prod.mk.injEq] at H
             obtain ⟨rfl, rfl⟩ := H
             go_wp2_with (first | ((with_reducible refine gate_callee (f := 64) rfl ?_); refine goesC_ (some 28) Tryd.func64 #[.string (a0.extract (x5_2 : Int).toNat a0.size)] ?_; (with_reducible refine (spec_ReadVar.calls k2 (a0.extract (x5_2 : Int).toNat a0.size) t526 t527 _ A13.out).mono ?_); rintro e w24 ⟨rfl, hb⟩; refine ⟨_, rfl, ?_⟩; replace a9a := Aside0.mk (Kd.R_below (rr a9a) hb); replace c9a := bq c9a hb; replace d9a := bq d9a hb; replace HB := bh HB hb; (try clear hb); (try clear hb2); (try clear hk); (try clear hi)) | ((with_reducible refine gate_callee (f := 64) rfl ?_); refine goesL_ (some 37) rfl rfl Tryd.func64 (by kernel_rfl) rfl #[.string (a0.extract ((ji14) : Int).toNat a0.size)] rfl (by (try simp only [List.map_toArray, List.map_cons, List.map_nil]); first | done | (simp only [hji14]; rfl) | rfl | (simp only [List.length_drop, List.length_take]; rfl)) ?_; (with_reducible refine (spec_ReadVar.calls k2 (a0.extract ((ji14) : Int).toNat a0.size) t528 t529 _ A17.out).mono ?_); rintro e w25 ⟨rfl, hb⟩; refine ⟨_, rfl, ?_⟩; replace a9a := Aside0.mk (Kd.R_below (rr a9a) hb); replace c9a := bq c9a hb; replace d9a := bq d9a hb; replace HB := bh HB hb; (try clear hb); (try clear hb2); (try clear hk); (try clear hi); have hnb26 := e9a.out; have hnc26 := g9a.out; have hcz27_0 : w25.cell? ⟨h9a, 0, none⟩ = some (.slice none 0 0) := bc c9a 0; have hfz27_0 := blk_frozen c9a.out 0))
             refine bodyPost_ret (results_ct rfl _ _ h9a 45 #[.slice none 0 0] (0, 0) _ rfl (by (with_reducible repeat first | refine bkN ?_ _ | refine bkD ?_ | refine bkA ?_ _); refine blk_put (cs := #[.slice none 0 0]) ?_ 0 _ rfl; (with_reducible repeat first | refine bkN ?_ _ | refine bkD ?_ | refine bkA ?_ _); exact c9a.out) Tryd.underlying45 rfl (by kernel_rfl)) rfl ?_
             exact ⟨_, by first | rfl | (simp [errW_none, errW_some] <;> rfl) | (simp only [← hji14]; first | rfl | (simp [errW_none, errW_some] <;> rfl)) | (simp [*, errW_none, errW_some] <;> rfl), by first | exact Kd.R_nil _ _ _ _ _ | exact Kd.N_nil _ _ _ _ _ | exact Kd.V_nil _ _ _ _ _ | exact Kd.Q_nil _ _ _ _ _ | exact Kd.S_nil _ _ _ _ _, by repeat (first | (with_reducible first | exact HB.out | apply below_alloc | apply pw_below_drewN | apply below_drew1 | refine below_set ?_ i9a.out | refine below_set ?_ l9a.out) | exact HB.out)⟩
            ·rw [if_neg c23] at H
             have c23b0 : (t529 == 0) = false := beq_eq_false_iff_ne.mpr c23
             have c23b1 : (t529 != 0) = true := bne_iff_ne.mpr c23
             by_cases c28 : b9a.length < 8796093022208
             ·rw [if_pos c28] at H
              have LMc28 := Aside0.mk c28
              clear c28; obtain ⟨y530, hy530⟩ : ∃ y_ : List (S76), y_ = (b9a ++ [(⟨t526, t528⟩ : S76)]) := ⟨_, rfl⟩
              replace H : (spec_ReadCanon.l0 k2 a0 (wrap64 ((ji14) + t529)) y530) = some (r1, r2) := by first | (rw [hy530]; with_reducible exact H) | (have H2_ := (Option.bind_some _ _).symm.trans H; rw [hy530]; with_reducible exact H2_) | (have H2_ := (Option.bind_some _ _).symm.trans H; with_reducible exact H2_) | with_reducible exact H | (rw [hy530]; exact H) | exact H
              have Ny530 := Aside0.mk hy530
              clear hy530; have H' := Aside0.mk H
              clear H
              go_wp2_with (first | ((with_reducible refine gate_callee (f := 64) rfl ?_); refine goesC_ (some 28) Tryd.func64 #[.string (a0.extract (x5_2 : Int).toNat a0.size)] ?_; (with_reducible refine (spec_ReadVar.calls k2 (a0.extract (x5_2 : Int).toNat a0.size) t526 t527 _ A13.out).mono ?_); rintro e w29 ⟨rfl, hb⟩; refine ⟨_, rfl, ?_⟩; replace a9a := Aside0.mk (Kd.R_below (rr a9a) hb); replace c9a := bq c9a hb; replace d9a := bq d9a hb; replace HB := bh HB hb; (try clear hb); (try clear hb2); (try clear hk); (try clear hi)) | ((with_reducible refine gate_callee (f := 64) rfl ?_); refine goesL_ (some 37) rfl rfl Tryd.func64 (by kernel_rfl) rfl #[.string (a0.extract ((ji14) : Int).toNat a0.size)] rfl (by (try simp only [List.map_toArray, List.map_cons, List.map_nil]); first | done | (simp only [hji14]; rfl) | rfl | (simp only [List.length_drop, List.length_take]; rfl)) ?_; (with_reducible refine (spec_ReadVar.calls k2 (a0.extract ((ji14) : Int).toNat a0.size) t528 t529 _ A17.out).mono ?_); rintro e w30 ⟨rfl, hb⟩; refine ⟨_, rfl, ?_⟩; replace a9a := Aside0.mk (Kd.R_below (rr a9a) hb); replace c9a := bq c9a hb; replace d9a := bq d9a hb; replace HB := bh HB hb; (try clear hb); (try clear hb2); (try clear hk); (try clear hi); have hnb31 := g9a.out; have hnc31 := e9a.out; have hcz32_0 : w30.cell? ⟨j9a, 0, none⟩ = some (f9a) := bc d9a 0; have hfz32_0 := blk_frozen d9a.out 0) | ((with_reducible refine gate_builtin (b := .append) (xs := #[.tmp 48, .tmp 52]) rfl ?_); (try (refine gate_guard (by rfl) ?_; dsimp only)); at_builtin; refine Kd.R_append k76 (w0 := w) w.heap.size rfl (.tmp 48) (.tmp 52) 43 76 (.agg #[(.int .i64 0), (.int .i64 0)]) 16 rfl Tryd.underlying43 info76 rfl (by decide) (by omega) f9a b9a (⟨t526, t528⟩ : S76) [.int .i64 t526, .int .i64 t528] (fun _ => True) (fun _ => False) rfl rfl ?aP (fun _ hk => hk.elim) ?aF ?aO ?aB ?aS ?aL ?_; (case aP => exact k76_mkM _ _ _ (⟨t526, t528⟩ : S76)); (case aB => exact (be HB)); (case aF => exact (fun _ _ => trivial)); (case aO => exact (rr a9a)); (case aS => exact (below_size (be HB))); (case aL => have := LMc28.out; omega); intro v531 w33 ho hb hg hat; rw [← Ny530.out] at ho; have n0_ := Aside0.mk (blk_grown (g := h9a) (o := .cells #[.slice none 0 0] 45 (0, 0)) (by (with_reducible repeat first | refine bkN ?_ _ | refine bkD ?_ | refine bkA ?_ _); exact c9a.out) hg (Kd.R_ne a9a.out c9a.out (by decide))); have n1_ := Aside0.mk (blk_grown (g := j9a) (o := .cells #[f9a] 45 (0, 0)) (by (with_reducible repeat first | refine bkN ?_ _ | refine bkD ?_ | refine bkA ?_ _); exact d9a.out) hg (Kd.R_ne a9a.out d9a.out (by decide))); have n2_ := Aside0.mk (hb); have HO532 := Aside0.mk (ho); clear a9a c9a d9a HB; have c9a := n0_; have d9a := n1_; have HB := n2_; clear n0_ n1_ n2_; clear ho hb hg hat; obtain ⟨Ao34, co34, eo34⟩ := Kd.R_slice HO532.out; subst eo34; have hcz35_0 : w33.cell? ⟨j9a, 0, none⟩ = some (f9a) := bc d9a 0; have hfz35_0 := blk_frozen d9a.out 0))
              go_roundg k2
              case measure => have := HJ1.out; have := HK2.out; omega
              case rel => exact ⟨(wrap64 ((ji14) + t529)), (y530), (.slice Ao34 y530.length co34), (by first | rfl | (simp; done) | (simp only [← hji14] <;> (first | rfl | simp)) | (simp [*]; done)), H', ⟨by have := HJ1.out; have := HK2.out; omega⟩, ⟨by (with_reducible repeat (first | apply Kd.R_alloc | apply Kd.R_drewN | apply Kd.R_drew)); exact Kd.R_mono (Kd.R_far (p := ⟨j9a, 0, none⟩) (Kd.R_types HO532.out d9a.out (by decide)) (fun _ hk => hk.2) (.slice Ao34 y530.length co34)) (fun _ hk => trivial)⟩, ⟨by (with_reducible repeat first | refine bkN ?_ _ | refine bkD ?_ | refine bkA ?_ _ | refine blk_far ?_ e9a.out _); exact c9a.out⟩, ⟨by (with_reducible repeat first | refine bkN ?_ _ | refine bkD ?_ | refine bkA ?_ _); refine blk_put (cs := #[f9a]) ?_ 0 _ rfl; (with_reducible repeat first | refine bkN ?_ _ | refine bkD ?_ | refine bkA ?_ _); exact d9a.out⟩, ⟨by repeat (first | (with_reducible first | exact HB.out | apply below_alloc | apply pw_below_drewN | apply below_drew1 | refine below_set ?_ i9a.out | refine below_set ?_ l9a.out) | exact HB.out)⟩⟩
             ·rw [if_neg c28] at H
              exact absurd H (by simp)
          ·rw [if_neg c16] at H
           exact absurd H (by simp)
         ·rw [if_neg c15] at H
          exact absurd H (by simp)
        ·rw [if_neg c12] at H
         exact absurd H (by simp)
       ·rw [if_neg c11] at H
        exact absurd H (by simp)
      ·rw [if_neg c10] at H
       have c10b0 : decide (x5_2 < (a0.size : Int)) = false := decide_eq_false c10
       clear c10; replace H := Option.bind_eq_some_iff.mp H
       obtain ⟨t525, A360, H⟩ := H
       replace H : (if t525.toList = a0.toList then (some (b9a, true)) else (some (([] : List (S76)), false))) = some (r1, r2) := H
       have A36 := Aside0.mk A360
       clear A360
       by_cases c37 : t525.toList = a0.toList
       ·rw [if_pos c37] at H
        have c37b0 : (t525.toList == a0.toList) = true := beq_iff_eq.mpr c37
        have c37b1 : (t525.toList != a0.toList) = false := bne_eq_false_iff_eq.mpr c37
        clear c37; simp only [Option.some.injEq, Prod.mk.injEq] at H
        obtain ⟨rfl, rfl⟩ := H
        have hnb38 := g9a.out; have hnc38 := e9a.out; have hcz39_0 : wr.cell? ⟨j9a, 0, none⟩ = some (f9a) := bc d9a 0
        have hfz39_0 := blk_frozen d9a.out 0; obtain ⟨Ao40, co40, eo40⟩ := Kd.R_slice a9a.out
        subst eo40
        go_wp2_with (first | ((with_reducible refine gate_callee (f := 51) rfl ?_); refine goesC_ (some 61) Tryd.func51 #[.agg #[.slice Ao40 b9a.length co40]] ?_; (with_reducible refine (spec_Canon.calls k2 _ _ b9a t525 _ ?side1 ?side2 A36.out).mono ?_); (case side1 => repeat (first | exact (Kd.R_reads' a9a.out).2.2 | (with_reducible refine Kd.C_alloc ?_ _) | (with_reducible refine Kd.C_drewN ?_ _) | (with_reducible refine Kd.C_drew ?_))); (case side2 => exact (Kd.R_reads' a9a.out).2.1); rintro e w41 ⟨rfl, hb⟩; refine ⟨_, rfl, ?_⟩; replace a9a := Aside0.mk (Kd.R_below (rr a9a) hb); replace c9a := bq c9a hb; replace d9a := bq d9a hb; replace HB := bh HB hb; (try clear hb); (try clear hb2); (try clear hk); (try clear hi); have hcz42_0 : w41.cell? ⟨j9a, 0, none⟩ = some (.slice Ao40 b9a.length co40) := bc d9a 0; have hfz42_0 := blk_frozen d9a.out 0; have hcz43_0 : w41.cell? ⟨h9a, 0, none⟩ = some (.slice none 0 0) := bc c9a 0; have hfz43_0 := blk_frozen c9a.out 0))
        refine bodyPost_ret (results_ct rfl _ _ h9a 45 #[.slice Ao40 b9a.length co40] (0, 0) _ rfl (by (with_reducible repeat first | refine bkN ?_ _ | refine bkD ?_ | refine bkA ?_ _); refine blk_put (cs := #[.slice none 0 0]) ?_ 0 _ rfl; (with_reducible repeat first | refine bkN ?_ _ | refine bkD ?_ | refine bkA ?_ _); exact c9a.out) Tryd.underlying45 rfl (by kernel_rfl)) rfl ?_
        exact ⟨_, by first | rfl | (simp [errW_none, errW_some] <;> rfl) | (simp [*, errW_none, errW_some] <;> rfl), by (with_reducible repeat (first | apply Kd.R_alloc | apply Kd.R_drewN | apply Kd.R_drew)); exact Kd.R_mono (Kd.R_far (p := ⟨h9a, 0, none⟩) (Kd.R_types a9a.out c9a.out (by decide)) (fun _ hk => hk.2) (.slice Ao40 b9a.length co40)) (fun _ hk => trivial), by repeat (first | (with_reducible first | exact HB.out | apply below_alloc | apply pw_below_drewN | apply below_drew1 | refine below_set ?_ i9a.out | refine below_set ?_ l9a.out) | exact HB.out)⟩
       ·rw [if_neg c37] at H
        have c37b0 : (t525.toList == a0.toList) = false := beq_eq_false_iff_ne.mpr c37
        have c37b1 : (t525.toList != a0.toList) = true := bne_iff_ne.mpr c37
        simp only [Option.some.injEq, Prod.mk.injEq] at H
        obtain ⟨rfl, rfl⟩ := H
        have hnb44 := g9a.out; have hnc44 := e9a.out; have hcz45_0 : wr.cell? ⟨j9a, 0, none⟩ = some (f9a) := bc d9a 0
        have hfz45_0 := blk_frozen d9a.out 0; obtain ⟨Ao46, co46, eo46⟩ := Kd.R_slice a9a.out
        subst eo46
        go_wp2_with (first | ((with_reducible refine gate_callee (f := 51) rfl ?_); refine goesC_ (some 61) Tryd.func51 #[.agg #[.slice Ao46 b9a.length co46]] ?_; (with_reducible refine (spec_Canon.calls k2 _ _ b9a t525 _ ?side1 ?side2 A36.out).mono ?_); (case side1 => repeat (first | exact (Kd.R_reads' a9a.out).2.2 | (with_reducible refine Kd.C_alloc ?_ _) | (with_reducible refine Kd.C_drewN ?_ _) | (with_reducible refine Kd.C_drew ?_))); (case side2 => exact (Kd.R_reads' a9a.out).2.1); rintro e w47 ⟨rfl, hb⟩; refine ⟨_, rfl, ?_⟩; replace a9a := Aside0.mk (Kd.R_below (rr a9a) hb); replace c9a := bq c9a hb; replace d9a := bq d9a hb; replace HB := bh HB hb; (try clear hb); (try clear hb2); (try clear hk); (try clear hi); have hcz48_0 : w47.cell? ⟨h9a, 0, none⟩ = some (.slice none 0 0) := bc c9a 0; have hfz48_0 := blk_frozen c9a.out 0))
        refine bodyPost_ret (results_ct rfl _ _ h9a 45 #[.slice none 0 0] (0, 0) _ rfl (by (with_reducible repeat first | refine bkN ?_ _ | refine bkD ?_ | refine bkA ?_ _); refine blk_put (cs := #[.slice none 0 0]) ?_ 0 _ rfl; (with_reducible repeat first | refine bkN ?_ _ | refine bkD ?_ | refine bkA ?_ _); exact c9a.out) Tryd.underlying45 rfl (by kernel_rfl)) rfl ?_
        exact ⟨_, by first | rfl | (simp [errW_none, errW_some] <;> rfl) | (simp [*, errW_none, errW_some] <;> rfl), by first | exact Kd.R_nil _ _ _ _ _ | exact Kd.N_nil _ _ _ _ _ | exact Kd.V_nil _ _ _ _ _ | exact Kd.Q_nil _ _ _ _ _ | exact Kd.S_nil _ _ _ _ _, by repeat (first | (with_reducible first | exact HB.out | apply below_alloc | apply pw_below_drewN | apply below_drew1 | refine below_set ?_ i9a.out | refine below_set ?_ l9a.out) | exact HB.out)⟩
end Go.Proofs.YtobkmpihjfiihaaDoor.PFnCanon
