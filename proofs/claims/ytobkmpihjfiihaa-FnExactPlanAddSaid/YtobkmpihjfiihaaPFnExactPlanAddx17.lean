-- The machine side of a law: written by a program of this session (wip/tools), a turned print.
import Derived.Test.YtobkmpihjfiihaaPFnExactPlanAddx0
import Derived.Test.YtobkmpihjfiihaaPFnExactPlanAddx16
namespace Go.Proofs.Ytobkmpihjfiihaa.PFnExactPlanAdd
open Go.RowKit Go.Proofs.YtobkmpihjfiihaaW.PrintWords Go.Proofs.YtobkmpihjfiihaaW.PrintLast Go.Proofs.YtobkmpihjfiihaaW.PrintMore
attribute [local go_sem] max2_int min2_int max_two min_two max_three min_three max_four min_four   -- for this text's walks alone
set_option linter.unusedVariables false
set_option linter.unusedSimpArgs false

/-! ### laws_heldStepS: function 24 -/
def laws_heldStepS.l0 : Nat → List (S98) → Int → Int → Option (Int)
 | 0, _, _, _ => none
 | k + 1, x0, x1, x5 => if x5 < (x0.length : Int) then (if 0 ≤ x5 then (if ((rd_T98 x0 x5).f0) = x1 then ((laws_markText.f k (wrap64 (x1 + 1))).bind fun t389 => (if ((rd_T98 x0 x5).f1).toList = t389.toList then ((laws_markText.f k (wrap64 ((wrap64 (x1 + 1)) + 1))).bind fun t391 => (if ((rd_T98 x0 x5).f2).toList = t391.toList then ((laws_markText.f k (wrap64 ((wrap64 ((wrap64 (x1 + 1)) + 1)) + 1))).bind fun t393 => (if ((rd_T98 x0 x5).f3).toList = t393.toList then (laws_heldStepS.l0 k x0 (wrap64 ((wrap64 ((wrap64 ((wrap64 (x1 + 1)) + 1)) + 1)) + 1)) (wrap64 (x5 + 1))) else (none))) else (none))) else (none))) else (none)) else (none)) else (some x1)
def laws_heldStepS.f (k : Nat) (l0 : List (S98)) (a1 : Int) : Option (Int) := laws_heldStepS.l0 k l0 a1 0
theorem laws_heldStepS.mono_l : ∀ k, (∀ y0 y1 y2, LeO (laws_heldStepS.l0 k y0 y1 y2) (laws_heldStepS.l0 (k + 1) y0 y1 y2))
 | 0 => fun _ _ _ r h => by simp [laws_heldStepS.l0] at h
 | k + 1 => by
  have ih0 := laws_heldStepS.mono_l k
  ·intro y0 y1 y2
   unfold laws_heldStepS.l0
   repeat' first
   | (with_reducible exact ih0 _ _ _)
   | (with_reducible exact laws_markText.mono _ _)
   | (with_reducible exact LeO.refl _)
   | (with_reducible exact LeO.none _)
   | (with_reducible refine LeO.ite ?_ ?_)
   | (with_reducible refine LeO.bind ?_ (fun _ => ?_))
   | exact ih0 _ _ _
   | exact laws_markText.mono _ _
   | exact LeO.none _
   | refine LeO.ite ?_ ?_
   | refine LeO.bind ?_ (fun _ => ?_)
theorem laws_heldStepS.mono : ∀ a0 a1 k, LeO (laws_heldStepS.f k a0 a1) (laws_heldStepS.f (k + 1) a0 a1) := by
 intro a0 a1 k
 have ih0 := laws_heldStepS.mono_l k
 unfold laws_heldStepS.f
 repeat' first
   | (with_reducible exact ih0 _ _ _)
   | (with_reducible exact laws_markText.mono _ _)
   | (with_reducible exact LeO.refl _)
   | (with_reducible exact LeO.none _)
   | (with_reducible refine LeO.ite ?_ ?_)
   | (with_reducible refine LeO.bind ?_ (fun _ => ?_))
   | exact ih0 _ _ _
   | exact laws_markText.mono _ _
   | exact LeO.none _
   | refine LeO.ite ?_ ?_
   | refine LeO.bind ?_ (fun _ => ?_)
def laws_heldStepS.T7 : Bool × List (List Nat × List Nat) := (true, [([], []), ([], []), ([0, 1], [0, 1]), ([2], [2]), ([3], [3]), ([], []), ([5], [5]), ([4, 6], [4, 6])])
def laws_heldStepS.B7 : List Nat := [0, 0, 3, 7, 15, 0, 32, 127]
theorem laws_heldStepS.tab7 : rtab .any (opsOf Try.f24 7) = laws_heldStepS.T7 := by kernel_rfl
theorem laws_heldStepS.bits7 : waitsOk laws_heldStepS.T7.2 laws_heldStepS.B7 = true := by kernel_rfl
def laws_heldStepS.T10 : Bool × List (List Nat × List Nat) := (true, [([], []), ([], []), ([0, 1], [0, 1]), ([2], [2]), ([3], [3]), ([], []), ([5], [5]), ([4, 6], [4, 6])])
def laws_heldStepS.B10 : List Nat := [0, 0, 3, 7, 15, 0, 32, 127]
theorem laws_heldStepS.tab10 : rtab .any (opsOf Try.f24 10) = laws_heldStepS.T10 := by kernel_rfl
theorem laws_heldStepS.bits10 : waitsOk laws_heldStepS.T10.2 laws_heldStepS.B10 = true := by kernel_rfl
def laws_heldStepS.T13 : Bool × List (List Nat × List Nat) := (true, [([], []), ([], []), ([0, 1], [0, 1]), ([2], [2]), ([3], [3]), ([], []), ([5], [5]), ([4, 6], [4, 6])])
def laws_heldStepS.B13 : List Nat := [0, 0, 3, 7, 15, 0, 32, 127]
theorem laws_heldStepS.tab13 : rtab .any (opsOf Try.f24 13) = laws_heldStepS.T13 := by kernel_rfl
theorem laws_heldStepS.bits13 : waitsOk laws_heldStepS.T13.2 laws_heldStepS.B13 = true := by kernel_rfl
set_option maxHeartbeats 8000000 in
set_option maxRecDepth 100000 in
theorem laws_heldStepS.calls (k : Nat) (A0 : Option Addr) (c0 : Nat) (l0 : List (S98)) (a1 : Int) (r : Int) (w : World) (hr0 : Kd.C k98 w A0 l0.length l0) (hc0 : l0.length ≤ c0) (h : laws_heldStepS.f k l0 a1 = some r) :
  Calls Try.prog 24 #[.slice A0 l0.length c0, .int .i64 a1] w fun e w' => e = .returned (.int .i64 r) ∧ Below w.heap.size w w' := by
 have HR0 := Aside0.mk hr0
 have HC0 := Aside0.mk hc0
 clear hr0 hc0; have HB := Aside0.mk (Below.refl w.heap.size w)
 have H : (laws_heldStepS.l0 k l0 a1 0) = some r := h
 clear h; have H' := Aside0.mk H
 clear H
 go_enter Try.func24, Try.ntmps24
 go_wp2
 go_loopg [1, 5] k (fun kq v1 v5 w' => ∃ (x1_1 : Int) (x5_1 : Int), v1 = .int .i64 x1_1 ∧ v5 = .int .i64 x5_1 ∧ Aside0 (laws_heldStepS.l0 kq l0 x1_1 x5_1 = some r) ∧ Aside0 (kq ≤ k) ∧ Aside0 (Below w.heap.size w w'))
 case atStart => exact ⟨(a1), (0), (by first | rfl | (simp; done) | (simp [*]; done)), (by first | rfl | (simp; done) | (simp [*]; done)), H', ⟨Nat.le_refl _⟩, ⟨by repeat (first | (with_reducible first | exact HB.out | apply below_alloc | apply pw_below_drewN | apply below_drew1) | exact HB.out)⟩⟩
 case round =>
  clear H'
  obtain ⟨x1_1, x5_1, rfl, rfl, HA, HK1, HB⟩ := hrel
  cases gk with
  | zero => exact absurd HA.out (by simp [laws_heldStepS.l0])
  | succ k1 =>
   have H := HA.out; clear HA; simp only [laws_heldStepS.l0] at H
   by_cases c3 : x5_1 < (l0.length : Int)
   ·rw [if_pos c3] at H
    have c3b0 : decide (x5_1 < (l0.length : Int)) = true := decide_eq_true c3
    clear c3
    by_cases c4 : 0 ≤ x5_1
    ·rw [if_pos c4] at H
     have c4b0 : decide (0 ≤ x5_1) = true := decide_eq_true c4
     clear c4
     by_cases c5 : ((rd_T98 l0 x5_1).f0) = x1_1
     ·rw [if_pos c5] at H
      have c5b0 : (((rd_T98 l0 x5_1).f0) == x1_1) = true := beq_iff_eq.mpr c5
      have c5b1 : (((rd_T98 l0 x5_1).f0) != x1_1) = false := bne_eq_false_iff_eq.mpr c5
      clear c5; replace H := Option.bind_eq_some_iff.mp H
      obtain ⟨t389, A60, H⟩ := H
      replace H : (if ((rd_T98 l0 x5_1).f1).toList = t389.toList then ((laws_markText.f k1 (wrap64 ((wrap64 (x1_1 + 1)) + 1))).bind fun t391 => (if ((rd_T98 l0 x5_1).f2).toList = t391.toList then ((laws_markText.f k1 (wrap64 ((wrap64 ((wrap64 (x1_1 + 1)) + 1)) + 1))).bind fun t393 => (if ((rd_T98 l0 x5_1).f3).toList = t393.toList then (laws_heldStepS.l0 k1 l0 (wrap64 ((wrap64 ((wrap64 ((wrap64 (x1_1 + 1)) + 1)) + 1)) + 1)) (wrap64 (x5_1 + 1))) else (none))) else (none))) else (none)) = some r := H
      have A6 := Aside0.mk A60
      clear A60
      by_cases c7 : ((rd_T98 l0 x5_1).f1).toList = t389.toList
      ·rw [if_pos c7] at H
       have c7b0 : (((rd_T98 l0 x5_1).f1).toList == t389.toList) = true := beq_iff_eq.mpr c7
       have c7b1 : (((rd_T98 l0 x5_1).f1).toList != t389.toList) = false := bne_eq_false_iff_eq.mpr c7
       clear c7; replace H := Option.bind_eq_some_iff.mp H
       obtain ⟨t391, A80, H⟩ := H
       replace H : (if ((rd_T98 l0 x5_1).f2).toList = t391.toList then ((laws_markText.f k1 (wrap64 ((wrap64 ((wrap64 (x1_1 + 1)) + 1)) + 1))).bind fun t393 => (if ((rd_T98 l0 x5_1).f3).toList = t393.toList then (laws_heldStepS.l0 k1 l0 (wrap64 ((wrap64 ((wrap64 ((wrap64 (x1_1 + 1)) + 1)) + 1)) + 1)) (wrap64 (x5_1 + 1))) else (none))) else (none)) = some r := H
       have A8 := Aside0.mk A80
       clear A80
       by_cases c9 : ((rd_T98 l0 x5_1).f2).toList = t391.toList
       ·rw [if_pos c9] at H
        have c9b0 : (((rd_T98 l0 x5_1).f2).toList == t391.toList) = true := beq_iff_eq.mpr c9
        have c9b1 : (((rd_T98 l0 x5_1).f2).toList != t391.toList) = false := bne_eq_false_iff_eq.mpr c9
        clear c9; replace H := Option.bind_eq_some_iff.mp H
        obtain ⟨t393, A100, H⟩ := H
        replace H : (if ((rd_T98 l0 x5_1).f3).toList = t393.toList then (laws_heldStepS.l0 k1 l0 (wrap64 ((wrap64 ((wrap64 ((wrap64 (x1_1 + 1)) + 1)) + 1)) + 1)) (wrap64 (x5_1 + 1))) else (none)) = some r := H
        have A10 := Aside0.mk A100
        clear A100
        by_cases c11 : ((rd_T98 l0 x5_1).f3).toList = t393.toList
        ·rw [if_pos c11] at H
         have c11b0 : (((rd_T98 l0 x5_1).f3).toList == t393.toList) = true := beq_iff_eq.mpr c11
         have c11b1 : (((rd_T98 l0 x5_1).f3).toList != t393.toList) = false := bne_eq_false_iff_eq.mpr c11
         clear c11; have H' := Aside0.mk H
         clear H; have p387 : 0 ≤ (x5_1 : Int) := of_decide_eq_true (by first | (with_reducible assumption) | assumption)
         have q387 : x5_1 < (l0.length : Int) := of_decide_eq_true (by first | (with_reducible assumption) | assumption)
         obtain ⟨ad387, e387, hx387_0, hx387_1, hx387_2, hx387_3⟩ := at_T98 HR0.out x5_1 p387 q387
         cases e387
         replace hx387_0 := (HB.out.cell (World.block_lt_of_cell? w _ hx387_0)).trans hx387_0
         replace hx387_1 := (HB.out.cell (World.block_lt_of_cell? w _ hx387_1)).trans hx387_1
         replace hx387_2 := (HB.out.cell (World.block_lt_of_cell? w _ hx387_2)).trans hx387_2
         replace hx387_3 := (HB.out.cell (World.block_lt_of_cell? w _ hx387_3)).trans hx387_3
         replace p387 := eq_true p387
         replace q387 := eq_true q387
         try go_wp2
         have n0_ := Aside0.mk (below_drew1 HB.out)
         clear HB; have HB := n0_; clear n0_; have p388 : 0 ≤ (x5_1 : Int) := of_decide_eq_true (by first | (with_reducible assumption) | assumption)
         have q388 : x5_1 < (l0.length : Int) := of_decide_eq_true (by first | (with_reducible assumption) | assumption)
         obtain ⟨ad388, e388, hx388_0, hx388_1, hx388_2, hx388_3⟩ := at_T98 HR0.out x5_1 p388 q388
         have hw388_3 := hx388_3
         have hw388_2 := hx388_2
         have hw388_1 := hx388_1
         have hw388_0 := hx388_0
         obtain rfl : ad387 = ad388 := (by injection e388)
         replace hx388_0 := (HB.out.cell (World.block_lt_of_cell? w _ hx388_0)).trans hx388_0
         replace hx388_1 := (HB.out.cell (World.block_lt_of_cell? w _ hx388_1)).trans hx388_1
         replace hx388_2 := (HB.out.cell (World.block_lt_of_cell? w _ hx388_2)).trans hx388_2
         replace hx388_3 := (HB.out.cell (World.block_lt_of_cell? w _ hx388_3)).trans hx388_3
         replace p388 := eq_true p388
         replace q388 := eq_true q388
         refine start_ (n := 8) (S := fun w' => w'.cell? (ad387.add ((x5_1).toNat * 4)) = some (.int .i64 ((rd_T98 l0 x5_1).f0)) ∧ w'.cell? ⟨(ad387.add ((x5_1).toNat * 4)).block, (ad387.add ((x5_1).toNat * 4)).off + 1, none⟩ = some (.string ((rd_T98 l0 x5_1).f1)) ∧ w'.cell? ⟨(ad387.add ((x5_1).toNat * 4)).block, (ad387.add ((x5_1).toNat * 4)).off + 2, none⟩ = some (.string ((rd_T98 l0 x5_1).f2)) ∧ w'.cell? ⟨(ad387.add ((x5_1).toNat * 4)).block, (ad387.add ((x5_1).toNat * 4)).off + 3, none⟩ = some (.string ((rd_T98 l0 x5_1).f3))) (ds := []) #[ff,ff,ff,ff,ff,ff,ff,ff] (by kernel_rfl) rfl rfl ⟨((HB.out.cell (World.block_lt_of_cell? w _ hw388_0)).trans hw388_0), ((HB.out.cell (World.block_lt_of_cell? w _ hw388_1)).trans hw388_1), ((HB.out.cell (World.block_lt_of_cell? w _ hw388_2)).trans hw388_2), ((HB.out.cell (World.block_lt_of_cell? w _ hw388_3)).trans hw388_3)⟩ (fun hHeld => ?_); refine with_tabW laws_heldStepS.tab7 laws_heldStepS.bits7 (fun HT_ HW_ => ?_)
         generalize wr.drew = w12 at HB hx388_0 hx388_1 hx388_2 hx388_3 hHeld ⊢
         refine pu 0 21 (tb 8 1) HT_ ?_
         refine pu 1 22 (tb 8 3) HT_ ?_
         refine pu 2 23 (tb 8 7) HT_ ?_
         refine pu 3 24 (tb 8 15) HT_ ?_
         refine pu 5 26 (tb 8 47) HT_ ?_
         refine tk 4 25 (tb 8 63) rfl rfl HT_ HW_ hHeld (by rintro w' ⟨s0, s1, s2, s3⟩; go_simp; with_reducible rfl) ?_
         refine one_ (i := 6) (N := some 27) #[tt,tt,tt,tt,tt,tt,tt,ff] rfl rfl (one_of HT_.out (by kernel_rfl)) (by decide) (fun K hK => ?_)
         refine goes_ Try.func68 (by kernel_rfl) rfl #[.int .i64 (wrap64 (x1_1 + 1))] (by rfl) rfl rfl (by (try simp only [List.map_toArray, List.map_cons, List.map_nil]); first | done | rfl | (simp only [List.length_drop, List.length_take]; rfl)) ?_
         with_reducible refine (laws_markText.calls k1 (wrap64 (x1_1 + 1)) t389 _ A6.out).mono ?_
         rintro e w13 ⟨rfl, hb⟩
         refine ⟨_, rfl, ?_⟩
         replace HB := bh HB hb
         (try clear hb); (try clear hb2); (try clear hk); (try clear hi); refine hK.out _ _ ⟨((HB.out.cell (World.block_lt_of_cell? w _ hw388_0)).trans hw388_0), ((HB.out.cell (World.block_lt_of_cell? w _ hw388_1)).trans hw388_1), ((HB.out.cell (World.block_lt_of_cell? w _ hw388_2)).trans hw388_2), ((HB.out.cell (World.block_lt_of_cell? w _ hw388_3)).trans hw388_3)⟩ (fun hHeld => ?_)
         clear hK K; refine norm_ (a' := ?_) ?_ ?_
         rotate_left
         ·show Act.put _ (some 27) _ = _
          simp only [putL, i64_w, i32_w]; rfl
         refine pu 7 28 (tb 8 255) HT_ ?_
         refine done_ (done_of HT_.out (by kernel_rfl)) ?_
         try go_wp2
         have n0_ := Aside0.mk (below_drew1 HB.out)
         clear HB; have HB := n0_; clear n0_; have p390 : 0 ≤ (x5_1 : Int) := of_decide_eq_true (by first | (with_reducible assumption) | assumption)
         have q390 : x5_1 < (l0.length : Int) := of_decide_eq_true (by first | (with_reducible assumption) | assumption)
         obtain ⟨ad390, e390, hx390_0, hx390_1, hx390_2, hx390_3⟩ := at_T98 HR0.out x5_1 p390 q390
         have hw390_3 := hx390_3
         have hw390_2 := hx390_2
         have hw390_1 := hx390_1
         have hw390_0 := hx390_0
         obtain rfl : ad387 = ad390 := (by injection e390)
         replace hx390_0 := (HB.out.cell (World.block_lt_of_cell? w _ hx390_0)).trans hx390_0
         replace hx390_1 := (HB.out.cell (World.block_lt_of_cell? w _ hx390_1)).trans hx390_1
         replace hx390_2 := (HB.out.cell (World.block_lt_of_cell? w _ hx390_2)).trans hx390_2
         replace hx390_3 := (HB.out.cell (World.block_lt_of_cell? w _ hx390_3)).trans hx390_3
         replace p390 := eq_true p390
         replace q390 := eq_true q390
         refine start_ (n := 8) (S := fun w' => w'.cell? (ad387.add ((x5_1).toNat * 4)) = some (.int .i64 ((rd_T98 l0 x5_1).f0)) ∧ w'.cell? ⟨(ad387.add ((x5_1).toNat * 4)).block, (ad387.add ((x5_1).toNat * 4)).off + 1, none⟩ = some (.string ((rd_T98 l0 x5_1).f1)) ∧ w'.cell? ⟨(ad387.add ((x5_1).toNat * 4)).block, (ad387.add ((x5_1).toNat * 4)).off + 2, none⟩ = some (.string ((rd_T98 l0 x5_1).f2)) ∧ w'.cell? ⟨(ad387.add ((x5_1).toNat * 4)).block, (ad387.add ((x5_1).toNat * 4)).off + 3, none⟩ = some (.string ((rd_T98 l0 x5_1).f3))) (ds := []) #[ff,ff,ff,ff,ff,ff,ff,ff] (by kernel_rfl) rfl rfl ⟨((HB.out.cell (World.block_lt_of_cell? w _ hw390_0)).trans hw390_0), ((HB.out.cell (World.block_lt_of_cell? w _ hw390_1)).trans hw390_1), ((HB.out.cell (World.block_lt_of_cell? w _ hw390_2)).trans hw390_2), ((HB.out.cell (World.block_lt_of_cell? w _ hw390_3)).trans hw390_3)⟩ (fun hHeld => ?_); refine with_tabW laws_heldStepS.tab10 laws_heldStepS.bits10 (fun HT_ HW_ => ?_)
         generalize w13.drew = w14 at HB hx390_0 hx390_1 hx390_2 hx390_3 hHeld ⊢
         refine pu 0 31 (tb 8 1) HT_ ?_
         refine pu 1 32 (tb 8 3) HT_ ?_
         refine pu 2 33 (tb 8 7) HT_ ?_
         refine pu 3 34 (tb 8 15) HT_ ?_
         refine pu 5 36 (tb 8 47) HT_ ?_
         refine tk 4 35 (tb 8 63) rfl rfl HT_ HW_ hHeld (by rintro w' ⟨s0, s1, s2, s3⟩; go_simp; with_reducible rfl) ?_
         refine one_ (i := 6) (N := some 37) #[tt,tt,tt,tt,tt,tt,tt,ff] rfl rfl (one_of HT_.out (by kernel_rfl)) (by decide) (fun K hK => ?_)
         refine goes_ Try.func68 (by kernel_rfl) rfl #[.int .i64 (wrap64 ((wrap64 (x1_1 + 1)) + 1))] (by rfl) rfl rfl (by (try simp only [List.map_toArray, List.map_cons, List.map_nil]); first | done | rfl | (simp only [List.length_drop, List.length_take]; rfl)) ?_
         with_reducible refine (laws_markText.calls k1 (wrap64 ((wrap64 (x1_1 + 1)) + 1)) t391 _ A8.out).mono ?_
         rintro e w15 ⟨rfl, hb⟩
         refine ⟨_, rfl, ?_⟩
         replace HB := bh HB hb
         (try clear hb); (try clear hb2); (try clear hk); (try clear hi); refine hK.out _ _ ⟨((HB.out.cell (World.block_lt_of_cell? w _ hw390_0)).trans hw390_0), ((HB.out.cell (World.block_lt_of_cell? w _ hw390_1)).trans hw390_1), ((HB.out.cell (World.block_lt_of_cell? w _ hw390_2)).trans hw390_2), ((HB.out.cell (World.block_lt_of_cell? w _ hw390_3)).trans hw390_3)⟩ (fun hHeld => ?_)
         clear hK K; refine norm_ (a' := ?_) ?_ ?_
         rotate_left
         ·show Act.put _ (some 37) _ = _
          simp only [putL, i64_w, i32_w]; rfl
         refine pu 7 38 (tb 8 255) HT_ ?_
         refine done_ (done_of HT_.out (by kernel_rfl)) ?_
         try go_wp2
         have n0_ := Aside0.mk (below_drew1 HB.out)
         clear HB; have HB := n0_; clear n0_; have p392 : 0 ≤ (x5_1 : Int) := of_decide_eq_true (by first | (with_reducible assumption) | assumption)
         have q392 : x5_1 < (l0.length : Int) := of_decide_eq_true (by first | (with_reducible assumption) | assumption)
         obtain ⟨ad392, e392, hx392_0, hx392_1, hx392_2, hx392_3⟩ := at_T98 HR0.out x5_1 p392 q392
         have hw392_3 := hx392_3
         have hw392_2 := hx392_2
         have hw392_1 := hx392_1
         have hw392_0 := hx392_0
         obtain rfl : ad387 = ad392 := (by injection e392)
         replace hx392_0 := (HB.out.cell (World.block_lt_of_cell? w _ hx392_0)).trans hx392_0
         replace hx392_1 := (HB.out.cell (World.block_lt_of_cell? w _ hx392_1)).trans hx392_1
         replace hx392_2 := (HB.out.cell (World.block_lt_of_cell? w _ hx392_2)).trans hx392_2
         replace hx392_3 := (HB.out.cell (World.block_lt_of_cell? w _ hx392_3)).trans hx392_3
         replace p392 := eq_true p392
         replace q392 := eq_true q392
         refine start_ (n := 8) (S := fun w' => w'.cell? (ad387.add ((x5_1).toNat * 4)) = some (.int .i64 ((rd_T98 l0 x5_1).f0)) ∧ w'.cell? ⟨(ad387.add ((x5_1).toNat * 4)).block, (ad387.add ((x5_1).toNat * 4)).off + 1, none⟩ = some (.string ((rd_T98 l0 x5_1).f1)) ∧ w'.cell? ⟨(ad387.add ((x5_1).toNat * 4)).block, (ad387.add ((x5_1).toNat * 4)).off + 2, none⟩ = some (.string ((rd_T98 l0 x5_1).f2)) ∧ w'.cell? ⟨(ad387.add ((x5_1).toNat * 4)).block, (ad387.add ((x5_1).toNat * 4)).off + 3, none⟩ = some (.string ((rd_T98 l0 x5_1).f3))) (ds := []) #[ff,ff,ff,ff,ff,ff,ff,ff] (by kernel_rfl) rfl rfl ⟨((HB.out.cell (World.block_lt_of_cell? w _ hw392_0)).trans hw392_0), ((HB.out.cell (World.block_lt_of_cell? w _ hw392_1)).trans hw392_1), ((HB.out.cell (World.block_lt_of_cell? w _ hw392_2)).trans hw392_2), ((HB.out.cell (World.block_lt_of_cell? w _ hw392_3)).trans hw392_3)⟩ (fun hHeld => ?_); refine with_tabW laws_heldStepS.tab13 laws_heldStepS.bits13 (fun HT_ HW_ => ?_)
         generalize w15.drew = w16 at HB hx392_0 hx392_1 hx392_2 hx392_3 hHeld ⊢
         refine pu 0 41 (tb 8 1) HT_ ?_
         refine pu 1 42 (tb 8 3) HT_ ?_
         refine pu 2 43 (tb 8 7) HT_ ?_
         refine pu 3 44 (tb 8 15) HT_ ?_
         refine pu 5 46 (tb 8 47) HT_ ?_
         refine tk 4 45 (tb 8 63) rfl rfl HT_ HW_ hHeld (by rintro w' ⟨s0, s1, s2, s3⟩; go_simp; with_reducible rfl) ?_
         refine one_ (i := 6) (N := some 47) #[tt,tt,tt,tt,tt,tt,tt,ff] rfl rfl (one_of HT_.out (by kernel_rfl)) (by decide) (fun K hK => ?_)
         refine goes_ Try.func68 (by kernel_rfl) rfl #[.int .i64 (wrap64 ((wrap64 ((wrap64 (x1_1 + 1)) + 1)) + 1))] (by rfl) rfl rfl (by (try simp only [List.map_toArray, List.map_cons, List.map_nil]); first | done | rfl | (simp only [List.length_drop, List.length_take]; rfl)) ?_
         with_reducible refine (laws_markText.calls k1 (wrap64 ((wrap64 ((wrap64 (x1_1 + 1)) + 1)) + 1)) t393 _ A10.out).mono ?_
         rintro e w17 ⟨rfl, hb⟩
         refine ⟨_, rfl, ?_⟩
         replace HB := bh HB hb
         (try clear hb); (try clear hb2); (try clear hk); (try clear hi); refine hK.out _ _ ⟨((HB.out.cell (World.block_lt_of_cell? w _ hw392_0)).trans hw392_0), ((HB.out.cell (World.block_lt_of_cell? w _ hw392_1)).trans hw392_1), ((HB.out.cell (World.block_lt_of_cell? w _ hw392_2)).trans hw392_2), ((HB.out.cell (World.block_lt_of_cell? w _ hw392_3)).trans hw392_3)⟩ (fun hHeld => ?_)
         clear hK K; refine norm_ (a' := ?_) ?_ ?_
         rotate_left
         ·show Act.put _ (some 47) _ = _
          simp only [putL, i64_w, i32_w]; rfl
         refine pu 7 48 (tb 8 255) HT_ ?_
         refine done_ (done_of HT_.out (by kernel_rfl)) ?_
         try go_wp2
         go_roundg k1
         case measure => have := HK1.out; omega
         case rel => exact ⟨(wrap64 ((wrap64 ((wrap64 ((wrap64 (x1_1 + 1)) + 1)) + 1)) + 1)), (wrap64 (x5_1 + 1)), (by first | rfl | (simp; done) | (simp [*]; done)), (by first | rfl | (simp; done) | (simp [*]; done)), H', ⟨by have := HK1.out; omega⟩, ⟨by repeat (first | (with_reducible first | exact HB.out | apply below_alloc | apply pw_below_drewN | apply below_drew1) | exact HB.out)⟩⟩
        ·rw [if_neg c11] at H
         exact absurd H (by simp)
       ·rw [if_neg c9] at H
        exact absurd H (by simp)
      ·rw [if_neg c7] at H
       exact absurd H (by simp)
     ·rw [if_neg c5] at H
      exact absurd H (by simp)
    ·rw [if_neg c4] at H
     exact absurd H (by simp)
   ·rw [if_neg c3] at H
    have c3b0 : decide (x5_1 < (l0.length : Int)) = false := decide_eq_false c3
    clear c3; obtain rfl := Option.some.inj H
    go_wp2
    go_ret
    exact ⟨by first | rfl | (simp [errW_none, errW_some] <;> rfl) | (simp [*, errW_none, errW_some] <;> rfl), by repeat (first | (with_reducible first | exact HB.out | apply below_alloc | apply pw_below_drewN | apply below_drew1) | exact HB.out)⟩

end Go.Proofs.Ytobkmpihjfiihaa.PFnExactPlanAdd
