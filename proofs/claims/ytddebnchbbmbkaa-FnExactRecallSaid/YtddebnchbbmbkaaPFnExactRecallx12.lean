-- The machine side of a law: written by a program of this session (wip/tools), a turned print.
import Derived.Test.YtddebnchbbmbkaaPFnExactRecallx0
namespace Go.Proofs.Ytddebnchbbmbkaa.PFnExactRecall
open Go.RowKit Go.Proofs.YtddebnchbbmbkaaW.PrintWords Go.Proofs.YtddebnchbbmbkaaW.PrintLast Go.Proofs.YtddebnchbbmbkaaW.PrintMore
attribute [local go_sem] max2_int min2_int max_two min_two max_three min_three max_four min_four   -- for this text's walks alone
set_option linter.unusedVariables false
set_option linter.unusedSimpArgs false
mutual
def spec_l8Place.l0 : Nat → List Int → Int → List (S95) → Option (Int × Int)
 | 0, _, _, _ => none
 | k + 1, x1, x6, x217000 => if x6 < (x217000.length : Int) then (spec_l8Place.l1 k x1 x6 0 x217000) else (some ((-1), (-1)))
def spec_l8Place.l1 : Nat → List Int → Int → Int → List (S95) → Option (Int × Int)
 | 0, _, _, _, _ => none
 | k + 1, x1, x6, x7, x217000 => if (wrap64 (x7 + 1)) < (x1.length : Int) then (if 0 ≤ x7 then (if x7 < (x1.length : Int) then (if 0 ≤ x6 then (if x6 < (x217000.length : Int) then (if (rd x1 x7) = ((rd_T95 x217000 x6).f0) then (if 0 ≤ (wrap64 (x7 + 1)) then (if (rd x1 (wrap64 (x7 + 1))) = ((rd_T95 x217000 x6).f1) then (some (x7, x6)) else (spec_l8Place.l1 k x1 x6 (wrap64 (x7 + 1)) x217000)) else (none)) else (spec_l8Place.l1 k x1 x6 (wrap64 (x7 + 1)) x217000)) else (none)) else (none)) else (none)) else (none)) else (spec_l8Place.l0 k x1 (wrap64 (x6 + 1)) x217000)
end
def spec_l8Place.f (k : Nat) (l0_0 : List (S95)) (l1 : List Int) : Option (Int × Int) := spec_l8Place.l0 k l1 0 l0_0
theorem spec_l8Place.mono_l : ∀ k, (∀ y0 y1 y2, LeO (spec_l8Place.l0 k y0 y1 y2) (spec_l8Place.l0 (k + 1) y0 y1 y2)) ∧ (∀ y0 y1 y2 y3, LeO (spec_l8Place.l1 k y0 y1 y2 y3) (spec_l8Place.l1 (k + 1) y0 y1 y2 y3))
 | 0 => ⟨fun _ _ _ r h => by simp [spec_l8Place.l0] at h, fun _ _ _ _ r h => by simp [spec_l8Place.l1] at h⟩
 | k + 1 => by
  obtain ⟨ih0, ih1⟩ := spec_l8Place.mono_l k
  refine ⟨?_, ?_⟩
  ·intro y0 y1 y2
   unfold spec_l8Place.l0
   repeat' first
   | (with_reducible exact ih0 _ _ _)
   | (with_reducible exact ih1 _ _ _ _)
   | (with_reducible exact LeO.refl _)
   | (with_reducible exact LeO.none _)
   | (with_reducible refine LeO.ite ?_ ?_)
   | (with_reducible refine LeO.bind ?_ (fun _ => ?_))
   | exact ih0 _ _ _
   | exact ih1 _ _ _ _
   | exact LeO.none _
   | refine LeO.ite ?_ ?_
   | refine LeO.bind ?_ (fun _ => ?_)
  ·intro y0 y1 y2 y3
   unfold spec_l8Place.l1
   repeat' first
   | (with_reducible exact ih0 _ _ _)
   | (with_reducible exact ih1 _ _ _ _)
   | (with_reducible exact LeO.refl _)
   | (with_reducible exact LeO.none _)
   | (with_reducible refine LeO.ite ?_ ?_)
   | (with_reducible refine LeO.bind ?_ (fun _ => ?_))
   | exact ih0 _ _ _
   | exact ih1 _ _ _ _
   | exact LeO.none _
   | refine LeO.ite ?_ ?_
   | refine LeO.bind ?_ (fun _ => ?_)
theorem spec_l8Place.mono : ∀ a0 a1 k, LeO (spec_l8Place.f k a0 a1) (spec_l8Place.f (k + 1) a0 a1) := by
 intro a0 a1 k
 obtain ⟨ih0, ih1⟩ := spec_l8Place.mono_l k
 unfold spec_l8Place.f
 repeat' first
   | (with_reducible exact ih0 _ _ _)
   | (with_reducible exact ih1 _ _ _ _)
   | (with_reducible exact LeO.refl _)
   | (with_reducible exact LeO.none _)
   | (with_reducible refine LeO.ite ?_ ?_)
   | (with_reducible refine LeO.bind ?_ (fun _ => ?_))
   | exact ih0 _ _ _
   | exact ih1 _ _ _ _
   | exact LeO.none _
   | refine LeO.ite ?_ ?_
   | refine LeO.bind ?_ (fun _ => ?_)
set_option maxHeartbeats 8000000 in
set_option maxRecDepth 100000 in
theorem spec_l8Place.calls (k : Nat) (A0_0 : Option Addr) (c0_0 : Nat) (l0_0 : List (S95)) (A1 : Option Addr) (c1 : Nat) (l1 : List Int) (r1 : Int) (r2 : Int) (w : World) (hr0_0 : Kd.C k95 w A0_0 l0_0.length l0_0) (hc0_0 : l0_0.length ≤ c0_0) (hr1 : Kd.C (Kd.int .i64) w A1 l1.length l1) (hc1 : l1.length ≤ c1) (h : spec_l8Place.f k l0_0 l1 = some (r1, r2)) :
  Calls Try.prog 70 #[.agg #[.slice A0_0 l0_0.length c0_0], .slice A1 l1.length c1] w fun e w' => e = .returned (.tuple #[.int .i64 r1, .int .i64 r2]) ∧ Below w.heap.size w w' := by
 have hu26 := Try.underlying26
 have HR0_0 := Aside0.mk hr0_0
 have HC0_0 := Aside0.mk hc0_0
 clear hr0_0 hc0_0; have HR1 := Aside0.mk hr1
 have HC1 := Aside0.mk hc1
 clear hr1 hc1; have HB := Aside0.mk (Below.refl w.heap.size w)
 have H : (spec_l8Place.l0 k l1 0 l0_0) = some (r1, r2) := h
 clear h; have H' := Aside0.mk H
 clear H
 go_enter Try.func70, Try.ntmps70
 go_wp2_with (first | ((with_reducible refine gate_dst (N := 2) rfl ?_); refine bX 2 #[.slice A0_0 l0_0.length c0_0] 26 ?_; intro h9a hg w3 hbox hb; have d9a := Aside0.mk (hbox); have GW216 := bs HB hg; have i9a := bs HB hg; replace HB := bh HB hb; clear hb hbox hg))
 repeat (go_quiet (first | ((with_reducible refine gate_dst (N := 2) rfl ?_); refine bX 2 #[.slice A0_0 l0_0.length c0_0] 26 ?_; intro h9a hg w3 hbox hb; have d9a := Aside0.mk (hbox); have GW216 := bs HB hg; have i9a := bs HB hg; replace HB := bh HB hb; clear hb hbox hg)); try go_wp2_with (first | ((with_reducible refine gate_dst (N := 2) rfl ?_); refine bX 2 #[.slice A0_0 l0_0.length c0_0] 26 ?_; intro h9a hg w3 hbox hb; have d9a := Aside0.mk (hbox); have GW216 := bs HB hg; have i9a := bs HB hg; replace HB := bh HB hb; clear hb hbox hg)))
 go_loopg [6] k (fun kq v6 w' => ∃ (x6_1 : Int), v6 = .int .i64 x6_1 ∧ Aside0 (spec_l8Place.l0 kq l1 x6_1 l0_0 = some (r1, r2)) ∧ Aside0 (kq ≤ k) ∧ Aside0 (w'.heap[h9a]? = some (.cells #[(.slice A0_0 l0_0.length c0_0)] 26 (0, 0))) ∧ Aside0 (Below w.heap.size w w'))
 case atStart => exact ⟨(0), sR, H', ⟨Nat.le_refl _⟩, ⟨bb d9a⟩, ⟨iB HB⟩⟩
 case round =>
  clear H'
  obtain ⟨x6_1, rfl, HA, HK1, d9a, HB⟩ := hrel
  cases gk with
  | zero => exact absurd HA.out (by simp [spec_l8Place.l0])
  | succ k1 =>
   have H := HA.out; clear HA; simp only [spec_l8Place.l0] at H
   by_cases c4 : x6_1 < (l0_0.length : Int)
   ·rw [if_pos c4] at H
    have c4b0 : decide (x6_1 < (l0_0.length : Int)) = true := decide_eq_true c4
    clear c4; have H' := Aside0.mk H
    clear H; have hcz5_0 : wr.cell? ⟨h9a, 0, none⟩ = some (.slice A0_0 l0_0.length c0_0) := bc d9a 0
    have hfz5_0 := blk_frozen d9a.out 0
    go_wp2
    repeat (go_quiet (fail); try go_wp2)
    go_loopg [7] k1 (fun kq v7 w' => ∃ (x7_2 : Int), v7 = .int .i64 x7_2 ∧ Aside0 (spec_l8Place.l1 kq l1 x6_1 x7_2 l0_0 = some (r1, r2)) ∧ Aside0 (kq ≤ k1) ∧ Aside0 (w'.heap[h9a]? = some (.cells #[(.slice A0_0 l0_0.length c0_0)] 26 (0, 0))) ∧ Aside0 (Below w.heap.size w w'))
    case atStart => exact ⟨(0), sR, H', ⟨Nat.le_refl _⟩, ⟨bb d9a⟩, ⟨iB HB⟩⟩
    case round =>
     clear H'
     obtain ⟨x7_2, rfl, HA, HK2, d9a, HB⟩ := hrel
     cases gk with
     | zero => exact absurd HA.out (by simp [spec_l8Place.l1])
     | succ k2 =>
      have H := HA.out; clear HA; simp only [spec_l8Place.l1] at H
      by_cases c6 : (wrap64 (x7_2 + 1)) < (l1.length : Int)
      ·rw [if_pos c6] at H
       have c6b0 : decide ((wrap64 (x7_2 + 1)) < (l1.length : Int)) = true := decide_eq_true c6
       clear c6
       by_cases c7 : 0 ≤ x7_2
       ·rw [if_pos c7] at H
        have c7b0 : decide (0 ≤ x7_2) = true := decide_eq_true c7
        clear c7
        by_cases c8 : x7_2 < (l1.length : Int)
        ·rw [if_pos c8] at H
         have c8b0 : decide (x7_2 < (l1.length : Int)) = true := decide_eq_true c8
         clear c8
         by_cases c9 : 0 ≤ x6_1
         ·rw [if_pos c9] at H
          have c9b0 : decide (0 ≤ x6_1) = true := decide_eq_true c9
          clear c9
          by_cases c10 : x6_1 < (l0_0.length : Int)
          ·rw [if_pos c10] at H
           have c10b0 : decide (x6_1 < (l0_0.length : Int)) = true := decide_eq_true c10
           clear c10
           by_cases c11 : (rd l1 x7_2) = ((rd_T95 l0_0 x6_1).f0)
           ·rw [if_pos c11] at H
            have c11b0 : ((rd l1 x7_2) == ((rd_T95 l0_0 x6_1).f0)) = true := beq_iff_eq.mpr c11
            have c11b1 : ((rd l1 x7_2) != ((rd_T95 l0_0 x6_1).f0)) = false := bne_eq_false_iff_eq.mpr c11
            clear c11; obtain ⟨ji12, hji12⟩ : ∃ j_ : Int, (wrap64 (x7_2 + 1)) = j_ := ⟨_, rfl⟩
            replace H : (if 0 ≤ (ji12) then (if (rd l1 (ji12)) = ((rd_T95 l0_0 x6_1).f1) then (some (x7_2, x6_1)) else (spec_l8Place.l1 k2 l1 x6_1 ji12 l0_0)) else (none)) = some (r1, r2) := by first | (rw [hji12] at H; exact H) | (simp only [hji12] at H ⊢; exact H)
            (try rw [hji12] at c6b0)
            have hji12w : (IntKind.i64.wrap (x7_2 + 1)) = ji12 := (i64_w _).trans hji12
            by_cases c13 : 0 ≤ (ji12)
            ·rw [if_pos c13] at H
             have c13b0 : decide (0 ≤ (ji12)) = true := decide_eq_true c13
             clear c13
             by_cases c14 : (rd l1 (ji12)) = ((rd_T95 l0_0 x6_1).f1)
             ·rw [if_pos c14] at H
              have c14b0 : ((rd l1 (ji12)) == ((rd_T95 l0_0 x6_1).f1)) = true := beq_iff_eq.mpr c14
              have c14b1 : ((rd l1 (ji12)) != ((rd_T95 l0_0 x6_1).f1)) = false := bne_eq_false_iff_eq.mpr c14
              clear c14; simp only [Option.some.injEq, Prod.mk.injEq] at H
              obtain ⟨rfl, rfl⟩ := H
              have p217 : 0 ≤ (x7_2 : Int) := oD
              have q217 : x7_2 < (l1.length : Int) := oD
              obtain ⟨ad217, e217, a9a⟩ := Kd.at_int HR1.out x7_2 p217 q217
              cases e217
              replace a9a := (HB.out.cell (World.block_lt_of_cell? w _ a9a)).trans a9a
              replace p217 := eq_true p217
              replace q217 := eq_true q217
              have hcz15_0 : wr.cell? ⟨h9a, 0, none⟩ = some (.slice A0_0 l0_0.length c0_0) := bc d9a 0
              have hfz15_0 := blk_frozen d9a.out 0; have p218 : 0 ≤ (x6_1 : Int) := oD
              have q218 : x6_1 < (l0_0.length : Int) := oD
              obtain ⟨ad218, e218, b9a, c9a⟩ := at_T95 HR0_0.out x6_1 p218 q218
              cases e218
              replace b9a := (HB.out.cell (World.block_lt_of_cell? w _ b9a)).trans b9a
              replace c9a := (HB.out.cell (World.block_lt_of_cell? w _ c9a)).trans c9a
              replace p218 := eq_true p218
              replace q218 := eq_true q218
              have p219 : 0 ≤ ((ji12) : Int) := oD
              have q219 : (ji12) < (l1.length : Int) := oD
              obtain ⟨ad219, e219, e9a⟩ := Kd.at_int HR1.out (ji12) p219 q219
              obtain rfl : ad217 = ad219 := (by injection e219)
              replace e9a := (HB.out.cell (World.block_lt_of_cell? w _ e9a)).trans e9a
              replace p219 := eq_true p219
              replace q219 := eq_true q219
              have p220 : 0 ≤ (x6_1 : Int) := oD
              have q220 : x6_1 < (l0_0.length : Int) := oD
              obtain ⟨ad220, e220, f9a, g9a⟩ := at_T95 HR0_0.out x6_1 p220 q220
              obtain rfl : ad218 = ad220 := (by injection e220)
              replace f9a := (HB.out.cell (World.block_lt_of_cell? w _ f9a)).trans f9a
              replace g9a := (HB.out.cell (World.block_lt_of_cell? w _ g9a)).trans g9a
              replace p220 := eq_true p220
              replace q220 := eq_true q220
              go_wp2
              repeat (go_quiet (fail); try go_wp2)
              go_ret2
              exact ⟨by first | rfl | (simp [errW_none, errW_some] <;> rfl) | (simp only [← hji12]; first | rfl | (simp [errW_none, errW_some] <;> rfl)) | (simp [*, errW_none, errW_some] <;> rfl), iB HB⟩
             ·rw [if_neg c14] at H
              have c14b0 : ((rd l1 (ji12)) == ((rd_T95 l0_0 x6_1).f1)) = false := beq_eq_false_iff_ne.mpr c14
              have c14b1 : ((rd l1 (ji12)) != ((rd_T95 l0_0 x6_1).f1)) = true := bne_iff_ne.mpr c14
              have H' := Aside0.mk H
              clear H; have p217 : 0 ≤ (x7_2 : Int) := oD
              have q217 : x7_2 < (l1.length : Int) := oD
              obtain ⟨ad217, e217, a9a⟩ := Kd.at_int HR1.out x7_2 p217 q217
              cases e217
              replace a9a := (HB.out.cell (World.block_lt_of_cell? w _ a9a)).trans a9a
              replace p217 := eq_true p217
              replace q217 := eq_true q217
              have hcz16_0 : wr.cell? ⟨h9a, 0, none⟩ = some (.slice A0_0 l0_0.length c0_0) := bc d9a 0
              have hfz16_0 := blk_frozen d9a.out 0; have p218 : 0 ≤ (x6_1 : Int) := oD
              have q218 : x6_1 < (l0_0.length : Int) := oD
              obtain ⟨ad218, e218, b9a, c9a⟩ := at_T95 HR0_0.out x6_1 p218 q218
              cases e218
              replace b9a := (HB.out.cell (World.block_lt_of_cell? w _ b9a)).trans b9a
              replace c9a := (HB.out.cell (World.block_lt_of_cell? w _ c9a)).trans c9a
              replace p218 := eq_true p218
              replace q218 := eq_true q218
              have p219 : 0 ≤ ((ji12) : Int) := oD
              have q219 : (ji12) < (l1.length : Int) := oD
              obtain ⟨ad219, e219, e9a⟩ := Kd.at_int HR1.out (ji12) p219 q219
              obtain rfl : ad217 = ad219 := (by injection e219)
              replace e9a := (HB.out.cell (World.block_lt_of_cell? w _ e9a)).trans e9a
              replace p219 := eq_true p219
              replace q219 := eq_true q219
              have p220 : 0 ≤ (x6_1 : Int) := oD
              have q220 : x6_1 < (l0_0.length : Int) := oD
              obtain ⟨ad220, e220, f9a, g9a⟩ := at_T95 HR0_0.out x6_1 p220 q220
              obtain rfl : ad218 = ad220 := (by injection e220)
              replace f9a := (HB.out.cell (World.block_lt_of_cell? w _ f9a)).trans f9a
              replace g9a := (HB.out.cell (World.block_lt_of_cell? w _ g9a)).trans g9a
              replace p220 := eq_true p220
              replace q220 := eq_true q220
              go_wp2
              repeat (go_quiet (fail); try go_wp2)
              go_roundg k2
              case measure => have := HK1.out; have := HK2.out; omega
              case rel => exact ⟨(ji12), (by first | rfl | (simp; done) | (simp only [← hji12] <;> (first | rfl | simp)) | (simp [*]; done)), H', ⟨by have := HK1.out; have := HK2.out; omega⟩, ⟨bb d9a⟩, ⟨iB HB⟩⟩
            ·rw [if_neg c13] at H
             exact absurd H (by simp)
           ·rw [if_neg c11] at H
            have c11b0 : ((rd l1 x7_2) == ((rd_T95 l0_0 x6_1).f0)) = false := beq_eq_false_iff_ne.mpr c11
            have c11b1 : ((rd l1 x7_2) != ((rd_T95 l0_0 x6_1).f0)) = true := bne_iff_ne.mpr c11
            have H' := Aside0.mk H
            clear H; have p217 : 0 ≤ (x7_2 : Int) := oD
            have q217 : x7_2 < (l1.length : Int) := oD
            obtain ⟨ad217, e217, a9a⟩ := Kd.at_int HR1.out x7_2 p217 q217
            cases e217
            replace a9a := (HB.out.cell (World.block_lt_of_cell? w _ a9a)).trans a9a
            replace p217 := eq_true p217
            replace q217 := eq_true q217
            have hcz17_0 : wr.cell? ⟨h9a, 0, none⟩ = some (.slice A0_0 l0_0.length c0_0) := bc d9a 0
            have hfz17_0 := blk_frozen d9a.out 0; have p218 : 0 ≤ (x6_1 : Int) := oD
            have q218 : x6_1 < (l0_0.length : Int) := oD
            obtain ⟨ad218, e218, b9a, c9a⟩ := at_T95 HR0_0.out x6_1 p218 q218
            cases e218
            replace b9a := (HB.out.cell (World.block_lt_of_cell? w _ b9a)).trans b9a
            replace c9a := (HB.out.cell (World.block_lt_of_cell? w _ c9a)).trans c9a
            replace p218 := eq_true p218
            replace q218 := eq_true q218
            go_wp2
            repeat (go_quiet (fail); try go_wp2)
            go_roundg k2
            case measure => have := HK1.out; have := HK2.out; omega
            case rel => exact ⟨(wrap64 (x7_2 + 1)), sR, H', ⟨by have := HK1.out; have := HK2.out; omega⟩, ⟨bb d9a⟩, ⟨iB HB⟩⟩
          ·rw [if_neg c10] at H
           exact absurd H (by simp)
         ·rw [if_neg c9] at H
          exact absurd H (by simp)
        ·rw [if_neg c8] at H
         exact absurd H (by simp)
       ·rw [if_neg c7] at H
        exact absurd H (by simp)
      ·rw [if_neg c6] at H
       have c6b0 : decide ((wrap64 (x7_2 + 1)) < (l1.length : Int)) = false := decide_eq_false c6
       clear c6; have H' := Aside0.mk H
       clear H
       go_wp2
       repeat (go_quiet (fail); try go_wp2)
       go_roundg k2
       case measure => have := HK1.out; have := HK2.out; omega
       case rel => exact ⟨(wrap64 (x6_1 + 1)), sR, H', ⟨by have := HK1.out; have := HK2.out; omega⟩, ⟨bb d9a⟩, ⟨iB HB⟩⟩
   ·rw [if_neg c4] at H
    have c4b0 : decide (x6_1 < (l0_0.length : Int)) = false := decide_eq_false c4
    clear c4; simp only [Option.some.injEq, Prod.mk.injEq] at H
    obtain ⟨rfl, rfl⟩ := H
    have hcz18_0 : wr.cell? ⟨h9a, 0, none⟩ = some (.slice A0_0 l0_0.length c0_0) := bc d9a 0
    have hfz18_0 := blk_frozen d9a.out 0
    go_wp2
    repeat (go_quiet (fail); try go_wp2)
    go_ret2
    exact ⟨eR, iB HB⟩
def spec_l8Merged.f (l0 : List Int) (a1 : Int) (a2 : Int) : Option (List Int) := (some (([] : List Int) : List Int)).bind fun y221 => (if 0 ≤ a1 then (if a1 ≤ (l0.length : Int) then (if y221.length + (l0.take (a1 : Int).toNat).length < 17592186044416 then ((some (y221 ++ (l0.take (a1 : Int).toNat) : List Int)).bind fun y225 => (if y225.length < 17592186044416 then ((some (y225 ++ [wrap64 (256 + a2)] : List Int)).bind fun y228 => (if 0 ≤ (wrap64 (a1 + 2)) then (if (wrap64 (a1 + 2)) ≤ (l0.length : Int) then (if y228.length + (l0.drop ((wrap64 (a1 + 2)) : Int).toNat).length < 17592186044416 then (some (y228 ++ (l0.drop ((wrap64 (a1 + 2)) : Int).toNat))) else (none)) else (none)) else (none))) else (none))) else (none)) else (none)) else (none))
set_option maxHeartbeats 8000000 in
set_option maxRecDepth 100000 in
theorem spec_l8Merged.calls (A0 : Option Addr) (c0 : Nat) (l0 : List Int) (a1 : Int) (a2 : Int) (r : List Int) (w : World) (hr0 : Kd.C (Kd.int .i64) w A0 l0.length l0) (hc0 : l0.length ≤ c0) (h : spec_l8Merged.f l0 a1 a2 = some r) :
  Calls Try.prog 71 #[.slice A0 l0.length c0, .int .i64 a1, .int .i64 a2] w fun e w' => ∃ v0_ : Value, e = .returned (v0_) ∧ Kd.R (Kd.int .i64) 3 w' w.heap.size (fun _ => True) v0_ r ∧ Below w.heap.size w w' := by
 have HR0 := Aside0.mk hr0
 have HC0 := Aside0.mk hc0
 clear hr0 hc0; have HB := Aside0.mk (Below.refl w.heap.size w)
 have H : ((some (([] : List Int) : List Int)).bind fun y221 => (if 0 ≤ a1 then (if a1 ≤ (l0.length : Int) then (if y221.length + (l0.take (a1 : Int).toNat).length < 17592186044416 then ((some (y221 ++ (l0.take (a1 : Int).toNat) : List Int)).bind fun y225 => (if y225.length < 17592186044416 then ((some (y225 ++ [wrap64 (256 + a2)] : List Int)).bind fun y228 => (if 0 ≤ (wrap64 (a1 + 2)) then (if (wrap64 (a1 + 2)) ≤ (l0.length : Int) then (if y228.length + (l0.drop ((wrap64 (a1 + 2)) : Int).toNat).length < 17592186044416 then (some (y228 ++ (l0.drop ((wrap64 (a1 + 2)) : Int).toNat))) else (none)) else (none)) else (none))) else (none))) else (none)) else (none)) else (none))) = some r := h
 clear h; obtain ⟨y221, hy221⟩ : ∃ y_ : List Int, y_ = (([] : List Int)) := ⟨_, rfl⟩
 replace H : (if 0 ≤ a1 then (if a1 ≤ (l0.length : Int) then (if y221.length + (l0.take (a1 : Int).toNat).length < 17592186044416 then ((some (y221 ++ (l0.take (a1 : Int).toNat) : List Int)).bind fun y225 => (if y225.length < 17592186044416 then ((some (y225 ++ [wrap64 (256 + a2)] : List Int)).bind fun y228 => (if 0 ≤ (wrap64 (a1 + 2)) then (if (wrap64 (a1 + 2)) ≤ (l0.length : Int) then (if y228.length + (l0.drop ((wrap64 (a1 + 2)) : Int).toNat).length < 17592186044416 then (some (y228 ++ (l0.drop ((wrap64 (a1 + 2)) : Int).toNat))) else (none)) else (none)) else (none))) else (none))) else (none)) else (none)) else (none)) = some r := by first | (rw [hy221]; with_reducible exact H) | (have H2_ := (Option.bind_some _ _).symm.trans H; rw [hy221]; with_reducible exact H2_) | (have H2_ := (Option.bind_some _ _).symm.trans H; with_reducible exact H2_) | with_reducible exact H | (rw [hy221]; exact H) | exact H
 have Ny221 := Aside0.mk hy221
 clear hy221
 by_cases c4 : 0 ≤ a1
 ·rw [if_pos c4] at H
  have c4b0 := eq_true c4
  have c4b1 : decide (0 ≤ a1) = true := decide_eq_true c4
  clear c4
  by_cases c5 : a1 ≤ (l0.length : Int)
  ·rw [if_pos c5] at H
   have c5b0 := eq_true c5
   have c5b1 : decide (a1 ≤ (l0.length : Int)) = true := decide_eq_true c5
   clear c5
   by_cases c6 : y221.length + (l0.take (a1 : Int).toNat).length < 17592186044416
   ·rw [if_pos c6] at H
    have LMc6 := Aside0.mk c6
    clear c6; obtain ⟨y225, hy225⟩ : ∃ y_ : List Int, y_ = (y221 ++ (l0.take (a1 : Int).toNat)) := ⟨_, rfl⟩
    replace H : (if y225.length < 17592186044416 then ((some (y225 ++ [wrap64 (256 + a2)] : List Int)).bind fun y228 => (if 0 ≤ (wrap64 (a1 + 2)) then (if (wrap64 (a1 + 2)) ≤ (l0.length : Int) then (if y228.length + (l0.drop ((wrap64 (a1 + 2)) : Int).toNat).length < 17592186044416 then (some (y228 ++ (l0.drop ((wrap64 (a1 + 2)) : Int).toNat))) else (none)) else (none)) else (none))) else (none)) = some r := by first | (rw [hy225]; with_reducible exact H) | (have H2_ := (Option.bind_some _ _).symm.trans H; rw [hy225]; with_reducible exact H2_) | (have H2_ := (Option.bind_some _ _).symm.trans H; with_reducible exact H2_) | with_reducible exact H | (rw [hy225]; exact H) | exact H
    have Ny225 := Aside0.mk hy225
    clear hy225
    by_cases c7 : y225.length < 17592186044416
    ·rw [if_pos c7] at H
     have LMc7 := Aside0.mk c7
     clear c7; obtain ⟨y228, hy228⟩ : ∃ y_ : List Int, y_ = (y225 ++ [wrap64 (256 + a2)]) := ⟨_, rfl⟩
     replace H : (if 0 ≤ (wrap64 (a1 + 2)) then (if (wrap64 (a1 + 2)) ≤ (l0.length : Int) then (if y228.length + (l0.drop ((wrap64 (a1 + 2)) : Int).toNat).length < 17592186044416 then (some (y228 ++ (l0.drop ((wrap64 (a1 + 2)) : Int).toNat))) else (none)) else (none)) else (none)) = some r := by first | (rw [hy228]; with_reducible exact H) | (have H2_ := (Option.bind_some _ _).symm.trans H; rw [hy228]; with_reducible exact H2_) | (have H2_ := (Option.bind_some _ _).symm.trans H; with_reducible exact H2_) | with_reducible exact H | (rw [hy228]; exact H) | exact H
     have Ny228 := Aside0.mk hy228
     clear hy228; obtain ⟨ji8, hji8⟩ : ∃ j_ : Int, (wrap64 (a1 + 2)) = j_ := ⟨_, rfl⟩
     replace H : (if 0 ≤ (ji8) then (if (ji8) ≤ (l0.length : Int) then (if y228.length + (l0.drop ((ji8) : Int).toNat).length < 17592186044416 then (some (y228 ++ (l0.drop ((ji8) : Int).toNat))) else (none)) else (none)) else (none)) = some r := by first | (rw [hji8] at H; exact H) | (simp only [hji8] at H ⊢; exact H)
     have hji8w : (IntKind.i64.wrap (a1 + 2)) = ji8 := (i64_w _).trans hji8
     by_cases c9 : 0 ≤ (ji8)
     ·rw [if_pos c9] at H
      have c9b0 := eq_true c9
      have c9b1 : decide (0 ≤ (ji8)) = true := decide_eq_true c9
      clear c9
      by_cases c10 : (ji8) ≤ (l0.length : Int)
      ·rw [if_pos c10] at H
       have c10b0 := eq_true c10
       have c10b1 : decide ((ji8) ≤ (l0.length : Int)) = true := decide_eq_true c10
       clear c10
       by_cases c11 : y228.length + (l0.drop ((ji8) : Int).toNat).length < 17592186044416
       ·rw [if_pos c11] at H
        have LMc11 := Aside0.mk c11
        clear c11; obtain ⟨y232, hy232⟩ : ∃ y_ : List Int, y_ = (y228 ++ (l0.drop ((ji8) : Int).toNat)) := ⟨_, rfl⟩
        replace H : (some y232) = some r := by first | (rw [hy232]; with_reducible exact H) | (have H2_ := (Option.bind_some _ _).symm.trans H; rw [hy232]; with_reducible exact H2_) | (have H2_ := (Option.bind_some _ _).symm.trans H; with_reducible exact H2_) | with_reducible exact H | (rw [hy232]; exact H) | exact H
        have Ny232 := Aside0.mk hy232
        clear hy232; obtain rfl := Option.some.inj H
        go_enter Try.func71, Try.ntmps71
        go_wp2_with (first | ((with_reducible refine gate_dst (N := 8) rfl ?_); refine Kd.R_lit (Kd.int .i64) _ 3 ?hg (N := 8) ?hd (xs := ([] : List Int)) (inner := []) (ok := fun _ => True) (okp := fun _ => True) ?hr ?hp (fun _ hk => hk) trivial (Below.refl _ _) (Nat.le_refl _) (by simp) ?_; (case hd => rfl); (case hg => rfl); (case hr => first | (go_simp; done) | (go_simp; rfl)); (case hp => exact (Reps.none _ _)); intro v222 w12 ho13 hb hg_ hnew_; clear hg_ hnew_; (first | rw [← Ny221.out] at ho13 | (simp only [Int.reduceToNat] at ho13; rw [← Ny221.out] at ho13)); have HO223 := Aside0.mk (Kd.R_lower ho13 (below_size (be HB))); replace HB := bh HB hb; clear hb ho13; obtain ⟨i014, hi014, _, hsz14, _⟩ := info_parts info3; obtain ⟨hcut14, hA14, hC14⟩ := print_take_of (P := Try.prog) (Value.int .i64) 0 36 3 .i64 Try.underlying36 hi014 hsz14 A0 c0 l0 a1 (oD) (oD) HC0.out; have HR224 := Aside0.mk (Kd.C_of_reads (h1 := fun _ => rfl) (hA14 _ (Kd.reads_of_C HR0.out))); have HC224 := Aside0.mk hC14; clear hA14 hC14 hi014 hsz14) | ((with_reducible refine gate_builtin (b := .append) (xs := #[.tmp 8, .tmp 11]) rfl ?_); at_builtin; refine Kd.R_append_rows (Kd.int .i64) (w0 := w) w.heap.size rfl (.tmp 8) (.tmp 11) 36 3 (.int .i64 0) 8 rfl Try.underlying36 info3 rfl (by decide) (by omega) v222 y221 (l0.take (a1 : Int).toNat) _ _ _ (fun _ => True) (fun _ => False) rfl rfl ?aO ?aR (fun _ _ h => h) (fun _ h => h.elim) ?aF ?aB ?aS ?aL ?_; (case aR => first | (have q_ := HR224.out; rw [show (l0.take (a1 : Int).toNat).length = a1.toNat from (by rw [List.length_take]; have h_ : (a1 : Int) ≤ (l0.length : Int) := oD; omega)] at q_; exact cX (Kd.C_below q_ HB.out); done) | (rw [← show (l0.take (a1 : Int).toNat).length = a1.toNat from (by rw [List.length_take]; have h_ : (a1 : Int) ≤ (l0.length : Int) := oD; omega)]; exact cX (Kd.C_below HR224.out HB.out)) | (exact cX (Kd.C_below HR224.out HB.out))); (case aB => exact (be HB)); (case aF => exact (fun _ _ => trivial)); (case aO => exact (rr HO223)); (case aS => exact (below_size (be HB))); (case aL => have := LMc6.out; have hlx_ := (show (l0.take (a1 : Int).toNat).length = a1.toNat from (by rw [List.length_take]; have h_ : (a1 : Int) ≤ (l0.length : Int) := oD; omega)); omega); intro v226 w15 ho hb hg hat; rw [← Ny225.out] at ho; have n0_ := Aside0.mk (hb); have HO227 := Aside0.mk (ho); clear HO223 HB; have HB := n0_; clear n0_; clear ho hb hg hat) | ((with_reducible refine gate_builtin (b := .append) (xs := #[.tmp 13, .tmp 16]) rfl ?_); at_builtin; refine Kd.R_append (Kd.int .i64) (w0 := w) w.heap.size rfl (.tmp 13) (.tmp 16) 36 3 (.int .i64 0) 8 rfl Try.underlying36 info3 rfl (by decide) (by omega) v226 y225 (wrap64 (256 + a2)) [.int .i64 (wrap64 (256 + a2))] (fun _ => True) (fun _ => False) rfl rfl ?aP (fun _ hk => hk.elim) ?aF ?aO ?aB ?aS ?aL ?_; (case aP => exact rfl); (case aB => exact (be HB)); (case aF => exact (fun _ _ => trivial)); (case aO => exact (rr HO227)); (case aS => exact (below_size (be HB))); (case aL => have := LMc7.out; omega); intro v229 w16 ho hb hg hat; rw [← Ny228.out] at ho; have n0_ := Aside0.mk (hb); have HO230 := Aside0.mk (ho); clear HO227 HB; have HB := n0_; clear n0_; clear ho hb hg hat; obtain ⟨i017, hi017, _, hsz17, _⟩ := info_parts info3; obtain ⟨A17, hcut17, hA17, hC17⟩ := print_drop_of (P := Try.prog) (Value.int .i64) 0 36 3 .i64 Try.underlying36 hi017 hsz17 A0 c0 l0 (ji8) (oD) (oD) HC0.out; have HR231 := Aside0.mk (Kd.C_of_reads (h1 := fun _ => rfl) (hA17 _ (Kd.reads_of_C HR0.out))); have HC231 := Aside0.mk hC17; clear hA17 hC17 hi017 hsz17) | ((with_reducible refine gate_builtin (b := .append) (xs := #[.tmp 18, .tmp 22]) rfl ?_); at_builtin; refine Kd.R_append_rows (Kd.int .i64) (w0 := w) w.heap.size rfl (.tmp 18) (.tmp 22) 36 3 (.int .i64 0) 8 rfl Try.underlying36 info3 rfl (by decide) (by omega) v229 y228 (l0.drop ((ji8) : Int).toNat) _ _ _ (fun _ => True) (fun _ => False) rfl rfl ?aO ?aR (fun _ _ h => h) (fun _ h => h.elim) ?aF ?aB ?aS ?aL ?_; (case aR => first | (have q_ := HR231.out; rw [show (l0.drop ((ji8) : Int).toNat).length = (l0.length - (ji8).toNat) from List.length_drop] at q_; exact cX (Kd.C_below q_ HB.out); done) | (rw [← show (l0.drop ((ji8) : Int).toNat).length = (l0.length - (ji8).toNat) from List.length_drop]; exact cX (Kd.C_below HR231.out HB.out)) | (exact cX (Kd.C_below HR231.out HB.out))); (case aB => exact (be HB)); (case aF => exact (fun _ _ => trivial)); (case aO => exact (rr HO230)); (case aS => exact (below_size (be HB))); (case aL => have := LMc11.out; have hlx_ := (show (l0.drop ((ji8) : Int).toNat).length = (l0.length - (ji8).toNat) from List.length_drop); omega); intro v233 w18 ho hb hg hat; rw [← Ny232.out] at ho; have n0_ := Aside0.mk (hb); have HO234 := Aside0.mk (ho); clear HO230 HB; have HB := n0_; clear n0_; clear ho hb hg hat))
        go_ret
        exact ⟨_, by first | rfl | (simp [errW_none, errW_some] <;> rfl) | (simp only [← hji8]; first | rfl | (simp [errW_none, errW_some] <;> rfl)) | (simp [*, errW_none, errW_some] <;> rfl), rX HO234.out, iB HB⟩
       ·rw [if_neg c11] at H
        exact absurd H (by simp)
      ·rw [if_neg c10] at H
       exact absurd H (by simp)
     ·rw [if_neg c9] at H
      exact absurd H (by simp)
    ·rw [if_neg c7] at H
     exact absurd H (by simp)
   ·rw [if_neg c6] at H
    exact absurd H (by simp)
  ·rw [if_neg c5] at H
   exact absurd H (by simp)
 ·rw [if_neg c4] at H
  exact absurd H (by simp)
mutual
def spec_l8Bpe.l0 : Nat → ByteArray → List Int → Int → List (S95) → Option (List Int)
 | 0, _, _, _, _ => none
 | k + 1, x1, x5, x6, x236000 => if x6 < (x1.size : Int) then (if 0 ≤ x6 then (if x5.length < 17592186044416 then (spec_l8Bpe.l0 k x1 (x5 ++ [wrap64 (bt x1 x6)]) (wrap64 (x6 + 1)) x236000) else (none)) else (none)) else (spec_l8Bpe.l1 k x1 x5 0 x236000)
def spec_l8Bpe.l1 : Nat → ByteArray → List Int → Int → List (S95) → Option (List Int)
 | 0, _, _, _, _ => none
 | k + 1, x1, x5, x7, x236000 => if x7 < (x1.size : Int) then ((spec_l8Place.f k x236000 x5).bind fun bt242 => (if bt242.1 < 0 then (some x5) else ((spec_l8Merged.f x5 bt242.1 bt242.2).bind fun t244 => (spec_l8Bpe.l1 k x1 t244 (wrap64 (x7 + 1)) x236000)))) else (some x5)
end
def spec_l8Bpe.f (k : Nat) (l0_0 : List (S95)) (a1 : ByteArray) : Option (List Int) := spec_l8Bpe.l0 k a1 (([] : List Int)) 0 l0_0
theorem spec_l8Bpe.mono_l : ∀ k, (∀ y0 y1 y2 y3, LeO (spec_l8Bpe.l0 k y0 y1 y2 y3) (spec_l8Bpe.l0 (k + 1) y0 y1 y2 y3)) ∧ (∀ y0 y1 y2 y3, LeO (spec_l8Bpe.l1 k y0 y1 y2 y3) (spec_l8Bpe.l1 (k + 1) y0 y1 y2 y3))
 | 0 => ⟨fun _ _ _ _ r h => by simp [spec_l8Bpe.l0] at h, fun _ _ _ _ r h => by simp [spec_l8Bpe.l1] at h⟩
 | k + 1 => by
  obtain ⟨ih0, ih1⟩ := spec_l8Bpe.mono_l k
  refine ⟨?_, ?_⟩
  ·intro y0 y1 y2 y3
   unfold spec_l8Bpe.l0
   repeat' first
   | (with_reducible exact ih0 _ _ _ _)
   | (with_reducible exact ih1 _ _ _ _)
   | (with_reducible exact spec_l8Place.mono _ _ _)
   | (with_reducible exact LeO.refl _)
   | (with_reducible exact LeO.none _)
   | (with_reducible refine LeO.ite ?_ ?_)
   | (with_reducible refine LeO.bind ?_ (fun _ => ?_))
   | exact ih0 _ _ _ _
   | exact ih1 _ _ _ _
   | exact spec_l8Place.mono _ _ _
   | exact LeO.none _
   | refine LeO.ite ?_ ?_
   | refine LeO.bind ?_ (fun _ => ?_)
  ·intro y0 y1 y2 y3
   unfold spec_l8Bpe.l1
   repeat' first
   | (with_reducible exact ih0 _ _ _ _)
   | (with_reducible exact ih1 _ _ _ _)
   | (with_reducible exact spec_l8Place.mono _ _ _)
   | (with_reducible exact LeO.refl _)
   | (with_reducible exact LeO.none _)
   | (with_reducible refine LeO.ite ?_ ?_)
   | (with_reducible refine LeO.bind ?_ (fun _ => ?_))
   | exact ih0 _ _ _ _
   | exact ih1 _ _ _ _
   | exact spec_l8Place.mono _ _ _
   | exact LeO.none _
   | refine LeO.ite ?_ ?_
   | refine LeO.bind ?_ (fun _ => ?_)
theorem spec_l8Bpe.mono : ∀ a0 a1 k, LeO (spec_l8Bpe.f k a0 a1) (spec_l8Bpe.f (k + 1) a0 a1) := by
 intro a0 a1 k
 obtain ⟨ih0, ih1⟩ := spec_l8Bpe.mono_l k
 unfold spec_l8Bpe.f
 repeat' first
   | (with_reducible exact ih0 _ _ _ _)
   | (with_reducible exact ih1 _ _ _ _)
   | (with_reducible exact spec_l8Place.mono _ _ _)
   | (with_reducible exact LeO.refl _)
   | (with_reducible exact LeO.none _)
   | (with_reducible refine LeO.ite ?_ ?_)
   | (with_reducible refine LeO.bind ?_ (fun _ => ?_))
   | exact ih0 _ _ _ _
   | exact ih1 _ _ _ _
   | exact spec_l8Place.mono _ _ _
   | exact LeO.none _
   | refine LeO.ite ?_ ?_
   | refine LeO.bind ?_ (fun _ => ?_)
set_option maxHeartbeats 8000000 in
set_option maxRecDepth 100000 in
theorem spec_l8Bpe.calls (k : Nat) (A0_0 : Option Addr) (c0_0 : Nat) (l0_0 : List (S95)) (a1 : ByteArray) (r : List Int) (w : World) (hr0_0 : Kd.C k95 w A0_0 l0_0.length l0_0) (hc0_0 : l0_0.length ≤ c0_0) (h : spec_l8Bpe.f k l0_0 a1 = some r) :
  Calls Try.prog 40 #[.agg #[.slice A0_0 l0_0.length c0_0], .string a1] w fun e w' => ∃ v0_ : Value, e = .returned (v0_) ∧ Kd.R (Kd.int .i64) 3 w' w.heap.size (fun _ => True) v0_ r ∧ Below w.heap.size w w' := by
 have hu26 := Try.underlying26
 have HR0_0 := Aside0.mk hr0_0
 have HC0_0 := Aside0.mk hc0_0
 clear hr0_0 hc0_0; have HB := Aside0.mk (Below.refl w.heap.size w)
 have H : (spec_l8Bpe.l0 k a1 (([] : List Int)) 0 l0_0) = some r := h
 clear h; obtain ⟨y236, hy236⟩ : ∃ y_ : List Int, y_ = (([] : List Int)) := ⟨_, rfl⟩
 replace H : (spec_l8Bpe.l0 k a1 y236 0 l0_0) = some r := by first | (rw [hy236]; with_reducible exact H) | (have H2_ := (Option.bind_some _ _).symm.trans H; rw [hy236]; with_reducible exact H2_) | (have H2_ := (Option.bind_some _ _).symm.trans H; with_reducible exact H2_) | with_reducible exact H | (rw [hy236]; exact H) | exact H
 have Ny236 := Aside0.mk hy236
 clear hy236; have H' := Aside0.mk H
 clear H
 go_enter Try.func40, Try.ntmps40
 go_wp2_with (first | ((with_reducible refine gate_dst (N := 2) rfl ?_); refine bX 2 #[.slice A0_0 l0_0.length c0_0] 26 ?_; intro gb235 hg w3 hbox hb; have a9a := Aside0.mk (hbox); have GW235 := bs HB hg; have b9a := bs HB hg; replace HB := bh HB hb; clear hb hbox hg) | ((with_reducible refine gate_dst (N := 10) rfl ?_); refine Kd.R_lit (Kd.int .i64) _ 3 ?hg (N := 10) ?hd (xs := ([] : List Int)) (inner := []) (ok := fun _ => True) (okp := fun _ => True) ?hr ?hp (fun _ hk => hk) trivial (Below.refl _ _) (Nat.le_refl _) (by simp) ?_; (case hd => rfl); (case hg => rfl); (case hr => first | (go_simp; done) | (go_simp; rfl)); (case hp => exact (Reps.none _ _)); intro v237 w4 ho5 hb hg_ hnew_; clear hg_ hnew_; (first | rw [← Ny236.out] at ho5 | (simp only [Int.reduceToNat] at ho5; rw [← Ny236.out] at ho5)); have HO238 := Aside0.mk (Kd.R_lower ho5 (below_size (be HB))); replace a9a := bq a9a hb; replace HB := bh HB hb; clear hb ho5))
 go_loopg [5, 6] k (fun kq v5 v6 w' => ∃ (x5_1 : List Int) (x6_1 : Int), v6 = .int .i64 x6_1 ∧ Aside0 (spec_l8Bpe.l0 kq a1 x5_1 x6_1 l0_0 = some r) ∧ Aside0 (kq ≤ k) ∧ Aside0 (Kd.R (Kd.int .i64) 3 w' w.heap.size (fun _ => True) v5 x5_1) ∧ Aside0 (w'.heap[gb235]? = some (.cells #[(.slice A0_0 l0_0.length c0_0)] 26 (0, 0))) ∧ Aside0 (Below w.heap.size w w'))
 case atStart => exact ⟨(y236), (0), sR, H', ⟨Nat.le_refl _⟩, ⟨rr HO238⟩, ⟨bb a9a⟩, ⟨iB HB⟩⟩
 case round =>
  clear H'
  obtain ⟨x5_1, x6_1, rfl, HA, HK1, HO_5, a9a, HB⟩ := hrel
  cases gk with
  | zero => exact absurd HA.out (by simp [spec_l8Bpe.l0])
  | succ k1 =>
   have H := HA.out; clear HA; simp only [spec_l8Bpe.l0] at H
   by_cases c6 : x6_1 < (a1.size : Int)
   ·rw [if_pos c6] at H
    have c6b0 : decide (x6_1 < (a1.size : Int)) = true := decide_eq_true c6
    clear c6
    by_cases c7 : 0 ≤ x6_1
    ·rw [if_pos c7] at H
     have c7b0 : decide (0 ≤ x6_1) = true := decide_eq_true c7
     clear c7
     by_cases c9 : x5_1.length < 17592186044416
     ·rw [if_pos c9] at H
      have LMc9 := Aside0.mk c9
      clear c9; obtain ⟨y239, hy239⟩ : ∃ y_ : List Int, y_ = (x5_1 ++ [wrap64 (bt a1 x6_1)]) := ⟨_, rfl⟩
      replace H : (spec_l8Bpe.l0 k1 a1 y239 (wrap64 (x6_1 + 1)) l0_0) = some r := by first | (rw [hy239]; with_reducible exact H) | (have H2_ := (Option.bind_some _ _).symm.trans H; rw [hy239]; with_reducible exact H2_) | (have H2_ := (Option.bind_some _ _).symm.trans H; with_reducible exact H2_) | with_reducible exact H | (rw [hy239]; exact H) | exact H
      have Ny239 := Aside0.mk hy239
      clear hy239; have H' := Aside0.mk H
      clear H; have p8 : 0 ≤ (x6_1 : Int) := oD
      have q8 : x6_1 < (a1.size : Int) := oD
      have hx8 := bt_at a1 x6_1
      replace p8 := eq_true p8
      replace q8 := eq_true q8
      go_wp2_with (first | ((with_reducible refine gate_builtin (b := .append) (xs := #[.tmp 17, .tmp 22]) rfl ?_); at_builtin; refine Kd.R_append (Kd.int .i64) (w0 := w) w.heap.size rfl (.tmp 17) (.tmp 22) 36 3 (.int .i64 0) 8 rfl Try.underlying36 info3 rfl (by decide) (by omega) u5 x5_1 (wrap64 (bt a1 x6_1)) [.int .i64 (wrap64 (bt a1 x6_1))] (fun _ => True) (fun _ => False) rfl rfl ?aP (fun _ hk => hk.elim) ?aF ?aO ?aB ?aS ?aL ?_; (case aP => exact rfl); (case aB => exact (be HB)); (case aF => exact (fun _ _ => trivial)); (case aO => exact (rr HO_5)); (case aS => exact (below_size (be HB))); (case aL => have := LMc9.out; omega); intro v240 w10 ho hb hg hat; rw [← Ny239.out] at ho; have n0_ := Aside0.mk (blk_grown (g := gb235) (o := .cells #[.slice A0_0 l0_0.length c0_0] 26 (0, 0)) kB hg (Kd.R_ne HO_5.out a9a.out (by decide))); have n1_ := Aside0.mk (hb); have HO241 := Aside0.mk (ho); clear HO_5 a9a HB; have a9a := n0_; have HB := n1_; clear n0_ n1_; clear ho hb hg hat))
      go_roundg k1
      case measure => have := HK1.out; omega
      case rel => exact ⟨(y239), (wrap64 (x6_1 + 1)), sR, H', ⟨by have := HK1.out; omega⟩, ⟨rr HO241⟩, ⟨bb a9a⟩, ⟨iB HB⟩⟩
     ·rw [if_neg c9] at H
      exact absurd H (by simp)
    ·rw [if_neg c7] at H
     exact absurd H (by simp)
   ·rw [if_neg c6] at H
    have c6b0 : decide (x6_1 < (a1.size : Int)) = false := decide_eq_false c6
    clear c6; have H' := Aside0.mk H
    clear H
    go_wp2
    go_loopg [5, 7] k1 (fun kq v5 v7 w' => ∃ (x5_2 : List Int) (x7_2 : Int), v7 = .int .i64 x7_2 ∧ Aside0 (spec_l8Bpe.l1 kq a1 x5_2 x7_2 l0_0 = some r) ∧ Aside0 (kq ≤ k1) ∧ Aside0 (Kd.R (Kd.int .i64) 3 w' w.heap.size (fun _ => True) v5 x5_2) ∧ Aside0 (w'.heap[gb235]? = some (.cells #[(.slice A0_0 l0_0.length c0_0)] 26 (0, 0))) ∧ Aside0 (Below w.heap.size w w'))
    case atStart => exact ⟨(x5_1), (0), sR, H', ⟨Nat.le_refl _⟩, ⟨rr HO_5⟩, ⟨bb a9a⟩, ⟨iB HB⟩⟩
    case round =>
     clear H'
     obtain ⟨x5_2, x7_2, rfl, HA, HK2, HO_5, a9a, HB⟩ := hrel
     cases gk with
     | zero => exact absurd HA.out (by simp [spec_l8Bpe.l1])
     | succ k2 =>
      have H := HA.out; clear HA; simp only [spec_l8Bpe.l1] at H
      by_cases c11 : x7_2 < (a1.size : Int)
      ·rw [if_pos c11] at H
       have c11b0 : decide (x7_2 < (a1.size : Int)) = true := decide_eq_true c11
       clear c11; replace H := Option.bind_eq_some_iff.mp H
       obtain ⟨⟨t242, t243⟩, A120, H⟩ := H
       replace H : (if t242 < 0 then (some x5_2) else ((spec_l8Merged.f x5_2 t242 t243).bind fun t244 => (spec_l8Bpe.l1 k2 a1 t244 (wrap64 (x7_2 + 1)) l0_0))) = some r := H
       have A12 := Aside0.mk A120
       clear A120
       by_cases c13 : t242 < 0
       ·rw [if_pos c13] at H
        have c13b0 : decide (t242 < 0) = true := decide_eq_true c13
        clear c13; obtain rfl := Option.some.inj H
        have hcz14_0 : wr.cell? ⟨gb235, 0, none⟩ = some (.slice A0_0 l0_0.length c0_0) := bc a9a 0
        have hfz14_0 := blk_frozen a9a.out 0; obtain ⟨Ao15, co15, eo15⟩ := Kd.R_slice HO_5.out
        subst eo15
        go_wp2_with (first | ((with_reducible refine gate_callee (f := 70) rfl ?_); refine goesC_ (some 33) Try.func70 #[.agg #[.slice A0_0 l0_0.length c0_0], .slice Ao15 x5_2.length co15] ?_; (with_reducible refine (spec_l8Place.calls k2 _ _ l0_0 _ _ x5_2 t242 t243 _ ?side1 ?side2 ?side3 ?side4 A12.out).mono ?_); (case side1 => exact cX (Kd.C_below HR0_0.out HB.out)); (case side2 => exact HC0_0.out); (case side3 => exact cX ((Kd.R_reads' HO_5.out).2.2)); (case side4 => exact (Kd.R_reads' HO_5.out).2.1); rintro e w16 ⟨rfl, hb⟩; refine ⟨_, rfl, ?_⟩; replace HO_5 := Aside0.mk (Kd.R_below (rr HO_5) hb); replace a9a := bq a9a hb; replace HB := bh HB hb; (try clear hb); (try clear hb2); (try clear hk); (try clear hi)))
        go_ret
        exact ⟨_, eR, rX HO_5.out, iB HB⟩
       ·rw [if_neg c13] at H
        have c13b0 : decide (t242 < 0) = false := decide_eq_false c13
        clear c13; replace H := Option.bind_eq_some_iff.mp H
        obtain ⟨t244, A170, H⟩ := H
        replace H : (spec_l8Bpe.l1 k2 a1 t244 (wrap64 (x7_2 + 1)) l0_0) = some r := H
        have A17 := Aside0.mk A170
        clear A170; have H' := Aside0.mk H
        clear H; have hcz18_0 : wr.cell? ⟨gb235, 0, none⟩ = some (.slice A0_0 l0_0.length c0_0) := bc a9a 0
        have hfz18_0 := blk_frozen a9a.out 0; obtain ⟨Ao19, co19, eo19⟩ := Kd.R_slice HO_5.out
        subst eo19
        go_wp2_with (first | ((with_reducible refine gate_callee (f := 70) rfl ?_); refine goesC_ (some 33) Try.func70 #[.agg #[.slice A0_0 l0_0.length c0_0], .slice Ao19 x5_2.length co19] ?_; (with_reducible refine (spec_l8Place.calls k2 _ _ l0_0 _ _ x5_2 t242 t243 _ ?side1 ?side2 ?side3 ?side4 A12.out).mono ?_); (case side1 => exact cX (Kd.C_below HR0_0.out HB.out)); (case side2 => exact HC0_0.out); (case side3 => exact cX ((Kd.R_reads' HO_5.out).2.2)); (case side4 => exact (Kd.R_reads' HO_5.out).2.1); rintro e w20 ⟨rfl, hb⟩; refine ⟨_, rfl, ?_⟩; replace HO_5 := Aside0.mk (Kd.R_below (rr HO_5) hb); replace a9a := bq a9a hb; replace HB := bh HB hb; (try clear hb); (try clear hb2); (try clear hk); (try clear hi)) | ((with_reducible refine gate_callee (f := 71) rfl ?_); refine goesC_ (some 42) Try.func71 #[.slice Ao19 x5_2.length co19, .int .i64 t242, .int .i64 t243] ?_; (with_reducible refine (spec_l8Merged.calls _ _ x5_2 t242 t243 t244 _ ?side1 ?side2 A17.out).mono ?_); (case side1 => exact cX ((Kd.R_reads' HO_5.out).2.2)); (case side2 => exact (Kd.R_reads' HO_5.out).2.1); rintro e w21 ⟨v245, rfl, ho0, hb⟩; refine ⟨_, rfl, ?_⟩; have n0_ := Aside0.mk (Kd.R_elder' (rr HO_5) (Kd.R_base ho0) hb); have HO246 := Aside0.mk (Kd.R_lower (Kd.R_new' ho0 (Kd.R_lt (rr HO_5))) (below_size (be HB))); replace a9a := bq a9a hb; replace HB := bh HB hb; clear HO_5; have HO_5 := n0_; clear n0_; (try clear hb); (try clear hb2); (try clear hk); (try clear hi)))
        go_roundg k2
        case measure => have := HK1.out; have := HK2.out; omega
        case rel => exact ⟨(t244), (wrap64 (x7_2 + 1)), sR, H', ⟨by have := HK1.out; have := HK2.out; omega⟩, ⟨rX (Kd.R_mono HO246.out (fun _ hk => trivial))⟩, ⟨bb a9a⟩, ⟨iB HB⟩⟩
      ·rw [if_neg c11] at H
       have c11b0 : decide (x7_2 < (a1.size : Int)) = false := decide_eq_false c11
       clear c11; obtain rfl := Option.some.inj H
       go_wp2
       go_ret
       exact ⟨_, eR, rX HO_5.out, iB HB⟩
def spec_l10At.l0 : Nat → List (S86) → ByteArray → Int → Option (Int)
 | 0, _, _, _ => none
 | k + 1, x0, x1, x5 => if x5 < (x0.length : Int) then (if 0 ≤ x5 then (if ((rd_T86 x0 x5).f0).toList = x1.toList then (some x5) else (spec_l10At.l0 k x0 x1 (wrap64 (x5 + 1)))) else (none)) else (some (-1))
def spec_l10At.f (k : Nat) (l0 : List (S86)) (a1 : ByteArray) : Option (Int) := spec_l10At.l0 k l0 a1 0
theorem spec_l10At.mono_l : ∀ k, (∀ y0 y1 y2, LeO (spec_l10At.l0 k y0 y1 y2) (spec_l10At.l0 (k + 1) y0 y1 y2))
 | 0 => fun _ _ _ r h => by simp [spec_l10At.l0] at h
 | k + 1 => by
  have ih0 := spec_l10At.mono_l k
  ·intro y0 y1 y2
   unfold spec_l10At.l0
   repeat' first
   | (with_reducible exact ih0 _ _ _)
   | (with_reducible exact LeO.refl _)
   | (with_reducible exact LeO.none _)
   | (with_reducible refine LeO.ite ?_ ?_)
   | (with_reducible refine LeO.bind ?_ (fun _ => ?_))
   | exact ih0 _ _ _
   | exact LeO.none _
   | refine LeO.ite ?_ ?_
   | refine LeO.bind ?_ (fun _ => ?_)
theorem spec_l10At.mono : ∀ a0 a1 k, LeO (spec_l10At.f k a0 a1) (spec_l10At.f (k + 1) a0 a1) := by
 intro a0 a1 k
 have ih0 := spec_l10At.mono_l k
 unfold spec_l10At.f
 repeat' first
   | (with_reducible exact ih0 _ _ _)
   | (with_reducible exact LeO.refl _)
   | (with_reducible exact LeO.none _)
   | (with_reducible refine LeO.ite ?_ ?_)
   | (with_reducible refine LeO.bind ?_ (fun _ => ?_))
   | exact ih0 _ _ _
   | exact LeO.none _
   | refine LeO.ite ?_ ?_
   | refine LeO.bind ?_ (fun _ => ?_)
set_option maxHeartbeats 8000000 in
set_option maxRecDepth 100000 in
theorem spec_l10At.calls (k : Nat) (A0 : Option Addr) (c0 : Nat) (l0 : List (S86)) (a1 : ByteArray) (r : Int) (w : World) (hr0 : Kd.C k86 w A0 l0.length l0) (hc0 : l0.length ≤ c0) (h : spec_l10At.f k l0 a1 = some r) :
  Calls Try.prog 57 #[.slice A0 l0.length c0, .string a1] w fun e w' => e = .returned (.int .i64 r) ∧ Drawn0 w w' := by
 have HR0 := Aside0.mk hr0
 have HC0 := Aside0.mk hc0
 clear hr0 hc0; have H : (spec_l10At.l0 k l0 a1 0) = some r := h
 clear h; have H' := Aside0.mk H
 clear H
 go_enter Try.func57, Try.ntmps57
 go_wp2
 go_loopg [5] k (fun kq v5 w' => ∃ (x5_1 : Int), v5 = .int .i64 x5_1 ∧ Aside0 (spec_l10At.l0 kq l0 a1 x5_1 = some r) ∧ Aside0 (kq ≤ k) ∧ Drawn0 w w')
 case atStart => exact ⟨(0), sR, H', ⟨Nat.le_refl _⟩, by repeat (first | exact Drawn0.refl _ | apply Drawn0.step)⟩
 case round =>
  clear H'
  obtain ⟨x5_1, rfl, HA, HK1, ⟨m1, rfl⟩⟩ := hrel
  cases gk with
  | zero => exact absurd HA.out (by simp [spec_l10At.l0])
  | succ k1 =>
   have H := HA.out; clear HA; simp only [spec_l10At.l0] at H
   by_cases c3 : x5_1 < (l0.length : Int)
   ·rw [if_pos c3] at H
    have c3b0 : decide (x5_1 < (l0.length : Int)) = true := decide_eq_true c3
    clear c3
    by_cases c4 : 0 ≤ x5_1
    ·rw [if_pos c4] at H
     have c4b0 : decide (0 ≤ x5_1) = true := decide_eq_true c4
     clear c4
     by_cases c5 : ((rd_T86 l0 x5_1).f0).toList = a1.toList
     ·rw [if_pos c5] at H
      have c5b0 : (((rd_T86 l0 x5_1).f0).toList == a1.toList) = true := beq_iff_eq.mpr c5
      have c5b1 : (((rd_T86 l0 x5_1).f0).toList != a1.toList) = false := bne_eq_false_iff_eq.mpr c5
      clear c5; obtain rfl := Option.some.inj H
      have p247 : 0 ≤ (x5_1 : Int) := oD
      have q247 : x5_1 < (l0.length : Int) := oD
      obtain ⟨ad247, A247_1, c247_1, e247, hx247_0, hx247_1, a9a, b9a⟩ := at_T86 HR0.out x5_1 p247 q247
      cases e247
      have HR247_1 := Aside0.mk b9a
      have HC247_1 := Aside0.mk a9a
      clear b9a a9a; replace p247 := eq_true p247
      replace q247 := eq_true q247
      go_wp2
      go_ret
      exact ⟨by first | rfl | (simp; done) | (simp [*]; done), by repeat (first | exact Drawn0.refl _ | apply Drawn0.step)⟩
     ·rw [if_neg c5] at H
      have c5b0 : (((rd_T86 l0 x5_1).f0).toList == a1.toList) = false := beq_eq_false_iff_ne.mpr c5
      have c5b1 : (((rd_T86 l0 x5_1).f0).toList != a1.toList) = true := bne_iff_ne.mpr c5
      have H' := Aside0.mk H
      clear H; have p247 : 0 ≤ (x5_1 : Int) := oD
      have q247 : x5_1 < (l0.length : Int) := oD
      obtain ⟨ad247, A247_1, c247_1, e247, hx247_0, hx247_1, a9a, b9a⟩ := at_T86 HR0.out x5_1 p247 q247
      cases e247
      have HR247_1 := Aside0.mk b9a
      have HC247_1 := Aside0.mk a9a
      clear b9a a9a; replace p247 := eq_true p247
      replace q247 := eq_true q247
      go_wp2
      go_roundg k1
      case measure => have := HK1.out; omega
      case rel => exact ⟨(wrap64 (x5_1 + 1)), sR, H', ⟨by have := HK1.out; omega⟩, by repeat (first | exact Drawn0.refl _ | apply Drawn0.step)⟩
    ·rw [if_neg c4] at H
     exact absurd H (by simp)
   ·rw [if_neg c3] at H
    have c3b0 : decide (x5_1 < (l0.length : Int)) = false := decide_eq_false c3
    clear c3; obtain rfl := Option.some.inj H
    go_wp2
    go_ret
    exact ⟨by first | rfl | (simp; done) | (simp [*]; done), by repeat (first | exact Drawn0.refl _ | apply Drawn0.step)⟩
def spec_l10SameInts.l0 : Nat → List Int → List Int → Int → Option (Bool)
 | 0, _, _, _ => none
 | k + 1, x0, x1, x5 => if x5 < (x0.length : Int) then (if 0 ≤ x5 then (if x5 < (x1.length : Int) then (if (rd x0 x5) = (rd x1 x5) then (spec_l10SameInts.l0 k x0 x1 (wrap64 (x5 + 1))) else (some false)) else (none)) else (none)) else (some true)
def spec_l10SameInts.f (k : Nat) (l0 : List Int) (l1 : List Int) : Option (Bool) := if (l0.length : Int) = (l1.length : Int) then (spec_l10SameInts.l0 k l0 l1 0) else (some false)
theorem spec_l10SameInts.mono_l : ∀ k, (∀ y0 y1 y2, LeO (spec_l10SameInts.l0 k y0 y1 y2) (spec_l10SameInts.l0 (k + 1) y0 y1 y2))
 | 0 => fun _ _ _ r h => by simp [spec_l10SameInts.l0] at h
 | k + 1 => by
  have ih0 := spec_l10SameInts.mono_l k
  ·intro y0 y1 y2
   unfold spec_l10SameInts.l0
   repeat' first
   | (with_reducible exact ih0 _ _ _)
   | (with_reducible exact LeO.refl _)
   | (with_reducible exact LeO.none _)
   | (with_reducible refine LeO.ite ?_ ?_)
   | (with_reducible refine LeO.bind ?_ (fun _ => ?_))
   | exact ih0 _ _ _
   | exact LeO.none _
   | refine LeO.ite ?_ ?_
   | refine LeO.bind ?_ (fun _ => ?_)
theorem spec_l10SameInts.mono : ∀ a0 a1 k, LeO (spec_l10SameInts.f k a0 a1) (spec_l10SameInts.f (k + 1) a0 a1) := by
 intro a0 a1 k
 have ih0 := spec_l10SameInts.mono_l k
 unfold spec_l10SameInts.f
 repeat' first
   | (with_reducible exact ih0 _ _ _)
   | (with_reducible exact LeO.refl _)
   | (with_reducible exact LeO.none _)
   | (with_reducible refine LeO.ite ?_ ?_)
   | (with_reducible refine LeO.bind ?_ (fun _ => ?_))
   | exact ih0 _ _ _
   | exact LeO.none _
   | refine LeO.ite ?_ ?_
   | refine LeO.bind ?_ (fun _ => ?_)
set_option maxHeartbeats 8000000 in
set_option maxRecDepth 100000 in
theorem spec_l10SameInts.calls (k : Nat) (A0 : Option Addr) (c0 : Nat) (l0 : List Int) (A1 : Option Addr) (c1 : Nat) (l1 : List Int) (r : Bool) (w : World) (hr0 : Kd.C (Kd.int .i64) w A0 l0.length l0) (hc0 : l0.length ≤ c0) (hr1 : Kd.C (Kd.int .i64) w A1 l1.length l1) (hc1 : l1.length ≤ c1) (h : spec_l10SameInts.f k l0 l1 = some r) :
  Calls Try.prog 58 #[.slice A0 l0.length c0, .slice A1 l1.length c1] w fun e w' => e = .returned (.bool r) ∧ Drawn0 w w' := by
 have HR0 := Aside0.mk hr0
 have HC0 := Aside0.mk hc0
 clear hr0 hc0; have HR1 := Aside0.mk hr1
 have HC1 := Aside0.mk hc1
 clear hr1 hc1; have H : (if (l0.length : Int) = (l1.length : Int) then (spec_l10SameInts.l0 k l0 l1 0) else (some false)) = some r := h
 clear h
 by_cases c3 : (l0.length : Int) = (l1.length : Int)
 ·rw [if_pos c3] at H
  have c3b0 : ((l0.length : Int) == (l1.length : Int)) = true := beq_iff_eq.mpr c3
  have c3b1 : ((l0.length : Int) != (l1.length : Int)) = false := bne_eq_false_iff_eq.mpr c3
  have c3b2 : (l0.length == l1.length) = true := by first | simpa using c3 | (simp at c3 ⊢; omega)
  clear c3; have H' := Aside0.mk H
  clear H
  go_enter Try.func58, Try.ntmps58
  go_wp2
  repeat (go_quiet (fail); try go_wp2)
  go_loopg [5] k (fun kq v5 w' => ∃ (x5_1 : Int), v5 = .int .i64 x5_1 ∧ Aside0 (spec_l10SameInts.l0 kq l0 l1 x5_1 = some r) ∧ Aside0 (kq ≤ k) ∧ Drawn0 w w')
  case atStart => exact ⟨(0), sR, H', ⟨Nat.le_refl _⟩, by repeat (first | exact Drawn0.refl _ | apply Drawn0.step)⟩
  case round =>
   clear H'
   obtain ⟨x5_1, rfl, HA, HK1, ⟨m1, rfl⟩⟩ := hrel
   cases gk with
   | zero => exact absurd HA.out (by simp [spec_l10SameInts.l0])
   | succ k1 =>
    have H := HA.out; clear HA; simp only [spec_l10SameInts.l0] at H
    by_cases c4 : x5_1 < (l0.length : Int)
    ·rw [if_pos c4] at H
     have c4b0 : decide (x5_1 < (l0.length : Int)) = true := decide_eq_true c4
     clear c4
     by_cases c5 : 0 ≤ x5_1
     ·rw [if_pos c5] at H
      have c5b0 : decide (0 ≤ x5_1) = true := decide_eq_true c5
      clear c5
      by_cases c6 : x5_1 < (l1.length : Int)
      ·rw [if_pos c6] at H
       have c6b0 : decide (x5_1 < (l1.length : Int)) = true := decide_eq_true c6
       clear c6
       by_cases c7 : (rd l0 x5_1) = (rd l1 x5_1)
       ·rw [if_pos c7] at H
        have c7b0 : ((rd l0 x5_1) == (rd l1 x5_1)) = true := beq_iff_eq.mpr c7
        have c7b1 : ((rd l0 x5_1) != (rd l1 x5_1)) = false := bne_eq_false_iff_eq.mpr c7
        clear c7; have H' := Aside0.mk H
        clear H; have p248 : 0 ≤ (x5_1 : Int) := oD
        have q248 : x5_1 < (l0.length : Int) := oD
        obtain ⟨ad248, e248, hx248_0⟩ := Kd.at_int HR0.out x5_1 p248 q248
        cases e248
        replace p248 := eq_true p248
        replace q248 := eq_true q248
        have p249 : 0 ≤ (x5_1 : Int) := oD
        have q249 : x5_1 < (l1.length : Int) := oD
        obtain ⟨ad249, e249, hx249_0⟩ := Kd.at_int HR1.out x5_1 p249 q249
        cases e249
        replace p249 := eq_true p249
        replace q249 := eq_true q249
        go_wp2
        repeat (go_quiet (fail); try go_wp2)
        go_roundg k1
        case measure => have := HK1.out; omega
        case rel => exact ⟨(wrap64 (x5_1 + 1)), sR, H', ⟨by have := HK1.out; omega⟩, by repeat (first | exact Drawn0.refl _ | apply Drawn0.step)⟩
       ·rw [if_neg c7] at H
        have c7b0 : ((rd l0 x5_1) == (rd l1 x5_1)) = false := beq_eq_false_iff_ne.mpr c7
        have c7b1 : ((rd l0 x5_1) != (rd l1 x5_1)) = true := bne_iff_ne.mpr c7
        obtain rfl := Option.some.inj H
        have p248 : 0 ≤ (x5_1 : Int) := oD
        have q248 : x5_1 < (l0.length : Int) := oD
        obtain ⟨ad248, e248, hx248_0⟩ := Kd.at_int HR0.out x5_1 p248 q248
        cases e248
        replace p248 := eq_true p248
        replace q248 := eq_true q248
        have p249 : 0 ≤ (x5_1 : Int) := oD
        have q249 : x5_1 < (l1.length : Int) := oD
        obtain ⟨ad249, e249, hx249_0⟩ := Kd.at_int HR1.out x5_1 p249 q249
        cases e249
        replace p249 := eq_true p249
        replace q249 := eq_true q249
        go_wp2
        repeat (go_quiet (fail); try go_wp2)
        go_ret
        exact ⟨by first | rfl | (simp; done) | (simp [*]; done), by repeat (first | exact Drawn0.refl _ | apply Drawn0.step)⟩
      ·rw [if_neg c6] at H
       exact absurd H (by simp)
     ·rw [if_neg c5] at H
      exact absurd H (by simp)
    ·rw [if_neg c4] at H
     have c4b0 : decide (x5_1 < (l0.length : Int)) = false := decide_eq_false c4
     clear c4; obtain rfl := Option.some.inj H
     go_wp2
     repeat (go_quiet (fail); try go_wp2)
     go_ret
     exact ⟨by first | rfl | (simp; done) | (simp [*]; done), by repeat (first | exact Drawn0.refl _ | apply Drawn0.step)⟩
 ·rw [if_neg c3] at H
  have c3b0 : ((l0.length : Int) == (l1.length : Int)) = false := beq_eq_false_iff_ne.mpr c3
  have c3b1 : ((l0.length : Int) != (l1.length : Int)) = true := bne_iff_ne.mpr c3
  have c3b2 : (l0.length == l1.length) = false := by first | simpa using c3 | (simp at c3 ⊢; omega)
  obtain rfl := Option.some.inj H
  go_enter Try.func58, Try.ntmps58
  go_wp2
  repeat (go_quiet (fail); try go_wp2)
  go_ret
  exact ⟨by first | rfl | (simp; done) | (simp [*]; done), by repeat (first | exact Drawn0.refl _ | apply Drawn0.step)⟩
end Go.Proofs.Ytddebnchbbmbkaa.PFnExactRecall
