-- The machine side of a law: written by a program of this session (wip/tools), a turned print.
import Derived.Test.YtobkmpihjfiihaaDoorPFnCanonx0
import Derived.Test.YtobkmpihjfiihaaDoorPFnCanonx2
import Derived.Test.YtobkmpihjfiihaaDoorPFnCanonx3
namespace Go.Proofs.YtobkmpihjfiihaaDoor.PFnCanon
open Go.RowKit Go.Proofs.YtobkmpihjfiihaaDoorW.PrintWords Go.Proofs.YtobkmpihjfiihaaDoorW.PrintLast Go.Proofs.YtobkmpihjfiihaaDoorW.PrintMore
attribute [local go_sem] max2_int min2_int max_two min_two max_three min_three max_four min_four   -- for this text's walks alone
set_option linter.unusedVariables false
set_option linter.unusedSimpArgs false
mutual
def spec_Sha.l0 : Nat → ByteArray → List Int → List Int → List Int → Option (ByteArray)
 | 0, _, _, _, _ => none
 | k + 1, x0, x3, x4, x5 => if (Int.tmod (wrap64 ((x0.size : Int) + (x5.length : Int))) 64) = 56 then ((some (([0] : List Int) : List Int)).bind fun y193 => (if (strOfNums x5).size + (strOfNums y193).size ≤ 9223372036854775807 then ((spec_Fixed.f k (wrap64 (8 * (x0.size : Int))) 7).bind fun t196 => (if ((strOfNums x5) ++ (strOfNums y193)).size + t196.size ≤ 9223372036854775807 then (spec_Sha.l1 k x0 x3 x4 (((strOfNums x5) ++ (strOfNums y193)) ++ t196) (wrap64 ((wrap64 ((x0.size : Int) / 64)) * 64)) 0) else (none))) else (none))) else (if x5.length < 140737488355328 then (spec_Sha.l0 k x0 x3 x4 (x5 ++ [0])) else (none))
def spec_Sha.l1 : Nat → ByteArray → List Int → List Int → ByteArray → Int → Int → Option (ByteArray)
 | 0, _, _, _, _, _, _ => none
 | k + 1, x0, x3, x4, x6, x7, x8 => if x8 < x7 then (if 0 ≤ x8 then (if x8 ≤ (wrap64 (x8 + 64)) then (if (wrap64 (x8 + 64)) ≤ (x0.size : Int) then ((spec_l2Block.f k x3 x4 (x0.extract (x8 : Int).toNat ((wrap64 (x8 + 64)) : Int).toNat)).bind fun t197 => (spec_Sha.l1 k x0 t197 x4 x6 x7 (wrap64 (x8 + 64)))) else (none)) else (none)) else (none)) else (if 0 ≤ x7 then (if x7 ≤ (x0.size : Int) then (if (x0.extract (x7 : Int).toNat x0.size).size + x6.size ≤ 9223372036854775807 then (spec_Sha.l2 k x3 x4 ((x0.extract (x7 : Int).toNat x0.size) ++ x6) 0) else (none)) else (none)) else (none))
def spec_Sha.l2 : Nat → List Int → List Int → ByteArray → Int → Option (ByteArray)
 | 0, _, _, _, _ => none
 | k + 1, x3, x4, x9, x10 => if (wrap64 (x10 + 64)) ≤ (x9.size : Int) then (if 0 ≤ x10 then (if x10 ≤ (wrap64 (x10 + 64)) then ((spec_l2Block.f k x3 x4 (x9.extract (x10 : Int).toNat ((wrap64 (x10 + 64)) : Int).toNat)).bind fun t200 => (spec_Sha.l2 k t200 x4 x9 (wrap64 (x10 + 64)))) else (none)) else (none)) else (spec_Sha.l3 k x3 (⟨#[]⟩ : ByteArray) 0)
def spec_Sha.l3 : Nat → List Int → ByteArray → Int → Option (ByteArray)
 | 0, _, _, _ => none
 | k + 1, x3, x11, x12 => if x12 < 8 then (if 0 ≤ x12 then (if x12 < (x3.length : Int) then ((spec_Fixed.f k (wrap64 (rd x3 x12)) 4).bind fun t204 => (if x11.size + t204.size ≤ 9223372036854775807 then (spec_Sha.l3 k x3 (x11 ++ t204) (wrap64 (x12 + 1))) else (none))) else (none)) else (none)) else (some x11)
end
def spec_Sha.f (k : Nat) (a0 : ByteArray) : Option (ByteArray) := (spec_l2Begin.f).bind fun t181 => ((spec_l2Table.f).bind fun t184 => (spec_Sha.l0 k a0 t181 t184 (([128] : List Int))))
theorem spec_Sha.mono_l : ∀ k, (∀ y0 y1 y2 y3, LeO (spec_Sha.l0 k y0 y1 y2 y3) (spec_Sha.l0 (k + 1) y0 y1 y2 y3)) ∧ (∀ y0 y1 y2 y3 y4 y5, LeO (spec_Sha.l1 k y0 y1 y2 y3 y4 y5) (spec_Sha.l1 (k + 1) y0 y1 y2 y3 y4 y5)) ∧ (∀ y0 y1 y2 y3, LeO (spec_Sha.l2 k y0 y1 y2 y3) (spec_Sha.l2 (k + 1) y0 y1 y2 y3)) ∧ (∀ y0 y1 y2, LeO (spec_Sha.l3 k y0 y1 y2) (spec_Sha.l3 (k + 1) y0 y1 y2))
 | 0 => ⟨fun _ _ _ _ r h => by simp [spec_Sha.l0] at h, fun _ _ _ _ _ _ r h => by simp [spec_Sha.l1] at h, fun _ _ _ _ r h => by simp [spec_Sha.l2] at h, fun _ _ _ r h => by simp [spec_Sha.l3] at h⟩
 | k + 1 => by
  obtain ⟨ih0, ih1, ih2, ih3⟩ := spec_Sha.mono_l k
  refine ⟨?_, ?_, ?_, ?_⟩
  ·intro y0 y1 y2 y3
   unfold spec_Sha.l0
   repeat' first
   | (with_reducible exact ih0 _ _ _ _)
   | (with_reducible exact ih1 _ _ _ _ _ _)
   | (with_reducible exact ih2 _ _ _ _)
   | (with_reducible exact ih3 _ _ _)
   | (with_reducible exact spec_Fixed.mono _ _ _)
   | (with_reducible exact spec_l2Block.mono _ _ _ _)
   | (with_reducible exact LeO.refl _)
   | (with_reducible exact LeO.none _)
   | (with_reducible refine LeO.ite ?_ ?_)
   | (with_reducible refine LeO.bind ?_ (fun _ => ?_))
   | exact ih0 _ _ _ _
   | exact ih1 _ _ _ _ _ _
   | exact ih2 _ _ _ _
   | exact ih3 _ _ _
   | exact spec_Fixed.mono _ _ _
   | exact spec_l2Block.mono _ _ _ _
   | exact LeO.none _
   | refine LeO.ite ?_ ?_
   | refine LeO.bind ?_ (fun _ => ?_)
  ·intro y0 y1 y2 y3 y4 y5
   unfold spec_Sha.l1
   repeat' first
   | (with_reducible exact ih0 _ _ _ _)
   | (with_reducible exact ih1 _ _ _ _ _ _)
   | (with_reducible exact ih2 _ _ _ _)
   | (with_reducible exact ih3 _ _ _)
   | (with_reducible exact spec_Fixed.mono _ _ _)
   | (with_reducible exact spec_l2Block.mono _ _ _ _)
   | (with_reducible exact LeO.refl _)
   | (with_reducible exact LeO.none _)
   | (with_reducible refine LeO.ite ?_ ?_)
   | (with_reducible refine LeO.bind ?_ (fun _ => ?_))
   | exact ih0 _ _ _ _
   | exact ih1 _ _ _ _ _ _
   | exact ih2 _ _ _ _
   | exact ih3 _ _ _
   | exact spec_Fixed.mono _ _ _
   | exact spec_l2Block.mono _ _ _ _
   | exact LeO.none _
   | refine LeO.ite ?_ ?_
   | refine LeO.bind ?_ (fun _ => ?_)
  ·intro y0 y1 y2 y3
   unfold spec_Sha.l2
   repeat' first
   | (with_reducible exact ih0 _ _ _ _)
   | (with_reducible exact ih1 _ _ _ _ _ _)
   | (with_reducible exact ih2 _ _ _ _)
   | (with_reducible exact ih3 _ _ _)
   | (with_reducible exact spec_Fixed.mono _ _ _)
   | (with_reducible exact spec_l2Block.mono _ _ _ _)
   | (with_reducible exact LeO.refl _)
   | (with_reducible exact LeO.none _)
   | (with_reducible refine LeO.ite ?_ ?_)
   | (with_reducible refine LeO.bind ?_ (fun _ => ?_))
   | exact ih0 _ _ _ _
   | exact ih1 _ _ _ _ _ _
   | exact ih2 _ _ _ _
   | exact ih3 _ _ _
   | exact spec_Fixed.mono _ _ _
   | exact spec_l2Block.mono _ _ _ _
   | exact LeO.none _
   | refine LeO.ite ?_ ?_
   | refine LeO.bind ?_ (fun _ => ?_)
  ·intro y0 y1 y2
   unfold spec_Sha.l3
   repeat' first
   | (with_reducible exact ih0 _ _ _ _)
   | (with_reducible exact ih1 _ _ _ _ _ _)
   | (with_reducible exact ih2 _ _ _ _)
   | (with_reducible exact ih3 _ _ _)
   | (with_reducible exact spec_Fixed.mono _ _ _)
   | (with_reducible exact spec_l2Block.mono _ _ _ _)
   | (with_reducible exact LeO.refl _)
   | (with_reducible exact LeO.none _)
   | (with_reducible refine LeO.ite ?_ ?_)
   | (with_reducible refine LeO.bind ?_ (fun _ => ?_))
   | exact ih0 _ _ _ _
   | exact ih1 _ _ _ _ _ _
   | exact ih2 _ _ _ _
   | exact ih3 _ _ _
   | exact spec_Fixed.mono _ _ _
   | exact spec_l2Block.mono _ _ _ _
   | exact LeO.none _
   | refine LeO.ite ?_ ?_
   | refine LeO.bind ?_ (fun _ => ?_)
theorem spec_Sha.mono : ∀ a0 k, LeO (spec_Sha.f k a0) (spec_Sha.f (k + 1) a0) := by
 intro a0 k
 obtain ⟨ih0, ih1, ih2, ih3⟩ := spec_Sha.mono_l k
 unfold spec_Sha.f
 repeat' first
   | (with_reducible exact ih0 _ _ _ _)
   | (with_reducible exact ih1 _ _ _ _ _ _)
   | (with_reducible exact ih2 _ _ _ _)
   | (with_reducible exact ih3 _ _ _)
   | (with_reducible exact spec_Fixed.mono _ _ _)
   | (with_reducible exact spec_l2Block.mono _ _ _ _)
   | (with_reducible exact LeO.refl _)
   | (with_reducible exact LeO.none _)
   | (with_reducible refine LeO.ite ?_ ?_)
   | (with_reducible refine LeO.bind ?_ (fun _ => ?_))
   | exact ih0 _ _ _ _
   | exact ih1 _ _ _ _ _ _
   | exact ih2 _ _ _ _
   | exact ih3 _ _ _
   | exact spec_Fixed.mono _ _ _
   | exact spec_l2Block.mono _ _ _ _
   | exact LeO.none _
   | refine LeO.ite ?_ ?_
   | refine LeO.bind ?_ (fun _ => ?_)
def spec_Sha.T6 : Bool × List (List Nat × List Nat) := (true, [([], []), ([0], [0]), ([], []), ([2], [2]), ([1, 3], [1, 3]), ([], []), ([5], [5]), ([6], [6]), ([7], [7]), ([4, 8], [4, 8]), ([9, 8, 0, 1, 2, 3, 4, 5, 6, 7, 8, 9], [9])])
def spec_Sha.B6 : List Nat := [0, 1, 0, 4, 15, 0, 32, 96, 224, 511, 1023]
theorem spec_Sha.tab6 : rtab .any (opsOf Tryd.f9 6) = spec_Sha.T6 := by kernel_rfl
theorem spec_Sha.bits6 : waitsOk spec_Sha.T6.2 spec_Sha.B6 = true := by kernel_rfl
set_option maxHeartbeats 8000000 in
set_option maxRecDepth 100000 in
theorem spec_Sha.calls (k : Nat) (a0 : ByteArray) (r : ByteArray) (w : World) (h : spec_Sha.f k a0 = some r) :
  Calls Tryd.prog 9 #[.string a0] w fun e w' => e = .returned (.string r) ∧ Below w.heap.size w w' := by
 have HB := Aside0.mk (Below.refl w.heap.size w)
 have H : ((spec_l2Begin.f).bind fun t181 => ((spec_l2Table.f).bind fun t184 => (spec_Sha.l0 k a0 t181 t184 (([128] : List Int))))) = some r := h
 clear h; replace H := Option.bind_eq_some_iff.mp H
 obtain ⟨t181, A20, H⟩ := H
 replace H : ((spec_l2Table.f).bind fun t184 => (spec_Sha.l0 k a0 t181 t184 (([128] : List Int)))) = some r := H
 have A2 := Aside0.mk A20
 clear A20; replace H := Option.bind_eq_some_iff.mp H
 obtain ⟨t184, A30, H⟩ := H
 replace H : (spec_Sha.l0 k a0 t181 t184 (([128] : List Int))) = some r := H
 have A3 := Aside0.mk A30
 clear A30; obtain ⟨y187, hy187⟩ : ∃ y_ : List Int, y_ = (([128] : List Int)) := ⟨_, rfl⟩
 replace H : (spec_Sha.l0 k a0 t181 t184 y187) = some r := by first | (rw [hy187]; with_reducible exact H) | (have H2_ := (Option.bind_some _ _).symm.trans H; rw [hy187]; with_reducible exact H2_) | (have H2_ := (Option.bind_some _ _).symm.trans H; with_reducible exact H2_) | with_reducible exact H | (rw [hy187]; exact H) | exact H
 have Ny187 := Aside0.mk hy187
 clear hy187; have H' := Aside0.mk H
 clear H
 go_enter Tryd.func9, Tryd.ntmps9
 go_wp2_with (first | ((with_reducible refine gate_callee (f := 34) rfl ?_); refine goesC_ (some 13) Tryd.func34 #[] ?_; (with_reducible refine (spec_l2Begin.calls  t181 _ A2.out).mono ?_); rintro e w4 ⟨v182, rfl, ho0, hb⟩; refine ⟨_, rfl, ?_⟩; have f9a := Aside0.mk (Kd.R_lower ho0 (below_size (be HB))); replace HB := bh HB hb; (try clear hb); (try clear hb2); (try clear hk); (try clear hi)) | ((with_reducible refine gate_callee (f := 35) rfl ?_); refine goesC_ (some 14) Tryd.func35 #[] ?_; (with_reducible refine (spec_l2Table.calls  t184 _ A3.out).mono ?_); rintro e w5 ⟨v185, rfl, ho0, hb⟩; refine ⟨_, rfl, ?_⟩; have n0_ := Aside0.mk (Kd.R_elder' (rr f9a) (Kd.R_base ho0) hb); have HO186 := Aside0.mk (Kd.R_lower (Kd.R_new' ho0 (Kd.R_lt (rr f9a))) (below_size (be HB))); replace HB := bh HB hb; clear f9a; have f9a := n0_; clear n0_; (try clear hb); (try clear hb2); (try clear hk); (try clear hi)) | ((with_reducible refine gate_dst (N := 15) rfl ?_); refine Kd.R_lit (Kd.int .u8) _ 5 ?hg (N := 15) ?hd (xs := ([128] : List Int)) (inner := [.int .u8 128]) (ok := fun _ => True) (okp := fun _ => True) ?hr ?hp (fun _ hk => hk) trivial (Below.refl _ _) (Nat.le_refl _) (by simp) ?_; (case hd => rfl); (case hg => rfl); (case hr => first | (go_simp; done) | (go_simp; rfl)); (case hp => exact (Reps.one (show Kd.M (Kd.int .u8) _ _ _ 128 [.int .u8 128] from rfl) (Reps.none _ _))); intro v188 w6 ho7 hb hg_ hnew_; clear hg_ hnew_; (first | rw [← Ny187.out] at ho7 | (simp only [Int.reduceToNat] at ho7; rw [← Ny187.out] at ho7)); have HO189 := Aside0.mk (Kd.R_lower ho7 (below_size (be HB))); replace f9a := Aside0.mk (Kd.R_below (rr f9a) hb); replace HO186 := Aside0.mk (Kd.R_below (rr HO186) hb); replace HB := bh HB hb; clear hb ho7))
 go_loopg [5] k (fun kq v5 w' => ∃ (x5_1 : List Int), Aside0 (spec_Sha.l0 kq a0 t181 t184 x5_1 = some r) ∧ Aside0 (kq ≤ k) ∧ Aside0 (Kd.R (Kd.int .u32) 59 w' w.heap.size (fun k_ => some k_ ≠ (v185 : Value).ownBlock) v182 t181) ∧ Aside0 (Kd.R (Kd.int .u32) 59 w' w.heap.size (fun k_ => some k_ ≠ (v182 : Value).ownBlock) v185 t184) ∧ Aside0 (Kd.R (Kd.int .u8) 5 w' w.heap.size (fun _ => True) v5 x5_1) ∧ Aside0 (Below w.heap.size w w'))
 case atStart => exact ⟨(y187), H', ⟨Nat.le_refl _⟩, ⟨by (with_reducible repeat (first | apply Kd.R_alloc | apply Kd.R_drewN | apply Kd.R_drew)); exact Kd.R_mono f9a.out (fun _ hk => hk.2)⟩, ⟨by (with_reducible repeat (first | apply Kd.R_alloc | apply Kd.R_drewN | apply Kd.R_drew)); exact Kd.R_mono HO186.out (fun _ hk => hk.2)⟩, ⟨rr HO189⟩, ⟨by repeat (first | (with_reducible first | exact HB.out | apply below_alloc | apply pw_below_drewN | apply below_drew1) | exact HB.out)⟩⟩
 case round =>
  clear H'
  obtain ⟨x5_1, HA, HK1, HO_3, HO_4, HO_5, HB⟩ := hrel
  cases gk with
  | zero => exact absurd HA.out (by simp [spec_Sha.l0])
  | succ k1 =>
   have H := HA.out; clear HA; simp only [spec_Sha.l0] at H
   by_cases c8 : (Int.tmod (wrap64 ((a0.size : Int) + (x5_1.length : Int))) 64) = 56
   ·rw [if_pos c8] at H
    have c8b0 : ((Int.tmod (wrap64 ((a0.size : Int) + (x5_1.length : Int))) 64) == 56) = true := beq_iff_eq.mpr c8
    have c8b1 : ((Int.tmod (wrap64 ((a0.size : Int) + (x5_1.length : Int))) 64) != 56) = false := bne_eq_false_iff_eq.mpr c8
    clear c8; obtain ⟨y193, hy193⟩ : ∃ y_ : List Int, y_ = (([0] : List Int)) := ⟨_, rfl⟩
    replace H : (if (strOfNums x5_1).size + (strOfNums y193).size ≤ 9223372036854775807 then ((spec_Fixed.f k1 (wrap64 (8 * (a0.size : Int))) 7).bind fun t196 => (if ((strOfNums x5_1) ++ (strOfNums y193)).size + t196.size ≤ 9223372036854775807 then (spec_Sha.l1 k1 a0 t181 t184 (((strOfNums x5_1) ++ (strOfNums y193)) ++ t196) (wrap64 ((wrap64 ((a0.size : Int) / 64)) * 64)) 0) else (none))) else (none)) = some r := by first | (rw [hy193]; with_reducible exact H) | (have H2_ := (Option.bind_some _ _).symm.trans H; rw [hy193]; with_reducible exact H2_) | (have H2_ := (Option.bind_some _ _).symm.trans H; with_reducible exact H2_) | with_reducible exact H | (rw [hy193]; exact H) | exact H
    have e9a := Aside0.mk hy193
    clear hy193
    by_cases c9 : (strOfNums x5_1).size + (strOfNums y193).size ≤ 9223372036854775807
    ·rw [if_pos c9] at H
     have c9b0 := eq_true c9
     have c9b1 : decide ((strOfNums x5_1).size + (strOfNums y193).size ≤ 9223372036854775807) = true := decide_eq_true c9
     try have c9b2 : (9223372036854775807 < (strOfNums x5_1).size + (strOfNums y193).size) = False := eq_false (Nat.not_lt.2 c9)
     replace H := Option.bind_eq_some_iff.mp H
     obtain ⟨t196, A100, H⟩ := H
     replace H : (if ((strOfNums x5_1) ++ (strOfNums y193)).size + t196.size ≤ 9223372036854775807 then (spec_Sha.l1 k1 a0 t181 t184 (((strOfNums x5_1) ++ (strOfNums y193)) ++ t196) (wrap64 ((wrap64 ((a0.size : Int) / 64)) * 64)) 0) else (none)) = some r := H
     have A10 := Aside0.mk A100
     clear A100
     by_cases c11 : ((strOfNums x5_1) ++ (strOfNums y193)).size + t196.size ≤ 9223372036854775807
     ·rw [if_pos c11] at H
      have c11b0 := eq_true c11
      have c11b1 : decide (((strOfNums x5_1) ++ (strOfNums y193)).size + t196.size ≤ 9223372036854775807) = true := decide_eq_true c11
      try have c11b2 : (9223372036854775807 < ((strOfNums x5_1) ++ (strOfNums y193)).size + t196.size) = False := eq_false (Nat.not_lt.2 c11)
      try have c11b6 : (9223372036854775807 < ((strOfNums x5_1).size + (strOfNums y193).size) + t196.size) = False := eq_false (by have h_ := c11; simp only [ByteArray.size_append] at h_; omega)
      have H' := Aside0.mk H
      clear H; obtain ⟨Ao12, co12, eo12⟩ := Kd.R_slice HO_5.out
      subst eo12
      try go_wp2
      have n0_ := Aside0.mk (Kd.R_drew HO_3.out)
      have n1_ := Aside0.mk (Kd.R_drew HO_4.out)
      have n2_ := Aside0.mk (Kd.R_drew HO_5.out)
      have n3_ := Aside0.mk (below_drew1 HB.out)
      clear HO_3 HO_4 HO_5 HB; have HO_3 := n0_; have HO_4 := n1_; have HO_5 := n2_; have HB := n3_; clear n0_ n1_ n2_ n3_; refine start_ (n := 11) (S := fun w' => True) (ds := []) #[ff,ff,ff,ff,ff,ff,ff,ff,ff,ff,ff] (by kernel_rfl) rfl rfl trivial (fun hHeld => ?_); refine with_tabW spec_Sha.tab6 spec_Sha.bits6 (fun HT_ HW_ => ?_)
      generalize wr.drew = w13 at HO_3 HO_4 HO_5 HB hHeld ⊢
      refine pu 0 26 (tb 11 1) HT_ ?_
      refine pu 5 31 (tb 11 33) HT_ ?_
      refine pu 6 32 (tb 11 97) HT_ ?_
      refine pu 7 33 (tb 11 225) HT_ ?_
      refine join_ (σ := Value) 2 #[tt,tt,tt,tt,tt,tt,tt,tt,tt,ff,ff] (fun s_ => [(27, .string (strOfNums x5_1)), (28, s_), (29, .string (strOfNums y193)), (34, .string t196), (30, .string ((strOfNums x5_1) ++ (strOfNums y193)))]) (fun s_ w' => (Kd.R (Kd.int .u8) 5 w' w.heap.size (fun k_ => some k_ ≠ (.slice Ao12 x5_1.length co12 : Value).ownBlock) s_ y193) ∧ (Kd.R (Kd.int .u32) 59 w' w.heap.size (fun k_ => some k_ ≠ (v185 : Value).ownBlock) v182 t181) ∧ (Kd.R (Kd.int .u32) 59 w' w.heap.size (fun k_ => some k_ ≠ (v182 : Value).ownBlock) v185 t184) ∧ (Kd.R (Kd.int .u8) 5 w' w.heap.size (fun k_ => some k_ ≠ (s_ : Value).ownBlock) (.slice Ao12 x5_1.length co12) x5_1) ∧ (Below w.heap.size w w')) ?_ ?_
      rotate_left
      ·intro hJ1_2_3_8; refine join_ (σ := Value) 3 #[tt,tt,tt,tt,tt,tt,tt,tt,ff,ff,ff] (fun s_ => [(27, .string (strOfNums x5_1)), (28, s_), (29, .string (strOfNums y193)), (30, .string ((strOfNums x5_1) ++ (strOfNums y193)))]) (fun s_ w' => (Kd.R (Kd.int .u8) 5 w' w.heap.size (fun k_ => some k_ ≠ (.slice Ao12 x5_1.length co12 : Value).ownBlock) s_ y193) ∧ (Kd.R (Kd.int .u32) 59 w' w.heap.size (fun k_ => some k_ ≠ (v185 : Value).ownBlock) v182 t181) ∧ (Kd.R (Kd.int .u32) 59 w' w.heap.size (fun k_ => some k_ ≠ (v182 : Value).ownBlock) v185 t184) ∧ (Kd.R (Kd.int .u8) 5 w' w.heap.size (fun k_ => some k_ ≠ (s_ : Value).ownBlock) (.slice Ao12 x5_1.length co12) x5_1) ∧ (Below w.heap.size w w')) ?_ ?_
       rotate_left
       ·intro hJ1_2_3; refine join_ (σ := Value) 4 #[tt,tt,tt,ff,ff,tt,tt,tt,tt,ff,ff] (fun s_ => [(27, .string (strOfNums x5_1)), (28, s_), (34, .string t196)]) (fun s_ w' => (Kd.R (Kd.int .u8) 5 w' w.heap.size (fun k_ => some k_ ≠ (.slice Ao12 x5_1.length co12 : Value).ownBlock) s_ y193) ∧ (Kd.R (Kd.int .u32) 59 w' w.heap.size (fun k_ => some k_ ≠ (v185 : Value).ownBlock) v182 t181) ∧ (Kd.R (Kd.int .u32) 59 w' w.heap.size (fun k_ => some k_ ≠ (v182 : Value).ownBlock) v185 t184) ∧ (Kd.R (Kd.int .u8) 5 w' w.heap.size (fun k_ => some k_ ≠ (s_ : Value).ownBlock) (.slice Ao12 x5_1.length co12) x5_1) ∧ (Below w.heap.size w w')) ?_ ?_
        rotate_left
        ·intro hJ1_2_8; refine join_ (σ := Value) 4 #[tt,ff,tt,tt,ff,tt,tt,tt,tt,ff,ff] (fun s_ => [(28, s_), (29, .string (strOfNums y193)), (34, .string t196)]) (fun s_ w' => (Kd.R (Kd.int .u8) 5 w' w.heap.size (fun k_ => some k_ ≠ (.slice Ao12 x5_1.length co12 : Value).ownBlock) s_ y193) ∧ (Kd.R (Kd.int .u32) 59 w' w.heap.size (fun k_ => some k_ ≠ (v185 : Value).ownBlock) v182 t181) ∧ (Kd.R (Kd.int .u32) 59 w' w.heap.size (fun k_ => some k_ ≠ (v182 : Value).ownBlock) v185 t184) ∧ (Kd.R (Kd.int .u8) 5 w' w.heap.size (fun k_ => some k_ ≠ (s_ : Value).ownBlock) (.slice Ao12 x5_1.length co12) x5_1) ∧ (Below w.heap.size w w')) ?_ ?_
         rotate_left
         ·intro hJ2_3_8; refine join_ (σ := Value) 5 #[tt,tt,tt,ff,ff,tt,tt,tt,ff,ff,ff] (fun s_ => [(27, .string (strOfNums x5_1)), (28, s_)]) (fun s_ w' => (Kd.R (Kd.int .u8) 5 w' w.heap.size (fun k_ => some k_ ≠ (.slice Ao12 x5_1.length co12 : Value).ownBlock) s_ y193) ∧ (Kd.R (Kd.int .u32) 59 w' w.heap.size (fun k_ => some k_ ≠ (v185 : Value).ownBlock) v182 t181) ∧ (Kd.R (Kd.int .u32) 59 w' w.heap.size (fun k_ => some k_ ≠ (v182 : Value).ownBlock) v185 t184) ∧ (Kd.R (Kd.int .u8) 5 w' w.heap.size (fun k_ => some k_ ≠ (s_ : Value).ownBlock) (.slice Ao12 x5_1.length co12) x5_1) ∧ (Below w.heap.size w w')) ?_ ?_
          rotate_left
          ·intro hJ1_2; refine join_ (σ := Unit) 5 #[tt,tt,ff,ff,ff,tt,tt,tt,tt,ff,ff] (fun s_ => [(27, .string (strOfNums x5_1)), (34, .string t196)]) (fun s_ w' => (Kd.R (Kd.int .u32) 59 w' w.heap.size (fun k_ => some k_ ≠ (v185 : Value).ownBlock) v182 t181) ∧ (Kd.R (Kd.int .u32) 59 w' w.heap.size (fun k_ => some k_ ≠ (v182 : Value).ownBlock) v185 t184) ∧ (Kd.R (Kd.int .u8) 5 w' w.heap.size (fun _ => True) (.slice Ao12 x5_1.length co12) x5_1) ∧ (Below w.heap.size w w')) ?_ ?_
           rotate_left
           ·intro hJ1_8; refine join_ (σ := Value) 5 #[tt,ff,tt,tt,ff,tt,tt,tt,ff,ff,ff] (fun s_ => [(28, s_), (29, .string (strOfNums y193))]) (fun s_ w' => (Kd.R (Kd.int .u8) 5 w' w.heap.size (fun k_ => some k_ ≠ (.slice Ao12 x5_1.length co12 : Value).ownBlock) s_ y193) ∧ (Kd.R (Kd.int .u32) 59 w' w.heap.size (fun k_ => some k_ ≠ (v185 : Value).ownBlock) v182 t181) ∧ (Kd.R (Kd.int .u32) 59 w' w.heap.size (fun k_ => some k_ ≠ (v182 : Value).ownBlock) v185 t184) ∧ (Kd.R (Kd.int .u8) 5 w' w.heap.size (fun k_ => some k_ ≠ (s_ : Value).ownBlock) (.slice Ao12 x5_1.length co12) x5_1) ∧ (Below w.heap.size w w')) ?_ ?_
            rotate_left
            ·intro hJ2_3; refine join_ (σ := Value) 5 #[tt,ff,tt,ff,ff,tt,tt,tt,tt,ff,ff] (fun s_ => [(28, s_), (34, .string t196)]) (fun s_ w' => (Kd.R (Kd.int .u8) 5 w' w.heap.size (fun k_ => some k_ ≠ (.slice Ao12 x5_1.length co12 : Value).ownBlock) s_ y193) ∧ (Kd.R (Kd.int .u32) 59 w' w.heap.size (fun k_ => some k_ ≠ (v185 : Value).ownBlock) v182 t181) ∧ (Kd.R (Kd.int .u32) 59 w' w.heap.size (fun k_ => some k_ ≠ (v182 : Value).ownBlock) v185 t184) ∧ (Kd.R (Kd.int .u8) 5 w' w.heap.size (fun k_ => some k_ ≠ (s_ : Value).ownBlock) (.slice Ao12 x5_1.length co12) x5_1) ∧ (Below w.heap.size w w')) ?_ ?_
             rotate_left
             ·intro hJ2_8; refine join_ (σ := Unit) 6 #[tt,tt,ff,ff,ff,tt,tt,tt,ff,ff,ff] (fun s_ => [(27, .string (strOfNums x5_1))]) (fun s_ w' => (Kd.R (Kd.int .u32) 59 w' w.heap.size (fun k_ => some k_ ≠ (v185 : Value).ownBlock) v182 t181) ∧ (Kd.R (Kd.int .u32) 59 w' w.heap.size (fun k_ => some k_ ≠ (v182 : Value).ownBlock) v185 t184) ∧ (Kd.R (Kd.int .u8) 5 w' w.heap.size (fun _ => True) (.slice Ao12 x5_1.length co12) x5_1) ∧ (Below w.heap.size w w')) ?_ ?_
              rotate_left
              ·intro hJ1; refine join_ (σ := Value) 6 #[tt,ff,tt,ff,ff,tt,tt,tt,ff,ff,ff] (fun s_ => [(28, s_)]) (fun s_ w' => (Kd.R (Kd.int .u8) 5 w' w.heap.size (fun k_ => some k_ ≠ (.slice Ao12 x5_1.length co12 : Value).ownBlock) s_ y193) ∧ (Kd.R (Kd.int .u32) 59 w' w.heap.size (fun k_ => some k_ ≠ (v185 : Value).ownBlock) v182 t181) ∧ (Kd.R (Kd.int .u32) 59 w' w.heap.size (fun k_ => some k_ ≠ (v182 : Value).ownBlock) v185 t184) ∧ (Kd.R (Kd.int .u8) 5 w' w.heap.size (fun k_ => some k_ ≠ (s_ : Value).ownBlock) (.slice Ao12 x5_1.length co12) x5_1) ∧ (Below w.heap.size w w')) ?_ ?_
               rotate_left
               ·intro hJ2; refine join_ (σ := Unit) 6 #[tt,ff,ff,ff,ff,tt,tt,tt,tt,ff,ff] (fun s_ => [(34, .string t196)]) (fun s_ w' => (Kd.R (Kd.int .u32) 59 w' w.heap.size (fun k_ => some k_ ≠ (v185 : Value).ownBlock) v182 t181) ∧ (Kd.R (Kd.int .u32) 59 w' w.heap.size (fun k_ => some k_ ≠ (v182 : Value).ownBlock) v185 t184) ∧ (Kd.R (Kd.int .u8) 5 w' w.heap.size (fun _ => True) (.slice Ao12 x5_1.length co12) x5_1) ∧ (Below w.heap.size w w')) ?_ ?_
                rotate_left
                ·intro hJ8; refine three_ (i := 1) (j := 2) (k := 8) (Ni := some 27) (Nj := some 28) (Nk := some 34) #[tt,tt,ff,ff,ff,tt,tt,tt,ff,ff,ff] #[tt,ff,tt,ff,ff,tt,tt,tt,ff,ff,ff] #[tt,ff,ff,ff,ff,tt,tt,tt,tt,ff,ff] rfl rfl rfl rfl rfl rfl (three_of HT_.out (by kernel_rfl)) (by decide) (by decide) (by decide) (fun K hK => ?_) (fun K hK => ?_) (fun K hK => ?_)
                 ·skip
                  have hcv14 := own_string (P := Tryd.prog) Tryd.underlying24 Tryd.underlying5 Tryd.underlying9 (Kd.own_of_R HO_5.out)
                  refine value_ (w1 := ?_) (v := ?_) (by rfl) rfl ?_ ?_
                  rotate_left 2
                  ·go_simp
                   constructor
                   ·rfl
                   ·rfl
                  clear hcv14; refine hK.out _ _ trivial (fun hHeld => ?_)
                  clear hK K; refine norm_ (a' := ?_) ?_ ?_
                  rotate_left
                  ·show Act.put _ (some 27) _ = _
                   simp only [putL, i64_w, i32_w]; rfl
                  exact norm_ (by first | (simp only [putAll, putL]; done) | (simp only [putAll, putL]; rfl)) (hJ1 () _ ⟨(rr HO_3), (rr HO_4), (rr HO_5), (be HB)⟩)
                 ·skip
                  refine Kd.R_lit_step (Kd.int .u8) _ 5 ?hg (N := 28) ?hd (xs := ([0] : List Int)) (inner := [.int .u8 0]) (ok := fun _ => True) (okp := fun _ => True) ?hr ?hp (fun _ hk => hk) trivial (Below.refl _ _) (Nat.le_refl _) (by simp) ?_; (case hd => rfl); (case hg => rfl); (case hr => first | (go_simp; done) | (go_simp; rfl)); (case hp => exact (Reps.one (show Kd.M (Kd.int .u8) _ _ _ 0 [.int .u8 0] from rfl) (Reps.none _ _)))
                  intro v194 w14 ho15 hb hg_ hnew_
                  clear hg_ hnew_
                  (first | rw [← e9a.out] at ho15 | (simp only [Int.reduceToNat] at ho15; rw [← e9a.out] at ho15))
                  have n2_ := Aside0.mk (Kd.R_elder' (rr HO_5) (Kd.R_base ho15) hb)
                  have a9a := Aside0.mk (Kd.R_lower (Kd.R_new' ho15 (Kd.R_lt (rr HO_5))) (below_size (be HB)))
                  replace HO_3 := Aside0.mk (Kd.R_below (rr HO_3) hb); replace HO_4 := Aside0.mk (Kd.R_below (rr HO_4) hb); replace HB := bh HB hb
                  clear HO_5; have HO_5 := n2_; clear n2_; clear hb ho15; refine hK.out _ _ trivial (fun hHeld => ?_)
                  clear hK K; refine norm_ (a' := ?_) ?_ ?_
                  rotate_left
                  ·show Act.put _ (some 28) _ = _
                   simp only [putL, i64_w, i32_w]; rfl
                  exact norm_ (by first | (simp only [putAll, putL]; done) | (simp only [putAll, putL]; rfl)) (hJ2 (v194) _ ⟨(by (with_reducible repeat (first | apply Kd.R_alloc | apply Kd.R_drewN | apply Kd.R_drew)); exact Kd.R_mono a9a.out (fun _ hk => hk.2)), (rr HO_3), (rr HO_4), (by (with_reducible repeat (first | apply Kd.R_alloc | apply Kd.R_drewN | apply Kd.R_drew)); exact Kd.R_mono HO_5.out (fun _ hk => hk.2)), (be HB)⟩)
                 ·skip
                  refine goes_ Tryd.func36 (by kernel_rfl) rfl #[.int .i64 (wrap64 (8 * (a0.size : Int))), .int .i64 7] (by rfl) rfl rfl (by (try simp only [List.map_toArray, List.map_cons, List.map_nil]); first | done | rfl | (simp only [List.length_drop, List.length_take]; rfl)) ?_
                  with_reducible refine (spec_Fixed.calls k1 (wrap64 (8 * (a0.size : Int))) 7 t196 _ A10.out).mono ?_
                  rintro e w14 ⟨rfl, hb⟩
                  refine ⟨_, rfl, ?_⟩
                  replace HO_3 := Aside0.mk (Kd.R_below (rr HO_3) hb); replace HO_4 := Aside0.mk (Kd.R_below (rr HO_4) hb); replace HO_5 := Aside0.mk (Kd.R_below (rr HO_5) hb); replace HB := bh HB hb
                  (try clear hb); (try clear hb2); (try clear hk); (try clear hi); refine hK.out _ _ trivial (fun hHeld => ?_)
                  clear hK K; refine norm_ (a' := ?_) ?_ ?_
                  rotate_left
                  ·show Act.put _ (some 34) _ = _
                   simp only [putL, i64_w, i32_w]; rfl
                  exact norm_ (by first | (simp only [putAll, putL]; done) | (simp only [putAll, putL]; rfl)) (hJ8 () _ ⟨(rr HO_3), (rr HO_4), (rr HO_5), (be HB)⟩)
                ·skip
                 rintro _ w15 ⟨h0_, h1_, h2_, h3_⟩
                 have n0_ : Aside0 (Kd.R (Kd.int .u32) 59 w15 w.heap.size (fun k_ => some k_ ≠ (v185 : Value).ownBlock) v182 t181) := ⟨h0_⟩
                 have n1_ : Aside0 (Kd.R (Kd.int .u32) 59 w15 w.heap.size (fun k_ => some k_ ≠ (v182 : Value).ownBlock) v185 t184) := ⟨h1_⟩
                 have n2_ : Aside0 (Kd.R (Kd.int .u8) 5 w15 w.heap.size (fun _ => True) (.slice Ao12 x5_1.length co12) x5_1) := ⟨h2_⟩
                 have n3_ : Aside0 (Below w.heap.size w w15) := ⟨h3_⟩
                 clear HO_3; clear HO_4; clear HO_5; clear HB; clear h0_ h1_ h2_ h3_; have HO_3 := n0_; have HO_4 := n1_; have HO_5 := n2_; have HB := n3_; clear n0_ n1_ n2_ n3_; have hHeld := trivial
                 refine norm_ (a' := ?_) ?_ ?_
                 rotate_left
                 ·simp only [putAll, putL]; rfl
                 refine two_ (i := 1) (j := 2) (Ni := some 27) (Nj := some 28) #[tt,tt,ff,ff,ff,tt,tt,tt,tt,ff,ff] #[tt,ff,tt,ff,ff,tt,tt,tt,tt,ff,ff] rfl rfl rfl rfl (two_of HT_.out (by kernel_rfl)) (by decide) (by decide) (fun K hK => ?_) (fun K hK => ?_)
                 ·skip
                  have hcv16 := own_string (P := Tryd.prog) Tryd.underlying24 Tryd.underlying5 Tryd.underlying9 (Kd.own_of_R HO_5.out)
                  refine value_ (w1 := ?_) (v := ?_) (by rfl) rfl ?_ ?_
                  rotate_left 2
                  ·go_simp
                   constructor
                   ·rfl
                   ·rfl
                  clear hcv16; refine hK.out _ _ trivial (fun hHeld => ?_)
                  clear hK K; refine norm_ (a' := ?_) ?_ ?_
                  rotate_left
                  ·show Act.put _ (some 27) _ = _
                   simp only [putL, i64_w, i32_w]; rfl
                  exact norm_ (by first | (simp only [putAll, putL]; done) | (simp only [putAll, putL]; rfl)) (hJ1_8 () _ ⟨(rr HO_3), (rr HO_4), (rr HO_5), (be HB)⟩)
                 ·skip
                  refine Kd.R_lit_step (Kd.int .u8) _ 5 ?hg (N := 28) ?hd (xs := ([0] : List Int)) (inner := [.int .u8 0]) (ok := fun _ => True) (okp := fun _ => True) ?hr ?hp (fun _ hk => hk) trivial (Below.refl _ _) (Nat.le_refl _) (by simp) ?_; (case hd => rfl); (case hg => rfl); (case hr => first | (go_simp; done) | (go_simp; rfl)); (case hp => exact (Reps.one (show Kd.M (Kd.int .u8) _ _ _ 0 [.int .u8 0] from rfl) (Reps.none _ _)))
                  intro v194 w16 ho17 hb hg_ hnew_
                  clear hg_ hnew_
                  (first | rw [← e9a.out] at ho17 | (simp only [Int.reduceToNat] at ho17; rw [← e9a.out] at ho17))
                  have n2_ := Aside0.mk (Kd.R_elder' (rr HO_5) (Kd.R_base ho17) hb)
                  have a9a := Aside0.mk (Kd.R_lower (Kd.R_new' ho17 (Kd.R_lt (rr HO_5))) (below_size (be HB)))
                  replace HO_3 := Aside0.mk (Kd.R_below (rr HO_3) hb); replace HO_4 := Aside0.mk (Kd.R_below (rr HO_4) hb); replace HB := bh HB hb
                  clear HO_5; have HO_5 := n2_; clear n2_; clear hb ho17; refine hK.out _ _ trivial (fun hHeld => ?_)
                  clear hK K; refine norm_ (a' := ?_) ?_ ?_
                  rotate_left
                  ·show Act.put _ (some 28) _ = _
                   simp only [putL, i64_w, i32_w]; rfl
                  exact norm_ (by first | (simp only [putAll, putL]; done) | (simp only [putAll, putL]; rfl)) (hJ2_8 (v194) _ ⟨(by (with_reducible repeat (first | apply Kd.R_alloc | apply Kd.R_drewN | apply Kd.R_drew)); exact Kd.R_mono a9a.out (fun _ hk => hk.2)), (rr HO_3), (rr HO_4), (by (with_reducible repeat (first | apply Kd.R_alloc | apply Kd.R_drewN | apply Kd.R_drew)); exact Kd.R_mono HO_5.out (fun _ hk => hk.2)), (be HB)⟩)
               ·skip
                rintro v194 w16 ⟨h0_, h1_, h2_, h3_, h4_⟩
                have n0_ : Aside0 (Kd.R (Kd.int .u8) 5 w16 w.heap.size (fun k_ => some k_ ≠ (.slice Ao12 x5_1.length co12 : Value).ownBlock) v194 y193) := ⟨h0_⟩
                have n1_ : Aside0 (Kd.R (Kd.int .u32) 59 w16 w.heap.size (fun k_ => some k_ ≠ (v185 : Value).ownBlock) v182 t181) := ⟨h1_⟩
                have n2_ : Aside0 (Kd.R (Kd.int .u32) 59 w16 w.heap.size (fun k_ => some k_ ≠ (v182 : Value).ownBlock) v185 t184) := ⟨h2_⟩
                have n3_ : Aside0 (Kd.R (Kd.int .u8) 5 w16 w.heap.size (fun k_ => some k_ ≠ (v194 : Value).ownBlock) (.slice Ao12 x5_1.length co12) x5_1) := ⟨h3_⟩
                have n4_ : Aside0 (Below w.heap.size w w16) := ⟨h4_⟩
                clear HO_3; clear HO_4; clear HO_5; clear HB; clear h0_ h1_ h2_ h3_ h4_; have a9a := n0_; have HO_3 := n1_; have HO_4 := n2_; have HO_5 := n3_; have HB := n4_; clear n0_ n1_ n2_ n3_ n4_; have hHeld := trivial
                refine norm_ (a' := ?_) ?_ ?_
                rotate_left
                ·simp only [putAll, putL]; rfl
                refine three_ (i := 1) (j := 3) (k := 8) (Ni := some 27) (Nj := some 29) (Nk := some 34) #[tt,tt,tt,ff,ff,tt,tt,tt,ff,ff,ff] #[tt,ff,tt,tt,ff,tt,tt,tt,ff,ff,ff] #[tt,ff,tt,ff,ff,tt,tt,tt,tt,ff,ff] rfl rfl rfl rfl rfl rfl (three_of HT_.out (by kernel_rfl)) (by decide) (by decide) (by decide) (fun K hK => ?_) (fun K hK => ?_) (fun K hK => ?_)
                ·skip
                 have hcv17 := own_string (P := Tryd.prog) Tryd.underlying24 Tryd.underlying5 Tryd.underlying9 (Kd.own_of_R HO_5.out)
                 refine value_ (w1 := ?_) (v := ?_) (by rfl) rfl ?_ ?_
                 rotate_left 2
                 ·go_simp
                  constructor
                  ·rfl
                  ·rfl
                 clear hcv17; refine hK.out _ _ trivial (fun hHeld => ?_)
                 clear hK K; refine norm_ (a' := ?_) ?_ ?_
                 rotate_left
                 ·show Act.put _ (some 27) _ = _
                  simp only [putL, i64_w, i32_w]; rfl
                 exact norm_ (by first | (simp only [putAll, putL]; done) | (simp only [putAll, putL]; rfl)) (hJ1_2 (v194) _ ⟨(rr a9a), (rr HO_3), (rr HO_4), (rr HO_5), (be HB)⟩)
                ·skip
                 have hcv17 := own_string (P := Tryd.prog) Tryd.underlying24 Tryd.underlying5 Tryd.underlying9 (Kd.own_of_R a9a.out)
                 refine value_ (w1 := ?_) (v := ?_) (by rfl) rfl ?_ ?_
                 rotate_left 2
                 ·go_simp
                  constructor
                  ·rfl
                  ·rfl
                 clear hcv17; refine hK.out _ _ trivial (fun hHeld => ?_)
                 clear hK K; refine norm_ (a' := ?_) ?_ ?_
                 rotate_left
                 ·show Act.put _ (some 29) _ = _
                  simp only [putL, i64_w, i32_w]; rfl
                 exact norm_ (by first | (simp only [putAll, putL]; done) | (simp only [putAll, putL]; rfl)) (hJ2_3 (v194) _ ⟨(rr a9a), (rr HO_3), (rr HO_4), (rr HO_5), (be HB)⟩)
                ·skip
                 refine goes_ Tryd.func36 (by kernel_rfl) rfl #[.int .i64 (wrap64 (8 * (a0.size : Int))), .int .i64 7] (by rfl) rfl rfl (by (try simp only [List.map_toArray, List.map_cons, List.map_nil]); first | done | rfl | (simp only [List.length_drop, List.length_take]; rfl)) ?_
                 with_reducible refine (spec_Fixed.calls k1 (wrap64 (8 * (a0.size : Int))) 7 t196 _ A10.out).mono ?_
                 rintro e w17 ⟨rfl, hb⟩
                 refine ⟨_, rfl, ?_⟩
                 replace HO_3 := Aside0.mk (Kd.R_below (rr HO_3) hb); replace HO_4 := Aside0.mk (Kd.R_below (rr HO_4) hb); replace HO_5 := Aside0.mk (Kd.R_below (rr HO_5) hb); replace a9a := Aside0.mk (Kd.R_below (rr a9a) hb); replace HB := bh HB hb
                 (try clear hb); (try clear hb2); (try clear hk); (try clear hi); refine hK.out _ _ trivial (fun hHeld => ?_)
                 clear hK K; refine norm_ (a' := ?_) ?_ ?_
                 rotate_left
                 ·show Act.put _ (some 34) _ = _
                  simp only [putL, i64_w, i32_w]; rfl
                 exact norm_ (by first | (simp only [putAll, putL]; done) | (simp only [putAll, putL]; rfl)) (hJ2_8 (v194) _ ⟨(rr a9a), (rr HO_3), (rr HO_4), (rr HO_5), (be HB)⟩)
              ·skip
               rintro _ w15 ⟨h0_, h1_, h2_, h3_⟩
               have n0_ : Aside0 (Kd.R (Kd.int .u32) 59 w15 w.heap.size (fun k_ => some k_ ≠ (v185 : Value).ownBlock) v182 t181) := ⟨h0_⟩
               have n1_ : Aside0 (Kd.R (Kd.int .u32) 59 w15 w.heap.size (fun k_ => some k_ ≠ (v182 : Value).ownBlock) v185 t184) := ⟨h1_⟩
               have n2_ : Aside0 (Kd.R (Kd.int .u8) 5 w15 w.heap.size (fun _ => True) (.slice Ao12 x5_1.length co12) x5_1) := ⟨h2_⟩
               have n3_ : Aside0 (Below w.heap.size w w15) := ⟨h3_⟩
               clear HO_3; clear HO_4; clear HO_5; clear HB; clear h0_ h1_ h2_ h3_; have HO_3 := n0_; have HO_4 := n1_; have HO_5 := n2_; have HB := n3_; clear n0_ n1_ n2_ n3_; have hHeld := trivial
               refine norm_ (a' := ?_) ?_ ?_
               rotate_left
               ·simp only [putAll, putL]; rfl
               refine two_ (i := 2) (j := 8) (Ni := some 28) (Nj := some 34) #[tt,tt,tt,ff,ff,tt,tt,tt,ff,ff,ff] #[tt,tt,ff,ff,ff,tt,tt,tt,tt,ff,ff] rfl rfl rfl rfl (two_of HT_.out (by kernel_rfl)) (by decide) (by decide) (fun K hK => ?_) (fun K hK => ?_)
               ·skip
                refine Kd.R_lit_step (Kd.int .u8) _ 5 ?hg (N := 28) ?hd (xs := ([0] : List Int)) (inner := [.int .u8 0]) (ok := fun _ => True) (okp := fun _ => True) ?hr ?hp (fun _ hk => hk) trivial (Below.refl _ _) (Nat.le_refl _) (by simp) ?_; (case hd => rfl); (case hg => rfl); (case hr => first | (go_simp; done) | (go_simp; rfl)); (case hp => exact (Reps.one (show Kd.M (Kd.int .u8) _ _ _ 0 [.int .u8 0] from rfl) (Reps.none _ _)))
                intro v194 w16 ho17 hb hg_ hnew_
                clear hg_ hnew_
                (first | rw [← e9a.out] at ho17 | (simp only [Int.reduceToNat] at ho17; rw [← e9a.out] at ho17))
                have n2_ := Aside0.mk (Kd.R_elder' (rr HO_5) (Kd.R_base ho17) hb)
                have a9a := Aside0.mk (Kd.R_lower (Kd.R_new' ho17 (Kd.R_lt (rr HO_5))) (below_size (be HB)))
                replace HO_3 := Aside0.mk (Kd.R_below (rr HO_3) hb); replace HO_4 := Aside0.mk (Kd.R_below (rr HO_4) hb); replace HB := bh HB hb
                clear HO_5; have HO_5 := n2_; clear n2_; clear hb ho17; refine hK.out _ _ trivial (fun hHeld => ?_)
                clear hK K; refine norm_ (a' := ?_) ?_ ?_
                rotate_left
                ·show Act.put _ (some 28) _ = _
                 simp only [putL, i64_w, i32_w]; rfl
                exact norm_ (by first | (simp only [putAll, putL]; done) | (simp only [putAll, putL]; rfl)) (hJ1_2 (v194) _ ⟨(by (with_reducible repeat (first | apply Kd.R_alloc | apply Kd.R_drewN | apply Kd.R_drew)); exact Kd.R_mono a9a.out (fun _ hk => hk.2)), (rr HO_3), (rr HO_4), (by (with_reducible repeat (first | apply Kd.R_alloc | apply Kd.R_drewN | apply Kd.R_drew)); exact Kd.R_mono HO_5.out (fun _ hk => hk.2)), (be HB)⟩)
               ·skip
                refine goes_ Tryd.func36 (by kernel_rfl) rfl #[.int .i64 (wrap64 (8 * (a0.size : Int))), .int .i64 7] (by rfl) rfl rfl (by (try simp only [List.map_toArray, List.map_cons, List.map_nil]); first | done | rfl | (simp only [List.length_drop, List.length_take]; rfl)) ?_
                with_reducible refine (spec_Fixed.calls k1 (wrap64 (8 * (a0.size : Int))) 7 t196 _ A10.out).mono ?_
                rintro e w16 ⟨rfl, hb⟩
                refine ⟨_, rfl, ?_⟩
                replace HO_3 := Aside0.mk (Kd.R_below (rr HO_3) hb); replace HO_4 := Aside0.mk (Kd.R_below (rr HO_4) hb); replace HO_5 := Aside0.mk (Kd.R_below (rr HO_5) hb); replace HB := bh HB hb
                (try clear hb); (try clear hb2); (try clear hk); (try clear hi); refine hK.out _ _ trivial (fun hHeld => ?_)
                clear hK K; refine norm_ (a' := ?_) ?_ ?_
                rotate_left
                ·show Act.put _ (some 34) _ = _
                 simp only [putL, i64_w, i32_w]; rfl
                exact norm_ (by first | (simp only [putAll, putL]; done) | (simp only [putAll, putL]; rfl)) (hJ1_8 () _ ⟨(rr HO_3), (rr HO_4), (rr HO_5), (be HB)⟩)
             ·skip
              rintro v194 w17 ⟨h0_, h1_, h2_, h3_, h4_⟩
              have n0_ : Aside0 (Kd.R (Kd.int .u8) 5 w17 w.heap.size (fun k_ => some k_ ≠ (.slice Ao12 x5_1.length co12 : Value).ownBlock) v194 y193) := ⟨h0_⟩
              have n1_ : Aside0 (Kd.R (Kd.int .u32) 59 w17 w.heap.size (fun k_ => some k_ ≠ (v185 : Value).ownBlock) v182 t181) := ⟨h1_⟩
              have n2_ : Aside0 (Kd.R (Kd.int .u32) 59 w17 w.heap.size (fun k_ => some k_ ≠ (v182 : Value).ownBlock) v185 t184) := ⟨h2_⟩
              have n3_ : Aside0 (Kd.R (Kd.int .u8) 5 w17 w.heap.size (fun k_ => some k_ ≠ (v194 : Value).ownBlock) (.slice Ao12 x5_1.length co12) x5_1) := ⟨h3_⟩
              have n4_ : Aside0 (Below w.heap.size w w17) := ⟨h4_⟩
              clear HO_3; clear HO_4; clear HO_5; clear HB; clear h0_ h1_ h2_ h3_ h4_; have a9a := n0_; have HO_3 := n1_; have HO_4 := n2_; have HO_5 := n3_; have HB := n4_; clear n0_ n1_ n2_ n3_ n4_; have hHeld := trivial
              refine norm_ (a' := ?_) ?_ ?_
              rotate_left
              ·simp only [putAll, putL]; rfl
              refine two_ (i := 1) (j := 3) (Ni := some 27) (Nj := some 29) #[tt,tt,tt,ff,ff,tt,tt,tt,tt,ff,ff] #[tt,ff,tt,tt,ff,tt,tt,tt,tt,ff,ff] rfl rfl rfl rfl (two_of HT_.out (by kernel_rfl)) (by decide) (by decide) (fun K hK => ?_) (fun K hK => ?_)
              ·skip
               have hcv18 := own_string (P := Tryd.prog) Tryd.underlying24 Tryd.underlying5 Tryd.underlying9 (Kd.own_of_R HO_5.out)
               refine value_ (w1 := ?_) (v := ?_) (by rfl) rfl ?_ ?_
               rotate_left 2
               ·go_simp
                constructor
                ·rfl
                ·rfl
               clear hcv18; refine hK.out _ _ trivial (fun hHeld => ?_)
               clear hK K; refine norm_ (a' := ?_) ?_ ?_
               rotate_left
               ·show Act.put _ (some 27) _ = _
                simp only [putL, i64_w, i32_w]; rfl
               exact norm_ (by first | (simp only [putAll, putL]; done) | (simp only [putAll, putL]; rfl)) (hJ1_2_8 (v194) _ ⟨(rr a9a), (rr HO_3), (rr HO_4), (rr HO_5), (be HB)⟩)
              ·skip
               have hcv18 := own_string (P := Tryd.prog) Tryd.underlying24 Tryd.underlying5 Tryd.underlying9 (Kd.own_of_R a9a.out)
               refine value_ (w1 := ?_) (v := ?_) (by rfl) rfl ?_ ?_
               rotate_left 2
               ·go_simp
                constructor
                ·rfl
                ·rfl
               clear hcv18; refine hK.out _ _ trivial (fun hHeld => ?_)
               clear hK K; refine norm_ (a' := ?_) ?_ ?_
               rotate_left
               ·show Act.put _ (some 29) _ = _
                simp only [putL, i64_w, i32_w]; rfl
               exact norm_ (by first | (simp only [putAll, putL]; done) | (simp only [putAll, putL]; rfl)) (hJ2_3_8 (v194) _ ⟨(rr a9a), (rr HO_3), (rr HO_4), (rr HO_5), (be HB)⟩)
            ·skip
             rintro v194 w17 ⟨h0_, h1_, h2_, h3_, h4_⟩
             have n0_ : Aside0 (Kd.R (Kd.int .u8) 5 w17 w.heap.size (fun k_ => some k_ ≠ (.slice Ao12 x5_1.length co12 : Value).ownBlock) v194 y193) := ⟨h0_⟩
             have n1_ : Aside0 (Kd.R (Kd.int .u32) 59 w17 w.heap.size (fun k_ => some k_ ≠ (v185 : Value).ownBlock) v182 t181) := ⟨h1_⟩
             have n2_ : Aside0 (Kd.R (Kd.int .u32) 59 w17 w.heap.size (fun k_ => some k_ ≠ (v182 : Value).ownBlock) v185 t184) := ⟨h2_⟩
             have n3_ : Aside0 (Kd.R (Kd.int .u8) 5 w17 w.heap.size (fun k_ => some k_ ≠ (v194 : Value).ownBlock) (.slice Ao12 x5_1.length co12) x5_1) := ⟨h3_⟩
             have n4_ : Aside0 (Below w.heap.size w w17) := ⟨h4_⟩
             clear HO_3; clear HO_4; clear HO_5; clear HB; clear h0_ h1_ h2_ h3_ h4_; have a9a := n0_; have HO_3 := n1_; have HO_4 := n2_; have HO_5 := n3_; have HB := n4_; clear n0_ n1_ n2_ n3_ n4_; have hHeld := trivial
             refine norm_ (a' := ?_) ?_ ?_
             rotate_left
             ·simp only [putAll, putL]; rfl
             refine two_ (i := 1) (j := 8) (Ni := some 27) (Nj := some 34) #[tt,tt,tt,tt,ff,tt,tt,tt,ff,ff,ff] #[tt,ff,tt,tt,ff,tt,tt,tt,tt,ff,ff] rfl rfl rfl rfl (two_of HT_.out (by kernel_rfl)) (by decide) (by decide) (fun K hK => ?_) (fun K hK => ?_)
             ·skip
              have hcv18 := own_string (P := Tryd.prog) Tryd.underlying24 Tryd.underlying5 Tryd.underlying9 (Kd.own_of_R HO_5.out)
              refine value_ (w1 := ?_) (v := ?_) (by rfl) rfl ?_ ?_
              rotate_left 2
              ·go_simp
               constructor
               ·rfl
               ·rfl
              clear hcv18; refine hK.out _ _ trivial (fun hHeld => ?_)
              clear hK K; refine norm_ (a' := ?_) ?_ ?_
              rotate_left
              ·show Act.put _ (some 27) _ = _
               simp only [putL, i64_w, i32_w]; rfl
              refine pu 4 30 (tb 11 255) HT_ ?_
              exact norm_ (by first | (simp only [putAll, putL]; done) | (simp only [putAll, putL]; rfl)) (hJ1_2_3 (v194) _ ⟨(rr a9a), (rr HO_3), (rr HO_4), (rr HO_5), (be HB)⟩)
             ·skip
              refine goes_ Tryd.func36 (by kernel_rfl) rfl #[.int .i64 (wrap64 (8 * (a0.size : Int))), .int .i64 7] (by rfl) rfl rfl (by (try simp only [List.map_toArray, List.map_cons, List.map_nil]); first | done | rfl | (simp only [List.length_drop, List.length_take]; rfl)) ?_
              with_reducible refine (spec_Fixed.calls k1 (wrap64 (8 * (a0.size : Int))) 7 t196 _ A10.out).mono ?_
              rintro e w18 ⟨rfl, hb⟩
              refine ⟨_, rfl, ?_⟩
              replace HO_3 := Aside0.mk (Kd.R_below (rr HO_3) hb); replace HO_4 := Aside0.mk (Kd.R_below (rr HO_4) hb); replace HO_5 := Aside0.mk (Kd.R_below (rr HO_5) hb); replace a9a := Aside0.mk (Kd.R_below (rr a9a) hb); replace HB := bh HB hb
              (try clear hb); (try clear hb2); (try clear hk); (try clear hi); refine hK.out _ _ trivial (fun hHeld => ?_)
              clear hK K; refine norm_ (a' := ?_) ?_ ?_
              rotate_left
              ·show Act.put _ (some 34) _ = _
               simp only [putL, i64_w, i32_w]; rfl
              exact norm_ (by first | (simp only [putAll, putL]; done) | (simp only [putAll, putL]; rfl)) (hJ2_3_8 (v194) _ ⟨(rr a9a), (rr HO_3), (rr HO_4), (rr HO_5), (be HB)⟩)
           ·skip
            rintro _ w16 ⟨h0_, h1_, h2_, h3_⟩
            have n0_ : Aside0 (Kd.R (Kd.int .u32) 59 w16 w.heap.size (fun k_ => some k_ ≠ (v185 : Value).ownBlock) v182 t181) := ⟨h0_⟩
            have n1_ : Aside0 (Kd.R (Kd.int .u32) 59 w16 w.heap.size (fun k_ => some k_ ≠ (v182 : Value).ownBlock) v185 t184) := ⟨h1_⟩
            have n2_ : Aside0 (Kd.R (Kd.int .u8) 5 w16 w.heap.size (fun _ => True) (.slice Ao12 x5_1.length co12) x5_1) := ⟨h2_⟩
            have n3_ : Aside0 (Below w.heap.size w w16) := ⟨h3_⟩
            clear HO_3; clear HO_4; clear HO_5; clear HB; clear h0_ h1_ h2_ h3_; have HO_3 := n0_; have HO_4 := n1_; have HO_5 := n2_; have HB := n3_; clear n0_ n1_ n2_ n3_; have hHeld := trivial
            refine norm_ (a' := ?_) ?_ ?_
            rotate_left
            ·simp only [putAll, putL]; rfl
            refine one_ (i := 2) (N := some 28) #[tt,tt,tt,ff,ff,tt,tt,tt,tt,ff,ff] rfl rfl (one_of HT_.out (by kernel_rfl)) (by decide) (fun K hK => ?_)
            refine Kd.R_lit_step (Kd.int .u8) _ 5 ?hg (N := 28) ?hd (xs := ([0] : List Int)) (inner := [.int .u8 0]) (ok := fun _ => True) (okp := fun _ => True) ?hr ?hp (fun _ hk => hk) trivial (Below.refl _ _) (Nat.le_refl _) (by simp) ?_; (case hd => rfl); (case hg => rfl); (case hr => first | (go_simp; done) | (go_simp; rfl)); (case hp => exact (Reps.one (show Kd.M (Kd.int .u8) _ _ _ 0 [.int .u8 0] from rfl) (Reps.none _ _)))
            intro v194 w17 ho18 hb hg_ hnew_
            clear hg_ hnew_
            (first | rw [← e9a.out] at ho18 | (simp only [Int.reduceToNat] at ho18; rw [← e9a.out] at ho18))
            have n2_ := Aside0.mk (Kd.R_elder' (rr HO_5) (Kd.R_base ho18) hb)
            have a9a := Aside0.mk (Kd.R_lower (Kd.R_new' ho18 (Kd.R_lt (rr HO_5))) (below_size (be HB)))
            replace HO_3 := Aside0.mk (Kd.R_below (rr HO_3) hb); replace HO_4 := Aside0.mk (Kd.R_below (rr HO_4) hb); replace HB := bh HB hb
            clear HO_5; have HO_5 := n2_; clear n2_; clear hb ho18; refine hK.out _ _ trivial (fun hHeld => ?_)
            clear hK K; refine norm_ (a' := ?_) ?_ ?_
            rotate_left
            ·show Act.put _ (some 28) _ = _
             simp only [putL, i64_w, i32_w]; rfl
            exact norm_ (by first | (simp only [putAll, putL]; done) | (simp only [putAll, putL]; rfl)) (hJ1_2_8 (v194) _ ⟨(by (with_reducible repeat (first | apply Kd.R_alloc | apply Kd.R_drewN | apply Kd.R_drew)); exact Kd.R_mono a9a.out (fun _ hk => hk.2)), (rr HO_3), (rr HO_4), (by (with_reducible repeat (first | apply Kd.R_alloc | apply Kd.R_drewN | apply Kd.R_drew)); exact Kd.R_mono HO_5.out (fun _ hk => hk.2)), (be HB)⟩)
          ·skip
           rintro v194 w17 ⟨h0_, h1_, h2_, h3_, h4_⟩
           have n0_ : Aside0 (Kd.R (Kd.int .u8) 5 w17 w.heap.size (fun k_ => some k_ ≠ (.slice Ao12 x5_1.length co12 : Value).ownBlock) v194 y193) := ⟨h0_⟩
           have n1_ : Aside0 (Kd.R (Kd.int .u32) 59 w17 w.heap.size (fun k_ => some k_ ≠ (v185 : Value).ownBlock) v182 t181) := ⟨h1_⟩
           have n2_ : Aside0 (Kd.R (Kd.int .u32) 59 w17 w.heap.size (fun k_ => some k_ ≠ (v182 : Value).ownBlock) v185 t184) := ⟨h2_⟩
           have n3_ : Aside0 (Kd.R (Kd.int .u8) 5 w17 w.heap.size (fun k_ => some k_ ≠ (v194 : Value).ownBlock) (.slice Ao12 x5_1.length co12) x5_1) := ⟨h3_⟩
           have n4_ : Aside0 (Below w.heap.size w w17) := ⟨h4_⟩
           clear HO_3; clear HO_4; clear HO_5; clear HB; clear h0_ h1_ h2_ h3_ h4_; have a9a := n0_; have HO_3 := n1_; have HO_4 := n2_; have HO_5 := n3_; have HB := n4_; clear n0_ n1_ n2_ n3_ n4_; have hHeld := trivial
           refine norm_ (a' := ?_) ?_ ?_
           rotate_left
           ·simp only [putAll, putL]; rfl
           refine two_ (i := 3) (j := 8) (Ni := some 29) (Nj := some 34) #[tt,tt,tt,tt,ff,tt,tt,tt,ff,ff,ff] #[tt,tt,tt,ff,ff,tt,tt,tt,tt,ff,ff] rfl rfl rfl rfl (two_of HT_.out (by kernel_rfl)) (by decide) (by decide) (fun K hK => ?_) (fun K hK => ?_)
           ·skip
            have hcv18 := own_string (P := Tryd.prog) Tryd.underlying24 Tryd.underlying5 Tryd.underlying9 (Kd.own_of_R a9a.out)
            refine value_ (w1 := ?_) (v := ?_) (by rfl) rfl ?_ ?_
            rotate_left 2
            ·go_simp
             constructor
             ·rfl
             ·rfl
            clear hcv18; refine hK.out _ _ trivial (fun hHeld => ?_)
            clear hK K; refine norm_ (a' := ?_) ?_ ?_
            rotate_left
            ·show Act.put _ (some 29) _ = _
             simp only [putL, i64_w, i32_w]; rfl
            refine pu 4 30 (tb 11 255) HT_ ?_
            exact norm_ (by first | (simp only [putAll, putL]; done) | (simp only [putAll, putL]; rfl)) (hJ1_2_3 (v194) _ ⟨(rr a9a), (rr HO_3), (rr HO_4), (rr HO_5), (be HB)⟩)
           ·skip
            refine goes_ Tryd.func36 (by kernel_rfl) rfl #[.int .i64 (wrap64 (8 * (a0.size : Int))), .int .i64 7] (by rfl) rfl rfl (by (try simp only [List.map_toArray, List.map_cons, List.map_nil]); first | done | rfl | (simp only [List.length_drop, List.length_take]; rfl)) ?_
            with_reducible refine (spec_Fixed.calls k1 (wrap64 (8 * (a0.size : Int))) 7 t196 _ A10.out).mono ?_
            rintro e w18 ⟨rfl, hb⟩
            refine ⟨_, rfl, ?_⟩
            replace HO_3 := Aside0.mk (Kd.R_below (rr HO_3) hb); replace HO_4 := Aside0.mk (Kd.R_below (rr HO_4) hb); replace HO_5 := Aside0.mk (Kd.R_below (rr HO_5) hb); replace a9a := Aside0.mk (Kd.R_below (rr a9a) hb); replace HB := bh HB hb
            (try clear hb); (try clear hb2); (try clear hk); (try clear hi); refine hK.out _ _ trivial (fun hHeld => ?_)
            clear hK K; refine norm_ (a' := ?_) ?_ ?_
            rotate_left
            ·show Act.put _ (some 34) _ = _
             simp only [putL, i64_w, i32_w]; rfl
            exact norm_ (by first | (simp only [putAll, putL]; done) | (simp only [putAll, putL]; rfl)) (hJ1_2_8 (v194) _ ⟨(rr a9a), (rr HO_3), (rr HO_4), (rr HO_5), (be HB)⟩)
         ·skip
          rintro v194 w18 ⟨h0_, h1_, h2_, h3_, h4_⟩
          have n0_ : Aside0 (Kd.R (Kd.int .u8) 5 w18 w.heap.size (fun k_ => some k_ ≠ (.slice Ao12 x5_1.length co12 : Value).ownBlock) v194 y193) := ⟨h0_⟩
          have n1_ : Aside0 (Kd.R (Kd.int .u32) 59 w18 w.heap.size (fun k_ => some k_ ≠ (v185 : Value).ownBlock) v182 t181) := ⟨h1_⟩
          have n2_ : Aside0 (Kd.R (Kd.int .u32) 59 w18 w.heap.size (fun k_ => some k_ ≠ (v182 : Value).ownBlock) v185 t184) := ⟨h2_⟩
          have n3_ : Aside0 (Kd.R (Kd.int .u8) 5 w18 w.heap.size (fun k_ => some k_ ≠ (v194 : Value).ownBlock) (.slice Ao12 x5_1.length co12) x5_1) := ⟨h3_⟩
          have n4_ : Aside0 (Below w.heap.size w w18) := ⟨h4_⟩
          clear HO_3; clear HO_4; clear HO_5; clear HB; clear h0_ h1_ h2_ h3_ h4_; have a9a := n0_; have HO_3 := n1_; have HO_4 := n2_; have HO_5 := n3_; have HB := n4_; clear n0_ n1_ n2_ n3_ n4_; have hHeld := trivial
          refine norm_ (a' := ?_) ?_ ?_
          rotate_left
          ·simp only [putAll, putL]; rfl
          refine one_ (i := 1) (N := some 27) #[tt,tt,tt,tt,ff,tt,tt,tt,tt,ff,ff] rfl rfl (one_of HT_.out (by kernel_rfl)) (by decide) (fun K hK => ?_)
          have hcv19 := own_string (P := Tryd.prog) Tryd.underlying24 Tryd.underlying5 Tryd.underlying9 (Kd.own_of_R HO_5.out)
          refine value_ (w1 := ?_) (v := ?_) (by rfl) rfl ?_ ?_
          rotate_left 2
          ·go_simp
           constructor
           ·rfl
           ·rfl
          clear hcv19; refine hK.out _ _ trivial (fun hHeld => ?_)
          clear hK K; refine norm_ (a' := ?_) ?_ ?_
          rotate_left
          ·show Act.put _ (some 27) _ = _
           simp only [putL, i64_w, i32_w]; rfl
          refine pu 4 30 (tb 11 511) HT_ ?_
          exact norm_ (by first | (simp only [putAll, putL]; done) | (simp only [putAll, putL]; rfl)) (hJ1_2_3_8 (v194) _ ⟨(rr a9a), (rr HO_3), (rr HO_4), (rr HO_5), (be HB)⟩)
        ·skip
         rintro v194 w18 ⟨h0_, h1_, h2_, h3_, h4_⟩
         have n0_ : Aside0 (Kd.R (Kd.int .u8) 5 w18 w.heap.size (fun k_ => some k_ ≠ (.slice Ao12 x5_1.length co12 : Value).ownBlock) v194 y193) := ⟨h0_⟩
         have n1_ : Aside0 (Kd.R (Kd.int .u32) 59 w18 w.heap.size (fun k_ => some k_ ≠ (v185 : Value).ownBlock) v182 t181) := ⟨h1_⟩
         have n2_ : Aside0 (Kd.R (Kd.int .u32) 59 w18 w.heap.size (fun k_ => some k_ ≠ (v182 : Value).ownBlock) v185 t184) := ⟨h2_⟩
         have n3_ : Aside0 (Kd.R (Kd.int .u8) 5 w18 w.heap.size (fun k_ => some k_ ≠ (v194 : Value).ownBlock) (.slice Ao12 x5_1.length co12) x5_1) := ⟨h3_⟩
         have n4_ : Aside0 (Below w.heap.size w w18) := ⟨h4_⟩
         clear HO_3; clear HO_4; clear HO_5; clear HB; clear h0_ h1_ h2_ h3_ h4_; have a9a := n0_; have HO_3 := n1_; have HO_4 := n2_; have HO_5 := n3_; have HB := n4_; clear n0_ n1_ n2_ n3_ n4_; have hHeld := trivial
         refine norm_ (a' := ?_) ?_ ?_
         rotate_left
         ·simp only [putAll, putL]; rfl
         refine one_ (i := 3) (N := some 29) #[tt,tt,tt,tt,ff,tt,tt,tt,tt,ff,ff] rfl rfl (one_of HT_.out (by kernel_rfl)) (by decide) (fun K hK => ?_)
         have hcv19 := own_string (P := Tryd.prog) Tryd.underlying24 Tryd.underlying5 Tryd.underlying9 (Kd.own_of_R a9a.out)
         refine value_ (w1 := ?_) (v := ?_) (by rfl) rfl ?_ ?_
         rotate_left 2
         ·go_simp
          constructor
          ·rfl
          ·rfl
         clear hcv19; refine hK.out _ _ trivial (fun hHeld => ?_)
         clear hK K; refine norm_ (a' := ?_) ?_ ?_
         rotate_left
         ·show Act.put _ (some 29) _ = _
          simp only [putL, i64_w, i32_w]; rfl
         refine pu 4 30 (tb 11 511) HT_ ?_
         exact norm_ (by first | (simp only [putAll, putL]; done) | (simp only [putAll, putL]; rfl)) (hJ1_2_3_8 (v194) _ ⟨(rr a9a), (rr HO_3), (rr HO_4), (rr HO_5), (be HB)⟩)
       ·skip
        rintro v194 w18 ⟨h0_, h1_, h2_, h3_, h4_⟩
        have n0_ : Aside0 (Kd.R (Kd.int .u8) 5 w18 w.heap.size (fun k_ => some k_ ≠ (.slice Ao12 x5_1.length co12 : Value).ownBlock) v194 y193) := ⟨h0_⟩
        have n1_ : Aside0 (Kd.R (Kd.int .u32) 59 w18 w.heap.size (fun k_ => some k_ ≠ (v185 : Value).ownBlock) v182 t181) := ⟨h1_⟩
        have n2_ : Aside0 (Kd.R (Kd.int .u32) 59 w18 w.heap.size (fun k_ => some k_ ≠ (v182 : Value).ownBlock) v185 t184) := ⟨h2_⟩
        have n3_ : Aside0 (Kd.R (Kd.int .u8) 5 w18 w.heap.size (fun k_ => some k_ ≠ (v194 : Value).ownBlock) (.slice Ao12 x5_1.length co12) x5_1) := ⟨h3_⟩
        have n4_ : Aside0 (Below w.heap.size w w18) := ⟨h4_⟩
        clear HO_3; clear HO_4; clear HO_5; clear HB; clear h0_ h1_ h2_ h3_ h4_; have a9a := n0_; have HO_3 := n1_; have HO_4 := n2_; have HO_5 := n3_; have HB := n4_; clear n0_ n1_ n2_ n3_ n4_; have hHeld := trivial
        refine norm_ (a' := ?_) ?_ ?_
        rotate_left
        ·simp only [putAll, putL]; rfl
        refine one_ (i := 8) (N := some 34) #[tt,tt,tt,tt,tt,tt,tt,tt,tt,ff,ff] rfl rfl (one_of HT_.out (by kernel_rfl)) (by decide) (fun K hK => ?_)
        refine goes_ Tryd.func36 (by kernel_rfl) rfl #[.int .i64 (wrap64 (8 * (a0.size : Int))), .int .i64 7] (by rfl) rfl rfl (by (try simp only [List.map_toArray, List.map_cons, List.map_nil]); first | done | rfl | (simp only [List.length_drop, List.length_take]; rfl)) ?_
        with_reducible refine (spec_Fixed.calls k1 (wrap64 (8 * (a0.size : Int))) 7 t196 _ A10.out).mono ?_
        rintro e w19 ⟨rfl, hb⟩
        refine ⟨_, rfl, ?_⟩
        replace HO_3 := Aside0.mk (Kd.R_below (rr HO_3) hb); replace HO_4 := Aside0.mk (Kd.R_below (rr HO_4) hb); replace HO_5 := Aside0.mk (Kd.R_below (rr HO_5) hb); replace a9a := Aside0.mk (Kd.R_below (rr a9a) hb); replace HB := bh HB hb
        (try clear hb); (try clear hb2); (try clear hk); (try clear hi); refine hK.out _ _ trivial (fun hHeld => ?_)
        clear hK K; refine norm_ (a' := ?_) ?_ ?_
        rotate_left
        ·show Act.put _ (some 34) _ = _
         simp only [putL, i64_w, i32_w]; rfl
        exact norm_ (by first | (simp only [putAll, putL]; done) | (simp only [putAll, putL]; rfl)) (hJ1_2_3_8 (v194) _ ⟨(rr a9a), (rr HO_3), (rr HO_4), (rr HO_5), (be HB)⟩)
      rintro v194 w19 ⟨h0_, h1_, h2_, h3_, h4_⟩
      have n0_ : Aside0 (Kd.R (Kd.int .u8) 5 w19 w.heap.size (fun k_ => some k_ ≠ (.slice Ao12 x5_1.length co12 : Value).ownBlock) v194 y193) := ⟨h0_⟩
      have n1_ : Aside0 (Kd.R (Kd.int .u32) 59 w19 w.heap.size (fun k_ => some k_ ≠ (v185 : Value).ownBlock) v182 t181) := ⟨h1_⟩
      have n2_ : Aside0 (Kd.R (Kd.int .u32) 59 w19 w.heap.size (fun k_ => some k_ ≠ (v182 : Value).ownBlock) v185 t184) := ⟨h2_⟩
      have n3_ : Aside0 (Kd.R (Kd.int .u8) 5 w19 w.heap.size (fun k_ => some k_ ≠ (v194 : Value).ownBlock) (.slice Ao12 x5_1.length co12) x5_1) := ⟨h3_⟩
      have n4_ : Aside0 (Below w.heap.size w w19) := ⟨h4_⟩
      clear HO_3; clear HO_4; clear HO_5; clear HB; clear h0_ h1_ h2_ h3_ h4_; have a9a := n0_; have HO_3 := n1_; have HO_4 := n2_; have HO_5 := n3_; have HB := n4_; clear n0_ n1_ n2_ n3_ n4_; have hHeld := trivial
      refine norm_ (a' := ?_) ?_ ?_
      rotate_left
      ·simp only [putAll, putL]; rfl
      refine pu 9 35 (tb 11 1023) HT_ ?_
      refine pu 10 6 (tb 11 2047) HT_ ?_
      refine done_ (done_of HT_.out (by kernel_rfl)) ?_
      try go_wp2
      go_loopg [3, 8] k1 (fun kq v3 v8 w' => ∃ (x3_2 : List Int) (x8_2 : Int), v8 = .int .i64 x8_2 ∧ Aside0 (spec_Sha.l1 kq a0 x3_2 t184 (((strOfNums x5_1) ++ (strOfNums y193)) ++ t196) (wrap64 ((wrap64 ((a0.size : Int) / 64)) * 64)) x8_2 = some r) ∧ Aside0 (kq ≤ k1) ∧ Aside0 (Kd.R (Kd.int .u32) 59 w' w.heap.size (fun k_ => some k_ ≠ (v185 : Value).ownBlock) v3 x3_2) ∧ Aside0 (Kd.R (Kd.int .u32) 59 w' w.heap.size (fun k_ => some k_ ≠ (v3 : Value).ownBlock) v185 t184) ∧ Aside0 (Below w.heap.size w w'))
      case atStart => exact ⟨(t181), (0), (by first | rfl | (simp; done) | (simp [*]; done)), H', ⟨Nat.le_refl _⟩, ⟨rr HO_3⟩, ⟨rr HO_4⟩, ⟨by repeat (first | (with_reducible first | exact HB.out | apply below_alloc | apply pw_below_drewN | apply below_drew1) | exact HB.out)⟩⟩
      case round =>
       clear H'
       obtain ⟨x3_2, x8_2, rfl, HA, HK2, HO_3, HO_4, HB⟩ := hrel
       cases gk with
       | zero => exact absurd HA.out (by simp [spec_Sha.l1])
       | succ k2 =>
        have H := HA.out; clear HA; simp only [spec_Sha.l1] at H
        by_cases c20 : x8_2 < (wrap64 ((wrap64 ((a0.size : Int) / 64)) * 64))
        ·rw [if_pos c20] at H
         have c20b0 : decide (x8_2 < (wrap64 ((wrap64 ((a0.size : Int) / 64)) * 64))) = true := decide_eq_true c20
         clear c20
         by_cases c21 : 0 ≤ x8_2
         ·rw [if_pos c21] at H
          have c21b0 := eq_true c21
          have c21b1 : decide (0 ≤ x8_2) = true := decide_eq_true c21
          clear c21
          by_cases c22 : x8_2 ≤ (wrap64 (x8_2 + 64))
          ·rw [if_pos c22] at H
           have c22b0 := eq_true c22
           have c22b1 : decide (x8_2 ≤ (wrap64 (x8_2 + 64))) = true := decide_eq_true c22
           by_cases c23 : (wrap64 (x8_2 + 64)) ≤ (a0.size : Int)
           ·rw [if_pos c23] at H
            have c23b0 := eq_true c23
            have c23b1 : decide ((wrap64 (x8_2 + 64)) ≤ (a0.size : Int)) = true := decide_eq_true c23
            replace H := Option.bind_eq_some_iff.mp H
            obtain ⟨t197, A240, H⟩ := H
            replace H : (spec_Sha.l1 k2 a0 t197 t184 (((strOfNums x5_1) ++ (strOfNums y193)) ++ t196) (wrap64 ((wrap64 ((a0.size : Int) / 64)) * 64)) (wrap64 (x8_2 + 64))) = some r := H
            have A24 := Aside0.mk A240
            clear A240; have H' := Aside0.mk H
            clear H; obtain ⟨Ao25, co25, eo25⟩ := Kd.R_slice HO_3.out
            subst eo25
            obtain ⟨Ao26, co26, eo26⟩ := Kd.R_slice HO_4.out
            subst eo26
            go_wp2_with (first | ((with_reducible refine gate_callee (f := 37) rfl ?_); refine goesC_ (some 52) Tryd.func37 #[.slice Ao25 x3_2.length co25, .slice Ao26 t184.length co26, .string (a0.extract (x8_2 : Int).toNat ((wrap64 (x8_2 + 64)) : Int).toNat)] ?_; (with_reducible refine (spec_l2Block.calls k2 _ _ x3_2 _ _ t184 (a0.extract (x8_2 : Int).toNat ((wrap64 (x8_2 + 64)) : Int).toNat) t197 _ ?side1 ?side2 ?side3 ?side4 A24.out).mono ?_); (case side1 => repeat (first | exact (Kd.R_reads' HO_3.out).2.2 | (with_reducible refine Kd.C_alloc ?_ _) | (with_reducible refine Kd.C_drewN ?_ _) | (with_reducible refine Kd.C_drew ?_))); (case side2 => exact (Kd.R_reads' HO_3.out).2.1); (case side3 => repeat (first | exact (Kd.R_reads' HO_4.out).2.2 | (with_reducible refine Kd.C_alloc ?_ _) | (with_reducible refine Kd.C_drewN ?_ _) | (with_reducible refine Kd.C_drew ?_))); (case side4 => exact (Kd.R_reads' HO_4.out).2.1); rintro e w27 ⟨v198, rfl, ho0, hb⟩; refine ⟨_, rfl, ?_⟩; have n0_ := Aside0.mk (Kd.R_elder' (rr HO_3) (Kd.R_base ho0) hb); have n1_ := Aside0.mk (Kd.R_elder' (rr HO_4) (Kd.R_base ho0) hb); have HO199 := Aside0.mk (Kd.R_lower (Kd.R_new' (Kd.R_new' ho0 (Kd.R_lt (rr HO_3))) (Kd.R_lt (rr HO_4))) (below_size (be HB))); replace HB := bh HB hb; clear HO_3 HO_4; have HO_3 := n0_; have HO_4 := n1_; clear n0_ n1_; (try clear hb); (try clear hb2); (try clear hk); (try clear hi)))
            go_roundg k2
            case measure => have := HK1.out; have := HK2.out; omega
            case rel => exact ⟨(t197), (wrap64 (x8_2 + 64)), (by first | rfl | (simp; done) | (simp [*]; done)), H', ⟨by have := HK1.out; have := HK2.out; omega⟩, ⟨by (with_reducible repeat (first | apply Kd.R_alloc | apply Kd.R_drewN | apply Kd.R_drew)); exact Kd.R_mono HO199.out (fun _ hk => hk.2)⟩, ⟨by (with_reducible repeat (first | apply Kd.R_alloc | apply Kd.R_drewN | apply Kd.R_drew)); exact Kd.R_mono HO_4.out (fun _ hk => hk.2)⟩, ⟨by repeat (first | (with_reducible first | exact HB.out | apply below_alloc | apply pw_below_drewN | apply below_drew1) | exact HB.out)⟩⟩
           ·rw [if_neg c23] at H
            exact absurd H (by simp)
          ·rw [if_neg c22] at H
           exact absurd H (by simp)
         ·rw [if_neg c21] at H
          exact absurd H (by simp)
        ·rw [if_neg c20] at H
         have c20b0 : decide (x8_2 < (wrap64 ((wrap64 ((a0.size : Int) / 64)) * 64))) = false := decide_eq_false c20
         clear c20; obtain ⟨ji28, hji28⟩ : ∃ j_ : Int, (wrap64 ((wrap64 ((a0.size : Int) / 64)) * 64)) = j_ := ⟨_, rfl⟩
         replace H : (if 0 ≤ (ji28) then (if (ji28) ≤ (a0.size : Int) then (if (a0.extract ((ji28) : Int).toNat a0.size).size + (((strOfNums x5_1) ++ (strOfNums y193)) ++ t196).size ≤ 9223372036854775807 then (spec_Sha.l2 k2 x3_2 t184 ((a0.extract ((ji28) : Int).toNat a0.size) ++ (((strOfNums x5_1) ++ (strOfNums y193)) ++ t196)) 0) else (none)) else (none)) else (none)) = some r := by first | (rw [hji28] at H; exact H) | (simp only [hji28] at H ⊢; exact H)
         (try rw [hji28] at c20b0)
         have hji28w : (IntKind.i64.wrap ((wrap64 ((a0.size : Int) / 64)) * 64)) = ji28 := (i64_w _).trans hji28
         by_cases c29 : 0 ≤ (ji28)
         ·rw [if_pos c29] at H
          have c29b0 := eq_true c29
          have c29b1 : decide (0 ≤ (ji28)) = true := decide_eq_true c29
          clear c29
          by_cases c30 : (ji28) ≤ (a0.size : Int)
          ·rw [if_pos c30] at H
           have c30b0 := eq_true c30
           have c30b1 : decide ((ji28) ≤ (a0.size : Int)) = true := decide_eq_true c30
           clear c30
           by_cases c31 : (a0.extract ((ji28) : Int).toNat a0.size).size + (((strOfNums x5_1) ++ (strOfNums y193)) ++ t196).size ≤ 9223372036854775807
           ·rw [if_pos c31] at H
            have c31b0 := eq_true c31
            have c31b1 : decide ((a0.extract ((ji28) : Int).toNat a0.size).size + (((strOfNums x5_1) ++ (strOfNums y193)) ++ t196).size ≤ 9223372036854775807) = true := decide_eq_true c31
            try have c31b2 : (9223372036854775807 < (a0.extract ((ji28) : Int).toNat a0.size).size + (((strOfNums x5_1) ++ (strOfNums y193)) ++ t196).size) = False := eq_false (Nat.not_lt.2 c31)
            try have c31b6 : (9223372036854775807 < (a0.extract ((ji28) : Int).toNat a0.size).size + (((strOfNums x5_1).size + (strOfNums y193).size) + t196.size)) = False := eq_false (by have h_ := c31; simp only [ByteArray.size_append] at h_; omega)
            try have c31b7 : (9223372036854775807 < (a0.size - ((ji28) : Int).toNat) + (((strOfNums x5_1).size + (strOfNums y193).size) + t196.size)) = False := eq_false (by have h_ := c31; simp only [ByteArray.size_append, ByteArray.size_extract] at h_; have g0_ := of_decide_eq_true c9b1; have g1_ := of_decide_eq_true c11b1; have g2_ := of_decide_eq_true c29b1; have g3_ := of_decide_eq_true c30b1; have g4_ := of_decide_eq_true c31b1; omega)
            obtain ⟨x9s, hx9s⟩ : ∃ s_ : ByteArray, ((a0.extract ((ji28) : Int).toNat a0.size) ++ (((strOfNums x5_1) ++ (strOfNums y193)) ++ t196)) = s_ := ⟨_, rfl⟩
            rw [hx9s] at H
            have H' := Aside0.mk H
            clear H
            go_wp2
            (try simp only [hji28])
            (try simp only [hx9s])
            have HX9 := Aside0.mk hx9s
            clear hx9s
            go_loopg [3, 10] k2 (fun kq v3 v10 w' => ∃ (x3_3 : List Int) (b9a : Int), v10 = .int .i64 b9a ∧ Aside0 (spec_Sha.l2 kq x3_3 t184 x9s b9a = some r) ∧ Aside0 (kq ≤ k2) ∧ Aside0 (Kd.R (Kd.int .u32) 59 w' w.heap.size (fun k_ => some k_ ≠ (v185 : Value).ownBlock) v3 x3_3) ∧ Aside0 (Kd.R (Kd.int .u32) 59 w' w.heap.size (fun k_ => some k_ ≠ (v3 : Value).ownBlock) v185 t184) ∧ Aside0 (Below w.heap.size w w'))
            case atStart => exact ⟨(x3_2), (0), (by first | rfl | (simp; done) | (simp [*]; done)), H', ⟨Nat.le_refl _⟩, ⟨rr HO_3⟩, ⟨rr HO_4⟩, ⟨by repeat (first | (with_reducible first | exact HB.out | apply below_alloc | apply pw_below_drewN | apply below_drew1) | exact HB.out)⟩⟩
            case round =>
             clear H'
             obtain ⟨x3_3, b9a, rfl, HA, HK3, HO_3, HO_4, HB⟩ := hrel
             cases gk with
             | zero => exact absurd HA.out (by simp [spec_Sha.l2])
             | succ k3 =>
              have H := HA.out; clear HA; simp only [spec_Sha.l2] at H
              by_cases c32 : (wrap64 (b9a + 64)) ≤ (x9s.size : Int)
              ·rw [if_pos c32] at H
               have c32b0 : decide ((wrap64 (b9a + 64)) ≤ (x9s.size : Int)) = true := decide_eq_true c32
               clear c32
               by_cases c33 : 0 ≤ b9a
               ·rw [if_pos c33] at H
                have c33b0 := eq_true c33
                have c33b1 : decide (0 ≤ b9a) = true := decide_eq_true c33
                clear c33
                by_cases c34 : b9a ≤ (wrap64 (b9a + 64))
                ·rw [if_pos c34] at H
                 have c34b0 := eq_true c34
                 have c34b1 : decide (b9a ≤ (wrap64 (b9a + 64))) = true := decide_eq_true c34
                 have c35b0 := eq_true (of_decide_eq_true (by first | (with_reducible assumption) | assumption) : (wrap64 (b9a + 64)) ≤ (x9s.size : Int))
                 replace H := Option.bind_eq_some_iff.mp H
                 obtain ⟨t200, A360, H⟩ := H
                 replace H : (spec_Sha.l2 k3 t200 t184 x9s (wrap64 (b9a + 64))) = some r := H
                 have A36 := Aside0.mk A360
                 clear A360; have H' := Aside0.mk H
                 clear H; obtain ⟨Ao37, co37, eo37⟩ := Kd.R_slice HO_3.out
                 subst eo37
                 obtain ⟨Ao38, co38, eo38⟩ := Kd.R_slice HO_4.out
                 subst eo38
                 go_wp2_with (first | ((with_reducible refine gate_callee (f := 37) rfl ?_); refine goesL_ (some 72) rfl rfl Tryd.func37 (by kernel_rfl) rfl #[.slice Ao37 x3_3.length co37, .slice Ao38 t184.length co38, .string (x9s.extract (b9a : Int).toNat ((wrap64 (b9a + 64)) : Int).toNat)] rfl (by (try simp only [List.map_toArray, List.map_cons, List.map_nil]); first | done | (simp only [hji28]; rfl) | rfl | (simp only [List.length_drop, List.length_take]; rfl)) ?_; (with_reducible refine (spec_l2Block.calls k3 _ _ x3_3 _ _ t184 (x9s.extract (b9a : Int).toNat ((wrap64 (b9a + 64)) : Int).toNat) t200 _ ?side1 ?side2 ?side3 ?side4 A36.out).mono ?_); (case side1 => repeat (first | exact (Kd.R_reads' HO_3.out).2.2 | (with_reducible refine Kd.C_alloc ?_ _) | (with_reducible refine Kd.C_drewN ?_ _) | (with_reducible refine Kd.C_drew ?_))); (case side2 => exact (Kd.R_reads' HO_3.out).2.1); (case side3 => repeat (first | exact (Kd.R_reads' HO_4.out).2.2 | (with_reducible refine Kd.C_alloc ?_ _) | (with_reducible refine Kd.C_drewN ?_ _) | (with_reducible refine Kd.C_drew ?_))); (case side4 => exact (Kd.R_reads' HO_4.out).2.1); rintro e w39 ⟨v201, rfl, ho0, hb⟩; refine ⟨_, rfl, ?_⟩; have n0_ := Aside0.mk (Kd.R_elder' (rr HO_3) (Kd.R_base ho0) hb); have n1_ := Aside0.mk (Kd.R_elder' (rr HO_4) (Kd.R_base ho0) hb); have HO202 := Aside0.mk (Kd.R_lower (Kd.R_new' (Kd.R_new' ho0 (Kd.R_lt (rr HO_3))) (Kd.R_lt (rr HO_4))) (below_size (be HB))); replace HB := bh HB hb; clear HO_3 HO_4; have HO_3 := n0_; have HO_4 := n1_; clear n0_ n1_; (try clear hb); (try clear hb2); (try clear hk); (try clear hi)))
                 go_roundg k3
                 case measure => have := HK1.out; have := HK2.out; have := HK3.out; omega
                 case rel => exact ⟨(t200), (wrap64 (b9a + 64)), (by first | rfl | (simp; done) | (simp [*]; done)), H', ⟨by have := HK1.out; have := HK2.out; have := HK3.out; omega⟩, ⟨by (with_reducible repeat (first | apply Kd.R_alloc | apply Kd.R_drewN | apply Kd.R_drew)); exact Kd.R_mono HO202.out (fun _ hk => hk.2)⟩, ⟨by (with_reducible repeat (first | apply Kd.R_alloc | apply Kd.R_drewN | apply Kd.R_drew)); exact Kd.R_mono HO_4.out (fun _ hk => hk.2)⟩, ⟨by repeat (first | (with_reducible first | exact HB.out | apply below_alloc | apply pw_below_drewN | apply below_drew1) | exact HB.out)⟩⟩
                ·rw [if_neg c34] at H
                 exact absurd H (by simp)
               ·rw [if_neg c33] at H
                exact absurd H (by simp)
              ·rw [if_neg c32] at H
               have c32b0 : decide ((wrap64 (b9a + 64)) ≤ (x9s.size : Int)) = false := decide_eq_false c32
               clear c32; have H' := Aside0.mk H
               clear H
               go_wp2
               (try simp only [hji28])
               go_loopg [11, 12] k3 (fun kq v11 v12 w' => ∃ (d9a : ByteArray) (c9a : Int), v11 = .string d9a ∧ v12 = .int .i64 c9a ∧ Aside0 (spec_Sha.l3 kq x3_3 d9a c9a = some r) ∧ Aside0 (kq ≤ k3) ∧ Aside0 (Kd.R (Kd.int .u32) 59 w' w.heap.size (fun _ => True) u3 x3_3) ∧ Aside0 (Below w.heap.size w w'))
               case atStart => exact ⟨((⟨#[]⟩ : ByteArray)), (0), (by first | rfl | (simp; done) | (simp [*]; done)), (by first | rfl | (simp; done) | (simp [*]; done)), H', ⟨Nat.le_refl _⟩, ⟨by (with_reducible repeat (first | apply Kd.R_alloc | apply Kd.R_drewN | apply Kd.R_drew)); exact Kd.R_mono HO_3.out (fun _ hk => trivial)⟩, ⟨by repeat (first | (with_reducible first | exact HB.out | apply below_alloc | apply pw_below_drewN | apply below_drew1) | exact HB.out)⟩⟩
               case round =>
                clear H'
                obtain ⟨d9a, c9a, rfl, rfl, HA, HK4, HO_3, HB⟩ := hrel
                cases gk with
                | zero => exact absurd HA.out (by simp [spec_Sha.l3])
                | succ k4 =>
                 have H := HA.out; clear HA; simp only [spec_Sha.l3] at H
                 by_cases c40 : c9a < 8
                 ·rw [if_pos c40] at H
                  have c40b0 : decide (c9a < 8) = true := decide_eq_true c40
                  clear c40
                  by_cases c41 : 0 ≤ c9a
                  ·rw [if_pos c41] at H
                   have c41b0 : decide (0 ≤ c9a) = true := decide_eq_true c41
                   clear c41
                   by_cases c42 : c9a < (x3_3.length : Int)
                   ·rw [if_pos c42] at H
                    have c42b0 : decide (c9a < (x3_3.length : Int)) = true := decide_eq_true c42
                    clear c42; replace H := Option.bind_eq_some_iff.mp H
                    obtain ⟨t204, A430, H⟩ := H
                    replace H : (if d9a.size + t204.size ≤ 9223372036854775807 then (spec_Sha.l3 k4 x3_3 (d9a ++ t204) (wrap64 (c9a + 1))) else (none)) = some r := H
                    have A43 := Aside0.mk A430
                    clear A430
                    by_cases c44 : d9a.size + t204.size ≤ 9223372036854775807
                    ·rw [if_pos c44] at H
                     have c44b0 := eq_true c44
                     have c44b1 : decide (d9a.size + t204.size ≤ 9223372036854775807) = true := decide_eq_true c44
                     try have c44b2 : (9223372036854775807 < d9a.size + t204.size) = False := eq_false (Nat.not_lt.2 c44)
                     have H' := Aside0.mk H
                     clear H; obtain ⟨Ao45, co45, eo45⟩ := Kd.R_slice HO_3.out
                     subst eo45
                     have p203 : 0 ≤ (c9a : Int) := of_decide_eq_true (by first | (with_reducible assumption) | assumption)
                     have q203 : c9a < (x3_3.length : Int) := of_decide_eq_true (by first | (with_reducible assumption) | assumption)
                     obtain ⟨ad203, e203, hx203_0⟩ := Kd.at_int (Kd.R_reads' HO_3.out).2.2 c9a p203 q203
                     cases e203
                     replace p203 := eq_true p203
                     replace q203 := eq_true q203
                     go_wp2_with (first | ((with_reducible refine gate_callee (f := 36) rfl ?_); refine goesC_ (some 83) Tryd.func36 #[.int .i64 (wrap64 (rd x3_3 c9a)), .int .i64 4] ?_; (with_reducible refine (spec_Fixed.calls k4 (wrap64 (rd x3_3 c9a)) 4 t204 _ A43.out).mono ?_); rintro e w46 ⟨rfl, hb⟩; refine ⟨_, rfl, ?_⟩; replace HO_3 := Aside0.mk (Kd.R_below (rr HO_3) hb); replace HB := bh HB hb; (try clear hb); (try clear hb2); (try clear hk); (try clear hi)))
                     go_roundg k4
                     case measure => have := HK1.out; have := HK2.out; have := HK3.out; have := HK4.out; omega
                     case rel => exact ⟨(d9a ++ t204), (wrap64 (c9a + 1)), (by first | rfl | (simp; done) | (simp [*]; done)), (by first | rfl | (simp; done) | (simp [*]; done)), H', ⟨by have := HK1.out; have := HK2.out; have := HK3.out; have := HK4.out; omega⟩, ⟨rr HO_3⟩, ⟨by repeat (first | (with_reducible first | exact HB.out | apply below_alloc | apply pw_below_drewN | apply below_drew1) | exact HB.out)⟩⟩
                    ·rw [if_neg c44] at H
                     exact absurd H (by simp)
                   ·rw [if_neg c42] at H
                    exact absurd H (by simp)
                  ·rw [if_neg c41] at H
                   exact absurd H (by simp)
                 ·rw [if_neg c40] at H
                  have c40b0 : decide (c9a < 8) = false := decide_eq_false c40
                  clear c40; obtain rfl := Option.some.inj H
                  go_wp2
                  go_ret
                  exact ⟨by first | rfl | (simp [errW_none, errW_some] <;> rfl) | (simp only [← hji28]; first | rfl | (simp [errW_none, errW_some] <;> rfl)) | (simp [*, errW_none, errW_some] <;> rfl), by repeat (first | (with_reducible first | exact HB.out | apply below_alloc | apply pw_below_drewN | apply below_drew1) | exact HB.out)⟩
           ·rw [if_neg c31] at H
            exact absurd H (by simp)
          ·rw [if_neg c30] at H
           exact absurd H (by simp)
         ·rw [if_neg c29] at H
          exact absurd H (by simp)
     ·rw [if_neg c11] at H
      exact absurd H (by simp)
    ·rw [if_neg c9] at H
     exact absurd H (by simp)
   ·rw [if_neg c8] at H
    have c8b0 : ((Int.tmod (wrap64 ((a0.size : Int) + (x5_1.length : Int))) 64) == 56) = false := beq_eq_false_iff_ne.mpr c8
    have c8b1 : ((Int.tmod (wrap64 ((a0.size : Int) + (x5_1.length : Int))) 64) != 56) = true := bne_iff_ne.mpr c8
    by_cases c47 : x5_1.length < 140737488355328
    ·rw [if_pos c47] at H
     have LMc47 := Aside0.mk c47
     clear c47; obtain ⟨y190, hy190⟩ : ∃ y_ : List Int, y_ = (x5_1 ++ [0]) := ⟨_, rfl⟩
     replace H : (spec_Sha.l0 k1 a0 t181 t184 y190) = some r := by first | (rw [hy190]; with_reducible exact H) | (have H2_ := (Option.bind_some _ _).symm.trans H; rw [hy190]; with_reducible exact H2_) | (have H2_ := (Option.bind_some _ _).symm.trans H; with_reducible exact H2_) | with_reducible exact H | (rw [hy190]; exact H) | exact H
     have Ny190 := Aside0.mk hy190
     clear hy190; have H' := Aside0.mk H
     clear H; obtain ⟨Ao48, co48, eo48⟩ := Kd.R_slice HO_5.out
     subst eo48
     go_wp2_with (first | ((with_reducible refine gate_builtin (b := .append) (xs := #[.tmp 23, .tmp 24]) rfl ?_); at_builtin; refine Kd.R_append (Kd.int .u8) (w0 := w) w.heap.size rfl (.tmp 23) (.tmp 24) 24 5 (.int .u8 0) 1 rfl Tryd.underlying24 info5 rfl (by decide) (by omega) (.slice Ao48 x5_1.length co48) x5_1 0 [.int .u8 0] (fun _ => True) (fun _ => False) rfl rfl ?aP (fun _ hk => hk.elim) ?aF ?aO ?aB ?aS ?aL ?_; (case aP => exact rfl); (case aB => exact (be HB)); (case aF => exact (fun _ _ => trivial)); (case aO => exact (rr HO_5)); (case aS => exact (below_size (be HB))); (case aL => have := LMc47.out; omega); intro v191 w49 ho hb hg hat; rw [← Ny190.out] at ho; have n0_ := Aside0.mk (Kd.R_over' (rr HO_3) (Kd.R_typed (rr HO_5)) (by decide) hg); have n1_ := Aside0.mk (Kd.R_over' (rr HO_4) (Kd.R_typed (rr HO_5)) (by decide) hg); have n2_ := Aside0.mk (hb); have HO192 := Aside0.mk (ho); clear HO_5 HO_3 HO_4 HB; have HO_3 := n0_; have HO_4 := n1_; have HB := n2_; clear n0_ n1_ n2_; clear ho hb hg hat))
     go_roundg k1
     case measure => have := HK1.out; omega
     case rel => exact ⟨(y190), H', ⟨by have := HK1.out; omega⟩, ⟨rr HO_3⟩, ⟨rr HO_4⟩, ⟨rr HO192⟩, ⟨by repeat (first | (with_reducible first | exact HB.out | apply below_alloc | apply pw_below_drewN | apply below_drew1) | exact HB.out)⟩⟩
    ·rw [if_neg c47] at H
     exact absurd H (by simp)
end Go.Proofs.YtobkmpihjfiihaaDoor.PFnCanon
