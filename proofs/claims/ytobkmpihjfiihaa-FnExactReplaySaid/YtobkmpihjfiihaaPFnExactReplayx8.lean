-- The machine side of a law: written by a program of this session (wip/tools), a turned print.
import Derived.Test.YtobkmpihjfiihaaPFnExactReplayx0
import Derived.Test.YtobkmpihjfiihaaPFnExactReplayx7
namespace Go.Proofs.Ytobkmpihjfiihaa.PFnExactReplay
open Go.RowKit Go.Proofs.YtobkmpihjfiihaaW.PrintWords Go.Proofs.YtobkmpihjfiihaaW.PrintLast Go.Proofs.YtobkmpihjfiihaaW.PrintMore
attribute [local go_sem] max2_int min2_int max_two min_two max_three min_three max_four min_four   -- for this text's walks alone
set_option linter.unusedVariables false
set_option linter.unusedSimpArgs false

/-! ### spec_l5Fits: function 105 -/
def spec_l5Fits.f (a0_0 : Int) (a0_1 : Int) (a0_2 : Int) (a0_3 : Int) (l0_4 : List (S146)) (a1_0 : Int) (a1_1 : Int) (a1_2 : Int) (a1_3 : Int) (a1_4 : ByteArray) : Option (Bool) := if a1_0 = 1 then (if a1_1 > a0_0 then (some true) else (if a1_1 = a0_0 then (if a0_1 = (-1) then (some true) else (some (a1_3 == a0_1))) else (some false))) else (if a1_0 = 2 then (if a1_2 = (wrap64 ((wrap64 (a0_2 + (l0_4.length : Int))) + 1)) then (if (l0_4.length : Int) < 60 then ((spec_l5LastTerm.f a0_0 a0_1 a0_2 a0_3 l0_4).bind fun t185 => (if a1_1 ≥ t185 then (some (decide (a1_1 ≤ a0_0))) else (some false))) else (some false)) else (some false)) else (if a1_0 = 3 then (if a1_2 > a0_2 then (some (decide (a1_2 ≤ (wrap64 (a0_2 + (l0_4.length : Int)))))) else (some false)) else (some false)))
def spec_l5Fits.T6 : Bool × List (List Nat × List Nat) := (true, [([], []), ([0], [0]), ([], []), ([2], [2]), ([1, 3], [1, 3]), ([4], [4]), ([5], [5]), ([6, 5], [5, 6]), ([7, 5], [5, 7]), ([8, 5], [5, 8]), ([5, 9], [5, 9]), ([10, 5], [10]), ([11], [11]), ([12, 11], [11, 12]), ([11], [11]), ([14, 11, 11], [11, 14]), ([13, 15, 11], [11, 13, 15]), ([11, 16], [11, 16]), ([17, 15], [17]), ([18], [18]), ([19, 18], [18, 19]), ([18], [18]), ([21, 18], [18, 21]), ([20, 22, 18], [18, 20, 22]), ([18, 23], [18, 23]), ([24, 18, 0, 1, 2, 3, 4, 5, 6, 7, 8, 9, 10, 11, 12, 13, 14, 15, 16, 17, 18, 19, 20, 21, 22, 23, 24], [24])])
def spec_l5Fits.B6 : List Nat := [0, 1, 0, 4, 15, 31, 63, 127, 255, 511, 1023, 2047, 4095, 8191, 4095, 20479, 65535, 131071, 262143, 524287, 1048575, 524287, 2621439, 8388607, 16777215, 33554431]
theorem spec_l5Fits.tab6 : rtab .any (opsOf Try.f105 6) = spec_l5Fits.T6 := by kernel_rfl
theorem spec_l5Fits.bits6 : waitsOk spec_l5Fits.T6.2 spec_l5Fits.B6 = true := by kernel_rfl
set_option maxHeartbeats 8000000 in
set_option maxRecDepth 100000 in
theorem spec_l5Fits.calls (a0_0 : Int) (a0_1 : Int) (a0_2 : Int) (a0_3 : Int) (A0_4 : Option Addr) (c0_4 : Nat) (l0_4 : List (S146)) (a1_0 : Int) (a1_1 : Int) (a1_2 : Int) (a1_3 : Int) (a1_4 : ByteArray) (r : Bool) (w : World) (hr0_4 : Kd.C k146 w A0_4 l0_4.length l0_4) (hc0_4 : l0_4.length ≤ c0_4) (h : spec_l5Fits.f a0_0 a0_1 a0_2 a0_3 l0_4 a1_0 a1_1 a1_2 a1_3 a1_4 = some r) :
  Calls Try.prog 105 #[.agg #[.int .i64 a0_0, .int .i64 a0_1, .int .i64 a0_2, .int .i64 a0_3, .slice A0_4 l0_4.length c0_4], .agg #[.int .i64 a1_0, .int .i64 a1_1, .int .i64 a1_2, .int .i64 a1_3, .string a1_4]] w fun e w' => e = .returned (.bool r) ∧ Below w.heap.size w w' := by
 have hu50 := Try.underlying50
 have hu96 := Try.underlying96
 have HR0_4 := Aside0.mk hr0_4
 have HC0_4 := Aside0.mk hc0_4
 clear hr0_4 hc0_4; have HB := Aside0.mk (Below.refl w.heap.size w)
 have H : (if a1_0 = 1 then (if a1_1 > a0_0 then (some true) else (if a1_1 = a0_0 then (if a0_1 = (-1) then (some true) else (some (a1_3 == a0_1))) else (some false))) else (if a1_0 = 2 then (if a1_2 = (wrap64 ((wrap64 (a0_2 + (l0_4.length : Int))) + 1)) then (if (l0_4.length : Int) < 60 then ((spec_l5LastTerm.f a0_0 a0_1 a0_2 a0_3 l0_4).bind fun t185 => (if a1_1 ≥ t185 then (some (decide (a1_1 ≤ a0_0))) else (some false))) else (some false)) else (some false)) else (if a1_0 = 3 then (if a1_2 > a0_2 then (some (decide (a1_2 ≤ (wrap64 (a0_2 + (l0_4.length : Int)))))) else (some false)) else (some false)))) = some r := h
 clear h
 by_cases c3 : a1_0 = 1
 ·rw [if_pos c3] at H
  have c3b0 : (a1_0 == 1) = true := beq_iff_eq.mpr c3
  have c3b1 : (a1_0 != 1) = false := bne_eq_false_iff_eq.mpr c3
  clear c3
  by_cases c4 : a1_1 > a0_0
  ·rw [if_pos c4] at H
   have c4b0 : decide (a0_0 < a1_1) = true := decide_eq_true c4
   clear c4; obtain rfl := Option.some.inj H
   go_enter Try.func105, Try.ntmps105
   go_wp2_with (first | ((with_reducible refine gate_dst (N := 2) rfl ?_); (try (refine gate_guard (by rfl) ?_; dsimp only)); refine box_event ?hg (N := 2) ?hd (cs := #[.int .i64 a0_0, .int .i64 a0_1, .int .i64 a0_2, .int .i64 a0_3, .slice A0_4 l0_4.length c0_4]) (t := 50) ?hr ?_; (case hd => rfl); (case hg => rfl); (case hr => first | (go_simp; done) | (go_simp; rfl)); intro gb183 hg w5 hbox hb; have BK183 := Aside0.mk (hbox); have GW183 := bs HB hg; have GE183 := bs HB hg; replace HB := bh HB hb; clear hb hbox hg) | ((with_reducible refine gate_dst (N := 3) rfl ?_); (try (refine gate_guard (by rfl) ?_; dsimp only)); refine box_event ?hg (N := 3) ?hd (cs := #[.int .i64 a1_0, .int .i64 a1_1, .int .i64 a1_2, .int .i64 a1_3, .string a1_4]) (t := 96) ?hr ?_; (case hd => rfl); (case hg => rfl); (case hr => first | (go_simp; done) | (go_simp; rfl)); intro gb184 hg w6 hbox hb; have BK184 := Aside0.mk (hbox); have GW184 := bs HB hg; have GE184 := bs HB hg; have NB183_184 := bl BK183 hg; have NB184_183 := bg BK183 hg; replace BK183 := bq BK183 hb; replace HB := bh HB hb; clear hb hbox hg; have hnb7 := NB183_184.out; have hnc7 := NB184_183.out; obtain ⟨hcz8_0, hcz8_1, hcz8_2, hcz8_3, hcz8_4⟩ := cs5 BK183; obtain ⟨hfz8_0, hfz8_1, hfz8_2, hfz8_3, hfz8_4⟩ := fs5 BK183; obtain ⟨hcz9_0, hcz9_1, hcz9_2, hcz9_3, hcz9_4⟩ := cs5 BK184; obtain ⟨hfz9_0, hfz9_1, hfz9_2, hfz9_3, hfz9_4⟩ := fs5 BK184))
   go_ret
   exact ⟨by first | rfl | (simp [errW_none, errW_some] <;> rfl) | (simp [*, errW_none, errW_some] <;> rfl), by repeat (first | (with_reducible first | exact HB.out | apply below_alloc | apply pw_below_drewN | apply below_drew1 | refine below_set ?_ GE183.out | refine below_set ?_ GE184.out) | exact HB.out)⟩
  ·rw [if_neg c4] at H
   have c4b0 : decide (a0_0 < a1_1) = false := decide_eq_false c4
   clear c4
   by_cases c10 : a1_1 = a0_0
   ·rw [if_pos c10] at H
    have c10b0 : (a1_1 == a0_0) = true := beq_iff_eq.mpr c10
    have c10b1 : (a1_1 != a0_0) = false := bne_eq_false_iff_eq.mpr c10
    clear c10
    by_cases c11 : a0_1 = (-1)
    ·rw [if_pos c11] at H
     have c11b0 : (a0_1 == (-1)) = true := beq_iff_eq.mpr c11
     have c11b1 : (a0_1 != (-1)) = false := bne_eq_false_iff_eq.mpr c11
     clear c11; obtain rfl := Option.some.inj H
     go_enter Try.func105, Try.ntmps105
     go_wp2_with (first | ((with_reducible refine gate_dst (N := 2) rfl ?_); (try (refine gate_guard (by rfl) ?_; dsimp only)); refine box_event ?hg (N := 2) ?hd (cs := #[.int .i64 a0_0, .int .i64 a0_1, .int .i64 a0_2, .int .i64 a0_3, .slice A0_4 l0_4.length c0_4]) (t := 50) ?hr ?_; (case hd => rfl); (case hg => rfl); (case hr => first | (go_simp; done) | (go_simp; rfl)); intro gb183 hg w12 hbox hb; have BK183 := Aside0.mk (hbox); have GW183 := bs HB hg; have GE183 := bs HB hg; replace HB := bh HB hb; clear hb hbox hg) | ((with_reducible refine gate_dst (N := 3) rfl ?_); (try (refine gate_guard (by rfl) ?_; dsimp only)); refine box_event ?hg (N := 3) ?hd (cs := #[.int .i64 a1_0, .int .i64 a1_1, .int .i64 a1_2, .int .i64 a1_3, .string a1_4]) (t := 96) ?hr ?_; (case hd => rfl); (case hg => rfl); (case hr => first | (go_simp; done) | (go_simp; rfl)); intro gb184 hg w13 hbox hb; have BK184 := Aside0.mk (hbox); have GW184 := bs HB hg; have GE184 := bs HB hg; have NB183_184 := bl BK183 hg; have NB184_183 := bg BK183 hg; replace BK183 := bq BK183 hb; replace HB := bh HB hb; clear hb hbox hg; have hnb14 := NB183_184.out; have hnc14 := NB184_183.out; obtain ⟨hcz15_0, hcz15_1, hcz15_2, hcz15_3, hcz15_4⟩ := cs5 BK183; obtain ⟨hfz15_0, hfz15_1, hfz15_2, hfz15_3, hfz15_4⟩ := fs5 BK183; obtain ⟨hcz16_0, hcz16_1, hcz16_2, hcz16_3, hcz16_4⟩ := cs5 BK184; obtain ⟨hfz16_0, hfz16_1, hfz16_2, hfz16_3, hfz16_4⟩ := fs5 BK184))
     go_ret
     exact ⟨by first | rfl | (simp [errW_none, errW_some] <;> rfl) | (simp [*, errW_none, errW_some] <;> rfl), by repeat (first | (with_reducible first | exact HB.out | apply below_alloc | apply pw_below_drewN | apply below_drew1 | refine below_set ?_ GE183.out | refine below_set ?_ GE184.out) | exact HB.out)⟩
    ·rw [if_neg c11] at H
     have c11b0 : (a0_1 == (-1)) = false := beq_eq_false_iff_ne.mpr c11
     have c11b1 : (a0_1 != (-1)) = true := bne_iff_ne.mpr c11
     obtain rfl := Option.some.inj H
     go_enter Try.func105, Try.ntmps105
     go_wp2_with (first | ((with_reducible refine gate_dst (N := 2) rfl ?_); (try (refine gate_guard (by rfl) ?_; dsimp only)); refine box_event ?hg (N := 2) ?hd (cs := #[.int .i64 a0_0, .int .i64 a0_1, .int .i64 a0_2, .int .i64 a0_3, .slice A0_4 l0_4.length c0_4]) (t := 50) ?hr ?_; (case hd => rfl); (case hg => rfl); (case hr => first | (go_simp; done) | (go_simp; rfl)); intro gb183 hg w17 hbox hb; have BK183 := Aside0.mk (hbox); have GW183 := bs HB hg; have GE183 := bs HB hg; replace HB := bh HB hb; clear hb hbox hg) | ((with_reducible refine gate_dst (N := 3) rfl ?_); (try (refine gate_guard (by rfl) ?_; dsimp only)); refine box_event ?hg (N := 3) ?hd (cs := #[.int .i64 a1_0, .int .i64 a1_1, .int .i64 a1_2, .int .i64 a1_3, .string a1_4]) (t := 96) ?hr ?_; (case hd => rfl); (case hg => rfl); (case hr => first | (go_simp; done) | (go_simp; rfl)); intro gb184 hg w18 hbox hb; have BK184 := Aside0.mk (hbox); have GW184 := bs HB hg; have GE184 := bs HB hg; have NB183_184 := bl BK183 hg; have NB184_183 := bg BK183 hg; replace BK183 := bq BK183 hb; replace HB := bh HB hb; clear hb hbox hg; have hnb19 := NB183_184.out; have hnc19 := NB184_183.out; obtain ⟨hcz20_0, hcz20_1, hcz20_2, hcz20_3, hcz20_4⟩ := cs5 BK183; obtain ⟨hfz20_0, hfz20_1, hfz20_2, hfz20_3, hfz20_4⟩ := fs5 BK183; obtain ⟨hcz21_0, hcz21_1, hcz21_2, hcz21_3, hcz21_4⟩ := cs5 BK184; obtain ⟨hfz21_0, hfz21_1, hfz21_2, hfz21_3, hfz21_4⟩ := fs5 BK184))
     go_ret
     exact ⟨by first | rfl | (simp [errW_none, errW_some] <;> rfl) | (simp [*, errW_none, errW_some] <;> rfl), by repeat (first | (with_reducible first | exact HB.out | apply below_alloc | apply pw_below_drewN | apply below_drew1 | refine below_set ?_ GE183.out | refine below_set ?_ GE184.out) | exact HB.out)⟩
   ·rw [if_neg c10] at H
    have c10b0 : (a1_1 == a0_0) = false := beq_eq_false_iff_ne.mpr c10
    have c10b1 : (a1_1 != a0_0) = true := bne_iff_ne.mpr c10
    obtain rfl := Option.some.inj H
    go_enter Try.func105, Try.ntmps105
    go_wp2_with (first | ((with_reducible refine gate_dst (N := 2) rfl ?_); (try (refine gate_guard (by rfl) ?_; dsimp only)); refine box_event ?hg (N := 2) ?hd (cs := #[.int .i64 a0_0, .int .i64 a0_1, .int .i64 a0_2, .int .i64 a0_3, .slice A0_4 l0_4.length c0_4]) (t := 50) ?hr ?_; (case hd => rfl); (case hg => rfl); (case hr => first | (go_simp; done) | (go_simp; rfl)); intro gb183 hg w22 hbox hb; have BK183 := Aside0.mk (hbox); have GW183 := bs HB hg; have GE183 := bs HB hg; replace HB := bh HB hb; clear hb hbox hg) | ((with_reducible refine gate_dst (N := 3) rfl ?_); (try (refine gate_guard (by rfl) ?_; dsimp only)); refine box_event ?hg (N := 3) ?hd (cs := #[.int .i64 a1_0, .int .i64 a1_1, .int .i64 a1_2, .int .i64 a1_3, .string a1_4]) (t := 96) ?hr ?_; (case hd => rfl); (case hg => rfl); (case hr => first | (go_simp; done) | (go_simp; rfl)); intro gb184 hg w23 hbox hb; have BK184 := Aside0.mk (hbox); have GW184 := bs HB hg; have GE184 := bs HB hg; have NB183_184 := bl BK183 hg; have NB184_183 := bg BK183 hg; replace BK183 := bq BK183 hb; replace HB := bh HB hb; clear hb hbox hg; have hnb24 := NB183_184.out; have hnc24 := NB184_183.out; obtain ⟨hcz25_0, hcz25_1, hcz25_2, hcz25_3, hcz25_4⟩ := cs5 BK183; obtain ⟨hfz25_0, hfz25_1, hfz25_2, hfz25_3, hfz25_4⟩ := fs5 BK183; obtain ⟨hcz26_0, hcz26_1, hcz26_2, hcz26_3, hcz26_4⟩ := cs5 BK184; obtain ⟨hfz26_0, hfz26_1, hfz26_2, hfz26_3, hfz26_4⟩ := fs5 BK184))
    go_ret
    exact ⟨by first | rfl | (simp [errW_none, errW_some] <;> rfl) | (simp [*, errW_none, errW_some] <;> rfl), by repeat (first | (with_reducible first | exact HB.out | apply below_alloc | apply pw_below_drewN | apply below_drew1 | refine below_set ?_ GE183.out | refine below_set ?_ GE184.out) | exact HB.out)⟩
 ·rw [if_neg c3] at H
  have c3b0 : (a1_0 == 1) = false := beq_eq_false_iff_ne.mpr c3
  have c3b1 : (a1_0 != 1) = true := bne_iff_ne.mpr c3
  by_cases c27 : a1_0 = 2
  ·rw [if_pos c27] at H
   have c27b0 : (a1_0 == 2) = true := beq_iff_eq.mpr c27
   have c27b1 : (a1_0 != 2) = false := bne_eq_false_iff_eq.mpr c27
   clear c27
   by_cases c28 : a1_2 = (wrap64 ((wrap64 (a0_2 + (l0_4.length : Int))) + 1))
   ·rw [if_pos c28] at H
    have c28b0 : (a1_2 == (wrap64 ((wrap64 (a0_2 + (l0_4.length : Int))) + 1))) = true := beq_iff_eq.mpr c28
    have c28b1 : (a1_2 != (wrap64 ((wrap64 (a0_2 + (l0_4.length : Int))) + 1))) = false := bne_eq_false_iff_eq.mpr c28
    clear c28
    by_cases c29 : (l0_4.length : Int) < 60
    ·rw [if_pos c29] at H
     have c29b0 : decide ((l0_4.length : Int) < 60) = true := decide_eq_true c29
     have c29b1 : decide (l0_4.length < 60) = true := decide_eq_true (by omega)
     clear c29; replace H := Option.bind_eq_some_iff.mp H
     obtain ⟨t185, A300, H⟩ := H
     replace H : (if a1_1 ≥ t185 then (some (decide (a1_1 ≤ a0_0))) else (some false)) = some r := H
     have A30 := Aside0.mk A300
     clear A300
     by_cases c31 : a1_1 ≥ t185
     ·rw [if_pos c31] at H
      have c31b0 : decide (t185 ≤ a1_1) = true := decide_eq_true c31
      clear c31; obtain rfl := Option.some.inj H
      go_enter Try.func105, Try.ntmps105
      try go_wp2_with (first | ((with_reducible refine gate_dst (N := 2) rfl ?_); (try (refine gate_guard (by rfl) ?_; dsimp only)); refine box_event ?hg (N := 2) ?hd (cs := #[.int .i64 a0_0, .int .i64 a0_1, .int .i64 a0_2, .int .i64 a0_3, .slice A0_4 l0_4.length c0_4]) (t := 50) ?hr ?_; (case hd => rfl); (case hg => rfl); (case hr => first | (go_simp; done) | (go_simp; rfl)); intro gb183 hg w32 hbox hb; have BK183 := Aside0.mk (hbox); have GW183 := bs HB hg; have GE183 := bs HB hg; replace HB := bh HB hb; clear hb hbox hg) | ((with_reducible refine gate_dst (N := 3) rfl ?_); (try (refine gate_guard (by rfl) ?_; dsimp only)); refine box_event ?hg (N := 3) ?hd (cs := #[.int .i64 a1_0, .int .i64 a1_1, .int .i64 a1_2, .int .i64 a1_3, .string a1_4]) (t := 96) ?hr ?_; (case hd => rfl); (case hg => rfl); (case hr => first | (go_simp; done) | (go_simp; rfl)); intro gb184 hg w33 hbox hb; have BK184 := Aside0.mk (hbox); have GW184 := bs HB hg; have GE184 := bs HB hg; have NB183_184 := bl BK183 hg; have NB184_183 := bg BK183 hg; replace BK183 := bq BK183 hb; replace HB := bh HB hb; clear hb hbox hg; have hnb34 := NB183_184.out; have hnc34 := NB184_183.out; obtain ⟨hcz35_0, hcz35_1, hcz35_2, hcz35_3, hcz35_4⟩ := cs5 BK183; obtain ⟨hfz35_0, hfz35_1, hfz35_2, hfz35_3, hfz35_4⟩ := fs5 BK183; obtain ⟨hcz36_0, hcz36_1, hcz36_2, hcz36_3, hcz36_4⟩ := cs5 BK184; obtain ⟨hfz36_0, hfz36_1, hfz36_2, hfz36_3, hfz36_4⟩ := fs5 BK184))
      have n0_ := Aside0.mk (blk_drew BK183.out)
      have n1_ := Aside0.mk (blk_drew BK184.out)
      have n2_ := Aside0.mk (below_drew1 HB.out)
      clear BK183 BK184 HB; have BK183 := n0_; have BK184 := n1_; have HB := n2_; clear n0_ n1_ n2_; refine start_ (n := 26) (S := fun w' => w'.cell? ⟨gb184, 0, none⟩ = some (.int .i64 a1_0) ∧ w'.cell? ⟨gb184, 1, none⟩ = some (.int .i64 a1_1) ∧ w'.cell? ⟨gb184, 2, none⟩ = some (.int .i64 a1_2) ∧ w'.cell? ⟨gb184, 3, none⟩ = some (.int .i64 a1_3) ∧ w'.cell? ⟨gb184, 4, none⟩ = some (.string a1_4) ∧ w'.cell? ⟨gb183, 0, none⟩ = some (.int .i64 a0_0) ∧ w'.cell? ⟨gb183, 1, none⟩ = some (.int .i64 a0_1) ∧ w'.cell? ⟨gb183, 2, none⟩ = some (.int .i64 a0_2) ∧ w'.cell? ⟨gb183, 3, none⟩ = some (.int .i64 a0_3) ∧ w'.cell? ⟨gb183, 4, none⟩ = some (.slice A0_4 l0_4.length c0_4)) (ds := []) #[ff,ff,ff,ff,ff,ff,ff,ff,ff,ff,ff,ff,ff,ff,ff,ff,ff,ff,ff,ff,ff,ff,ff,ff,ff,ff] (by kernel_rfl) rfl rfl ⟨bc BK184 0, bc BK184 1, bc BK184 2, bc BK184 3, bc BK184 4, bc BK183 0, bc BK183 1, bc BK183 2, bc BK183 3, bc BK183 4⟩ (fun hHeld => ?_); refine with_tabW spec_l5Fits.tab6 spec_l5Fits.bits6 (fun HT_ HW_ => ?_)
      generalize w33.drew = w37 at BK183 BK184 HB hHeld ⊢
      refine pu 0 42 (tb 26 1) HT_ ?_
      refine pu 2 44 (tb 26 5) HT_ ?_
      refine pu 3 45 (tb 26 13) HT_ ?_
      refine tk 1 43 (tb 26 15) rfl rfl HT_ HW_ hHeld (by rintro w' ⟨s0, s1, s2, s3, s4, s5, s6, s7, s8, s9⟩; go_simp; with_reducible rfl) ?_
      refine pu 4 46 (tb 26 31) HT_ ?_
      refine pu 5 47 (tb 26 63) HT_ ?_
      refine pu 6 48 (tb 26 127) HT_ ?_
      refine tk 7 49 (tb 26 255) rfl rfl HT_ HW_ hHeld (by rintro w' ⟨s0, s1, s2, s3, s4, s5, s6, s7, s8, s9⟩; go_simp; with_reducible rfl) ?_
      refine pu 8 50 (tb 26 511) HT_ ?_
      refine pu 9 51 (tb 26 1023) HT_ ?_
      refine pu 10 52 (tb 26 2047) HT_ ?_
      refine pu 11 53 (tb 26 4095) HT_ ?_
      refine pu 12 54 (tb 26 8191) HT_ ?_
      refine tk 13 55 (tb 26 16383) rfl rfl HT_ HW_ hHeld (by rintro w' ⟨s0, s1, s2, s3, s4, s5, s6, s7, s8, s9⟩; go_simp; with_reducible rfl) ?_
      refine tk 14 56 (tb 26 32767) rfl rfl HT_ HW_ hHeld (by rintro w' ⟨s0, s1, s2, s3, s4, s5, s6, s7, s8, s9⟩; go_simp; with_reducible rfl) ?_
      refine one_ (i := 15) (N := some 57) #[tt,tt,tt,tt,tt,tt,tt,tt,tt,tt,tt,tt,tt,tt,tt,tt,ff,ff,ff,ff,ff,ff,ff,ff,ff,ff] rfl rfl (one_of HT_.out (by kernel_rfl)) (by decide) (fun K hK => ?_)
      refine goes_ Try.func141 (by kernel_rfl) rfl #[.agg #[.int .i64 a0_0, .int .i64 a0_1, .int .i64 a0_2, .int .i64 a0_3, .slice A0_4 l0_4.length c0_4]] (by rfl) rfl rfl (by (try simp only [List.map_toArray, List.map_cons, List.map_nil]); first | done | rfl | (simp only [List.length_drop, List.length_take]; rfl)) ?_
      with_reducible refine (spec_l5LastTerm.calls a0_0 a0_1 a0_2 a0_3 _ _ l0_4 t185 _ ?side1 ?side2 A30.out).mono ?_
      (case side1 => repeat (first | exact (Kd.C_below HR0_4.out HB.out) | (with_reducible refine Kd.C_alloc ?_ _) | (with_reducible refine Kd.C_drewN ?_ _) | (with_reducible refine Kd.C_drew ?_)))
      (case side2 => exact HC0_4.out)
      rintro e w38 ⟨rfl, hb⟩
      refine ⟨_, rfl, ?_⟩
      replace BK183 := bq BK183 hb; replace BK184 := bq BK184 hb; replace HB := bh HB hb
      (try clear hb); (try clear hb2); (try clear hk); (try clear hi); refine hK.out _ _ ⟨bc BK184 0, bc BK184 1, bc BK184 2, bc BK184 3, bc BK184 4, bc BK183 0, bc BK183 1, bc BK183 2, bc BK183 3, bc BK183 4⟩ (fun hHeld => ?_)
      clear hK K; refine norm_ (a' := ?_) ?_ ?_
      rotate_left
      ·show Act.put _ (some 57) _ = _
       simp only [putL, i64_w, i32_w]; rfl
      refine pu 16 58 (tb 26 131071) HT_ ?_
      refine pu 17 59 (tb 26 262143) HT_ ?_
      refine pu 18 60 (tb 26 524287) HT_ ?_
      refine pu 19 61 (tb 26 1048575) HT_ ?_
      refine pu 21 63 (tb 26 3145727) HT_ ?_
      refine tk 20 62 (tb 26 4194303) rfl rfl HT_ HW_ hHeld (by rintro w' ⟨s0, s1, s2, s3, s4, s5, s6, s7, s8, s9⟩; go_simp; with_reducible rfl) ?_
      refine tk 22 64 (tb 26 8388607) rfl rfl HT_ HW_ hHeld (by rintro w' ⟨s0, s1, s2, s3, s4, s5, s6, s7, s8, s9⟩; go_simp; with_reducible rfl) ?_
      refine pu 23 65 (tb 26 16777215) HT_ ?_
      refine pu 24 66 (tb 26 33554431) HT_ ?_
      refine pu 25 4 (tb 26 67108863) HT_ ?_
      refine done_ (done_of HT_.out (by kernel_rfl)) ?_
      try go_wp2
      go_ret
      exact ⟨by first | rfl | (simp [errW_none, errW_some] <;> rfl) | (simp [*, errW_none, errW_some] <;> rfl), by repeat (first | (with_reducible first | exact HB.out | apply below_alloc | apply pw_below_drewN | apply below_drew1 | refine below_set ?_ GE183.out | refine below_set ?_ GE184.out) | exact HB.out)⟩
     ·rw [if_neg c31] at H
      have c31b0 : decide (t185 ≤ a1_1) = false := decide_eq_false c31
      clear c31; obtain rfl := Option.some.inj H
      go_enter Try.func105, Try.ntmps105
      try go_wp2_with (first | ((with_reducible refine gate_dst (N := 2) rfl ?_); (try (refine gate_guard (by rfl) ?_; dsimp only)); refine box_event ?hg (N := 2) ?hd (cs := #[.int .i64 a0_0, .int .i64 a0_1, .int .i64 a0_2, .int .i64 a0_3, .slice A0_4 l0_4.length c0_4]) (t := 50) ?hr ?_; (case hd => rfl); (case hg => rfl); (case hr => first | (go_simp; done) | (go_simp; rfl)); intro gb183 hg w39 hbox hb; have BK183 := Aside0.mk (hbox); have GW183 := bs HB hg; have GE183 := bs HB hg; replace HB := bh HB hb; clear hb hbox hg) | ((with_reducible refine gate_dst (N := 3) rfl ?_); (try (refine gate_guard (by rfl) ?_; dsimp only)); refine box_event ?hg (N := 3) ?hd (cs := #[.int .i64 a1_0, .int .i64 a1_1, .int .i64 a1_2, .int .i64 a1_3, .string a1_4]) (t := 96) ?hr ?_; (case hd => rfl); (case hg => rfl); (case hr => first | (go_simp; done) | (go_simp; rfl)); intro gb184 hg w40 hbox hb; have BK184 := Aside0.mk (hbox); have GW184 := bs HB hg; have GE184 := bs HB hg; have NB183_184 := bl BK183 hg; have NB184_183 := bg BK183 hg; replace BK183 := bq BK183 hb; replace HB := bh HB hb; clear hb hbox hg; have hnb41 := NB183_184.out; have hnc41 := NB184_183.out; obtain ⟨hcz42_0, hcz42_1, hcz42_2, hcz42_3, hcz42_4⟩ := cs5 BK183; obtain ⟨hfz42_0, hfz42_1, hfz42_2, hfz42_3, hfz42_4⟩ := fs5 BK183; obtain ⟨hcz43_0, hcz43_1, hcz43_2, hcz43_3, hcz43_4⟩ := cs5 BK184; obtain ⟨hfz43_0, hfz43_1, hfz43_2, hfz43_3, hfz43_4⟩ := fs5 BK184))
      have n0_ := Aside0.mk (blk_drew BK183.out)
      have n1_ := Aside0.mk (blk_drew BK184.out)
      have n2_ := Aside0.mk (below_drew1 HB.out)
      clear BK183 BK184 HB; have BK183 := n0_; have BK184 := n1_; have HB := n2_; clear n0_ n1_ n2_; refine start_ (n := 26) (S := fun w' => w'.cell? ⟨gb184, 0, none⟩ = some (.int .i64 a1_0) ∧ w'.cell? ⟨gb184, 1, none⟩ = some (.int .i64 a1_1) ∧ w'.cell? ⟨gb184, 2, none⟩ = some (.int .i64 a1_2) ∧ w'.cell? ⟨gb184, 3, none⟩ = some (.int .i64 a1_3) ∧ w'.cell? ⟨gb184, 4, none⟩ = some (.string a1_4) ∧ w'.cell? ⟨gb183, 0, none⟩ = some (.int .i64 a0_0) ∧ w'.cell? ⟨gb183, 1, none⟩ = some (.int .i64 a0_1) ∧ w'.cell? ⟨gb183, 2, none⟩ = some (.int .i64 a0_2) ∧ w'.cell? ⟨gb183, 3, none⟩ = some (.int .i64 a0_3) ∧ w'.cell? ⟨gb183, 4, none⟩ = some (.slice A0_4 l0_4.length c0_4)) (ds := []) #[ff,ff,ff,ff,ff,ff,ff,ff,ff,ff,ff,ff,ff,ff,ff,ff,ff,ff,ff,ff,ff,ff,ff,ff,ff,ff] (by kernel_rfl) rfl rfl ⟨bc BK184 0, bc BK184 1, bc BK184 2, bc BK184 3, bc BK184 4, bc BK183 0, bc BK183 1, bc BK183 2, bc BK183 3, bc BK183 4⟩ (fun hHeld => ?_); refine with_tabW spec_l5Fits.tab6 spec_l5Fits.bits6 (fun HT_ HW_ => ?_)
      generalize w40.drew = w44 at BK183 BK184 HB hHeld ⊢
      refine pu 0 42 (tb 26 1) HT_ ?_
      refine pu 2 44 (tb 26 5) HT_ ?_
      refine pu 3 45 (tb 26 13) HT_ ?_
      refine tk 1 43 (tb 26 15) rfl rfl HT_ HW_ hHeld (by rintro w' ⟨s0, s1, s2, s3, s4, s5, s6, s7, s8, s9⟩; go_simp; with_reducible rfl) ?_
      refine pu 4 46 (tb 26 31) HT_ ?_
      refine pu 5 47 (tb 26 63) HT_ ?_
      refine pu 6 48 (tb 26 127) HT_ ?_
      refine tk 7 49 (tb 26 255) rfl rfl HT_ HW_ hHeld (by rintro w' ⟨s0, s1, s2, s3, s4, s5, s6, s7, s8, s9⟩; go_simp; with_reducible rfl) ?_
      refine pu 8 50 (tb 26 511) HT_ ?_
      refine pu 9 51 (tb 26 1023) HT_ ?_
      refine pu 10 52 (tb 26 2047) HT_ ?_
      refine pu 11 53 (tb 26 4095) HT_ ?_
      refine pu 12 54 (tb 26 8191) HT_ ?_
      refine tk 13 55 (tb 26 16383) rfl rfl HT_ HW_ hHeld (by rintro w' ⟨s0, s1, s2, s3, s4, s5, s6, s7, s8, s9⟩; go_simp; with_reducible rfl) ?_
      refine tk 14 56 (tb 26 32767) rfl rfl HT_ HW_ hHeld (by rintro w' ⟨s0, s1, s2, s3, s4, s5, s6, s7, s8, s9⟩; go_simp; with_reducible rfl) ?_
      refine one_ (i := 15) (N := some 57) #[tt,tt,tt,tt,tt,tt,tt,tt,tt,tt,tt,tt,tt,tt,tt,tt,ff,ff,ff,ff,ff,ff,ff,ff,ff,ff] rfl rfl (one_of HT_.out (by kernel_rfl)) (by decide) (fun K hK => ?_)
      refine goes_ Try.func141 (by kernel_rfl) rfl #[.agg #[.int .i64 a0_0, .int .i64 a0_1, .int .i64 a0_2, .int .i64 a0_3, .slice A0_4 l0_4.length c0_4]] (by rfl) rfl rfl (by (try simp only [List.map_toArray, List.map_cons, List.map_nil]); first | done | rfl | (simp only [List.length_drop, List.length_take]; rfl)) ?_
      with_reducible refine (spec_l5LastTerm.calls a0_0 a0_1 a0_2 a0_3 _ _ l0_4 t185 _ ?side1 ?side2 A30.out).mono ?_
      (case side1 => repeat (first | exact (Kd.C_below HR0_4.out HB.out) | (with_reducible refine Kd.C_alloc ?_ _) | (with_reducible refine Kd.C_drewN ?_ _) | (with_reducible refine Kd.C_drew ?_)))
      (case side2 => exact HC0_4.out)
      rintro e w45 ⟨rfl, hb⟩
      refine ⟨_, rfl, ?_⟩
      replace BK183 := bq BK183 hb; replace BK184 := bq BK184 hb; replace HB := bh HB hb
      (try clear hb); (try clear hb2); (try clear hk); (try clear hi); refine hK.out _ _ ⟨bc BK184 0, bc BK184 1, bc BK184 2, bc BK184 3, bc BK184 4, bc BK183 0, bc BK183 1, bc BK183 2, bc BK183 3, bc BK183 4⟩ (fun hHeld => ?_)
      clear hK K; refine norm_ (a' := ?_) ?_ ?_
      rotate_left
      ·show Act.put _ (some 57) _ = _
       simp only [putL, i64_w, i32_w]; rfl
      refine pu 16 58 (tb 26 131071) HT_ ?_
      refine pu 17 59 (tb 26 262143) HT_ ?_
      refine pu 18 60 (tb 26 524287) HT_ ?_
      refine pn 19 61 (tb 26 1048575) HT_ ?_
      refine pn 20 62 (tb 26 2097151) HT_ ?_
      refine pn 21 63 (tb 26 4194303) HT_ ?_
      refine pn 22 64 (tb 26 8388607) HT_ ?_
      refine pn 23 65 (tb 26 16777215) HT_ ?_
      refine pu 24 66 (tb 26 33554431) HT_ ?_
      refine pu 25 4 (tb 26 67108863) HT_ ?_
      refine done_ (done_of HT_.out (by kernel_rfl)) ?_
      try go_wp2
      go_ret
      exact ⟨by first | rfl | (simp [errW_none, errW_some] <;> rfl) | (simp [*, errW_none, errW_some] <;> rfl), by repeat (first | (with_reducible first | exact HB.out | apply below_alloc | apply pw_below_drewN | apply below_drew1 | refine below_set ?_ GE183.out | refine below_set ?_ GE184.out) | exact HB.out)⟩
    ·rw [if_neg c29] at H
     have c29b0 : decide ((l0_4.length : Int) < 60) = false := decide_eq_false c29
     have c29b1 : decide (l0_4.length < 60) = false := decide_eq_false (by omega)
     clear c29; obtain rfl := Option.some.inj H
     go_enter Try.func105, Try.ntmps105
     try go_wp2_with (first | ((with_reducible refine gate_dst (N := 2) rfl ?_); (try (refine gate_guard (by rfl) ?_; dsimp only)); refine box_event ?hg (N := 2) ?hd (cs := #[.int .i64 a0_0, .int .i64 a0_1, .int .i64 a0_2, .int .i64 a0_3, .slice A0_4 l0_4.length c0_4]) (t := 50) ?hr ?_; (case hd => rfl); (case hg => rfl); (case hr => first | (go_simp; done) | (go_simp; rfl)); intro gb183 hg w46 hbox hb; have BK183 := Aside0.mk (hbox); have GW183 := bs HB hg; have GE183 := bs HB hg; replace HB := bh HB hb; clear hb hbox hg) | ((with_reducible refine gate_dst (N := 3) rfl ?_); (try (refine gate_guard (by rfl) ?_; dsimp only)); refine box_event ?hg (N := 3) ?hd (cs := #[.int .i64 a1_0, .int .i64 a1_1, .int .i64 a1_2, .int .i64 a1_3, .string a1_4]) (t := 96) ?hr ?_; (case hd => rfl); (case hg => rfl); (case hr => first | (go_simp; done) | (go_simp; rfl)); intro gb184 hg w47 hbox hb; have BK184 := Aside0.mk (hbox); have GW184 := bs HB hg; have GE184 := bs HB hg; have NB183_184 := bl BK183 hg; have NB184_183 := bg BK183 hg; replace BK183 := bq BK183 hb; replace HB := bh HB hb; clear hb hbox hg; have hnb48 := NB183_184.out; have hnc48 := NB184_183.out; obtain ⟨hcz49_0, hcz49_1, hcz49_2, hcz49_3, hcz49_4⟩ := cs5 BK183; obtain ⟨hfz49_0, hfz49_1, hfz49_2, hfz49_3, hfz49_4⟩ := fs5 BK183; obtain ⟨hcz50_0, hcz50_1, hcz50_2, hcz50_3, hcz50_4⟩ := cs5 BK184; obtain ⟨hfz50_0, hfz50_1, hfz50_2, hfz50_3, hfz50_4⟩ := fs5 BK184))
     have n0_ := Aside0.mk (blk_drew BK183.out)
     have n1_ := Aside0.mk (blk_drew BK184.out)
     have n2_ := Aside0.mk (below_drew1 HB.out)
     clear BK183 BK184 HB; have BK183 := n0_; have BK184 := n1_; have HB := n2_; clear n0_ n1_ n2_; refine start_ (n := 26) (S := fun w' => w'.cell? ⟨gb184, 0, none⟩ = some (.int .i64 a1_0) ∧ w'.cell? ⟨gb184, 1, none⟩ = some (.int .i64 a1_1) ∧ w'.cell? ⟨gb184, 2, none⟩ = some (.int .i64 a1_2) ∧ w'.cell? ⟨gb184, 3, none⟩ = some (.int .i64 a1_3) ∧ w'.cell? ⟨gb184, 4, none⟩ = some (.string a1_4) ∧ w'.cell? ⟨gb183, 0, none⟩ = some (.int .i64 a0_0) ∧ w'.cell? ⟨gb183, 1, none⟩ = some (.int .i64 a0_1) ∧ w'.cell? ⟨gb183, 2, none⟩ = some (.int .i64 a0_2) ∧ w'.cell? ⟨gb183, 3, none⟩ = some (.int .i64 a0_3) ∧ w'.cell? ⟨gb183, 4, none⟩ = some (.slice A0_4 l0_4.length c0_4)) (ds := []) #[ff,ff,ff,ff,ff,ff,ff,ff,ff,ff,ff,ff,ff,ff,ff,ff,ff,ff,ff,ff,ff,ff,ff,ff,ff,ff] (by kernel_rfl) rfl rfl ⟨bc BK184 0, bc BK184 1, bc BK184 2, bc BK184 3, bc BK184 4, bc BK183 0, bc BK183 1, bc BK183 2, bc BK183 3, bc BK183 4⟩ (fun hHeld => ?_); refine with_tabW spec_l5Fits.tab6 spec_l5Fits.bits6 (fun HT_ HW_ => ?_)
     generalize w47.drew = w51 at BK183 BK184 HB hHeld ⊢
     refine pu 0 42 (tb 26 1) HT_ ?_
     refine pu 2 44 (tb 26 5) HT_ ?_
     refine pu 3 45 (tb 26 13) HT_ ?_
     refine tk 1 43 (tb 26 15) rfl rfl HT_ HW_ hHeld (by rintro w' ⟨s0, s1, s2, s3, s4, s5, s6, s7, s8, s9⟩; go_simp; with_reducible rfl) ?_
     refine pu 4 46 (tb 26 31) HT_ ?_
     refine pu 5 47 (tb 26 63) HT_ ?_
     refine pu 6 48 (tb 26 127) HT_ ?_
     refine tk 7 49 (tb 26 255) rfl rfl HT_ HW_ hHeld (by rintro w' ⟨s0, s1, s2, s3, s4, s5, s6, s7, s8, s9⟩; go_simp; with_reducible rfl) ?_
     refine pu 8 50 (tb 26 511) HT_ ?_
     refine pu 9 51 (tb 26 1023) HT_ ?_
     refine pu 10 52 (tb 26 2047) HT_ ?_
     refine pu 11 53 (tb 26 4095) HT_ ?_
     refine pn 12 54 (tb 26 8191) HT_ ?_
     refine pn 13 55 (tb 26 16383) HT_ ?_
     refine pn 14 56 (tb 26 32767) HT_ ?_
     refine pn 15 57 (tb 26 65535) HT_ ?_
     refine pn 16 58 (tb 26 131071) HT_ ?_
     refine pu 17 59 (tb 26 262143) HT_ ?_
     refine pu 18 60 (tb 26 524287) HT_ ?_
     refine pn 19 61 (tb 26 1048575) HT_ ?_
     refine pn 20 62 (tb 26 2097151) HT_ ?_
     refine pn 21 63 (tb 26 4194303) HT_ ?_
     refine pn 22 64 (tb 26 8388607) HT_ ?_
     refine pn 23 65 (tb 26 16777215) HT_ ?_
     refine pu 24 66 (tb 26 33554431) HT_ ?_
     refine pu 25 4 (tb 26 67108863) HT_ ?_
     refine done_ (done_of HT_.out (by kernel_rfl)) ?_
     try go_wp2
     go_ret
     exact ⟨by first | rfl | (simp [errW_none, errW_some] <;> rfl) | (simp [*, errW_none, errW_some] <;> rfl), by repeat (first | (with_reducible first | exact HB.out | apply below_alloc | apply pw_below_drewN | apply below_drew1 | refine below_set ?_ GE183.out | refine below_set ?_ GE184.out) | exact HB.out)⟩
   ·rw [if_neg c28] at H
    have c28b0 : (a1_2 == (wrap64 ((wrap64 (a0_2 + (l0_4.length : Int))) + 1))) = false := beq_eq_false_iff_ne.mpr c28
    have c28b1 : (a1_2 != (wrap64 ((wrap64 (a0_2 + (l0_4.length : Int))) + 1))) = true := bne_iff_ne.mpr c28
    obtain rfl := Option.some.inj H
    go_enter Try.func105, Try.ntmps105
    try go_wp2_with (first | ((with_reducible refine gate_dst (N := 2) rfl ?_); (try (refine gate_guard (by rfl) ?_; dsimp only)); refine box_event ?hg (N := 2) ?hd (cs := #[.int .i64 a0_0, .int .i64 a0_1, .int .i64 a0_2, .int .i64 a0_3, .slice A0_4 l0_4.length c0_4]) (t := 50) ?hr ?_; (case hd => rfl); (case hg => rfl); (case hr => first | (go_simp; done) | (go_simp; rfl)); intro gb183 hg w52 hbox hb; have BK183 := Aside0.mk (hbox); have GW183 := bs HB hg; have GE183 := bs HB hg; replace HB := bh HB hb; clear hb hbox hg) | ((with_reducible refine gate_dst (N := 3) rfl ?_); (try (refine gate_guard (by rfl) ?_; dsimp only)); refine box_event ?hg (N := 3) ?hd (cs := #[.int .i64 a1_0, .int .i64 a1_1, .int .i64 a1_2, .int .i64 a1_3, .string a1_4]) (t := 96) ?hr ?_; (case hd => rfl); (case hg => rfl); (case hr => first | (go_simp; done) | (go_simp; rfl)); intro gb184 hg w53 hbox hb; have BK184 := Aside0.mk (hbox); have GW184 := bs HB hg; have GE184 := bs HB hg; have NB183_184 := bl BK183 hg; have NB184_183 := bg BK183 hg; replace BK183 := bq BK183 hb; replace HB := bh HB hb; clear hb hbox hg; have hnb54 := NB183_184.out; have hnc54 := NB184_183.out; obtain ⟨hcz55_0, hcz55_1, hcz55_2, hcz55_3, hcz55_4⟩ := cs5 BK183; obtain ⟨hfz55_0, hfz55_1, hfz55_2, hfz55_3, hfz55_4⟩ := fs5 BK183; obtain ⟨hcz56_0, hcz56_1, hcz56_2, hcz56_3, hcz56_4⟩ := cs5 BK184; obtain ⟨hfz56_0, hfz56_1, hfz56_2, hfz56_3, hfz56_4⟩ := fs5 BK184))
    have n0_ := Aside0.mk (blk_drew BK183.out)
    have n1_ := Aside0.mk (blk_drew BK184.out)
    have n2_ := Aside0.mk (below_drew1 HB.out)
    clear BK183 BK184 HB; have BK183 := n0_; have BK184 := n1_; have HB := n2_; clear n0_ n1_ n2_; refine start_ (n := 26) (S := fun w' => w'.cell? ⟨gb184, 0, none⟩ = some (.int .i64 a1_0) ∧ w'.cell? ⟨gb184, 1, none⟩ = some (.int .i64 a1_1) ∧ w'.cell? ⟨gb184, 2, none⟩ = some (.int .i64 a1_2) ∧ w'.cell? ⟨gb184, 3, none⟩ = some (.int .i64 a1_3) ∧ w'.cell? ⟨gb184, 4, none⟩ = some (.string a1_4)) (ds := []) #[ff,ff,ff,ff,ff,ff,ff,ff,ff,ff,ff,ff,ff,ff,ff,ff,ff,ff,ff,ff,ff,ff,ff,ff,ff,ff] (by kernel_rfl) rfl rfl ⟨bc BK184 0, bc BK184 1, bc BK184 2, bc BK184 3, bc BK184 4⟩ (fun hHeld => ?_); refine with_tabW spec_l5Fits.tab6 spec_l5Fits.bits6 (fun HT_ HW_ => ?_)
    generalize w53.drew = w57 at BK183 BK184 HB hHeld ⊢
    refine pu 0 42 (tb 26 1) HT_ ?_
    refine pu 2 44 (tb 26 5) HT_ ?_
    refine pu 3 45 (tb 26 13) HT_ ?_
    refine tk 1 43 (tb 26 15) rfl rfl HT_ HW_ hHeld (by rintro w' ⟨s0, s1, s2, s3, s4⟩; go_simp; with_reducible rfl) ?_
    refine pu 4 46 (tb 26 31) HT_ ?_
    refine pu 5 47 (tb 26 63) HT_ ?_
    refine pn 6 48 (tb 26 127) HT_ ?_
    refine pn 7 49 (tb 26 255) HT_ ?_
    refine pn 8 50 (tb 26 511) HT_ ?_
    refine pn 9 51 (tb 26 1023) HT_ ?_
    refine pu 10 52 (tb 26 2047) HT_ ?_
    refine pu 11 53 (tb 26 4095) HT_ ?_
    refine pn 12 54 (tb 26 8191) HT_ ?_
    refine pn 13 55 (tb 26 16383) HT_ ?_
    refine pn 14 56 (tb 26 32767) HT_ ?_
    refine pn 15 57 (tb 26 65535) HT_ ?_
    refine pn 16 58 (tb 26 131071) HT_ ?_
    refine pu 17 59 (tb 26 262143) HT_ ?_
    refine pu 18 60 (tb 26 524287) HT_ ?_
    refine pn 19 61 (tb 26 1048575) HT_ ?_
    refine pn 20 62 (tb 26 2097151) HT_ ?_
    refine pn 21 63 (tb 26 4194303) HT_ ?_
    refine pn 22 64 (tb 26 8388607) HT_ ?_
    refine pn 23 65 (tb 26 16777215) HT_ ?_
    refine pu 24 66 (tb 26 33554431) HT_ ?_
    refine pu 25 4 (tb 26 67108863) HT_ ?_
    refine done_ (done_of HT_.out (by kernel_rfl)) ?_
    try go_wp2
    go_ret
    exact ⟨by first | rfl | (simp [errW_none, errW_some] <;> rfl) | (simp [*, errW_none, errW_some] <;> rfl), by repeat (first | (with_reducible first | exact HB.out | apply below_alloc | apply pw_below_drewN | apply below_drew1 | refine below_set ?_ GE183.out | refine below_set ?_ GE184.out) | exact HB.out)⟩
  ·rw [if_neg c27] at H
   have c27b0 : (a1_0 == 2) = false := beq_eq_false_iff_ne.mpr c27
   have c27b1 : (a1_0 != 2) = true := bne_iff_ne.mpr c27
   by_cases c58 : a1_0 = 3
   ·rw [if_pos c58] at H
    have c58b0 : (a1_0 == 3) = true := beq_iff_eq.mpr c58
    have c58b1 : (a1_0 != 3) = false := bne_eq_false_iff_eq.mpr c58
    clear c58
    by_cases c59 : a1_2 > a0_2
    ·rw [if_pos c59] at H
     have c59b0 : decide (a0_2 < a1_2) = true := decide_eq_true c59
     clear c59; obtain rfl := Option.some.inj H
     go_enter Try.func105, Try.ntmps105
     go_wp2_with (first | ((with_reducible refine gate_dst (N := 2) rfl ?_); (try (refine gate_guard (by rfl) ?_; dsimp only)); refine box_event ?hg (N := 2) ?hd (cs := #[.int .i64 a0_0, .int .i64 a0_1, .int .i64 a0_2, .int .i64 a0_3, .slice A0_4 l0_4.length c0_4]) (t := 50) ?hr ?_; (case hd => rfl); (case hg => rfl); (case hr => first | (go_simp; done) | (go_simp; rfl)); intro gb183 hg w60 hbox hb; have BK183 := Aside0.mk (hbox); have GW183 := bs HB hg; have GE183 := bs HB hg; replace HB := bh HB hb; clear hb hbox hg) | ((with_reducible refine gate_dst (N := 3) rfl ?_); (try (refine gate_guard (by rfl) ?_; dsimp only)); refine box_event ?hg (N := 3) ?hd (cs := #[.int .i64 a1_0, .int .i64 a1_1, .int .i64 a1_2, .int .i64 a1_3, .string a1_4]) (t := 96) ?hr ?_; (case hd => rfl); (case hg => rfl); (case hr => first | (go_simp; done) | (go_simp; rfl)); intro gb184 hg w61 hbox hb; have BK184 := Aside0.mk (hbox); have GW184 := bs HB hg; have GE184 := bs HB hg; have NB183_184 := bl BK183 hg; have NB184_183 := bg BK183 hg; replace BK183 := bq BK183 hb; replace HB := bh HB hb; clear hb hbox hg; have hnb62 := NB183_184.out; have hnc62 := NB184_183.out; obtain ⟨hcz63_0, hcz63_1, hcz63_2, hcz63_3, hcz63_4⟩ := cs5 BK183; obtain ⟨hfz63_0, hfz63_1, hfz63_2, hfz63_3, hfz63_4⟩ := fs5 BK183; obtain ⟨hcz64_0, hcz64_1, hcz64_2, hcz64_3, hcz64_4⟩ := cs5 BK184; obtain ⟨hfz64_0, hfz64_1, hfz64_2, hfz64_3, hfz64_4⟩ := fs5 BK184))
     go_ret
     exact ⟨by first | rfl | (simp [errW_none, errW_some] <;> rfl) | (simp [*, errW_none, errW_some] <;> rfl), by repeat (first | (with_reducible first | exact HB.out | apply below_alloc | apply pw_below_drewN | apply below_drew1 | refine below_set ?_ GE183.out | refine below_set ?_ GE184.out) | exact HB.out)⟩
    ·rw [if_neg c59] at H
     have c59b0 : decide (a0_2 < a1_2) = false := decide_eq_false c59
     clear c59; obtain rfl := Option.some.inj H
     go_enter Try.func105, Try.ntmps105
     go_wp2_with (first | ((with_reducible refine gate_dst (N := 2) rfl ?_); (try (refine gate_guard (by rfl) ?_; dsimp only)); refine box_event ?hg (N := 2) ?hd (cs := #[.int .i64 a0_0, .int .i64 a0_1, .int .i64 a0_2, .int .i64 a0_3, .slice A0_4 l0_4.length c0_4]) (t := 50) ?hr ?_; (case hd => rfl); (case hg => rfl); (case hr => first | (go_simp; done) | (go_simp; rfl)); intro gb183 hg w65 hbox hb; have BK183 := Aside0.mk (hbox); have GW183 := bs HB hg; have GE183 := bs HB hg; replace HB := bh HB hb; clear hb hbox hg) | ((with_reducible refine gate_dst (N := 3) rfl ?_); (try (refine gate_guard (by rfl) ?_; dsimp only)); refine box_event ?hg (N := 3) ?hd (cs := #[.int .i64 a1_0, .int .i64 a1_1, .int .i64 a1_2, .int .i64 a1_3, .string a1_4]) (t := 96) ?hr ?_; (case hd => rfl); (case hg => rfl); (case hr => first | (go_simp; done) | (go_simp; rfl)); intro gb184 hg w66 hbox hb; have BK184 := Aside0.mk (hbox); have GW184 := bs HB hg; have GE184 := bs HB hg; have NB183_184 := bl BK183 hg; have NB184_183 := bg BK183 hg; replace BK183 := bq BK183 hb; replace HB := bh HB hb; clear hb hbox hg; have hnb67 := NB183_184.out; have hnc67 := NB184_183.out; obtain ⟨hcz68_0, hcz68_1, hcz68_2, hcz68_3, hcz68_4⟩ := cs5 BK183; obtain ⟨hfz68_0, hfz68_1, hfz68_2, hfz68_3, hfz68_4⟩ := fs5 BK183; obtain ⟨hcz69_0, hcz69_1, hcz69_2, hcz69_3, hcz69_4⟩ := cs5 BK184; obtain ⟨hfz69_0, hfz69_1, hfz69_2, hfz69_3, hfz69_4⟩ := fs5 BK184))
     go_ret
     exact ⟨by first | rfl | (simp [errW_none, errW_some] <;> rfl) | (simp [*, errW_none, errW_some] <;> rfl), by repeat (first | (with_reducible first | exact HB.out | apply below_alloc | apply pw_below_drewN | apply below_drew1 | refine below_set ?_ GE183.out | refine below_set ?_ GE184.out) | exact HB.out)⟩
   ·rw [if_neg c58] at H
    have c58b0 : (a1_0 == 3) = false := beq_eq_false_iff_ne.mpr c58
    have c58b1 : (a1_0 != 3) = true := bne_iff_ne.mpr c58
    obtain rfl := Option.some.inj H
    go_enter Try.func105, Try.ntmps105
    go_wp2_with (first | ((with_reducible refine gate_dst (N := 2) rfl ?_); (try (refine gate_guard (by rfl) ?_; dsimp only)); refine box_event ?hg (N := 2) ?hd (cs := #[.int .i64 a0_0, .int .i64 a0_1, .int .i64 a0_2, .int .i64 a0_3, .slice A0_4 l0_4.length c0_4]) (t := 50) ?hr ?_; (case hd => rfl); (case hg => rfl); (case hr => first | (go_simp; done) | (go_simp; rfl)); intro gb183 hg w70 hbox hb; have BK183 := Aside0.mk (hbox); have GW183 := bs HB hg; have GE183 := bs HB hg; replace HB := bh HB hb; clear hb hbox hg) | ((with_reducible refine gate_dst (N := 3) rfl ?_); (try (refine gate_guard (by rfl) ?_; dsimp only)); refine box_event ?hg (N := 3) ?hd (cs := #[.int .i64 a1_0, .int .i64 a1_1, .int .i64 a1_2, .int .i64 a1_3, .string a1_4]) (t := 96) ?hr ?_; (case hd => rfl); (case hg => rfl); (case hr => first | (go_simp; done) | (go_simp; rfl)); intro gb184 hg w71 hbox hb; have BK184 := Aside0.mk (hbox); have GW184 := bs HB hg; have GE184 := bs HB hg; have NB183_184 := bl BK183 hg; have NB184_183 := bg BK183 hg; replace BK183 := bq BK183 hb; replace HB := bh HB hb; clear hb hbox hg; have hnb72 := NB183_184.out; have hnc72 := NB184_183.out; obtain ⟨hcz73_0, hcz73_1, hcz73_2, hcz73_3, hcz73_4⟩ := cs5 BK183; obtain ⟨hfz73_0, hfz73_1, hfz73_2, hfz73_3, hfz73_4⟩ := fs5 BK183; obtain ⟨hcz74_0, hcz74_1, hcz74_2, hcz74_3, hcz74_4⟩ := cs5 BK184; obtain ⟨hfz74_0, hfz74_1, hfz74_2, hfz74_3, hfz74_4⟩ := fs5 BK184))
    go_ret
    exact ⟨by first | rfl | (simp [errW_none, errW_some] <;> rfl) | (simp [*, errW_none, errW_some] <;> rfl), by repeat (first | (with_reducible first | exact HB.out | apply below_alloc | apply pw_below_drewN | apply below_drew1 | refine below_set ?_ GE183.out | refine below_set ?_ GE184.out) | exact HB.out)⟩

end Go.Proofs.Ytobkmpihjfiihaa.PFnExactReplay
