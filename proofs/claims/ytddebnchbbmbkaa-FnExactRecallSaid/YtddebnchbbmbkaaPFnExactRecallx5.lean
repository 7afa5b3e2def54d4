-- The machine side of a law: written by a program of this session (wip/tools), a turned print.
import Derived.Test.YtddebnchbbmbkaaPFnExactRecallx0
import Derived.Test.YtddebnchbbmbkaaPFnExactRecallx4
namespace Go.Proofs.Ytddebnchbbmbkaa.PFnExactRecall
open Go.RowKit Go.Proofs.YtddebnchbbmbkaaW.PrintWords Go.Proofs.YtddebnchbbmbkaaW.PrintLast Go.Proofs.YtddebnchbbmbkaaW.PrintMore
attribute [local go_sem] max2_int min2_int max_two min_two max_three min_three max_four min_four   -- for this text's walks alone
set_option linter.unusedVariables false
set_option linter.unusedSimpArgs false
def impl_least.l0 : Nat → List Int → Int → Int → Int → List (S95) → Option (Int × Int)
 | 0, _, _, _, _, _ => none
 | k + 1, x1, x6, x7, x8, x133000 => if x8 < (x1.length : Int) then (if 0 ≤ (wrap64 (x8 - 1)) then (if (wrap64 (x8 - 1)) < (x1.length : Int) then (if 0 ≤ x8 then ((impl_Vocab_rank.f k x133000 (rd x1 (wrap64 (x8 - 1))) (rd x1 x8)).bind fun t135 => (if t135 ≥ 0 then (if x7 < 0 then (impl_least.l0 k x1 (wrap64 (x8 - 1)) t135 (wrap64 (x8 + 1)) x133000) else (if t135 < x7 then (impl_least.l0 k x1 (wrap64 (x8 - 1)) t135 (wrap64 (x8 + 1)) x133000) else (impl_least.l0 k x1 x6 x7 (wrap64 (x8 + 1)) x133000))) else (impl_least.l0 k x1 x6 x7 (wrap64 (x8 + 1)) x133000))) else (none)) else (none)) else (none)) else (some (x6, x7))
def impl_least.f (k : Nat) (l0_0 : List (S95)) (l1 : List Int) : Option (Int × Int) := impl_least.l0 k l1 (-1) (-1) 1 l0_0
theorem impl_least.mono_l : ∀ k, (∀ y0 y1 y2 y3 y4, LeO (impl_least.l0 k y0 y1 y2 y3 y4) (impl_least.l0 (k + 1) y0 y1 y2 y3 y4))
 | 0 => fun _ _ _ _ _ r h => by simp [impl_least.l0] at h
 | k + 1 => by
  have ih0 := impl_least.mono_l k
  ·intro y0 y1 y2 y3 y4
   unfold impl_least.l0
   repeat' first
   | (with_reducible exact ih0 _ _ _ _ _)
   | (with_reducible exact impl_Vocab_rank.mono _ _ _ _)
   | (with_reducible exact LeO.refl _)
   | (with_reducible exact LeO.none _)
   | (with_reducible refine LeO.ite ?_ ?_)
   | (with_reducible refine LeO.bind ?_ (fun _ => ?_))
   | exact ih0 _ _ _ _ _
   | exact impl_Vocab_rank.mono _ _ _ _
   | exact LeO.none _
   | refine LeO.ite ?_ ?_
   | refine LeO.bind ?_ (fun _ => ?_)
theorem impl_least.mono : ∀ a0 a1 k, LeO (impl_least.f k a0 a1) (impl_least.f (k + 1) a0 a1) := by
 intro a0 a1 k
 have ih0 := impl_least.mono_l k
 unfold impl_least.f
 repeat' first
   | (with_reducible exact ih0 _ _ _ _ _)
   | (with_reducible exact impl_Vocab_rank.mono _ _ _ _)
   | (with_reducible exact LeO.refl _)
   | (with_reducible exact LeO.none _)
   | (with_reducible refine LeO.ite ?_ ?_)
   | (with_reducible refine LeO.bind ?_ (fun _ => ?_))
   | exact ih0 _ _ _ _ _
   | exact impl_Vocab_rank.mono _ _ _ _
   | exact LeO.none _
   | refine LeO.ite ?_ ?_
   | refine LeO.bind ?_ (fun _ => ?_)
def impl_least.T5 : Bool × List (List Nat × List Nat) := (true, [([], []), ([], []), ([], []), ([2], [2]), ([1, 3], [1, 3]), ([4], [4]), ([], []), ([], []), ([6, 7], [6, 7]), ([8], [8]), ([0, 5, 9], [0, 5, 9]), ([10, 10, 0, 1, 2, 3, 4, 5, 6, 7, 8, 9, 10], [10])])
def impl_least.B5 : List Nat := [0, 0, 0, 4, 14, 30, 0, 0, 192, 448, 1023, 2047]
theorem impl_least.tab5 : rtab .any (opsOf Try.f85 5) = impl_least.T5 := by kernel_rfl
theorem impl_least.bits5 : waitsOk impl_least.T5.2 impl_least.B5 = true := by kernel_rfl
set_option maxHeartbeats 8000000 in
set_option maxRecDepth 100000 in
theorem impl_least.calls (k : Nat) (A0_0 : Option Addr) (c0_0 : Nat) (l0_0 : List (S95)) (A1 : Option Addr) (c1 : Nat) (l1 : List Int) (r1 : Int) (r2 : Int) (w : World) (hr0_0 : Kd.C k95 w A0_0 l0_0.length l0_0) (hc0_0 : l0_0.length ≤ c0_0) (hr1 : Kd.C (Kd.int .i64) w A1 l1.length l1) (hc1 : l1.length ≤ c1) (h : impl_least.f k l0_0 l1 = some (r1, r2)) :
  Calls Try.prog 85 #[.agg #[.slice A0_0 l0_0.length c0_0], .slice A1 l1.length c1] w fun e w' => e = .returned (.tuple #[.int .i64 r1, .int .i64 r2]) ∧ Below w.heap.size w w' := by
 have hu26 := Try.underlying26
 have HR0_0 := Aside0.mk hr0_0
 have HC0_0 := Aside0.mk hc0_0
 clear hr0_0 hc0_0; have HR1 := Aside0.mk hr1
 have HC1 := Aside0.mk hc1
 clear hr1 hc1; have HB := Aside0.mk (Below.refl w.heap.size w)
 have H : (impl_least.l0 k l1 (-1) (-1) 1 l0_0) = some (r1, r2) := h
 clear h; have H' := Aside0.mk H
 clear H
 go_enter Try.func85, Try.ntmps85
 go_wp2_with (first | ((with_reducible refine gate_dst (N := 2) rfl ?_); refine bX 2 #[.slice A0_0 l0_0.length c0_0] 26 ?_; intro gb132 hg w3 hbox hb; have c9a := Aside0.mk (hbox); have GW132 := bs HB hg; have f9a := bs HB hg; replace HB := bh HB hb; clear hb hbox hg))
 go_loopg [6, 7, 8] k (fun kq v6 v7 v8 w' => ∃ (x6_1 : Int) (x7_1 : Int) (x8_1 : Int), v6 = .int .i64 x6_1 ∧ v7 = .int .i64 x7_1 ∧ v8 = .int .i64 x8_1 ∧ Aside0 (impl_least.l0 kq l1 x6_1 x7_1 x8_1 l0_0 = some (r1, r2)) ∧ Aside0 (kq ≤ k) ∧ Aside0 (w'.heap[gb132]? = some (.cells #[(.slice A0_0 l0_0.length c0_0)] 26 (0, 0))) ∧ Aside0 (Below w.heap.size w w'))
 case atStart => exact ⟨((-1)), ((-1)), (1), sR, sR, sR, H', ⟨Nat.le_refl _⟩, ⟨bb c9a⟩, ⟨iB HB⟩⟩
 case round =>
  clear H'
  obtain ⟨x6_1, x7_1, x8_1, rfl, rfl, rfl, HA, HK1, c9a, HB⟩ := hrel
  cases gk with
  | zero => exact absurd HA.out (by simp [impl_least.l0])
  | succ k1 =>
   have H := HA.out; clear HA; simp only [impl_least.l0] at H
   by_cases c4 : x8_1 < (l1.length : Int)
   ·rw [if_pos c4] at H
    have c4b0 : decide (x8_1 < (l1.length : Int)) = true := decide_eq_true c4
    clear c4; obtain ⟨ji5, hji5⟩ : ∃ j_ : Int, (wrap64 (x8_1 - 1)) = j_ := ⟨_, rfl⟩
    replace H : (if 0 ≤ (ji5) then (if (ji5) < (l1.length : Int) then (if 0 ≤ x8_1 then ((impl_Vocab_rank.f k1 l0_0 (rd l1 (ji5)) (rd l1 x8_1)).bind fun t135 => (if t135 ≥ 0 then (if x7_1 < 0 then (impl_least.l0 k1 l1 ji5 t135 (wrap64 (x8_1 + 1)) l0_0) else (if t135 < x7_1 then (impl_least.l0 k1 l1 ji5 t135 (wrap64 (x8_1 + 1)) l0_0) else (impl_least.l0 k1 l1 x6_1 x7_1 (wrap64 (x8_1 + 1)) l0_0))) else (impl_least.l0 k1 l1 x6_1 x7_1 (wrap64 (x8_1 + 1)) l0_0))) else (none)) else (none)) else (none)) = some (r1, r2) := by first | (rw [hji5] at H; exact H) | (simp only [hji5] at H ⊢; exact H)
    have hji5w : (IntKind.i64.wrap (x8_1 - 1)) = ji5 := (i64_w _).trans hji5
    by_cases c6 : 0 ≤ (ji5)
    ·rw [if_pos c6] at H
     have c6b0 : decide (0 ≤ (ji5)) = true := decide_eq_true c6
     clear c6
     by_cases c7 : (ji5) < (l1.length : Int)
     ·rw [if_pos c7] at H
      have c7b0 : decide ((ji5) < (l1.length : Int)) = true := decide_eq_true c7
      clear c7
      by_cases c8 : 0 ≤ x8_1
      ·rw [if_pos c8] at H
       have c8b0 : decide (0 ≤ x8_1) = true := decide_eq_true c8
       clear c8; replace H := Option.bind_eq_some_iff.mp H
       obtain ⟨t135, A90, H⟩ := H
       replace H : (if t135 ≥ 0 then (if x7_1 < 0 then (impl_least.l0 k1 l1 ji5 t135 (wrap64 (x8_1 + 1)) l0_0) else (if t135 < x7_1 then (impl_least.l0 k1 l1 ji5 t135 (wrap64 (x8_1 + 1)) l0_0) else (impl_least.l0 k1 l1 x6_1 x7_1 (wrap64 (x8_1 + 1)) l0_0))) else (impl_least.l0 k1 l1 x6_1 x7_1 (wrap64 (x8_1 + 1)) l0_0)) = some (r1, r2) := H
       have A9 := Aside0.mk A90
       clear A90
       by_cases c10 : t135 ≥ 0
       ·rw [if_pos c10] at H
        have c10b0 : decide (0 ≤ t135) = true := decide_eq_true c10
        clear c10
        by_cases c11 : x7_1 < 0
        ·rw [if_pos c11] at H
         have c11b0 : decide (x7_1 < 0) = true := decide_eq_true c11
         clear c11; have H' := Aside0.mk H
         clear H
         try go_wp2
         have n0_ := Aside0.mk (blk_drew c9a.out)
         have n1_ := Aside0.mk (below_drew1 HB.out)
         clear c9a HB; have c9a := n0_; have HB := n1_; clear n0_ n1_; have p133 : 0 ≤ ((ji5) : Int) := oD
         have q133 : (ji5) < (l1.length : Int) := oD
         obtain ⟨d9a, e133, a9a⟩ := Kd.at_int HR1.out (ji5) p133 q133
         have hw133_0 := a9a
         cases e133
         replace a9a := (HB.out.cell (World.block_lt_of_cell? w _ a9a)).trans a9a
         replace p133 := eq_true p133
         replace q133 := eq_true q133
         have p134 : 0 ≤ (x8_1 : Int) := oD
         have q134 : x8_1 < (l1.length : Int) := oD
         obtain ⟨e9a, e134, b9a⟩ := Kd.at_int HR1.out x8_1 p134 q134
         have hw134_0 := b9a
         obtain rfl : d9a = e9a := (by injection e134)
         replace b9a := (HB.out.cell (World.block_lt_of_cell? w _ b9a)).trans b9a
         replace p134 := eq_true p134
         replace q134 := eq_true q134
         refine start_ (n := 12) (S := fun w' => w'.cell? ⟨gb132, 0, none⟩ = some (.slice A0_0 l0_0.length c0_0) ∧ w'.cell? (d9a.add ((ji5)).toNat) = some (.int .i64 (rd l1 (ji5))) ∧ w'.cell? (d9a.add (x8_1).toNat) = some (.int .i64 (rd l1 x8_1))) (ds := []) #[ff,ff,ff,ff,ff,ff,ff,ff,ff,ff,ff,ff] (by kernel_rfl) rfl rfl ⟨bc c9a 0, ((HB.out.cell (World.block_lt_of_cell? w _ hw133_0)).trans hw133_0), ((HB.out.cell (World.block_lt_of_cell? w _ hw134_0)).trans hw134_0)⟩ (fun hHeld => ?_); refine with_tabW impl_least.tab5 impl_least.bits5 (fun HT_ HW_ => ?_)
         generalize wr.drew = w12 at c9a HB a9a b9a hHeld ⊢
         refine pu 1 17 (tb 12 2) HT_ ?_
         refine pu 2 18 (tb 12 6) HT_ ?_
         refine pu 3 19 (tb 12 14) HT_ ?_
         refine pu 4 20 (tb 12 30) HT_ ?_
         refine pu 6 22 (tb 12 94) HT_ ?_
         refine pu 7 23 (tb 12 222) HT_ ?_
         refine pu 8 24 (tb 12 478) HT_ ?_
         refine tk 0 16 (tb 12 479) rfl rfl HT_ HW_ hHeld (by rintro w' ⟨s0, s1, s2⟩; go_simp; with_reducible rfl) ?_
         refine tk 5 21 (tb 12 511) rfl rfl HT_ HW_ hHeld (by rintro w' ⟨s0, s1, s2⟩; go_simp; with_reducible rfl) ?_
         refine tk 9 25 (tb 12 1023) rfl rfl HT_ HW_ hHeld (by rintro w' ⟨s0, s1, s2⟩; go_simp; with_reducible rfl) ?_
         refine one_ (i := 10) (N := some 26) #[tt,tt,tt,tt,tt,tt,tt,tt,tt,tt,tt,ff] rfl rfl (one_of HT_.out (by kernel_rfl)) (by decide) (fun K hK => ?_)
         refine goes_ Try.func96 (by kernel_rfl) rfl #[.agg #[.slice A0_0 l0_0.length c0_0], .int .i64 (rd l1 (ji5)), .int .i64 (rd l1 x8_1)] (by rfl) rfl rfl (by (try simp only [List.map_toArray, List.map_cons, List.map_nil]); first | done | (simp only [hji5]; rfl) | rfl | (simp only [List.length_drop, List.length_take]; rfl)) ?_
         with_reducible refine (impl_Vocab_rank.calls k1 _ _ l0_0 (rd l1 (ji5)) (rd l1 x8_1) t135 _ ?side1 ?side2 A9.out).mono ?_
         (case side1 => exact cX (Kd.C_below HR0_0.out HB.out))
         (case side2 => exact HC0_0.out)
         rintro e w13 ⟨rfl, hb⟩
         refine ⟨_, rfl, ?_⟩
         replace c9a := bq c9a hb; replace HB := bh HB hb
         (try clear hb); (try clear hb2); (try clear hk); (try clear hi); refine hK.out _ _ ⟨bc c9a 0, ((HB.out.cell (World.block_lt_of_cell? w _ hw133_0)).trans hw133_0), ((HB.out.cell (World.block_lt_of_cell? w _ hw134_0)).trans hw134_0)⟩ (fun hHeld => ?_)
         clear hK K; refine norm_ (a' := ?_) ?_ ?_
         rotate_left
         ·show Act.put _ (some 26) _ = _
          simp only [putL, i64_w, i32_w]; rfl
         refine pu 11 9 (tb 12 4095) HT_ ?_
         refine done_ (done_of HT_.out (by kernel_rfl)) ?_
         try go_wp2
         go_roundg k1
         case measure => have := HK1.out; omega
         case rel => exact ⟨(ji5), (t135), (wrap64 (x8_1 + 1)), (by first | rfl | (simp; done) | (simp only [← hji5] <;> (first | rfl | simp)) | (simp [*]; done)), sR, sR, H', ⟨by have := HK1.out; omega⟩, ⟨bb c9a⟩, ⟨iB HB⟩⟩
        ·rw [if_neg c11] at H
         have c11b0 : decide (x7_1 < 0) = false := decide_eq_false c11
         clear c11
         by_cases c14 : t135 < x7_1
         ·rw [if_pos c14] at H
          have c14b0 : decide (t135 < x7_1) = true := decide_eq_true c14
          clear c14; have H' := Aside0.mk H
          clear H
          try go_wp2
          have n0_ := Aside0.mk (blk_drew c9a.out)
          have n1_ := Aside0.mk (below_drew1 HB.out)
          clear c9a HB; have c9a := n0_; have HB := n1_; clear n0_ n1_; have p133 : 0 ≤ ((ji5) : Int) := oD
          have q133 : (ji5) < (l1.length : Int) := oD
          obtain ⟨d9a, e133, a9a⟩ := Kd.at_int HR1.out (ji5) p133 q133
          have hw133_0 := a9a
          cases e133
          replace a9a := (HB.out.cell (World.block_lt_of_cell? w _ a9a)).trans a9a
          replace p133 := eq_true p133
          replace q133 := eq_true q133
          have p134 : 0 ≤ (x8_1 : Int) := oD
          have q134 : x8_1 < (l1.length : Int) := oD
          obtain ⟨e9a, e134, b9a⟩ := Kd.at_int HR1.out x8_1 p134 q134
          have hw134_0 := b9a
          obtain rfl : d9a = e9a := (by injection e134)
          replace b9a := (HB.out.cell (World.block_lt_of_cell? w _ b9a)).trans b9a
          replace p134 := eq_true p134
          replace q134 := eq_true q134
          refine start_ (n := 12) (S := fun w' => w'.cell? ⟨gb132, 0, none⟩ = some (.slice A0_0 l0_0.length c0_0) ∧ w'.cell? (d9a.add ((ji5)).toNat) = some (.int .i64 (rd l1 (ji5))) ∧ w'.cell? (d9a.add (x8_1).toNat) = some (.int .i64 (rd l1 x8_1))) (ds := []) #[ff,ff,ff,ff,ff,ff,ff,ff,ff,ff,ff,ff] (by kernel_rfl) rfl rfl ⟨bc c9a 0, ((HB.out.cell (World.block_lt_of_cell? w _ hw133_0)).trans hw133_0), ((HB.out.cell (World.block_lt_of_cell? w _ hw134_0)).trans hw134_0)⟩ (fun hHeld => ?_); refine with_tabW impl_least.tab5 impl_least.bits5 (fun HT_ HW_ => ?_)
          generalize wr.drew = w15 at c9a HB a9a b9a hHeld ⊢
          refine pu 1 17 (tb 12 2) HT_ ?_
          refine pu 2 18 (tb 12 6) HT_ ?_
          refine pu 3 19 (tb 12 14) HT_ ?_
          refine pu 4 20 (tb 12 30) HT_ ?_
          refine pu 6 22 (tb 12 94) HT_ ?_
          refine pu 7 23 (tb 12 222) HT_ ?_
          refine pu 8 24 (tb 12 478) HT_ ?_
          refine tk 0 16 (tb 12 479) rfl rfl HT_ HW_ hHeld (by rintro w' ⟨s0, s1, s2⟩; go_simp; with_reducible rfl) ?_
          refine tk 5 21 (tb 12 511) rfl rfl HT_ HW_ hHeld (by rintro w' ⟨s0, s1, s2⟩; go_simp; with_reducible rfl) ?_
          refine tk 9 25 (tb 12 1023) rfl rfl HT_ HW_ hHeld (by rintro w' ⟨s0, s1, s2⟩; go_simp; with_reducible rfl) ?_
          refine one_ (i := 10) (N := some 26) #[tt,tt,tt,tt,tt,tt,tt,tt,tt,tt,tt,ff] rfl rfl (one_of HT_.out (by kernel_rfl)) (by decide) (fun K hK => ?_)
          refine goes_ Try.func96 (by kernel_rfl) rfl #[.agg #[.slice A0_0 l0_0.length c0_0], .int .i64 (rd l1 (ji5)), .int .i64 (rd l1 x8_1)] (by rfl) rfl rfl (by (try simp only [List.map_toArray, List.map_cons, List.map_nil]); first | done | (simp only [hji5]; rfl) | rfl | (simp only [List.length_drop, List.length_take]; rfl)) ?_
          with_reducible refine (impl_Vocab_rank.calls k1 _ _ l0_0 (rd l1 (ji5)) (rd l1 x8_1) t135 _ ?side1 ?side2 A9.out).mono ?_
          (case side1 => exact cX (Kd.C_below HR0_0.out HB.out))
          (case side2 => exact HC0_0.out)
          rintro e w16 ⟨rfl, hb⟩
          refine ⟨_, rfl, ?_⟩
          replace c9a := bq c9a hb; replace HB := bh HB hb
          (try clear hb); (try clear hb2); (try clear hk); (try clear hi); refine hK.out _ _ ⟨bc c9a 0, ((HB.out.cell (World.block_lt_of_cell? w _ hw133_0)).trans hw133_0), ((HB.out.cell (World.block_lt_of_cell? w _ hw134_0)).trans hw134_0)⟩ (fun hHeld => ?_)
          clear hK K; refine norm_ (a' := ?_) ?_ ?_
          rotate_left
          ·show Act.put _ (some 26) _ = _
           simp only [putL, i64_w, i32_w]; rfl
          refine pu 11 9 (tb 12 4095) HT_ ?_
          refine done_ (done_of HT_.out (by kernel_rfl)) ?_
          try go_wp2
          go_roundg k1
          case measure => have := HK1.out; omega
          case rel => exact ⟨(ji5), (t135), (wrap64 (x8_1 + 1)), (by first | rfl | (simp; done) | (simp only [← hji5] <;> (first | rfl | simp)) | (simp [*]; done)), sR, sR, H', ⟨by have := HK1.out; omega⟩, ⟨bb c9a⟩, ⟨iB HB⟩⟩
         ·rw [if_neg c14] at H
          have c14b0 : decide (t135 < x7_1) = false := decide_eq_false c14
          clear c14; have H' := Aside0.mk H
          clear H
          try go_wp2
          have n0_ := Aside0.mk (blk_drew c9a.out)
          have n1_ := Aside0.mk (below_drew1 HB.out)
          clear c9a HB; have c9a := n0_; have HB := n1_; clear n0_ n1_; have p133 : 0 ≤ ((ji5) : Int) := oD
          have q133 : (ji5) < (l1.length : Int) := oD
          obtain ⟨d9a, e133, a9a⟩ := Kd.at_int HR1.out (ji5) p133 q133
          have hw133_0 := a9a
          cases e133
          replace a9a := (HB.out.cell (World.block_lt_of_cell? w _ a9a)).trans a9a
          replace p133 := eq_true p133
          replace q133 := eq_true q133
          have p134 : 0 ≤ (x8_1 : Int) := oD
          have q134 : x8_1 < (l1.length : Int) := oD
          obtain ⟨e9a, e134, b9a⟩ := Kd.at_int HR1.out x8_1 p134 q134
          have hw134_0 := b9a
          obtain rfl : d9a = e9a := (by injection e134)
          replace b9a := (HB.out.cell (World.block_lt_of_cell? w _ b9a)).trans b9a
          replace p134 := eq_true p134
          replace q134 := eq_true q134
          refine start_ (n := 12) (S := fun w' => w'.cell? ⟨gb132, 0, none⟩ = some (.slice A0_0 l0_0.length c0_0) ∧ w'.cell? (d9a.add ((ji5)).toNat) = some (.int .i64 (rd l1 (ji5))) ∧ w'.cell? (d9a.add (x8_1).toNat) = some (.int .i64 (rd l1 x8_1))) (ds := []) #[ff,ff,ff,ff,ff,ff,ff,ff,ff,ff,ff,ff] (by kernel_rfl) rfl rfl ⟨bc c9a 0, ((HB.out.cell (World.block_lt_of_cell? w _ hw133_0)).trans hw133_0), ((HB.out.cell (World.block_lt_of_cell? w _ hw134_0)).trans hw134_0)⟩ (fun hHeld => ?_); refine with_tabW impl_least.tab5 impl_least.bits5 (fun HT_ HW_ => ?_)
          generalize wr.drew = w17 at c9a HB a9a b9a hHeld ⊢
          refine pu 1 17 (tb 12 2) HT_ ?_
          refine pu 2 18 (tb 12 6) HT_ ?_
          refine pu 3 19 (tb 12 14) HT_ ?_
          refine pu 4 20 (tb 12 30) HT_ ?_
          refine pu 6 22 (tb 12 94) HT_ ?_
          refine pu 7 23 (tb 12 222) HT_ ?_
          refine pu 8 24 (tb 12 478) HT_ ?_
          refine tk 0 16 (tb 12 479) rfl rfl HT_ HW_ hHeld (by rintro w' ⟨s0, s1, s2⟩; go_simp; with_reducible rfl) ?_
          refine tk 5 21 (tb 12 511) rfl rfl HT_ HW_ hHeld (by rintro w' ⟨s0, s1, s2⟩; go_simp; with_reducible rfl) ?_
          refine tk 9 25 (tb 12 1023) rfl rfl HT_ HW_ hHeld (by rintro w' ⟨s0, s1, s2⟩; go_simp; with_reducible rfl) ?_
          refine one_ (i := 10) (N := some 26) #[tt,tt,tt,tt,tt,tt,tt,tt,tt,tt,tt,ff] rfl rfl (one_of HT_.out (by kernel_rfl)) (by decide) (fun K hK => ?_)
          refine goes_ Try.func96 (by kernel_rfl) rfl #[.agg #[.slice A0_0 l0_0.length c0_0], .int .i64 (rd l1 (ji5)), .int .i64 (rd l1 x8_1)] (by rfl) rfl rfl (by (try simp only [List.map_toArray, List.map_cons, List.map_nil]); first | done | (simp only [hji5]; rfl) | rfl | (simp only [List.length_drop, List.length_take]; rfl)) ?_
          with_reducible refine (impl_Vocab_rank.calls k1 _ _ l0_0 (rd l1 (ji5)) (rd l1 x8_1) t135 _ ?side1 ?side2 A9.out).mono ?_
          (case side1 => exact cX (Kd.C_below HR0_0.out HB.out))
          (case side2 => exact HC0_0.out)
          rintro e w18 ⟨rfl, hb⟩
          refine ⟨_, rfl, ?_⟩
          replace c9a := bq c9a hb; replace HB := bh HB hb
          (try clear hb); (try clear hb2); (try clear hk); (try clear hi); refine hK.out _ _ ⟨bc c9a 0, ((HB.out.cell (World.block_lt_of_cell? w _ hw133_0)).trans hw133_0), ((HB.out.cell (World.block_lt_of_cell? w _ hw134_0)).trans hw134_0)⟩ (fun hHeld => ?_)
          clear hK K; refine norm_ (a' := ?_) ?_ ?_
          rotate_left
          ·show Act.put _ (some 26) _ = _
           simp only [putL, i64_w, i32_w]; rfl
          refine pu 11 9 (tb 12 4095) HT_ ?_
          refine done_ (done_of HT_.out (by kernel_rfl)) ?_
          try go_wp2
          go_roundg k1
          case measure => have := HK1.out; omega
          case rel => exact ⟨(x6_1), (x7_1), (wrap64 (x8_1 + 1)), sR, sR, sR, H', ⟨by have := HK1.out; omega⟩, ⟨bb c9a⟩, ⟨iB HB⟩⟩
       ·rw [if_neg c10] at H
        have c10b0 : decide (0 ≤ t135) = false := decide_eq_false c10
        clear c10; have H' := Aside0.mk H
        clear H
        try go_wp2
        have n0_ := Aside0.mk (blk_drew c9a.out)
        have n1_ := Aside0.mk (below_drew1 HB.out)
        clear c9a HB; have c9a := n0_; have HB := n1_; clear n0_ n1_; have p133 : 0 ≤ ((ji5) : Int) := oD
        have q133 : (ji5) < (l1.length : Int) := oD
        obtain ⟨d9a, e133, a9a⟩ := Kd.at_int HR1.out (ji5) p133 q133
        have hw133_0 := a9a
        cases e133
        replace a9a := (HB.out.cell (World.block_lt_of_cell? w _ a9a)).trans a9a
        replace p133 := eq_true p133
        replace q133 := eq_true q133
        have p134 : 0 ≤ (x8_1 : Int) := oD
        have q134 : x8_1 < (l1.length : Int) := oD
        obtain ⟨e9a, e134, b9a⟩ := Kd.at_int HR1.out x8_1 p134 q134
        have hw134_0 := b9a
        obtain rfl : d9a = e9a := (by injection e134)
        replace b9a := (HB.out.cell (World.block_lt_of_cell? w _ b9a)).trans b9a
        replace p134 := eq_true p134
        replace q134 := eq_true q134
        refine start_ (n := 12) (S := fun w' => w'.cell? ⟨gb132, 0, none⟩ = some (.slice A0_0 l0_0.length c0_0) ∧ w'.cell? (d9a.add ((ji5)).toNat) = some (.int .i64 (rd l1 (ji5))) ∧ w'.cell? (d9a.add (x8_1).toNat) = some (.int .i64 (rd l1 x8_1))) (ds := []) #[ff,ff,ff,ff,ff,ff,ff,ff,ff,ff,ff,ff] (by kernel_rfl) rfl rfl ⟨bc c9a 0, ((HB.out.cell (World.block_lt_of_cell? w _ hw133_0)).trans hw133_0), ((HB.out.cell (World.block_lt_of_cell? w _ hw134_0)).trans hw134_0)⟩ (fun hHeld => ?_); refine with_tabW impl_least.tab5 impl_least.bits5 (fun HT_ HW_ => ?_)
        generalize wr.drew = w19 at c9a HB a9a b9a hHeld ⊢
        refine pu 1 17 (tb 12 2) HT_ ?_
        refine pu 2 18 (tb 12 6) HT_ ?_
        refine pu 3 19 (tb 12 14) HT_ ?_
        refine pu 4 20 (tb 12 30) HT_ ?_
        refine pu 6 22 (tb 12 94) HT_ ?_
        refine pu 7 23 (tb 12 222) HT_ ?_
        refine pu 8 24 (tb 12 478) HT_ ?_
        refine tk 0 16 (tb 12 479) rfl rfl HT_ HW_ hHeld (by rintro w' ⟨s0, s1, s2⟩; go_simp; with_reducible rfl) ?_
        refine tk 5 21 (tb 12 511) rfl rfl HT_ HW_ hHeld (by rintro w' ⟨s0, s1, s2⟩; go_simp; with_reducible rfl) ?_
        refine tk 9 25 (tb 12 1023) rfl rfl HT_ HW_ hHeld (by rintro w' ⟨s0, s1, s2⟩; go_simp; with_reducible rfl) ?_
        refine one_ (i := 10) (N := some 26) #[tt,tt,tt,tt,tt,tt,tt,tt,tt,tt,tt,ff] rfl rfl (one_of HT_.out (by kernel_rfl)) (by decide) (fun K hK => ?_)
        refine goes_ Try.func96 (by kernel_rfl) rfl #[.agg #[.slice A0_0 l0_0.length c0_0], .int .i64 (rd l1 (ji5)), .int .i64 (rd l1 x8_1)] (by rfl) rfl rfl (by (try simp only [List.map_toArray, List.map_cons, List.map_nil]); first | done | (simp only [hji5]; rfl) | rfl | (simp only [List.length_drop, List.length_take]; rfl)) ?_
        with_reducible refine (impl_Vocab_rank.calls k1 _ _ l0_0 (rd l1 (ji5)) (rd l1 x8_1) t135 _ ?side1 ?side2 A9.out).mono ?_
        (case side1 => exact cX (Kd.C_below HR0_0.out HB.out))
        (case side2 => exact HC0_0.out)
        rintro e w20 ⟨rfl, hb⟩
        refine ⟨_, rfl, ?_⟩
        replace c9a := bq c9a hb; replace HB := bh HB hb
        (try clear hb); (try clear hb2); (try clear hk); (try clear hi); refine hK.out _ _ ⟨bc c9a 0, ((HB.out.cell (World.block_lt_of_cell? w _ hw133_0)).trans hw133_0), ((HB.out.cell (World.block_lt_of_cell? w _ hw134_0)).trans hw134_0)⟩ (fun hHeld => ?_)
        clear hK K; refine norm_ (a' := ?_) ?_ ?_
        rotate_left
        ·show Act.put _ (some 26) _ = _
         simp only [putL, i64_w, i32_w]; rfl
        refine pu 11 9 (tb 12 4095) HT_ ?_
        refine done_ (done_of HT_.out (by kernel_rfl)) ?_
        try go_wp2
        go_roundg k1
        case measure => have := HK1.out; omega
        case rel => exact ⟨(x6_1), (x7_1), (wrap64 (x8_1 + 1)), sR, sR, sR, H', ⟨by have := HK1.out; omega⟩, ⟨bb c9a⟩, ⟨iB HB⟩⟩
      ·rw [if_neg c8] at H
       exact absurd H (by simp)
     ·rw [if_neg c7] at H
      exact absurd H (by simp)
    ·rw [if_neg c6] at H
     exact absurd H (by simp)
   ·rw [if_neg c4] at H
    have c4b0 : decide (x8_1 < (l1.length : Int)) = false := decide_eq_false c4
    clear c4; simp only [Option.some.injEq, Prod.mk.injEq] at H
    obtain ⟨rfl, rfl⟩ := H
    go_wp2
    go_ret2
    exact ⟨eR, iB HB⟩
def impl_copyInts.f (l0 : List Int) : Option (List Int) := if ([] : List Int).length + l0.length < 17592186044416 then (some (([] : List Int) ++ l0)) else (none)
set_option maxHeartbeats 8000000 in
set_option maxRecDepth 100000 in
theorem impl_copyInts.calls (A0 : Option Addr) (c0 : Nat) (l0 : List Int) (r : List Int) (w : World) (hr0 : Kd.C (Kd.int .i64) w A0 l0.length l0) (hc0 : l0.length ≤ c0) (h : impl_copyInts.f l0 = some r) :
  Calls Try.prog 68 #[.slice A0 l0.length c0] w fun e w' => ∃ v0_ : Value, e = .returned (v0_) ∧ Kd.R (Kd.int .i64) 3 w' w.heap.size (fun _ => True) v0_ r ∧ Below w.heap.size w w' := by
 have HR0 := Aside0.mk hr0
 have HC0 := Aside0.mk hc0
 clear hr0 hc0; have HB := Aside0.mk (Below.refl w.heap.size w)
 have H : (if ([] : List Int).length + l0.length < 17592186044416 then (some (([] : List Int) ++ l0)) else (none)) = some r := h
 clear h
 by_cases c2 : ([] : List Int).length + l0.length < 17592186044416
 ·rw [if_pos c2] at H
  have LMc2 := Aside0.mk c2
  clear c2; obtain ⟨y136, hy136⟩ : ∃ y_ : List Int, y_ = (([] : List Int) ++ l0) := ⟨_, rfl⟩
  replace H : (some y136) = some r := by first | (rw [hy136]; with_reducible exact H) | (have H2_ := (Option.bind_some _ _).symm.trans H; rw [hy136]; with_reducible exact H2_) | (have H2_ := (Option.bind_some _ _).symm.trans H; with_reducible exact H2_) | with_reducible exact H | (rw [hy136]; exact H) | exact H
  have Ny136 := Aside0.mk hy136
  clear hy136; obtain rfl := Option.some.inj H
  go_enter Try.func68, Try.ntmps68
  go_wp2_with (first | ((with_reducible refine gate_builtin (b := .append) (xs := #[.const (.slice none 0 0), .tmp 3]) rfl ?_); at_builtin; refine Kd.R_append_rows (Kd.int .i64) (w0 := w) w.heap.size rfl (.const (.slice none 0 0)) (.tmp 3) 36 3 (.int .i64 0) 8 rfl Try.underlying36 info3 rfl (by decide) (by omega) (.slice none 0 0) ([] : List Int) l0 _ _ _ (fun _ => True) (fun _ => False) rfl rfl ?aO ?aR (fun _ _ h => h) (fun _ h => h.elim) ?aF ?aB ?aS ?aL ?_; (case aR => exact cX HR0.out); (case aB => exact (be HB)); (case aF => exact (fun _ _ => trivial)); (case aO => exact ((Kd.R_nil _ _ _ _ (fun _ => True)))); (case aS => exact (below_size (be HB))); (case aL => have := LMc2.out; omega); intro v137 w3 ho hb hg hat; rw [← Ny136.out] at ho; have n0_ := Aside0.mk (hb); have HO138 := Aside0.mk (ho); clear HB; have HB := n0_; clear n0_; clear ho hb hg hat))
  go_ret
  exact ⟨_, eR, rX HO138.out, iB HB⟩
 ·rw [if_neg c2] at H
  exact absurd H (by simp)
def impl_merged.f (l0 : List Int) (a1 : Int) (a2 : Int) : Option (List Int) := if 0 ≤ a1 then (if a1 ≤ (l0.length : Int) then ((impl_copyInts.f (l0.take (a1 : Int).toNat)).bind fun t140 => (if t140.length < 17592186044416 then ((some (t140 ++ [wrap64 (256 + a2)] : List Int)).bind fun y143 => (if 0 ≤ (wrap64 (a1 + 2)) then (if (wrap64 (a1 + 2)) ≤ (l0.length : Int) then (if y143.length + (l0.drop ((wrap64 (a1 + 2)) : Int).toNat).length < 17592186044416 then (some (y143 ++ (l0.drop ((wrap64 (a1 + 2)) : Int).toNat))) else (none)) else (none)) else (none))) else (none))) else (none)) else (none)
set_option maxHeartbeats 8000000 in
set_option maxRecDepth 100000 in
theorem impl_merged.calls (A0 : Option Addr) (c0 : Nat) (l0 : List Int) (a1 : Int) (a2 : Int) (r : List Int) (w : World) (hr0 : Kd.C (Kd.int .i64) w A0 l0.length l0) (hc0 : l0.length ≤ c0) (h : impl_merged.f l0 a1 a2 = some r) :
  Calls Try.prog 86 #[.slice A0 l0.length c0, .int .i64 a1, .int .i64 a2] w fun e w' => ∃ v0_ : Value, e = .returned (v0_) ∧ Kd.R (Kd.int .i64) 3 w' w.heap.size (fun _ => True) v0_ r ∧ Below w.heap.size w w' := by
 have HR0 := Aside0.mk hr0
 have HC0 := Aside0.mk hc0
 clear hr0 hc0; have HB := Aside0.mk (Below.refl w.heap.size w)
 have H : (if 0 ≤ a1 then (if a1 ≤ (l0.length : Int) then ((impl_copyInts.f (l0.take (a1 : Int).toNat)).bind fun t140 => (if t140.length < 17592186044416 then ((some (t140 ++ [wrap64 (256 + a2)] : List Int)).bind fun y143 => (if 0 ≤ (wrap64 (a1 + 2)) then (if (wrap64 (a1 + 2)) ≤ (l0.length : Int) then (if y143.length + (l0.drop ((wrap64 (a1 + 2)) : Int).toNat).length < 17592186044416 then (some (y143 ++ (l0.drop ((wrap64 (a1 + 2)) : Int).toNat))) else (none)) else (none)) else (none))) else (none))) else (none)) else (none)) = some r := h
 clear h
 by_cases c4 : 0 ≤ a1
 ·rw [if_pos c4] at H
  have c4b0 := eq_true c4
  have c4b1 : decide (0 ≤ a1) = true := decide_eq_true c4
  clear c4
  by_cases c5 : a1 ≤ (l0.length : Int)
  ·rw [if_pos c5] at H
   have c5b0 := eq_true c5
   have c5b1 : decide (a1 ≤ (l0.length : Int)) = true := decide_eq_true c5
   clear c5; replace H := Option.bind_eq_some_iff.mp H
   obtain ⟨t140, A60, H⟩ := H
   replace H : (if t140.length < 17592186044416 then ((some (t140 ++ [wrap64 (256 + a2)] : List Int)).bind fun y143 => (if 0 ≤ (wrap64 (a1 + 2)) then (if (wrap64 (a1 + 2)) ≤ (l0.length : Int) then (if y143.length + (l0.drop ((wrap64 (a1 + 2)) : Int).toNat).length < 17592186044416 then (some (y143 ++ (l0.drop ((wrap64 (a1 + 2)) : Int).toNat))) else (none)) else (none)) else (none))) else (none)) = some r := H
   have A6 := Aside0.mk A60
   clear A60
   by_cases c7 : t140.length < 17592186044416
   ·rw [if_pos c7] at H
    have LMc7 := Aside0.mk c7
    clear c7; obtain ⟨y143, hy143⟩ : ∃ y_ : List Int, y_ = (t140 ++ [wrap64 (256 + a2)]) := ⟨_, rfl⟩
    replace H : (if 0 ≤ (wrap64 (a1 + 2)) then (if (wrap64 (a1 + 2)) ≤ (l0.length : Int) then (if y143.length + (l0.drop ((wrap64 (a1 + 2)) : Int).toNat).length < 17592186044416 then (some (y143 ++ (l0.drop ((wrap64 (a1 + 2)) : Int).toNat))) else (none)) else (none)) else (none)) = some r := by first | (rw [hy143]; with_reducible exact H) | (have H2_ := (Option.bind_some _ _).symm.trans H; rw [hy143]; with_reducible exact H2_) | (have H2_ := (Option.bind_some _ _).symm.trans H; with_reducible exact H2_) | with_reducible exact H | (rw [hy143]; exact H) | exact H
    have Ny143 := Aside0.mk hy143
    clear hy143; obtain ⟨ji8, hji8⟩ : ∃ j_ : Int, (wrap64 (a1 + 2)) = j_ := ⟨_, rfl⟩
    replace H : (if 0 ≤ (ji8) then (if (ji8) ≤ (l0.length : Int) then (if y143.length + (l0.drop ((ji8) : Int).toNat).length < 17592186044416 then (some (y143 ++ (l0.drop ((ji8) : Int).toNat))) else (none)) else (none)) else (none)) = some r := by first | (rw [hji8] at H; exact H) | (simp only [hji8] at H ⊢; exact H)
    (try rw [hji8] at A6)
    have hji8w : (IntKind.i64.wrap (a1 + 2)) = ji8 := (i64_w _).trans hji8
    by_cases c9 : 0 ≤ (ji8)
    ·rw [if_pos c9] at H
     have c9b0 := eq_true c9
     have c9b1 : decide (0 ≤ (ji8)) = true := decide_eq_true c9
     clear c9
     by_cases c10 : (ji8) ≤ (l0.length : Int)
     ·rw [if_pos c10] at H
      have c10b0 := eq_true c10
      have c10b1 : decide ((ji8) ≤ (l0.length : Int)) = true := decide_eq_true c10
      clear c10
      by_cases c11 : y143.length + (l0.drop ((ji8) : Int).toNat).length < 17592186044416
      ·rw [if_pos c11] at H
       have LMc11 := Aside0.mk c11
       clear c11; obtain ⟨y147, hy147⟩ : ∃ y_ : List Int, y_ = (y143 ++ (l0.drop ((ji8) : Int).toNat)) := ⟨_, rfl⟩
       replace H : (some y147) = some r := by first | (rw [hy147]; with_reducible exact H) | (have H2_ := (Option.bind_some _ _).symm.trans H; rw [hy147]; with_reducible exact H2_) | (have H2_ := (Option.bind_some _ _).symm.trans H; with_reducible exact H2_) | with_reducible exact H | (rw [hy147]; exact H) | exact H
       have Ny147 := Aside0.mk hy147
       clear hy147; obtain rfl := Option.some.inj H
       obtain ⟨i012, hi012, _, hsz12, _⟩ := info_parts info3
       obtain ⟨hcut12, hA12, hC12⟩ := print_take_of (P := Try.prog) (Value.int .i64) 0 36 3 .i64 Try.underlying36 hi012 hsz12 A0 c0 l0 a1 (oD) (oD) HC0.out
       have HR139 := Aside0.mk (Kd.C_of_reads (h1 := fun _ => rfl) (hA12 _ (Kd.reads_of_C HR0.out)))
       have HC139 := Aside0.mk hC12
       clear hA12 hC12 hi012 hsz12
       go_enter Try.func86, Try.ntmps86
       go_wp2_with (first | ((with_reducible refine gate_callee (f := 68) rfl ?_); refine goesL_ (some 11) rfl rfl Try.func68 (by kernel_rfl) rfl #[.slice A0 (l0.take (a1 : Int).toNat).length c0] rfl (by (try simp only [List.map_toArray, List.map_cons, List.map_nil]); first | done | (rw [show (l0.take (a1 : Int).toNat).length = a1.toNat from (by rw [List.length_take]; have h_ : (a1 : Int) ≤ (l0.length : Int) := oD; omega)] <;> rfl) | rfl | (simp only [List.length_drop, List.length_take]; rfl)) ?_; (with_reducible refine (impl_copyInts.calls _ _ (l0.take (a1 : Int).toNat) t140 _ ?side1 ?side2 A6.out).mono ?_); (case side1 => exact cX HR139.out); (case side2 => exact HC139.out); rintro e w13 ⟨v141, rfl, ho0, hb⟩; refine ⟨_, rfl, ?_⟩; have HO142 := Aside0.mk (Kd.R_lower ho0 (below_size (be HB))); replace HB := bh HB hb; (try clear hb); (try clear hb2); (try clear hk); (try clear hi)) | ((with_reducible refine gate_builtin (b := .append) (xs := #[.tmp 11, .tmp 14]) rfl ?_); at_builtin; refine Kd.R_append (Kd.int .i64) (w0 := w) w.heap.size rfl (.tmp 11) (.tmp 14) 36 3 (.int .i64 0) 8 rfl Try.underlying36 info3 rfl (by decide) (by omega) v141 t140 (wrap64 (256 + a2)) [.int .i64 (wrap64 (256 + a2))] (fun _ => True) (fun _ => False) rfl rfl ?aP (fun _ hk => hk.elim) ?aF ?aO ?aB ?aS ?aL ?_; (case aP => exact rfl); (case aB => exact (be HB)); (case aF => exact (fun _ _ => trivial)); (case aO => exact (rr HO142)); (case aS => exact (below_size (be HB))); (case aL => have := LMc7.out; omega); intro v144 w14 ho hb hg hat; rw [← Ny143.out] at ho; have n0_ := Aside0.mk (hb); have HO145 := Aside0.mk (ho); clear HO142 HB; have HB := n0_; clear n0_; clear ho hb hg hat; obtain ⟨i015, hi015, _, hsz15, _⟩ := info_parts info3; obtain ⟨A15, hcut15, hA15, hC15⟩ := print_drop_of (P := Try.prog) (Value.int .i64) 0 36 3 .i64 Try.underlying36 hi015 hsz15 A0 c0 l0 (ji8) (oD) (oD) HC0.out; have HR146 := Aside0.mk (Kd.C_of_reads (h1 := fun _ => rfl) (hA15 _ (Kd.reads_of_C HR0.out))); have HC146 := Aside0.mk hC15; clear hA15 hC15 hi015 hsz15) | ((with_reducible refine gate_builtin (b := .append) (xs := #[.tmp 16, .tmp 20]) rfl ?_); at_builtin; refine Kd.R_append_rows (Kd.int .i64) (w0 := w) w.heap.size rfl (.tmp 16) (.tmp 20) 36 3 (.int .i64 0) 8 rfl Try.underlying36 info3 rfl (by decide) (by omega) v144 y143 (l0.drop ((ji8) : Int).toNat) _ _ _ (fun _ => True) (fun _ => False) rfl rfl ?aO ?aR (fun _ _ h => h) (fun _ h => h.elim) ?aF ?aB ?aS ?aL ?_; (case aR => first | (have q_ := HR146.out; rw [show (l0.drop ((ji8) : Int).toNat).length = (l0.length - (ji8).toNat) from List.length_drop] at q_; exact cX (Kd.C_below q_ HB.out); done) | (rw [← show (l0.drop ((ji8) : Int).toNat).length = (l0.length - (ji8).toNat) from List.length_drop]; exact cX (Kd.C_below HR146.out HB.out)) | (exact cX (Kd.C_below HR146.out HB.out))); (case aB => exact (be HB)); (case aF => exact (fun _ _ => trivial)); (case aO => exact (rr HO145)); (case aS => exact (below_size (be HB))); (case aL => have := LMc11.out; have hlx_ := (show (l0.drop ((ji8) : Int).toNat).length = (l0.length - (ji8).toNat) from List.length_drop); omega); intro v148 w16 ho hb hg hat; rw [← Ny147.out] at ho; have n0_ := Aside0.mk (hb); have HO149 := Aside0.mk (ho); clear HO145 HB; have HB := n0_; clear n0_; clear ho hb hg hat))
       go_ret
       exact ⟨_, by first | rfl | (simp [errW_none, errW_some] <;> rfl) | (simp only [← hji8]; first | rfl | (simp [errW_none, errW_some] <;> rfl)) | (simp [*, errW_none, errW_some] <;> rfl), rX HO149.out, iB HB⟩
      ·rw [if_neg c11] at H
       exact absurd H (by simp)
     ·rw [if_neg c10] at H
      exact absurd H (by simp)
    ·rw [if_neg c9] at H
     exact absurd H (by simp)
   ·rw [if_neg c7] at H
    exact absurd H (by simp)
  ·rw [if_neg c5] at H
   exact absurd H (by simp)
 ·rw [if_neg c4] at H
  exact absurd H (by simp)
end Go.Proofs.Ytddebnchbbmbkaa.PFnExactRecall
