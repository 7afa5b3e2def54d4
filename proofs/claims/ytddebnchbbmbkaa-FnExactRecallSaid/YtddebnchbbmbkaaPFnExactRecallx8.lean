-- The machine side of a law: written by a program of this session (wip/tools), a turned print.
import Derived.Test.YtddebnchbbmbkaaPFnExactRecallx0
import Derived.Test.YtddebnchbbmbkaaPFnExactRecallx5
namespace Go.Proofs.Ytddebnchbbmbkaa.PFnExactRecall
open Go.RowKit Go.Proofs.YtddebnchbbmbkaaW.PrintWords Go.Proofs.YtddebnchbbmbkaaW.PrintLast Go.Proofs.YtddebnchbbmbkaaW.PrintMore
attribute [local go_sem] max2_int min2_int max_two min_two max_three min_three max_four min_four   -- for this text's walks alone
set_option linter.unusedVariables false
set_option linter.unusedSimpArgs false
def impl_copyMemo.l0 : Nat → List (S86) → Int → Int → Int → List (S86) → Option (Int × (List (S86)))
 | 0, _, _, _, _, _ => none
 | k + 1, x10, x11, x12, x177000, x177001 => if x12 < x11 then (if 0 ≤ x12 then (if x12 < (x10.length : Int) then ((impl_copyInts.f ((rd_T86 x10 x12).f1)).bind fun t179 => (if x177001.length < 3518437208883 then (impl_copyMemo.l0 k x10 x11 (wrap64 (x12 + 1)) x177000 (x177001 ++ [(⟨(rd_T86 x10 x12).f0, t179⟩ : S86)])) else (none))) else (none)) else (none)) else (some (x177000, x177001))
def impl_copyMemo.f (k : Nat) (a0_0 : Int) (l0_1 : List (S86)) : Option (Int × (List (S86))) := impl_copyMemo.l0 k l0_1 (l0_1.length : Int) 0 a0_0 ([] : List (S86))
theorem impl_copyMemo.mono_l : ∀ k, (∀ y0 y1 y2 y3 y4, LeO (impl_copyMemo.l0 k y0 y1 y2 y3 y4) (impl_copyMemo.l0 (k + 1) y0 y1 y2 y3 y4))
 | 0 => fun _ _ _ _ _ r h => by simp [impl_copyMemo.l0] at h
 | k + 1 => by
  have ih0 := impl_copyMemo.mono_l k
  ·intro y0 y1 y2 y3 y4
   unfold impl_copyMemo.l0
   repeat' first
   | (with_reducible exact ih0 _ _ _ _ _)
   | (with_reducible exact LeO.refl _)
   | (with_reducible exact LeO.none _)
   | (with_reducible refine LeO.ite ?_ ?_)
   | (with_reducible refine LeO.bind ?_ (fun _ => ?_))
   | exact ih0 _ _ _ _ _
   | exact LeO.none _
   | refine LeO.ite ?_ ?_
   | refine LeO.bind ?_ (fun _ => ?_)
theorem impl_copyMemo.mono : ∀ a0 a1 k, LeO (impl_copyMemo.f k a0 a1) (impl_copyMemo.f (k + 1) a0 a1) := by
 intro a0 a1 k
 have ih0 := impl_copyMemo.mono_l k
 unfold impl_copyMemo.f
 repeat' first
   | (with_reducible exact ih0 _ _ _ _ _)
   | (with_reducible exact LeO.refl _)
   | (with_reducible exact LeO.none _)
   | (with_reducible refine LeO.ite ?_ ?_)
   | (with_reducible refine LeO.bind ?_ (fun _ => ?_))
   | exact ih0 _ _ _ _ _
   | exact LeO.none _
   | refine LeO.ite ?_ ?_
   | refine LeO.bind ?_ (fun _ => ?_)
def impl_copyMemo.T5 : Bool × List (List Nat × List Nat) := (true, [([], []), ([0], [0]), ([], []), ([2], [2]), ([], []), ([4], [4]), ([5], [5]), ([3, 6], [3, 6]), ([7], [7]), ([1, 8, 6], [1, 8]), ([0, 1, 2, 3, 4, 5, 6, 7, 8, 9], []), ([10, 9, 9, 0, 1, 2, 3, 4, 5, 6, 7, 8, 9], [9, 10])])
def impl_copyMemo.B5 : List Nat := [0, 1, 0, 4, 0, 16, 48, 124, 252, 511, 1023, 2047]
theorem impl_copyMemo.tab5 : rtab .any (opsOf Try.f37 5) = impl_copyMemo.T5 := by kernel_rfl
theorem impl_copyMemo.bits5 : waitsOk impl_copyMemo.T5.2 impl_copyMemo.B5 = true := by kernel_rfl
set_option maxHeartbeats 8000000 in
set_option maxRecDepth 100000 in
theorem impl_copyMemo.calls (k : Nat) (a0_0 : Int) (A0_1 : Option Addr) (c0_1 : Nat) (l0_1 : List (S86)) (r1 : Int) (r2 : List (S86)) (w : World) (hr0_1 : Kd.C k86 w A0_1 l0_1.length l0_1) (hc0_1 : l0_1.length ≤ c0_1) (h : impl_copyMemo.f k a0_0 l0_1 = some (r1, r2)) :
  Calls Try.prog 37 #[.agg #[.int .i64 a0_0, .slice A0_1 l0_1.length c0_1]] w fun e w' => ∃ v1_ : Value, e = .returned (.agg #[.int .i64 r1, v1_]) ∧ Kd.S k86 86 w' w.heap.size (fun _ => True) v1_ r2 ∧ Below w.heap.size w w' := by
 have hu31 := Try.underlying31
 have hu86 := Try.underlying86
 have HR0_1 := Aside0.mk hr0_1
 have HC0_1 := Aside0.mk hc0_1
 clear hr0_1 hc0_1; have HB := Aside0.mk (Below.refl w.heap.size w)
 have H : (impl_copyMemo.l0 k l0_1 (l0_1.length : Int) 0 a0_0 ([] : List (S86))) = some (r1, r2) := h
 clear h; have H' := Aside0.mk H
 clear H
 go_enter Try.func37, Try.ntmps37
 go_wp2_with (first | ((with_reducible refine gate_dst (N := 1) rfl ?_); refine bX 1 #[.int .i64 a0_0, .slice A0_1 l0_1.length c0_1] 31 ?_; intro gb174 hg w2 hbox hb; have e9a := Aside0.mk (hbox); have GW174 := bs HB hg; have GE174 := bs HB hg; replace HB := bh HB hb; clear hb hbox hg) | ((with_reducible refine gate_dst (N := 2) rfl ?_); refine bX 2 #[.int .i64 0, .slice none 0 0] 31 ?_; intro y9a hg w3 hbox hb; have f9a := Aside0.mk (hbox); have GW175 := bs HB hg; have GE175 := bs HB hg; have q9a := bl e9a hg; have r9a := bg e9a hg; replace e9a := bq e9a hb; replace HB := bh HB hb; clear hb hbox hg; have hnb4 := q9a.out; have hnc4 := r9a.out; obtain ⟨hcz5_0, hcz5_1⟩ := cs2 e9a; obtain ⟨hfz5_0, hfz5_1⟩ := fs2 e9a) | ((with_reducible refine gate_dst (N := 3) rfl ?_); refine bX 3 #[.int .i64 0, .slice none 0 0] 31 ?_; intro v9a hg w6 hbox hb; have d9a := Aside0.mk (hbox); have GW176 := bs HB hg; have GE176 := bs HB hg; have l9a := bl e9a hg; have n9a := bg e9a hg; have m9a := bl f9a hg; have o9a := bg f9a hg; replace e9a := bq e9a hb; replace f9a := bq f9a hb; replace HB := bh HB hb; clear hb hbox hg; have hnb7 := n9a.out; have hnc7 := l9a.out; have hnb8 := o9a.out; have hnc8 := m9a.out; obtain ⟨hcz9_0, hcz9_1⟩ := cs2 d9a; obtain ⟨hfz9_0, hfz9_1⟩ := fs2 d9a; obtain ⟨hcz10_0, hcz10_1⟩ := cs2 e9a; obtain ⟨hfz10_0, hfz10_1⟩ := fs2 e9a))
 go_loopg [12] k (fun kq v12 w' => ∃ (b9a : Int) (c9a : List (S86)) (h9a : Value), v12 = .int .i64 b9a ∧ Aside0 (impl_copyMemo.l0 kq l0_1 (l0_1.length : Int) b9a a0_0 c9a = some (r1, r2)) ∧ Aside0 (kq ≤ k) ∧ Aside0 (Kd.S k86 86 w' w.heap.size (fun _ => True) h9a c9a) ∧ Aside0 (w'.heap[gb174]? = some (.cells #[.int .i64 a0_0, (.slice A0_1 l0_1.length c0_1)] 31 (0, 0))) ∧ Aside0 (w'.heap[y9a]? = some (.cells #[.int .i64 0, (.slice none 0 0)] 31 (0, 0))) ∧ Aside0 (w'.heap[v9a]? = some (.cells #[.int .i64 a0_0, h9a] 31 (0, 0))) ∧ Aside0 (Below w.heap.size w w'))
 case atStart => exact ⟨(0), (([] : List (S86))), (.slice none 0 0), sR, H', ⟨Nat.le_refl _⟩, ⟨by first | exact Kd.S_nil _ _ _ _ _ | exact Kd.N_nil _ _ _ _ _ | exact Kd.V_nil _ _ _ _ _ | exact Kd.Q_nil _ _ _ _ _ | exact Kd.R_nil _ _ _ _ _⟩, ⟨by (with_reducible repeat first | refine bkN ?_ _ | refine bkD ?_ | refine bkA ?_ _ | refine blk_far ?_ l9a.out _); exact e9a.out⟩, ⟨by (with_reducible repeat first | refine bkN ?_ _ | refine bkD ?_ | refine bkA ?_ _ | refine blk_far ?_ m9a.out _); exact f9a.out⟩, ⟨by (with_reducible repeat first | refine bkN ?_ _ | refine bkD ?_ | refine bkA ?_ _); refine blk_put (cs := #[.int .i64 a0_0, .slice none 0 0]) ?_ 1 _ rfl; (with_reducible repeat first | refine bkN ?_ _ | refine bkD ?_ | refine bkA ?_ _); refine blk_put (cs := #[.int .i64 0, .slice none 0 0]) ?_ 0 _ rfl; (with_reducible repeat first | refine bkN ?_ _ | refine bkD ?_ | refine bkA ?_ _); exact d9a.out⟩, ⟨iB HB⟩⟩
 case round =>
  clear H'
  obtain ⟨b9a, c9a, h9a, rfl, HA, HK1, a9a, e9a, f9a, d9a, HB⟩ := hrel
  cases gk with
  | zero => exact absurd HA.out (by simp [impl_copyMemo.l0])
  | succ k1 =>
   have H := HA.out; clear HA; simp only [impl_copyMemo.l0] at H
   by_cases c11 : b9a < (l0_1.length : Int)
   ·rw [if_pos c11] at H
    have c11b0 : decide (b9a < (l0_1.length : Int)) = true := decide_eq_true c11
    clear c11
    by_cases c12 : 0 ≤ b9a
    ·rw [if_pos c12] at H
     have c12b0 : decide (0 ≤ b9a) = true := decide_eq_true c12
     clear c12
     by_cases c13 : b9a < (l0_1.length : Int)
     ·rw [if_pos c13] at H
      have c13b0 : decide (b9a < (l0_1.length : Int)) = true := decide_eq_true c13
      clear c13; replace H := Option.bind_eq_some_iff.mp H
      obtain ⟨t179, A140, H⟩ := H
      replace H : (if c9a.length < 3518437208883 then (impl_copyMemo.l0 k1 l0_1 (l0_1.length : Int) (wrap64 (b9a + 1)) a0_0 (c9a ++ [(⟨(rd_T86 l0_1 b9a).f0, t179⟩ : S86)])) else (none)) = some (r1, r2) := H
      have A14 := Aside0.mk A140
      clear A140
      by_cases c15 : c9a.length < 3518437208883
      ·rw [if_pos c15] at H
       have LMc15 := Aside0.mk c15
       clear c15; obtain ⟨y182, hy182⟩ : ∃ y_ : List (S86), y_ = (c9a ++ [(⟨(rd_T86 l0_1 b9a).f0, t179⟩ : S86)]) := ⟨_, rfl⟩
       replace H : (impl_copyMemo.l0 k1 l0_1 (l0_1.length : Int) (wrap64 (b9a + 1)) a0_0 y182) = some (r1, r2) := by first | (rw [hy182]; with_reducible exact H) | (have H2_ := (Option.bind_some _ _).symm.trans H; rw [hy182]; with_reducible exact H2_) | (have H2_ := (Option.bind_some _ _).symm.trans H; with_reducible exact H2_) | with_reducible exact H | (rw [hy182]; exact H) | exact H
       have Ny182 := Aside0.mk hy182
       clear hy182; have H' := Aside0.mk H
       clear H; have p177 : 0 ≤ (b9a : Int) := oD
       have q177 : b9a < (l0_1.length : Int) := oD
       obtain ⟨ad177, j9a, k9a, e177, w9a, x9a, hl177_1, hi177_1⟩ := at_T86 HR0_1.out b9a p177 q177
       cases e177
       replace w9a := (HB.out.cell (World.block_lt_of_cell? w _ w9a)).trans w9a
       replace x9a := (HB.out.cell (World.block_lt_of_cell? w _ x9a)).trans x9a
       have HR177_1 := Aside0.mk hi177_1
       have HC177_1 := Aside0.mk hl177_1
       clear hi177_1 hl177_1; replace p177 := eq_true p177
       replace q177 := eq_true q177
       try go_wp2_with (first | ((with_reducible refine gate_dst (N := 5) rfl ?_); refine bX 5 #[.string (⟨#[]⟩ : ByteArray), .slice none 0 0] 86 ?_; intro g9a hg w16 hbox hb; have n0_ := Aside0.mk (Kd.S_below (Kd.S_elderB (by (with_reducible repeat (first | apply Kd.S_alloc | apply Kd.S_drewN | apply Kd.S_drew)); exact a9a.out) g9a (Nat.le_of_eq hg.symm)) hb); have i9a := Aside0.mk (hbox); have GW178 := bs HB hg; have GE178 := bs HB hg; have s9a := bl e9a hg; have NB178_174 := bg e9a hg; have t9a := bl f9a hg; have NB178_175 := bg f9a hg; have p9a := bl d9a hg; have u9a := bg d9a hg; replace e9a := bq e9a hb; replace f9a := bq f9a hb; replace d9a := bq d9a hb; replace HB := bh HB hb; clear a9a; have a9a := n0_; clear n0_; clear hb hbox hg; have hnb17 := NB178_174.out; have hnc17 := s9a.out; have hnb18 := NB178_175.out; have hnc18 := t9a.out; have hnb19 := u9a.out; have hnc19 := p9a.out; obtain ⟨hcz20_0, hcz20_1⟩ := cs2 i9a; obtain ⟨hfz20_0, hfz20_1⟩ := fs2 i9a))
       have n0_ : Aside0 (Kd.S k86 86 ((w16.setCell ⟨g9a, 0, none⟩ (.string ((rd_T86 l0_1 b9a).f0))).setCell ⟨g9a, 1, none⟩ (.slice j9a ((rd_T86 l0_1 b9a).f1).length k9a)) w.heap.size (fun k_ => k_ ≠ g9a) h9a c9a) := ⟨by (with_reducible repeat (first | apply Kd.S_alloc | apply Kd.S_drewN | apply Kd.S_drew)); exact Kd.S_mono (Kd.S_far (p := ⟨g9a, 1, none⟩) (Kd.S_far (p := ⟨g9a, 0, none⟩) (Kd.S_mono a9a.out (fun k_ hk => (⟨hk, hk.2⟩ : _ ∧ k_ ≠ g9a))) (fun _ hk => hk.2) (.string ((rd_T86 l0_1 b9a).f0))) (fun _ hk => hk.2) (.slice j9a ((rd_T86 l0_1 b9a).f1).length k9a)) (fun _ hk => hk.1.2)⟩
       have n1_ : Aside0 (((w16.setCell ⟨g9a, 0, none⟩ (.string ((rd_T86 l0_1 b9a).f0))).setCell ⟨g9a, 1, none⟩ (.slice j9a ((rd_T86 l0_1 b9a).f1).length k9a)).heap[gb174]? = some (.cells #[.int .i64 a0_0, .slice (some ad177) l0_1.length c0_1] 31 (0, 0))) := ⟨by (with_reducible repeat first | refine bkN ?_ _ | refine bkD ?_ | refine bkA ?_ _ | refine blk_far ?_ s9a.out _); exact e9a.out⟩
       have n2_ : Aside0 (((w16.setCell ⟨g9a, 0, none⟩ (.string ((rd_T86 l0_1 b9a).f0))).setCell ⟨g9a, 1, none⟩ (.slice j9a ((rd_T86 l0_1 b9a).f1).length k9a)).heap[y9a]? = some (.cells #[.int .i64 0, .slice none 0 0] 31 (0, 0))) := ⟨by (with_reducible repeat first | refine bkN ?_ _ | refine bkD ?_ | refine bkA ?_ _ | refine blk_far ?_ t9a.out _); exact f9a.out⟩
       have n3_ : Aside0 (((w16.setCell ⟨g9a, 0, none⟩ (.string ((rd_T86 l0_1 b9a).f0))).setCell ⟨g9a, 1, none⟩ (.slice j9a ((rd_T86 l0_1 b9a).f1).length k9a)).heap[v9a]? = some (.cells #[.int .i64 a0_0, h9a] 31 (0, 0))) := ⟨by (with_reducible repeat first | refine bkN ?_ _ | refine bkD ?_ | refine bkA ?_ _ | refine blk_far ?_ p9a.out _); exact d9a.out⟩
       have n4_ : Aside0 (((w16.setCell ⟨g9a, 0, none⟩ (.string ((rd_T86 l0_1 b9a).f0))).setCell ⟨g9a, 1, none⟩ (.slice j9a ((rd_T86 l0_1 b9a).f1).length k9a)).heap[g9a]? = some (.cells #[.string ((rd_T86 l0_1 b9a).f0), .slice j9a ((rd_T86 l0_1 b9a).f1).length k9a] 86 (0, 0))) := ⟨by (with_reducible repeat first | refine bkN ?_ _ | refine bkD ?_ | refine bkA ?_ _); refine blk_put (cs := #[.string ((rd_T86 l0_1 b9a).f0), .slice none 0 0]) ?_ 1 _ rfl; (with_reducible repeat first | refine bkN ?_ _ | refine bkD ?_ | refine bkA ?_ _); refine blk_put (cs := #[.string (⟨#[]⟩ : ByteArray), .slice none 0 0]) ?_ 0 _ rfl; (with_reducible repeat first | refine bkN ?_ _ | refine bkD ?_ | refine bkA ?_ _); exact i9a.out⟩
       have n5_ : Aside0 (Below w.heap.size w ((w16.setCell ⟨g9a, 0, none⟩ (.string ((rd_T86 l0_1 b9a).f0))).setCell ⟨g9a, 1, none⟩ (.slice j9a ((rd_T86 l0_1 b9a).f1).length k9a))) := ⟨iB HB⟩
       generalize ((w16.setCell ⟨g9a, 0, none⟩ (.string ((rd_T86 l0_1 b9a).f0))).setCell ⟨g9a, 1, none⟩ (.slice j9a ((rd_T86 l0_1 b9a).f1).length k9a)) = w21 at n0_ n1_ n2_ n3_ n4_ n5_ ⊢
       have a9a := n0_; have e9a := n1_; have f9a := n2_; have d9a := n3_; have i9a := n4_; have HB := n5_; clear n0_ n1_ n2_ n3_ n4_ n5_; have n0_ := Aside0.mk (Kd.S_drew a9a.out)
       have n1_ := Aside0.mk (blk_drew e9a.out)
       have n2_ := Aside0.mk (blk_drew f9a.out)
       have n3_ := Aside0.mk (blk_drew d9a.out)
       have n4_ := Aside0.mk (blk_drew i9a.out)
       have n5_ := Aside0.mk (below_drew1 HB.out)
       clear a9a e9a f9a d9a i9a HB; have a9a := n0_; have e9a := n1_; have f9a := n2_; have d9a := n3_; have i9a := n4_; have HB := n5_; clear n0_ n1_ n2_ n3_ n4_ n5_; refine start_ (n := 12) (S := fun w' => w'.cell? ⟨v9a, 0, none⟩ = some (.int .i64 a0_0) ∧ w'.cell? ⟨v9a, 1, none⟩ = some (h9a) ∧ w'.cell? ⟨g9a, 0, none⟩ = some (.string ((rd_T86 l0_1 b9a).f0)) ∧ w'.cell? ⟨g9a, 1, none⟩ = some (.slice j9a ((rd_T86 l0_1 b9a).f1).length k9a)) (ds := [11]) #[ff,ff,ff,ff,ff,ff,ff,ff,ff,ff,ff,ff] (by kernel_rfl) rfl rfl ⟨bc d9a 0, bc d9a 1, bc i9a 0, bc i9a 1⟩ (fun hHeld => ?_); refine with_tabW impl_copyMemo.tab5 impl_copyMemo.bits5 (fun HT_ HW_ => ?_)
       generalize w21.drew = w22 at a9a e9a f9a d9a i9a HB hHeld ⊢
       refine pu 0 16 (tb 12 1) HT_ ?_
       refine pu 2 18 (tb 12 5) HT_ ?_
       refine pu 4 20 (tb 12 21) HT_ ?_
       refine tk 1 17 (tb 12 23) rfl rfl HT_ HW_ hHeld (by rintro w' ⟨s0, s1, s2, s3⟩; go_simp; with_reducible rfl) ?_
       refine tk 3 19 (tb 12 31) rfl rfl HT_ HW_ hHeld (by rintro w' ⟨s0, s1, s2, s3⟩; go_simp; with_reducible rfl) ?_
       refine tk 5 21 (tb 12 63) rfl rfl HT_ HW_ hHeld (by rintro w' ⟨s0, s1, s2, s3⟩; go_simp; with_reducible rfl) ?_
       refine one_ (i := 6) (N := some 22) #[tt,tt,tt,tt,tt,tt,tt,ff,ff,ff,ff,ff] rfl rfl (one_of HT_.out (by kernel_rfl)) (by decide) (fun K hK => ?_)
       refine goes_ Try.func68 (by kernel_rfl) rfl #[.slice j9a ((rd_T86 l0_1 b9a).f1).length k9a] (by rfl) rfl rfl (by (try simp only [List.map_toArray, List.map_cons, List.map_nil]); first | done | rfl | (simp only [List.length_drop, List.length_take]; rfl)) ?_
       with_reducible refine (impl_copyInts.calls _ _ ((rd_T86 l0_1 b9a).f1) t179 _ ?side1 ?side2 A14.out).mono ?_
       (case side1 => exact cX (Kd.C_below HR177_1.out HB.out))
       (case side2 => exact HC177_1.out)
       rintro e w23 ⟨v180, rfl, ho0, hb⟩
       refine ⟨_, rfl, ?_⟩
       have n0_ := Aside0.mk (Kd.S_elder' (by (with_reducible repeat (first | apply Kd.S_alloc | apply Kd.S_drewN | apply Kd.S_drew)); exact a9a.out) (Kd.R_base ho0) hb)
       have HO181 := Aside0.mk (Kd.R_lower ho0 (below_size (be HB)))
       replace e9a := bq e9a hb; replace f9a := bq f9a hb; replace d9a := bq d9a hb; replace i9a := bq i9a hb; replace HB := bh HB hb
       clear a9a; have a9a := n0_; clear n0_; (try clear hb); (try clear hb2); (try clear hk); (try clear hi); obtain ⟨Ao24, co24, eo24⟩ := Kd.R_slice HO181.out
       (first | subst eo24 | (injection eo24 with f1_ f2_ f3_; have f4_ := f1_.symm; have f5_ := f3_.symm; clear f1_ f2_ f3_; subst f4_; subst f5_))
       refine hK.out _ _ ⟨bc d9a 0, bc d9a 1, bc i9a 0, bc i9a 1⟩ (fun hHeld => ?_)
       clear hK K; refine norm_ (a' := ?_) ?_ ?_
       rotate_left
       ·show Act.put _ (some 22) _ = _
        simp only [putL, i64_w, i32_w]; rfl
       refine pu 7 23 (tb 12 255) HT_ ?_
       refine one_ (i := 8) (N := some 24) #[tt,tt,tt,tt,tt,tt,tt,tt,tt,ff,ff,ff] rfl rfl (one_of HT_.out (by kernel_rfl)) (by decide) (fun K hK => ?_)
       refine value_ (w1 := ?_) (v := ?_) (by rfl) rfl ?_ ?_
       rotate_left 2
       ·go_simp
        constructor
        ·rfl
        ·rfl
       refine hK.out _ _ ⟨(blk_cell (blk_alloc d9a.out _) 0).trans rfl, (blk_cell (blk_alloc d9a.out _) 1).trans rfl, (blk_cell (blk_alloc i9a.out _) 0).trans rfl, (blk_cell (blk_alloc i9a.out _) 1).trans rfl⟩ (fun hHeld => ?_)
       clear hK K; refine norm_ (a' := ?_) ?_ ?_
       rotate_left
       ·show Act.put _ (some 24) _ = _
        simp only [putL, i64_w, i32_w]; rfl
       refine one_ (i := 9) (N := some 25) #[tt,tt,tt,tt,tt,tt,tt,tt,tt,tt,ff,ff] rfl rfl (one_of HT_.out (by kernel_rfl)) (by decide) (fun K hK => ?_)
       refine Kd.S_append_step k86 (w0 := w) w.heap.size (by rfl) (.tmp 17) (.tmp 24) 29 86 (.agg #[(.string ⟨#[]⟩), (.slice none 0 0)]) 40 rfl Try.underlying29 info86 rfl (by decide) (by omega) h9a c9a (⟨(rd_T86 l0_1 b9a).f0, t179⟩ : S86) [.string ((rd_T86 l0_1 b9a).f0), .slice Ao24 t179.length co24] (fun k_ => k_ ≠ g9a) (fun k_ => some k_ = (.slice Ao24 t179.length co24 : Value).ownBlock) rfl rfl ?aP (fun k_ hk_ => ((Kd.R_mono (ok' := fun k_ => ((fun k_ => k_ ≠ g9a)) k_ ∧ some k_ ≠ (h9a : Value).ownBlock) (Kd.R_types (Kd.R_apart' (HO181.out) (Kd.S_typed a9a.out) (by decide)) i9a.out (by decide)) (fun k_ hk => ⟨hk.2, hk.1.2⟩))).1 k_ hk_.symm) ?aF ?aO ?aB ?aS ?aL ?_
       (case aP => exact k86_mkM _ _ _ (⟨(rd_T86 l0_1 b9a).f0, t179⟩ : S86) (Kd.R_mono (Kd.R_tight rfl (Kd.R_mono (ok' := fun k_ => ((fun k_ => k_ ≠ g9a)) k_ ∧ some k_ ≠ (h9a : Value).ownBlock) (Kd.R_types (Kd.R_apart' (HO181.out) (Kd.S_typed a9a.out) (by decide)) i9a.out (by decide)) (fun k_ hk => ⟨hk.2, hk.1.2⟩))) (fun _ h_ => h_)))
       (case aB => exact (be HB))
       (case aF => exact (fun k_ hk => Kd.freshB (g := g9a) (o := .cells #[.string ((rd_T86 l0_1 b9a).f0), .slice j9a ((rd_T86 l0_1 b9a).f1).length k9a] 86 (0, 0)) kB k_ hk))
       (case aO => exact (by (with_reducible repeat (first | apply Kd.S_alloc | apply Kd.S_drewN | apply Kd.S_drew)); exact Kd.S_mono a9a.out (fun k_ hk => ⟨hk.1, fun e_ => hk.2 e_⟩)))
       (case aS => exact (below_size (be HB)))
       (case aL => have := LMc15.out; omega)
       intro v183 w25 ho hb hg hat
       rw [← Ny182.out] at ho
       have n0_ := Aside0.mk (blk_grown (g := gb174) (o := .cells #[.int .i64 a0_0, .slice (some ad177) l0_1.length c0_1] 31 (0, 0)) kB hg (Kd.S_ne a9a.out e9a.out (by decide)))
       have n1_ := Aside0.mk (blk_grown (g := y9a) (o := .cells #[.int .i64 0, .slice none 0 0] 31 (0, 0)) kB hg (Kd.S_ne a9a.out f9a.out (by decide)))
       have n2_ := Aside0.mk (blk_grown (g := v9a) (o := .cells #[.int .i64 a0_0, h9a] 31 (0, 0)) kB hg (Kd.S_ne a9a.out d9a.out (by decide)))
       have n3_ := Aside0.mk (blk_grown (g := g9a) (o := .cells #[.string ((rd_T86 l0_1 b9a).f0), .slice j9a ((rd_T86 l0_1 b9a).f1).length k9a] 86 (0, 0)) kB hg (Kd.S_away a9a.out (fun _ hk => hk.1)))
       have n4_ := Aside0.mk (hb)
       have HO184 := Aside0.mk (ho)
       clear a9a HO181 e9a f9a d9a i9a HB; have e9a := n0_; have f9a := n1_; have d9a := n2_; have i9a := n3_; have HB := n4_; clear n0_ n1_ n2_ n3_ n4_; clear ho hb hg hat; obtain ⟨Ao26, co26, eo26⟩ := Kd.S_slice HO184.out
       (first | subst eo26 | (injection eo26 with f1_ f2_ f3_; have f4_ := f1_.symm; have f5_ := f3_.symm; clear f1_ f2_ f3_; subst f4_; subst f5_))
       refine hK.out _ _ ⟨bc d9a 0, bc d9a 1, bc i9a 0, bc i9a 1⟩ (fun hHeld => ?_)
       clear hK K; refine norm_ (a' := ?_) ?_ ?_
       rotate_left
       ·show Act.put _ (some 25) _ = _
        simp only [putL, i64_w, i32_w]; rfl
       refine pu 10 26 (tb 12 2047) HT_ ?_
       refine last_ (i := 11) (N := none) #[tt,tt,tt,tt,tt,tt,tt,tt,tt,tt,tt,tt] rfl rfl (one_of HT_.out (by kernel_rfl)) (by decide) (fun K hK => ?_)
       have hs27 : w25.cell? ⟨v9a, 1, none⟩ = some (h9a) := bc d9a 1
       have hfs27 := blk_frozen d9a.out 1; have hns27_0 := l9a.out; have hns27_1 := m9a.out; have hns27_3 := u9a.out; have hms27_0 := n9a.out; have hms27_1 := o9a.out; have hms27_3 := p9a.out; refine skip_ (w1 := ?_) (by rfl) rfl ?_ ?_
       rotate_left
       ·go_simp; rfl
       refine hK.out _ _ ?_
       clear hK K; refine done_ (done_of HT_.out (by kernel_rfl)) ?_
       try go_wp2
       go_roundg k1
       case measure => have := HK1.out; omega
       case rel => exact ⟨(wrap64 (b9a + 1)), (y182), (.slice Ao26 y182.length co26), sR, H', ⟨by have := HK1.out; omega⟩, ⟨by (with_reducible repeat (first | apply Kd.S_alloc | apply Kd.S_drewN | apply Kd.S_drew)); exact Kd.S_mono (Kd.S_far (p := ⟨v9a, 1, none⟩) (Kd.S_types HO184.out d9a.out (by decide)) (fun _ hk => hk.2) (.slice Ao26 y182.length co26)) (fun _ hk => trivial)⟩, ⟨by (with_reducible repeat first | refine bkN ?_ _ | refine bkD ?_ | refine bkA ?_ _ | refine blk_far ?_ l9a.out _); exact e9a.out⟩, ⟨by (with_reducible repeat first | refine bkN ?_ _ | refine bkD ?_ | refine bkA ?_ _ | refine blk_far ?_ m9a.out _); exact f9a.out⟩, ⟨by (with_reducible repeat first | refine bkN ?_ _ | refine bkD ?_ | refine bkA ?_ _); refine blk_put (cs := #[.int .i64 a0_0, h9a]) ?_ 1 _ rfl; (with_reducible repeat first | refine bkN ?_ _ | refine bkD ?_ | refine bkA ?_ _); exact d9a.out⟩, ⟨iB HB⟩⟩
      ·rw [if_neg c15] at H
       exact absurd H (by simp)
     ·rw [if_neg c13] at H
      exact absurd H (by simp)
    ·rw [if_neg c12] at H
     exact absurd H (by simp)
   ·rw [if_neg c11] at H
    have c11b0 : decide (b9a < (l0_1.length : Int)) = false := decide_eq_false c11
    clear c11; simp only [Option.some.injEq, Prod.mk.injEq] at H
    obtain ⟨rfl, rfl⟩ := H
    have hnb28 := n9a.out; have hnc28 := l9a.out; have hnb29 := o9a.out; have hnc29 := m9a.out; obtain ⟨hcz30_0, hcz30_1⟩ := cs2 d9a; obtain ⟨hfz30_0, hfz30_1⟩ := fs2 d9a; have hnb31 := r9a.out; have hnc31 := q9a.out; obtain ⟨hcz32_0, hcz32_1⟩ := cs2 f9a; obtain ⟨hfz32_0, hfz32_1⟩ := fs2 f9a; obtain ⟨Ao33, co33, eo33⟩ := Kd.S_slice a9a.out
    subst eo33
    go_wp2
    refine bodyPost_ret (results_cell_row rfl _ _ y9a 31 #[.int .i64 a0_0, .slice Ao33 c9a.length co33] (0, 0) _ rfl (by (with_reducible repeat first | refine bkN ?_ _ | refine bkD ?_ | refine bkA ?_ _); refine blk_put (cs := #[.int .i64 a0_0, .slice none 0 0]) ?_ 1 _ rfl; (with_reducible repeat first | refine bkN ?_ _ | refine bkD ?_ | refine bkA ?_ _); refine blk_put (cs := #[.int .i64 0, .slice none 0 0]) ?_ 0 _ rfl; (with_reducible repeat first | refine bkN ?_ _ | refine bkD ?_ | refine bkA ?_ _); exact f9a.out) Try.underlying31 rfl (by kernel_rfl)) rfl ?_
    exact ⟨_, eR, by (with_reducible repeat (first | apply Kd.S_alloc | apply Kd.S_drewN | apply Kd.S_drew)); exact Kd.S_mono (Kd.S_far (p := ⟨y9a, 1, none⟩) (Kd.S_far (p := ⟨y9a, 0, none⟩) (Kd.S_types a9a.out f9a.out (by decide)) (fun _ hk => hk.2) (.int .i64 a0_0)) (fun _ hk => hk.2) (.slice Ao33 c9a.length co33)) (fun _ hk => trivial), iB HB⟩
-- NOT PRINTED: function 69 (impl_Note_69)
end Go.Proofs.Ytddebnchbbmbkaa.PFnExactRecall
