-- The machine side of a law: written by a program of this session (wip/tools), a turned print.
import Derived.Test.YtddebnchbbmbkaaPFnExactRecallx0
namespace Go.Proofs.Ytddebnchbbmbkaa.PFnExactRecall
open Go.RowKit Go.Proofs.YtddebnchbbmbkaaW.PrintWords Go.Proofs.YtddebnchbbmbkaaW.PrintLast Go.Proofs.YtddebnchbbmbkaaW.PrintMore
attribute [local go_sem] max2_int min2_int max_two min_two max_three min_three max_four min_four   -- for this text's walks alone
set_option linter.unusedVariables false
set_option linter.unusedSimpArgs false
def spec_l10Copy.l0 : Nat → Int → Int → List (S86) → Int → List (S86) → Option (Int × (List (S86)))
 | 0, _, _, _, _, _ => none
 | k + 1, x4, x267000, x267001, x269000, x269001 => if x4 < (x267001.length : Int) then (if 0 ≤ x4 then ((some (([] : List Int) : List Int)).bind fun y270 => (if y270.length + ((rd_T86 x267001 x4).f1).length < 17592186044416 then (if x269001.length < 3518437208883 then (spec_l10Copy.l0 k (wrap64 (x4 + 1)) x267000 x267001 x269000 (x269001 ++ [(⟨(rd_T86 x267001 x4).f0, (y270 ++ ((rd_T86 x267001 x4).f1))⟩ : S86)])) else (none)) else (none))) else (none)) else (some (x269000, x269001))
def spec_l10Copy.f (k : Nat) (a0_0 : Int) (l0_1 : List (S86)) : Option (Int × (List (S86))) := spec_l10Copy.l0 k 0 a0_0 l0_1 a0_0 ([] : List (S86))
theorem spec_l10Copy.mono_l : ∀ k, (∀ y0 y1 y2 y3 y4, LeO (spec_l10Copy.l0 k y0 y1 y2 y3 y4) (spec_l10Copy.l0 (k + 1) y0 y1 y2 y3 y4))
 | 0 => fun _ _ _ _ _ r h => by simp [spec_l10Copy.l0] at h
 | k + 1 => by
  have ih0 := spec_l10Copy.mono_l k
  ·intro y0 y1 y2 y3 y4
   unfold spec_l10Copy.l0
   repeat' first
   | (with_reducible exact ih0 _ _ _ _ _)
   | (with_reducible exact LeO.refl _)
   | (with_reducible exact LeO.none _)
   | (with_reducible refine LeO.ite ?_ ?_)
   | (with_reducible refine LeO.bind ?_ (fun _ => ?_))
   | exact ih0 _ _ _ _ _
   | exact LeO.none _
   | refine LeO.ite ?_ ?_
   | refine LeO.bind ?_ (fun _ => ?_)
theorem spec_l10Copy.mono : ∀ a0 a1 k, LeO (spec_l10Copy.f k a0 a1) (spec_l10Copy.f (k + 1) a0 a1) := by
 intro a0 a1 k
 have ih0 := spec_l10Copy.mono_l k
 unfold spec_l10Copy.f
 repeat' first
   | (with_reducible exact ih0 _ _ _ _ _)
   | (with_reducible exact LeO.refl _)
   | (with_reducible exact LeO.none _)
   | (with_reducible refine LeO.ite ?_ ?_)
   | (with_reducible refine LeO.bind ?_ (fun _ => ?_))
   | exact ih0 _ _ _ _ _
   | exact LeO.none _
   | refine LeO.ite ?_ ?_
   | refine LeO.bind ?_ (fun _ => ?_)
def spec_l10Copy.T5 : Bool × List (List Nat × List Nat) := (true, [([], []), ([0], [0]), ([], []), ([2], [2]), ([], []), ([3, 4], [3, 4]), ([5], [5]), ([6], [6]), ([], []), ([], []), ([9], [9]), ([], []), ([10, 11], [10, 11]), ([12], [12]), ([13], [13]), ([8, 14], [8, 14]), ([7, 15], [7, 15]), ([16], [16]), ([1, 17, 15], [1, 17]), ([0, 1, 2, 3, 4, 5, 6, 7, 8, 9, 10, 11, 12, 13, 14, 15, 16, 17, 18], []), ([19, 18, 18, 0, 1, 2, 3, 4, 5, 6, 7, 8, 9, 10, 11, 12, 13, 14, 15, 16, 17, 18], [18, 19])])
def spec_l10Copy.B5 : List Nat := [0, 1, 0, 4, 0, 28, 60, 124, 0, 0, 512, 0, 3584, 7680, 15872, 32512, 65532, 131068, 262143, 524287, 1048575]
theorem spec_l10Copy.tab5 : rtab .any (opsOf Try.f44 5) = spec_l10Copy.T5 := by kernel_rfl
theorem spec_l10Copy.bits5 : waitsOk spec_l10Copy.T5.2 spec_l10Copy.B5 = true := by kernel_rfl
set_option maxHeartbeats 8000000 in
set_option maxRecDepth 100000 in
theorem spec_l10Copy.calls (k : Nat) (a0_0 : Int) (A0_1 : Option Addr) (c0_1 : Nat) (l0_1 : List (S86)) (r1 : Int) (r2 : List (S86)) (w : World) (hr0_1 : Kd.C k86 w A0_1 l0_1.length l0_1) (hc0_1 : l0_1.length ≤ c0_1) (h : spec_l10Copy.f k a0_0 l0_1 = some (r1, r2)) :
  Calls Try.prog 44 #[.agg #[.int .i64 a0_0, .slice A0_1 l0_1.length c0_1]] w fun e w' => ∃ v1_ : Value, e = .returned (.agg #[.int .i64 r1, v1_]) ∧ Kd.S k86 86 w' w.heap.size (fun _ => True) v1_ r2 ∧ Below w.heap.size w w' := by
 have hu31 := Try.underlying31
 have hu86 := Try.underlying86
 have HR0_1 := Aside0.mk hr0_1
 have HC0_1 := Aside0.mk hc0_1
 clear hr0_1 hc0_1; have HB := Aside0.mk (Below.refl w.heap.size w)
 have H : (spec_l10Copy.l0 k 0 a0_0 l0_1 a0_0 ([] : List (S86))) = some (r1, r2) := h
 clear h; have H' := Aside0.mk H
 clear H
 go_enter Try.func44, Try.ntmps44
 go_wp2_with (first | ((with_reducible refine gate_dst (N := 1) rfl ?_); refine bX 1 #[.int .i64 a0_0, .slice A0_1 l0_1.length c0_1] 31 ?_; intro gb266 hg w2 hbox hb; have b9a := Aside0.mk (hbox); have GW266 := bs HB hg; have GE266 := bs HB hg; replace HB := bh HB hb; clear hb hbox hg) | ((with_reducible refine gate_dst (N := 2) rfl ?_); refine bX 2 #[.int .i64 0, .slice none 0 0] 31 ?_; intro s9a hg w3 hbox hb; have e9a := Aside0.mk (hbox); have GW267 := bs HB hg; have GE267 := bs HB hg; have l9a := bl b9a hg; have m9a := bg b9a hg; replace b9a := bq b9a hb; replace HB := bh HB hb; clear hb hbox hg; have hnb4 := l9a.out; have hnc4 := m9a.out; obtain ⟨hcz5_0, hcz5_1⟩ := cs2 b9a; obtain ⟨hfz5_0, hfz5_1⟩ := fs2 b9a) | ((with_reducible refine gate_dst (N := 3) rfl ?_); refine bX 3 #[.int .i64 0, .slice none 0 0] 31 ?_; intro r9a hg w6 hbox hb; have d9a := Aside0.mk (hbox); have GW268 := bs HB hg; have GE268 := bs HB hg; have g9a := bl b9a hg; have i9a := bg b9a hg; have h9a := bl e9a hg; have n9a := bg e9a hg; replace b9a := bq b9a hb; replace e9a := bq e9a hb; replace HB := bh HB hb; clear hb hbox hg; have hnb7 := i9a.out; have hnc7 := g9a.out; have hnb8 := n9a.out; have hnc8 := h9a.out; obtain ⟨hcz9_0, hcz9_1⟩ := cs2 d9a; obtain ⟨hfz9_0, hfz9_1⟩ := fs2 d9a))
 go_loopg [4] k (fun kq v4 w' => ∃ (x4_1 : Int) (c9a : List (S86)) (f9a : Value), v4 = .int .i64 x4_1 ∧ Aside0 (spec_l10Copy.l0 kq x4_1 a0_0 l0_1 a0_0 c9a = some (r1, r2)) ∧ Aside0 (kq ≤ k) ∧ Aside0 (Kd.S k86 86 w' w.heap.size (fun _ => True) f9a c9a) ∧ Aside0 (w'.heap[gb266]? = some (.cells #[.int .i64 a0_0, (.slice A0_1 l0_1.length c0_1)] 31 (0, 0))) ∧ Aside0 (w'.heap[s9a]? = some (.cells #[.int .i64 0, (.slice none 0 0)] 31 (0, 0))) ∧ Aside0 (w'.heap[r9a]? = some (.cells #[.int .i64 a0_0, f9a] 31 (0, 0))) ∧ Aside0 (Below w.heap.size w w'))
 case atStart => exact ⟨(0), (([] : List (S86))), (.slice none 0 0), sR, H', ⟨Nat.le_refl _⟩, ⟨by first | exact Kd.S_nil _ _ _ _ _ | exact Kd.N_nil _ _ _ _ _ | exact Kd.V_nil _ _ _ _ _ | exact Kd.Q_nil _ _ _ _ _ | exact Kd.R_nil _ _ _ _ _⟩, ⟨by (with_reducible repeat first | refine bkN ?_ _ | refine bkD ?_ | refine bkA ?_ _ | refine blk_far ?_ g9a.out _); exact b9a.out⟩, ⟨by (with_reducible repeat first | refine bkN ?_ _ | refine bkD ?_ | refine bkA ?_ _ | refine blk_far ?_ h9a.out _); exact e9a.out⟩, ⟨by (with_reducible repeat first | refine bkN ?_ _ | refine bkD ?_ | refine bkA ?_ _); refine blk_put (cs := #[.int .i64 a0_0, .slice none 0 0]) ?_ 1 _ rfl; (with_reducible repeat first | refine bkN ?_ _ | refine bkD ?_ | refine bkA ?_ _); refine blk_put (cs := #[.int .i64 0, .slice none 0 0]) ?_ 0 _ rfl; (with_reducible repeat first | refine bkN ?_ _ | refine bkD ?_ | refine bkA ?_ _); exact d9a.out⟩, ⟨iB HB⟩⟩
 case round =>
  clear H'
  obtain ⟨x4_1, c9a, f9a, rfl, HA, HK1, a9a, b9a, e9a, d9a, HB⟩ := hrel
  cases gk with
  | zero => exact absurd HA.out (by simp [spec_l10Copy.l0])
  | succ k1 =>
   have H := HA.out; clear HA; simp only [spec_l10Copy.l0] at H
   by_cases c10 : x4_1 < (l0_1.length : Int)
   ·rw [if_pos c10] at H
    have c10b0 : decide (x4_1 < (l0_1.length : Int)) = true := decide_eq_true c10
    clear c10
    by_cases c11 : 0 ≤ x4_1
    ·rw [if_pos c11] at H
     have c11b0 : decide (0 ≤ x4_1) = true := decide_eq_true c11
     clear c11; obtain ⟨y270, hy270⟩ : ∃ y_ : List Int, y_ = (([] : List Int)) := ⟨_, rfl⟩
     replace H : (if y270.length + ((rd_T86 l0_1 x4_1).f1).length < 17592186044416 then (if c9a.length < 3518437208883 then (spec_l10Copy.l0 k1 (wrap64 (x4_1 + 1)) a0_0 l0_1 a0_0 (c9a ++ [(⟨(rd_T86 l0_1 x4_1).f0, (y270 ++ ((rd_T86 l0_1 x4_1).f1))⟩ : S86)])) else (none)) else (none)) = some (r1, r2) := by first | (rw [hy270]; with_reducible exact H) | (have H2_ := (Option.bind_some _ _).symm.trans H; rw [hy270]; with_reducible exact H2_) | (have H2_ := (Option.bind_some _ _).symm.trans H; with_reducible exact H2_) | with_reducible exact H | (rw [hy270]; exact H) | exact H
     have Ny270 := Aside0.mk hy270
     clear hy270
     by_cases c12 : y270.length + ((rd_T86 l0_1 x4_1).f1).length < 17592186044416
     ·rw [if_pos c12] at H
      have LMc12 := Aside0.mk c12
      clear c12; obtain ⟨y274, hy274⟩ : ∃ y_ : List Int, y_ = (y270 ++ ((rd_T86 l0_1 x4_1).f1)) := ⟨_, rfl⟩
      replace H : (if c9a.length < 3518437208883 then (spec_l10Copy.l0 k1 (wrap64 (x4_1 + 1)) a0_0 l0_1 a0_0 (c9a ++ [(⟨(rd_T86 l0_1 x4_1).f0, y274⟩ : S86)])) else (none)) = some (r1, r2) := by first | (rw [hy274]; with_reducible exact H) | (have H2_ := (Option.bind_some _ _).symm.trans H; rw [hy274]; with_reducible exact H2_) | (have H2_ := (Option.bind_some _ _).symm.trans H; with_reducible exact H2_) | with_reducible exact H | (rw [hy274]; exact H) | exact H
      have Ny274 := Aside0.mk hy274
      clear hy274
      by_cases c13 : c9a.length < 3518437208883
      ·rw [if_pos c13] at H
       have LMc13 := Aside0.mk c13
       clear c13; obtain ⟨y277, hy277⟩ : ∃ y_ : List (S86), y_ = (c9a ++ [(⟨(rd_T86 l0_1 x4_1).f0, y274⟩ : S86)]) := ⟨_, rfl⟩
       replace H : (spec_l10Copy.l0 k1 (wrap64 (x4_1 + 1)) a0_0 l0_1 a0_0 y277) = some (r1, r2) := by first | (rw [hy277]; with_reducible exact H) | (have H2_ := (Option.bind_some _ _).symm.trans H; rw [hy277]; with_reducible exact H2_) | (have H2_ := (Option.bind_some _ _).symm.trans H; with_reducible exact H2_) | with_reducible exact H | (rw [hy277]; exact H) | exact H
       have Ny277 := Aside0.mk hy277
       clear hy277; have H' := Aside0.mk H
       clear H; have hnb14 := l9a.out; have hnc14 := m9a.out; have hnb15 := g9a.out; have hnc15 := i9a.out; obtain ⟨hcz16_0, hcz16_1⟩ := cs2 b9a; obtain ⟨hfz16_0, hfz16_1⟩ := fs2 b9a
       try go_wp2
       have n0_ := Aside0.mk (Kd.S_drew a9a.out)
       have n1_ := Aside0.mk (blk_drew b9a.out)
       have n2_ := Aside0.mk (blk_drew e9a.out)
       have n3_ := Aside0.mk (blk_drew d9a.out)
       have n4_ := Aside0.mk (below_drew1 HB.out)
       clear a9a b9a e9a d9a HB; have a9a := n0_; have b9a := n1_; have e9a := n2_; have d9a := n3_; have HB := n4_; clear n0_ n1_ n2_ n3_ n4_; have p269 : 0 ≤ (x4_1 : Int) := oD
       have q269 : x4_1 < (l0_1.length : Int) := oD
       obtain ⟨q9a, A269_1, c269_1, e269, o9a, j9a, hl269_1, hi269_1⟩ := at_T86 HR0_1.out x4_1 p269 q269
       have hw269_1 := j9a
       have hw269_0 := o9a
       cases e269
       replace o9a := (HB.out.cell (World.block_lt_of_cell? w _ o9a)).trans o9a
       replace j9a := (HB.out.cell (World.block_lt_of_cell? w _ j9a)).trans j9a
       have HR269_1 := Aside0.mk hi269_1
       have HC269_1 := Aside0.mk hl269_1
       clear hi269_1 hl269_1; replace p269 := eq_true p269
       replace q269 := eq_true q269
       have p273 : 0 ≤ (x4_1 : Int) := oD
       have q273 : x4_1 < (l0_1.length : Int) := oD
       obtain ⟨ad273, A273_1, c273_1, e273, p9a, k9a, hl273_1, hi273_1⟩ := at_T86 HR0_1.out x4_1 p273 q273
       have hw273_1 := k9a
       have hw273_0 := p9a
       obtain rfl : q9a = ad273 := (by injection e273)
       replace p9a := (HB.out.cell (World.block_lt_of_cell? w _ p9a)).trans p9a
       replace k9a := (HB.out.cell (World.block_lt_of_cell? w _ k9a)).trans k9a
       have HR273_1 := Aside0.mk hi273_1
       have HC273_1 := Aside0.mk hl273_1
       clear hi273_1 hl273_1; replace p273 := eq_true p273
       replace q273 := eq_true q273
       have ea_ := Option.some.inj (j9a.symm.trans k9a)
       injection ea_ with ea_ en_ ec_
       subst ea_
       subst ec_
       clear en_; refine start_ (n := 21) (S := fun w' => w'.cell? ⟨r9a, 0, none⟩ = some (.int .i64 a0_0) ∧ w'.cell? ⟨r9a, 1, none⟩ = some (f9a) ∧ w'.cell? ⟨gb266, 0, none⟩ = some (.int .i64 a0_0) ∧ w'.cell? ⟨gb266, 1, none⟩ = some (.slice (some q9a) l0_1.length c0_1) ∧ w'.cell? (q9a.add ((x4_1).toNat * 2)) = some (.string ((rd_T86 l0_1 x4_1).f0)) ∧ w'.cell? ⟨(q9a.add ((x4_1).toNat * 2)).block, (q9a.add ((x4_1).toNat * 2)).off + 1, none⟩ = some (.slice A269_1 ((rd_T86 l0_1 x4_1).f1).length c269_1) ∧ w'.cell? (q9a.add ((x4_1).toNat * 2)) = some (.string ((rd_T86 l0_1 x4_1).f0)) ∧ w'.cell? ⟨(q9a.add ((x4_1).toNat * 2)).block, (q9a.add ((x4_1).toNat * 2)).off + 1, none⟩ = some (.slice A269_1 ((rd_T86 l0_1 x4_1).f1).length c269_1)) (ds := [20]) #[ff,ff,ff,ff,ff,ff,ff,ff,ff,ff,ff,ff,ff,ff,ff,ff,ff,ff,ff,ff,ff] (by kernel_rfl) rfl rfl ⟨bc d9a 0, bc d9a 1, bc b9a 0, bc b9a 1, ((HB.out.cell (World.block_lt_of_cell? w _ hw269_0)).trans hw269_0), ((HB.out.cell (World.block_lt_of_cell? w _ hw269_1)).trans hw269_1), ((HB.out.cell (World.block_lt_of_cell? w _ hw273_0)).trans hw273_0), ((HB.out.cell (World.block_lt_of_cell? w _ hw273_1)).trans hw273_1)⟩ (fun hHeld => ?_); refine with_tabW spec_l10Copy.tab5 spec_l10Copy.bits5 (fun HT_ HW_ => ?_)
       generalize wr.drew = w17 at a9a b9a e9a d9a HB HR269_1 HR273_1 o9a j9a p9a k9a hHeld ⊢
       refine pu 0 15 (tb 21 1) HT_ ?_
       refine pu 2 17 (tb 21 5) HT_ ?_
       refine pu 4 19 (tb 21 21) HT_ ?_
       refine pu 9 24 (tb 21 533) HT_ ?_
       refine pu 11 26 (tb 21 2581) HT_ ?_
       refine tk 1 16 (tb 21 2583) rfl rfl HT_ HW_ hHeld (by rintro w' ⟨s0, s1, s2, s3, s4, s5, s6, s7⟩; go_simp; with_reducible rfl) ?_
       refine tk 3 18 (tb 21 2591) rfl rfl HT_ HW_ hHeld (by rintro w' ⟨s0, s1, s2, s3, s4, s5, s6, s7⟩; go_simp; with_reducible rfl) ?_
       refine pu 5 20 (tb 21 2623) HT_ ?_
       refine pu 6 21 (tb 21 2687) HT_ ?_
       refine tk 7 22 (tb 21 2815) rfl rfl HT_ HW_ hHeld (by rintro w' ⟨s0, s1, s2, s3, s4, s5, s6, s7⟩; go_simp; with_reducible rfl) ?_
       refine tk 10 25 (tb 21 3839) rfl rfl HT_ HW_ hHeld (by rintro w' ⟨s0, s1, s2, s3, s4, s5, s6, s7⟩; go_simp; with_reducible rfl) ?_
       refine pu 12 27 (tb 21 7935) HT_ ?_
       refine pu 13 28 (tb 21 16127) HT_ ?_
       refine tk 14 29 (tb 21 32511) rfl rfl HT_ HW_ hHeld (by rintro w' ⟨s0, s1, s2, s3, s4, s5, s6, s7⟩; go_simp; with_reducible rfl) ?_
       refine one_ (i := 8) (N := some 23) #[tt,tt,tt,tt,tt,tt,tt,tt,tt,tt,tt,tt,tt,tt,tt,ff,ff,ff,ff,ff,ff] rfl rfl (one_of HT_.out (by kernel_rfl)) (by decide) (fun K hK => ?_)
       refine Kd.R_lit_step (Kd.int .i64) _ 3 ?hg (N := 23) ?hd (xs := ([] : List Int)) (inner := []) (ok := fun _ => True) (okp := fun _ => True) ?hr ?hp (fun _ hk => hk) trivial (Below.refl _ _) (Nat.le_refl _) (by simp) ?_; (case hd => rfl); (case hg => rfl); (case hr => first | (go_simp; done) | (go_simp; rfl)); (case hp => exact (Reps.none _ _))
       intro v271 w18 ho19 hb hg_ hnew_
       clear hg_ hnew_
       (first | rw [← Ny270.out] at ho19 | (simp only [Int.reduceToNat] at ho19; rw [← Ny270.out] at ho19))
       have n0_ := Aside0.mk (Kd.S_elder' (by (with_reducible repeat (first | apply Kd.S_alloc | apply Kd.S_drewN | apply Kd.S_drew)); exact a9a.out) (Kd.R_base ho19) hb)
       have HO272 := Aside0.mk (Kd.R_lower ho19 (below_size (be HB)))
       replace b9a := bq b9a hb; replace e9a := bq e9a hb; replace d9a := bq d9a hb; replace HB := bh HB hb
       clear a9a; have a9a := n0_; clear n0_; clear hb ho19; refine hK.out _ _ ⟨bc d9a 0, bc d9a 1, bc b9a 0, bc b9a 1, ((HB.out.cell (World.block_lt_of_cell? w _ hw269_0)).trans hw269_0), ((HB.out.cell (World.block_lt_of_cell? w _ hw269_1)).trans hw269_1), ((HB.out.cell (World.block_lt_of_cell? w _ hw273_0)).trans hw273_0), ((HB.out.cell (World.block_lt_of_cell? w _ hw273_1)).trans hw273_1)⟩ (fun hHeld => ?_)
       clear hK K; refine norm_ (a' := ?_) ?_ ?_
       rotate_left
       ·show Act.put _ (some 23) _ = _
        simp only [putL, i64_w, i32_w]; rfl
       refine one_ (i := 15) (N := some 30) #[tt,tt,tt,tt,tt,tt,tt,tt,tt,tt,tt,tt,tt,tt,tt,tt,ff,ff,ff,ff,ff] rfl rfl (one_of HT_.out (by kernel_rfl)) (by decide) (fun K hK => ?_)
       refine Kd.R_append_rows_step (Kd.int .i64) (w0 := w) w.heap.size (by rfl) (.tmp 23) (.tmp 29) 36 3 (.int .i64 0) 8 rfl Try.underlying36 info3 rfl (by decide) (by omega) v271 y270 ((rd_T86 l0_1 x4_1).f1) _ _ _ (fun _ => True) (fun _ => False) rfl rfl ?aO ?aR (fun _ _ h => h) (fun _ h => h.elim) ?aF ?aB ?aS ?aL ?_
       (case aR => exact cX (Kd.C_below HR273_1.out HB.out))
       (case aB => exact (be HB))
       (case aF => exact (fun _ _ => trivial))
       (case aO => exact (rr HO272))
       (case aS => exact (below_size (be HB)))
       (case aL => have := LMc12.out; omega)
       intro v275 w20 ho hb hg hat
       rw [← Ny274.out] at ho
       have n0_ := Aside0.mk (Kd.S_after (ok := (fun _ => True)) (by (with_reducible repeat (first | apply Kd.S_alloc | apply Kd.S_drewN | apply Kd.S_drew)); exact a9a.out) hg hat)
       have n1_ := Aside0.mk (blk_grown (g := gb266) (o := .cells #[.int .i64 a0_0, .slice (some q9a) l0_1.length c0_1] 31 (0, 0)) kB hg (Kd.R_ne HO272.out b9a.out (by decide)))
       have n2_ := Aside0.mk (blk_grown (g := s9a) (o := .cells #[.int .i64 0, .slice none 0 0] 31 (0, 0)) kB hg (Kd.R_ne HO272.out e9a.out (by decide)))
       have n3_ := Aside0.mk (blk_grown (g := r9a) (o := .cells #[.int .i64 a0_0, f9a] 31 (0, 0)) kB hg (Kd.R_ne HO272.out d9a.out (by decide)))
       have n4_ := Aside0.mk (hb)
       have HO276 := Aside0.mk (ho)
       clear HO272 a9a b9a e9a d9a HB; have a9a := n0_; have b9a := n1_; have e9a := n2_; have d9a := n3_; have HB := n4_; clear n0_ n1_ n2_ n3_ n4_; clear ho hb hg hat; obtain ⟨Ao21, co21, eo21⟩ := Kd.R_slice HO276.out
       (first | subst eo21 | (injection eo21 with f1_ f2_ f3_; have f4_ := f1_.symm; have f5_ := f3_.symm; clear f1_ f2_ f3_; subst f4_; subst f5_))
       refine hK.out _ _ ⟨bc d9a 0, bc d9a 1, bc b9a 0, bc b9a 1, ((HB.out.cell (World.block_lt_of_cell? w _ hw269_0)).trans hw269_0), ((HB.out.cell (World.block_lt_of_cell? w _ hw269_1)).trans hw269_1), ((HB.out.cell (World.block_lt_of_cell? w _ hw273_0)).trans hw273_0), ((HB.out.cell (World.block_lt_of_cell? w _ hw273_1)).trans hw273_1)⟩ (fun hHeld => ?_)
       clear hK K; refine norm_ (a' := ?_) ?_ ?_
       rotate_left
       ·show Act.put _ (some 30) _ = _
        simp only [putL, i64_w, i32_w]; rfl
       refine pu 16 31 (tb 21 131071) HT_ ?_
       refine one_ (i := 17) (N := some 32) #[tt,tt,tt,tt,tt,tt,tt,tt,tt,tt,tt,tt,tt,tt,tt,tt,tt,tt,ff,ff,ff] rfl rfl (one_of HT_.out (by kernel_rfl)) (by decide) (fun K hK => ?_)
       refine value_ (w1 := ?_) (v := ?_) (by rfl) rfl ?_ ?_
       rotate_left 2
       ·go_simp
        constructor
        ·rfl
        ·rfl
       refine hK.out _ _ ⟨(blk_cell (blk_alloc d9a.out _) 0).trans rfl, (blk_cell (blk_alloc d9a.out _) 1).trans rfl, (blk_cell (blk_alloc b9a.out _) 0).trans rfl, (blk_cell (blk_alloc b9a.out _) 1).trans rfl, (World.cell?_alloc_lt _ _ _ (World.block_lt_of_cell? _ _ (((HB.out.cell (World.block_lt_of_cell? w _ hw269_0)).trans hw269_0)))).trans (((HB.out.cell (World.block_lt_of_cell? w _ hw269_0)).trans hw269_0)), (World.cell?_alloc_lt _ _ _ (World.block_lt_of_cell? _ _ (((HB.out.cell (World.block_lt_of_cell? w _ hw269_1)).trans hw269_1)))).trans (((HB.out.cell (World.block_lt_of_cell? w _ hw269_1)).trans hw269_1)), (World.cell?_alloc_lt _ _ _ (World.block_lt_of_cell? _ _ (((HB.out.cell (World.block_lt_of_cell? w _ hw273_0)).trans hw273_0)))).trans (((HB.out.cell (World.block_lt_of_cell? w _ hw273_0)).trans hw273_0)), (World.cell?_alloc_lt _ _ _ (World.block_lt_of_cell? _ _ (((HB.out.cell (World.block_lt_of_cell? w _ hw273_1)).trans hw273_1)))).trans (((HB.out.cell (World.block_lt_of_cell? w _ hw273_1)).trans hw273_1))⟩ (fun hHeld => ?_)
       clear hK K; refine norm_ (a' := ?_) ?_ ?_
       rotate_left
       ·show Act.put _ (some 32) _ = _
        simp only [putL, i64_w, i32_w]; rfl
       refine one_ (i := 18) (N := some 33) #[tt,tt,tt,tt,tt,tt,tt,tt,tt,tt,tt,tt,tt,tt,tt,tt,tt,tt,tt,ff,ff] rfl rfl (one_of HT_.out (by kernel_rfl)) (by decide) (fun K hK => ?_)
       refine Kd.S_append_step k86 (w0 := w) w.heap.size (by rfl) (.tmp 16) (.tmp 32) 29 86 (.agg #[(.string ⟨#[]⟩), (.slice none 0 0)]) 40 rfl Try.underlying29 info86 rfl (by decide) (by omega) f9a c9a (⟨(rd_T86 l0_1 x4_1).f0, y274⟩ : S86) [.string ((rd_T86 l0_1 x4_1).f0), .slice Ao21 y274.length co21] (fun _ => True) (fun k_ => some k_ = (.slice Ao21 y274.length co21 : Value).ownBlock) rfl rfl ?aP (fun k_ hk_ => ((Kd.R_mono (ok' := fun k_ => ((fun _ => True)) k_ ∧ some k_ ≠ (f9a : Value).ownBlock) (Kd.R_apart' (HO276.out) (Kd.S_typed a9a.out) (by decide)) (fun k_ hk => ⟨trivial, hk.2⟩))).1 k_ hk_.symm) ?aF ?aO ?aB ?aS ?aL ?_
       (case aP => exact k86_mkM _ _ _ (⟨(rd_T86 l0_1 x4_1).f0, y274⟩ : S86) (Kd.R_mono (Kd.R_tight rfl (Kd.R_mono (ok' := fun k_ => ((fun _ => True)) k_ ∧ some k_ ≠ (f9a : Value).ownBlock) (Kd.R_apart' (HO276.out) (Kd.S_typed a9a.out) (by decide)) (fun k_ hk => ⟨trivial, hk.2⟩))) (fun _ h_ => h_)))
       (case aB => exact (be HB))
       (case aF => exact (fun _ _ => trivial))
       (case aO => exact (by (with_reducible repeat (first | apply Kd.S_alloc | apply Kd.S_drewN | apply Kd.S_drew)); exact Kd.S_mono a9a.out (fun k_ hk => ⟨trivial, fun e_ => hk.2 e_⟩)))
       (case aS => exact (below_size (be HB)))
       (case aL => have := LMc13.out; omega)
       intro v278 w22 ho hb hg hat
       rw [← Ny277.out] at ho
       have n0_ := Aside0.mk (blk_grown (g := gb266) (o := .cells #[.int .i64 a0_0, .slice (some q9a) l0_1.length c0_1] 31 (0, 0)) kB hg (Kd.S_ne a9a.out b9a.out (by decide)))
       have n1_ := Aside0.mk (blk_grown (g := s9a) (o := .cells #[.int .i64 0, .slice none 0 0] 31 (0, 0)) kB hg (Kd.S_ne a9a.out e9a.out (by decide)))
       have n2_ := Aside0.mk (blk_grown (g := r9a) (o := .cells #[.int .i64 a0_0, f9a] 31 (0, 0)) kB hg (Kd.S_ne a9a.out d9a.out (by decide)))
       have n3_ := Aside0.mk (hb)
       have HO279 := Aside0.mk (ho)
       clear a9a HO276 b9a e9a d9a HB; have b9a := n0_; have e9a := n1_; have d9a := n2_; have HB := n3_; clear n0_ n1_ n2_ n3_; clear ho hb hg hat; obtain ⟨Ao23, co23, eo23⟩ := Kd.S_slice HO279.out
       (first | subst eo23 | (injection eo23 with f1_ f2_ f3_; have f4_ := f1_.symm; have f5_ := f3_.symm; clear f1_ f2_ f3_; subst f4_; subst f5_))
       refine hK.out _ _ ⟨bc d9a 0, bc d9a 1, bc b9a 0, bc b9a 1, ((HB.out.cell (World.block_lt_of_cell? w _ hw269_0)).trans hw269_0), ((HB.out.cell (World.block_lt_of_cell? w _ hw269_1)).trans hw269_1), ((HB.out.cell (World.block_lt_of_cell? w _ hw273_0)).trans hw273_0), ((HB.out.cell (World.block_lt_of_cell? w _ hw273_1)).trans hw273_1)⟩ (fun hHeld => ?_)
       clear hK K; refine norm_ (a' := ?_) ?_ ?_
       rotate_left
       ·show Act.put _ (some 33) _ = _
        simp only [putL, i64_w, i32_w]; rfl
       refine pu 19 34 (tb 21 1048575) HT_ ?_
       refine last_ (i := 20) (N := none) #[tt,tt,tt,tt,tt,tt,tt,tt,tt,tt,tt,tt,tt,tt,tt,tt,tt,tt,tt,tt,tt] rfl rfl (one_of HT_.out (by kernel_rfl)) (by decide) (fun K hK => ?_)
       have hs24 : w22.cell? ⟨r9a, 1, none⟩ = some (f9a) := bc d9a 1
       have hfs24 := blk_frozen d9a.out 1; have hns24_0 := g9a.out; have hns24_1 := h9a.out; have hms24_0 := i9a.out; have hms24_1 := n9a.out; refine skip_ (w1 := ?_) (by rfl) rfl ?_ ?_
       rotate_left
       ·go_simp; rfl
       refine hK.out _ _ ?_
       clear hK K; refine done_ (done_of HT_.out (by kernel_rfl)) ?_
       try go_wp2
       go_roundg k1
       case measure => have := HK1.out; omega
       case rel => exact ⟨(wrap64 (x4_1 + 1)), (y277), (.slice Ao23 y277.length co23), sR, H', ⟨by have := HK1.out; omega⟩, ⟨by (with_reducible repeat (first | apply Kd.S_alloc | apply Kd.S_drewN | apply Kd.S_drew)); exact Kd.S_mono (Kd.S_far (p := ⟨r9a, 1, none⟩) (Kd.S_types HO279.out d9a.out (by decide)) (fun _ hk => hk.2) (.slice Ao23 y277.length co23)) (fun _ hk => trivial)⟩, ⟨by (with_reducible repeat first | refine bkN ?_ _ | refine bkD ?_ | refine bkA ?_ _ | refine blk_far ?_ g9a.out _); exact b9a.out⟩, ⟨by (with_reducible repeat first | refine bkN ?_ _ | refine bkD ?_ | refine bkA ?_ _ | refine blk_far ?_ h9a.out _); exact e9a.out⟩, ⟨by (with_reducible repeat first | refine bkN ?_ _ | refine bkD ?_ | refine bkA ?_ _); refine blk_put (cs := #[.int .i64 a0_0, f9a]) ?_ 1 _ rfl; (with_reducible repeat first | refine bkN ?_ _ | refine bkD ?_ | refine bkA ?_ _); exact d9a.out⟩, ⟨iB HB⟩⟩
      ·rw [if_neg c13] at H
       exact absurd H (by simp)
     ·rw [if_neg c12] at H
      exact absurd H (by simp)
    ·rw [if_neg c11] at H
     exact absurd H (by simp)
   ·rw [if_neg c10] at H
    have c10b0 : decide (x4_1 < (l0_1.length : Int)) = false := decide_eq_false c10
    clear c10; simp only [Option.some.injEq, Prod.mk.injEq] at H
    obtain ⟨rfl, rfl⟩ := H
    have hnb25 := l9a.out; have hnc25 := m9a.out; have hnb26 := g9a.out; have hnc26 := i9a.out; obtain ⟨hcz27_0, hcz27_1⟩ := cs2 b9a; obtain ⟨hfz27_0, hfz27_1⟩ := fs2 b9a; have hnb28 := n9a.out; have hnc28 := h9a.out; obtain ⟨hcz29_0, hcz29_1⟩ := cs2 d9a; obtain ⟨hfz29_0, hfz29_1⟩ := fs2 d9a; obtain ⟨hcz30_0, hcz30_1⟩ := cs2 e9a; obtain ⟨hfz30_0, hfz30_1⟩ := fs2 e9a; obtain ⟨Ao31, co31, eo31⟩ := Kd.S_slice a9a.out
    subst eo31
    go_wp2
    refine bodyPost_ret (results_cell_row rfl _ _ s9a 31 #[.int .i64 a0_0, .slice Ao31 c9a.length co31] (0, 0) _ rfl (by (with_reducible repeat first | refine bkN ?_ _ | refine bkD ?_ | refine bkA ?_ _); refine blk_put (cs := #[.int .i64 a0_0, .slice none 0 0]) ?_ 1 _ rfl; (with_reducible repeat first | refine bkN ?_ _ | refine bkD ?_ | refine bkA ?_ _); refine blk_put (cs := #[.int .i64 0, .slice none 0 0]) ?_ 0 _ rfl; (with_reducible repeat first | refine bkN ?_ _ | refine bkD ?_ | refine bkA ?_ _); exact e9a.out) Try.underlying31 rfl (by kernel_rfl)) rfl ?_
    exact ⟨_, eR, by (with_reducible repeat (first | apply Kd.S_alloc | apply Kd.S_drewN | apply Kd.S_drew)); exact Kd.S_mono (Kd.S_far (p := ⟨s9a, 1, none⟩) (Kd.S_far (p := ⟨s9a, 0, none⟩) (Kd.S_types a9a.out e9a.out (by decide)) (fun _ hk => hk.2) (.int .i64 a0_0)) (fun _ hk => hk.2) (.slice Ao31 c9a.length co31)) (fun _ hk => trivial), iB HB⟩
end Go.Proofs.Ytddebnchbbmbkaa.PFnExactRecall
