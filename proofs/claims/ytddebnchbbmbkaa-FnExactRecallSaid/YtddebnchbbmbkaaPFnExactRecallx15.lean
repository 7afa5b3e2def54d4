-- The machine side of a law: written by a program of this session (wip/tools), a turned print.
import Derived.Test.YtddebnchbbmbkaaPFnExactRecallx0
import Derived.Test.YtddebnchbbmbkaaPFnExactRecallx12
namespace Go.Proofs.Ytddebnchbbmbkaa.PFnExactRecall
open Go.RowKit Go.Proofs.YtddebnchbbmbkaaW.PrintWords Go.Proofs.YtddebnchbbmbkaaW.PrintLast Go.Proofs.YtddebnchbbmbkaaW.PrintMore
attribute [local go_sem] max2_int min2_int max_two min_two max_three min_three max_four min_four   -- for this text's walks alone
set_option linter.unusedVariables false
set_option linter.unusedSimpArgs false
def spec_l10Recall.l0 : Nat → Int → List Int → Int → Int → List (S86) → Int → List (S86) → Option (Int × (List (S86)) × List Int × Bool)
 | 0, _, _, _, _, _, _, _ => none
 | k + 1, x9, x10, x12, x282000, x282001, x297000, x297001 => if x12 < (x282001.length : Int) then (if x12 = x9 then (spec_l10Recall.l0 k x9 x10 (wrap64 (x12 + 1)) x282000 x282001 x297000 x297001) else (if 0 ≤ x12 then (if x297001.length < 3518437208883 then (spec_l10Recall.l0 k x9 x10 (wrap64 (x12 + 1)) x282000 x282001 x297000 (x297001 ++ [(⟨(rd_T86 x282001 x12).f0, (rd_T86 x282001 x12).f1⟩ : S86)])) else (none)) else (none))) else (if (x297001.length : Int) > x282000 then (if 0 ≤ x282000 then (if x282000 ≤ (x297001.length : Int) then (some (x297000, (x297001.take (x282000 : Int).toNat), x10, decide (x9 ≥ 0))) else (none)) else (none)) else (some (x297000, x297001, x10, decide (x9 ≥ 0))))
def spec_l10Recall.f (k : Nat) (l0_0 : List (S95)) (a1_0 : Int) (l1_1 : List (S86)) (a2 : ByteArray) : Option (Int × (List (S86)) × List Int × Bool) := (spec_l10At.f k l1_1 a2).bind fun t283 => ((spec_l8Bpe.f k l0_0 a2).bind fun t284 => ((some (([] : List Int) : List Int)).bind fun y287 => (if y287.length + t284.length < 17592186044416 then (spec_l10Recall.l0 k t283 t284 0 a1_0 l1_1 a1_0 (([(⟨a2, (y287 ++ t284)⟩ : S86)] : List (S86)))) else (none))))
theorem spec_l10Recall.mono_l : ∀ k, (∀ y0 y1 y2 y3 y4 y5 y6, LeO (spec_l10Recall.l0 k y0 y1 y2 y3 y4 y5 y6) (spec_l10Recall.l0 (k + 1) y0 y1 y2 y3 y4 y5 y6))
 | 0 => fun _ _ _ _ _ _ _ r h => by simp [spec_l10Recall.l0] at h
 | k + 1 => by
  have ih0 := spec_l10Recall.mono_l k
  ·intro y0 y1 y2 y3 y4 y5 y6
   unfold spec_l10Recall.l0
   repeat' first
   | (with_reducible exact ih0 _ _ _ _ _ _ _)
   | (with_reducible exact spec_l10At.mono _ _ _)
   | (with_reducible exact spec_l8Bpe.mono _ _ _)
   | (with_reducible exact LeO.refl _)
   | (with_reducible exact LeO.none _)
   | (with_reducible refine LeO.ite ?_ ?_)
   | (with_reducible refine LeO.bind ?_ (fun _ => ?_))
   | exact ih0 _ _ _ _ _ _ _
   | exact spec_l10At.mono _ _ _
   | exact spec_l8Bpe.mono _ _ _
   | exact LeO.none _
   | refine LeO.ite ?_ ?_
   | refine LeO.bind ?_ (fun _ => ?_)
theorem spec_l10Recall.mono : ∀ a0 a1 a2 a3 k, LeO (spec_l10Recall.f k a0 a1 a2 a3) (spec_l10Recall.f (k + 1) a0 a1 a2 a3) := by
 intro a0 a1 a2 a3 k
 have ih0 := spec_l10Recall.mono_l k
 unfold spec_l10Recall.f
 repeat' first
   | (with_reducible exact ih0 _ _ _ _ _ _ _)
   | (with_reducible exact spec_l10At.mono _ _ _)
   | (with_reducible exact spec_l8Bpe.mono _ _ _)
   | (with_reducible exact LeO.refl _)
   | (with_reducible exact LeO.none _)
   | (with_reducible refine LeO.ite ?_ ?_)
   | (with_reducible refine LeO.bind ?_ (fun _ => ?_))
   | exact ih0 _ _ _ _ _ _ _
   | exact spec_l10At.mono _ _ _
   | exact spec_l8Bpe.mono _ _ _
   | exact LeO.none _
   | refine LeO.ite ?_ ?_
   | refine LeO.bind ?_ (fun _ => ?_)
def spec_l10Recall.T3 : Bool × List (List Nat × List Nat) := (true, [([], []), ([0], [0]), ([], []), ([], []), ([], []), ([3, 4], [3, 4]), ([2, 5], [2, 5]), ([6], [6]), ([1, 7], [1, 7]), ([], []), ([9, 8, 5, 0, 1, 2, 3, 4, 5, 6, 7, 8, 9], [8, 9])])
def spec_l10Recall.B3 : List Nat := [0, 1, 0, 0, 0, 24, 60, 124, 255, 0, 1023]
theorem spec_l10Recall.tab3 : rtab .any (opsOf Try.f45 3) = spec_l10Recall.T3 := by kernel_rfl
theorem spec_l10Recall.bits3 : waitsOk spec_l10Recall.T3.2 spec_l10Recall.B3 = true := by kernel_rfl
def spec_l10Recall.T8 : Bool × List (List Nat × List Nat) := (true, [([], []), ([0], [0]), ([], []), ([2], [2]), ([], []), ([3, 4], [3, 4]), ([5], [5]), ([6], [6]), ([1, 7], [1, 7]), ([0, 1, 2, 3, 4, 5, 6, 7, 8], []), ([9, 8, 8, 0, 1, 2, 3, 4, 5, 6, 7, 8], [8, 9])])
def spec_l10Recall.B8 : List Nat := [0, 1, 0, 4, 0, 28, 60, 124, 255, 511, 1023]
theorem spec_l10Recall.tab8 : rtab .any (opsOf Try.f45 8) = spec_l10Recall.T8 := by kernel_rfl
theorem spec_l10Recall.bits8 : waitsOk spec_l10Recall.T8.2 spec_l10Recall.B8 = true := by kernel_rfl
set_option maxHeartbeats 8000000 in
set_option maxRecDepth 100000 in
theorem spec_l10Recall.calls (k : Nat) (A0_0 : Option Addr) (c0_0 : Nat) (l0_0 : List (S95)) (a1_0 : Int) (P1_1_ : Nat → Prop) (A1_1 : Option Addr) (c1_1 : Nat) (l1_1 : List (S86)) (a2 : ByteArray) (r1 : Int) (r2 : List (S86)) (r3 : List Int) (r4 : Bool) (w : World) (hr0_0 : Kd.C k95 w A0_0 l0_0.length l0_0) (hc0_0 : l0_0.length ≤ c0_0) (hs1_1 : Kd.V k86 86 w w.heap.size (fun k_ => P1_1_ k_) (.slice A1_1 l1_1.length c1_1) l1_1) (h : spec_l10Recall.f k l0_0 a1_0 l1_1 a2 = some (r1, r2, r3, r4)) :
  Calls Try.prog 45 #[.agg #[.slice A0_0 l0_0.length c0_0], .agg #[.int .i64 a1_0, .slice A1_1 l1_1.length c1_1], .string a2] w fun e w' => ∃ v1_ v2_ : Value, e = .returned (.tuple #[.agg #[.int .i64 r1, v1_], v2_, .bool r4]) ∧ Kd.N k86 86 w' w.heap.size (fun k_ => (P1_1_ k_ ∨ w.heap.size ≤ k_) ∧ some k_ ≠ (v2_ : Value).ownBlock) v1_ r2 ∧ Kd.R (Kd.int .i64) 3 w' w.heap.size (fun k_ => (w.heap.size ≤ k_)) v2_ r3 ∧ Below w.heap.size w w' := by
 have hu26 := Try.underlying26
 have hu31 := Try.underlying31
 have hu86 := Try.underlying86
 have HR0_0 := Aside0.mk hr0_0
 have HC0_0 := Aside0.mk hc0_0
 clear hr0_0 hc0_0; have e9a := Aside0.mk (show Kd.V k86 86 w w.heap.size (fun k_ => (P1_1_ k_ ∨ w.heap.size ≤ k_)) (.slice A1_1 l1_1.length c1_1) l1_1 from Kd.V_mono hs1_1 (fun k_ hk => .inl hk))
 have HB := Aside0.mk (Below.refl w.heap.size w)
 have H : ((spec_l10At.f k l1_1 a2).bind fun t283 => ((spec_l8Bpe.f k l0_0 a2).bind fun t284 => ((some (([] : List Int) : List Int)).bind fun y287 => (if y287.length + t284.length < 17592186044416 then (spec_l10Recall.l0 k t283 t284 0 a1_0 l1_1 a1_0 (([(⟨a2, (y287 ++ t284)⟩ : S86)] : List (S86)))) else (none))))) = some (r1, r2, r3, r4) := h
 clear h; replace H := Option.bind_eq_some_iff.mp H
 obtain ⟨t283, A40, H⟩ := H
 replace H : ((spec_l8Bpe.f k l0_0 a2).bind fun t284 => ((some (([] : List Int) : List Int)).bind fun y287 => (if y287.length + t284.length < 17592186044416 then (spec_l10Recall.l0 k t283 t284 0 a1_0 l1_1 a1_0 (([(⟨a2, (y287 ++ t284)⟩ : S86)] : List (S86)))) else (none)))) = some (r1, r2, r3, r4) := H
 have A4 := Aside0.mk A40
 clear A40; replace H := Option.bind_eq_some_iff.mp H
 obtain ⟨t284, A50, H⟩ := H
 replace H : ((some (([] : List Int) : List Int)).bind fun y287 => (if y287.length + t284.length < 17592186044416 then (spec_l10Recall.l0 k t283 t284 0 a1_0 l1_1 a1_0 (([(⟨a2, (y287 ++ t284)⟩ : S86)] : List (S86)))) else (none))) = some (r1, r2, r3, r4) := H
 have A5 := Aside0.mk A50
 clear A50; obtain ⟨y287, hy287⟩ : ∃ y_ : List Int, y_ = (([] : List Int)) := ⟨_, rfl⟩
 replace H : (if y287.length + t284.length < 17592186044416 then (spec_l10Recall.l0 k t283 t284 0 a1_0 l1_1 a1_0 (([(⟨a2, (y287 ++ t284)⟩ : S86)] : List (S86)))) else (none)) = some (r1, r2, r3, r4) := by first | (rw [hy287]; with_reducible exact H) | (have H2_ := (Option.bind_some _ _).symm.trans H; rw [hy287]; with_reducible exact H2_) | (have H2_ := (Option.bind_some _ _).symm.trans H; with_reducible exact H2_) | with_reducible exact H | (rw [hy287]; exact H) | exact H
 have Ny287 := Aside0.mk hy287
 clear hy287
 by_cases c6 : y287.length + t284.length < 17592186044416
 ·rw [if_pos c6] at H
  have LMc6 := Aside0.mk c6
  clear c6; obtain ⟨y290, hy290⟩ : ∃ y_ : List Int, y_ = (y287 ++ t284) := ⟨_, rfl⟩
  replace H : (spec_l10Recall.l0 k t283 t284 0 a1_0 l1_1 a1_0 (([(⟨a2, y290⟩ : S86)] : List (S86)))) = some (r1, r2, r3, r4) := by first | (rw [hy290]; with_reducible exact H) | (have H2_ := (Option.bind_some _ _).symm.trans H; rw [hy290]; with_reducible exact H2_) | (have H2_ := (Option.bind_some _ _).symm.trans H; with_reducible exact H2_) | with_reducible exact H | (rw [hy290]; exact H) | exact H
  have Ny290 := Aside0.mk hy290
  clear hy290; obtain ⟨y293, hy293⟩ : ∃ y_ : List (S86), y_ = (([(⟨a2, y290⟩ : S86)] : List (S86))) := ⟨_, rfl⟩
  replace H : (spec_l10Recall.l0 k t283 t284 0 a1_0 l1_1 a1_0 y293) = some (r1, r2, r3, r4) := by first | (rw [hy293]; with_reducible exact H) | (have H2_ := (Option.bind_some _ _).symm.trans H; rw [hy293]; with_reducible exact H2_) | (have H2_ := (Option.bind_some _ _).symm.trans H; with_reducible exact H2_) | with_reducible exact H | (rw [hy293]; exact H) | exact H
  have G9a := Aside0.mk hy293
  clear hy293; have H' := Aside0.mk H
  clear H
  go_enter Try.func45, Try.ntmps45
  try go_wp2_with (first | ((with_reducible refine gate_dst (N := 3) rfl ?_); refine bX 3 #[.slice A0_0 l0_0.length c0_0] 26 ?_; intro l9a hg w7 hbox hb; have n0_ := Aside0.mk (Kd.V_below (Kd.V_elderB (by (with_reducible repeat (first | apply Kd.V_alloc | apply Kd.V_drewN | apply Kd.V_drew)); exact e9a.out) l9a (Nat.le_of_eq hg.symm)) hb); have b9a := Aside0.mk (hbox); have GW280 := bs HB hg; have GE280 := bs HB hg; replace HB := bh HB hb; clear e9a; have e9a := n0_; clear n0_; clear hb hbox hg) | ((with_reducible refine gate_dst (N := 4) rfl ?_); refine bX 4 #[.int .i64 a1_0, .slice A1_1 l1_1.length c1_1] 31 ?_; intro i9a hg w8 hbox hb; have n0_ := Aside0.mk (Kd.V_below (Kd.V_elderB (by (with_reducible repeat (first | apply Kd.V_alloc | apply Kd.V_drewN | apply Kd.V_drew)); exact e9a.out) i9a (Nat.le_of_eq hg.symm)) hb); have a9a := Aside0.mk (hbox); have GW281 := bs HB hg; have GE281 := bs HB hg; have x9a := bl b9a hg; have y9a := bg b9a hg; replace b9a := bq b9a hb; replace HB := bh HB hb; clear e9a; have e9a := n0_; clear n0_; clear hb hbox hg) | ((with_reducible refine gate_dst (N := 6) rfl ?_); refine bX 6 #[.int .i64 0, .slice none 0 0] 31 ?_; intro f9a hg w9 hbox hb; have n0_ := Aside0.mk (Kd.V_below (Kd.V_elderB (by (with_reducible repeat (first | apply Kd.V_alloc | apply Kd.V_drewN | apply Kd.V_drew)); exact e9a.out) f9a (Nat.le_of_eq hg.symm)) hb); have c9a := Aside0.mk (hbox); have GW282 := bs HB hg; have GE282 := bs HB hg; have E9a := bl b9a hg; have F9a := bg b9a hg; have z9a := bl a9a hg; have A9a := bg a9a hg; replace b9a := bq b9a hb; replace a9a := bq a9a hb; replace HB := bh HB hb; clear e9a; have e9a := n0_; clear n0_; clear hb hbox hg; have hnb10 := y9a.out; have hnc10 := x9a.out; have hnb11 := z9a.out; have hnc11 := A9a.out; obtain ⟨hcz12_0, hcz12_1⟩ := cs2 a9a; obtain ⟨hfz12_0, hfz12_1⟩ := fs2 a9a) | ((with_reducible refine gate_callee (f := 57) rfl ?_); refine goesC_ (some 16) Try.func57 #[.slice A1_1 l1_1.length c1_1, .string a2] ?_; (with_reducible refine (spec_l10At.calls k _ _ l1_1 a2 t283 _ ?side1 ?side2 A4.out).mono ?_); (case side1 => exact cX ((Kd.V_reads' e9a.out).2.2)); (case side2 => exact (Kd.V_reads' e9a.out).2.1); rintro e w' ⟨rfl, ⟨nd, rfl⟩⟩; refine ⟨_, rfl, ?_⟩; (try (rw [drewN_self w9]; generalize hq_ : World.drewN w9 _ = w9; have n0_ : Aside0 (Kd.V k86 86 w9 w.heap.size (fun k_ => (P1_1_ k_ ∨ w.heap.size ≤ k_) ∧ k_ ≠ l9a ∧ k_ ≠ i9a ∧ k_ ≠ f9a) (.slice A1_1 l1_1.length c1_1) l1_1) := ⟨by rw [← hq_]; exact (by (with_reducible repeat (first | apply Kd.V_alloc | apply Kd.V_drewN | apply Kd.V_drew)); exact Kd.V_mono e9a.out (fun _ hk => ⟨hk.1.1.1, ⟨hk.1.1.2, ⟨hk.1.2, hk.2⟩⟩⟩))⟩; have n1_ : Aside0 (w9.heap[l9a]? = some (.cells #[.slice A0_0 l0_0.length c0_0] 26 (0, 0))) := ⟨by rw [← hq_]; exact kB⟩; have n2_ : Aside0 (w9.heap[i9a]? = some (.cells #[.int .i64 a1_0, .slice A1_1 l1_1.length c1_1] 31 (0, 0))) := ⟨by rw [← hq_]; exact kB⟩; have n3_ : Aside0 (w9.heap[f9a]? = some (.cells #[.int .i64 0, .slice none 0 0] 31 (0, 0))) := ⟨by rw [← hq_]; exact kB⟩; have n4_ : Aside0 (Below w.heap.size w w9) := ⟨by rw [← hq_]; exact (be HB)⟩; clear e9a b9a a9a c9a HB hq_; have e9a := n0_; have b9a := n1_; have a9a := n2_; have c9a := n3_; have HB := n4_; clear n0_ n1_ n2_ n3_ n4_)); have hnb13 := E9a.out; have hnc13 := F9a.out; have hcz14_0 : w9.cell? ⟨l9a, 0, none⟩ = some (.slice A0_0 l0_0.length c0_0) := bc b9a 0; have hfz14_0 := blk_frozen b9a.out 0) | ((with_reducible refine gate_callee (f := 40) rfl ?_); refine goesC_ (some 19) Try.func40 #[.agg #[.slice A0_0 l0_0.length c0_0], .string a2] ?_; (with_reducible refine (spec_l8Bpe.calls k _ _ l0_0 a2 t284 _ ?side1 ?side2 A5.out).mono ?_); (case side1 => exact cX (Kd.C_below HR0_0.out HB.out)); (case side2 => exact HC0_0.out); rintro e w15 ⟨v285, rfl, ho0, hb⟩; refine ⟨_, rfl, ?_⟩; have n0_ := Aside0.mk (Kd.V_elder' (by (with_reducible repeat (first | apply Kd.V_alloc | apply Kd.V_drewN | apply Kd.V_drew)); exact e9a.out) (Kd.R_base ho0) hb); have m9a := Aside0.mk (Kd.R_lower (Kd.R_newM (M := fun k_ => (w.heap.size ≤ k_)) ho0 (below_size (be HB)) (fun k_ h_ => h_)) (below_size (be HB))); replace b9a := bq b9a hb; replace a9a := bq a9a hb; replace c9a := bq c9a hb; replace HB := bh HB hb; clear e9a; have e9a := n0_; clear n0_; (try clear hb); (try clear hb2); (try clear hk); (try clear hi); obtain ⟨Ao16, co16, eo16⟩ := Kd.R_slice m9a.out; subst eo16))
  have n0_ := Aside0.mk (Kd.V_drew e9a.out)
  have n1_ := Aside0.mk (Kd.R_drew m9a.out)
  have n2_ := Aside0.mk (blk_drew b9a.out)
  have n3_ := Aside0.mk (blk_drew a9a.out)
  have n4_ := Aside0.mk (blk_drew c9a.out)
  have n5_ := Aside0.mk (below_drew1 HB.out)
  clear e9a m9a b9a a9a c9a HB; have e9a := n0_; have m9a := n1_; have b9a := n2_; have a9a := n3_; have c9a := n4_; have HB := n5_; clear n0_ n1_ n2_ n3_ n4_ n5_; refine start_ (n := 11) (S := fun w' => w'.cell? ⟨i9a, 0, none⟩ = some (.int .i64 a1_0) ∧ w'.cell? ⟨i9a, 1, none⟩ = some (.slice A1_1 l1_1.length c1_1)) (ds := []) #[ff,ff,ff,ff,ff,ff,ff,ff,ff,ff,ff] (by kernel_rfl) rfl rfl ⟨bc a9a 0, bc a9a 1⟩ (fun hHeld => ?_); refine with_tabW spec_l10Recall.tab3 spec_l10Recall.bits3 (fun HT_ HW_ => ?_)
  generalize w15.drew = w17 at e9a m9a b9a a9a c9a HB hHeld ⊢
  refine pu 0 20 (tb 11 1) HT_ ?_
  refine pu 2 22 (tb 11 5) HT_ ?_
  refine pu 4 24 (tb 11 21) HT_ ?_
  refine tk 1 21 (tb 11 23) rfl rfl HT_ HW_ hHeld (by rintro w' ⟨s0, s1⟩; go_simp; with_reducible rfl) ?_
  refine join_ (σ := Value × Value × Value × Nat) 1 #[tt,tt,tt,tt,tt,tt,tt,tt,tt,tt,ff] (fun s_ => [(23, s_.1), (25, s_.2.1), (27, s_.2.2.1), (11, .pointer (some ⟨s_.2.2.2, 0, none⟩)), (26, .agg #[.string a2, s_.2.1]), (28, .agg #[.int .i64 a1_0, s_.2.2.1])]) (fun s_ w' => (w'.cell? ⟨i9a, 0, none⟩ = some (.int .i64 a1_0) ∧ w'.cell? ⟨i9a, 1, none⟩ = some (.slice A1_1 l1_1.length c1_1)) ∧ (Kd.V k86 86 w' w.heap.size (fun k_ => (P1_1_ k_ ∨ w.heap.size ≤ k_) ∧ some k_ ≠ (.slice Ao16 t284.length co16 : Value).ownBlock ∧ some k_ ≠ (s_.2.2.1 : Value).ownBlock ∧ k_ ≠ l9a ∧ k_ ≠ i9a ∧ k_ ≠ f9a ∧ k_ ≠ s_.2.2.2) (.slice A1_1 l1_1.length c1_1) l1_1) ∧ (Kd.R (Kd.int .i64) 3 w' w.heap.size (fun k_ => (w.heap.size ≤ k_)) (.slice Ao16 t284.length co16) t284) ∧ (Kd.N k86 86 w' w.heap.size (fun k_ => (P1_1_ k_ ∨ w.heap.size ≤ k_) ∧ some k_ ≠ (.slice Ao16 t284.length co16 : Value).ownBlock ∧ k_ ≠ l9a ∧ k_ ≠ i9a ∧ k_ ≠ f9a ∧ k_ ≠ s_.2.2.2) s_.2.2.1 y293) ∧ (w'.heap[l9a]? = some (.cells #[.slice A0_0 l0_0.length c0_0] 26 (0, 0))) ∧ (w'.heap[i9a]? = some (.cells #[.int .i64 a1_0, .slice A1_1 l1_1.length c1_1] 31 (0, 0))) ∧ (w'.heap[f9a]? = some (.cells #[.int .i64 0, .slice none 0 0] 31 (0, 0))) ∧ (w'.heap[s_.2.2.2]? = some (.cells #[.int .i64 0, .slice none 0 0] 31 (0, 0))) ∧ (w.heap.size ≤ s_.2.2.2) ∧ (w.heap.size ≤ s_.2.2.2) ∧ (l9a ≠ s_.2.2.2) ∧ (s_.2.2.2 ≠ l9a) ∧ (i9a ≠ s_.2.2.2) ∧ (s_.2.2.2 ≠ i9a) ∧ (f9a ≠ s_.2.2.2) ∧ (s_.2.2.2 ≠ f9a) ∧ (Below w.heap.size w w')) ?_ ?_
  rotate_left
  ·intro hCont; refine two_ (i := 3) (j := 9) (Ni := some 23) (Nj := some 11) #[tt,tt,tt,tt,tt,ff,ff,ff,ff,ff,ff] #[tt,tt,tt,ff,tt,ff,ff,ff,ff,tt,ff] rfl rfl rfl rfl (two_of HT_.out (by kernel_rfl)) (by decide) (by decide) (fun K hK => ?_) (fun K hK => ?_)
   ·skip
    refine Kd.R_lit_step (Kd.int .i64) _ 3 ?hg (N := 23) ?hd (xs := ([] : List Int)) (inner := []) (ok := fun _ => True) (okp := fun _ => True) ?hr ?hp (fun _ hk => hk) trivial (Below.refl _ _) (Nat.le_refl _) (by simp) ?_; (case hd => rfl); (case hg => rfl); (case hr => first | (go_simp; done) | (go_simp; rfl)); (case hp => exact (Reps.none _ _))
    intro v288 w18 ho19 hb hg_ hnew_
    clear hg_ hnew_
    (first | rw [← Ny287.out] at ho19 | (simp only [Int.reduceToNat] at ho19; rw [← Ny287.out] at ho19))
    have n0_ := Aside0.mk (Kd.V_elder' (by (with_reducible repeat (first | apply Kd.V_alloc | apply Kd.V_drewN | apply Kd.V_drew)); exact e9a.out) (Kd.R_base ho19) hb)
    have n1_ := Aside0.mk (Kd.R_elder' (rr m9a) (Kd.R_base ho19) hb)
    have v9a := Aside0.mk (Kd.R_lower (Kd.R_new' (Kd.R_newM (M := fun k_ => (w.heap.size ≤ k_)) ho19 (below_size (be HB)) (fun k_ h_ => h_)) (Kd.R_lt (rr m9a))) (below_size (be HB)))
    replace b9a := bq b9a hb; replace a9a := bq a9a hb; replace c9a := bq c9a hb; replace HB := bh HB hb
    clear e9a m9a; have e9a := n0_; have m9a := n1_; clear n0_ n1_; clear hb ho19; refine hK.out _ _ ⟨bc a9a 0, bc a9a 1⟩ (fun hHeld => ?_)
    clear hK K; refine norm_ (a' := ?_) ?_ ?_
    rotate_left
    ·show Act.put _ (some 23) _ = _
     simp only [putL, i64_w, i32_w]; rfl
    refine two_ (i := 5) (j := 9) (Ni := some 25) (Nj := some 11) #[tt,tt,tt,tt,tt,tt,ff,ff,ff,ff,ff] #[tt,tt,tt,tt,tt,ff,ff,ff,ff,tt,ff] rfl rfl rfl rfl (two_of HT_.out (by kernel_rfl)) (by decide) (by decide) (fun K hK => ?_) (fun K hK => ?_)
    ·skip
     refine Kd.R_append_rows_step (Kd.int .i64) (w0 := w) w.heap.size (by rfl) (.tmp 23) (.tmp 24) 36 3 (.int .i64 0) 8 rfl Try.underlying36 info3 rfl (by decide) (by omega) v288 y287 t284 _ _ _ (fun k_ => (w.heap.size ≤ k_) ∧ some k_ ≠ (.slice Ao16 t284.length co16 : Value).ownBlock) (fun _ => False) rfl rfl ?aO ?aR (fun _ _ h => h) (fun _ h => h.elim) ?aF ?aB ?aS ?aL ?_
     (case aR => exact cX ((Kd.R_reads' m9a.out).2.2))
     (case aB => exact (be HB))
     (case aF => exact (fun k_ hk => ⟨(Nat.le_trans (below_size (be HB)) hk), Kd.fresh' (Kd.R_lt (rr m9a)) k_ hk⟩))
     (case aO => exact (rX (Kd.R_mono v9a.out (fun _ hk => ⟨hk.1.1, hk.2⟩))))
     (case aS => exact (below_size (be HB)))
     (case aL => have := LMc6.out; omega)
     intro v291 w20 ho hb hg hat
     rw [← Ny290.out] at ho
     have n0_ := Aside0.mk (Kd.V_afterv (ok := (fun k_ => (P1_1_ k_ ∨ w.heap.size ≤ k_) ∧ some k_ ≠ (.slice Ao16 t284.length co16 : Value).ownBlock ∧ k_ ≠ l9a ∧ k_ ≠ i9a ∧ k_ ≠ f9a)) (by (with_reducible repeat (first | apply Kd.V_alloc | apply Kd.V_drewN | apply Kd.V_drew)); exact Kd.V_mono e9a.out (fun _ hk => ⟨⟨hk.1.1.1, ⟨hk.1.2, ⟨hk.1.1.2.1, ⟨hk.1.1.2.2.1, hk.1.1.2.2.2⟩⟩⟩⟩, hk.2⟩)) hg hat)
     have n1_ := Aside0.mk (blk_grown (g := l9a) (o := .cells #[.slice A0_0 l0_0.length c0_0] 26 (0, 0)) kB hg (Kd.R_ne v9a.out b9a.out (by decide)))
     have n2_ := Aside0.mk (blk_grown (g := i9a) (o := .cells #[.int .i64 a1_0, .slice A1_1 l1_1.length c1_1] 31 (0, 0)) kB hg (Kd.R_ne v9a.out a9a.out (by decide)))
     have n3_ := Aside0.mk (blk_grown (g := f9a) (o := .cells #[.int .i64 0, .slice none 0 0] 31 (0, 0)) kB hg (Kd.R_ne v9a.out c9a.out (by decide)))
     have n4_ := Aside0.mk (Kd.R_after (ok := (fun k_ => (w.heap.size ≤ k_))) (rX (Kd.R_mono m9a.out (fun _ hk => ⟨hk.1.1, hk.2⟩))) hg hat)
     have n5_ := Aside0.mk (hb)
     have w9a := Aside0.mk (ho)
     clear v9a e9a b9a a9a c9a m9a HB; have e9a := n0_; have b9a := n1_; have a9a := n2_; have c9a := n3_; have m9a := n4_; have HB := n5_; clear n0_ n1_ n2_ n3_ n4_ n5_; clear ho hb hg hat; obtain ⟨Ao21, co21, eo21⟩ := Kd.R_slice w9a.out
     (first | subst eo21 | (injection eo21 with f1_ f2_ f3_; have f4_ := f1_.symm; have f5_ := f3_.symm; clear f1_ f2_ f3_; subst f4_; subst f5_))
     refine hK.out _ _ ⟨bc a9a 0, bc a9a 1⟩ (fun hHeld => ?_)
     clear hK K; refine norm_ (a' := ?_) ?_ ?_
     rotate_left
     ·show Act.put _ (some 25) _ = _
      simp only [putL, i64_w, i32_w]; rfl
     refine pu 6 26 (tb 11 127) HT_ ?_
     refine two_ (i := 7) (j := 9) (Ni := some 27) (Nj := some 11) #[tt,tt,tt,tt,tt,tt,tt,tt,ff,ff,ff] #[tt,tt,tt,tt,tt,tt,tt,ff,ff,tt,ff] rfl rfl rfl rfl (two_of HT_.out (by kernel_rfl)) (by decide) (by decide) (fun K hK => ?_) (fun K hK => ?_)
     ·skip
      refine Kd.N_lit_step k86 _ 86 ?hg (N' := 27) ?hd (xs := ([(⟨a2, y290⟩ : S86)] : List (S86))) (inner := [.string a2, .slice Ao21 y290.length co21]) (ok := (fun k_ => (P1_1_ k_ ∨ w.heap.size ≤ k_) ∧ some k_ ≠ (.slice Ao16 t284.length co16 : Value).ownBlock ∧ k_ ≠ l9a ∧ k_ ≠ i9a ∧ k_ ≠ f9a)) (okp := (fun k_ => (P1_1_ k_ ∨ w.heap.size ≤ k_) ∧ some k_ ≠ (.slice Ao16 t284.length co16 : Value).ownBlock ∧ k_ ≠ l9a ∧ k_ ≠ i9a ∧ k_ ≠ f9a)) ?hr ?hp (fun _ hk => hk) ((show ∀ k_, w20.heap.size ≤ k_ → (fun k_ => (P1_1_ k_ ∨ w.heap.size ≤ k_) ∧ some k_ ≠ (.slice Ao16 t284.length co16 : Value).ownBlock ∧ k_ ≠ l9a ∧ k_ ≠ i9a ∧ k_ ≠ f9a) k_ from fun k_ hk => ⟨(.inr (Nat.le_trans (below_size (be HB)) hk)), Kd.fresh' (Kd.R_lt (rr m9a)) k_ hk, Kd.freshB (g := l9a) (o := .cells #[.slice A0_0 l0_0.length c0_0] 26 (0, 0)) kB k_ hk, Kd.freshB (g := i9a) (o := .cells #[.int .i64 a1_0, .slice A1_1 l1_1.length c1_1] 31 (0, 0)) kB k_ hk, Kd.freshB (g := f9a) (o := .cells #[.int .i64 0, .slice none 0 0] 31 (0, 0)) kB k_ hk⟩) _ (Nat.le_refl _)) (Below.refl _ _) (Nat.le_refl _) (by simp) ?_; (case hd => rfl); (case hg => rfl); (case hr => first | (go_simp; done) | (go_simp; rfl)); (case hp => exact (Reps.c2 (show Kd.FK k86 _ _ (⟨a2, y290⟩ : S86) [.string a2, .slice Ao21 y290.length co21] from (k86_mkF _ _ (⟨a2, y290⟩ : S86) (Kd.R_reads' (Kd.R_mono (ok' := (fun k_ => (P1_1_ k_ ∨ w.heap.size ≤ k_) ∧ some k_ ≠ (.slice Ao16 t284.length co16 : Value).ownBlock ∧ k_ ≠ l9a ∧ k_ ≠ i9a ∧ k_ ≠ f9a)) (Kd.R_types (Kd.R_types (Kd.R_types (w9a.out) b9a.out (by decide)) a9a.out (by decide)) c9a.out (by decide)) (fun k_ hk => ⟨(.inr (hk.1.1.1.1)), ⟨hk.1.1.1.2, ⟨hk.1.1.2, ⟨hk.1.2, hk.2⟩⟩⟩⟩))).2.1 (Kd.R_F (Kd.R_mono (ok' := (fun k_ => (P1_1_ k_ ∨ w.heap.size ≤ k_) ∧ some k_ ≠ (.slice Ao16 t284.length co16 : Value).ownBlock ∧ k_ ≠ l9a ∧ k_ ≠ i9a ∧ k_ ≠ f9a)) (Kd.R_types (Kd.R_types (Kd.R_types (w9a.out) b9a.out (by decide)) a9a.out (by decide)) c9a.out (by decide)) (fun k_ hk => ⟨(.inr (hk.1.1.1.1)), ⟨hk.1.1.1.2, ⟨hk.1.1.2, ⟨hk.1.2, hk.2⟩⟩⟩⟩))))) (Reps.none _ _)))
      intro v294 w22 ho23 hb hg_ hnew_
      clear hg_ hnew_
      (first | rw [← G9a.out] at ho23 | (simp only [Int.reduceToNat] at ho23; rw [← G9a.out] at ho23))
      have n0_ := Aside0.mk (Kd.V_elder' (by (with_reducible repeat (first | apply Kd.V_alloc | apply Kd.V_drewN | apply Kd.V_drew)); exact e9a.out) (Kd.N_base ho23) hb)
      have B9a := Aside0.mk (Kd.N_lower ho23 (below_size (be HB)))
      replace m9a := Aside0.mk (Kd.R_below (rr m9a) hb); replace b9a := bq b9a hb; replace a9a := bq a9a hb; replace c9a := bq c9a hb; replace HB := bh HB hb
      clear w9a e9a; have e9a := n0_; clear n0_; clear hb ho23; obtain ⟨Ao24, co24, eo24⟩ := Kd.N_slice B9a.out
      (first | subst eo24 | (injection eo24 with f1_ f2_ f3_; have f4_ := f1_.symm; have f5_ := f3_.symm; clear f1_ f2_ f3_; subst f4_; subst f5_))
      refine hK.out _ _ ⟨bc a9a 0, bc a9a 1⟩ (fun hHeld => ?_)
      clear hK K; refine norm_ (a' := ?_) ?_ ?_
      rotate_left
      ·show Act.put _ (some 27) _ = _
       simp only [putL, i64_w, i32_w]; rfl
      refine pu 8 28 (tb 11 511) HT_ ?_
      refine one_ (i := 9) (N := some 11) #[tt,tt,tt,tt,tt,tt,tt,tt,tt,tt,ff] rfl rfl (one_of HT_.out (by kernel_rfl)) (by decide) (fun K hK => ?_)
      refine box_step ?hg (N := 11) ?hd (cs := #[.int .i64 0, .slice none 0 0]) (t := 31) ?hr ?_; (case hd => rfl); (case hg => rfl); (case hr => first | (go_simp; done) | (go_simp; rfl))
      intro d9a hg w25 hbox hb
      have n0_ := Aside0.mk (Kd.V_below (Kd.V_elderB (by (with_reducible repeat (first | apply Kd.V_alloc | apply Kd.V_drewN | apply Kd.V_drew)); exact e9a.out) d9a (Nat.le_of_eq hg.symm)) hb)
      have n2_ := Aside0.mk (Kd.N_below (Kd.N_elderB (nX B9a.out) d9a (Nat.le_of_eq hg.symm)) hb)
      have h9a := Aside0.mk (hbox)
      have H9a := bs HB hg; have C9a := bs HB hg; have o9a := bl b9a hg; have q9a := bg b9a hg; have g9a := bl a9a hg; have p9a := bg a9a hg; have n9a := bl c9a hg; have r9a := bg c9a hg; replace m9a := Aside0.mk (Kd.R_below (rr m9a) hb); replace b9a := bq b9a hb; replace a9a := bq a9a hb; replace c9a := bq c9a hb; replace HB := bh HB hb
      clear e9a B9a; have e9a := n0_; have B9a := n2_; clear n0_ n2_; clear hb hbox hg; refine hK.out _ _ ⟨bc a9a 0, bc a9a 1⟩ (fun hHeld => ?_)
      clear hK K; refine norm_ (a' := ?_) ?_ ?_
      rotate_left
      ·show Act.put _ (some 11) _ = _
       simp only [putL, i64_w, i32_w]; rfl
      exact norm_ (by simp only [putAll, putL]) (hCont (v288, .slice Ao21 y290.length co21, .slice Ao24 y293.length co24, d9a) _ ⟨hHeld, (by (with_reducible repeat (first | apply Kd.V_alloc | apply Kd.V_drewN | apply Kd.V_drew)); exact Kd.V_mono e9a.out (fun _ hk => ⟨hk.1.1.1.1, ⟨hk.1.1.1.2.1, ⟨hk.1.2, ⟨hk.1.1.1.2.2.1, ⟨hk.1.1.1.2.2.2.1, ⟨hk.1.1.1.2.2.2.2, hk.2⟩⟩⟩⟩⟩⟩)), (rX (Kd.R_mono m9a.out (fun _ hk => hk.1))), (nX (Kd.N_mono B9a.out (fun _ hk => ⟨hk.1.1, ⟨hk.1.2.1, ⟨hk.1.2.2.1, ⟨hk.1.2.2.2.1, ⟨hk.1.2.2.2.2, hk.2⟩⟩⟩⟩⟩))), kB, kB, kB, kB, H9a.out, C9a.out, o9a.out, q9a.out, g9a.out, p9a.out, n9a.out, r9a.out, (be HB)⟩)
     ·skip
      refine box_step ?hg (N := 11) ?hd (cs := #[.int .i64 0, .slice none 0 0]) (t := 31) ?hr ?_; (case hd => rfl); (case hg => rfl); (case hr => first | (go_simp; done) | (go_simp; rfl))
      intro d9a hg w22 hbox hb
      have n0_ := Aside0.mk (Kd.V_below (Kd.V_elderB (by (with_reducible repeat (first | apply Kd.V_alloc | apply Kd.V_drewN | apply Kd.V_drew)); exact e9a.out) d9a (Nat.le_of_eq hg.symm)) hb)
      have h9a := Aside0.mk (hbox)
      have H9a := bs HB hg; have C9a := bs HB hg; have o9a := bl b9a hg; have q9a := bg b9a hg; have g9a := bl a9a hg; have p9a := bg a9a hg; have n9a := bl c9a hg; have r9a := bg c9a hg; replace m9a := Aside0.mk (Kd.R_below (rr m9a) hb); replace w9a := Aside0.mk (Kd.R_below (rr w9a) hb); replace b9a := bq b9a hb; replace a9a := bq a9a hb; replace c9a := bq c9a hb; replace HB := bh HB hb
      clear e9a; have e9a := n0_; clear n0_; clear hb hbox hg; refine hK.out _ _ ⟨bc a9a 0, bc a9a 1⟩ (fun hHeld => ?_)
      clear hK K; refine norm_ (a' := ?_) ?_ ?_
      rotate_left
      ·show Act.put _ (some 11) _ = _
       simp only [putL, i64_w, i32_w]; rfl
      refine one_ (i := 7) (N := some 27) #[tt,tt,tt,tt,tt,tt,tt,tt,ff,tt,ff] rfl rfl (one_of HT_.out (by kernel_rfl)) (by decide) (fun K hK => ?_)
      refine Kd.N_lit_step k86 _ 86 ?hg (N' := 27) ?hd (xs := ([(⟨a2, y290⟩ : S86)] : List (S86))) (inner := [.string a2, .slice Ao21 y290.length co21]) (ok := (fun k_ => (P1_1_ k_ ∨ w.heap.size ≤ k_) ∧ some k_ ≠ (.slice Ao16 t284.length co16 : Value).ownBlock ∧ k_ ≠ l9a ∧ k_ ≠ i9a ∧ k_ ≠ f9a ∧ k_ ≠ d9a)) (okp := (fun k_ => (P1_1_ k_ ∨ w.heap.size ≤ k_) ∧ some k_ ≠ (.slice Ao16 t284.length co16 : Value).ownBlock ∧ k_ ≠ l9a ∧ k_ ≠ i9a ∧ k_ ≠ f9a ∧ k_ ≠ d9a)) ?hr ?hp (fun _ hk => hk) ((show ∀ k_, w22.heap.size ≤ k_ → (fun k_ => (P1_1_ k_ ∨ w.heap.size ≤ k_) ∧ some k_ ≠ (.slice Ao16 t284.length co16 : Value).ownBlock ∧ k_ ≠ l9a ∧ k_ ≠ i9a ∧ k_ ≠ f9a ∧ k_ ≠ d9a) k_ from fun k_ hk => ⟨(.inr (Nat.le_trans (below_size (be HB)) hk)), Kd.fresh' (Kd.R_lt (rr m9a)) k_ hk, Kd.freshB (g := l9a) (o := .cells #[.slice A0_0 l0_0.length c0_0] 26 (0, 0)) kB k_ hk, Kd.freshB (g := i9a) (o := .cells #[.int .i64 a1_0, .slice A1_1 l1_1.length c1_1] 31 (0, 0)) kB k_ hk, Kd.freshB (g := f9a) (o := .cells #[.int .i64 0, .slice none 0 0] 31 (0, 0)) kB k_ hk, Kd.freshB (g := d9a) (o := .cells #[.int .i64 0, .slice none 0 0] 31 (0, 0)) kB k_ hk⟩) _ (Nat.le_refl _)) (Below.refl _ _) (Nat.le_refl _) (by simp) ?_; (case hd => rfl); (case hg => rfl); (case hr => first | (go_simp; done) | (go_simp; rfl)); (case hp => exact (Reps.c2 (show Kd.FK k86 _ _ (⟨a2, y290⟩ : S86) [.string a2, .slice Ao21 y290.length co21] from (k86_mkF _ _ (⟨a2, y290⟩ : S86) (Kd.R_reads' (Kd.R_mono (ok' := (fun k_ => (P1_1_ k_ ∨ w.heap.size ≤ k_) ∧ some k_ ≠ (.slice Ao16 t284.length co16 : Value).ownBlock ∧ k_ ≠ l9a ∧ k_ ≠ i9a ∧ k_ ≠ f9a ∧ k_ ≠ d9a)) (Kd.R_types (Kd.R_types (Kd.R_types (Kd.R_types (w9a.out) b9a.out (by decide)) a9a.out (by decide)) c9a.out (by decide)) h9a.out (by decide)) (fun k_ hk => ⟨(.inr (hk.1.1.1.1.1)), ⟨hk.1.1.1.1.2, ⟨hk.1.1.1.2, ⟨hk.1.1.2, ⟨hk.1.2, hk.2⟩⟩⟩⟩⟩))).2.1 (Kd.R_F (Kd.R_mono (ok' := (fun k_ => (P1_1_ k_ ∨ w.heap.size ≤ k_) ∧ some k_ ≠ (.slice Ao16 t284.length co16 : Value).ownBlock ∧ k_ ≠ l9a ∧ k_ ≠ i9a ∧ k_ ≠ f9a ∧ k_ ≠ d9a)) (Kd.R_types (Kd.R_types (Kd.R_types (Kd.R_types (w9a.out) b9a.out (by decide)) a9a.out (by decide)) c9a.out (by decide)) h9a.out (by decide)) (fun k_ hk => ⟨(.inr (hk.1.1.1.1.1)), ⟨hk.1.1.1.1.2, ⟨hk.1.1.1.2, ⟨hk.1.1.2, ⟨hk.1.2, hk.2⟩⟩⟩⟩⟩))))) (Reps.none _ _)))
      intro v294 w23 ho24 hb hg_ hnew_
      clear hg_ hnew_
      (first | rw [← G9a.out] at ho24 | (simp only [Int.reduceToNat] at ho24; rw [← G9a.out] at ho24))
      have n0_ := Aside0.mk (Kd.V_elder' (by (with_reducible repeat (first | apply Kd.V_alloc | apply Kd.V_drewN | apply Kd.V_drew)); exact e9a.out) (Kd.N_base ho24) hb)
      have B9a := Aside0.mk (Kd.N_lower ho24 (below_size (be HB)))
      replace m9a := Aside0.mk (Kd.R_below (rr m9a) hb); replace b9a := bq b9a hb; replace a9a := bq a9a hb; replace c9a := bq c9a hb; replace h9a := bq h9a hb; replace HB := bh HB hb
      clear w9a e9a; have e9a := n0_; clear n0_; clear hb ho24; obtain ⟨Ao25, co25, eo25⟩ := Kd.N_slice B9a.out
      (first | subst eo25 | (injection eo25 with f1_ f2_ f3_; have f4_ := f1_.symm; have f5_ := f3_.symm; clear f1_ f2_ f3_; subst f4_; subst f5_))
      refine hK.out _ _ ⟨bc a9a 0, bc a9a 1⟩ (fun hHeld => ?_)
      clear hK K; refine norm_ (a' := ?_) ?_ ?_
      rotate_left
      ·show Act.put _ (some 27) _ = _
       simp only [putL, i64_w, i32_w]; rfl
      refine pu 8 28 (tb 11 1023) HT_ ?_
      exact norm_ (by simp only [putAll, putL]) (hCont (v288, .slice Ao21 y290.length co21, .slice Ao25 y293.length co25, d9a) _ ⟨hHeld, (by (with_reducible repeat (first | apply Kd.V_alloc | apply Kd.V_drewN | apply Kd.V_drew)); exact Kd.V_mono e9a.out (fun _ hk => ⟨hk.1.1.1.1, ⟨hk.1.1.1.2.1, ⟨hk.2, ⟨hk.1.1.1.2.2.1, ⟨hk.1.1.1.2.2.2.1, ⟨hk.1.1.1.2.2.2.2, hk.1.2⟩⟩⟩⟩⟩⟩)), (rX (Kd.R_mono m9a.out (fun _ hk => hk.1))), (nX B9a.out), kB, kB, kB, kB, H9a.out, C9a.out, o9a.out, q9a.out, g9a.out, p9a.out, n9a.out, r9a.out, (be HB)⟩)
    ·skip
     refine box_step ?hg (N := 11) ?hd (cs := #[.int .i64 0, .slice none 0 0]) (t := 31) ?hr ?_; (case hd => rfl); (case hg => rfl); (case hr => first | (go_simp; done) | (go_simp; rfl))
     intro d9a hg w20 hbox hb
     have n0_ := Aside0.mk (Kd.V_below (Kd.V_elderB (by (with_reducible repeat (first | apply Kd.V_alloc | apply Kd.V_drewN | apply Kd.V_drew)); exact e9a.out) d9a (Nat.le_of_eq hg.symm)) hb)
     have h9a := Aside0.mk (hbox)
     have H9a := bs HB hg; have C9a := bs HB hg; have o9a := bl b9a hg; have q9a := bg b9a hg; have g9a := bl a9a hg; have p9a := bg a9a hg; have n9a := bl c9a hg; have r9a := bg c9a hg; replace m9a := Aside0.mk (Kd.R_below (rr m9a) hb); replace v9a := Aside0.mk (Kd.R_below (rr v9a) hb); replace b9a := bq b9a hb; replace a9a := bq a9a hb; replace c9a := bq c9a hb; replace HB := bh HB hb
     clear e9a; have e9a := n0_; clear n0_; clear hb hbox hg; refine hK.out _ _ ⟨bc a9a 0, bc a9a 1⟩ (fun hHeld => ?_)
     clear hK K; refine norm_ (a' := ?_) ?_ ?_
     rotate_left
     ·show Act.put _ (some 11) _ = _
      simp only [putL, i64_w, i32_w]; rfl
     refine one_ (i := 5) (N := some 25) #[tt,tt,tt,tt,tt,tt,ff,ff,ff,tt,ff] rfl rfl (one_of HT_.out (by kernel_rfl)) (by decide) (fun K hK => ?_)
     refine Kd.R_append_rows_step (Kd.int .i64) (w0 := w) w.heap.size (by rfl) (.tmp 23) (.tmp 24) 36 3 (.int .i64 0) 8 rfl Try.underlying36 info3 rfl (by decide) (by omega) v288 y287 t284 _ _ _ (fun k_ => (w.heap.size ≤ k_) ∧ some k_ ≠ (.slice Ao16 t284.length co16 : Value).ownBlock) (fun _ => False) rfl rfl ?aO ?aR (fun _ _ h => h) (fun _ h => h.elim) ?aF ?aB ?aS ?aL ?_
     (case aR => exact cX ((Kd.R_reads' m9a.out).2.2))
     (case aB => exact (be HB))
     (case aF => exact (fun k_ hk => ⟨(Nat.le_trans (below_size (be HB)) hk), Kd.fresh' (Kd.R_lt (rr m9a)) k_ hk⟩))
     (case aO => exact (rX (Kd.R_mono v9a.out (fun _ hk => ⟨hk.1.1, hk.2⟩))))
     (case aS => exact (below_size (be HB)))
     (case aL => have := LMc6.out; omega)
     intro v291 w21 ho hb hg hat
     rw [← Ny290.out] at ho
     have n0_ := Aside0.mk (Kd.V_afterv (ok := (fun k_ => (P1_1_ k_ ∨ w.heap.size ≤ k_) ∧ some k_ ≠ (.slice Ao16 t284.length co16 : Value).ownBlock ∧ k_ ≠ l9a ∧ k_ ≠ i9a ∧ k_ ≠ f9a ∧ k_ ≠ d9a)) (by (with_reducible repeat (first | apply Kd.V_alloc | apply Kd.V_drewN | apply Kd.V_drew)); exact Kd.V_mono e9a.out (fun _ hk => ⟨⟨hk.1.1.1.1, ⟨hk.1.1.2, ⟨hk.1.1.1.2.1, ⟨hk.1.1.1.2.2.1, ⟨hk.1.1.1.2.2.2, hk.2⟩⟩⟩⟩⟩, hk.1.2⟩)) hg hat)
     have n1_ := Aside0.mk (blk_grown (g := l9a) (o := .cells #[.slice A0_0 l0_0.length c0_0] 26 (0, 0)) kB hg (Kd.R_ne v9a.out b9a.out (by decide)))
     have n2_ := Aside0.mk (blk_grown (g := i9a) (o := .cells #[.int .i64 a1_0, .slice A1_1 l1_1.length c1_1] 31 (0, 0)) kB hg (Kd.R_ne v9a.out a9a.out (by decide)))
     have n3_ := Aside0.mk (blk_grown (g := f9a) (o := .cells #[.int .i64 0, .slice none 0 0] 31 (0, 0)) kB hg (Kd.R_ne v9a.out c9a.out (by decide)))
     have n4_ := Aside0.mk (Kd.R_after (ok := (fun k_ => (w.heap.size ≤ k_))) (rX (Kd.R_mono m9a.out (fun _ hk => ⟨hk.1.1, hk.2⟩))) hg hat)
     have n5_ := Aside0.mk (blk_grown (g := d9a) (o := .cells #[.int .i64 0, .slice none 0 0] 31 (0, 0)) kB hg (Kd.R_ne v9a.out h9a.out (by decide)))
     have n6_ := Aside0.mk (hb)
     have w9a := Aside0.mk (ho)
     clear v9a e9a b9a a9a c9a m9a h9a HB; have e9a := n0_; have b9a := n1_; have a9a := n2_; have c9a := n3_; have m9a := n4_; have h9a := n5_; have HB := n6_; clear n0_ n1_ n2_ n3_ n4_ n5_ n6_; clear ho hb hg hat; obtain ⟨Ao22, co22, eo22⟩ := Kd.R_slice w9a.out
     (first | subst eo22 | (injection eo22 with f1_ f2_ f3_; have f4_ := f1_.symm; have f5_ := f3_.symm; clear f1_ f2_ f3_; subst f4_; subst f5_))
     refine hK.out _ _ ⟨bc a9a 0, bc a9a 1⟩ (fun hHeld => ?_)
     clear hK K; refine norm_ (a' := ?_) ?_ ?_
     rotate_left
     ·show Act.put _ (some 25) _ = _
      simp only [putL, i64_w, i32_w]; rfl
     refine pu 6 26 (tb 11 639) HT_ ?_
     refine one_ (i := 7) (N := some 27) #[tt,tt,tt,tt,tt,tt,tt,tt,ff,tt,ff] rfl rfl (one_of HT_.out (by kernel_rfl)) (by decide) (fun K hK => ?_)
     refine Kd.N_lit_step k86 _ 86 ?hg (N' := 27) ?hd (xs := ([(⟨a2, y290⟩ : S86)] : List (S86))) (inner := [.string a2, .slice Ao22 y290.length co22]) (ok := (fun k_ => (P1_1_ k_ ∨ w.heap.size ≤ k_) ∧ some k_ ≠ (.slice Ao16 t284.length co16 : Value).ownBlock ∧ k_ ≠ l9a ∧ k_ ≠ i9a ∧ k_ ≠ f9a ∧ k_ ≠ d9a)) (okp := (fun k_ => (P1_1_ k_ ∨ w.heap.size ≤ k_) ∧ some k_ ≠ (.slice Ao16 t284.length co16 : Value).ownBlock ∧ k_ ≠ l9a ∧ k_ ≠ i9a ∧ k_ ≠ f9a ∧ k_ ≠ d9a)) ?hr ?hp (fun _ hk => hk) ((show ∀ k_, w21.heap.size ≤ k_ → (fun k_ => (P1_1_ k_ ∨ w.heap.size ≤ k_) ∧ some k_ ≠ (.slice Ao16 t284.length co16 : Value).ownBlock ∧ k_ ≠ l9a ∧ k_ ≠ i9a ∧ k_ ≠ f9a ∧ k_ ≠ d9a) k_ from fun k_ hk => ⟨(.inr (Nat.le_trans (below_size (be HB)) hk)), Kd.fresh' (Kd.R_lt (rr m9a)) k_ hk, Kd.freshB (g := l9a) (o := .cells #[.slice A0_0 l0_0.length c0_0] 26 (0, 0)) kB k_ hk, Kd.freshB (g := i9a) (o := .cells #[.int .i64 a1_0, .slice A1_1 l1_1.length c1_1] 31 (0, 0)) kB k_ hk, Kd.freshB (g := f9a) (o := .cells #[.int .i64 0, .slice none 0 0] 31 (0, 0)) kB k_ hk, Kd.freshB (g := d9a) (o := .cells #[.int .i64 0, .slice none 0 0] 31 (0, 0)) kB k_ hk⟩) _ (Nat.le_refl _)) (Below.refl _ _) (Nat.le_refl _) (by simp) ?_; (case hd => rfl); (case hg => rfl); (case hr => first | (go_simp; done) | (go_simp; rfl)); (case hp => exact (Reps.c2 (show Kd.FK k86 _ _ (⟨a2, y290⟩ : S86) [.string a2, .slice Ao22 y290.length co22] from (k86_mkF _ _ (⟨a2, y290⟩ : S86) (Kd.R_reads' (Kd.R_mono (ok' := (fun k_ => (P1_1_ k_ ∨ w.heap.size ≤ k_) ∧ some k_ ≠ (.slice Ao16 t284.length co16 : Value).ownBlock ∧ k_ ≠ l9a ∧ k_ ≠ i9a ∧ k_ ≠ f9a ∧ k_ ≠ d9a)) (Kd.R_types (Kd.R_types (Kd.R_types (Kd.R_types (w9a.out) b9a.out (by decide)) a9a.out (by decide)) c9a.out (by decide)) h9a.out (by decide)) (fun k_ hk => ⟨(.inr (hk.1.1.1.1.1)), ⟨hk.1.1.1.1.2, ⟨hk.1.1.1.2, ⟨hk.1.1.2, ⟨hk.1.2, hk.2⟩⟩⟩⟩⟩))).2.1 (Kd.R_F (Kd.R_mono (ok' := (fun k_ => (P1_1_ k_ ∨ w.heap.size ≤ k_) ∧ some k_ ≠ (.slice Ao16 t284.length co16 : Value).ownBlock ∧ k_ ≠ l9a ∧ k_ ≠ i9a ∧ k_ ≠ f9a ∧ k_ ≠ d9a)) (Kd.R_types (Kd.R_types (Kd.R_types (Kd.R_types (w9a.out) b9a.out (by decide)) a9a.out (by decide)) c9a.out (by decide)) h9a.out (by decide)) (fun k_ hk => ⟨(.inr (hk.1.1.1.1.1)), ⟨hk.1.1.1.1.2, ⟨hk.1.1.1.2, ⟨hk.1.1.2, ⟨hk.1.2, hk.2⟩⟩⟩⟩⟩))))) (Reps.none _ _)))
     intro v294 w23 ho24 hb hg_ hnew_
     clear hg_ hnew_
     (first | rw [← G9a.out] at ho24 | (simp only [Int.reduceToNat] at ho24; rw [← G9a.out] at ho24))
     have n0_ := Aside0.mk (Kd.V_elder' (by (with_reducible repeat (first | apply Kd.V_alloc | apply Kd.V_drewN | apply Kd.V_drew)); exact e9a.out) (Kd.N_base ho24) hb)
     have B9a := Aside0.mk (Kd.N_lower ho24 (below_size (be HB)))
     replace m9a := Aside0.mk (Kd.R_below (rr m9a) hb); replace b9a := bq b9a hb; replace a9a := bq a9a hb; replace c9a := bq c9a hb; replace h9a := bq h9a hb; replace HB := bh HB hb
     clear w9a e9a; have e9a := n0_; clear n0_; clear hb ho24; obtain ⟨Ao25, co25, eo25⟩ := Kd.N_slice B9a.out
     (first | subst eo25 | (injection eo25 with f1_ f2_ f3_; have f4_ := f1_.symm; have f5_ := f3_.symm; clear f1_ f2_ f3_; subst f4_; subst f5_))
     refine hK.out _ _ ⟨bc a9a 0, bc a9a 1⟩ (fun hHeld => ?_)
     clear hK K; refine norm_ (a' := ?_) ?_ ?_
     rotate_left
     ·show Act.put _ (some 27) _ = _
      simp only [putL, i64_w, i32_w]; rfl
     refine pu 8 28 (tb 11 1023) HT_ ?_
     exact norm_ (by simp only [putAll, putL]) (hCont (v288, .slice Ao22 y290.length co22, .slice Ao25 y293.length co25, d9a) _ ⟨hHeld, (by (with_reducible repeat (first | apply Kd.V_alloc | apply Kd.V_drewN | apply Kd.V_drew)); exact Kd.V_mono e9a.out (fun _ hk => ⟨hk.1.1.1, ⟨hk.1.1.2.1, ⟨hk.2, ⟨hk.1.1.2.2.1, ⟨hk.1.1.2.2.2.1, ⟨hk.1.1.2.2.2.2.1, hk.1.1.2.2.2.2.2⟩⟩⟩⟩⟩⟩)), (rX (Kd.R_mono m9a.out (fun _ hk => hk.1))), (nX B9a.out), kB, kB, kB, kB, H9a.out, C9a.out, o9a.out, q9a.out, g9a.out, p9a.out, n9a.out, r9a.out, (be HB)⟩)
   ·skip
    refine box_step ?hg (N := 11) ?hd (cs := #[.int .i64 0, .slice none 0 0]) (t := 31) ?hr ?_; (case hd => rfl); (case hg => rfl); (case hr => first | (go_simp; done) | (go_simp; rfl))
    intro d9a hg w18 hbox hb
    have n0_ := Aside0.mk (Kd.V_below (Kd.V_elderB (by (with_reducible repeat (first | apply Kd.V_alloc | apply Kd.V_drewN | apply Kd.V_drew)); exact e9a.out) d9a (Nat.le_of_eq hg.symm)) hb)
    have h9a := Aside0.mk (hbox)
    have H9a := bs HB hg; have C9a := bs HB hg; have o9a := bl b9a hg; have q9a := bg b9a hg; have g9a := bl a9a hg; have p9a := bg a9a hg; have n9a := bl c9a hg; have r9a := bg c9a hg; replace m9a := Aside0.mk (Kd.R_below (rr m9a) hb); replace b9a := bq b9a hb; replace a9a := bq a9a hb; replace c9a := bq c9a hb; replace HB := bh HB hb
    clear e9a; have e9a := n0_; clear n0_; clear hb hbox hg; refine hK.out _ _ ⟨bc a9a 0, bc a9a 1⟩ (fun hHeld => ?_)
    clear hK K; refine norm_ (a' := ?_) ?_ ?_
    rotate_left
    ·show Act.put _ (some 11) _ = _
     simp only [putL, i64_w, i32_w]; rfl
    refine one_ (i := 3) (N := some 23) #[tt,tt,tt,tt,tt,ff,ff,ff,ff,tt,ff] rfl rfl (one_of HT_.out (by kernel_rfl)) (by decide) (fun K hK => ?_)
    refine Kd.R_lit_step (Kd.int .i64) _ 3 ?hg (N := 23) ?hd (xs := ([] : List Int)) (inner := []) (ok := fun _ => True) (okp := fun _ => True) ?hr ?hp (fun _ hk => hk) trivial (Below.refl _ _) (Nat.le_refl _) (by simp) ?_; (case hd => rfl); (case hg => rfl); (case hr => first | (go_simp; done) | (go_simp; rfl)); (case hp => exact (Reps.none _ _))
    intro v288 w19 ho20 hb hg_ hnew_
    clear hg_ hnew_
    (first | rw [← Ny287.out] at ho20 | (simp only [Int.reduceToNat] at ho20; rw [← Ny287.out] at ho20))
    have n0_ := Aside0.mk (Kd.V_elder' (by (with_reducible repeat (first | apply Kd.V_alloc | apply Kd.V_drewN | apply Kd.V_drew)); exact e9a.out) (Kd.R_base ho20) hb)
    have n1_ := Aside0.mk (Kd.R_elder' (rr m9a) (Kd.R_base ho20) hb)
    have v9a := Aside0.mk (Kd.R_lower (Kd.R_new' (Kd.R_newM (M := fun k_ => (w.heap.size ≤ k_)) ho20 (below_size (be HB)) (fun k_ h_ => h_)) (Kd.R_lt (rr m9a))) (below_size (be HB)))
    replace b9a := bq b9a hb; replace a9a := bq a9a hb; replace c9a := bq c9a hb; replace h9a := bq h9a hb; replace HB := bh HB hb
    clear e9a m9a; have e9a := n0_; have m9a := n1_; clear n0_ n1_; clear hb ho20; refine hK.out _ _ ⟨bc a9a 0, bc a9a 1⟩ (fun hHeld => ?_)
    clear hK K; refine norm_ (a' := ?_) ?_ ?_
    rotate_left
    ·show Act.put _ (some 23) _ = _
     simp only [putL, i64_w, i32_w]; rfl
    refine one_ (i := 5) (N := some 25) #[tt,tt,tt,tt,tt,tt,ff,ff,ff,tt,ff] rfl rfl (one_of HT_.out (by kernel_rfl)) (by decide) (fun K hK => ?_)
    refine Kd.R_append_rows_step (Kd.int .i64) (w0 := w) w.heap.size (by rfl) (.tmp 23) (.tmp 24) 36 3 (.int .i64 0) 8 rfl Try.underlying36 info3 rfl (by decide) (by omega) v288 y287 t284 _ _ _ (fun k_ => (w.heap.size ≤ k_) ∧ some k_ ≠ (.slice Ao16 t284.length co16 : Value).ownBlock) (fun _ => False) rfl rfl ?aO ?aR (fun _ _ h => h) (fun _ h => h.elim) ?aF ?aB ?aS ?aL ?_
    (case aR => exact cX ((Kd.R_reads' m9a.out).2.2))
    (case aB => exact (be HB))
    (case aF => exact (fun k_ hk => ⟨(Nat.le_trans (below_size (be HB)) hk), Kd.fresh' (Kd.R_lt (rr m9a)) k_ hk⟩))
    (case aO => exact (rX (Kd.R_mono v9a.out (fun _ hk => ⟨hk.1.1, hk.2⟩))))
    (case aS => exact (below_size (be HB)))
    (case aL => have := LMc6.out; omega)
    intro v291 w21 ho hb hg hat
    rw [← Ny290.out] at ho
    have n0_ := Aside0.mk (Kd.V_afterv (ok := (fun k_ => (P1_1_ k_ ∨ w.heap.size ≤ k_) ∧ some k_ ≠ (.slice Ao16 t284.length co16 : Value).ownBlock ∧ k_ ≠ l9a ∧ k_ ≠ i9a ∧ k_ ≠ f9a ∧ k_ ≠ d9a)) (by (with_reducible repeat (first | apply Kd.V_alloc | apply Kd.V_drewN | apply Kd.V_drew)); exact Kd.V_mono e9a.out (fun _ hk => ⟨⟨hk.1.1.1.1, ⟨hk.1.1.2, ⟨hk.1.1.1.2.1, ⟨hk.1.1.1.2.2.1, ⟨hk.1.1.1.2.2.2, hk.1.2⟩⟩⟩⟩⟩, hk.2⟩)) hg hat)
    have n1_ := Aside0.mk (blk_grown (g := l9a) (o := .cells #[.slice A0_0 l0_0.length c0_0] 26 (0, 0)) kB hg (Kd.R_ne v9a.out b9a.out (by decide)))
    have n2_ := Aside0.mk (blk_grown (g := i9a) (o := .cells #[.int .i64 a1_0, .slice A1_1 l1_1.length c1_1] 31 (0, 0)) kB hg (Kd.R_ne v9a.out a9a.out (by decide)))
    have n3_ := Aside0.mk (blk_grown (g := f9a) (o := .cells #[.int .i64 0, .slice none 0 0] 31 (0, 0)) kB hg (Kd.R_ne v9a.out c9a.out (by decide)))
    have n4_ := Aside0.mk (Kd.R_after (ok := (fun k_ => (w.heap.size ≤ k_))) (rX (Kd.R_mono m9a.out (fun _ hk => ⟨hk.1.1, hk.2⟩))) hg hat)
    have n5_ := Aside0.mk (blk_grown (g := d9a) (o := .cells #[.int .i64 0, .slice none 0 0] 31 (0, 0)) kB hg (Kd.R_ne v9a.out h9a.out (by decide)))
    have n6_ := Aside0.mk (hb)
    have w9a := Aside0.mk (ho)
    clear v9a e9a b9a a9a c9a m9a h9a HB; have e9a := n0_; have b9a := n1_; have a9a := n2_; have c9a := n3_; have m9a := n4_; have h9a := n5_; have HB := n6_; clear n0_ n1_ n2_ n3_ n4_ n5_ n6_; clear ho hb hg hat; obtain ⟨Ao22, co22, eo22⟩ := Kd.R_slice w9a.out
    (first | subst eo22 | (injection eo22 with f1_ f2_ f3_; have f4_ := f1_.symm; have f5_ := f3_.symm; clear f1_ f2_ f3_; subst f4_; subst f5_))
    refine hK.out _ _ ⟨bc a9a 0, bc a9a 1⟩ (fun hHeld => ?_)
    clear hK K; refine norm_ (a' := ?_) ?_ ?_
    rotate_left
    ·show Act.put _ (some 25) _ = _
     simp only [putL, i64_w, i32_w]; rfl
    refine pu 6 26 (tb 11 639) HT_ ?_
    refine one_ (i := 7) (N := some 27) #[tt,tt,tt,tt,tt,tt,tt,tt,ff,tt,ff] rfl rfl (one_of HT_.out (by kernel_rfl)) (by decide) (fun K hK => ?_)
    refine Kd.N_lit_step k86 _ 86 ?hg (N' := 27) ?hd (xs := ([(⟨a2, y290⟩ : S86)] : List (S86))) (inner := [.string a2, .slice Ao22 y290.length co22]) (ok := (fun k_ => (P1_1_ k_ ∨ w.heap.size ≤ k_) ∧ some k_ ≠ (.slice Ao16 t284.length co16 : Value).ownBlock ∧ k_ ≠ l9a ∧ k_ ≠ i9a ∧ k_ ≠ f9a ∧ k_ ≠ d9a)) (okp := (fun k_ => (P1_1_ k_ ∨ w.heap.size ≤ k_) ∧ some k_ ≠ (.slice Ao16 t284.length co16 : Value).ownBlock ∧ k_ ≠ l9a ∧ k_ ≠ i9a ∧ k_ ≠ f9a ∧ k_ ≠ d9a)) ?hr ?hp (fun _ hk => hk) ((show ∀ k_, w21.heap.size ≤ k_ → (fun k_ => (P1_1_ k_ ∨ w.heap.size ≤ k_) ∧ some k_ ≠ (.slice Ao16 t284.length co16 : Value).ownBlock ∧ k_ ≠ l9a ∧ k_ ≠ i9a ∧ k_ ≠ f9a ∧ k_ ≠ d9a) k_ from fun k_ hk => ⟨(.inr (Nat.le_trans (below_size (be HB)) hk)), Kd.fresh' (Kd.R_lt (rr m9a)) k_ hk, Kd.freshB (g := l9a) (o := .cells #[.slice A0_0 l0_0.length c0_0] 26 (0, 0)) kB k_ hk, Kd.freshB (g := i9a) (o := .cells #[.int .i64 a1_0, .slice A1_1 l1_1.length c1_1] 31 (0, 0)) kB k_ hk, Kd.freshB (g := f9a) (o := .cells #[.int .i64 0, .slice none 0 0] 31 (0, 0)) kB k_ hk, Kd.freshB (g := d9a) (o := .cells #[.int .i64 0, .slice none 0 0] 31 (0, 0)) kB k_ hk⟩) _ (Nat.le_refl _)) (Below.refl _ _) (Nat.le_refl _) (by simp) ?_; (case hd => rfl); (case hg => rfl); (case hr => first | (go_simp; done) | (go_simp; rfl)); (case hp => exact (Reps.c2 (show Kd.FK k86 _ _ (⟨a2, y290⟩ : S86) [.string a2, .slice Ao22 y290.length co22] from (k86_mkF _ _ (⟨a2, y290⟩ : S86) (Kd.R_reads' (Kd.R_mono (ok' := (fun k_ => (P1_1_ k_ ∨ w.heap.size ≤ k_) ∧ some k_ ≠ (.slice Ao16 t284.length co16 : Value).ownBlock ∧ k_ ≠ l9a ∧ k_ ≠ i9a ∧ k_ ≠ f9a ∧ k_ ≠ d9a)) (Kd.R_types (Kd.R_types (Kd.R_types (Kd.R_types (w9a.out) b9a.out (by decide)) a9a.out (by decide)) c9a.out (by decide)) h9a.out (by decide)) (fun k_ hk => ⟨(.inr (hk.1.1.1.1.1)), ⟨hk.1.1.1.1.2, ⟨hk.1.1.1.2, ⟨hk.1.1.2, ⟨hk.1.2, hk.2⟩⟩⟩⟩⟩))).2.1 (Kd.R_F (Kd.R_mono (ok' := (fun k_ => (P1_1_ k_ ∨ w.heap.size ≤ k_) ∧ some k_ ≠ (.slice Ao16 t284.length co16 : Value).ownBlock ∧ k_ ≠ l9a ∧ k_ ≠ i9a ∧ k_ ≠ f9a ∧ k_ ≠ d9a)) (Kd.R_types (Kd.R_types (Kd.R_types (Kd.R_types (w9a.out) b9a.out (by decide)) a9a.out (by decide)) c9a.out (by decide)) h9a.out (by decide)) (fun k_ hk => ⟨(.inr (hk.1.1.1.1.1)), ⟨hk.1.1.1.1.2, ⟨hk.1.1.1.2, ⟨hk.1.1.2, ⟨hk.1.2, hk.2⟩⟩⟩⟩⟩))))) (Reps.none _ _)))
    intro v294 w23 ho24 hb hg_ hnew_
    clear hg_ hnew_
    (first | rw [← G9a.out] at ho24 | (simp only [Int.reduceToNat] at ho24; rw [← G9a.out] at ho24))
    have n0_ := Aside0.mk (Kd.V_elder' (by (with_reducible repeat (first | apply Kd.V_alloc | apply Kd.V_drewN | apply Kd.V_drew)); exact e9a.out) (Kd.N_base ho24) hb)
    have B9a := Aside0.mk (Kd.N_lower ho24 (below_size (be HB)))
    replace m9a := Aside0.mk (Kd.R_below (rr m9a) hb); replace b9a := bq b9a hb; replace a9a := bq a9a hb; replace c9a := bq c9a hb; replace h9a := bq h9a hb; replace HB := bh HB hb
    clear w9a e9a; have e9a := n0_; clear n0_; clear hb ho24; obtain ⟨Ao25, co25, eo25⟩ := Kd.N_slice B9a.out
    (first | subst eo25 | (injection eo25 with f1_ f2_ f3_; have f4_ := f1_.symm; have f5_ := f3_.symm; clear f1_ f2_ f3_; subst f4_; subst f5_))
    refine hK.out _ _ ⟨bc a9a 0, bc a9a 1⟩ (fun hHeld => ?_)
    clear hK K; refine norm_ (a' := ?_) ?_ ?_
    rotate_left
    ·show Act.put _ (some 27) _ = _
     simp only [putL, i64_w, i32_w]; rfl
    refine pu 8 28 (tb 11 1023) HT_ ?_
    exact norm_ (by simp only [putAll, putL]) (hCont (v288, .slice Ao22 y290.length co22, .slice Ao25 y293.length co25, d9a) _ ⟨hHeld, (by (with_reducible repeat (first | apply Kd.V_alloc | apply Kd.V_drewN | apply Kd.V_drew)); exact Kd.V_mono e9a.out (fun _ hk => ⟨hk.1.1.1, ⟨hk.1.1.2.1, ⟨hk.2, ⟨hk.1.1.2.2.1, ⟨hk.1.1.2.2.2.1, ⟨hk.1.1.2.2.2.2.1, hk.1.1.2.2.2.2.2⟩⟩⟩⟩⟩⟩)), (rX (Kd.R_mono m9a.out (fun _ hk => hk.1))), (nX B9a.out), kB, kB, kB, kB, H9a.out, C9a.out, o9a.out, q9a.out, g9a.out, p9a.out, n9a.out, r9a.out, (be HB)⟩)
  rintro ⟨v288, v291, v294, d9a⟩ w26 ⟨hS_, h0_, h1_, h2_, h3_, h4_, h5_, h6_, h7_, h8_, h9_, h10_, h11_, h12_, h13_, h14_, h15_⟩
  have n0_ : Aside0 (Kd.V k86 86 w26 w.heap.size (fun k_ => (P1_1_ k_ ∨ w.heap.size ≤ k_) ∧ some k_ ≠ (.slice Ao16 t284.length co16 : Value).ownBlock ∧ some k_ ≠ (v294 : Value).ownBlock ∧ k_ ≠ l9a ∧ k_ ≠ i9a ∧ k_ ≠ f9a ∧ k_ ≠ d9a) (.slice A1_1 l1_1.length c1_1) l1_1) := ⟨h0_⟩
  have n1_ : Aside0 (Kd.R (Kd.int .i64) 3 w26 w.heap.size (fun k_ => (w.heap.size ≤ k_)) (.slice Ao16 t284.length co16) t284) := ⟨h1_⟩
  have n2_ : Aside0 (Kd.N k86 86 w26 w.heap.size (fun k_ => (P1_1_ k_ ∨ w.heap.size ≤ k_) ∧ some k_ ≠ (.slice Ao16 t284.length co16 : Value).ownBlock ∧ k_ ≠ l9a ∧ k_ ≠ i9a ∧ k_ ≠ f9a ∧ k_ ≠ d9a) v294 y293) := ⟨h2_⟩
  have n3_ : Aside0 (w26.heap[l9a]? = some (.cells #[.slice A0_0 l0_0.length c0_0] 26 (0, 0))) := ⟨h3_⟩
  have n4_ : Aside0 (w26.heap[i9a]? = some (.cells #[.int .i64 a1_0, .slice A1_1 l1_1.length c1_1] 31 (0, 0))) := ⟨h4_⟩
  have n5_ : Aside0 (w26.heap[f9a]? = some (.cells #[.int .i64 0, .slice none 0 0] 31 (0, 0))) := ⟨h5_⟩
  have n6_ : Aside0 (w26.heap[d9a]? = some (.cells #[.int .i64 0, .slice none 0 0] 31 (0, 0))) := ⟨h6_⟩
  have n7_ : Aside0 (w.heap.size ≤ d9a) := ⟨h7_⟩
  have n8_ : Aside0 (w.heap.size ≤ d9a) := ⟨h8_⟩
  have n9_ : Aside0 (l9a ≠ d9a) := ⟨h9_⟩
  have n10_ : Aside0 (d9a ≠ l9a) := ⟨h10_⟩
  have n11_ : Aside0 (i9a ≠ d9a) := ⟨h11_⟩
  have n12_ : Aside0 (d9a ≠ i9a) := ⟨h12_⟩
  have n13_ : Aside0 (f9a ≠ d9a) := ⟨h13_⟩
  have n14_ : Aside0 (d9a ≠ f9a) := ⟨h14_⟩
  have n15_ : Aside0 (Below w.heap.size w w26) := ⟨h15_⟩
  clear e9a; clear m9a; clear b9a; clear a9a; clear c9a; clear HB; clear h0_ h1_ h2_ h3_ h4_ h5_ h6_ h7_ h8_ h9_ h10_ h11_ h12_ h13_ h14_ h15_; have e9a := n0_; have m9a := n1_; have B9a := n2_; have b9a := n3_; have a9a := n4_; have c9a := n5_; have h9a := n6_; have H9a := n7_; have C9a := n8_; have o9a := n9_; have q9a := n10_; have g9a := n11_; have p9a := n12_; have n9a := n13_; have r9a := n14_; have HB := n15_; clear n0_ n1_ n2_ n3_ n4_ n5_ n6_ n7_ n8_ n9_ n10_ n11_ n12_ n13_ n14_ n15_; have hHeld : w26.cell? ⟨i9a, 0, none⟩ = some (.int .i64 a1_0) ∧ w26.cell? ⟨i9a, 1, none⟩ = some (.slice A1_1 l1_1.length c1_1) := hS_
  obtain ⟨Ao27, co27, eo27⟩ := Kd.N_slice B9a.out
  (first | subst eo27 | (injection eo27 with f1_ f2_ f3_; have f4_ := f1_.symm; have f5_ := f3_.symm; clear f1_ f2_ f3_; subst f4_; subst f5_))
  refine norm_ (a' := ?_) ?_ ?_
  rotate_left
  ·simp only [putAll, putL]; rfl
  refine one_ (i := 10) (N := none) #[tt,tt,tt,tt,tt,tt,tt,tt,tt,tt,tt] rfl rfl (one_of HT_.out (by kernel_rfl)) (by decide) (fun K hK => ?_)
  have hs28 : w26.cell? ⟨d9a, 0, none⟩ = some (.int .i64 0) := bc h9a 0
  have hfs28 := blk_frozen h9a.out 0; have hns28_0 := o9a.out; have hns28_1 := g9a.out; have hns28_2 := n9a.out; have hms28_0 := q9a.out; have hms28_1 := p9a.out; have hms28_2 := r9a.out; have hs29 : w26.cell? ⟨d9a, 1, none⟩ = some (.slice none 0 0) := bc h9a 1
  have hfs29 := blk_frozen h9a.out 1; have hns29_0 := o9a.out; have hns29_1 := g9a.out; have hns29_2 := n9a.out; have hms29_0 := q9a.out; have hms29_1 := p9a.out; have hms29_2 := r9a.out; refine skip_ (w1 := ?_) (by rfl) rfl ?_ ?_
  rotate_left
  ·go_simp; rfl
  refine hK.out _ _ ⟨((cell_far (p := ⟨d9a, _, none⟩) g9a.out _).trans (((cell_far (p := ⟨d9a, _, none⟩) g9a.out _).trans (hHeld.1)))), ((cell_far (p := ⟨d9a, _, none⟩) g9a.out _).trans (((cell_far (p := ⟨d9a, _, none⟩) g9a.out _).trans (hHeld.2))))⟩ (fun hHeld => ?_)
  clear hK K; refine done_ (done_of HT_.out (by kernel_rfl)) ?_
  try go_wp2
  go_loopg [12] k (fun kq v12 w' => ∃ (t9a : Int) (j9a : List (S86)) (u9a : Value), v12 = .int .i64 t9a ∧ Aside0 (spec_l10Recall.l0 kq t283 t284 t9a a1_0 l1_1 a1_0 j9a = some (r1, r2, r3, r4)) ∧ Aside0 (kq ≤ k) ∧ Aside0 (Kd.R (Kd.int .i64) 3 w' w.heap.size (fun k_ => (w.heap.size ≤ k_)) (.slice Ao16 t284.length co16) t284) ∧ Aside0 (Kd.V k86 86 w' w.heap.size (fun k_ => (P1_1_ k_ ∨ w.heap.size ≤ k_) ∧ some k_ ≠ ((.slice Ao16 t284.length co16) : Value).ownBlock ∧ some k_ ≠ (u9a : Value).ownBlock ∧ k_ ≠ l9a ∧ k_ ≠ i9a ∧ k_ ≠ f9a ∧ k_ ≠ d9a) (.slice A1_1 l1_1.length c1_1) l1_1) ∧ Aside0 (Kd.N k86 86 w' w.heap.size (fun k_ => (P1_1_ k_ ∨ w.heap.size ≤ k_) ∧ some k_ ≠ ((.slice Ao16 t284.length co16) : Value).ownBlock ∧ k_ ≠ l9a ∧ k_ ≠ i9a ∧ k_ ≠ f9a ∧ k_ ≠ d9a) u9a j9a) ∧ Aside0 (w'.heap[l9a]? = some (.cells #[(.slice A0_0 l0_0.length c0_0)] 26 (0, 0))) ∧ Aside0 (w'.heap[i9a]? = some (.cells #[.int .i64 a1_0, (.slice A1_1 l1_1.length c1_1)] 31 (0, 0))) ∧ Aside0 (w'.heap[f9a]? = some (.cells #[.int .i64 0, (.slice none 0 0)] 31 (0, 0))) ∧ Aside0 (w'.heap[d9a]? = some (.cells #[.int .i64 a1_0, u9a] 31 (0, 0))) ∧ Aside0 (Below w.heap.size w w'))
  case atStart => exact ⟨(0), (y293), (.slice Ao27 y293.length co27), sR, H', ⟨Nat.le_refl _⟩, ⟨rX (Kd.R_mono (Kd.R_far (p := ⟨d9a, 1, none⟩) (Kd.R_far (p := ⟨d9a, 0, none⟩) (Kd.R_types m9a.out h9a.out (by decide)) (fun _ hk => hk.2) (.int .i64 a1_0)) (fun _ hk => hk.2) (.slice Ao27 y293.length co27)) (fun _ hk => hk.1))⟩, ⟨by (with_reducible repeat (first | apply Kd.V_alloc | apply Kd.V_drewN | apply Kd.V_drew)); exact Kd.V_mono (Kd.V_far (p := ⟨d9a, 1, none⟩) (Kd.V_far (p := ⟨d9a, 0, none⟩) (Kd.V_mono e9a.out (fun k_ hk => (⟨hk, hk.2.2.2.2.2.2⟩ : _ ∧ k_ ≠ d9a))) (fun _ hk => hk.2) (.int .i64 a1_0)) (fun _ hk => hk.2) (.slice Ao27 y293.length co27)) (fun _ hk => ⟨hk.1.1, ⟨hk.1.2.1, ⟨hk.1.2.2.1, ⟨hk.1.2.2.2.1, ⟨hk.1.2.2.2.2.1, ⟨hk.1.2.2.2.2.2.1, hk.1.2.2.2.2.2.2⟩⟩⟩⟩⟩⟩)⟩, ⟨nX (Kd.N_mono (Kd.N_far (p := ⟨d9a, 1, none⟩) (Kd.N_far (p := ⟨d9a, 0, none⟩) (Kd.N_mono B9a.out (fun k_ hk => (⟨hk, hk.2.2.2.2.2⟩ : _ ∧ k_ ≠ d9a))) (fun _ hk => hk.2) (.int .i64 a1_0)) (fun _ hk => hk.2) (.slice Ao27 y293.length co27)) (fun _ hk => ⟨hk.1.1, ⟨hk.1.2.1, ⟨hk.1.2.2.1, ⟨hk.1.2.2.2.1, ⟨hk.1.2.2.2.2.1, hk.1.2.2.2.2.2⟩⟩⟩⟩⟩))⟩, ⟨by (with_reducible repeat first | refine bkN ?_ _ | refine bkD ?_ | refine bkA ?_ _ | refine blk_far ?_ o9a.out _); exact b9a.out⟩, ⟨by (with_reducible repeat first | refine bkN ?_ _ | refine bkD ?_ | refine bkA ?_ _ | refine blk_far ?_ g9a.out _); exact a9a.out⟩, ⟨by (with_reducible repeat first | refine bkN ?_ _ | refine bkD ?_ | refine bkA ?_ _ | refine blk_far ?_ n9a.out _); exact c9a.out⟩, ⟨by (with_reducible repeat first | refine bkN ?_ _ | refine bkD ?_ | refine bkA ?_ _); refine blk_put (cs := #[.int .i64 a1_0, .slice none 0 0]) ?_ 1 _ rfl; (with_reducible repeat first | refine bkN ?_ _ | refine bkD ?_ | refine bkA ?_ _); refine blk_put (cs := #[.int .i64 0, .slice none 0 0]) ?_ 0 _ rfl; (with_reducible repeat first | refine bkN ?_ _ | refine bkD ?_ | refine bkA ?_ _); exact h9a.out⟩, ⟨iB HB⟩⟩
  case round =>
   clear H'
   obtain ⟨t9a, j9a, u9a, rfl, HA, HK1, D9a, s9a, k9a, b9a, a9a, c9a, h9a, HB⟩ := hrel
   cases gk with
   | zero => exact absurd HA.out (by simp [spec_l10Recall.l0])
   | succ k1 =>
    have H := HA.out; clear HA; simp only [spec_l10Recall.l0] at H
    by_cases c30 : t9a < (l1_1.length : Int)
    ·rw [if_pos c30] at H
     have c30b0 : decide (t9a < (l1_1.length : Int)) = true := decide_eq_true c30
     clear c30
     by_cases c31 : t9a = t283
     ·rw [if_pos c31] at H
      have c31b0 : (t9a == t283) = true := beq_iff_eq.mpr c31
      have c31b1 : (t9a != t283) = false := bne_eq_false_iff_eq.mpr c31
      clear c31; have H' := Aside0.mk H
      clear H; have hnb32 := y9a.out; have hnc32 := x9a.out; have hnb33 := z9a.out; have hnc33 := A9a.out; have hnb34 := g9a.out; have hnc34 := p9a.out; obtain ⟨hcz35_0, hcz35_1⟩ := cs2 a9a; obtain ⟨hfz35_0, hfz35_1⟩ := fs2 a9a
      go_wp2
      go_roundg k1
      case measure => have := HK1.out; omega
      case rel => exact ⟨(wrap64 (t9a + 1)), (j9a), (u9a), sR, H', ⟨by have := HK1.out; omega⟩, ⟨rr D9a⟩, ⟨by (with_reducible repeat (first | apply Kd.V_alloc | apply Kd.V_drewN | apply Kd.V_drew)); exact s9a.out⟩, ⟨nX k9a.out⟩, ⟨bb b9a⟩, ⟨bb a9a⟩, ⟨bb c9a⟩, ⟨bb h9a⟩, ⟨iB HB⟩⟩
     ·rw [if_neg c31] at H
      have c31b0 : (t9a == t283) = false := beq_eq_false_iff_ne.mpr c31
      have c31b1 : (t9a != t283) = true := bne_iff_ne.mpr c31
      by_cases c36 : 0 ≤ t9a
      ·rw [if_pos c36] at H
       have c36b0 : decide (0 ≤ t9a) = true := decide_eq_true c36
       clear c36
       by_cases c37 : j9a.length < 3518437208883
       ·rw [if_pos c37] at H
        have LMc37 := Aside0.mk c37
        clear c37; obtain ⟨y298, hy298⟩ : ∃ y_ : List (S86), y_ = (j9a ++ [(⟨(rd_T86 l1_1 t9a).f0, (rd_T86 l1_1 t9a).f1⟩ : S86)]) := ⟨_, rfl⟩
        replace H : (spec_l10Recall.l0 k1 t283 t284 (wrap64 (t9a + 1)) a1_0 l1_1 a1_0 y298) = some (r1, r2, r3, r4) := by first | (rw [hy298]; with_reducible exact H) | (have H2_ := (Option.bind_some _ _).symm.trans H; rw [hy298]; with_reducible exact H2_) | (have H2_ := (Option.bind_some _ _).symm.trans H; with_reducible exact H2_) | with_reducible exact H | (rw [hy298]; exact H) | exact H
        have Ny298 := Aside0.mk hy298
        clear hy298; have H' := Aside0.mk H
        clear H; have hnb38 := y9a.out; have hnc38 := x9a.out; have hnb39 := z9a.out; have hnc39 := A9a.out; have hnb40 := g9a.out; have hnc40 := p9a.out; obtain ⟨hcz41_0, hcz41_1⟩ := cs2 a9a; obtain ⟨hfz41_0, hfz41_1⟩ := fs2 a9a
        try go_wp2
        have n0_ := Aside0.mk (Kd.R_drew D9a.out)
        have n1_ := Aside0.mk (Kd.V_drew s9a.out)
        have n2_ := Aside0.mk (Kd.N_drew k9a.out)
        have n3_ := Aside0.mk (blk_drew b9a.out)
        have n4_ := Aside0.mk (blk_drew a9a.out)
        have n5_ := Aside0.mk (blk_drew c9a.out)
        have n6_ := Aside0.mk (blk_drew h9a.out)
        have n7_ := Aside0.mk (below_drew1 HB.out)
        clear D9a s9a k9a b9a a9a c9a h9a HB; have D9a := n0_; have s9a := n1_; have k9a := n2_; have b9a := n3_; have a9a := n4_; have c9a := n5_; have h9a := n6_; have HB := n7_; clear n0_ n1_ n2_ n3_ n4_ n5_ n6_ n7_; have p297 : 0 ≤ (t9a : Int) := oD
        have q297 : t9a < (l1_1.length : Int) := oD
        obtain ⟨J9a, A297_1, c297_1, e297, hx297_0, I9a, hl297_1, hi297_1⟩ := at_T86 (Kd.V_reads' s9a.out).2.2 t9a p297 q297
        cases e297
        obtain ⟨ce297, hce297, hMe297, hcc297⟩ := Kd.V_get s9a.out z86 t9a p297 (by first | exact q297 | exact oD | (have e_ := (Kd.V_reads' s9a.out).1; omega))
        obtain ⟨ua297_1, uc297_1, rfl, ul297_1, ge297_1⟩ := k86_openF hMe297
        have hv297_1 := hcc297 1 _ rfl
        rw [add_field _ _ 1 (by omega)] at hv297_1
        replace hv297_1 := Option.some.inj (hv297_1.symm.trans I9a)
        injection hv297_1 with hva_ hvn_ hvc_
        rw [hva_] at ge297_1
        rw [hvc_] at ul297_1
        have HL297_1 := Aside0.mk (show Kd.V (Kd.int .i64) 3 _ w.heap.size _ _ ((rd_T86 l1_1 t9a).f1) from Kd.V_mk ul297_1 ge297_1)
        clear hva_ hvn_ hvc_ ge297_1 ul297_1; clear hcc297 hce297; have HR297_1 := Aside0.mk hi297_1
        have HC297_1 := Aside0.mk hl297_1
        clear hi297_1 hl297_1; replace p297 := eq_true p297
        replace q297 := eq_true q297
        refine start_ (n := 11) (S := fun w' => w'.cell? ⟨d9a, 0, none⟩ = some (.int .i64 a1_0) ∧ w'.cell? ⟨d9a, 1, none⟩ = some (u9a) ∧ w'.cell? ⟨i9a, 0, none⟩ = some (.int .i64 a1_0) ∧ w'.cell? ⟨i9a, 1, none⟩ = some (.slice (some J9a) l1_1.length c1_1) ∧ w'.cell? (J9a.add ((t9a).toNat * 2)) = some (.string ((rd_T86 l1_1 t9a).f0)) ∧ w'.cell? ⟨(J9a.add ((t9a).toNat * 2)).block, (J9a.add ((t9a).toNat * 2)).off + 1, none⟩ = some (.slice A297_1 ((rd_T86 l1_1 t9a).f1).length c297_1)) (ds := [8, 10]) #[ff,ff,ff,ff,ff,ff,ff,ff,ff,ff,ff] (by kernel_rfl) rfl rfl ⟨bc h9a 0, bc h9a 1, bc a9a 0, bc a9a 1, hx297_0, I9a⟩ (fun hHeld => ?_); refine with_tabW spec_l10Recall.tab8 spec_l10Recall.bits8 (fun HT_ HW_ => ?_)
        generalize wr.drew = w42 at D9a s9a k9a b9a a9a c9a h9a HB HL297_1 HR297_1 hx297_0 I9a hHeld ⊢
        refine pu 0 39 (tb 11 1) HT_ ?_
        refine pu 2 41 (tb 11 5) HT_ ?_
        refine pu 4 43 (tb 11 21) HT_ ?_
        refine tk 1 40 (tb 11 23) rfl rfl HT_ HW_ hHeld (by rintro w' ⟨s0, s1, s2, s3, s4, s5⟩; go_simp; with_reducible rfl) ?_
        refine tk 3 42 (tb 11 31) rfl rfl HT_ HW_ hHeld (by rintro w' ⟨s0, s1, s2, s3, s4, s5⟩; go_simp; with_reducible rfl) ?_
        refine pu 5 44 (tb 11 63) HT_ ?_
        refine tk 6 45 (tb 11 127) rfl rfl HT_ HW_ hHeld (by rintro w' ⟨s0, s1, s2, s3, s4, s5⟩; go_simp; with_reducible rfl) ?_
        refine one_ (i := 7) (N := some 46) #[tt,tt,tt,tt,tt,tt,tt,tt,ff,ff,ff] rfl rfl (one_of HT_.out (by kernel_rfl)) (by decide) (fun K hK => ?_)
        refine value_ (w1 := ?_) (v := ?_) (by rfl) rfl ?_ ?_
        rotate_left 2
        ·go_simp
         constructor
         ·rfl
         ·rfl
        refine hK.out _ _ ⟨(blk_cell (blk_alloc h9a.out _) 0).trans rfl, (blk_cell (blk_alloc h9a.out _) 1).trans rfl, (blk_cell (blk_alloc a9a.out _) 0).trans rfl, (blk_cell (blk_alloc a9a.out _) 1).trans rfl, (World.cell?_alloc_lt _ _ _ (World.block_lt_of_cell? _ _ (hHeld.2.2.2.2.1))).trans (hHeld.2.2.2.2.1), (World.cell?_alloc_lt _ _ _ (World.block_lt_of_cell? _ _ (hHeld.2.2.2.2.2))).trans (hHeld.2.2.2.2.2)⟩ (fun hHeld => ?_)
        clear hK K; refine norm_ (a' := ?_) ?_ ?_
        rotate_left
        ·show Act.put _ (some 46) _ = _
         simp only [putL, i64_w, i32_w]; rfl
        refine last_ (i := 8) (N := some 47) #[tt,tt,tt,tt,tt,tt,tt,tt,tt,ff,ff] rfl rfl (one_of HT_.out (by kernel_rfl)) (by decide) (fun K hK => ?_)
        refine Kd.N_append_step k86 (w0 := w) w.heap.size (by rfl) (.tmp 40) (.tmp 46) 29 86 (.agg #[(.string ⟨#[]⟩), (.slice none 0 0)]) 40 rfl Try.underlying29 info86 rfl (by decide) (by omega) u9a j9a (⟨(rd_T86 l1_1 t9a).f0, (rd_T86 l1_1 t9a).f1⟩ : S86) [.string ((rd_T86 l1_1 t9a).f0), .slice A297_1 ((rd_T86 l1_1 t9a).f1).length c297_1] (fun k_ => (P1_1_ k_ ∨ w.heap.size ≤ k_) ∧ some k_ ≠ (.slice Ao16 t284.length co16 : Value).ownBlock ∧ k_ ≠ l9a ∧ k_ ≠ i9a ∧ k_ ≠ f9a ∧ k_ ≠ d9a) (fun k_ => ((fun k_ => (P1_1_ k_ ∨ w.heap.size ≤ k_) ∧ some k_ ≠ (.slice Ao16 t284.length co16 : Value).ownBlock ∧ k_ ≠ l9a ∧ k_ ≠ i9a ∧ k_ ≠ f9a ∧ k_ ≠ d9a)) k_ ∧ some k_ ≠ (u9a : Value).ownBlock) rfl rfl ?aP (fun _ hk => hk) ?aF ?aO ?aB ?aS ?aL ?_
        (case aP => exact (k86_mkF _ _ (⟨(rd_T86 l1_1 t9a).f0, (rd_T86 l1_1 t9a).f1⟩ : S86) (Kd.V_reads' (Kd.V_mono (ok' := (fun k_ => ((fun k_ => (P1_1_ k_ ∨ w.heap.size ≤ k_) ∧ some k_ ≠ (.slice Ao16 t284.length co16 : Value).ownBlock ∧ k_ ≠ l9a ∧ k_ ≠ i9a ∧ k_ ≠ f9a ∧ k_ ≠ d9a)) k_ ∧ some k_ ≠ (u9a : Value).ownBlock)) (HL297_1.out) (fun k_ hk => ⟨⟨hk.1, ⟨hk.2.1, ⟨hk.2.2.2.1, ⟨hk.2.2.2.2.1, ⟨hk.2.2.2.2.2.1, hk.2.2.2.2.2.2⟩⟩⟩⟩⟩, hk.2.2.1⟩))).2.1 (Kd.V_F (Kd.V_mono (ok' := (fun k_ => ((fun k_ => (P1_1_ k_ ∨ w.heap.size ≤ k_) ∧ some k_ ≠ (.slice Ao16 t284.length co16 : Value).ownBlock ∧ k_ ≠ l9a ∧ k_ ≠ i9a ∧ k_ ≠ f9a ∧ k_ ≠ d9a)) k_ ∧ some k_ ≠ (u9a : Value).ownBlock)) (HL297_1.out) (fun k_ hk => ⟨⟨hk.1, ⟨hk.2.1, ⟨hk.2.2.2.1, ⟨hk.2.2.2.2.1, ⟨hk.2.2.2.2.2.1, hk.2.2.2.2.2.2⟩⟩⟩⟩⟩, hk.2.2.1⟩)))))
        (case aB => exact (be HB))
        (case aF => exact (fun k_ hk => ⟨(.inr (Nat.le_trans (below_size (be HB)) hk)), Kd.fresh' (Kd.R_lt (rr D9a)) k_ hk, Kd.freshB (g := l9a) (o := .cells #[.slice A0_0 l0_0.length c0_0] 26 (0, 0)) kB k_ hk, Kd.freshB (g := i9a) (o := .cells #[.int .i64 a1_0, .slice (some J9a) l1_1.length c1_1] 31 (0, 0)) kB k_ hk, Kd.freshB (g := f9a) (o := .cells #[.int .i64 0, .slice none 0 0] 31 (0, 0)) kB k_ hk, Kd.freshB (g := d9a) (o := .cells #[.int .i64 a1_0, u9a] 31 (0, 0)) kB k_ hk⟩))
        (case aO => exact (nX k9a.out))
        (case aS => exact (below_size (be HB)))
        (case aL => have := LMc37.out; omega)
        intro v299 w43 ho hb hg hat
        rw [← Ny298.out] at ho
        have n0_ := Aside0.mk (Kd.R_over' (rr D9a) (Kd.N_typed (nX k9a.out)) (by decide) hg)
        have n1_ := Aside0.mk (Kd.V_afterv (ok := (fun k_ => (P1_1_ k_ ∨ w.heap.size ≤ k_) ∧ some k_ ≠ (.slice Ao16 t284.length co16 : Value).ownBlock ∧ k_ ≠ l9a ∧ k_ ≠ i9a ∧ k_ ≠ f9a ∧ k_ ≠ d9a)) (by (with_reducible repeat (first | apply Kd.V_alloc | apply Kd.V_drewN | apply Kd.V_drew)); exact Kd.V_mono s9a.out (fun _ hk => ⟨⟨hk.1, ⟨hk.2.1, ⟨hk.2.2.2.1, ⟨hk.2.2.2.2.1, ⟨hk.2.2.2.2.2.1, hk.2.2.2.2.2.2⟩⟩⟩⟩⟩, hk.2.2.1⟩)) hg hat)
        have n2_ := Aside0.mk (blk_grown (g := l9a) (o := .cells #[.slice A0_0 l0_0.length c0_0] 26 (0, 0)) kB hg (Kd.N_ne k9a.out b9a.out (by decide)))
        have n3_ := Aside0.mk (blk_grown (g := i9a) (o := .cells #[.int .i64 a1_0, .slice (some J9a) l1_1.length c1_1] 31 (0, 0)) kB hg (Kd.N_ne k9a.out a9a.out (by decide)))
        have n4_ := Aside0.mk (blk_grown (g := f9a) (o := .cells #[.int .i64 0, .slice none 0 0] 31 (0, 0)) kB hg (Kd.N_ne k9a.out c9a.out (by decide)))
        have n5_ := Aside0.mk (blk_grown (g := d9a) (o := .cells #[.int .i64 a1_0, u9a] 31 (0, 0)) kB hg (Kd.N_ne k9a.out h9a.out (by decide)))
        have n6_ := Aside0.mk (Kd.V_afterv (ok := (fun k_ => (P1_1_ k_ ∨ w.heap.size ≤ k_) ∧ some k_ ≠ (.slice Ao16 t284.length co16 : Value).ownBlock ∧ k_ ≠ l9a ∧ k_ ≠ i9a ∧ k_ ≠ f9a ∧ k_ ≠ d9a)) (by (with_reducible repeat (first | apply Kd.V_alloc | apply Kd.V_drewN | apply Kd.V_drew)); exact Kd.V_mono HL297_1.out (fun _ hk => ⟨⟨hk.1, ⟨hk.2.1, ⟨hk.2.2.2.1, ⟨hk.2.2.2.2.1, ⟨hk.2.2.2.2.2.1, hk.2.2.2.2.2.2⟩⟩⟩⟩⟩, hk.2.2.1⟩)) hg hat)
        have n7_ := Aside0.mk (hb)
        have HO300 := Aside0.mk (ho)
        clear k9a D9a s9a b9a a9a c9a h9a HL297_1 HB; have D9a := n0_; have s9a := n1_; have b9a := n2_; have a9a := n3_; have c9a := n4_; have h9a := n5_; have HL297_1 := n6_; have HB := n7_; clear n0_ n1_ n2_ n3_ n4_ n5_ n6_ n7_; clear ho hb hg hat; obtain ⟨Ao44, co44, eo44⟩ := Kd.N_slice HO300.out
        (first | subst eo44 | (injection eo44 with f1_ f2_ f3_; have f4_ := f1_.symm; have f5_ := f3_.symm; clear f1_ f2_ f3_; subst f4_; subst f5_))
        refine hK.out _ _ ?_
        clear hK K; refine norm_ (a' := ?_) ?_ ?_
        rotate_left
        ·show Act.put _ (some 47) _ = _
         simp only [putL, i64_w, i32_w]; rfl
        refine pu 9 48 (tb 11 1023) HT_ ?_
        refine last_ (i := 10) (N := none) #[tt,tt,tt,tt,tt,tt,tt,tt,tt,tt,tt] rfl rfl (one_of HT_.out (by kernel_rfl)) (by decide) (fun K hK => ?_)
        have hs45 : w43.cell? ⟨d9a, 1, none⟩ = some (u9a) := bc h9a 1
        have hfs45 := blk_frozen h9a.out 1; have hns45_0 := o9a.out; have hns45_1 := g9a.out; have hns45_2 := n9a.out; have hms45_0 := q9a.out; have hms45_1 := p9a.out; have hms45_2 := r9a.out; refine skip_ (w1 := ?_) (by rfl) rfl ?_ ?_
        rotate_left
        ·go_simp; rfl
        refine hK.out _ _ ?_
        clear hK K; refine done_ (done_of HT_.out (by kernel_rfl)) ?_
        try go_wp2
        go_roundg k1
        case measure => have := HK1.out; omega
        case rel => exact ⟨(wrap64 (t9a + 1)), (y298), (.slice Ao44 y298.length co44), sR, H', ⟨by have := HK1.out; omega⟩, ⟨rX (Kd.R_mono (Kd.R_far (p := ⟨d9a, 1, none⟩) (Kd.R_types D9a.out h9a.out (by decide)) (fun _ hk => hk.2) (.slice Ao44 y298.length co44)) (fun _ hk => hk.1))⟩, ⟨by (with_reducible repeat (first | apply Kd.V_alloc | apply Kd.V_drewN | apply Kd.V_drew)); exact Kd.V_mono (Kd.V_far (p := ⟨d9a, 1, none⟩) (Kd.V_mono s9a.out (fun k_ hk => (⟨hk, hk.1.2.2.2.2.2⟩ : _ ∧ k_ ≠ d9a))) (fun _ hk => hk.2) (.slice Ao44 y298.length co44)) (fun _ hk => ⟨hk.1.1.1, ⟨hk.1.1.2.1, ⟨hk.1.2, ⟨hk.1.1.2.2.1, ⟨hk.1.1.2.2.2.1, ⟨hk.1.1.2.2.2.2.1, hk.1.1.2.2.2.2.2⟩⟩⟩⟩⟩⟩)⟩, ⟨nX (Kd.N_mono (Kd.N_far (p := ⟨d9a, 1, none⟩) (Kd.N_mono HO300.out (fun k_ hk => (⟨hk, hk.2.2.2.2.2⟩ : _ ∧ k_ ≠ d9a))) (fun _ hk => hk.2) (.slice Ao44 y298.length co44)) (fun _ hk => ⟨hk.1.1, ⟨hk.1.2.1, ⟨hk.1.2.2.1, ⟨hk.1.2.2.2.1, ⟨hk.1.2.2.2.2.1, hk.1.2.2.2.2.2⟩⟩⟩⟩⟩))⟩, ⟨by (with_reducible repeat first | refine bkN ?_ _ | refine bkD ?_ | refine bkA ?_ _ | refine blk_far ?_ o9a.out _); exact b9a.out⟩, ⟨by (with_reducible repeat first | refine bkN ?_ _ | refine bkD ?_ | refine bkA ?_ _ | refine blk_far ?_ g9a.out _); exact a9a.out⟩, ⟨by (with_reducible repeat first | refine bkN ?_ _ | refine bkD ?_ | refine bkA ?_ _ | refine blk_far ?_ n9a.out _); exact c9a.out⟩, ⟨by (with_reducible repeat first | refine bkN ?_ _ | refine bkD ?_ | refine bkA ?_ _); refine blk_put (cs := #[.int .i64 a1_0, u9a]) ?_ 1 _ rfl; (with_reducible repeat first | refine bkN ?_ _ | refine bkD ?_ | refine bkA ?_ _); exact h9a.out⟩, ⟨iB HB⟩⟩
       ·rw [if_neg c37] at H
        exact absurd H (by simp)
      ·rw [if_neg c36] at H
       exact absurd H (by simp)
    ·rw [if_neg c30] at H
     have c30b0 : decide (t9a < (l1_1.length : Int)) = false := decide_eq_false c30
     clear c30
     by_cases c46 : (j9a.length : Int) > a1_0
     ·rw [if_pos c46] at H
      have c46b0 : decide (a1_0 < (j9a.length : Int)) = true := decide_eq_true c46
      clear c46
      by_cases c47 : 0 ≤ a1_0
      ·rw [if_pos c47] at H
       have c47b0 := eq_true c47
       have c47b1 : decide (0 ≤ a1_0) = true := decide_eq_true c47
       clear c47
       by_cases c48 : a1_0 ≤ (j9a.length : Int)
       ·rw [if_pos c48] at H
        have c48b0 := eq_true c48
        have c48b1 : decide (a1_0 ≤ (j9a.length : Int)) = true := decide_eq_true c48
        clear c48; obtain ⟨y301, hy301⟩ : ∃ y_ : List (S86), y_ = (j9a.take (a1_0 : Int).toNat) := ⟨_, rfl⟩
        replace H : (some (a1_0, y301, t284, decide (t283 ≥ 0))) = some (r1, r2, r3, r4) := by first | (rw [hy301]; with_reducible exact H) | (have H2_ := (Option.bind_some _ _).symm.trans H; rw [hy301]; with_reducible exact H2_) | (have H2_ := (Option.bind_some _ _).symm.trans H; with_reducible exact H2_) | with_reducible exact H | (rw [hy301]; exact H) | exact H
        have Ny301 := Aside0.mk hy301
        clear hy301; simp only [Option.some.injEq, Prod.mk.injEq] at H
        obtain ⟨rfl, rfl, rfl, rfl⟩ := H
        have hnb49 := y9a.out; have hnc49 := x9a.out; have hnb50 := z9a.out; have hnc50 := A9a.out; have hnb51 := g9a.out; have hnc51 := p9a.out; obtain ⟨hcz52_0, hcz52_1⟩ := cs2 a9a; obtain ⟨hfz52_0, hfz52_1⟩ := fs2 a9a; have hnb53 := q9a.out; have hnc53 := o9a.out; have hnb54 := r9a.out; have hnc54 := n9a.out; obtain ⟨hcz55_0, hcz55_1⟩ := cs2 h9a; obtain ⟨hfz55_0, hfz55_1⟩ := fs2 h9a; obtain ⟨Ao56, co56, eo56⟩ := Kd.N_slice k9a.out
        subst eo56
        have q57 : (a1_0 : Int) ≤ ((j9a.length : Int) : Int) := oD
        obtain ⟨i057, hi057, _, hsz57, _⟩ := info_parts info86
        have hcut57 := cut_to (P := Try.prog) 29 86 .i64 Try.underlying29 hi057 Ao56 j9a.length co56 a1_0 (oD) q57 (Kd.N_reads' k9a.out).2.1
        have hr57 := Kd.N_take (m := (a1_0 : Int).toNat) k9a.out (by omega)
        have hy57 : y301.length = (a1_0 : Int).toNat := (by rw [Ny301.out, List.length_take]; omega)
        rw [← Ny301.out] at hr57
        rw [← hy57] at hr57 hcut57
        clear hy57 hi057 hsz57 k9a; have HO303 := Aside0.mk hr57
        clear hr57; replace q57 := eq_true q57
        have hnb58 := F9a.out; have hnc58 := E9a.out; obtain ⟨hcz59_0, hcz59_1⟩ := cs2 c9a; obtain ⟨hfz59_0, hfz59_1⟩ := fs2 c9a
        go_wp2
        refine bodyPost_ret (results_ctt rfl _ _ f9a 31 #[.int .i64 a1_0, .slice Ao56 y301.length co56] (0, 0) _ rfl (by (with_reducible repeat first | refine bkN ?_ _ | refine bkD ?_ | refine bkA ?_ _); refine blk_put (cs := #[.int .i64 a1_0, .slice none 0 0]) ?_ 1 _ rfl; (with_reducible repeat first | refine bkN ?_ _ | refine bkD ?_ | refine bkA ?_ _); refine blk_put (cs := #[.int .i64 0, .slice none 0 0]) ?_ 0 _ rfl; (with_reducible repeat first | refine bkN ?_ _ | refine bkD ?_ | refine bkA ?_ _ | refine blk_far ?_ n9a.out _); exact c9a.out) Try.underlying31 rfl (by kernel_rfl)) rfl ?_
        exact ⟨_, _, eR, nX (Kd.N_mono (Kd.N_far (p := ⟨f9a, 1, none⟩) (Kd.N_far (p := ⟨f9a, 0, none⟩) (Kd.N_far (p := ⟨d9a, 1, none⟩) (Kd.N_mono (Kd.N_mono HO303.out (fun k_ hk => (⟨hk, hk.2.2.2.2.2⟩ : _ ∧ k_ ≠ d9a))) (fun k_ hk => (⟨hk, hk.1.2.2.2.2.1⟩ : _ ∧ k_ ≠ f9a))) (fun _ hk => hk.1.2) (.slice Ao56 y301.length co56)) (fun _ hk => hk.2) (.int .i64 a1_0)) (fun _ hk => hk.2) (.slice Ao56 y301.length co56)) (fun _ hk => ⟨hk.1.1.1, hk.1.1.2.1⟩)), rX (Kd.R_mono (Kd.R_far (p := ⟨f9a, 1, none⟩) (Kd.R_far (p := ⟨f9a, 0, none⟩) (Kd.R_far (p := ⟨d9a, 1, none⟩) (Kd.R_types (Kd.R_types D9a.out h9a.out (by decide)) c9a.out (by decide)) (fun _ hk => hk.1.2) (.slice Ao56 y301.length co56)) (fun _ hk => hk.2) (.int .i64 a1_0)) (fun _ hk => hk.2) (.slice Ao56 y301.length co56)) (fun _ hk => hk.1.1)), iB HB⟩
       ·rw [if_neg c48] at H
        exact absurd H (by simp)
      ·rw [if_neg c47] at H
       exact absurd H (by simp)
     ·rw [if_neg c46] at H
      have c46b0 : decide (a1_0 < (j9a.length : Int)) = false := decide_eq_false c46
      clear c46; simp only [Option.some.injEq, Prod.mk.injEq] at H
      obtain ⟨rfl, rfl, rfl, rfl⟩ := H
      have hnb60 := y9a.out; have hnc60 := x9a.out; have hnb61 := z9a.out; have hnc61 := A9a.out; have hnb62 := g9a.out; have hnc62 := p9a.out; obtain ⟨hcz63_0, hcz63_1⟩ := cs2 a9a; obtain ⟨hfz63_0, hfz63_1⟩ := fs2 a9a; have hnb64 := q9a.out; have hnc64 := o9a.out; have hnb65 := r9a.out; have hnc65 := n9a.out; obtain ⟨hcz66_0, hcz66_1⟩ := cs2 h9a; obtain ⟨hfz66_0, hfz66_1⟩ := fs2 h9a; obtain ⟨Ao67, co67, eo67⟩ := Kd.N_slice k9a.out
      subst eo67
      have hnb68 := F9a.out; have hnc68 := E9a.out; obtain ⟨hcz69_0, hcz69_1⟩ := cs2 c9a; obtain ⟨hfz69_0, hfz69_1⟩ := fs2 c9a
      go_wp2
      refine bodyPost_ret (results_ctt rfl _ _ f9a 31 #[.int .i64 a1_0, .slice Ao67 j9a.length co67] (0, 0) _ rfl (by (with_reducible repeat first | refine bkN ?_ _ | refine bkD ?_ | refine bkA ?_ _); refine blk_put (cs := #[.int .i64 a1_0, .slice none 0 0]) ?_ 1 _ rfl; (with_reducible repeat first | refine bkN ?_ _ | refine bkD ?_ | refine bkA ?_ _); refine blk_put (cs := #[.int .i64 0, .slice none 0 0]) ?_ 0 _ rfl; (with_reducible repeat first | refine bkN ?_ _ | refine bkD ?_ | refine bkA ?_ _); exact c9a.out) Try.underlying31 rfl (by kernel_rfl)) rfl ?_
      exact ⟨_, _, eR, nX (Kd.N_mono (Kd.N_far (p := ⟨f9a, 1, none⟩) (Kd.N_far (p := ⟨f9a, 0, none⟩) (Kd.N_mono k9a.out (fun k_ hk => (⟨hk, hk.2.2.2.2.1⟩ : _ ∧ k_ ≠ f9a))) (fun _ hk => hk.2) (.int .i64 a1_0)) (fun _ hk => hk.2) (.slice Ao67 j9a.length co67)) (fun _ hk => ⟨hk.1.1, hk.1.2.1⟩)), rX (Kd.R_mono (Kd.R_far (p := ⟨f9a, 1, none⟩) (Kd.R_far (p := ⟨f9a, 0, none⟩) (Kd.R_types D9a.out c9a.out (by decide)) (fun _ hk => hk.2) (.int .i64 a1_0)) (fun _ hk => hk.2) (.slice Ao67 j9a.length co67)) (fun _ hk => hk.1)), iB HB⟩
 ·rw [if_neg c6] at H
  exact absurd H (by simp)
end Go.Proofs.Ytddebnchbbmbkaa.PFnExactRecall
