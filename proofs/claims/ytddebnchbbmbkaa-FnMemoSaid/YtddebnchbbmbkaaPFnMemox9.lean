-- The machine side of a law: written by a program of this session (wip/tools), a turned print.
import Derived.Test.YtddebnchbbmbkaaPFnMemox0
import Derived.Test.YtddebnchbbmbkaaPFnMemox2
import Derived.Test.YtddebnchbbmbkaaPFnMemox3
import Derived.Test.YtddebnchbbmbkaaPFnMemox4
import Derived.Test.YtddebnchbbmbkaaPFnMemox7
import Derived.Test.YtddebnchbbmbkaaPFnMemox8
namespace Go.Proofs.Ytddebnchbbmbkaa.PFnMemo
open Go.RowKit Go.Proofs.YtddebnchbbmbkaaW.PrintWords Go.Proofs.YtddebnchbbmbkaaW.PrintLast Go.Proofs.YtddebnchbbmbkaaW.PrintMore
attribute [local go_sem] max2_int min2_int max_two min_two max_three min_three max_four min_four   -- for this text's walks alone
set_option linter.unusedVariables false
set_option linter.unusedSimpArgs false
mutual
def spec_l10Memo.j1 : Nat → List Int → Int → Int → List (S95) → Int → List (S86) → Option (Int × (List (S86)) × Int × Int)
 | 0, _, _, _, _, _, _ => none
 | k + 1, x1000, x1001, x1002, x333000, x341000, x341001 => (spec_l1Once.f x1000 x1001 x1002 10).bind fun bt357 => (if bt357.1 = true then ((spec_l1PickInt.f x1000 bt357.2.1 bt357.2.2 (([(-1), 0, 1, 40, 41] : List Int))).bind fun bt363 => (spec_l10Memo.j2 k x1000 bt363.2.1 bt363.2.2 x333000 bt363.1 x341001)) else (spec_l10Memo.j2 k x1000 bt357.2.1 bt357.2.2 x333000 x341000 x341001))
def spec_l10Memo.j2 : Nat → List Int → Int → Int → List (S95) → Int → List (S86) → Option (Int × (List (S86)) × Int × Int)
 | 0, _, _, _, _, _, _ => none
 | k + 1, x1000, x1001, x1002, x333000, x341000, x341001 => (spec_l1Once.f x1000 x1001 x1002 10).bind fun bt366 => (if bt366.1 = true then ((spec_l8Word.f k x1000 bt366.2.1 bt366.2.2 x333000 2).bind fun bt369 => (if x341001.length < 3518437208883 then (some (x341000, (x341001 ++ [(⟨bt369.1, (([97] : List Int))⟩ : S86)]), bt369.2.1, bt369.2.2)) else (none))) else (some (x341000, x341001, bt366.2.1, bt366.2.2)))
def spec_l10Memo.l0 : Nat → Int → List Int → Int → Int → List (S95) → Int → List (S86) → Option (Int × (List (S86)) × Int × Int)
 | 0, _, _, _, _, _, _, _ => none
 | k + 1, x6, x1000, x1001, x1002, x333000, x341000, x341001 => if x6 > 0 then ((spec_l8Word.f k x1000 x1001 x1002 x333000 4).bind fun bt345 => ((spec_l1In.f (bt345.1.size : Int) 1 64).bind fun t348 => (if t348 = true then ((spec_l10Recall.f k x333000 x341000 x341001 bt345.1).bind fun bt349 => (spec_l10Memo.l0 k (wrap64 (x6 - 1)) x1000 bt345.2.1 bt345.2.2 x333000 bt349.1 bt349.2.1)) else (spec_l10Memo.l0 k (wrap64 (x6 - 1)) x1000 bt345.2.1 bt345.2.2 x333000 x341000 x341001)))) else (spec_l10Memo.j1 k x1000 x1001 x1002 x333000 x341000 x341001)
end
def spec_l10Memo.f (k : Nat) (s0_0 : List Int) (s0_1 : Int) (s0_2 : Int) (l1_0 : List (S95)) : Option (Int × (List (S86)) × Int × Int) := (spec_l1PickInt.f s0_0 s0_1 s0_2 (([0, 1, 2, 3, 5, 40] : List Int))).bind fun bt337 => ((spec_VocabOk.f k l1_0).bind fun t341 => (if t341 = true then ((spec_l1Below.f s0_0 bt337.2.1 bt337.2.2 7).bind fun bt342 => (spec_l10Memo.l0 k bt342.1 s0_0 bt342.2.1 bt342.2.2 l1_0 bt337.1 ([] : List (S86)))) else (spec_l10Memo.j1 k s0_0 bt337.2.1 bt337.2.2 l1_0 bt337.1 ([] : List (S86)))))
theorem spec_l10Memo.mono_l : ∀ k, (∀ y0 y1 y2 y3 y4 y5, LeO (spec_l10Memo.j1 k y0 y1 y2 y3 y4 y5) (spec_l10Memo.j1 (k + 1) y0 y1 y2 y3 y4 y5)) ∧ (∀ y0 y1 y2 y3 y4 y5, LeO (spec_l10Memo.j2 k y0 y1 y2 y3 y4 y5) (spec_l10Memo.j2 (k + 1) y0 y1 y2 y3 y4 y5)) ∧ (∀ y0 y1 y2 y3 y4 y5 y6, LeO (spec_l10Memo.l0 k y0 y1 y2 y3 y4 y5 y6) (spec_l10Memo.l0 (k + 1) y0 y1 y2 y3 y4 y5 y6))
 | 0 => ⟨fun _ _ _ _ _ _ r h => by simp [spec_l10Memo.j1] at h, fun _ _ _ _ _ _ r h => by simp [spec_l10Memo.j2] at h, fun _ _ _ _ _ _ _ r h => by simp [spec_l10Memo.l0] at h⟩
 | k + 1 => by
  obtain ⟨ih0, ih1, ih2⟩ := spec_l10Memo.mono_l k
  refine ⟨?_, ?_, ?_⟩
  ·intro y0 y1 y2 y3 y4 y5
   unfold spec_l10Memo.j1
   repeat' first
   | (with_reducible exact ih0 _ _ _ _ _ _)
   | (with_reducible exact ih1 _ _ _ _ _ _)
   | (with_reducible exact ih2 _ _ _ _ _ _ _)
   | (with_reducible exact spec_VocabOk.mono _ _)
   | (with_reducible exact spec_l10Recall.mono _ _ _ _ _)
   | (with_reducible exact spec_l8Word.mono _ _ _ _ _ _)
   | (with_reducible exact LeO.refl _)
   | (with_reducible exact LeO.none _)
   | (with_reducible refine LeO.ite ?_ ?_)
   | (with_reducible refine LeO.bind ?_ (fun _ => ?_))
   | exact ih0 _ _ _ _ _ _
   | exact ih1 _ _ _ _ _ _
   | exact ih2 _ _ _ _ _ _ _
   | exact spec_VocabOk.mono _ _
   | exact spec_l10Recall.mono _ _ _ _ _
   | exact spec_l8Word.mono _ _ _ _ _ _
   | exact LeO.none _
   | refine LeO.ite ?_ ?_
   | refine LeO.bind ?_ (fun _ => ?_)
  ·intro y0 y1 y2 y3 y4 y5
   unfold spec_l10Memo.j2
   repeat' first
   | (with_reducible exact ih0 _ _ _ _ _ _)
   | (with_reducible exact ih1 _ _ _ _ _ _)
   | (with_reducible exact ih2 _ _ _ _ _ _ _)
   | (with_reducible exact spec_VocabOk.mono _ _)
   | (with_reducible exact spec_l10Recall.mono _ _ _ _ _)
   | (with_reducible exact spec_l8Word.mono _ _ _ _ _ _)
   | (with_reducible exact LeO.refl _)
   | (with_reducible exact LeO.none _)
   | (with_reducible refine LeO.ite ?_ ?_)
   | (with_reducible refine LeO.bind ?_ (fun _ => ?_))
   | exact ih0 _ _ _ _ _ _
   | exact ih1 _ _ _ _ _ _
   | exact ih2 _ _ _ _ _ _ _
   | exact spec_VocabOk.mono _ _
   | exact spec_l10Recall.mono _ _ _ _ _
   | exact spec_l8Word.mono _ _ _ _ _ _
   | exact LeO.none _
   | refine LeO.ite ?_ ?_
   | refine LeO.bind ?_ (fun _ => ?_)
  ·intro y0 y1 y2 y3 y4 y5 y6
   unfold spec_l10Memo.l0
   repeat' first
   | (with_reducible exact ih0 _ _ _ _ _ _)
   | (with_reducible exact ih1 _ _ _ _ _ _)
   | (with_reducible exact ih2 _ _ _ _ _ _ _)
   | (with_reducible exact spec_VocabOk.mono _ _)
   | (with_reducible exact spec_l10Recall.mono _ _ _ _ _)
   | (with_reducible exact spec_l8Word.mono _ _ _ _ _ _)
   | (with_reducible exact LeO.refl _)
   | (with_reducible exact LeO.none _)
   | (with_reducible refine LeO.ite ?_ ?_)
   | (with_reducible refine LeO.bind ?_ (fun _ => ?_))
   | exact ih0 _ _ _ _ _ _
   | exact ih1 _ _ _ _ _ _
   | exact ih2 _ _ _ _ _ _ _
   | exact spec_VocabOk.mono _ _
   | exact spec_l10Recall.mono _ _ _ _ _
   | exact spec_l8Word.mono _ _ _ _ _ _
   | exact LeO.none _
   | refine LeO.ite ?_ ?_
   | refine LeO.bind ?_ (fun _ => ?_)
theorem spec_l10Memo.mono : ∀ a0 a1 a2 a3 k, LeO (spec_l10Memo.f k a0 a1 a2 a3) (spec_l10Memo.f (k + 1) a0 a1 a2 a3) := by
 intro a0 a1 a2 a3 k
 obtain ⟨ih0, ih1, ih2⟩ := spec_l10Memo.mono_l k
 unfold spec_l10Memo.f
 repeat' first
   | (with_reducible exact ih0 _ _ _ _ _ _)
   | (with_reducible exact ih1 _ _ _ _ _ _)
   | (with_reducible exact ih2 _ _ _ _ _ _ _)
   | (with_reducible exact spec_VocabOk.mono _ _)
   | (with_reducible exact spec_l10Recall.mono _ _ _ _ _)
   | (with_reducible exact spec_l8Word.mono _ _ _ _ _ _)
   | (with_reducible exact LeO.refl _)
   | (with_reducible exact LeO.none _)
   | (with_reducible refine LeO.ite ?_ ?_)
   | (with_reducible refine LeO.bind ?_ (fun _ => ?_))
   | exact ih0 _ _ _ _ _ _
   | exact ih1 _ _ _ _ _ _
   | exact ih2 _ _ _ _ _ _ _
   | exact spec_VocabOk.mono _ _
   | exact spec_l10Recall.mono _ _ _ _ _
   | exact spec_l8Word.mono _ _ _ _ _ _
   | exact LeO.none _
   | refine LeO.ite ?_ ?_
   | refine LeO.bind ?_ (fun _ => ?_)
def spec_l10Memo.T12 : Bool × List (List Nat × List Nat) := (true, [([], []), ([0], [0]), ([], []), ([], []), ([2, 3], [2, 3]), ([], []), ([4, 5], [4, 5]), ([6], [6]), ([1, 7, 4], [1, 7]), ([0, 1, 2, 3, 4, 5, 6, 7, 8], []), ([9, 8, 8, 0, 1, 2, 3, 4, 5, 6, 7, 8], [8, 9])])
def spec_l10Memo.B12 : List Nat := [0, 1, 0, 0, 12, 0, 60, 124, 255, 511, 1023]
theorem spec_l10Memo.tab12 : rtab .any (opsOf Try.f53 12) = spec_l10Memo.T12 := by kernel_rfl
theorem spec_l10Memo.bits12 : waitsOk spec_l10Memo.T12.2 spec_l10Memo.B12 = true := by kernel_rfl
set_option maxHeartbeats 8000000 in
set_option maxRecDepth 100000 in
theorem spec_l10Memo.calls (k : Nat) (g : Nat) (s0_0 : List Int) (s0_1 : Int) (s0_2 : Int) (A1_0 : Option Addr) (c1_0 : Nat) (l1_0 : List (S95)) (r1 : Int) (r2 : List (S86)) (r3 : Int) (r4 : Int) (w0 w : World) (hI : IsS90 w0 w g s0_0 s0_1 s0_2) (hB : Below w0.heap.size w0 w) (hr1_0 : ∀ W_, KeepBut w W_ g none → Kd.C k95 W_ A1_0 l1_0.length l1_0) (hc1_0 : l1_0.length ≤ c1_0) (h : spec_l10Memo.f k s0_0 s0_1 s0_2 l1_0 = some (r1, r2, r3, r4)) :
  Calls Try.prog 53 #[.pointer (some ⟨g, 0, none⟩), .agg #[.slice A1_0 l1_0.length c1_0]] w fun e w' => ∃ v1_ : Value, e = .returned (.agg #[.int .i64 r1, v1_]) ∧ Kd.N k86 86 w' w.heap.size (fun k_ => (w.heap.size ≤ k_)) v1_ r2 ∧ IsS90 w0 w' g s0_0 r3 r4 ∧ Below w0.heap.size w0 w' ∧ KeepBut w w' g none := by
 have hu26 := Try.underlying26
 have hu31 := Try.underlying31
 have hu86 := Try.underlying86
 have T9a := Aside0.mk hr1_0
 have U9a := Aside0.mk hc1_0
 clear hr1_0 hc1_0; have HI0 := Aside0.mk hI
 have HK := Aside0.mk (KeepBut.refl w g none)
 have HL := Aside0.mk hB.size
 clear hI; have HW0 := Aside0.mk hB.size
 have HB := Aside0.mk hB
 clear hB; have H : ((spec_l1PickInt.f s0_0 s0_1 s0_2 (([0, 1, 2, 3, 5, 40] : List Int))).bind fun J9a => ((spec_VocabOk.f k l1_0).bind fun t341 => (if t341 = true then ((spec_l1Below.f s0_0 J9a.2.1 J9a.2.2 7).bind fun D9a => (spec_l10Memo.l0 k D9a.1 s0_0 D9a.2.1 D9a.2.2 l1_0 J9a.1 ([] : List (S86)))) else (spec_l10Memo.j1 k s0_0 J9a.2.1 J9a.2.2 l1_0 J9a.1 ([] : List (S86)))))) = some (r1, r2, r3, r4) := h
 clear h; obtain ⟨y334, hy334⟩ : ∃ y_ : List Int, y_ = (([0, 1, 2, 3, 5, 40] : List Int)) := ⟨_, rfl⟩
 replace H : ((spec_l1PickInt.f s0_0 s0_1 s0_2 y334).bind fun J9a => ((spec_VocabOk.f k l1_0).bind fun t341 => (if t341 = true then ((spec_l1Below.f s0_0 J9a.2.1 J9a.2.2 7).bind fun D9a => (spec_l10Memo.l0 k D9a.1 s0_0 D9a.2.1 D9a.2.2 l1_0 J9a.1 ([] : List (S86)))) else (spec_l10Memo.j1 k s0_0 J9a.2.1 J9a.2.2 l1_0 J9a.1 ([] : List (S86)))))) = some (r1, r2, r3, r4) := by first | (rw [hy334]; with_reducible exact H) | (have H2_ := (Option.bind_some _ _).symm.trans H; rw [hy334]; with_reducible exact H2_) | (have H2_ := (Option.bind_some _ _).symm.trans H; with_reducible exact H2_) | with_reducible exact H | (rw [hy334]; exact H) | exact H
 have Ny334 := Aside0.mk hy334
 clear hy334; replace H := Option.bind_eq_some_iff.mp H
 obtain ⟨⟨t337, t338, t339⟩, A30, H⟩ := H
 replace H : ((spec_VocabOk.f k l1_0).bind fun t341 => (if t341 = true then ((spec_l1Below.f s0_0 t338 t339 7).bind fun D9a => (spec_l10Memo.l0 k D9a.1 s0_0 D9a.2.1 D9a.2.2 l1_0 t337 ([] : List (S86)))) else (spec_l10Memo.j1 k s0_0 t338 t339 l1_0 t337 ([] : List (S86))))) = some (r1, r2, r3, r4) := H
 have A3 := Aside0.mk A30
 clear A30; replace H := Option.bind_eq_some_iff.mp H
 obtain ⟨t341, A40, H⟩ := H
 replace H : (if t341 = true then ((spec_l1Below.f s0_0 t338 t339 7).bind fun D9a => (spec_l10Memo.l0 k D9a.1 s0_0 D9a.2.1 D9a.2.2 l1_0 t337 ([] : List (S86)))) else (spec_l10Memo.j1 k s0_0 t338 t339 l1_0 t337 ([] : List (S86)))) = some (r1, r2, r3, r4) := H
 have A4 := Aside0.mk A40
 clear A40; have HC5 := Aside0.mk H
 clear H
 go_enter Try.func53, Try.ntmps53
 go_upto_if 13 with (first | ((with_reducible refine gate_dst (N := 3) rfl ?_); refine bX 3 #[.slice A1_0 l1_0.length c1_0] 26 ?_; intro p9a hg w6 hbox hb; have n0_ := Aside0.mk (IsS90.below (iS HI0) hb); have n1_ := Aside0.mk (KeepBut.trans (iK HK) (KeepBut.of_below hb g none) (.inl rfl)); have n2_ := Aside0.mk (below_step (iD HB) hb); have e9a := Aside0.mk (hbox); have l9a := Aside0.mk ((by rw [hg]; exact (keep_size (w := w) (g := g) (row := none) (iK HK)) : w.heap.size ≤ p9a)); have s9a := Aside0.mk ((Nat.le_trans HW0.out (by rw [hg]; exact (keep_size (w := w) (g := g) (row := none) (iK HK)) : w.heap.size ≤ p9a) : w0.heap.size ≤ p9a)); have f9a := Aside0.mk ((by rw [hg]; exact Nat.ne_of_lt (IsS90.lt (show IsS90 w0 _ g s0_0 s0_1 s0_2 from iS HI0)) : g ≠ p9a)); have y9a := Aside0.mk ((by rw [hg]; exact Nat.ne_of_gt (IsS90.lt (show IsS90 w0 _ g s0_0 s0_1 s0_2 from iS HI0)) : p9a ≠ g)); clear HI0 HK HB; have HI0 := n0_; have HK := n1_; have HB := n2_; clear n0_ n1_ n2_; clear hb hbox hg) | ((with_reducible refine gate_dst (N := 4) rfl ?_); refine bX 4 #[.int .i64 0, .slice none 0 0] 31 ?_; intro n9a hg w7 hbox hb; have n0_ := Aside0.mk (IsS90.below (iS HI0) hb); have n2_ := Aside0.mk (KeepBut.trans (iK HK) (KeepBut.of_below hb g none) (.inl rfl)); have n3_ := Aside0.mk (below_step (iD HB) hb); have g9a := Aside0.mk (hbox); have o9a := Aside0.mk ((by rw [hg]; exact (keep_size (w := w) (g := g) (row := none) (iK HK)) : w.heap.size ≤ n9a)); have t9a := Aside0.mk ((Nat.le_trans HW0.out (by rw [hg]; exact (keep_size (w := w) (g := g) (row := none) (iK HK)) : w.heap.size ≤ n9a) : w0.heap.size ≤ n9a)); have E9a := bl e9a hg; have F9a := bg e9a hg; have h9a := Aside0.mk ((by rw [hg]; exact Nat.ne_of_lt (IsS90.lt (show IsS90 w0 _ g s0_0 s0_1 s0_2 from iS HI0)) : g ≠ n9a)); have A9a := Aside0.mk ((by rw [hg]; exact Nat.ne_of_gt (IsS90.lt (show IsS90 w0 _ g s0_0 s0_1 s0_2 from iS HI0)) : n9a ≠ g)); replace e9a := bq e9a hb; clear HI0 HK HB; have HI0 := n0_; have HK := n2_; have HB := n3_; clear n0_ n2_ n3_; clear hb hbox hg) | ((with_reducible refine gate_dst (N := 9) rfl ?_); refine Kd.R_lit (Kd.int .i64) _ 3 ?hg (N := 9) ?hd (xs := ([0, 1, 2, 3, 5, 40] : List Int)) (inner := [.int .i64 0, .int .i64 1, .int .i64 2, .int .i64 3, .int .i64 5, .int .i64 40]) (ok := fun _ => True) (okp := fun _ => True) ?hr ?hp (fun _ hk => hk) trivial (Below.refl _ _) (Nat.le_refl _) (by simp) ?_; (case hd => rfl); (case hg => rfl); (case hr => first | (go_simp; done) | (go_simp; rfl)); (case hp => exact (Reps.one (show Kd.M (Kd.int .i64) _ _ _ 0 [.int .i64 0] from rfl) (Reps.one (show Kd.M (Kd.int .i64) _ _ _ 1 [.int .i64 1] from rfl) (Reps.one (show Kd.M (Kd.int .i64) _ _ _ 2 [.int .i64 2] from rfl) (Reps.one (show Kd.M (Kd.int .i64) _ _ _ 3 [.int .i64 3] from rfl) (Reps.one (show Kd.M (Kd.int .i64) _ _ _ 5 [.int .i64 5] from rfl) (Reps.one (show Kd.M (Kd.int .i64) _ _ _ 40 [.int .i64 40] from rfl) (Reps.none _ _)))))))); intro v335 w8 ho9 hb hg_ hnew_; clear hg_ hnew_; (first | rw [← Ny334.out] at ho9 | (simp only [Int.reduceToNat] at ho9; rw [← Ny334.out] at ho9)); have n1_ := Aside0.mk (IsS90.below (iS HI0) hb); have n4_ := Aside0.mk (KeepBut.trans (iK HK) (KeepBut.of_below hb g none) (.inl rfl)); have n5_ := Aside0.mk (below_step (iD HB) hb); have G9a := Aside0.mk (Kd.R_lower (Kd.R_newM (M := fun k_ => (w.heap.size ≤ k_)) ho9 (keep_size (w := w) (g := g) (row := none) (iK HK)) (fun k_ h_ => h_)) (keep_size (w := w) (g := g) (row := none) (iK HK))); replace e9a := bq e9a hb; replace g9a := bq g9a hb; clear HI0 HK HB; have HI0 := n1_; have HK := n4_; have HB := n5_; clear n1_ n4_ n5_; clear hb ho9; obtain ⟨Ao10, co10, eo10⟩ := Kd.R_slice G9a.out; subst eo10) | ((with_reducible refine gate_callee (f := 66) rfl ?_); refine goesC_ (some 10) Try.func66 #[.pointer (some ⟨g, 0, none⟩), .slice Ao10 y334.length co10] ?_; (with_reducible refine (spec_l1PickInt.calls g s0_0 s0_1 s0_2 _ _ y334 t337 t338 t339 w0 _ ?side1 ?side2 ?side3 ?side4 ?side5 A3.out).mono ?_); (case side1 => exact iS HI0); (case side2 => exact iD HB); (case side3 => exact cX ((Kd.R_reads' G9a.out).2.2)); (case side4 => exact (Kd.R_reads' G9a.out).2.1); (case side5 => exact far_slice (IsS90.own_ne HI0.out G9a.out (by decide))); rintro e w11 ⟨rfl, hi, hb, hk⟩; refine ⟨_, rfl, ?_⟩; have n0_ := Aside0.mk (KeepBut.blk hk (g' := p9a) (o := .cells #[.slice A1_0 l1_0.length c1_0] 26 (0, 0)) kB y9a.out (by simp)); have n1_ := Aside0.mk (KeepBut.blk hk (g' := n9a) (o := .cells #[.int .i64 0, .slice none 0 0] 31 (0, 0)) kB A9a.out (by simp)); have n2_ := Aside0.mk (Kd.R_mono (Kd.R_keep (IsS90.apart (show IsS90 w0 _ g s0_0 s0_1 s0_2 from iS HI0) (rr G9a) (by decide)) hk (fun _ h => h.2)) (fun _ h => h.1)); have n3_ := Aside0.mk (KeepBut.trans (iK HK) hk (.inl rfl)); have n4_ := Aside0.mk (hb); have n5_ := Aside0.mk (hi); clear e9a g9a G9a HK HB HI0; have e9a := n0_; have g9a := n1_; have G9a := n2_; have HK := n3_; have HB := n4_; have HI0 := n5_; clear n0_ n1_ n2_ n3_ n4_ n5_; (try clear hb); (try clear hb2); (try clear hk); (try clear hi)) | ((with_reducible refine gate_dst (N := 5) rfl ?_); refine bX 5 #[.int .i64 0, .slice none 0 0] 31 ?_; intro j9a hg w12 hbox hb; have n1_ := Aside0.mk (IsS90.below (iS HI0) hb); have n4_ := Aside0.mk (KeepBut.trans (iK HK) (KeepBut.of_below hb g none) (.inl rfl)); have n5_ := Aside0.mk (below_step (iD HB) hb); have d9a := Aside0.mk (hbox); have q9a := Aside0.mk ((by rw [hg]; exact (keep_size (w := w) (g := g) (row := none) (iK HK)) : w.heap.size ≤ j9a)); have z9a := Aside0.mk ((Nat.le_trans HW0.out (by rw [hg]; exact (keep_size (w := w) (g := g) (row := none) (iK HK)) : w.heap.size ≤ j9a) : w0.heap.size ≤ j9a)); have u9a := bl e9a hg; have B9a := bg e9a hg; have v9a := bl g9a hg; have C9a := bg g9a hg; have i9a := Aside0.mk ((by rw [hg]; exact Nat.ne_of_lt (IsS90.lt (show IsS90 w0 _ g s0_0 t338 t339 from iS HI0)) : g ≠ j9a)); have w9a := Aside0.mk ((by rw [hg]; exact Nat.ne_of_gt (IsS90.lt (show IsS90 w0 _ g s0_0 t338 t339 from iS HI0)) : j9a ≠ g)); replace G9a := Aside0.mk (Kd.R_below (rr G9a) hb); replace e9a := bq e9a hb; replace g9a := bq g9a hb; clear HI0 HK HB; have HI0 := n1_; have HK := n4_; have HB := n5_; clear n1_ n4_ n5_; clear hb hbox hg; have hnb13 := B9a.out; have hnc13 := u9a.out; have hnb14 := C9a.out; have hnc14 := v9a.out; have hnb15 := w9a.out; have hnc15 := i9a.out; obtain ⟨hcz16_0, hcz16_1⟩ := cs2 d9a; obtain ⟨hfz16_0, hfz16_1⟩ := fs2 d9a; have hnb17 := E9a.out; have hnc17 := F9a.out; have hnb18 := y9a.out; have hnc18 := f9a.out; have hcz19_0 : w12.cell? ⟨p9a, 0, none⟩ = some (.slice A1_0 l1_0.length c1_0) := bc e9a 0; have hfz19_0 := blk_frozen e9a.out 0) | ((with_reducible refine gate_callee (f := 10) rfl ?_); refine goesC_ (some 13) Try.func10 #[.agg #[.slice A1_0 l1_0.length c1_0]] ?_; (with_reducible refine (spec_VocabOk.calls k _ _ l1_0 t341 _ ?side1 ?side2 A4.out).mono ?_); (case side1 => exact Kd.C_foot_now T9a.out (iK HK)); (case side2 => exact U9a.out); rintro e w20 ⟨rfl, hb⟩; refine ⟨_, rfl, ?_⟩; have n0_ := Aside0.mk (Kd.R_below (rX (Kd.R_mono (Kd.R_far (p := ⟨j9a, 1, none⟩) (Kd.R_far (p := ⟨j9a, 0, none⟩) (Kd.R_types G9a.out d9a.out (by decide)) (fun _ hk => hk.2) (.int .i64 t337)) (fun _ hk => hk.2) (.slice none 0 0)) (fun _ h_ => h_.1))) hb); have n1_ := Aside0.mk (IsS90.below (show IsS90 w0 ((w12.setCell ⟨j9a, 0, none⟩ (.int .i64 t337)).setCell ⟨j9a, 1, none⟩ (.slice none 0 0)) g s0_0 t338 t339 from iS HI0) hb); have n2_ := bf e9a hb; have n3_ := bf g9a hb; have n4_ := bp #[.int .i64 t337, .slice none 0 0] d9a hb; have n5_ := Aside0.mk (KeepBut.trans (iK HK) (KeepBut.of_below hb g none) (.inl rfl)); have n6_ := Aside0.mk (below_step (iD HB) hb); clear G9a HI0 e9a g9a d9a HK HB; have G9a := n0_; have HI0 := n1_; have e9a := n2_; have g9a := n3_; have d9a := n4_; have HK := n5_; have HB := n6_; clear n0_ n1_ n2_ n3_ n4_ n5_ n6_; (try clear hb); (try clear hb2); (try clear hk); (try clear hi)))
 (try simp only [putL])
 go_cut [] (fun wc => ∃ (kq : Nat) (O9a : Int) (P9a : Int) (x9a : Int) (b9a : List (S86)) (r9a : Value), Aside0 (spec_l10Memo.j1 kq s0_0 O9a P9a l1_0 x9a b9a = some (r1, r2, r3, r4)) ∧ Aside0 (kq ≤ k) ∧ Aside0 (Kd.N k86 86 wc w.heap.size (fun k_ => (w.heap.size ≤ k_) ∧ k_ ≠ p9a ∧ k_ ≠ n9a ∧ k_ ≠ j9a ∧ k_ ≠ g) r9a b9a) ∧ Aside0 (wc.heap[p9a]? = some (.cells #[(.slice A1_0 l1_0.length c1_0)] 26 (0, 0))) ∧ Aside0 (wc.heap[n9a]? = some (.cells #[.int .i64 0, (.slice none 0 0)] 31 (0, 0))) ∧ Aside0 (wc.heap[j9a]? = some (.cells #[.int .i64 x9a, r9a] 31 (0, 0))) ∧ Aside0 (IsS90 w0 wc g s0_0 O9a P9a) ∧ Aside0 (KeepBut w wc g none) ∧ Aside0 (Below w0.heap.size w0 wc))
 case first =>
  have H := HC5.out; clear HC5
  by_cases c21 : t341 = true
  ·subst c21
   have H1 : ((spec_l1Below.f s0_0 t338 t339 7).bind fun D9a => (spec_l10Memo.l0 k D9a.1 s0_0 D9a.2.1 D9a.2.2 l1_0 t337 ([] : List (S86)))) = some (r1, r2, r3, r4) := by rw [if_pos rfl] at H; exact H
   clear H; have H := H1
   clear H1; replace H := Option.bind_eq_some_iff.mp H
   obtain ⟨⟨t342, t343, t344⟩, A220, H⟩ := H
   replace H : (spec_l10Memo.l0 k t342 s0_0 t343 t344 l1_0 t337 ([] : List (S86))) = some (r1, r2, r3, r4) := H
   have A22 := Aside0.mk A220
   clear A220; have H' := Aside0.mk H
   clear H
   go_wp2_with (first | ((with_reducible refine gate_callee (f := 65) rfl ?_); refine goesC_ (some 15) Try.func65 #[.pointer (some ⟨g, 0, none⟩), .int .i64 7] ?_; (with_reducible refine (spec_l1Below.calls g s0_0 t338 t339 7 t342 t343 t344 w0 _ ?side1 ?side2 A22.out).mono ?_); (case side1 => exact iS HI0); (case side2 => exact iD HB); rintro e w23 ⟨rfl, hi, hb, hk⟩; refine ⟨_, rfl, ?_⟩; have n0_ := Aside0.mk (KeepBut.blk hk (g' := p9a) (o := .cells #[.slice A1_0 l1_0.length c1_0] 26 (0, 0)) kB y9a.out (by simp)); have n1_ := Aside0.mk (KeepBut.blk hk (g' := n9a) (o := .cells #[.int .i64 0, .slice none 0 0] 31 (0, 0)) kB A9a.out (by simp)); have n2_ := Aside0.mk (Kd.R_mono (Kd.R_keep (IsS90.apart (show IsS90 w0 _ g s0_0 t338 t339 from iS HI0) (rr G9a) (by decide)) hk (fun _ h => h.2)) (fun _ h => h.1)); have n3_ := Aside0.mk (KeepBut.blk hk (g' := j9a) (o := .cells #[.int .i64 t337, .slice none 0 0] 31 (0, 0)) kB w9a.out (by simp)); have n4_ := Aside0.mk (KeepBut.trans (iK HK) hk (.inl rfl)); have n5_ := Aside0.mk (hb); have n6_ := Aside0.mk (hi); clear e9a g9a G9a d9a HK HB HI0; have e9a := n0_; have g9a := n1_; have G9a := n2_; have d9a := n3_; have HK := n4_; have HB := n5_; have HI0 := n6_; clear n0_ n1_ n2_ n3_ n4_ n5_ n6_; (try clear hb); (try clear hb2); (try clear hk); (try clear hi)))
   go_loopg [6] k (fun kq v6 w' => ∃ (x6_1 : Int) (K9a : Int) (L9a : Int) (k9a : Int) (m9a : List (S86)) (r9a : Value), v6 = .int .i64 x6_1 ∧ Aside0 (spec_l10Memo.l0 kq x6_1 s0_0 K9a L9a l1_0 k9a m9a = some (r1, r2, r3, r4)) ∧ Aside0 (kq ≤ k) ∧ Aside0 (Kd.N k86 86 w' w.heap.size (fun k_ => (w.heap.size ≤ k_) ∧ k_ ≠ p9a ∧ k_ ≠ n9a ∧ k_ ≠ j9a ∧ k_ ≠ g) r9a m9a) ∧ Aside0 (w'.heap[p9a]? = some (.cells #[(.slice A1_0 l1_0.length c1_0)] 26 (0, 0))) ∧ Aside0 (w'.heap[n9a]? = some (.cells #[.int .i64 0, (.slice none 0 0)] 31 (0, 0))) ∧ Aside0 (w'.heap[j9a]? = some (.cells #[.int .i64 k9a, r9a] 31 (0, 0))) ∧ Aside0 (IsS90 w0 w' g s0_0 K9a L9a) ∧ Aside0 (KeepBut w w' g none) ∧ Aside0 (Below w0.heap.size w0 w'))
   case atStart => exact ⟨(t342), (t343), (t344), (t337), (([] : List (S86))), (.slice none 0 0), sR, H', ⟨Nat.le_refl _⟩, ⟨by first | exact Kd.S_nil _ _ _ _ _ | exact Kd.N_nil _ _ _ _ _ | exact Kd.V_nil _ _ _ _ _ | exact Kd.Q_nil _ _ _ _ _ | exact Kd.R_nil _ _ _ _ _⟩, ⟨bb e9a⟩, ⟨bb g9a⟩, ⟨bb d9a⟩, ⟨iS HI0⟩, ⟨iK HK⟩, ⟨iD HB⟩⟩
   case round =>
    clear H'
    obtain ⟨x6_1, K9a, L9a, k9a, m9a, r9a, rfl, HA, HK1, a9a, e9a, g9a, d9a, HI0, HK, HB⟩ := hrel
    cases gk with
    | zero => exact absurd HA.out (by simp [spec_l10Memo.l0])
    | succ k1 =>
     have H := HA.out; clear HA; simp only [spec_l10Memo.l0] at H
     by_cases c24 : x6_1 > 0
     ·rw [if_pos c24] at H
      have c24b0 : decide (0 < x6_1) = true := decide_eq_true c24
      clear c24
      (first | rw [c24b0] | (simp only [i64_w, i32_w]; rw [c24b0]) | skip)
      replace H := Option.bind_eq_some_iff.mp H
      obtain ⟨⟨t345, t346, t347⟩, A250, H⟩ := H
      replace H : ((spec_l1In.f (t345.size : Int) 1 64).bind fun t348 => (if t348 = true then ((spec_l10Recall.f k1 l1_0 k9a m9a t345).bind fun Q9a => (spec_l10Memo.l0 k1 (wrap64 (x6_1 - 1)) s0_0 t346 t347 l1_0 Q9a.1 Q9a.2.1)) else (spec_l10Memo.l0 k1 (wrap64 (x6_1 - 1)) s0_0 t346 t347 l1_0 k9a m9a))) = some (r1, r2, r3, r4) := H
      have A25 := Aside0.mk A250
      clear A250; replace H := Option.bind_eq_some_iff.mp H
      obtain ⟨t348, A260, H⟩ := H
      replace H : (if t348 = true then ((spec_l10Recall.f k1 l1_0 k9a m9a t345).bind fun Q9a => (spec_l10Memo.l0 k1 (wrap64 (x6_1 - 1)) s0_0 t346 t347 l1_0 Q9a.1 Q9a.2.1)) else (spec_l10Memo.l0 k1 (wrap64 (x6_1 - 1)) s0_0 t346 t347 l1_0 k9a m9a)) = some (r1, r2, r3, r4) := H
      have A26 := Aside0.mk A260
      clear A260
      by_cases c27 : t348 = true
      ·subst c27
       have H1 : ((spec_l10Recall.f k1 l1_0 k9a m9a t345).bind fun Q9a => (spec_l10Memo.l0 k1 (wrap64 (x6_1 - 1)) s0_0 t346 t347 l1_0 Q9a.1 Q9a.2.1)) = some (r1, r2, r3, r4) := by rw [if_pos rfl] at H; exact H
       clear H; have H := H1
       clear H1; replace H := Option.bind_eq_some_iff.mp H
       obtain ⟨⟨t349, t350, t353, t356⟩, A280, H⟩ := H
       replace H : (spec_l10Memo.l0 k1 (wrap64 (x6_1 - 1)) s0_0 t346 t347 l1_0 t349 t350) = some (r1, r2, r3, r4) := H
       have A28 := Aside0.mk A280
       clear A280; have H' := Aside0.mk H
       clear H; have hnb29 := E9a.out; have hnc29 := F9a.out; have hnb30 := u9a.out; have hnc30 := B9a.out; have hnb31 := y9a.out; have hnc31 := f9a.out; have hcz32_0 : wr.cell? ⟨p9a, 0, none⟩ = some (.slice A1_0 l1_0.length c1_0) := bc e9a 0
       have hfz32_0 := blk_frozen e9a.out 0
       go_wp2_with (first | ((with_reducible refine gate_callee (f := 78) rfl ?_); refine goesC_ (some 22) Try.func78 #[.pointer (some ⟨g, 0, none⟩), .agg #[.slice A1_0 l1_0.length c1_0], .int .i64 4] ?_; (with_reducible refine (spec_l8Word.calls k1 g s0_0 K9a L9a _ _ l1_0 4 t345 t346 t347 w0 _ ?side1 ?side2 ?side3 ?side4 A25.out).mono ?_); (case side1 => exact iS HI0); (case side2 => exact iD HB); (case side3 => exact Kd.C_foot_step T9a.out (iK HK)); (case side4 => exact U9a.out); rintro e w33 ⟨rfl, hi, hb, hk⟩; refine ⟨_, rfl, ?_⟩; have n0_ := Aside0.mk (Kd.N_mono (Kd.N_keep (Kd.N_mono (ok := fun k_ => (((w.heap.size ≤ k_)) ∧ (k_ ≠ p9a ∧ (k_ ≠ n9a ∧ (k_ ≠ j9a ∧ k_ ≠ g))))) (nX a9a.out) (fun k_ hk_ => (⟨hk_, hk_.2.2.2.2⟩ : _ ∧ k_ ≠ g))) hk (fun _ h => h.2)) (fun _ h => h.1)); have n1_ := Aside0.mk (KeepBut.blk hk (g' := p9a) (o := .cells #[.slice A1_0 l1_0.length c1_0] 26 (0, 0)) kB y9a.out (by simp)); have n2_ := Aside0.mk (KeepBut.blk hk (g' := n9a) (o := .cells #[.int .i64 0, .slice none 0 0] 31 (0, 0)) kB A9a.out (by simp)); have n3_ := Aside0.mk (KeepBut.blk hk (g' := j9a) (o := .cells #[.int .i64 k9a, r9a] 31 (0, 0)) kB w9a.out (by simp)); have n4_ := Aside0.mk (KeepBut.trans (iK HK) hk (.inl rfl)); have n5_ := Aside0.mk (hb); have n6_ := Aside0.mk (hi); clear a9a e9a g9a d9a HK HB HI0; have a9a := n0_; have e9a := n1_; have g9a := n2_; have d9a := n3_; have HK := n4_; have HB := n5_; have HI0 := n6_; clear n0_ n1_ n2_ n3_ n4_ n5_ n6_; (try clear hb); (try clear hb2); (try clear hk); (try clear hi)) | ((with_reducible refine gate_callee (f := 43) rfl ?_); refine goesC_ (some 25) Try.func43 #[.int .i64 (t345.size : Int), .int .i64 1, .int .i64 64] ?_; (with_reducible refine (spec_l1In.calls (t345.size : Int) 1 64 true _ A26.out).mono ?_); rintro e w' ⟨rfl, ⟨nd, rfl⟩⟩; refine ⟨_, rfl, ?_⟩; (try (rw [drewN_self w33]; generalize hq_ : World.drewN w33 _ = w33; have n0_ : Aside0 (Kd.N k86 86 w33 w.heap.size (fun k_ => (w.heap.size ≤ k_) ∧ k_ ≠ g ∧ k_ ≠ p9a ∧ k_ ≠ n9a ∧ k_ ≠ j9a) r9a m9a) := ⟨by rw [← hq_]; exact (nX (Kd.N_mono a9a.out (fun _ hk => ⟨hk.1, ⟨hk.2.2.2.2, ⟨hk.2.1, ⟨hk.2.2.1, hk.2.2.2.1⟩⟩⟩⟩)))⟩; have n1_ : Aside0 (w33.heap[p9a]? = some (.cells #[.slice A1_0 l1_0.length c1_0] 26 (0, 0))) := ⟨by rw [← hq_]; exact kB⟩; have n2_ : Aside0 (w33.heap[n9a]? = some (.cells #[.int .i64 0, .slice none 0 0] 31 (0, 0))) := ⟨by rw [← hq_]; exact kB⟩; have n3_ : Aside0 (w33.heap[j9a]? = some (.cells #[.int .i64 k9a, r9a] 31 (0, 0))) := ⟨by rw [← hq_]; exact kB⟩; have n4_ : Aside0 (IsS90 w0 w33 g s0_0 t346 t347) := ⟨by rw [← hq_]; exact (iS HI0)⟩; have n5_ : Aside0 (KeepBut w w33 g none) := ⟨by rw [← hq_]; exact (iK HK)⟩; have n6_ : Aside0 (Below w0.heap.size w0 w33) := ⟨by rw [← hq_]; exact (iD HB)⟩; clear a9a e9a g9a d9a HI0 HK HB hq_; have a9a := n0_; have e9a := n1_; have g9a := n2_; have d9a := n3_; have HI0 := n4_; have HK := n5_; have HB := n6_; clear n0_ n1_ n2_ n3_ n4_ n5_ n6_)); have hcz34_0 : w33.cell? ⟨p9a, 0, none⟩ = some (.slice A1_0 l1_0.length c1_0) := bc e9a 0; have hfz34_0 := blk_frozen e9a.out 0; have hnb35 := C9a.out; have hnc35 := v9a.out; have hnb36 := w9a.out; have hnc36 := i9a.out; obtain ⟨hcz37_0, hcz37_1⟩ := cs2 d9a; obtain ⟨hfz37_0, hfz37_1⟩ := fs2 d9a; obtain ⟨Ao38, co38, eo38⟩ := Kd.N_slice a9a.out; subst eo38) | ((with_reducible refine gate_callee (f := 45) rfl ?_); refine goesC_ (some 30) Try.func45 #[.agg #[.slice A1_0 l1_0.length c1_0], .agg #[.int .i64 k9a, .slice Ao38 m9a.length co38], .string t345] ?_; (with_reducible refine (spec_l10Recall.calls k1 _ _ l1_0 k9a (fun k_ => ((w.heap.size ≤ k_) ∧ (k_ ≠ g ∧ (k_ ≠ p9a ∧ (k_ ≠ n9a ∧ k_ ≠ j9a))))) _ _ m9a t345 t349 t350 t353 t356 _ ?side1 ?side2 ?side3 A28.out).mono ?_); (case side1 => exact Kd.C_foot_now T9a.out (iK HK)); (case side2 => exact U9a.out); (case side3 => exact Kd.N_V (a9a.out)); rintro e w39 ⟨v351, v354, rfl, ho0, ho1, hb⟩; refine ⟨_, rfl, ?_⟩; have n0_ := Aside0.mk (Kd.N_mono (Kd.N_told (Kd.N_told (Kd.N_old (nX a9a.out) hb) (Kd.N_base ho0)) (Kd.R_base ho1)) (fun _ h_ => h_.1)); have n6_ := Aside0.mk (IsS90.below (iS HI0) hb); have n7_ := Aside0.mk (KeepBut.trans (iK HK) (KeepBut.of_below hb g none) (.inl rfl)); have n8_ := Aside0.mk (below_step (iD HB) hb); have HO352 := Aside0.mk (Kd.N_lower (Kd.N_mono (ok' := fun k_ => (w.heap.size ≤ k_) ∧ some k_ ≠ (v354 : Value).ownBlock ∧ k_ ≠ p9a ∧ k_ ≠ n9a ∧ k_ ≠ j9a ∧ k_ ≠ g) ho0 (fun k_ hk_ => ⟨Or.elim hk_.1 (fun hs_ => hs_.1) (fun hn_ => (Nat.le_trans (keep_size (w := w) (g := g) (row := none) (iK HK)) hn_)), hk_.2, Or.elim hk_.1 (fun hs_ => hs_.2.2.1) (fun hn_ => (Kd.freshB (g := p9a) (o := .cells #[.slice A1_0 l1_0.length c1_0] 26 (0, 0)) kB k_ hn_)), Or.elim hk_.1 (fun hs_ => hs_.2.2.2.1) (fun hn_ => (Kd.freshB (g := n9a) (o := .cells #[.int .i64 0, .slice none 0 0] 31 (0, 0)) kB k_ hn_)), Or.elim hk_.1 (fun hs_ => hs_.2.2.2.2) (fun hn_ => (Kd.freshB (g := j9a) (o := .cells #[.int .i64 k9a, .slice Ao38 m9a.length co38] 31 (0, 0)) kB k_ hn_)), Or.elim hk_.1 (fun hs_ => hs_.2.1) (fun hn_ => (IsS90.fresh (iS HI0) k_ hn_))⟩)) (keep_size (w := w) (g := g) (row := none) (iK HK))); have HO355 := Aside0.mk (Kd.R_lower (Kd.R_newM (M := fun k_ => (w.heap.size ≤ k_)) (Kd.R_mono (ok' := fun k_ => True) ho1 (fun _ hk_ => trivial)) (keep_size (w := w) (g := g) (row := none) (iK HK)) (fun k_ h_ => h_)) (keep_size (w := w) (g := g) (row := none) (iK HK))); replace e9a := bq e9a hb; replace g9a := bq g9a hb; replace d9a := bq d9a hb; clear a9a HI0 HK HB; have a9a := n0_; have HI0 := n6_; have HK := n7_; have HB := n8_; clear n0_ n6_ n7_ n8_; (try clear hb); (try clear hb2); (try clear hk); (try clear hi); obtain ⟨hcz40_0, hcz40_1⟩ := cs2 d9a; obtain ⟨hfz40_0, hfz40_1⟩ := fs2 d9a; obtain ⟨Ao41, co41, eo41⟩ := Kd.N_slice HO352.out; subst eo41))
       go_roundg k1
       case measure => have := HK1.out; omega
       case rel => exact ⟨(wrap64 (x6_1 - 1)), (t346), (t347), (t349), (t350), (.slice Ao41 t350.length co41), sR, H', ⟨by have := HK1.out; omega⟩, ⟨nX (Kd.N_mono (Kd.N_far (p := ⟨j9a, 1, none⟩) (Kd.N_far (p := ⟨j9a, 0, none⟩) (Kd.N_mono HO352.out (fun k_ hk => (⟨hk, hk.2.2.2.2.1⟩ : _ ∧ k_ ≠ j9a))) (fun _ hk => hk.2) (.int .i64 t349)) (fun _ hk => hk.2) (.slice Ao41 t350.length co41)) (fun _ hk => ⟨hk.1.1, ⟨hk.1.2.2.1, ⟨hk.1.2.2.2.1, ⟨hk.1.2.2.2.2.1, hk.1.2.2.2.2.2⟩⟩⟩⟩))⟩, ⟨by (with_reducible repeat first | refine bkN ?_ _ | refine bkD ?_ | refine bkA ?_ _ | refine blk_far ?_ u9a.out _); exact e9a.out⟩, ⟨by (with_reducible repeat first | refine bkN ?_ _ | refine bkD ?_ | refine bkA ?_ _ | refine blk_far ?_ v9a.out _); exact g9a.out⟩, ⟨by (with_reducible repeat first | refine bkN ?_ _ | refine bkD ?_ | refine bkA ?_ _); refine blk_put (cs := #[.int .i64 t349, .slice Ao38 m9a.length co38]) ?_ 1 _ rfl; (with_reducible repeat first | refine bkN ?_ _ | refine bkD ?_ | refine bkA ?_ _); refine blk_put (cs := #[.int .i64 k9a, .slice Ao38 m9a.length co38]) ?_ 0 _ rfl; (with_reducible repeat first | refine bkN ?_ _ | refine bkD ?_ | refine bkA ?_ _); exact d9a.out⟩, ⟨iS HI0⟩, ⟨iK HK⟩, ⟨iD HB⟩⟩
      ·replace c27 := Bool.eq_false_iff.mpr c27
       subst c27
       have H1 : (spec_l10Memo.l0 k1 (wrap64 (x6_1 - 1)) s0_0 t346 t347 l1_0 k9a m9a) = some (r1, r2, r3, r4) := by rw [if_neg (show ¬ (false = true) by decide)] at H; exact H
       clear H; have H := H1
       clear H1; have H' := Aside0.mk H
       clear H; have hnb42 := E9a.out; have hnc42 := F9a.out; have hnb43 := u9a.out; have hnc43 := B9a.out; have hnb44 := y9a.out; have hnc44 := f9a.out; have hcz45_0 : wr.cell? ⟨p9a, 0, none⟩ = some (.slice A1_0 l1_0.length c1_0) := bc e9a 0
       have hfz45_0 := blk_frozen e9a.out 0
       go_wp2_with (first | ((with_reducible refine gate_callee (f := 78) rfl ?_); refine goesC_ (some 22) Try.func78 #[.pointer (some ⟨g, 0, none⟩), .agg #[.slice A1_0 l1_0.length c1_0], .int .i64 4] ?_; (with_reducible refine (spec_l8Word.calls k1 g s0_0 K9a L9a _ _ l1_0 4 t345 t346 t347 w0 _ ?side1 ?side2 ?side3 ?side4 A25.out).mono ?_); (case side1 => exact iS HI0); (case side2 => exact iD HB); (case side3 => exact Kd.C_foot_step T9a.out (iK HK)); (case side4 => exact U9a.out); rintro e w46 ⟨rfl, hi, hb, hk⟩; refine ⟨_, rfl, ?_⟩; have n0_ := Aside0.mk (Kd.N_mono (Kd.N_keep (Kd.N_mono (ok := fun k_ => (((w.heap.size ≤ k_)) ∧ (k_ ≠ p9a ∧ (k_ ≠ n9a ∧ (k_ ≠ j9a ∧ k_ ≠ g))))) (nX a9a.out) (fun k_ hk_ => (⟨hk_, hk_.2.2.2.2⟩ : _ ∧ k_ ≠ g))) hk (fun _ h => h.2)) (fun _ h => h.1)); have n1_ := Aside0.mk (KeepBut.blk hk (g' := p9a) (o := .cells #[.slice A1_0 l1_0.length c1_0] 26 (0, 0)) kB y9a.out (by simp)); have n2_ := Aside0.mk (KeepBut.blk hk (g' := n9a) (o := .cells #[.int .i64 0, .slice none 0 0] 31 (0, 0)) kB A9a.out (by simp)); have n3_ := Aside0.mk (KeepBut.blk hk (g' := j9a) (o := .cells #[.int .i64 k9a, r9a] 31 (0, 0)) kB w9a.out (by simp)); have n4_ := Aside0.mk (KeepBut.trans (iK HK) hk (.inl rfl)); have n5_ := Aside0.mk (hb); have n6_ := Aside0.mk (hi); clear a9a e9a g9a d9a HK HB HI0; have a9a := n0_; have e9a := n1_; have g9a := n2_; have d9a := n3_; have HK := n4_; have HB := n5_; have HI0 := n6_; clear n0_ n1_ n2_ n3_ n4_ n5_ n6_; (try clear hb); (try clear hb2); (try clear hk); (try clear hi)) | ((with_reducible refine gate_callee (f := 43) rfl ?_); refine goesC_ (some 25) Try.func43 #[.int .i64 (t345.size : Int), .int .i64 1, .int .i64 64] ?_; (with_reducible refine (spec_l1In.calls (t345.size : Int) 1 64 false _ A26.out).mono ?_); rintro e w' ⟨rfl, ⟨nd, rfl⟩⟩; refine ⟨_, rfl, ?_⟩))
       go_roundg k1
       case measure => have := HK1.out; omega
       case rel => exact ⟨(wrap64 (x6_1 - 1)), (t346), (t347), (k9a), (m9a), (r9a), sR, H', ⟨by have := HK1.out; omega⟩, ⟨nX a9a.out⟩, ⟨bb e9a⟩, ⟨bb g9a⟩, ⟨bb d9a⟩, ⟨iS HI0⟩, ⟨iK HK⟩, ⟨iD HB⟩⟩
     ·rw [if_neg c24] at H
      have c24b0 : decide (0 < x6_1) = false := decide_eq_false c24
      clear c24
      (first | rw [c24b0] | (simp only [i64_w, i32_w]; rw [c24b0]) | skip)
      have H' := Aside0.mk H
      clear H
      go_wp2
      go_meet
      case rel => exact ⟨_, (K9a), (L9a), (k9a), (m9a), (r9a), H', ⟨by have := HK1.out; first | omega | exact Nat.le_refl _⟩, ⟨nX a9a.out⟩, ⟨bb e9a⟩, ⟨bb g9a⟩, ⟨bb d9a⟩, ⟨iS HI0⟩, ⟨iK HK⟩, ⟨iD HB⟩⟩
  ·replace c21 := Bool.eq_false_iff.mpr c21
   subst c21
   have H1 : (spec_l10Memo.j1 k s0_0 t338 t339 l1_0 t337 ([] : List (S86))) = some (r1, r2, r3, r4) := by rw [if_neg (show ¬ (false = true) by decide)] at H; exact H
   clear H; have H := H1
   clear H1; have H' := Aside0.mk H
   clear H
   go_wp2
   go_meet
   case rel => exact ⟨_, (t338), (t339), (t337), (([] : List (S86))), (.slice none 0 0), H', ⟨by first | omega | exact Nat.le_refl _⟩, ⟨by first | exact Kd.S_nil _ _ _ _ _ | exact Kd.N_nil _ _ _ _ _ | exact Kd.V_nil _ _ _ _ _ | exact Kd.Q_nil _ _ _ _ _ | exact Kd.R_nil _ _ _ _ _⟩, ⟨bb e9a⟩, ⟨bb g9a⟩, ⟨bb d9a⟩, ⟨iS HI0⟩, ⟨iK HK⟩, ⟨iD HB⟩⟩
 case rest =>
  clear HC5; obtain ⟨kq, O9a, P9a, x9a, b9a, r9a, HA, HJ4, a9a, e9a, g9a, d9a, HI0, HK, HB⟩ := hcut
  cases kq with
  | zero => exact absurd HA.out (by simp [spec_l10Memo.j1])
  | succ kj4 =>
   have H := HA.out; clear HA; simp only [spec_l10Memo.j1] at H
   replace H := Option.bind_eq_some_iff.mp H
   obtain ⟨⟨t357, t358, t359⟩, A470, H⟩ := H
   replace H : (if t357 = true then ((spec_l1PickInt.f s0_0 t358 t359 (([(-1), 0, 1, 40, 41] : List Int))).bind fun N9a => (spec_l10Memo.j2 kj4 s0_0 N9a.2.1 N9a.2.2 l1_0 N9a.1 b9a)) else (spec_l10Memo.j2 kj4 s0_0 t358 t359 l1_0 x9a b9a)) = some (r1, r2, r3, r4) := H
   have A47 := Aside0.mk A470
   clear A470; have HC48 := Aside0.mk H
   clear H
   go_upto_if 35 with (first | ((with_reducible refine gate_callee (f := 64) rfl ?_); refine goesC_ (some 35) Try.func64 #[.pointer (some ⟨g, 0, none⟩), .int .i64 10] ?_; (with_reducible refine (spec_l1Once.calls g s0_0 O9a P9a 10 t357 t358 t359 w0 _ ?side1 ?side2 A47.out).mono ?_); (case side1 => exact iS HI0); (case side2 => exact iD HB); rintro e w49 ⟨rfl, hi, hb, hk⟩; refine ⟨_, rfl, ?_⟩; have n0_ := Aside0.mk (Kd.N_mono (Kd.N_keep (Kd.N_mono (ok := fun k_ => (((w.heap.size ≤ k_)) ∧ (k_ ≠ p9a ∧ (k_ ≠ n9a ∧ (k_ ≠ j9a ∧ k_ ≠ g))))) (nX a9a.out) (fun k_ hk_ => (⟨hk_, hk_.2.2.2.2⟩ : _ ∧ k_ ≠ g))) hk (fun _ h => h.2)) (fun _ h => h.1)); have n1_ := Aside0.mk (KeepBut.blk hk (g' := p9a) (o := .cells #[.slice A1_0 l1_0.length c1_0] 26 (0, 0)) kB y9a.out (by simp)); have n2_ := Aside0.mk (KeepBut.blk hk (g' := n9a) (o := .cells #[.int .i64 0, .slice none 0 0] 31 (0, 0)) kB A9a.out (by simp)); have n3_ := Aside0.mk (KeepBut.blk hk (g' := j9a) (o := .cells #[.int .i64 x9a, r9a] 31 (0, 0)) kB w9a.out (by simp)); have n4_ := Aside0.mk (KeepBut.trans (iK HK) hk (.inl rfl)); have n5_ := Aside0.mk (hb); have n6_ := Aside0.mk (hi); clear a9a e9a g9a d9a HK HB HI0; have a9a := n0_; have e9a := n1_; have g9a := n2_; have d9a := n3_; have HK := n4_; have HB := n5_; have HI0 := n6_; clear n0_ n1_ n2_ n3_ n4_ n5_ n6_; (try clear hb); (try clear hb2); (try clear hk); (try clear hi)))
   (try simp only [putL])
   go_cut [] (fun wc => ∃ (kq : Nat) (H9a : Int) (I9a : Int) (c9a : Int), Aside0 (spec_l10Memo.j2 kq s0_0 H9a I9a l1_0 c9a b9a = some (r1, r2, r3, r4)) ∧ Aside0 (kq ≤ kj4) ∧ Aside0 (Kd.N k86 86 wc w.heap.size (fun k_ => (w.heap.size ≤ k_) ∧ k_ ≠ p9a ∧ k_ ≠ n9a ∧ k_ ≠ j9a ∧ k_ ≠ g) r9a b9a) ∧ Aside0 (wc.heap[p9a]? = some (.cells #[(.slice A1_0 l1_0.length c1_0)] 26 (0, 0))) ∧ Aside0 (wc.heap[n9a]? = some (.cells #[.int .i64 0, (.slice none 0 0)] 31 (0, 0))) ∧ Aside0 (wc.heap[j9a]? = some (.cells #[.int .i64 c9a, r9a] 31 (0, 0))) ∧ Aside0 (IsS90 w0 wc g s0_0 H9a I9a) ∧ Aside0 (KeepBut w wc g none) ∧ Aside0 (Below w0.heap.size w0 wc))
   case first =>
    have H := HC48.out; clear HC48
    by_cases c50 : t357 = true
    ·subst c50
     have H1 : ((spec_l1PickInt.f s0_0 t358 t359 (([(-1), 0, 1, 40, 41] : List Int))).bind fun N9a => (spec_l10Memo.j2 kj4 s0_0 N9a.2.1 N9a.2.2 l1_0 N9a.1 b9a)) = some (r1, r2, r3, r4) := by rw [if_pos rfl] at H; exact H
     clear H; have H := H1
     clear H1; obtain ⟨y360, hy360⟩ : ∃ y_ : List Int, y_ = (([(-1), 0, 1, 40, 41] : List Int)) := ⟨_, rfl⟩
     replace H : ((spec_l1PickInt.f s0_0 t358 t359 y360).bind fun N9a => (spec_l10Memo.j2 kj4 s0_0 N9a.2.1 N9a.2.2 l1_0 N9a.1 b9a)) = some (r1, r2, r3, r4) := by first | (rw [hy360]; with_reducible exact H) | (have H2_ := (Option.bind_some _ _).symm.trans H; rw [hy360]; with_reducible exact H2_) | (have H2_ := (Option.bind_some _ _).symm.trans H; with_reducible exact H2_) | with_reducible exact H | (rw [hy360]; exact H) | exact H
     have Ny360 := Aside0.mk hy360
     clear hy360; replace H := Option.bind_eq_some_iff.mp H
     obtain ⟨⟨t363, t364, t365⟩, A510, H⟩ := H
     replace H : (spec_l10Memo.j2 kj4 s0_0 t364 t365 l1_0 t363 b9a) = some (r1, r2, r3, r4) := H
     have A51 := Aside0.mk A510
     clear A510; have H' := Aside0.mk H
     clear H
     go_wp2_with (first | ((with_reducible refine gate_dst (N := 37) rfl ?_); refine Kd.R_lit (Kd.int .i64) _ 3 ?hg (N := 37) ?hd (xs := ([(-1), 0, 1, 40, 41] : List Int)) (inner := [.int .i64 (-1), .int .i64 0, .int .i64 1, .int .i64 40, .int .i64 41]) (ok := fun _ => True) (okp := fun _ => True) ?hr ?hp (fun _ hk => hk) trivial (Below.refl _ _) (Nat.le_refl _) (by simp) ?_; (case hd => rfl); (case hg => rfl); (case hr => first | (go_simp; done) | (go_simp; rfl)); (case hp => exact (Reps.one (show Kd.M (Kd.int .i64) _ _ _ (-1) [.int .i64 (-1)] from rfl) (Reps.one (show Kd.M (Kd.int .i64) _ _ _ 0 [.int .i64 0] from rfl) (Reps.one (show Kd.M (Kd.int .i64) _ _ _ 1 [.int .i64 1] from rfl) (Reps.one (show Kd.M (Kd.int .i64) _ _ _ 40 [.int .i64 40] from rfl) (Reps.one (show Kd.M (Kd.int .i64) _ _ _ 41 [.int .i64 41] from rfl) (Reps.none _ _))))))); intro v361 w52 ho53 hb hg_ hnew_; clear hg_ hnew_; (first | rw [← Ny360.out] at ho53 | (simp only [Int.reduceToNat] at ho53; rw [← Ny360.out] at ho53)); have n0_ := Aside0.mk (Kd.N_elder' (nX a9a.out) (Kd.R_base ho53) hb); have n5_ := Aside0.mk (IsS90.below (iS HI0) hb); have n6_ := Aside0.mk (KeepBut.trans (iK HK) (KeepBut.of_below hb g none) (.inl rfl)); have n7_ := Aside0.mk (below_step (iD HB) hb); have R9a := Aside0.mk (Kd.R_lower (Kd.R_newM (M := fun k_ => (w.heap.size ≤ k_)) ho53 (keep_size (w := w) (g := g) (row := none) (iK HK)) (fun k_ h_ => h_)) (keep_size (w := w) (g := g) (row := none) (iK HK))); replace e9a := bq e9a hb; replace g9a := bq g9a hb; replace d9a := bq d9a hb; clear a9a HI0 HK HB; have a9a := n0_; have HI0 := n5_; have HK := n6_; have HB := n7_; clear n0_ n5_ n6_ n7_; clear hb ho53; obtain ⟨Ao54, co54, eo54⟩ := Kd.R_slice R9a.out; subst eo54) | ((with_reducible refine gate_callee (f := 66) rfl ?_); refine goesC_ (some 38) Try.func66 #[.pointer (some ⟨g, 0, none⟩), .slice Ao54 y360.length co54] ?_; (with_reducible refine (spec_l1PickInt.calls g s0_0 t358 t359 _ _ y360 t363 t364 t365 w0 _ ?side1 ?side2 ?side3 ?side4 ?side5 A51.out).mono ?_); (case side1 => exact iS HI0); (case side2 => exact iD HB); (case side3 => exact cX ((Kd.R_reads' R9a.out).2.2)); (case side4 => exact (Kd.R_reads' R9a.out).2.1); (case side5 => exact far_slice (IsS90.own_ne HI0.out R9a.out (by decide))); rintro e w55 ⟨rfl, hi, hb, hk⟩; refine ⟨_, rfl, ?_⟩; have n0_ := Aside0.mk (Kd.N_mono (Kd.N_keep (Kd.N_mono (ok := fun k_ => ((((w.heap.size ≤ k_)) ∧ (k_ ≠ p9a ∧ (k_ ≠ n9a ∧ (k_ ≠ j9a ∧ k_ ≠ g)))) ∧ some k_ ≠ (.slice Ao54 y360.length co54 : Value).ownBlock)) (nX a9a.out) (fun k_ hk_ => (⟨hk_, hk_.1.2.2.2.2⟩ : _ ∧ k_ ≠ g))) hk (fun _ h => h.2)) (fun _ h => h.1)); have n1_ := Aside0.mk (KeepBut.blk hk (g' := p9a) (o := .cells #[.slice A1_0 l1_0.length c1_0] 26 (0, 0)) kB y9a.out (by simp)); have n2_ := Aside0.mk (KeepBut.blk hk (g' := n9a) (o := .cells #[.int .i64 0, .slice none 0 0] 31 (0, 0)) kB A9a.out (by simp)); have n3_ := Aside0.mk (KeepBut.blk hk (g' := j9a) (o := .cells #[.int .i64 x9a, r9a] 31 (0, 0)) kB w9a.out (by simp)); have n4_ := Aside0.mk (Kd.R_mono (Kd.R_keep (IsS90.apart (show IsS90 w0 _ g s0_0 t358 t359 from iS HI0) (rr R9a) (by decide)) hk (fun _ h => h.2)) (fun _ h => h.1)); have n5_ := Aside0.mk (KeepBut.trans (iK HK) hk (.inl rfl)); have n6_ := Aside0.mk (hb); have n7_ := Aside0.mk (hi); clear a9a e9a g9a d9a R9a HK HB HI0; have a9a := n0_; have e9a := n1_; have g9a := n2_; have d9a := n3_; have R9a := n4_; have HK := n5_; have HB := n6_; have HI0 := n7_; clear n0_ n1_ n2_ n3_ n4_ n5_ n6_ n7_; (try clear hb); (try clear hb2); (try clear hk); (try clear hi); have hnb56 := B9a.out; have hnc56 := u9a.out; have hnb57 := C9a.out; have hnc57 := v9a.out; have hnb58 := w9a.out; have hnc58 := i9a.out; obtain ⟨hcz59_0, hcz59_1⟩ := cs2 d9a; obtain ⟨hfz59_0, hfz59_1⟩ := fs2 d9a))
     go_meet
     case rel => exact ⟨_, (t364), (t365), (t363), H', ⟨by have := HJ4.out; first | omega | exact Nat.le_refl _⟩, ⟨nX (Kd.N_mono (Kd.N_far (p := ⟨j9a, 0, none⟩) (Kd.N_mono a9a.out (fun k_ hk => (⟨hk, hk.1.2.2.2.1⟩ : _ ∧ k_ ≠ j9a))) (fun _ hk => hk.2) (.int .i64 t363)) (fun _ hk => ⟨hk.1.1.1, ⟨hk.1.1.2.1, ⟨hk.1.1.2.2.1, ⟨hk.1.1.2.2.2.1, hk.1.1.2.2.2.2⟩⟩⟩⟩))⟩, ⟨by (with_reducible repeat first | refine bkN ?_ _ | refine bkD ?_ | refine bkA ?_ _ | refine blk_far ?_ u9a.out _); exact e9a.out⟩, ⟨by (with_reducible repeat first | refine bkN ?_ _ | refine bkD ?_ | refine bkA ?_ _ | refine blk_far ?_ v9a.out _); exact g9a.out⟩, ⟨by (with_reducible repeat first | refine bkN ?_ _ | refine bkD ?_ | refine bkA ?_ _); refine blk_put (cs := #[.int .i64 x9a, r9a]) ?_ 0 _ rfl; (with_reducible repeat first | refine bkN ?_ _ | refine bkD ?_ | refine bkA ?_ _); exact d9a.out⟩, ⟨iS HI0⟩, ⟨iK HK⟩, ⟨iD HB⟩⟩
    ·replace c50 := Bool.eq_false_iff.mpr c50
     subst c50
     have H1 : (spec_l10Memo.j2 kj4 s0_0 t358 t359 l1_0 x9a b9a) = some (r1, r2, r3, r4) := by rw [if_neg (show ¬ (false = true) by decide)] at H; exact H
     clear H; have H := H1
     clear H1; have H' := Aside0.mk H
     clear H
     go_wp2
     go_meet
     case rel => exact ⟨_, (t358), (t359), (x9a), H', ⟨by have := HJ4.out; first | omega | exact Nat.le_refl _⟩, ⟨nX a9a.out⟩, ⟨bb e9a⟩, ⟨bb g9a⟩, ⟨bb d9a⟩, ⟨iS HI0⟩, ⟨iK HK⟩, ⟨iD HB⟩⟩
   case rest =>
    clear HC48; obtain ⟨kq, H9a, I9a, c9a, HA, HJ47, a9a, e9a, g9a, d9a, HI0, HK, HB⟩ := hcut
    cases kq with
    | zero => exact absurd HA.out (by simp [spec_l10Memo.j2])
    | succ kj47 =>
     have H := HA.out; clear HA; simp only [spec_l10Memo.j2] at H
     replace H := Option.bind_eq_some_iff.mp H
     obtain ⟨⟨t366, t367, t368⟩, A600, H⟩ := H
     replace H : (if t366 = true then ((spec_l8Word.f kj47 s0_0 t367 t368 l1_0 2).bind fun S9a => (if b9a.length < 3518437208883 then (some (c9a, (b9a ++ [(⟨S9a.1, (([97] : List Int))⟩ : S86)]), S9a.2.1, S9a.2.2)) else (none))) else (some (c9a, b9a, t367, t368))) = some (r1, r2, r3, r4) := H
     have A60 := Aside0.mk A600
     clear A600
     by_cases c61 : t366 = true
     ·subst c61
      have H1 : ((spec_l8Word.f kj47 s0_0 t367 t368 l1_0 2).bind fun S9a => (if b9a.length < 3518437208883 then (some (c9a, (b9a ++ [(⟨S9a.1, (([97] : List Int))⟩ : S86)]), S9a.2.1, S9a.2.2)) else (none))) = some (r1, r2, r3, r4) := by rw [if_pos rfl] at H; exact H
      clear H; have H := H1
      clear H1; replace H := Option.bind_eq_some_iff.mp H
      obtain ⟨⟨t369, t370, t371⟩, A620, H⟩ := H
      replace H : (if b9a.length < 3518437208883 then (some (c9a, (b9a ++ [(⟨t369, (([97] : List Int))⟩ : S86)]), t370, t371)) else (none)) = some (r1, r2, r3, r4) := H
      have A62 := Aside0.mk A620
      clear A620; obtain ⟨y372, hy372⟩ : ∃ y_ : List Int, y_ = (([97] : List Int)) := ⟨_, rfl⟩
      replace H : (if b9a.length < 3518437208883 then (some (c9a, (b9a ++ [(⟨t369, y372⟩ : S86)]), t370, t371)) else (none)) = some (r1, r2, r3, r4) := by first | (rw [hy372]; with_reducible exact H) | (have H2_ := (Option.bind_some _ _).symm.trans H; rw [hy372]; with_reducible exact H2_) | (have H2_ := (Option.bind_some _ _).symm.trans H; with_reducible exact H2_) | with_reducible exact H | (rw [hy372]; exact H) | exact H
      have Ny372 := Aside0.mk hy372
      clear hy372
      by_cases c63 : b9a.length < 3518437208883
      ·rw [if_pos c63] at H
       have LMc63 := Aside0.mk c63
       clear c63; obtain ⟨y375, hy375⟩ : ∃ y_ : List (S86), y_ = (b9a ++ [(⟨t369, y372⟩ : S86)]) := ⟨_, rfl⟩
       replace H : (some (c9a, y375, t370, t371)) = some (r1, r2, r3, r4) := by first | (rw [hy375]; with_reducible exact H) | (have H2_ := (Option.bind_some _ _).symm.trans H; rw [hy375]; with_reducible exact H2_) | (have H2_ := (Option.bind_some _ _).symm.trans H; with_reducible exact H2_) | with_reducible exact H | (rw [hy375]; exact H) | exact H
       have Ny375 := Aside0.mk hy375
       clear hy375; simp only [Option.some.injEq, Prod.mk.injEq] at H
       obtain ⟨rfl, rfl, rfl, rfl⟩ := H
       try go_wp2_with (first | ((with_reducible refine gate_callee (f := 64) rfl ?_); refine goesC_ (some 41) Try.func64 #[.pointer (some ⟨g, 0, none⟩), .int .i64 10] ?_; (with_reducible refine (spec_l1Once.calls g s0_0 H9a I9a 10 true t367 t368 w0 _ ?side1 ?side2 A60.out).mono ?_); (case side1 => exact iS HI0); (case side2 => exact iD HB); rintro e w64 ⟨rfl, hi, hb, hk⟩; refine ⟨_, rfl, ?_⟩; have n0_ := Aside0.mk (Kd.N_mono (Kd.N_keep (Kd.N_mono (ok := fun k_ => (((w.heap.size ≤ k_)) ∧ (k_ ≠ p9a ∧ (k_ ≠ n9a ∧ (k_ ≠ j9a ∧ k_ ≠ g))))) (nX a9a.out) (fun k_ hk_ => (⟨hk_, hk_.2.2.2.2⟩ : _ ∧ k_ ≠ g))) hk (fun _ h => h.2)) (fun _ h => h.1)); have n1_ := Aside0.mk (KeepBut.blk hk (g' := p9a) (o := .cells #[.slice A1_0 l1_0.length c1_0] 26 (0, 0)) kB y9a.out (by simp)); have n2_ := Aside0.mk (KeepBut.blk hk (g' := n9a) (o := .cells #[.int .i64 0, .slice none 0 0] 31 (0, 0)) kB A9a.out (by simp)); have n3_ := Aside0.mk (KeepBut.blk hk (g' := j9a) (o := .cells #[.int .i64 c9a, r9a] 31 (0, 0)) kB w9a.out (by simp)); have n4_ := Aside0.mk (KeepBut.trans (iK HK) hk (.inl rfl)); have n5_ := Aside0.mk (hb); have n6_ := Aside0.mk (hi); clear a9a e9a g9a d9a HK HB HI0; have a9a := n0_; have e9a := n1_; have g9a := n2_; have d9a := n3_; have HK := n4_; have HB := n5_; have HI0 := n6_; clear n0_ n1_ n2_ n3_ n4_ n5_ n6_; (try clear hb); (try clear hb2); (try clear hk); (try clear hi); obtain ⟨Ao65, co65, eo65⟩ := Kd.N_slice a9a.out; subst eo65))
       have n0_ := Aside0.mk (Kd.N_drew a9a.out)
       have n1_ := Aside0.mk (blk_drew e9a.out)
       have n2_ := Aside0.mk (blk_drew g9a.out)
       have n3_ := Aside0.mk (blk_drew d9a.out)
       have n4_ := Aside0.mk (IsS90.drew HI0.out)
       have n5_ := Aside0.mk (keep_drew HK.out)
       have n6_ := Aside0.mk (below_drew1 HB.out)
       clear a9a e9a g9a d9a HI0 HK HB; have a9a := n0_; have e9a := n1_; have g9a := n2_; have d9a := n3_; have HI0 := n4_; have HK := n5_; have HB := n6_; clear n0_ n1_ n2_ n3_ n4_ n5_ n6_; refine start_ (n := 11) (S := fun w' => w'.cell? ⟨j9a, 0, none⟩ = some (.int .i64 c9a) ∧ w'.cell? ⟨j9a, 1, none⟩ = some (.slice Ao65 b9a.length co65) ∧ w'.cell? ⟨p9a, 0, none⟩ = some (.slice A1_0 l1_0.length c1_0)) (ds := [10]) #[ff,ff,ff,ff,ff,ff,ff,ff,ff,ff,ff] (by kernel_rfl) rfl rfl ⟨bc d9a 0, bc d9a 1, bc e9a 0⟩ (fun hHeld => ?_); refine with_tabW spec_l10Memo.tab12 spec_l10Memo.bits12 (fun HT_ HW_ => ?_)
       generalize w64.drew = w66 at a9a e9a g9a d9a HI0 HK HB hHeld ⊢
       refine pu 0 42 (tb 11 1) HT_ ?_
       refine pu 2 44 (tb 11 5) HT_ ?_
       refine tk 1 43 (tb 11 7) rfl rfl HT_ HW_ hHeld (by rintro w' ⟨s0, s1, s2⟩; go_simp; with_reducible rfl) ?_
       refine tk 3 45 (tb 11 15) rfl rfl HT_ HW_ hHeld (by rintro w' ⟨s0, s1, s2⟩; go_simp; with_reducible rfl) ?_
       refine join_ (σ := Value) 5 #[tt,tt,tt,tt,tt,tt,ff,ff,ff,ff,ff] (fun s_ => [(46, .string t369), (47, s_)]) (fun s_ w' => (w'.cell? ⟨j9a, 0, none⟩ = some (.int .i64 c9a) ∧ w'.cell? ⟨j9a, 1, none⟩ = some (.slice Ao65 b9a.length co65) ∧ w'.cell? ⟨p9a, 0, none⟩ = some (.slice A1_0 l1_0.length c1_0)) ∧ (Kd.R (Kd.int .i64) 3 w' w.heap.size (fun k_ => (w.heap.size ≤ k_)) s_ y372) ∧ (Kd.N k86 86 w' w.heap.size (fun k_ => (w.heap.size ≤ k_) ∧ some k_ ≠ (s_ : Value).ownBlock ∧ k_ ≠ g ∧ k_ ≠ p9a ∧ k_ ≠ n9a ∧ k_ ≠ j9a) (.slice Ao65 b9a.length co65) b9a) ∧ (w'.heap[p9a]? = some (.cells #[.slice A1_0 l1_0.length c1_0] 26 (0, 0))) ∧ (w'.heap[n9a]? = some (.cells #[.int .i64 0, .slice none 0 0] 31 (0, 0))) ∧ (w'.heap[j9a]? = some (.cells #[.int .i64 c9a, .slice Ao65 b9a.length co65] 31 (0, 0))) ∧ (IsS90 w0 w' g s0_0 t370 t371) ∧ (KeepBut w w' g none) ∧ (Below w0.heap.size w0 w')) ?_ ?_
       rotate_left
       ·intro hCont; refine two_ (i := 4) (j := 5) (Ni := some 46) (Nj := some 47) #[tt,tt,tt,tt,tt,ff,ff,ff,ff,ff,ff] #[tt,tt,tt,tt,ff,tt,ff,ff,ff,ff,ff] rfl rfl rfl rfl (two_of HT_.out (by kernel_rfl)) (by decide) (by decide) (fun K hK => ?_) (fun K hK => ?_)
        ·skip
         refine goes_ Try.func78 (by kernel_rfl) rfl #[.pointer (some ⟨g, 0, none⟩), .agg #[.slice A1_0 l1_0.length c1_0], .int .i64 2] (by rfl) rfl rfl (by (try simp only [List.map_toArray, List.map_cons, List.map_nil]); first | done | rfl | (simp only [List.length_drop, List.length_take]; rfl)) ?_
         with_reducible refine (spec_l8Word.calls kj47 g s0_0 t367 t368 _ _ l1_0 2 t369 t370 t371 w0 _ ?side1 ?side2 ?side3 ?side4 A62.out).mono ?_
         (case side1 => exact iS HI0)
         (case side2 => exact iD HB)
         (case side3 => exact Kd.C_foot_step T9a.out (iK HK))
         (case side4 => exact U9a.out)
         rintro e w67 ⟨rfl, hi, hb, hk⟩
         refine ⟨_, rfl, ?_⟩
         have n0_ := Aside0.mk (Kd.N_mono (Kd.N_keep (Kd.N_mono (ok := fun k_ => (((w.heap.size ≤ k_)) ∧ (k_ ≠ p9a ∧ (k_ ≠ n9a ∧ (k_ ≠ j9a ∧ k_ ≠ g))))) (nX a9a.out) (fun k_ hk_ => (⟨hk_, hk_.2.2.2.2⟩ : _ ∧ k_ ≠ g))) hk (fun _ h => h.2)) (fun _ h => h.1))
         have n1_ := Aside0.mk (KeepBut.blk hk (g' := p9a) (o := .cells #[.slice A1_0 l1_0.length c1_0] 26 (0, 0)) kB y9a.out (by simp))
         have n2_ := Aside0.mk (KeepBut.blk hk (g' := n9a) (o := .cells #[.int .i64 0, .slice none 0 0] 31 (0, 0)) kB A9a.out (by simp))
         have n3_ := Aside0.mk (KeepBut.blk hk (g' := j9a) (o := .cells #[.int .i64 c9a, .slice Ao65 b9a.length co65] 31 (0, 0)) kB w9a.out (by simp))
         have n4_ := Aside0.mk (KeepBut.trans (iK HK) hk (.inl rfl))
         have n5_ := Aside0.mk (hb)
         have n6_ := Aside0.mk (hi)
         clear a9a e9a g9a d9a HK HB HI0; have a9a := n0_; have e9a := n1_; have g9a := n2_; have d9a := n3_; have HK := n4_; have HB := n5_; have HI0 := n6_; clear n0_ n1_ n2_ n3_ n4_ n5_ n6_; (try clear hb); (try clear hb2); (try clear hk); (try clear hi); refine hK.out _ _ ⟨bc d9a 0, bc d9a 1, bc e9a 0⟩ (fun hHeld => ?_)
         clear hK K; refine norm_ (a' := ?_) ?_ ?_
         rotate_left
         ·show Act.put _ (some 46) _ = _
          simp only [putL, i64_w, i32_w]; rfl
         refine one_ (i := 5) (N := some 47) #[tt,tt,tt,tt,tt,tt,ff,ff,ff,ff,ff] rfl rfl (one_of HT_.out (by kernel_rfl)) (by decide) (fun K hK => ?_)
         refine Kd.R_lit_step (Kd.int .i64) _ 3 ?hg (N := 47) ?hd (xs := ([97] : List Int)) (inner := [.int .i64 97]) (ok := fun _ => True) (okp := fun _ => True) ?hr ?hp (fun _ hk => hk) trivial (Below.refl _ _) (Nat.le_refl _) (by simp) ?_; (case hd => rfl); (case hg => rfl); (case hr => first | (go_simp; done) | (go_simp; rfl)); (case hp => exact (Reps.one (show Kd.M (Kd.int .i64) _ _ _ 97 [.int .i64 97] from rfl) (Reps.none _ _)))
         intro v373 w68 ho69 hb hg_ hnew_
         clear hg_ hnew_
         (first | rw [← Ny372.out] at ho69 | (simp only [Int.reduceToNat] at ho69; rw [← Ny372.out] at ho69))
         have n0_ := Aside0.mk (Kd.N_elder' (nX a9a.out) (Kd.R_base ho69) hb)
         have n5_ := Aside0.mk (IsS90.below (iS HI0) hb)
         have n6_ := Aside0.mk (KeepBut.trans (iK HK) (KeepBut.of_below hb g none) (.inl rfl))
         have n7_ := Aside0.mk (below_step (iD HB) hb)
         have M9a := Aside0.mk (Kd.R_lower (Kd.R_newM (M := fun k_ => (w.heap.size ≤ k_)) ho69 (keep_size (w := w) (g := g) (row := none) (iK HK)) (fun k_ h_ => h_)) (keep_size (w := w) (g := g) (row := none) (iK HK)))
         replace e9a := bq e9a hb; replace g9a := bq g9a hb; replace d9a := bq d9a hb; clear a9a HI0 HK HB; have a9a := n0_; have HI0 := n5_; have HK := n6_; have HB := n7_; clear n0_ n5_ n6_ n7_; clear hb ho69; obtain ⟨Ao70, co70, eo70⟩ := Kd.R_slice M9a.out
         (first | subst eo70 | (injection eo70 with f1_ f2_ f3_; have f4_ := f1_.symm; have f5_ := f3_.symm; clear f1_ f2_ f3_; subst f4_; subst f5_))
         refine hK.out _ _ ⟨bc d9a 0, bc d9a 1, bc e9a 0⟩ (fun hHeld => ?_)
         clear hK K; refine norm_ (a' := ?_) ?_ ?_
         rotate_left
         ·show Act.put _ (some 47) _ = _
          simp only [putL, i64_w, i32_w]; rfl
         exact norm_ (by simp only [putAll, putL]) (hCont (.slice Ao70 y372.length co70) _ ⟨hHeld, (rX (Kd.R_mono M9a.out (fun _ hk => hk.1))), (nX (Kd.N_mono a9a.out (fun _ hk => ⟨hk.1.1, ⟨hk.2, ⟨hk.1.2.2.2.2, ⟨hk.1.2.1, ⟨hk.1.2.2.1, hk.1.2.2.2.1⟩⟩⟩⟩⟩))), kB, kB, kB, (iS HI0), (iK HK), (iD HB)⟩)
        ·skip
         refine Kd.R_lit_step (Kd.int .i64) _ 3 ?hg (N := 47) ?hd (xs := ([97] : List Int)) (inner := [.int .i64 97]) (ok := fun _ => True) (okp := fun _ => True) ?hr ?hp (fun _ hk => hk) trivial (Below.refl _ _) (Nat.le_refl _) (by simp) ?_; (case hd => rfl); (case hg => rfl); (case hr => first | (go_simp; done) | (go_simp; rfl)); (case hp => exact (Reps.one (show Kd.M (Kd.int .i64) _ _ _ 97 [.int .i64 97] from rfl) (Reps.none _ _)))
         intro v373 w67 ho68 hb hg_ hnew_
         clear hg_ hnew_
         (first | rw [← Ny372.out] at ho68 | (simp only [Int.reduceToNat] at ho68; rw [← Ny372.out] at ho68))
         have n0_ := Aside0.mk (Kd.N_elder' (nX a9a.out) (Kd.R_base ho68) hb)
         have n5_ := Aside0.mk (IsS90.below (iS HI0) hb)
         have n6_ := Aside0.mk (KeepBut.trans (iK HK) (KeepBut.of_below hb g none) (.inl rfl))
         have n7_ := Aside0.mk (below_step (iD HB) hb)
         have M9a := Aside0.mk (Kd.R_lower (Kd.R_newM (M := fun k_ => (w.heap.size ≤ k_)) ho68 (keep_size (w := w) (g := g) (row := none) (iK HK)) (fun k_ h_ => h_)) (keep_size (w := w) (g := g) (row := none) (iK HK)))
         replace e9a := bq e9a hb; replace g9a := bq g9a hb; replace d9a := bq d9a hb; clear a9a HI0 HK HB; have a9a := n0_; have HI0 := n5_; have HK := n6_; have HB := n7_; clear n0_ n5_ n6_ n7_; clear hb ho68; refine hK.out _ _ ⟨bc d9a 0, bc d9a 1, bc e9a 0⟩ (fun hHeld => ?_)
         clear hK K; refine norm_ (a' := ?_) ?_ ?_
         rotate_left
         ·show Act.put _ (some 47) _ = _
          simp only [putL, i64_w, i32_w]; rfl
         refine one_ (i := 4) (N := some 46) #[tt,tt,tt,tt,tt,tt,ff,ff,ff,ff,ff] rfl rfl (one_of HT_.out (by kernel_rfl)) (by decide) (fun K hK => ?_)
         refine goes_ Try.func78 (by kernel_rfl) rfl #[.pointer (some ⟨g, 0, none⟩), .agg #[.slice A1_0 l1_0.length c1_0], .int .i64 2] (by rfl) rfl rfl (by (try simp only [List.map_toArray, List.map_cons, List.map_nil]); first | done | rfl | (simp only [List.length_drop, List.length_take]; rfl)) ?_
         with_reducible refine (spec_l8Word.calls kj47 g s0_0 t367 t368 _ _ l1_0 2 t369 t370 t371 w0 _ ?side1 ?side2 ?side3 ?side4 A62.out).mono ?_
         (case side1 => exact iS HI0)
         (case side2 => exact iD HB)
         (case side3 => exact Kd.C_foot_step T9a.out (iK HK))
         (case side4 => exact U9a.out)
         rintro e w69 ⟨rfl, hi, hb, hk⟩
         refine ⟨_, rfl, ?_⟩
         have n0_ := Aside0.mk (Kd.N_mono (Kd.N_keep (Kd.N_mono (ok := fun k_ => ((((w.heap.size ≤ k_)) ∧ (k_ ≠ p9a ∧ (k_ ≠ n9a ∧ (k_ ≠ j9a ∧ k_ ≠ g)))) ∧ some k_ ≠ (v373 : Value).ownBlock)) (nX a9a.out) (fun k_ hk_ => (⟨hk_, hk_.1.2.2.2.2⟩ : _ ∧ k_ ≠ g))) hk (fun _ h => h.2)) (fun _ h => h.1))
         have n1_ := Aside0.mk (KeepBut.blk hk (g' := p9a) (o := .cells #[.slice A1_0 l1_0.length c1_0] 26 (0, 0)) kB y9a.out (by simp))
         have n2_ := Aside0.mk (KeepBut.blk hk (g' := n9a) (o := .cells #[.int .i64 0, .slice none 0 0] 31 (0, 0)) kB A9a.out (by simp))
         have n3_ := Aside0.mk (KeepBut.blk hk (g' := j9a) (o := .cells #[.int .i64 c9a, .slice Ao65 b9a.length co65] 31 (0, 0)) kB w9a.out (by simp))
         have n4_ := Aside0.mk (Kd.R_mono (Kd.R_keep (IsS90.apart (show IsS90 w0 _ g s0_0 t367 t368 from iS HI0) (rr M9a) (by decide)) hk (fun _ h => h.2)) (fun _ h => h.1))
         have n5_ := Aside0.mk (KeepBut.trans (iK HK) hk (.inl rfl))
         have n6_ := Aside0.mk (hb)
         have n7_ := Aside0.mk (hi)
         clear a9a e9a g9a d9a M9a HK HB HI0; have a9a := n0_; have e9a := n1_; have g9a := n2_; have d9a := n3_; have M9a := n4_; have HK := n5_; have HB := n6_; have HI0 := n7_; clear n0_ n1_ n2_ n3_ n4_ n5_ n6_ n7_; (try clear hb); (try clear hb2); (try clear hk); (try clear hi); obtain ⟨Ao70, co70, eo70⟩ := Kd.R_slice M9a.out
         (first | subst eo70 | (injection eo70 with f1_ f2_ f3_; have f4_ := f1_.symm; have f5_ := f3_.symm; clear f1_ f2_ f3_; subst f4_; subst f5_))
         refine hK.out _ _ ⟨bc d9a 0, bc d9a 1, bc e9a 0⟩ (fun hHeld => ?_)
         clear hK K; refine norm_ (a' := ?_) ?_ ?_
         rotate_left
         ·show Act.put _ (some 46) _ = _
          simp only [putL, i64_w, i32_w]; rfl
         exact norm_ (by simp only [putAll, putL]) (hCont (.slice Ao70 y372.length co70) _ ⟨hHeld, (rX (Kd.R_mono M9a.out (fun _ hk => hk.1))), (nX (Kd.N_mono a9a.out (fun _ hk => ⟨hk.1.1, ⟨hk.2, ⟨hk.1.2.2.2.2, ⟨hk.1.2.1, ⟨hk.1.2.2.1, hk.1.2.2.2.1⟩⟩⟩⟩⟩))), kB, kB, kB, (iS HI0), (iK HK), (iD HB)⟩)
       rintro v373 w71 ⟨hS_, h0_, h1_, h2_, h3_, h4_, h5_, h6_, h7_⟩
       have n0_ : Aside0 (Kd.R (Kd.int .i64) 3 w71 w.heap.size (fun k_ => (w.heap.size ≤ k_)) v373 y372) := ⟨h0_⟩
       have n1_ : Aside0 (Kd.N k86 86 w71 w.heap.size (fun k_ => (w.heap.size ≤ k_) ∧ some k_ ≠ (v373 : Value).ownBlock ∧ k_ ≠ g ∧ k_ ≠ p9a ∧ k_ ≠ n9a ∧ k_ ≠ j9a) (.slice Ao65 b9a.length co65) b9a) := ⟨h1_⟩
       have n2_ : Aside0 (w71.heap[p9a]? = some (.cells #[.slice A1_0 l1_0.length c1_0] 26 (0, 0))) := ⟨h2_⟩
       have n3_ : Aside0 (w71.heap[n9a]? = some (.cells #[.int .i64 0, .slice none 0 0] 31 (0, 0))) := ⟨h3_⟩
       have n4_ : Aside0 (w71.heap[j9a]? = some (.cells #[.int .i64 c9a, .slice Ao65 b9a.length co65] 31 (0, 0))) := ⟨h4_⟩
       have n5_ : Aside0 (IsS90 w0 w71 g s0_0 t370 t371) := ⟨h5_⟩
       have n6_ : Aside0 (KeepBut w w71 g none) := ⟨h6_⟩
       have n7_ : Aside0 (Below w0.heap.size w0 w71) := ⟨h7_⟩
       clear a9a; clear e9a; clear g9a; clear d9a; clear HI0; clear HK; clear HB; clear h0_ h1_ h2_ h3_ h4_ h5_ h6_ h7_; have M9a := n0_; have a9a := n1_; have e9a := n2_; have g9a := n3_; have d9a := n4_; have HI0 := n5_; have HK := n6_; have HB := n7_; clear n0_ n1_ n2_ n3_ n4_ n5_ n6_ n7_; have hHeld : w71.cell? ⟨j9a, 0, none⟩ = some (.int .i64 c9a) ∧ w71.cell? ⟨j9a, 1, none⟩ = some (.slice Ao65 b9a.length co65) ∧ w71.cell? ⟨p9a, 0, none⟩ = some (.slice A1_0 l1_0.length c1_0) := hS_
       obtain ⟨Ao72, co72, eo72⟩ := Kd.R_slice M9a.out
       (first | subst eo72 | (injection eo72 with f1_ f2_ f3_; have f4_ := f1_.symm; have f5_ := f3_.symm; clear f1_ f2_ f3_; subst f4_; subst f5_))
       refine norm_ (a' := ?_) ?_ ?_
       rotate_left
       ·simp only [putAll, putL]; rfl
       refine pu 6 48 (tb 11 127) HT_ ?_
       refine one_ (i := 7) (N := some 49) #[tt,tt,tt,tt,tt,tt,tt,tt,ff,ff,ff] rfl rfl (one_of HT_.out (by kernel_rfl)) (by decide) (fun K hK => ?_)
       refine value_ (w1 := ?_) (v := ?_) (by rfl) rfl ?_ ?_
       rotate_left 2
       ·go_simp
        constructor
        ·rfl
        ·rfl
       refine hK.out _ _ ⟨(blk_cell (blk_alloc d9a.out _) 0).trans rfl, (blk_cell (blk_alloc d9a.out _) 1).trans rfl, (blk_cell (blk_alloc e9a.out _) 0).trans rfl⟩ (fun hHeld => ?_)
       clear hK K; refine norm_ (a' := ?_) ?_ ?_
       rotate_left
       ·show Act.put _ (some 49) _ = _
        simp only [putL, i64_w, i32_w]; rfl
       refine one_ (i := 8) (N := some 50) #[tt,tt,tt,tt,tt,tt,tt,tt,tt,ff,ff] rfl rfl (one_of HT_.out (by kernel_rfl)) (by decide) (fun K hK => ?_)
       refine Kd.N_append_step k86 w.heap.size (by rfl) (.tmp 43) (.tmp 49) 29 86 (.agg #[(.string ⟨#[]⟩), (.slice none 0 0)]) 40 rfl Try.underlying29 info86 rfl (by decide) (by omega) (.slice Ao65 b9a.length co65) b9a (⟨t369, y372⟩ : S86) [.string t369, .slice Ao72 y372.length co72] (fun k_ => (w.heap.size ≤ k_) ∧ k_ ≠ p9a ∧ k_ ≠ n9a ∧ k_ ≠ j9a ∧ k_ ≠ g) (fun k_ => ((fun k_ => (w.heap.size ≤ k_) ∧ k_ ≠ p9a ∧ k_ ≠ n9a ∧ k_ ≠ j9a ∧ k_ ≠ g)) k_ ∧ some k_ ≠ (.slice Ao65 b9a.length co65 : Value).ownBlock) rfl rfl ?aP (fun _ hk => hk) ?aF ?aO (Below.refl _ _) ?aS ?aL ?_
       (case aP => exact (k86_mkF _ _ (⟨t369, y372⟩ : S86) (Kd.R_reads' (Kd.R_mono (ok' := (fun k_ => ((fun k_ => (w.heap.size ≤ k_) ∧ k_ ≠ p9a ∧ k_ ≠ n9a ∧ k_ ≠ j9a ∧ k_ ≠ g)) k_ ∧ some k_ ≠ (.slice Ao65 b9a.length co65 : Value).ownBlock)) (IsS90.apart HI0.out (Kd.R_types (Kd.R_types (Kd.R_types (Kd.R_apart' (M9a.out) (Kd.N_typed a9a.out) (by decide)) e9a.out (by decide)) g9a.out (by decide)) d9a.out (by decide)) (by decide)) (fun k_ hk => ⟨⟨hk.1.1.1.1.1, ⟨hk.1.1.1.2, ⟨hk.1.1.2, ⟨hk.1.2, hk.2⟩⟩⟩⟩, hk.1.1.1.1.2⟩))).2.1 (Kd.R_F (Kd.R_mono (ok' := (fun k_ => ((fun k_ => (w.heap.size ≤ k_) ∧ k_ ≠ p9a ∧ k_ ≠ n9a ∧ k_ ≠ j9a ∧ k_ ≠ g)) k_ ∧ some k_ ≠ (.slice Ao65 b9a.length co65 : Value).ownBlock)) (IsS90.apart HI0.out (Kd.R_types (Kd.R_types (Kd.R_types (Kd.R_apart' (M9a.out) (Kd.N_typed a9a.out) (by decide)) e9a.out (by decide)) g9a.out (by decide)) d9a.out (by decide)) (by decide)) (fun k_ hk => ⟨⟨hk.1.1.1.1.1, ⟨hk.1.1.1.2, ⟨hk.1.1.2, ⟨hk.1.2, hk.2⟩⟩⟩⟩, hk.1.1.1.1.2⟩)))))
       (case aF => exact (fun k_ hk => ⟨(Nat.le_trans (keep_size (w := w) (g := g) (row := none) (iK HK)) hk), Kd.freshB (g := p9a) (o := .cells #[.slice A1_0 l1_0.length c1_0] 26 (0, 0)) kB k_ hk, Kd.freshB (g := n9a) (o := .cells #[.int .i64 0, .slice none 0 0] 31 (0, 0)) kB k_ hk, Kd.freshB (g := j9a) (o := .cells #[.int .i64 c9a, .slice Ao65 b9a.length co65] 31 (0, 0)) kB k_ hk, IsS90.fresh (iS HI0) k_ hk⟩))
       (case aO => exact (nX (Kd.N_mono a9a.out (fun _ hk => ⟨hk.1, ⟨hk.2.2.2.1, ⟨hk.2.2.2.2.1, ⟨hk.2.2.2.2.2, hk.2.2.1⟩⟩⟩⟩))))
       (case aS => exact (keep_size (w := w) (g := g) (row := none) (iK HK)))
       (case aL => have := LMc63.out; omega)
       intro v376 w73 ho hb hg hat
       rw [← Ny375.out] at ho
       have n0_ := Aside0.mk (blk_grown (g := p9a) (o := .cells #[.slice A1_0 l1_0.length c1_0] 26 (0, 0)) kB hg (Kd.N_ne a9a.out e9a.out (by decide)))
       have n1_ := Aside0.mk (blk_grown (g := n9a) (o := .cells #[.int .i64 0, .slice none 0 0] 31 (0, 0)) kB hg (Kd.N_ne a9a.out g9a.out (by decide)))
       have n2_ := Aside0.mk (blk_grown (g := j9a) (o := .cells #[.int .i64 c9a, .slice Ao65 b9a.length co65] 31 (0, 0)) kB hg (Kd.N_ne a9a.out d9a.out (by decide)))
       have n3_ := Aside0.mk (IsS90.grown (iS HI0) hg (IsS90.own_neN HI0.out a9a.out (by decide)))
       have n4_ := Aside0.mk (below_weaken (iD HB) HL.out hb)
       have n5_ := Aside0.mk (KeepBut.trans (iK HK) (KeepBut.of_grown hg g) (Kd.N_base2 a9a.out))
       have HO377 := Aside0.mk (ho)
       clear a9a M9a e9a g9a d9a HI0 HB HK; have e9a := n0_; have g9a := n1_; have d9a := n2_; have HI0 := n3_; have HB := n4_; have HK := n5_; clear n0_ n1_ n2_ n3_ n4_ n5_; clear ho hb hg hat; obtain ⟨Ao74, co74, eo74⟩ := Kd.N_slice HO377.out
       (first | subst eo74 | (injection eo74 with f1_ f2_ f3_; have f4_ := f1_.symm; have f5_ := f3_.symm; clear f1_ f2_ f3_; subst f4_; subst f5_))
       refine hK.out _ _ ⟨bc d9a 0, bc d9a 1, bc e9a 0⟩ (fun hHeld => ?_)
       clear hK K; refine norm_ (a' := ?_) ?_ ?_
       rotate_left
       ·show Act.put _ (some 50) _ = _
        simp only [putL, i64_w, i32_w]; rfl
       refine pu 9 51 (tb 11 1023) HT_ ?_
       refine last_ (i := 10) (N := none) #[tt,tt,tt,tt,tt,tt,tt,tt,tt,tt,tt] rfl rfl (one_of HT_.out (by kernel_rfl)) (by decide) (fun K hK => ?_)
       have hs75 : w73.cell? ⟨j9a, 1, none⟩ = some (.slice Ao65 b9a.length co65) := bc d9a 1
       have hfs75 := blk_frozen d9a.out 1; have hns75_0 := u9a.out; have hns75_1 := v9a.out; have hms75_0 := B9a.out; have hms75_1 := C9a.out; refine skip_ (w1 := ?_) (by rfl) rfl ?_ ?_
       rotate_left
       ·go_simp; rfl
       refine hK.out _ _ ?_
       clear hK K; refine done_ (done_of HT_.out (by kernel_rfl)) ?_
       have hnb76 := B9a.out; have hnc76 := u9a.out; have hnb77 := C9a.out; have hnc77 := v9a.out; have hnb78 := w9a.out; have hnc78 := i9a.out; obtain ⟨hcz79_0, hcz79_1⟩ := cs2 d9a; obtain ⟨hfz79_0, hfz79_1⟩ := fs2 d9a; have hnb80 := F9a.out; have hnc80 := E9a.out; have hnb81 := A9a.out; have hnc81 := h9a.out; obtain ⟨hcz82_0, hcz82_1⟩ := cs2 g9a; obtain ⟨hfz82_0, hfz82_1⟩ := fs2 g9a
       try go_wp2
       refine bodyPost_ret (results_cell_row rfl _ _ n9a 31 #[.int .i64 c9a, .slice Ao74 y375.length co74] (0, 0) _ rfl (by (with_reducible repeat first | refine bkN ?_ _ | refine bkD ?_ | refine bkA ?_ _); refine blk_put (cs := #[.int .i64 c9a, .slice none 0 0]) ?_ 1 _ rfl; (with_reducible repeat first | refine bkN ?_ _ | refine bkD ?_ | refine bkA ?_ _); refine blk_put (cs := #[.int .i64 0, .slice none 0 0]) ?_ 0 _ rfl; (with_reducible repeat first | refine bkN ?_ _ | refine bkD ?_ | refine bkA ?_ _ | refine blk_far ?_ v9a.out _); exact g9a.out) Try.underlying31 rfl (by kernel_rfl)) rfl ?_
       exact ⟨_, eR, nX (Kd.N_mono (Kd.N_far (p := ⟨n9a, 1, none⟩) (Kd.N_far (p := ⟨n9a, 0, none⟩) (Kd.N_far (p := ⟨j9a, 1, none⟩) (Kd.N_mono (Kd.N_mono HO377.out (fun k_ hk => (⟨hk, hk.2.2.2.1⟩ : _ ∧ k_ ≠ j9a))) (fun k_ hk => (⟨hk, hk.1.2.2.1⟩ : _ ∧ k_ ≠ n9a))) (fun _ hk => hk.1.2) (.slice Ao74 y375.length co74)) (fun _ hk => hk.2) (.int .i64 c9a)) (fun _ hk => hk.2) (.slice Ao74 y375.length co74)) (fun _ hk => hk.1.1.1)), iS HI0, iD HB, iK HK⟩
      ·rw [if_neg c63] at H
       exact absurd H (by simp)
     ·replace c61 := Bool.eq_false_iff.mpr c61
      subst c61
      have H1 : (some (c9a, b9a, t367, t368)) = some (r1, r2, r3, r4) := by rw [if_neg (show ¬ (false = true) by decide)] at H; exact H
      clear H; have H := H1
      clear H1; simp only [Option.some.injEq, Prod.mk.injEq] at H
      obtain ⟨rfl, rfl, rfl, rfl⟩ := H
      go_wp2_with (first | ((with_reducible refine gate_callee (f := 64) rfl ?_); refine goesC_ (some 41) Try.func64 #[.pointer (some ⟨g, 0, none⟩), .int .i64 10] ?_; (with_reducible refine (spec_l1Once.calls g s0_0 H9a I9a 10 false t367 t368 w0 _ ?side1 ?side2 A60.out).mono ?_); (case side1 => exact iS HI0); (case side2 => exact iD HB); rintro e w83 ⟨rfl, hi, hb, hk⟩; refine ⟨_, rfl, ?_⟩; have n0_ := Aside0.mk (Kd.N_mono (Kd.N_keep (Kd.N_mono (ok := fun k_ => (((w.heap.size ≤ k_)) ∧ (k_ ≠ p9a ∧ (k_ ≠ n9a ∧ (k_ ≠ j9a ∧ k_ ≠ g))))) (nX a9a.out) (fun k_ hk_ => (⟨hk_, hk_.2.2.2.2⟩ : _ ∧ k_ ≠ g))) hk (fun _ h => h.2)) (fun _ h => h.1)); have n1_ := Aside0.mk (KeepBut.blk hk (g' := p9a) (o := .cells #[.slice A1_0 l1_0.length c1_0] 26 (0, 0)) kB y9a.out (by simp)); have n2_ := Aside0.mk (KeepBut.blk hk (g' := n9a) (o := .cells #[.int .i64 0, .slice none 0 0] 31 (0, 0)) kB A9a.out (by simp)); have n3_ := Aside0.mk (KeepBut.blk hk (g' := j9a) (o := .cells #[.int .i64 c9a, r9a] 31 (0, 0)) kB w9a.out (by simp)); have n4_ := Aside0.mk (KeepBut.trans (iK HK) hk (.inl rfl)); have n5_ := Aside0.mk (hb); have n6_ := Aside0.mk (hi); clear a9a e9a g9a d9a HK HB HI0; have a9a := n0_; have e9a := n1_; have g9a := n2_; have d9a := n3_; have HK := n4_; have HB := n5_; have HI0 := n6_; clear n0_ n1_ n2_ n3_ n4_ n5_ n6_; (try clear hb); (try clear hb2); (try clear hk); (try clear hi); have hnb84 := B9a.out; have hnc84 := u9a.out; have hnb85 := C9a.out; have hnc85 := v9a.out; have hnb86 := w9a.out; have hnc86 := i9a.out; obtain ⟨hcz87_0, hcz87_1⟩ := cs2 d9a; obtain ⟨hfz87_0, hfz87_1⟩ := fs2 d9a; have hnb88 := F9a.out; have hnc88 := E9a.out; have hnb89 := A9a.out; have hnc89 := h9a.out; obtain ⟨hcz90_0, hcz90_1⟩ := cs2 g9a; obtain ⟨hfz90_0, hfz90_1⟩ := fs2 g9a; obtain ⟨Ao91, co91, eo91⟩ := Kd.N_slice a9a.out; subst eo91))
      refine bodyPost_ret (results_cell_row rfl _ _ n9a 31 #[.int .i64 c9a, .slice Ao91 b9a.length co91] (0, 0) _ rfl (by (with_reducible repeat first | refine bkN ?_ _ | refine bkD ?_ | refine bkA ?_ _); refine blk_put (cs := #[.int .i64 c9a, .slice none 0 0]) ?_ 1 _ rfl; (with_reducible repeat first | refine bkN ?_ _ | refine bkD ?_ | refine bkA ?_ _); refine blk_put (cs := #[.int .i64 0, .slice none 0 0]) ?_ 0 _ rfl; (with_reducible repeat first | refine bkN ?_ _ | refine bkD ?_ | refine bkA ?_ _); exact g9a.out) Try.underlying31 rfl (by kernel_rfl)) rfl ?_
      exact ⟨_, eR, nX (Kd.N_mono (Kd.N_far (p := ⟨n9a, 1, none⟩) (Kd.N_far (p := ⟨n9a, 0, none⟩) (Kd.N_mono a9a.out (fun k_ hk => (⟨hk, hk.2.2.1⟩ : _ ∧ k_ ≠ n9a))) (fun _ hk => hk.2) (.int .i64 c9a)) (fun _ hk => hk.2) (.slice Ao91 b9a.length co91)) (fun _ hk => hk.1.1)), iS HI0, iD HB, iK HK⟩
end Go.Proofs.Ytddebnchbbmbkaa.PFnMemo
