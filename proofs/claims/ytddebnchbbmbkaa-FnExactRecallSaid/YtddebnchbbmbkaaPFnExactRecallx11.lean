-- The machine side of a law: written by a program of this session (wip/tools), a turned print.
import Derived.Test.YtddebnchbbmbkaaPFnExactRecallx0
import Derived.Test.YtddebnchbbmbkaaPFnExactRecallx10
namespace Go.Proofs.Ytddebnchbbmbkaa.PFnExactRecall
open Go.RowKit Go.Proofs.YtddebnchbbmbkaaW.PrintWords Go.Proofs.YtddebnchbbmbkaaW.PrintLast Go.Proofs.YtddebnchbbmbkaaW.PrintMore
attribute [local go_sem] max2_int min2_int max_two min_two max_three min_three max_four min_four   -- for this text's walks alone
set_option linter.unusedVariables false
set_option linter.unusedSimpArgs false
mutual
def spec_l7Table.l0 : Nat → List ByteArray → Int → List (S95) → Option (List ByteArray × Bool)
 | 0, _, _, _ => none
 | k + 1, x4, x5, x198000 => if x5 < (x198000.length : Int) then (if 0 ≤ x5 then ((spec_l1In.f ((rd_T95 x198000 x5).f0) 0 (wrap64 (255 + x5))).bind fun t203 => (if t203 = true then ((spec_l1In.f ((rd_T95 x198000 x5).f1) 0 (wrap64 (255 + x5))).bind fun t204 => (spec_l7Table.j1 k x4 x5 (!t204) x198000 ((rd_T95 x198000 x5).f0) ((rd_T95 x198000 x5).f1))) else (spec_l7Table.j1 k x4 x5 true x198000 ((rd_T95 x198000 x5).f0) ((rd_T95 x198000 x5).f1)))) else (none)) else (some (x4, true))
def spec_l7Table.j1 : Nat → List ByteArray → Int → Bool → List (S95) → Int → Int → Option (List ByteArray × Bool)
 | 0, _, _, _, _, _, _ => none
 | k + 1, x4, x5, x40, x198000, x203000, x203001 => if x40 = true then (some (x4, false)) else ((spec_l7Bytes.f x4 x203000).bind fun t205 => ((spec_l7Bytes.f x4 x203001).bind fun t206 => (if t205.size + t206.size ≤ 9223372036854775807 then (if ((t205 ++ t206).size : Int) > 24 then (some (x4, false)) else (spec_l7Table.l1 k x4 x5 (t205 ++ t206) 0 x198000)) else (none))))
def spec_l7Table.l1 : Nat → List ByteArray → Int → ByteArray → Int → List (S95) → Option (List ByteArray × Bool)
 | 0, _, _, _, _, _ => none
 | k + 1, x4, x5, x7, x8, x198000 => if x8 < x5 then (if 0 ≤ x8 then (if x8 < (x4.length : Int) then (if (rdOf ByteArray.empty x4 x8).toList = x7.toList then (some (x4, false)) else (spec_l7Table.l1 k x4 x5 x7 (wrap64 (x8 + 1)) x198000)) else (none)) else (none)) else (if x4.length < 8796093022208 then (spec_l7Table.l0 k (x4 ++ [x7]) (wrap64 (x5 + 1)) x198000) else (none))
end
def spec_l7Table.f (k : Nat) (l0_0 : List (S95)) : Option (List ByteArray × Bool) := (some (([] : List ByteArray) : List ByteArray)).bind fun y198 => (if (l0_0.length : Int) > 60 then (some (y198, false)) else (spec_l7Table.l0 k y198 0 l0_0))
theorem spec_l7Table.mono_l : ∀ k, (∀ y0 y1 y2, LeO (spec_l7Table.l0 k y0 y1 y2) (spec_l7Table.l0 (k + 1) y0 y1 y2)) ∧ (∀ y0 y1 y2 y3 y4 y5, LeO (spec_l7Table.j1 k y0 y1 y2 y3 y4 y5) (spec_l7Table.j1 (k + 1) y0 y1 y2 y3 y4 y5)) ∧ (∀ y0 y1 y2 y3 y4, LeO (spec_l7Table.l1 k y0 y1 y2 y3 y4) (spec_l7Table.l1 (k + 1) y0 y1 y2 y3 y4))
 | 0 => ⟨fun _ _ _ r h => by simp [spec_l7Table.l0] at h, fun _ _ _ _ _ _ r h => by simp [spec_l7Table.j1] at h, fun _ _ _ _ _ r h => by simp [spec_l7Table.l1] at h⟩
 | k + 1 => by
  obtain ⟨ih0, ih1, ih2⟩ := spec_l7Table.mono_l k
  refine ⟨?_, ?_, ?_⟩
  ·intro y0 y1 y2
   unfold spec_l7Table.l0
   repeat' first
   | (with_reducible exact ih0 _ _ _)
   | (with_reducible exact ih1 _ _ _ _ _ _)
   | (with_reducible exact ih2 _ _ _ _ _)
   | (with_reducible exact LeO.refl _)
   | (with_reducible exact LeO.none _)
   | (with_reducible refine LeO.ite ?_ ?_)
   | (with_reducible refine LeO.bind ?_ (fun _ => ?_))
   | exact ih0 _ _ _
   | exact ih1 _ _ _ _ _ _
   | exact ih2 _ _ _ _ _
   | exact LeO.none _
   | refine LeO.ite ?_ ?_
   | refine LeO.bind ?_ (fun _ => ?_)
  ·intro y0 y1 y2 y3 y4 y5
   unfold spec_l7Table.j1
   repeat' first
   | (with_reducible exact ih0 _ _ _)
   | (with_reducible exact ih1 _ _ _ _ _ _)
   | (with_reducible exact ih2 _ _ _ _ _)
   | (with_reducible exact LeO.refl _)
   | (with_reducible exact LeO.none _)
   | (with_reducible refine LeO.ite ?_ ?_)
   | (with_reducible refine LeO.bind ?_ (fun _ => ?_))
   | exact ih0 _ _ _
   | exact ih1 _ _ _ _ _ _
   | exact ih2 _ _ _ _ _
   | exact LeO.none _
   | refine LeO.ite ?_ ?_
   | refine LeO.bind ?_ (fun _ => ?_)
  ·intro y0 y1 y2 y3 y4
   unfold spec_l7Table.l1
   repeat' first
   | (with_reducible exact ih0 _ _ _)
   | (with_reducible exact ih1 _ _ _ _ _ _)
   | (with_reducible exact ih2 _ _ _ _ _)
   | (with_reducible exact LeO.refl _)
   | (with_reducible exact LeO.none _)
   | (with_reducible refine LeO.ite ?_ ?_)
   | (with_reducible refine LeO.bind ?_ (fun _ => ?_))
   | exact ih0 _ _ _
   | exact ih1 _ _ _ _ _ _
   | exact ih2 _ _ _ _ _
   | exact LeO.none _
   | refine LeO.ite ?_ ?_
   | refine LeO.bind ?_ (fun _ => ?_)
theorem spec_l7Table.mono : ∀ a0 k, LeO (spec_l7Table.f k a0) (spec_l7Table.f (k + 1) a0) := by
 intro a0 k
 obtain ⟨ih0, ih1, ih2⟩ := spec_l7Table.mono_l k
 unfold spec_l7Table.f
 repeat' first
   | (with_reducible exact ih0 _ _ _)
   | (with_reducible exact ih1 _ _ _ _ _ _)
   | (with_reducible exact ih2 _ _ _ _ _)
   | (with_reducible exact LeO.refl _)
   | (with_reducible exact LeO.none _)
   | (with_reducible refine LeO.ite ?_ ?_)
   | (with_reducible refine LeO.bind ?_ (fun _ => ?_))
   | exact ih0 _ _ _
   | exact ih1 _ _ _ _ _ _
   | exact ih2 _ _ _ _ _
   | exact LeO.none _
   | refine LeO.ite ?_ ?_
   | refine LeO.bind ?_ (fun _ => ?_)
def spec_l7Table.T10 : Bool × List (List Nat × List Nat) := (true, [([], []), ([], []), ([1], [1]), ([0, 2], [0, 2]), ([], []), ([], []), ([5], [5]), ([4, 6, 3], [4, 6]), ([3, 7], [3, 7]), ([8, 7, 0, 1, 2, 3, 4, 5, 6, 7, 8], [8])])
def spec_l7Table.B10 : List Nat := [0, 0, 2, 7, 0, 0, 32, 127, 255, 511]
theorem spec_l7Table.tab10 : rtab .any (opsOf Try.f36 10) = spec_l7Table.T10 := by kernel_rfl
theorem spec_l7Table.bits10 : waitsOk spec_l7Table.T10.2 spec_l7Table.B10 = true := by kernel_rfl
set_option maxHeartbeats 8000000 in
set_option maxRecDepth 100000 in
theorem spec_l7Table.calls (k : Nat) (A0_0 : Option Addr) (c0_0 : Nat) (l0_0 : List (S95)) (r1 : List ByteArray) (r2 : Bool) (w : World) (hr0_0 : Kd.C k95 w A0_0 l0_0.length l0_0) (hc0_0 : l0_0.length ≤ c0_0) (h : spec_l7Table.f k l0_0 = some (r1, r2)) :
  Calls Try.prog 36 #[.agg #[.slice A0_0 l0_0.length c0_0]] w fun e w' => ∃ v0_ : Value, e = .returned (.tuple #[v0_, .bool r2]) ∧ Kd.R Kd.string 9 w' w.heap.size (fun _ => True) v0_ r1 ∧ Below w.heap.size w w' := by
 have hu26 := Try.underlying26
 have hu95 := Try.underlying95
 have HR0_0 := Aside0.mk hr0_0
 have HC0_0 := Aside0.mk hc0_0
 clear hr0_0 hc0_0; have HB := Aside0.mk (Below.refl w.heap.size w)
 have H : ((some (([] : List ByteArray) : List ByteArray)).bind fun y198 => (if (l0_0.length : Int) > 60 then (some (y198, false)) else (spec_l7Table.l0 k y198 0 l0_0))) = some (r1, r2) := h
 clear h; obtain ⟨y198, hy198⟩ : ∃ y_ : List ByteArray, y_ = (([] : List ByteArray)) := ⟨_, rfl⟩
 replace H : (if (l0_0.length : Int) > 60 then (some (y198, false)) else (spec_l7Table.l0 k y198 0 l0_0)) = some (r1, r2) := by first | (rw [hy198]; with_reducible exact H) | (have H2_ := (Option.bind_some _ _).symm.trans H; rw [hy198]; with_reducible exact H2_) | (have H2_ := (Option.bind_some _ _).symm.trans H; with_reducible exact H2_) | with_reducible exact H | (rw [hy198]; exact H) | exact H
 have Ny198 := Aside0.mk hy198
 clear hy198
 by_cases c2 : (l0_0.length : Int) > 60
 ·rw [if_pos c2] at H
  have c2b0 : decide (60 < (l0_0.length : Int)) = true := decide_eq_true c2
  have c2b1 : decide (60 < l0_0.length) = true := decide_eq_true (by omega)
  clear c2; simp only [Option.some.injEq, Prod.mk.injEq] at H
  obtain ⟨rfl, rfl⟩ := H
  go_enter Try.func36, Try.ntmps36
  go_wp2_with (first | ((with_reducible refine gate_dst (N := 1) rfl ?_); refine bX 1 #[.slice A0_0 l0_0.length c0_0] 26 ?_; intro g9a hg w3 hbox hb; have a9a := Aside0.mk (hbox); have GW197 := bs HB hg; have d9a := bs HB hg; replace HB := bh HB hb; clear hb hbox hg) | ((with_reducible refine gate_dst (N := 9) rfl ?_); refine Kd.R_lit Kd.string _ 9 ?hg (N := 9) ?hd (xs := ([] : List ByteArray)) (inner := []) (ok := fun _ => True) (okp := fun _ => True) ?hr ?hp (fun _ hk => hk) trivial (Below.refl _ _) (Nat.le_refl _) (by simp) ?_; (case hd => rfl); (case hg => rfl); (case hr => first | (go_simp; done) | (go_simp; rfl)); (case hp => exact (Reps.none _ _)); intro v199 w4 ho5 hb hg_ hnew_; clear hg_ hnew_; (first | rw [← Ny198.out] at ho5 | (simp only [Int.reduceToNat] at ho5; rw [← Ny198.out] at ho5)); have HO200 := Aside0.mk (Kd.R_lower ho5 (below_size (be HB))); replace a9a := bq a9a hb; replace HB := bh HB hb; clear hb ho5; have hcz6_0 : w4.cell? ⟨g9a, 0, none⟩ = some (.slice A0_0 l0_0.length c0_0) := bc a9a 0; have hfz6_0 := blk_frozen a9a.out 0))
  go_ret2
  exact ⟨_, eR, rX HO200.out, iB HB⟩
 ·rw [if_neg c2] at H
  have c2b0 : decide (60 < (l0_0.length : Int)) = false := decide_eq_false c2
  have c2b1 : decide (60 < l0_0.length) = false := decide_eq_false (by omega)
  clear c2; have H' := Aside0.mk H
  clear H
  go_enter Try.func36, Try.ntmps36
  go_wp2_with (first | ((with_reducible refine gate_dst (N := 1) rfl ?_); refine bX 1 #[.slice A0_0 l0_0.length c0_0] 26 ?_; intro g9a hg w7 hbox hb; have a9a := Aside0.mk (hbox); have GW197 := bs HB hg; have d9a := bs HB hg; replace HB := bh HB hb; clear hb hbox hg) | ((with_reducible refine gate_dst (N := 9) rfl ?_); refine Kd.R_lit Kd.string _ 9 ?hg (N := 9) ?hd (xs := ([] : List ByteArray)) (inner := []) (ok := fun _ => True) (okp := fun _ => True) ?hr ?hp (fun _ hk => hk) trivial (Below.refl _ _) (Nat.le_refl _) (by simp) ?_; (case hd => rfl); (case hg => rfl); (case hr => first | (go_simp; done) | (go_simp; rfl)); (case hp => exact (Reps.none _ _)); intro v199 w8 ho9 hb hg_ hnew_; clear hg_ hnew_; (first | rw [← Ny198.out] at ho9 | (simp only [Int.reduceToNat] at ho9; rw [← Ny198.out] at ho9)); have HO200 := Aside0.mk (Kd.R_lower ho9 (below_size (be HB))); replace a9a := bq a9a hb; replace HB := bh HB hb; clear hb ho9; have hcz10_0 : w8.cell? ⟨g9a, 0, none⟩ = some (.slice A0_0 l0_0.length c0_0) := bc a9a 0; have hfz10_0 := blk_frozen a9a.out 0))
  go_loopg [4, 5] k (fun kq v4 v5 w' => ∃ (x4_1 : List ByteArray) (x5_1 : Int), v5 = .int .i64 x5_1 ∧ Aside0 (spec_l7Table.l0 kq x4_1 x5_1 l0_0 = some (r1, r2)) ∧ Aside0 (kq ≤ k) ∧ Aside0 (Kd.R Kd.string 9 w' w.heap.size (fun _ => True) v4 x4_1) ∧ Aside0 (w'.heap[g9a]? = some (.cells #[(.slice A0_0 l0_0.length c0_0)] 26 (0, 0))) ∧ Aside0 (Below w.heap.size w w'))
  case atStart => exact ⟨(y198), (0), sR, H', ⟨Nat.le_refl _⟩, ⟨rr HO200⟩, ⟨bb a9a⟩, ⟨iB HB⟩⟩
  case round =>
   clear H'
   obtain ⟨x4_1, x5_1, rfl, HA, HK1, HO_4, a9a, HB⟩ := hrel
   cases gk with
   | zero => exact absurd HA.out (by simp [spec_l7Table.l0])
   | succ k1 =>
    have H := HA.out; clear HA; simp only [spec_l7Table.l0] at H
    by_cases c11 : x5_1 < (l0_0.length : Int)
    ·rw [if_pos c11] at H
     have c11b0 : decide (x5_1 < (l0_0.length : Int)) = true := decide_eq_true c11
     clear c11
     by_cases c12 : 0 ≤ x5_1
     ·rw [if_pos c12] at H
      have c12b0 : decide (0 ≤ x5_1) = true := decide_eq_true c12
      clear c12; have HC13 := Aside0.mk H
      clear H; have hcz14_0 : wr.cell? ⟨g9a, 0, none⟩ = some (.slice A0_0 l0_0.length c0_0) := bc a9a 0
      have hfz14_0 := blk_frozen a9a.out 0; have p201 : 0 ≤ (x5_1 : Int) := oD
      have q201 : x5_1 < (l0_0.length : Int) := oD
      obtain ⟨ad201, e201, i9a, j9a⟩ := at_T95 HR0_0.out x5_1 p201 q201
      cases e201
      replace i9a := (HB.out.cell (World.block_lt_of_cell? w _ i9a)).trans i9a
      replace j9a := (HB.out.cell (World.block_lt_of_cell? w _ j9a)).trans j9a
      replace p201 := eq_true p201
      replace q201 := eq_true q201
      go_upto_region 8 with (first | ((with_reducible refine gate_dst (N := 6) rfl ?_); refine bX 6 #[.int .i64 0, .int .i64 0] 95 ?_; intro e9a hg w15 hbox hb; have b9a := Aside0.mk (hbox); have GW202 := bs HB hg; have h9a := bs HB hg; have c9a := bl a9a hg; have f9a := bg a9a hg; replace HO_4 := Aside0.mk (Kd.R_below (rr HO_4) hb); replace a9a := bq a9a hb; replace HB := bh HB hb; clear hb hbox hg; have hnb16 := f9a.out; have hnc16 := c9a.out; obtain ⟨hcz17_0, hcz17_1⟩ := cs2 b9a; obtain ⟨hfz17_0, hfz17_1⟩ := fs2 b9a))
      (try simp only [putL])
      go_cut [40] (fun v40 wc => ∃ (kq : Nat) (k9a : Bool), v40 = .bool k9a ∧ Aside0 (spec_l7Table.j1 kq x4_1 x5_1 k9a l0_0 ((rd_T95 l0_0 x5_1).f0) ((rd_T95 l0_0 x5_1).f1) = some (r1, r2)) ∧ Aside0 (kq ≤ k1) ∧ Aside0 (Kd.R Kd.string 9 wc w.heap.size (fun _ => True) u4 x4_1) ∧ Aside0 (wc.heap[g9a]? = some (.cells #[(.slice (some ad201) l0_0.length c0_0)] 26 (0, 0))) ∧ Aside0 (wc.heap[e9a]? = some (.cells #[.int .i64 ((rd_T95 l0_0 x5_1).f0), .int .i64 ((rd_T95 l0_0 x5_1).f1)] 95 (0, 0))) ∧ Aside0 (Below w.heap.size w wc))
      case first =>
       have H := HC13.out; clear HC13; replace H := Option.bind_eq_some_iff.mp H
       obtain ⟨t203, A180, H⟩ := H
       replace H : (if t203 = true then ((spec_l1In.f ((rd_T95 l0_0 x5_1).f1) 0 (wrap64 (255 + x5_1))).bind fun t204 => (spec_l7Table.j1 k1 x4_1 x5_1 (!t204) l0_0 ((rd_T95 l0_0 x5_1).f0) ((rd_T95 l0_0 x5_1).f1))) else (spec_l7Table.j1 k1 x4_1 x5_1 true l0_0 ((rd_T95 l0_0 x5_1).f0) ((rd_T95 l0_0 x5_1).f1))) = some (r1, r2) := H
       have A18 := Aside0.mk A180
       clear A180
       by_cases c19 : t203 = true
       ·subst c19
        have H1 : ((spec_l1In.f ((rd_T95 l0_0 x5_1).f1) 0 (wrap64 (255 + x5_1))).bind fun t204 => (spec_l7Table.j1 k1 x4_1 x5_1 (!t204) l0_0 ((rd_T95 l0_0 x5_1).f0) ((rd_T95 l0_0 x5_1).f1))) = some (r1, r2) := by rw [if_pos rfl] at H; exact H
        clear H; have H := H1
        clear H1; replace H := Option.bind_eq_some_iff.mp H
        obtain ⟨t204, A200, H⟩ := H
        replace H : (spec_l7Table.j1 k1 x4_1 x5_1 (!t204) l0_0 ((rd_T95 l0_0 x5_1).f0) ((rd_T95 l0_0 x5_1).f1)) = some (r1, r2) := H
        have A20 := Aside0.mk A200
        clear A200; have H' := Aside0.mk H
        clear H; have hnb21 := f9a.out; have hnc21 := c9a.out; obtain ⟨hcz22_0, hcz22_1⟩ := cs2 b9a; obtain ⟨hfz22_0, hfz22_1⟩ := fs2 b9a
        go_wp2_with (first | ((with_reducible refine gate_callee (f := 43) rfl ?_); refine goesC_ (some 31) Try.func43 #[.int .i64 ((rd_T95 l0_0 x5_1).f0), .int .i64 0, .int .i64 (wrap64 (255 + x5_1))] ?_; (with_reducible refine (spec_l1In.calls ((rd_T95 l0_0 x5_1).f0) 0 (wrap64 (255 + x5_1)) true _ A18.out).mono ?_); rintro e w' ⟨rfl, ⟨nd, rfl⟩⟩; refine ⟨_, rfl, ?_⟩) | (go_at_call 43; (with_reducible refine (spec_l1In.calls ((rd_T95 l0_0 x5_1).f1) 0 (wrap64 (255 + x5_1)) t204 _ A20.out).mono ?_); rintro e w' ⟨rfl, ⟨nd, rfl⟩⟩))
        go_meet
        case rel => exact ⟨_, (!t204), sR, H', ⟨by have := HK1.out; first | omega | exact Nat.le_refl _⟩, ⟨rX (Kd.R_mono (Kd.R_far (p := ⟨e9a, 1, none⟩) (Kd.R_far (p := ⟨e9a, 0, none⟩) (Kd.R_types HO_4.out b9a.out (by decide)) (fun _ hk => hk.2) (.int .i64 ((rd_T95 l0_0 x5_1).f0))) (fun _ hk => hk.2) (.int .i64 ((rd_T95 l0_0 x5_1).f1))) (fun _ hk => trivial))⟩, ⟨by (with_reducible repeat first | refine bkN ?_ _ | refine bkD ?_ | refine bkA ?_ _ | refine blk_far ?_ c9a.out _); exact a9a.out⟩, ⟨by (with_reducible repeat first | refine bkN ?_ _ | refine bkD ?_ | refine bkA ?_ _); refine blk_put (cs := #[.int .i64 ((rd_T95 l0_0 x5_1).f0), .int .i64 0]) ?_ 1 _ rfl; (with_reducible repeat first | refine bkN ?_ _ | refine bkD ?_ | refine bkA ?_ _); refine blk_put (cs := #[.int .i64 0, .int .i64 0]) ?_ 0 _ rfl; (with_reducible repeat first | refine bkN ?_ _ | refine bkD ?_ | refine bkA ?_ _); exact b9a.out⟩, ⟨iB HB⟩⟩
       ·replace c19 := Bool.eq_false_iff.mpr c19
        subst c19
        have H1 : (spec_l7Table.j1 k1 x4_1 x5_1 true l0_0 ((rd_T95 l0_0 x5_1).f0) ((rd_T95 l0_0 x5_1).f1)) = some (r1, r2) := by rw [if_neg (show ¬ (false = true) by decide)] at H; exact H
        clear H; have H := H1
        clear H1; have H' := Aside0.mk H
        clear H; have hnb23 := f9a.out; have hnc23 := c9a.out; obtain ⟨hcz24_0, hcz24_1⟩ := cs2 b9a; obtain ⟨hfz24_0, hfz24_1⟩ := fs2 b9a
        go_wp2_with (first | ((with_reducible refine gate_callee (f := 43) rfl ?_); refine goesC_ (some 31) Try.func43 #[.int .i64 ((rd_T95 l0_0 x5_1).f0), .int .i64 0, .int .i64 (wrap64 (255 + x5_1))] ?_; (with_reducible refine (spec_l1In.calls ((rd_T95 l0_0 x5_1).f0) 0 (wrap64 (255 + x5_1)) false _ A18.out).mono ?_); rintro e w' ⟨rfl, ⟨nd, rfl⟩⟩; refine ⟨_, rfl, ?_⟩))
        go_meet
        case rel => exact ⟨_, (true), sR, H', ⟨by have := HK1.out; first | omega | exact Nat.le_refl _⟩, ⟨rX (Kd.R_mono (Kd.R_far (p := ⟨e9a, 1, none⟩) (Kd.R_far (p := ⟨e9a, 0, none⟩) (Kd.R_types HO_4.out b9a.out (by decide)) (fun _ hk => hk.2) (.int .i64 ((rd_T95 l0_0 x5_1).f0))) (fun _ hk => hk.2) (.int .i64 ((rd_T95 l0_0 x5_1).f1))) (fun _ hk => trivial))⟩, ⟨by (with_reducible repeat first | refine bkN ?_ _ | refine bkD ?_ | refine bkA ?_ _ | refine blk_far ?_ c9a.out _); exact a9a.out⟩, ⟨by (with_reducible repeat first | refine bkN ?_ _ | refine bkD ?_ | refine bkA ?_ _); refine blk_put (cs := #[.int .i64 ((rd_T95 l0_0 x5_1).f0), .int .i64 0]) ?_ 1 _ rfl; (with_reducible repeat first | refine bkN ?_ _ | refine bkD ?_ | refine bkA ?_ _); refine blk_put (cs := #[.int .i64 0, .int .i64 0]) ?_ 0 _ rfl; (with_reducible repeat first | refine bkN ?_ _ | refine bkD ?_ | refine bkA ?_ _); exact b9a.out⟩, ⟨iB HB⟩⟩
      case rest =>
       clear HC13; obtain ⟨kq, k9a, rfl, HA, HJ12, HO_4, a9a, b9a, HB⟩ := hcut
       cases kq with
       | zero => exact absurd HA.out (by simp [spec_l7Table.j1])
       | succ kj12 =>
        have H := HA.out; clear HA; simp only [spec_l7Table.j1] at H
        by_cases c25 : k9a = true
        ·subst c25
         have H1 : (some (x4_1, false)) = some (r1, r2) := by rw [if_pos rfl] at H; exact H
         clear H; have H := H1
         clear H1; simp only [Option.some.injEq, Prod.mk.injEq] at H
         obtain ⟨rfl, rfl⟩ := H
         go_wp2
         go_ret2
         exact ⟨_, eR, rX HO_4.out, iB HB⟩
        ·replace c25 := Bool.eq_false_iff.mpr c25
         subst c25
         have H1 : ((spec_l7Bytes.f x4_1 ((rd_T95 l0_0 x5_1).f0)).bind fun t205 => ((spec_l7Bytes.f x4_1 ((rd_T95 l0_0 x5_1).f1)).bind fun t206 => (if t205.size + t206.size ≤ 9223372036854775807 then (if ((t205 ++ t206).size : Int) > 24 then (some (x4_1, false)) else (spec_l7Table.l1 kj12 x4_1 x5_1 (t205 ++ t206) 0 l0_0)) else (none)))) = some (r1, r2) := by rw [if_neg (show ¬ (false = true) by decide)] at H; exact H
         clear H; have H := H1
         clear H1; replace H := Option.bind_eq_some_iff.mp H
         obtain ⟨t205, A260, H⟩ := H
         replace H : ((spec_l7Bytes.f x4_1 ((rd_T95 l0_0 x5_1).f1)).bind fun t206 => (if t205.size + t206.size ≤ 9223372036854775807 then (if ((t205 ++ t206).size : Int) > 24 then (some (x4_1, false)) else (spec_l7Table.l1 kj12 x4_1 x5_1 (t205 ++ t206) 0 l0_0)) else (none))) = some (r1, r2) := H
         have A26 := Aside0.mk A260
         clear A260; replace H := Option.bind_eq_some_iff.mp H
         obtain ⟨t206, A270, H⟩ := H
         replace H : (if t205.size + t206.size ≤ 9223372036854775807 then (if ((t205 ++ t206).size : Int) > 24 then (some (x4_1, false)) else (spec_l7Table.l1 kj12 x4_1 x5_1 (t205 ++ t206) 0 l0_0)) else (none)) = some (r1, r2) := H
         have A27 := Aside0.mk A270
         clear A270
         by_cases c28 : t205.size + t206.size ≤ 9223372036854775807
         ·rw [if_pos c28] at H
          have c28b0 := eq_true c28
          have c28b1 : decide (t205.size + t206.size ≤ 9223372036854775807) = true := decide_eq_true c28
          try have c28b2 : (9223372036854775807 < t205.size + t206.size) = False := eq_false (Nat.not_lt.2 c28)
          by_cases c29 : ((t205 ++ t206).size : Int) > 24
          ·rw [if_pos c29] at H
           have c29b0 : decide (24 < ((t205 ++ t206).size : Int)) = true := decide_eq_true c29
           have c29b8 : decide (24 < ((t205.size : Int) + (t206.size : Int))) = true := by have hz_ : ((((t205 ++ t206).size : Nat)) : Int) = (t205.size : Int) + (t206.size : Int) := (by have := ByteArray.size_append (a := t205) (b := t206); omega); rw [← hz_]; exact decide_eq_true c29
           have c29b9 : decide (24 < t205.size + t206.size) = true := by have hz_ : ((((t205 ++ t206).size : Nat)) : Int) = (t205.size : Int) + (t206.size : Int) := (by have := ByteArray.size_append (a := t205) (b := t206); omega); exact decide_eq_true (by omega)
           have c29b1 : decide (24 < (t205 ++ t206).size) = true := decide_eq_true (by omega)
           clear c29; simp only [Option.some.injEq, Prod.mk.injEq] at H
           obtain ⟨rfl, rfl⟩ := H
           try go_wp2
           have n0_ := Aside0.mk (Kd.R_drew HO_4.out)
           have n1_ := Aside0.mk (blk_drew a9a.out)
           have n2_ := Aside0.mk (blk_drew b9a.out)
           have n3_ := Aside0.mk (below_drew1 HB.out)
           clear HO_4 a9a b9a HB; have HO_4 := n0_; have a9a := n1_; have b9a := n2_; have HB := n3_; clear n0_ n1_ n2_ n3_; obtain ⟨Ao31, co31, eo31⟩ := Kd.R_slice HO_4.out
           (first | subst eo31 | (injection eo31 with f1_ f2_ f3_; have f4_ := f1_.symm; have f5_ := f3_.symm; clear f1_ f2_ f3_; subst f4_; subst f5_))
           refine start_ (n := 10) (S := fun w' => w'.cell? ⟨e9a, 0, none⟩ = some (.int .i64 ((rd_T95 l0_0 x5_1).f0)) ∧ w'.cell? ⟨e9a, 1, none⟩ = some (.int .i64 ((rd_T95 l0_0 x5_1).f1))) (ds := []) #[ff,ff,ff,ff,ff,ff,ff,ff,ff,ff] (by kernel_rfl) rfl rfl ⟨bc b9a 0, bc b9a 1⟩ (fun hHeld => ?_); refine with_tabW spec_l7Table.tab10 spec_l7Table.bits10 (fun HT_ HW_ => ?_)
           generalize wc.drew = w30 at HO_4 a9a b9a HB hHeld ⊢
           refine pu 0 42 (tb 10 1) HT_ ?_
           refine pu 1 43 (tb 10 3) HT_ ?_
           refine pu 4 46 (tb 10 19) HT_ ?_
           refine pu 5 47 (tb 10 51) HT_ ?_
           refine tk 2 44 (tb 10 55) rfl rfl HT_ HW_ hHeld (by rintro w' ⟨s0, s1⟩; go_simp; with_reducible rfl) ?_
           refine tk 6 48 (tb 10 119) rfl rfl HT_ HW_ hHeld (by rintro w' ⟨s0, s1⟩; go_simp; with_reducible rfl) ?_
           refine one_ (i := 3) (N := some 45) #[tt,tt,tt,tt,tt,tt,tt,ff,ff,ff] rfl rfl (one_of HT_.out (by kernel_rfl)) (by decide) (fun K hK => ?_)
           refine goes_ Try.func67 (by kernel_rfl) rfl #[.slice Ao31 x4_1.length co31, .int .i64 ((rd_T95 l0_0 x5_1).f0)] (by rfl) rfl rfl (by (try simp only [List.map_toArray, List.map_cons, List.map_nil]); first | done | rfl | (simp only [List.length_drop, List.length_take]; rfl)) ?_
           with_reducible refine (spec_l7Bytes.calls _ _ x4_1 ((rd_T95 l0_0 x5_1).f0) t205 _ ?side1 ?side2 A26.out).mono ?_
           (case side1 => exact cX ((Kd.R_reads' HO_4.out).2.2))
           (case side2 => exact (Kd.R_reads' HO_4.out).2.1)
           rintro e w32 ⟨rfl, hb⟩
           refine ⟨_, rfl, ?_⟩
           replace HO_4 := Aside0.mk (Kd.R_below (rr HO_4) hb); replace a9a := bq a9a hb; replace b9a := bq b9a hb; replace HB := bh HB hb
           (try clear hb); (try clear hb2); (try clear hk); (try clear hi); refine hK.out _ _ ⟨bc b9a 0, bc b9a 1⟩ (fun hHeld => ?_)
           clear hK K; refine norm_ (a' := ?_) ?_ ?_
           rotate_left
           ·show Act.put _ (some 45) _ = _
            simp only [putL, i64_w, i32_w]; rfl
           refine one_ (i := 7) (N := some 49) #[tt,tt,tt,tt,tt,tt,tt,tt,ff,ff] rfl rfl (one_of HT_.out (by kernel_rfl)) (by decide) (fun K hK => ?_)
           refine goes_ Try.func67 (by kernel_rfl) rfl #[.slice Ao31 x4_1.length co31, .int .i64 ((rd_T95 l0_0 x5_1).f1)] (by rfl) rfl rfl (by (try simp only [List.map_toArray, List.map_cons, List.map_nil]); first | done | rfl | (simp only [List.length_drop, List.length_take]; rfl)) ?_
           with_reducible refine (spec_l7Bytes.calls _ _ x4_1 ((rd_T95 l0_0 x5_1).f1) t206 _ ?side1 ?side2 A27.out).mono ?_
           (case side1 => exact cX ((Kd.R_reads' HO_4.out).2.2))
           (case side2 => exact (Kd.R_reads' HO_4.out).2.1)
           rintro e w33 ⟨rfl, hb⟩
           refine ⟨_, rfl, ?_⟩
           replace HO_4 := Aside0.mk (Kd.R_below (rr HO_4) hb); replace a9a := bq a9a hb; replace b9a := bq b9a hb; replace HB := bh HB hb
           (try clear hb); (try clear hb2); (try clear hk); (try clear hi); refine hK.out _ _ ⟨bc b9a 0, bc b9a 1⟩ (fun hHeld => ?_)
           clear hK K; refine norm_ (a' := ?_) ?_ ?_
           rotate_left
           ·show Act.put _ (some 49) _ = _
            simp only [putL, i64_w, i32_w]; rfl
           refine pu 8 50 (tb 10 511) HT_ ?_
           refine pu 9 7 (tb 10 1023) HT_ ?_
           refine done_ (done_of HT_.out (by kernel_rfl)) ?_
           try go_wp2
           go_ret2
           exact ⟨_, eR, rX HO_4.out, iB HB⟩
          ·rw [if_neg c29] at H
           have c29b0 : decide (24 < ((t205 ++ t206).size : Int)) = false := decide_eq_false c29
           have c29b8 : decide (24 < ((t205.size : Int) + (t206.size : Int))) = false := by have hz_ : ((((t205 ++ t206).size : Nat)) : Int) = (t205.size : Int) + (t206.size : Int) := (by have := ByteArray.size_append (a := t205) (b := t206); omega); rw [← hz_]; exact decide_eq_false c29
           have c29b9 : decide (24 < t205.size + t206.size) = false := by have hz_ : ((((t205 ++ t206).size : Nat)) : Int) = (t205.size : Int) + (t206.size : Int) := (by have := ByteArray.size_append (a := t205) (b := t206); omega); exact decide_eq_false (by omega)
           have c29b1 : decide (24 < (t205 ++ t206).size) = false := decide_eq_false (by omega)
           clear c29; have H' := Aside0.mk H
           clear H
           try go_wp2
           have n0_ := Aside0.mk (Kd.R_drew HO_4.out)
           have n1_ := Aside0.mk (blk_drew a9a.out)
           have n2_ := Aside0.mk (blk_drew b9a.out)
           have n3_ := Aside0.mk (below_drew1 HB.out)
           clear HO_4 a9a b9a HB; have HO_4 := n0_; have a9a := n1_; have b9a := n2_; have HB := n3_; clear n0_ n1_ n2_ n3_; obtain ⟨Ao35, co35, eo35⟩ := Kd.R_slice HO_4.out
           (first | subst eo35 | (injection eo35 with f1_ f2_ f3_; have f4_ := f1_.symm; have f5_ := f3_.symm; clear f1_ f2_ f3_; subst f4_; subst f5_))
           refine start_ (n := 10) (S := fun w' => w'.cell? ⟨e9a, 0, none⟩ = some (.int .i64 ((rd_T95 l0_0 x5_1).f0)) ∧ w'.cell? ⟨e9a, 1, none⟩ = some (.int .i64 ((rd_T95 l0_0 x5_1).f1))) (ds := []) #[ff,ff,ff,ff,ff,ff,ff,ff,ff,ff] (by kernel_rfl) rfl rfl ⟨bc b9a 0, bc b9a 1⟩ (fun hHeld => ?_); refine with_tabW spec_l7Table.tab10 spec_l7Table.bits10 (fun HT_ HW_ => ?_)
           generalize wc.drew = w34 at HO_4 a9a b9a HB hHeld ⊢
           refine pu 0 42 (tb 10 1) HT_ ?_
           refine pu 1 43 (tb 10 3) HT_ ?_
           refine pu 4 46 (tb 10 19) HT_ ?_
           refine pu 5 47 (tb 10 51) HT_ ?_
           refine tk 2 44 (tb 10 55) rfl rfl HT_ HW_ hHeld (by rintro w' ⟨s0, s1⟩; go_simp; with_reducible rfl) ?_
           refine tk 6 48 (tb 10 119) rfl rfl HT_ HW_ hHeld (by rintro w' ⟨s0, s1⟩; go_simp; with_reducible rfl) ?_
           refine one_ (i := 3) (N := some 45) #[tt,tt,tt,tt,tt,tt,tt,ff,ff,ff] rfl rfl (one_of HT_.out (by kernel_rfl)) (by decide) (fun K hK => ?_)
           refine goes_ Try.func67 (by kernel_rfl) rfl #[.slice Ao35 x4_1.length co35, .int .i64 ((rd_T95 l0_0 x5_1).f0)] (by rfl) rfl rfl (by (try simp only [List.map_toArray, List.map_cons, List.map_nil]); first | done | rfl | (simp only [List.length_drop, List.length_take]; rfl)) ?_
           with_reducible refine (spec_l7Bytes.calls _ _ x4_1 ((rd_T95 l0_0 x5_1).f0) t205 _ ?side1 ?side2 A26.out).mono ?_
           (case side1 => exact cX ((Kd.R_reads' HO_4.out).2.2))
           (case side2 => exact (Kd.R_reads' HO_4.out).2.1)
           rintro e w36 ⟨rfl, hb⟩
           refine ⟨_, rfl, ?_⟩
           replace HO_4 := Aside0.mk (Kd.R_below (rr HO_4) hb); replace a9a := bq a9a hb; replace b9a := bq b9a hb; replace HB := bh HB hb
           (try clear hb); (try clear hb2); (try clear hk); (try clear hi); refine hK.out _ _ ⟨bc b9a 0, bc b9a 1⟩ (fun hHeld => ?_)
           clear hK K; refine norm_ (a' := ?_) ?_ ?_
           rotate_left
           ·show Act.put _ (some 45) _ = _
            simp only [putL, i64_w, i32_w]; rfl
           refine one_ (i := 7) (N := some 49) #[tt,tt,tt,tt,tt,tt,tt,tt,ff,ff] rfl rfl (one_of HT_.out (by kernel_rfl)) (by decide) (fun K hK => ?_)
           refine goes_ Try.func67 (by kernel_rfl) rfl #[.slice Ao35 x4_1.length co35, .int .i64 ((rd_T95 l0_0 x5_1).f1)] (by rfl) rfl rfl (by (try simp only [List.map_toArray, List.map_cons, List.map_nil]); first | done | rfl | (simp only [List.length_drop, List.length_take]; rfl)) ?_
           with_reducible refine (spec_l7Bytes.calls _ _ x4_1 ((rd_T95 l0_0 x5_1).f1) t206 _ ?side1 ?side2 A27.out).mono ?_
           (case side1 => exact cX ((Kd.R_reads' HO_4.out).2.2))
           (case side2 => exact (Kd.R_reads' HO_4.out).2.1)
           rintro e w37 ⟨rfl, hb⟩
           refine ⟨_, rfl, ?_⟩
           replace HO_4 := Aside0.mk (Kd.R_below (rr HO_4) hb); replace a9a := bq a9a hb; replace b9a := bq b9a hb; replace HB := bh HB hb
           (try clear hb); (try clear hb2); (try clear hk); (try clear hi); refine hK.out _ _ ⟨bc b9a 0, bc b9a 1⟩ (fun hHeld => ?_)
           clear hK K; refine norm_ (a' := ?_) ?_ ?_
           rotate_left
           ·show Act.put _ (some 49) _ = _
            simp only [putL, i64_w, i32_w]; rfl
           refine pu 8 50 (tb 10 511) HT_ ?_
           refine pu 9 7 (tb 10 1023) HT_ ?_
           refine done_ (done_of HT_.out (by kernel_rfl)) ?_
           try go_wp2
           go_loopg [8] kj12 (fun kq v8 w' => ∃ (x8_3 : Int), v8 = .int .i64 x8_3 ∧ Aside0 (spec_l7Table.l1 kq x4_1 x5_1 (t205 ++ t206) x8_3 l0_0 = some (r1, r2)) ∧ Aside0 (kq ≤ kj12) ∧ Aside0 (Kd.R Kd.string 9 w' w.heap.size (fun _ => True) (.slice Ao35 x4_1.length co35) x4_1) ∧ Aside0 (w'.heap[g9a]? = some (.cells #[(.slice (some ad201) l0_0.length c0_0)] 26 (0, 0))) ∧ Aside0 (w'.heap[e9a]? = some (.cells #[.int .i64 ((rd_T95 l0_0 x5_1).f0), .int .i64 ((rd_T95 l0_0 x5_1).f1)] 95 (0, 0))) ∧ Aside0 (Below w.heap.size w w'))
           case atStart => exact ⟨(0), sR, H', ⟨Nat.le_refl _⟩, ⟨rr HO_4⟩, ⟨bb a9a⟩, ⟨bb b9a⟩, ⟨iB HB⟩⟩
           case round =>
            clear H'
            obtain ⟨x8_3, rfl, HA, HK3, HO_4, a9a, b9a, HB⟩ := hrel
            cases gk with
            | zero => exact absurd HA.out (by simp [spec_l7Table.l1])
            | succ k3 =>
             have H := HA.out; clear HA; simp only [spec_l7Table.l1] at H
             by_cases c38 : x8_3 < x5_1
             ·rw [if_pos c38] at H
              have c38b0 : decide (x8_3 < x5_1) = true := decide_eq_true c38
              clear c38
              by_cases c39 : 0 ≤ x8_3
              ·rw [if_pos c39] at H
               have c39b0 : decide (0 ≤ x8_3) = true := decide_eq_true c39
               clear c39
               by_cases c40 : x8_3 < (x4_1.length : Int)
               ·rw [if_pos c40] at H
                have c40b0 : decide (x8_3 < (x4_1.length : Int)) = true := decide_eq_true c40
                clear c40
                by_cases c41 : (rdOf ByteArray.empty x4_1 x8_3).toList = (t205 ++ t206).toList
                ·rw [if_pos c41] at H
                 have c41b0 : ((rdOf ByteArray.empty x4_1 x8_3).toList == (t205 ++ t206).toList) = true := beq_iff_eq.mpr c41
                 have c41b1 : ((rdOf ByteArray.empty x4_1 x8_3).toList != (t205 ++ t206).toList) = false := bne_eq_false_iff_eq.mpr c41
                 clear c41; simp only [Option.some.injEq, Prod.mk.injEq] at H
                 obtain ⟨rfl, rfl⟩ := H
                 have p207 : 0 ≤ (x8_3 : Int) := oD
                 have q207 : x8_3 < (x4_1.length : Int) := oD
                 obtain ⟨ad207, e207, hx207_0⟩ := Kd.at_string (Kd.R_reads' HO_4.out).2.2 x8_3 p207 q207
                 cases e207
                 replace p207 := eq_true p207
                 replace q207 := eq_true q207
                 go_wp2
                 go_ret2
                 exact ⟨_, eR, rX HO_4.out, iB HB⟩
                ·rw [if_neg c41] at H
                 have c41b0 : ((rdOf ByteArray.empty x4_1 x8_3).toList == (t205 ++ t206).toList) = false := beq_eq_false_iff_ne.mpr c41
                 have c41b1 : ((rdOf ByteArray.empty x4_1 x8_3).toList != (t205 ++ t206).toList) = true := bne_iff_ne.mpr c41
                 have H' := Aside0.mk H
                 clear H; have p207 : 0 ≤ (x8_3 : Int) := oD
                 have q207 : x8_3 < (x4_1.length : Int) := oD
                 obtain ⟨ad207, e207, hx207_0⟩ := Kd.at_string (Kd.R_reads' HO_4.out).2.2 x8_3 p207 q207
                 cases e207
                 replace p207 := eq_true p207
                 replace q207 := eq_true q207
                 go_wp2
                 go_roundg k3
                 case measure => have := HK1.out; have := HJ12.out; have := HK3.out; omega
                 case rel => exact ⟨(wrap64 (x8_3 + 1)), sR, H', ⟨by have := HK1.out; have := HJ12.out; have := HK3.out; omega⟩, ⟨rr HO_4⟩, ⟨bb a9a⟩, ⟨bb b9a⟩, ⟨iB HB⟩⟩
               ·rw [if_neg c40] at H
                exact absurd H (by simp)
              ·rw [if_neg c39] at H
               exact absurd H (by simp)
             ·rw [if_neg c38] at H
              have c38b0 : decide (x8_3 < x5_1) = false := decide_eq_false c38
              clear c38
              by_cases c42 : x4_1.length < 8796093022208
              ·rw [if_pos c42] at H
               have LMc42 := Aside0.mk c42
               clear c42; obtain ⟨y208, hy208⟩ : ∃ y_ : List ByteArray, y_ = (x4_1 ++ [(t205 ++ t206)]) := ⟨_, rfl⟩
               replace H : (spec_l7Table.l0 k3 y208 (wrap64 (x5_1 + 1)) l0_0) = some (r1, r2) := by first | (rw [hy208]; with_reducible exact H) | (have H2_ := (Option.bind_some _ _).symm.trans H; rw [hy208]; with_reducible exact H2_) | (have H2_ := (Option.bind_some _ _).symm.trans H; with_reducible exact H2_) | with_reducible exact H | (rw [hy208]; exact H) | exact H
               have Ny208 := Aside0.mk hy208
               clear hy208; have H' := Aside0.mk H
               clear H
               go_wp2_with (first | ((with_reducible refine gate_builtin (b := .append) (xs := #[.tmp 67, .tmp 69]) rfl ?_); at_builtin; refine Kd.R_append Kd.string (w0 := w) w.heap.size rfl (.tmp 67) (.tmp 69) 35 9 (.string ⟨#[]⟩) 16 rfl Try.underlying35 info9 rfl (by decide) (by omega) (.slice Ao35 x4_1.length co35) x4_1 (t205 ++ t206) [.string (t205 ++ t206)] (fun _ => True) (fun _ => False) rfl rfl ?aP (fun _ hk => hk.elim) ?aF ?aO ?aB ?aS ?aL ?_; (case aP => exact rfl); (case aB => exact (be HB)); (case aF => exact (fun _ _ => trivial)); (case aO => exact (rr HO_4)); (case aS => exact (below_size (be HB))); (case aL => have := LMc42.out; omega); intro v209 w43 ho hb hg hat; rw [← Ny208.out] at ho; have n0_ := Aside0.mk (blk_grown (g := g9a) (o := .cells #[.slice (some ad201) l0_0.length c0_0] 26 (0, 0)) kB hg (Kd.R_ne HO_4.out a9a.out (by decide))); have n1_ := Aside0.mk (blk_grown (g := e9a) (o := .cells #[.int .i64 ((rd_T95 l0_0 x5_1).f0), .int .i64 ((rd_T95 l0_0 x5_1).f1)] 95 (0, 0)) kB hg (Kd.R_ne HO_4.out b9a.out (by decide))); have n2_ := Aside0.mk (hb); have HO210 := Aside0.mk (ho); clear HO_4 a9a b9a HB; have a9a := n0_; have b9a := n1_; have HB := n2_; clear n0_ n1_ n2_; clear ho hb hg hat))
               go_roundg k3
               case measure => have := HK1.out; have := HJ12.out; have := HK3.out; omega
               case rel => exact ⟨(y208), (wrap64 (x5_1 + 1)), sR, H', ⟨by have := HK1.out; have := HJ12.out; have := HK3.out; omega⟩, ⟨rr HO210⟩, ⟨bb a9a⟩, ⟨iB HB⟩⟩
              ·rw [if_neg c42] at H
               exact absurd H (by simp)
         ·rw [if_neg c28] at H
          exact absurd H (by simp)
     ·rw [if_neg c12] at H
      exact absurd H (by simp)
    ·rw [if_neg c11] at H
     have c11b0 : decide (x5_1 < (l0_0.length : Int)) = false := decide_eq_false c11
     clear c11; simp only [Option.some.injEq, Prod.mk.injEq] at H
     obtain ⟨rfl, rfl⟩ := H
     have hcz44_0 : wr.cell? ⟨g9a, 0, none⟩ = some (.slice A0_0 l0_0.length c0_0) := bc a9a 0
     have hfz44_0 := blk_frozen a9a.out 0
     go_wp2
     go_ret2
     exact ⟨_, eR, rX HO_4.out, iB HB⟩
def spec_VocabOk.f (k : Nat) (l0_0 : List (S95)) : Option (Bool) := (spec_l7Table.f k l0_0).bind fun bt212 => (some bt212.2)
theorem spec_VocabOk.mono : ∀ a0 k, LeO (spec_VocabOk.f k a0) (spec_VocabOk.f (k + 1) a0) := by
 intro a0 k
 unfold spec_VocabOk.f
 repeat' first
   | (with_reducible exact spec_l7Table.mono _ _)
   | (with_reducible exact LeO.refl _)
   | (with_reducible exact LeO.none _)
   | (with_reducible refine LeO.ite ?_ ?_)
   | (with_reducible refine LeO.bind ?_ (fun _ => ?_))
   | exact spec_l7Table.mono _ _
   | exact LeO.none _
   | refine LeO.ite ?_ ?_
   | refine LeO.bind ?_ (fun _ => ?_)
set_option maxHeartbeats 8000000 in
set_option maxRecDepth 100000 in
theorem spec_VocabOk.calls (k : Nat) (A0_0 : Option Addr) (c0_0 : Nat) (l0_0 : List (S95)) (r : Bool) (w : World) (hr0_0 : Kd.C k95 w A0_0 l0_0.length l0_0) (hc0_0 : l0_0.length ≤ c0_0) (h : spec_VocabOk.f k l0_0 = some r) :
  Calls Try.prog 10 #[.agg #[.slice A0_0 l0_0.length c0_0]] w fun e w' => e = .returned (.bool r) ∧ Below w.heap.size w w' := by
 have hu26 := Try.underlying26
 have HR0_0 := Aside0.mk hr0_0
 have HC0_0 := Aside0.mk hc0_0
 clear hr0_0 hc0_0; have HB := Aside0.mk (Below.refl w.heap.size w)
 have H : ((spec_l7Table.f k l0_0).bind fun bt212 => (some bt212.2)) = some r := h
 clear h; replace H := Option.bind_eq_some_iff.mp H
 obtain ⟨⟨t212, t215⟩, A20, H⟩ := H
 replace H : (some t215) = some r := H
 have A2 := Aside0.mk A20
 clear A20; obtain rfl := Option.some.inj H
 go_enter Try.func10, Try.ntmps10
 go_wp2_with (first | ((with_reducible refine gate_dst (N := 1) rfl ?_); refine bX 1 #[.slice A0_0 l0_0.length c0_0] 26 ?_; intro gb211 hg w3 hbox hb; have BK211 := Aside0.mk (hbox); have GW211 := bs HB hg; have GE211 := bs HB hg; replace HB := bh HB hb; clear hb hbox hg; have hcz4_0 : w3.cell? ⟨gb211, 0, none⟩ = some (.slice A0_0 l0_0.length c0_0) := bc BK211 0; have hfz4_0 := blk_frozen BK211.out 0) | ((with_reducible refine gate_callee (f := 36) rfl ?_); refine goesC_ (some 7) Try.func36 #[.agg #[.slice A0_0 l0_0.length c0_0]] ?_; (with_reducible refine (spec_l7Table.calls k _ _ l0_0 t212 t215 _ ?side1 ?side2 A2.out).mono ?_); (case side1 => exact cX (Kd.C_below HR0_0.out HB.out)); (case side2 => exact HC0_0.out); rintro e w5 ⟨v213, rfl, ho0, hb⟩; refine ⟨_, rfl, ?_⟩; have HO214 := Aside0.mk (Kd.R_lower ho0 (below_size (be HB))); replace BK211 := bq BK211 hb; replace HB := bh HB hb; (try clear hb); (try clear hb2); (try clear hk); (try clear hi)))
 go_ret
 exact ⟨eR, iB HB⟩
end Go.Proofs.Ytddebnchbbmbkaa.PFnExactRecall
