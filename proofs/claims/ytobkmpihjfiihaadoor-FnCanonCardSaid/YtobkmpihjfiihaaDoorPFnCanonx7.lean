-- The machine side of a law: written by a program of this session (wip/tools), a turned print.
import Derived.Test.YtobkmpihjfiihaaDoorPFnCanonx0
import Derived.Test.YtobkmpihjfiihaaDoorPFnCanonx5
import Derived.Test.YtobkmpihjfiihaaDoorPFnCanonx6
namespace Go.Proofs.YtobkmpihjfiihaaDoor.PFnCanon
open Go.RowKit Go.Proofs.YtobkmpihjfiihaaDoorW.PrintWords Go.Proofs.YtobkmpihjfiihaaDoorW.PrintLast Go.Proofs.YtobkmpihjfiihaaDoorW.PrintMore
attribute [local go_sem] max2_int min2_int max_two min_two max_three min_three max_four min_four   -- for this text's walks alone
set_option linter.unusedVariables false
set_option linter.unusedSimpArgs false
mutual
def impl_tokens.l0 : Nat → List ByteArray → List (S76) → Int → Int → Option (List ByteArray × Bool)
 | 0, _, _, _, _ => none
 | k + 1, x4, x13, x14, x15 => if x15 < x14 then (if 0 ≤ x15 then (if x15 < (x13.length : Int) then ((impl_within.f ((rd_T76 x13 x15).f0) 0 (wrap64 (255 + x15))).bind fun t221 => (if t221 = true then ((impl_within.f ((rd_T76 x13 x15).f1) 0 (wrap64 (255 + x15))).bind fun t222 => (impl_tokens.j1 k x4 x13 x14 x15 (!t222) ((rd_T76 x13 x15).f0) ((rd_T76 x13 x15).f1))) else (impl_tokens.j1 k x4 x13 x14 x15 true ((rd_T76 x13 x15).f0) ((rd_T76 x13 x15).f1)))) else (none)) else (none)) else (some (x4, true))
def impl_tokens.j1 : Nat → List ByteArray → List (S76) → Int → Int → Bool → Int → Int → Option (List ByteArray × Bool)
 | 0, _, _, _, _, _, _, _ => none
 | k + 1, x4, x13, x14, x15, x33, x221000, x221001 => if x33 = true then (some (x4, false)) else ((impl_bytesIn.f x4 x221000).bind fun t223 => ((impl_bytesIn.f x4 x221001).bind fun t224 => (if t223.size + t224.size ≤ 9223372036854775807 then (if ((t223 ++ t224).size : Int) > 24 then (some (x4, false)) else ((slices_Contains_string_string.f k x4 (t223 ++ t224)).bind fun t225 => (if t225 = true then (some (x4, false)) else (if x4.length < 8796093022208 then (impl_tokens.l0 k (x4 ++ [t223 ++ t224]) x13 x14 (wrap64 (x15 + 1))) else (none))))) else (none))))
end
def impl_tokens.f (k : Nat) (l0 : List (S76)) : Option (List ByteArray × Bool) := (some (([] : List ByteArray) : List ByteArray)).bind fun y216 => (if (l0.length : Int) > 60 then (some (y216, false)) else (impl_tokens.l0 k y216 l0 (l0.length : Int) 0))
theorem impl_tokens.mono_l : ∀ k, (∀ y0 y1 y2 y3, LeO (impl_tokens.l0 k y0 y1 y2 y3) (impl_tokens.l0 (k + 1) y0 y1 y2 y3)) ∧ (∀ y0 y1 y2 y3 y4 y5 y6, LeO (impl_tokens.j1 k y0 y1 y2 y3 y4 y5 y6) (impl_tokens.j1 (k + 1) y0 y1 y2 y3 y4 y5 y6))
 | 0 => ⟨fun _ _ _ _ r h => by simp [impl_tokens.l0] at h, fun _ _ _ _ _ _ _ r h => by simp [impl_tokens.j1] at h⟩
 | k + 1 => by
  obtain ⟨ih0, ih1⟩ := impl_tokens.mono_l k
  refine ⟨?_, ?_⟩
  ·intro y0 y1 y2 y3
   unfold impl_tokens.l0
   repeat' first
   | (with_reducible exact ih0 _ _ _ _)
   | (with_reducible exact ih1 _ _ _ _ _ _ _)
   | (with_reducible exact slices_Contains_string_string.mono _ _ _)
   | (with_reducible exact LeO.refl _)
   | (with_reducible exact LeO.none _)
   | (with_reducible refine LeO.ite ?_ ?_)
   | (with_reducible refine LeO.bind ?_ (fun _ => ?_))
   | exact ih0 _ _ _ _
   | exact ih1 _ _ _ _ _ _ _
   | exact slices_Contains_string_string.mono _ _ _
   | exact LeO.none _
   | refine LeO.ite ?_ ?_
   | refine LeO.bind ?_ (fun _ => ?_)
  ·intro y0 y1 y2 y3 y4 y5 y6
   unfold impl_tokens.j1
   repeat' first
   | (with_reducible exact ih0 _ _ _ _)
   | (with_reducible exact ih1 _ _ _ _ _ _ _)
   | (with_reducible exact slices_Contains_string_string.mono _ _ _)
   | (with_reducible exact LeO.refl _)
   | (with_reducible exact LeO.none _)
   | (with_reducible refine LeO.ite ?_ ?_)
   | (with_reducible refine LeO.bind ?_ (fun _ => ?_))
   | exact ih0 _ _ _ _
   | exact ih1 _ _ _ _ _ _ _
   | exact slices_Contains_string_string.mono _ _ _
   | exact LeO.none _
   | refine LeO.ite ?_ ?_
   | refine LeO.bind ?_ (fun _ => ?_)
theorem impl_tokens.mono : ∀ a0 k, LeO (impl_tokens.f k a0) (impl_tokens.f (k + 1) a0) := by
 intro a0 k
 obtain ⟨ih0, ih1⟩ := impl_tokens.mono_l k
 unfold impl_tokens.f
 repeat' first
   | (with_reducible exact ih0 _ _ _ _)
   | (with_reducible exact ih1 _ _ _ _ _ _ _)
   | (with_reducible exact slices_Contains_string_string.mono _ _ _)
   | (with_reducible exact LeO.refl _)
   | (with_reducible exact LeO.none _)
   | (with_reducible refine LeO.ite ?_ ?_)
   | (with_reducible refine LeO.bind ?_ (fun _ => ?_))
   | exact ih0 _ _ _ _
   | exact ih1 _ _ _ _ _ _ _
   | exact slices_Contains_string_string.mono _ _ _
   | exact LeO.none _
   | refine LeO.ite ?_ ?_
   | refine LeO.bind ?_ (fun _ => ?_)
def impl_tokens.T9 : Bool × List (List Nat × List Nat) := (true, [([], []), ([], []), ([1], [1]), ([0, 2], [0, 2]), ([], []), ([], []), ([5], [5]), ([4, 6, 3], [4, 6]), ([3, 7], [3, 7]), ([8, 7, 0, 1, 2, 3, 4, 5, 6, 7, 8], [8])])
def impl_tokens.B9 : List Nat := [0, 0, 2, 7, 0, 0, 32, 127, 255, 511]
theorem impl_tokens.tab9 : rtab .any (opsOf Tryd.f65 9) = impl_tokens.T9 := by kernel_rfl
theorem impl_tokens.bits9 : waitsOk impl_tokens.T9.2 impl_tokens.B9 = true := by kernel_rfl
set_option maxHeartbeats 8000000 in
set_option maxRecDepth 100000 in
theorem impl_tokens.calls (k : Nat) (A0 : Option Addr) (c0 : Nat) (l0 : List (S76)) (r1 : List ByteArray) (r2 : Bool) (w : World) (hr0 : Kd.C k76 w A0 l0.length l0) (hc0 : l0.length ≤ c0) (h : impl_tokens.f k l0 = some (r1, r2)) :
  Calls Tryd.prog 65 #[.slice A0 l0.length c0] w fun e w' => ∃ v0_ : Value, e = .returned (.tuple #[v0_, .bool r2]) ∧ Kd.R Kd.string 9 w' w.heap.size (fun _ => True) v0_ r1 ∧ Below w.heap.size w w' := by
 have hu76 := Tryd.underlying76
 have HR0 := Aside0.mk hr0
 have HC0 := Aside0.mk hc0
 clear hr0 hc0; have HB := Aside0.mk (Below.refl w.heap.size w)
 have H : ((some (([] : List ByteArray) : List ByteArray)).bind fun y216 => (if (l0.length : Int) > 60 then (some (y216, false)) else (impl_tokens.l0 k y216 l0 (l0.length : Int) 0))) = some (r1, r2) := h
 clear h; obtain ⟨y216, hy216⟩ : ∃ y_ : List ByteArray, y_ = (([] : List ByteArray)) := ⟨_, rfl⟩
 replace H : (if (l0.length : Int) > 60 then (some (y216, false)) else (impl_tokens.l0 k y216 l0 (l0.length : Int) 0)) = some (r1, r2) := by first | (rw [hy216]; with_reducible exact H) | (have H2_ := (Option.bind_some _ _).symm.trans H; rw [hy216]; with_reducible exact H2_) | (have H2_ := (Option.bind_some _ _).symm.trans H; with_reducible exact H2_) | with_reducible exact H | (rw [hy216]; exact H) | exact H
 have Ny216 := Aside0.mk hy216
 clear hy216
 by_cases c2 : (l0.length : Int) > 60
 ·rw [if_pos c2] at H
  have c2b0 : decide (60 < (l0.length : Int)) = true := decide_eq_true c2
  have c2b1 : decide (60 < l0.length) = true := decide_eq_true (by omega)
  clear c2; simp only [Option.some.injEq, Prod.mk.injEq] at H
  obtain ⟨rfl, rfl⟩ := H
  go_enter Tryd.func65, Tryd.ntmps65
  go_wp2_with (first | ((with_reducible refine gate_dst (N := 8) rfl ?_); refine Kd.R_lit Kd.string _ 9 ?hg (N := 8) ?hd (xs := ([] : List ByteArray)) (inner := []) (ok := fun _ => True) (okp := fun _ => True) ?hr ?hp (fun _ hk => hk) trivial (Below.refl _ _) (Nat.le_refl _) (by simp) ?_; (case hd => rfl); (case hg => rfl); (case hr => first | (go_simp; done) | (go_simp; rfl)); (case hp => exact (Reps.none _ _)); intro v217 w3 ho4 hb hg_ hnew_; clear hg_ hnew_; (first | rw [← Ny216.out] at ho4 | (simp only [Int.reduceToNat] at ho4; rw [← Ny216.out] at ho4)); have HO218 := Aside0.mk (Kd.R_lower ho4 (below_size (be HB))); replace HB := bh HB hb; clear hb ho4))
  go_ret2
  exact ⟨_, by first | rfl | (simp [errW_none, errW_some] <;> rfl) | (simp [*, errW_none, errW_some] <;> rfl), by (with_reducible repeat (first | apply Kd.R_alloc | apply Kd.R_drewN | apply Kd.R_drew)); exact HO218.out, by repeat (first | (with_reducible first | exact HB.out | apply below_alloc | apply pw_below_drewN | apply below_drew1) | exact HB.out)⟩
 ·rw [if_neg c2] at H
  have c2b0 : decide (60 < (l0.length : Int)) = false := decide_eq_false c2
  have c2b1 : decide (60 < l0.length) = false := decide_eq_false (by omega)
  clear c2; have H' := Aside0.mk H
  clear H
  go_enter Tryd.func65, Tryd.ntmps65
  go_wp2_with (first | ((with_reducible refine gate_dst (N := 8) rfl ?_); refine Kd.R_lit Kd.string _ 9 ?hg (N := 8) ?hd (xs := ([] : List ByteArray)) (inner := []) (ok := fun _ => True) (okp := fun _ => True) ?hr ?hp (fun _ hk => hk) trivial (Below.refl _ _) (Nat.le_refl _) (by simp) ?_; (case hd => rfl); (case hg => rfl); (case hr => first | (go_simp; done) | (go_simp; rfl)); (case hp => exact (Reps.none _ _)); intro v217 w5 ho6 hb hg_ hnew_; clear hg_ hnew_; (first | rw [← Ny216.out] at ho6 | (simp only [Int.reduceToNat] at ho6; rw [← Ny216.out] at ho6)); have HO218 := Aside0.mk (Kd.R_lower ho6 (below_size (be HB))); replace HB := bh HB hb; clear hb ho6))
  go_loopg [4, 15] k (fun kq v4 v15 w' => ∃ (x4_1 : List ByteArray) (a9a : Int), v15 = .int .i64 a9a ∧ Aside0 (impl_tokens.l0 kq x4_1 l0 (l0.length : Int) a9a = some (r1, r2)) ∧ Aside0 (kq ≤ k) ∧ Aside0 (Kd.R Kd.string 9 w' w.heap.size (fun _ => True) v4 x4_1) ∧ Aside0 (Below w.heap.size w w'))
  case atStart => exact ⟨(y216), (0), (by first | rfl | (simp; done) | (simp [*]; done)), H', ⟨Nat.le_refl _⟩, ⟨rr HO218⟩, ⟨by repeat (first | (with_reducible first | exact HB.out | apply below_alloc | apply pw_below_drewN | apply below_drew1) | exact HB.out)⟩⟩
  case round =>
   clear H'
   obtain ⟨x4_1, a9a, rfl, HA, HK1, HO_4, HB⟩ := hrel
   cases gk with
   | zero => exact absurd HA.out (by simp [impl_tokens.l0])
   | succ k1 =>
    have H := HA.out; clear HA; simp only [impl_tokens.l0] at H
    by_cases c7 : a9a < (l0.length : Int)
    ·rw [if_pos c7] at H
     have c7b0 : decide (a9a < (l0.length : Int)) = true := decide_eq_true c7
     clear c7
     by_cases c8 : 0 ≤ a9a
     ·rw [if_pos c8] at H
      have c8b0 : decide (0 ≤ a9a) = true := decide_eq_true c8
      clear c8
      by_cases c9 : a9a < (l0.length : Int)
      ·rw [if_pos c9] at H
       have c9b0 : decide (a9a < (l0.length : Int)) = true := decide_eq_true c9
       clear c9; have HC10 := Aside0.mk H
       clear H; have p219 : 0 ≤ (a9a : Int) := of_decide_eq_true (by first | (with_reducible assumption) | assumption)
       have q219 : a9a < (l0.length : Int) := of_decide_eq_true (by first | (with_reducible assumption) | assumption)
       obtain ⟨ad219, e219, d9a, e9a⟩ := at_T76 HR0.out a9a p219 q219
       cases e219
       replace d9a := (HB.out.cell (World.block_lt_of_cell? w _ d9a)).trans d9a
       replace e9a := (HB.out.cell (World.block_lt_of_cell? w _ e9a)).trans e9a
       replace p219 := eq_true p219
       replace q219 := eq_true q219
       go_upto_region 7 with (first | ((with_reducible refine gate_dst (N := 6) rfl ?_); refine box_event ?hg (N := 6) ?hd (cs := #[.int .i64 0, .int .i64 0]) (t := 76) ?hr ?_; (case hd => rfl); (case hg => rfl); (case hr => first | (go_simp; done) | (go_simp; rfl)); intro c9a hg w11 hbox hb; have b9a := Aside0.mk (hbox); have GW220 := bs HB hg; have f9a := bs HB hg; replace HO_4 := Aside0.mk (Kd.R_below (rr HO_4) hb); replace HB := bh HB hb; clear hb hbox hg; obtain ⟨hcz12_0, hcz12_1⟩ := cs2 b9a; obtain ⟨hfz12_0, hfz12_1⟩ := fs2 b9a))
       (try simp only [putL])
       go_cut [33] (fun v33 wc => ∃ (kq : Nat) (x33_9 : Bool), v33 = .bool x33_9 ∧ Aside0 (impl_tokens.j1 kq x4_1 l0 (l0.length : Int) a9a x33_9 ((rd_T76 l0 a9a).f0) ((rd_T76 l0 a9a).f1) = some (r1, r2)) ∧ Aside0 (kq ≤ k1) ∧ Aside0 (Kd.R Kd.string 9 wc w.heap.size (fun _ => True) u4 x4_1) ∧ Aside0 (wc.heap[c9a]? = some (.cells #[.int .i64 ((rd_T76 l0 a9a).f0), .int .i64 ((rd_T76 l0 a9a).f1)] 76 (0, 0))) ∧ Aside0 (Below w.heap.size w wc))
       case first =>
        have H := HC10.out; clear HC10; replace H := Option.bind_eq_some_iff.mp H
        obtain ⟨t221, A130, H⟩ := H
        replace H : (if t221 = true then ((impl_within.f ((rd_T76 l0 a9a).f1) 0 (wrap64 (255 + a9a))).bind fun t222 => (impl_tokens.j1 k1 x4_1 l0 (l0.length : Int) a9a (!t222) ((rd_T76 l0 a9a).f0) ((rd_T76 l0 a9a).f1))) else (impl_tokens.j1 k1 x4_1 l0 (l0.length : Int) a9a true ((rd_T76 l0 a9a).f0) ((rd_T76 l0 a9a).f1))) = some (r1, r2) := H
        have A13 := Aside0.mk A130
        clear A130
        by_cases c14 : t221 = true
        ·subst c14
         have H1 : ((impl_within.f ((rd_T76 l0 a9a).f1) 0 (wrap64 (255 + a9a))).bind fun t222 => (impl_tokens.j1 k1 x4_1 l0 (l0.length : Int) a9a (!t222) ((rd_T76 l0 a9a).f0) ((rd_T76 l0 a9a).f1))) = some (r1, r2) := by rw [if_pos rfl] at H; exact H
         clear H; have H := H1
         clear H1; replace H := Option.bind_eq_some_iff.mp H
         obtain ⟨t222, A150, H⟩ := H
         replace H : (impl_tokens.j1 k1 x4_1 l0 (l0.length : Int) a9a (!t222) ((rd_T76 l0 a9a).f0) ((rd_T76 l0 a9a).f1)) = some (r1, r2) := H
         have A15 := Aside0.mk A150
         clear A150; have H' := Aside0.mk H
         clear H; obtain ⟨hcz16_0, hcz16_1⟩ := cs2 b9a; obtain ⟨hfz16_0, hfz16_1⟩ := fs2 b9a
         go_wp2_with (first | ((with_reducible refine gate_callee (f := 67) rfl ?_); refine goesC_ (some 24) Tryd.func67 #[.int .i64 ((rd_T76 l0 a9a).f0), .int .i64 0, .int .i64 (wrap64 (255 + a9a))] ?_; (with_reducible refine (impl_within.calls ((rd_T76 l0 a9a).f0) 0 (wrap64 (255 + a9a)) true _ A13.out).mono ?_); rintro e w' ⟨rfl, ⟨nd, rfl⟩⟩; refine ⟨_, rfl, ?_⟩) | (go_at_call 67; (with_reducible refine (impl_within.calls ((rd_T76 l0 a9a).f1) 0 (wrap64 (255 + a9a)) t222 _ A15.out).mono ?_); rintro e w' ⟨rfl, ⟨nd, rfl⟩⟩))
         go_meet
         case rel => exact ⟨_, (!t222), (by first | rfl | (simp; done) | (simp [*]; done)), H', ⟨by have := HK1.out; first | omega | exact Nat.le_refl _⟩, ⟨by (with_reducible repeat (first | apply Kd.R_alloc | apply Kd.R_drewN | apply Kd.R_drew)); exact Kd.R_mono (Kd.R_far (p := ⟨c9a, 1, none⟩) (Kd.R_far (p := ⟨c9a, 0, none⟩) (Kd.R_types HO_4.out b9a.out (by decide)) (fun _ hk => hk.2) (.int .i64 ((rd_T76 l0 a9a).f0))) (fun _ hk => hk.2) (.int .i64 ((rd_T76 l0 a9a).f1))) (fun _ hk => trivial)⟩, ⟨by (with_reducible repeat first | refine bkN ?_ _ | refine bkD ?_ | refine bkA ?_ _); refine blk_put (cs := #[.int .i64 ((rd_T76 l0 a9a).f0), .int .i64 0]) ?_ 1 _ rfl; (with_reducible repeat first | refine bkN ?_ _ | refine bkD ?_ | refine bkA ?_ _); refine blk_put (cs := #[.int .i64 0, .int .i64 0]) ?_ 0 _ rfl; (with_reducible repeat first | refine bkN ?_ _ | refine bkD ?_ | refine bkA ?_ _); exact b9a.out⟩, ⟨by repeat (first | (with_reducible first | exact HB.out | apply below_alloc | apply pw_below_drewN | apply below_drew1 | refine below_set ?_ f9a.out) | exact HB.out)⟩⟩
        ·replace c14 := Bool.eq_false_iff.mpr c14
         subst c14
         have H1 : (impl_tokens.j1 k1 x4_1 l0 (l0.length : Int) a9a true ((rd_T76 l0 a9a).f0) ((rd_T76 l0 a9a).f1)) = some (r1, r2) := by rw [if_neg (show ¬ (false = true) by decide)] at H; exact H
         clear H; have H := H1
         clear H1; have H' := Aside0.mk H
         clear H; obtain ⟨hcz17_0, hcz17_1⟩ := cs2 b9a; obtain ⟨hfz17_0, hfz17_1⟩ := fs2 b9a
         go_wp2_with (first | ((with_reducible refine gate_callee (f := 67) rfl ?_); refine goesC_ (some 24) Tryd.func67 #[.int .i64 ((rd_T76 l0 a9a).f0), .int .i64 0, .int .i64 (wrap64 (255 + a9a))] ?_; (with_reducible refine (impl_within.calls ((rd_T76 l0 a9a).f0) 0 (wrap64 (255 + a9a)) false _ A13.out).mono ?_); rintro e w' ⟨rfl, ⟨nd, rfl⟩⟩; refine ⟨_, rfl, ?_⟩))
         go_meet
         case rel => exact ⟨_, (true), (by first | rfl | (simp; done) | (simp [*]; done)), H', ⟨by have := HK1.out; first | omega | exact Nat.le_refl _⟩, ⟨by (with_reducible repeat (first | apply Kd.R_alloc | apply Kd.R_drewN | apply Kd.R_drew)); exact Kd.R_mono (Kd.R_far (p := ⟨c9a, 1, none⟩) (Kd.R_far (p := ⟨c9a, 0, none⟩) (Kd.R_types HO_4.out b9a.out (by decide)) (fun _ hk => hk.2) (.int .i64 ((rd_T76 l0 a9a).f0))) (fun _ hk => hk.2) (.int .i64 ((rd_T76 l0 a9a).f1))) (fun _ hk => trivial)⟩, ⟨by (with_reducible repeat first | refine bkN ?_ _ | refine bkD ?_ | refine bkA ?_ _); refine blk_put (cs := #[.int .i64 ((rd_T76 l0 a9a).f0), .int .i64 0]) ?_ 1 _ rfl; (with_reducible repeat first | refine bkN ?_ _ | refine bkD ?_ | refine bkA ?_ _); refine blk_put (cs := #[.int .i64 0, .int .i64 0]) ?_ 0 _ rfl; (with_reducible repeat first | refine bkN ?_ _ | refine bkD ?_ | refine bkA ?_ _); exact b9a.out⟩, ⟨by repeat (first | (with_reducible first | exact HB.out | apply below_alloc | apply pw_below_drewN | apply below_drew1 | refine below_set ?_ f9a.out) | exact HB.out)⟩⟩
       case rest =>
        clear HC10; obtain ⟨kq, x33_9, rfl, HA, HJ9, HO_4, b9a, HB⟩ := hcut
        cases kq with
        | zero => exact absurd HA.out (by simp [impl_tokens.j1])
        | succ kj9 =>
         have H := HA.out; clear HA; simp only [impl_tokens.j1] at H
         by_cases c18 : x33_9 = true
         ·subst c18
          have H1 : (some (x4_1, false)) = some (r1, r2) := by rw [if_pos rfl] at H; exact H
          clear H; have H := H1
          clear H1; simp only [Option.some.injEq, Prod.mk.injEq] at H
          obtain ⟨rfl, rfl⟩ := H
          go_wp2
          go_ret2
          exact ⟨_, by first | rfl | (simp [errW_none, errW_some] <;> rfl) | (simp [*, errW_none, errW_some] <;> rfl), by (with_reducible repeat (first | apply Kd.R_alloc | apply Kd.R_drewN | apply Kd.R_drew)); exact HO_4.out, by repeat (first | (with_reducible first | exact HB.out | apply below_alloc | apply pw_below_drewN | apply below_drew1 | refine below_set ?_ f9a.out) | exact HB.out)⟩
         ·replace c18 := Bool.eq_false_iff.mpr c18
          subst c18
          have H1 : ((impl_bytesIn.f x4_1 ((rd_T76 l0 a9a).f0)).bind fun t223 => ((impl_bytesIn.f x4_1 ((rd_T76 l0 a9a).f1)).bind fun t224 => (if t223.size + t224.size ≤ 9223372036854775807 then (if ((t223 ++ t224).size : Int) > 24 then (some (x4_1, false)) else ((slices_Contains_string_string.f kj9 x4_1 (t223 ++ t224)).bind fun t225 => (if t225 = true then (some (x4_1, false)) else (if x4_1.length < 8796093022208 then (impl_tokens.l0 kj9 (x4_1 ++ [t223 ++ t224]) l0 (l0.length : Int) (wrap64 (a9a + 1))) else (none))))) else (none)))) = some (r1, r2) := by rw [if_neg (show ¬ (false = true) by decide)] at H; exact H
          clear H; have H := H1
          clear H1; replace H := Option.bind_eq_some_iff.mp H
          obtain ⟨t223, A190, H⟩ := H
          replace H : ((impl_bytesIn.f x4_1 ((rd_T76 l0 a9a).f1)).bind fun t224 => (if t223.size + t224.size ≤ 9223372036854775807 then (if ((t223 ++ t224).size : Int) > 24 then (some (x4_1, false)) else ((slices_Contains_string_string.f kj9 x4_1 (t223 ++ t224)).bind fun t225 => (if t225 = true then (some (x4_1, false)) else (if x4_1.length < 8796093022208 then (impl_tokens.l0 kj9 (x4_1 ++ [t223 ++ t224]) l0 (l0.length : Int) (wrap64 (a9a + 1))) else (none))))) else (none))) = some (r1, r2) := H
          have A19 := Aside0.mk A190
          clear A190; replace H := Option.bind_eq_some_iff.mp H
          obtain ⟨t224, A200, H⟩ := H
          replace H : (if t223.size + t224.size ≤ 9223372036854775807 then (if ((t223 ++ t224).size : Int) > 24 then (some (x4_1, false)) else ((slices_Contains_string_string.f kj9 x4_1 (t223 ++ t224)).bind fun t225 => (if t225 = true then (some (x4_1, false)) else (if x4_1.length < 8796093022208 then (impl_tokens.l0 kj9 (x4_1 ++ [t223 ++ t224]) l0 (l0.length : Int) (wrap64 (a9a + 1))) else (none))))) else (none)) = some (r1, r2) := H
          have A20 := Aside0.mk A200
          clear A200
          by_cases c21 : t223.size + t224.size ≤ 9223372036854775807
          ·rw [if_pos c21] at H
           have c21b0 := eq_true c21
           have c21b1 : decide (t223.size + t224.size ≤ 9223372036854775807) = true := decide_eq_true c21
           try have c21b2 : (9223372036854775807 < t223.size + t224.size) = False := eq_false (Nat.not_lt.2 c21)
           by_cases c22 : ((t223 ++ t224).size : Int) > 24
           ·rw [if_pos c22] at H
            have c22b0 : decide (24 < ((t223 ++ t224).size : Int)) = true := decide_eq_true c22
            have c22b8 : decide (24 < ((t223.size : Int) + (t224.size : Int))) = true := by have hz_ : ((((t223 ++ t224).size : Nat)) : Int) = (t223.size : Int) + (t224.size : Int) := (by have := ByteArray.size_append (a := t223) (b := t224); omega); rw [← hz_]; exact decide_eq_true c22
            have c22b9 : decide (24 < t223.size + t224.size) = true := by have hz_ : ((((t223 ++ t224).size : Nat)) : Int) = (t223.size : Int) + (t224.size : Int) := (by have := ByteArray.size_append (a := t223) (b := t224); omega); exact decide_eq_true (by omega)
            have c22b1 : decide (24 < (t223 ++ t224).size) = true := decide_eq_true (by omega)
            clear c22; simp only [Option.some.injEq, Prod.mk.injEq] at H
            obtain ⟨rfl, rfl⟩ := H
            try go_wp2
            have n0_ := Aside0.mk (Kd.R_drew HO_4.out)
            have n1_ := Aside0.mk (blk_drew b9a.out)
            have n2_ := Aside0.mk (below_drew1 HB.out)
            clear HO_4 b9a HB; have HO_4 := n0_; have b9a := n1_; have HB := n2_; clear n0_ n1_ n2_; obtain ⟨Ao24, co24, eo24⟩ := Kd.R_slice HO_4.out
            (first | subst eo24 | (injection eo24 with f1_ f2_ f3_; have f4_ := f1_.symm; have f5_ := f3_.symm; clear f1_ f2_ f3_; subst f4_; subst f5_))
            refine start_ (n := 10) (S := fun w' => w'.cell? ⟨c9a, 0, none⟩ = some (.int .i64 ((rd_T76 l0 a9a).f0)) ∧ w'.cell? ⟨c9a, 1, none⟩ = some (.int .i64 ((rd_T76 l0 a9a).f1))) (ds := []) #[ff,ff,ff,ff,ff,ff,ff,ff,ff,ff] (by kernel_rfl) rfl rfl ⟨bc b9a 0, bc b9a 1⟩ (fun hHeld => ?_); refine with_tabW impl_tokens.tab9 impl_tokens.bits9 (fun HT_ HW_ => ?_)
            generalize wc.drew = w23 at HO_4 b9a HB hHeld ⊢
            refine pu 0 35 (tb 10 1) HT_ ?_
            refine pu 1 36 (tb 10 3) HT_ ?_
            refine pu 4 39 (tb 10 19) HT_ ?_
            refine pu 5 40 (tb 10 51) HT_ ?_
            refine tk 2 37 (tb 10 55) rfl rfl HT_ HW_ hHeld (by rintro w' ⟨s0, s1⟩; go_simp; with_reducible rfl) ?_
            refine tk 6 41 (tb 10 119) rfl rfl HT_ HW_ hHeld (by rintro w' ⟨s0, s1⟩; go_simp; with_reducible rfl) ?_
            refine one_ (i := 3) (N := some 38) #[tt,tt,tt,tt,tt,tt,tt,ff,ff,ff] rfl rfl (one_of HT_.out (by kernel_rfl)) (by decide) (fun K hK => ?_)
            refine goes_ Tryd.func82 (by kernel_rfl) rfl #[.slice Ao24 x4_1.length co24, .int .i64 ((rd_T76 l0 a9a).f0)] (by rfl) rfl rfl (by (try simp only [List.map_toArray, List.map_cons, List.map_nil]); first | done | rfl | (simp only [List.length_drop, List.length_take]; rfl)) ?_
            with_reducible refine (impl_bytesIn.calls _ _ x4_1 ((rd_T76 l0 a9a).f0) t223 _ ?side1 ?side2 A19.out).mono ?_
            (case side1 => repeat (first | exact (Kd.R_reads' HO_4.out).2.2 | (with_reducible refine Kd.C_alloc ?_ _) | (with_reducible refine Kd.C_drewN ?_ _) | (with_reducible refine Kd.C_drew ?_)))
            (case side2 => exact (Kd.R_reads' HO_4.out).2.1)
            rintro e w25 ⟨rfl, hb⟩
            refine ⟨_, rfl, ?_⟩
            replace HO_4 := Aside0.mk (Kd.R_below (rr HO_4) hb); replace b9a := bq b9a hb; replace HB := bh HB hb
            (try clear hb); (try clear hb2); (try clear hk); (try clear hi); refine hK.out _ _ ⟨bc b9a 0, bc b9a 1⟩ (fun hHeld => ?_)
            clear hK K; refine norm_ (a' := ?_) ?_ ?_
            rotate_left
            ·show Act.put _ (some 38) _ = _
             simp only [putL, i64_w, i32_w]; rfl
            refine one_ (i := 7) (N := some 42) #[tt,tt,tt,tt,tt,tt,tt,tt,ff,ff] rfl rfl (one_of HT_.out (by kernel_rfl)) (by decide) (fun K hK => ?_)
            refine goes_ Tryd.func82 (by kernel_rfl) rfl #[.slice Ao24 x4_1.length co24, .int .i64 ((rd_T76 l0 a9a).f1)] (by rfl) rfl rfl (by (try simp only [List.map_toArray, List.map_cons, List.map_nil]); first | done | rfl | (simp only [List.length_drop, List.length_take]; rfl)) ?_
            with_reducible refine (impl_bytesIn.calls _ _ x4_1 ((rd_T76 l0 a9a).f1) t224 _ ?side1 ?side2 A20.out).mono ?_
            (case side1 => repeat (first | exact (Kd.R_reads' HO_4.out).2.2 | (with_reducible refine Kd.C_alloc ?_ _) | (with_reducible refine Kd.C_drewN ?_ _) | (with_reducible refine Kd.C_drew ?_)))
            (case side2 => exact (Kd.R_reads' HO_4.out).2.1)
            rintro e w26 ⟨rfl, hb⟩
            refine ⟨_, rfl, ?_⟩
            replace HO_4 := Aside0.mk (Kd.R_below (rr HO_4) hb); replace b9a := bq b9a hb; replace HB := bh HB hb
            (try clear hb); (try clear hb2); (try clear hk); (try clear hi); refine hK.out _ _ ⟨bc b9a 0, bc b9a 1⟩ (fun hHeld => ?_)
            clear hK K; refine norm_ (a' := ?_) ?_ ?_
            rotate_left
            ·show Act.put _ (some 42) _ = _
             simp only [putL, i64_w, i32_w]; rfl
            refine pu 8 43 (tb 10 511) HT_ ?_
            refine pu 9 7 (tb 10 1023) HT_ ?_
            refine done_ (done_of HT_.out (by kernel_rfl)) ?_
            try go_wp2
            go_ret2
            exact ⟨_, by first | rfl | (simp [errW_none, errW_some] <;> rfl) | (simp [*, errW_none, errW_some] <;> rfl), by (with_reducible repeat (first | apply Kd.R_alloc | apply Kd.R_drewN | apply Kd.R_drew)); exact HO_4.out, by repeat (first | (with_reducible first | exact HB.out | apply below_alloc | apply pw_below_drewN | apply below_drew1 | refine below_set ?_ f9a.out) | exact HB.out)⟩
           ·rw [if_neg c22] at H
            have c22b0 : decide (24 < ((t223 ++ t224).size : Int)) = false := decide_eq_false c22
            have c22b8 : decide (24 < ((t223.size : Int) + (t224.size : Int))) = false := by have hz_ : ((((t223 ++ t224).size : Nat)) : Int) = (t223.size : Int) + (t224.size : Int) := (by have := ByteArray.size_append (a := t223) (b := t224); omega); rw [← hz_]; exact decide_eq_false c22
            have c22b9 : decide (24 < t223.size + t224.size) = false := by have hz_ : ((((t223 ++ t224).size : Nat)) : Int) = (t223.size : Int) + (t224.size : Int) := (by have := ByteArray.size_append (a := t223) (b := t224); omega); exact decide_eq_false (by omega)
            have c22b1 : decide (24 < (t223 ++ t224).size) = false := decide_eq_false (by omega)
            clear c22; replace H := Option.bind_eq_some_iff.mp H
            obtain ⟨t225, A270, H⟩ := H
            replace H : (if t225 = true then (some (x4_1, false)) else (if x4_1.length < 8796093022208 then (impl_tokens.l0 kj9 (x4_1 ++ [t223 ++ t224]) l0 (l0.length : Int) (wrap64 (a9a + 1))) else (none))) = some (r1, r2) := H
            have A27 := Aside0.mk A270
            clear A270
            by_cases c28 : t225 = true
            ·subst c28
             have H1 : (some (x4_1, false)) = some (r1, r2) := by rw [if_pos rfl] at H; exact H
             clear H; have H := H1
             clear H1; simp only [Option.some.injEq, Prod.mk.injEq] at H
             obtain ⟨rfl, rfl⟩ := H
             try go_wp2
             have n0_ := Aside0.mk (Kd.R_drew HO_4.out)
             have n1_ := Aside0.mk (blk_drew b9a.out)
             have n2_ := Aside0.mk (below_drew1 HB.out)
             clear HO_4 b9a HB; have HO_4 := n0_; have b9a := n1_; have HB := n2_; clear n0_ n1_ n2_; obtain ⟨Ao30, co30, eo30⟩ := Kd.R_slice HO_4.out
             (first | subst eo30 | (injection eo30 with f1_ f2_ f3_; have f4_ := f1_.symm; have f5_ := f3_.symm; clear f1_ f2_ f3_; subst f4_; subst f5_))
             refine start_ (n := 10) (S := fun w' => w'.cell? ⟨c9a, 0, none⟩ = some (.int .i64 ((rd_T76 l0 a9a).f0)) ∧ w'.cell? ⟨c9a, 1, none⟩ = some (.int .i64 ((rd_T76 l0 a9a).f1))) (ds := []) #[ff,ff,ff,ff,ff,ff,ff,ff,ff,ff] (by kernel_rfl) rfl rfl ⟨bc b9a 0, bc b9a 1⟩ (fun hHeld => ?_); refine with_tabW impl_tokens.tab9 impl_tokens.bits9 (fun HT_ HW_ => ?_)
             generalize wc.drew = w29 at HO_4 b9a HB hHeld ⊢
             refine pu 0 35 (tb 10 1) HT_ ?_
             refine pu 1 36 (tb 10 3) HT_ ?_
             refine pu 4 39 (tb 10 19) HT_ ?_
             refine pu 5 40 (tb 10 51) HT_ ?_
             refine tk 2 37 (tb 10 55) rfl rfl HT_ HW_ hHeld (by rintro w' ⟨s0, s1⟩; go_simp; with_reducible rfl) ?_
             refine tk 6 41 (tb 10 119) rfl rfl HT_ HW_ hHeld (by rintro w' ⟨s0, s1⟩; go_simp; with_reducible rfl) ?_
             refine one_ (i := 3) (N := some 38) #[tt,tt,tt,tt,tt,tt,tt,ff,ff,ff] rfl rfl (one_of HT_.out (by kernel_rfl)) (by decide) (fun K hK => ?_)
             refine goes_ Tryd.func82 (by kernel_rfl) rfl #[.slice Ao30 x4_1.length co30, .int .i64 ((rd_T76 l0 a9a).f0)] (by rfl) rfl rfl (by (try simp only [List.map_toArray, List.map_cons, List.map_nil]); first | done | rfl | (simp only [List.length_drop, List.length_take]; rfl)) ?_
             with_reducible refine (impl_bytesIn.calls _ _ x4_1 ((rd_T76 l0 a9a).f0) t223 _ ?side1 ?side2 A19.out).mono ?_
             (case side1 => repeat (first | exact (Kd.R_reads' HO_4.out).2.2 | (with_reducible refine Kd.C_alloc ?_ _) | (with_reducible refine Kd.C_drewN ?_ _) | (with_reducible refine Kd.C_drew ?_)))
             (case side2 => exact (Kd.R_reads' HO_4.out).2.1)
             rintro e w31 ⟨rfl, hb⟩
             refine ⟨_, rfl, ?_⟩
             replace HO_4 := Aside0.mk (Kd.R_below (rr HO_4) hb); replace b9a := bq b9a hb; replace HB := bh HB hb
             (try clear hb); (try clear hb2); (try clear hk); (try clear hi); refine hK.out _ _ ⟨bc b9a 0, bc b9a 1⟩ (fun hHeld => ?_)
             clear hK K; refine norm_ (a' := ?_) ?_ ?_
             rotate_left
             ·show Act.put _ (some 38) _ = _
              simp only [putL, i64_w, i32_w]; rfl
             refine one_ (i := 7) (N := some 42) #[tt,tt,tt,tt,tt,tt,tt,tt,ff,ff] rfl rfl (one_of HT_.out (by kernel_rfl)) (by decide) (fun K hK => ?_)
             refine goes_ Tryd.func82 (by kernel_rfl) rfl #[.slice Ao30 x4_1.length co30, .int .i64 ((rd_T76 l0 a9a).f1)] (by rfl) rfl rfl (by (try simp only [List.map_toArray, List.map_cons, List.map_nil]); first | done | rfl | (simp only [List.length_drop, List.length_take]; rfl)) ?_
             with_reducible refine (impl_bytesIn.calls _ _ x4_1 ((rd_T76 l0 a9a).f1) t224 _ ?side1 ?side2 A20.out).mono ?_
             (case side1 => repeat (first | exact (Kd.R_reads' HO_4.out).2.2 | (with_reducible refine Kd.C_alloc ?_ _) | (with_reducible refine Kd.C_drewN ?_ _) | (with_reducible refine Kd.C_drew ?_)))
             (case side2 => exact (Kd.R_reads' HO_4.out).2.1)
             rintro e w32 ⟨rfl, hb⟩
             refine ⟨_, rfl, ?_⟩
             replace HO_4 := Aside0.mk (Kd.R_below (rr HO_4) hb); replace b9a := bq b9a hb; replace HB := bh HB hb
             (try clear hb); (try clear hb2); (try clear hk); (try clear hi); refine hK.out _ _ ⟨bc b9a 0, bc b9a 1⟩ (fun hHeld => ?_)
             clear hK K; refine norm_ (a' := ?_) ?_ ?_
             rotate_left
             ·show Act.put _ (some 42) _ = _
              simp only [putL, i64_w, i32_w]; rfl
             refine pu 8 43 (tb 10 511) HT_ ?_
             refine pu 9 7 (tb 10 1023) HT_ ?_
             refine done_ (done_of HT_.out (by kernel_rfl)) ?_
             try go_wp2_with (first | (go_at_call 83; (with_reducible refine (slices_Contains_string_string.calls kj9 _ _ x4_1 (t223 ++ t224) true _ ?side1 ?side2 A27.out).mono ?_); (case side1 => repeat (first | exact (Kd.R_reads' HO_4.out).2.2 | (with_reducible refine Kd.C_alloc ?_ _) | (with_reducible refine Kd.C_drewN ?_ _) | (with_reducible refine Kd.C_drew ?_))); (case side2 => exact (Kd.R_reads' HO_4.out).2.1); rintro e w' ⟨rfl, ⟨nd, rfl⟩⟩))
             go_ret2
             exact ⟨_, by first | rfl | (simp [errW_none, errW_some] <;> rfl) | (simp [*, errW_none, errW_some] <;> rfl), by (with_reducible repeat (first | apply Kd.R_alloc | apply Kd.R_drewN | apply Kd.R_drew)); exact HO_4.out, by repeat (first | (with_reducible first | exact HB.out | apply below_alloc | apply pw_below_drewN | apply below_drew1 | refine below_set ?_ f9a.out) | exact HB.out)⟩
            ·replace c28 := Bool.eq_false_iff.mpr c28
             subst c28
             have H1 : (if x4_1.length < 8796093022208 then (impl_tokens.l0 kj9 (x4_1 ++ [t223 ++ t224]) l0 (l0.length : Int) (wrap64 (a9a + 1))) else (none)) = some (r1, r2) := by rw [if_neg (show ¬ (false = true) by decide)] at H; exact H
             clear H; have H := H1
             clear H1
             by_cases c33 : x4_1.length < 8796093022208
             ·rw [if_pos c33] at H
              have LMc33 := Aside0.mk c33
              clear c33; obtain ⟨y226, hy226⟩ : ∃ y_ : List ByteArray, y_ = (x4_1 ++ [t223 ++ t224]) := ⟨_, rfl⟩
              replace H : (impl_tokens.l0 kj9 y226 l0 (l0.length : Int) (wrap64 (a9a + 1))) = some (r1, r2) := by first | (rw [hy226]; with_reducible exact H) | (have H2_ := (Option.bind_some _ _).symm.trans H; rw [hy226]; with_reducible exact H2_) | (have H2_ := (Option.bind_some _ _).symm.trans H; with_reducible exact H2_) | with_reducible exact H | (rw [hy226]; exact H) | exact H
              have Ny226 := Aside0.mk hy226
              clear hy226; have H' := Aside0.mk H
              clear H
              try go_wp2
              have n0_ := Aside0.mk (Kd.R_drew HO_4.out)
              have n1_ := Aside0.mk (blk_drew b9a.out)
              have n2_ := Aside0.mk (below_drew1 HB.out)
              clear HO_4 b9a HB; have HO_4 := n0_; have b9a := n1_; have HB := n2_; clear n0_ n1_ n2_; obtain ⟨Ao35, co35, eo35⟩ := Kd.R_slice HO_4.out
              (first | subst eo35 | (injection eo35 with f1_ f2_ f3_; have f4_ := f1_.symm; have f5_ := f3_.symm; clear f1_ f2_ f3_; subst f4_; subst f5_))
              refine start_ (n := 10) (S := fun w' => w'.cell? ⟨c9a, 0, none⟩ = some (.int .i64 ((rd_T76 l0 a9a).f0)) ∧ w'.cell? ⟨c9a, 1, none⟩ = some (.int .i64 ((rd_T76 l0 a9a).f1))) (ds := []) #[ff,ff,ff,ff,ff,ff,ff,ff,ff,ff] (by kernel_rfl) rfl rfl ⟨bc b9a 0, bc b9a 1⟩ (fun hHeld => ?_); refine with_tabW impl_tokens.tab9 impl_tokens.bits9 (fun HT_ HW_ => ?_)
              generalize wc.drew = w34 at HO_4 b9a HB hHeld ⊢
              refine pu 0 35 (tb 10 1) HT_ ?_
              refine pu 1 36 (tb 10 3) HT_ ?_
              refine pu 4 39 (tb 10 19) HT_ ?_
              refine pu 5 40 (tb 10 51) HT_ ?_
              refine tk 2 37 (tb 10 55) rfl rfl HT_ HW_ hHeld (by rintro w' ⟨s0, s1⟩; go_simp; with_reducible rfl) ?_
              refine tk 6 41 (tb 10 119) rfl rfl HT_ HW_ hHeld (by rintro w' ⟨s0, s1⟩; go_simp; with_reducible rfl) ?_
              refine one_ (i := 3) (N := some 38) #[tt,tt,tt,tt,tt,tt,tt,ff,ff,ff] rfl rfl (one_of HT_.out (by kernel_rfl)) (by decide) (fun K hK => ?_)
              refine goes_ Tryd.func82 (by kernel_rfl) rfl #[.slice Ao35 x4_1.length co35, .int .i64 ((rd_T76 l0 a9a).f0)] (by rfl) rfl rfl (by (try simp only [List.map_toArray, List.map_cons, List.map_nil]); first | done | rfl | (simp only [List.length_drop, List.length_take]; rfl)) ?_
              with_reducible refine (impl_bytesIn.calls _ _ x4_1 ((rd_T76 l0 a9a).f0) t223 _ ?side1 ?side2 A19.out).mono ?_
              (case side1 => repeat (first | exact (Kd.R_reads' HO_4.out).2.2 | (with_reducible refine Kd.C_alloc ?_ _) | (with_reducible refine Kd.C_drewN ?_ _) | (with_reducible refine Kd.C_drew ?_)))
              (case side2 => exact (Kd.R_reads' HO_4.out).2.1)
              rintro e w36 ⟨rfl, hb⟩
              refine ⟨_, rfl, ?_⟩
              replace HO_4 := Aside0.mk (Kd.R_below (rr HO_4) hb); replace b9a := bq b9a hb; replace HB := bh HB hb
              (try clear hb); (try clear hb2); (try clear hk); (try clear hi); refine hK.out _ _ ⟨bc b9a 0, bc b9a 1⟩ (fun hHeld => ?_)
              clear hK K; refine norm_ (a' := ?_) ?_ ?_
              rotate_left
              ·show Act.put _ (some 38) _ = _
               simp only [putL, i64_w, i32_w]; rfl
              refine one_ (i := 7) (N := some 42) #[tt,tt,tt,tt,tt,tt,tt,tt,ff,ff] rfl rfl (one_of HT_.out (by kernel_rfl)) (by decide) (fun K hK => ?_)
              refine goes_ Tryd.func82 (by kernel_rfl) rfl #[.slice Ao35 x4_1.length co35, .int .i64 ((rd_T76 l0 a9a).f1)] (by rfl) rfl rfl (by (try simp only [List.map_toArray, List.map_cons, List.map_nil]); first | done | rfl | (simp only [List.length_drop, List.length_take]; rfl)) ?_
              with_reducible refine (impl_bytesIn.calls _ _ x4_1 ((rd_T76 l0 a9a).f1) t224 _ ?side1 ?side2 A20.out).mono ?_
              (case side1 => repeat (first | exact (Kd.R_reads' HO_4.out).2.2 | (with_reducible refine Kd.C_alloc ?_ _) | (with_reducible refine Kd.C_drewN ?_ _) | (with_reducible refine Kd.C_drew ?_)))
              (case side2 => exact (Kd.R_reads' HO_4.out).2.1)
              rintro e w37 ⟨rfl, hb⟩
              refine ⟨_, rfl, ?_⟩
              replace HO_4 := Aside0.mk (Kd.R_below (rr HO_4) hb); replace b9a := bq b9a hb; replace HB := bh HB hb
              (try clear hb); (try clear hb2); (try clear hk); (try clear hi); refine hK.out _ _ ⟨bc b9a 0, bc b9a 1⟩ (fun hHeld => ?_)
              clear hK K; refine norm_ (a' := ?_) ?_ ?_
              rotate_left
              ·show Act.put _ (some 42) _ = _
               simp only [putL, i64_w, i32_w]; rfl
              refine pu 8 43 (tb 10 511) HT_ ?_
              refine pu 9 7 (tb 10 1023) HT_ ?_
              refine done_ (done_of HT_.out (by kernel_rfl)) ?_
              try go_wp2_with (first | (go_at_call 83; (with_reducible refine (slices_Contains_string_string.calls kj9 _ _ x4_1 (t223 ++ t224) false _ ?side1 ?side2 A27.out).mono ?_); (case side1 => repeat (first | exact (Kd.R_reads' HO_4.out).2.2 | (with_reducible refine Kd.C_alloc ?_ _) | (with_reducible refine Kd.C_drewN ?_ _) | (with_reducible refine Kd.C_drew ?_))); (case side2 => exact (Kd.R_reads' HO_4.out).2.1); rintro e w' ⟨rfl, ⟨nd, rfl⟩⟩) | ((with_reducible refine gate_builtin (b := .append) (xs := #[.tmp 53, .tmp 55]) rfl ?_); at_builtin; refine Kd.R_append Kd.string (w0 := w) w.heap.size rfl (.tmp 53) (.tmp 55) 82 9 (.string ⟨#[]⟩) 16 rfl Tryd.underlying82 info9 rfl (by decide) (by omega) (.slice Ao35 x4_1.length co35) x4_1 (t223 ++ t224) [.string (t223 ++ t224)] (fun _ => True) (fun _ => False) rfl rfl ?aP (fun _ hk => hk.elim) ?aF ?aO ?aB ?aS ?aL ?_; (case aP => exact rfl); (case aB => exact (be HB)); (case aF => exact (fun _ _ => trivial)); (case aO => exact (rr HO_4)); (case aS => exact (below_size (be HB))); (case aL => have := LMc33.out; omega); intro v227 w38 ho hb hg hat; rw [← Ny226.out] at ho; have n0_ := Aside0.mk (blk_grown (g := c9a) (o := .cells #[.int .i64 ((rd_T76 l0 a9a).f0), .int .i64 ((rd_T76 l0 a9a).f1)] 76 (0, 0)) (by (with_reducible repeat first | refine bkN ?_ _ | refine bkD ?_ | refine bkA ?_ _); exact b9a.out) hg (Kd.R_ne HO_4.out b9a.out (by decide))); have n1_ := Aside0.mk (hb); have HO228 := Aside0.mk (ho); clear HO_4 b9a HB; have b9a := n0_; have HB := n1_; clear n0_ n1_; clear ho hb hg hat))
              go_roundg kj9
              case measure => have := HK1.out; have := HJ9.out; omega
              case rel => exact ⟨(y226), (wrap64 (a9a + 1)), (by first | rfl | (simp; done) | (simp [*]; done)), H', ⟨by have := HK1.out; have := HJ9.out; omega⟩, ⟨rr HO228⟩, ⟨by repeat (first | (with_reducible first | exact HB.out | apply below_alloc | apply pw_below_drewN | apply below_drew1 | refine below_set ?_ f9a.out) | exact HB.out)⟩⟩
             ·rw [if_neg c33] at H
              exact absurd H (by simp)
          ·rw [if_neg c21] at H
           exact absurd H (by simp)
      ·rw [if_neg c9] at H
       exact absurd H (by simp)
     ·rw [if_neg c8] at H
      exact absurd H (by simp)
    ·rw [if_neg c7] at H
     have c7b0 : decide (a9a < (l0.length : Int)) = false := decide_eq_false c7
     clear c7; simp only [Option.some.injEq, Prod.mk.injEq] at H
     obtain ⟨rfl, rfl⟩ := H
     go_wp2
     go_ret2
     exact ⟨_, by first | rfl | (simp [errW_none, errW_some] <;> rfl) | (simp [*, errW_none, errW_some] <;> rfl), by (with_reducible repeat (first | apply Kd.R_alloc | apply Kd.R_drewN | apply Kd.R_drew)); exact HO_4.out, by repeat (first | (with_reducible first | exact HB.out | apply below_alloc | apply pw_below_drewN | apply below_drew1) | exact HB.out)⟩
def impl_VocabOk.f (k : Nat) (l0_0 : List (S76)) : Option (Bool) := (impl_tokens.f k l0_0).bind fun bt230 => (some bt230.2)
theorem impl_VocabOk.mono : ∀ a0 k, LeO (impl_VocabOk.f k a0) (impl_VocabOk.f (k + 1) a0) := by
 intro a0 k
 unfold impl_VocabOk.f
 repeat' first
   | (with_reducible exact impl_tokens.mono _ _)
   | (with_reducible exact LeO.refl _)
   | (with_reducible exact LeO.none _)
   | (with_reducible refine LeO.ite ?_ ?_)
   | (with_reducible refine LeO.bind ?_ (fun _ => ?_))
   | exact impl_tokens.mono _ _
   | exact LeO.none _
   | refine LeO.ite ?_ ?_
   | refine LeO.bind ?_ (fun _ => ?_)
set_option maxHeartbeats 8000000 in
set_option maxRecDepth 100000 in
theorem impl_VocabOk.calls (k : Nat) (A0_0 : Option Addr) (c0_0 : Nat) (l0_0 : List (S76)) (r : Bool) (w : World) (hr0_0 : Kd.C k76 w A0_0 l0_0.length l0_0) (hc0_0 : l0_0.length ≤ c0_0) (h : impl_VocabOk.f k l0_0 = some r) :
  Calls Tryd.prog 33 #[.agg #[.slice A0_0 l0_0.length c0_0]] w fun e w' => e = .returned (.bool r) ∧ Below w.heap.size w w' := by
 have hu45 := Tryd.underlying45
 have HR0_0 := Aside0.mk hr0_0
 have HC0_0 := Aside0.mk hc0_0
 clear hr0_0 hc0_0; have HB := Aside0.mk (Below.refl w.heap.size w)
 have H : ((impl_tokens.f k l0_0).bind fun bt230 => (some bt230.2)) = some r := h
 clear h; replace H := Option.bind_eq_some_iff.mp H
 obtain ⟨⟨t230, t231⟩, A20, H⟩ := H
 replace H : (some t231) = some r := H
 have A2 := Aside0.mk A20
 clear A20; obtain rfl := Option.some.inj H
 go_enter Tryd.func33, Tryd.ntmps33
 go_wp2_with (first | ((with_reducible refine gate_dst (N := 1) rfl ?_); refine box_event ?hg (N := 1) ?hd (cs := #[.slice A0_0 l0_0.length c0_0]) (t := 45) ?hr ?_; (case hd => rfl); (case hg => rfl); (case hr => first | (go_simp; done) | (go_simp; rfl)); intro gb229 hg w3 hbox hb; have BK229 := Aside0.mk (hbox); have GW229 := bs HB hg; have GE229 := bs HB hg; replace HB := bh HB hb; clear hb hbox hg; have hcz4_0 : w3.cell? ⟨gb229, 0, none⟩ = some (.slice A0_0 l0_0.length c0_0) := bc BK229 0; have hfz4_0 := blk_frozen BK229.out 0) | ((with_reducible refine gate_callee (f := 65) rfl ?_); refine goesC_ (some 8) Tryd.func65 #[.slice A0_0 l0_0.length c0_0] ?_; (with_reducible refine (impl_tokens.calls k _ _ l0_0 t230 t231 _ ?side1 ?side2 A2.out).mono ?_); (case side1 => repeat (first | exact (Kd.C_below HR0_0.out HB.out) | (with_reducible refine Kd.C_alloc ?_ _) | (with_reducible refine Kd.C_drewN ?_ _) | (with_reducible refine Kd.C_drew ?_))); (case side2 => exact HC0_0.out); rintro e w5 ⟨v232, rfl, ho0, hb⟩; refine ⟨_, rfl, ?_⟩; have HO233 := Aside0.mk (Kd.R_lower ho0 (below_size (be HB))); replace BK229 := bq BK229 hb; replace HB := bh HB hb; (try clear hb); (try clear hb2); (try clear hk); (try clear hi)))
 go_ret
 exact ⟨by first | rfl | (simp [errW_none, errW_some] <;> rfl) | (simp [*, errW_none, errW_some] <;> rfl), by repeat (first | (with_reducible first | exact HB.out | apply below_alloc | apply pw_below_drewN | apply below_drew1 | refine below_set ?_ GE229.out) | exact HB.out)⟩
def impl_Var.l0 : Nat → Int → List Int → Option (ByteArray)
 | 0, _, _ => none
 | k + 1, x0, x3 => if x0 > 127 then (if x3.length < 140737488355328 then (impl_Var.l0 k (x0 / 128) (x3 ++ [(Go.bits .or .i64 (Go.bits .and .i64 x0 127) 128) % 256])) else (none)) else (if x3.length < 140737488355328 then (some (strOfNums (x3 ++ [(x0) % 256]))) else (none))
def impl_Var.f (k : Nat) (a0 : Int) : Option (ByteArray) := (impl_within.f a0 0 562949953421311).bind fun t234 => (if t234 = true then (impl_Var.l0 k a0 (([] : List Int))) else (some (⟨#[]⟩ : ByteArray)))
theorem impl_Var.mono_l : ∀ k, (∀ y0 y1, LeO (impl_Var.l0 k y0 y1) (impl_Var.l0 (k + 1) y0 y1))
 | 0 => fun _ _ r h => by simp [impl_Var.l0] at h
 | k + 1 => by
  have ih0 := impl_Var.mono_l k
  ·intro y0 y1
   unfold impl_Var.l0
   repeat' first
   | (with_reducible exact ih0 _ _)
   | (with_reducible exact LeO.refl _)
   | (with_reducible exact LeO.none _)
   | (with_reducible refine LeO.ite ?_ ?_)
   | (with_reducible refine LeO.bind ?_ (fun _ => ?_))
   | exact ih0 _ _
   | exact LeO.none _
   | refine LeO.ite ?_ ?_
   | refine LeO.bind ?_ (fun _ => ?_)
theorem impl_Var.mono : ∀ a0 k, LeO (impl_Var.f k a0) (impl_Var.f (k + 1) a0) := by
 intro a0 k
 have ih0 := impl_Var.mono_l k
 unfold impl_Var.f
 repeat' first
   | (with_reducible exact ih0 _ _)
   | (with_reducible exact LeO.refl _)
   | (with_reducible exact LeO.none _)
   | (with_reducible refine LeO.ite ?_ ?_)
   | (with_reducible refine LeO.bind ?_ (fun _ => ?_))
   | exact ih0 _ _
   | exact LeO.none _
   | refine LeO.ite ?_ ?_
   | refine LeO.bind ?_ (fun _ => ?_)
set_option maxHeartbeats 8000000 in
set_option maxRecDepth 100000 in
theorem impl_Var.calls (k : Nat) (a0 : Int) (r : ByteArray) (w : World) (h : impl_Var.f k a0 = some r) :
  Calls Tryd.prog 56 #[.int .i64 a0] w fun e w' => e = .returned (.string r) ∧ Below w.heap.size w w' := by
 have HB := Aside0.mk (Below.refl w.heap.size w)
 have H : ((impl_within.f a0 0 562949953421311).bind fun t234 => (if t234 = true then (impl_Var.l0 k a0 (([] : List Int))) else (some (⟨#[]⟩ : ByteArray)))) = some r := h
 clear h; replace H := Option.bind_eq_some_iff.mp H
 obtain ⟨t234, A20, H⟩ := H
 replace H : (if t234 = true then (impl_Var.l0 k a0 (([] : List Int))) else (some (⟨#[]⟩ : ByteArray))) = some r := H
 have A2 := Aside0.mk A20
 clear A20
 by_cases c3 : t234 = true
 ·subst c3
  have H1 : (impl_Var.l0 k a0 (([] : List Int))) = some r := by rw [if_pos rfl] at H; exact H
  clear H; have H := H1
  clear H1; obtain ⟨y235, hy235⟩ : ∃ y_ : List Int, y_ = (([] : List Int)) := ⟨_, rfl⟩
  replace H : (impl_Var.l0 k a0 y235) = some r := by first | (rw [hy235]; with_reducible exact H) | (have H2_ := (Option.bind_some _ _).symm.trans H; rw [hy235]; with_reducible exact H2_) | (have H2_ := (Option.bind_some _ _).symm.trans H; with_reducible exact H2_) | with_reducible exact H | (rw [hy235]; exact H) | exact H
  have Ny235 := Aside0.mk hy235
  clear hy235; have H' := Aside0.mk H
  clear H
  go_enter Tryd.func56, Tryd.ntmps56
  go_wp2_with (first | ((with_reducible refine gate_callee (f := 67) rfl ?_); refine goesC_ (some 5) Tryd.func67 #[.int .i64 a0, .int .i64 0, .int .i64 562949953421311] ?_; (with_reducible refine (impl_within.calls a0 0 562949953421311 true _ A2.out).mono ?_); rintro e w' ⟨rfl, ⟨nd, rfl⟩⟩; refine ⟨_, rfl, ?_⟩) | ((with_reducible refine gate_dst (N := 7) rfl ?_); refine Kd.R_lit (Kd.int .u8) _ 5 ?hg (N := 7) ?hd (xs := ([] : List Int)) (inner := []) (ok := fun _ => True) (okp := fun _ => True) ?hr ?hp (fun _ hk => hk) trivial (Below.refl _ _) (Nat.le_refl _) (by simp) ?_; (case hd => rfl); (case hg => rfl); (case hr => first | (go_simp; done) | (go_simp; rfl)); (case hp => exact (Reps.none _ _)); intro v236 w4 ho5 hb hg_ hnew_; clear hg_ hnew_; (first | rw [← Ny235.out] at ho5 | (simp only [Int.reduceToNat] at ho5; rw [← Ny235.out] at ho5)); have HO237 := Aside0.mk (Kd.R_lower ho5 (below_size (be HB))); replace HB := bh HB hb; clear hb ho5))
  go_loopg [0, 3] k (fun kq v0 v3 w' => ∃ (x0_1 : Int) (x3_1 : List Int), v0 = .int .i64 x0_1 ∧ Aside0 (impl_Var.l0 kq x0_1 x3_1 = some r) ∧ Aside0 (kq ≤ k) ∧ Aside0 (Kd.R (Kd.int .u8) 5 w' w.heap.size (fun _ => True) v3 x3_1) ∧ Aside0 (Below w.heap.size w w'))
  case atStart => exact ⟨(a0), (y235), (by first | rfl | (simp; done) | (simp [*]; done)), H', ⟨Nat.le_refl _⟩, ⟨rr HO237⟩, ⟨by repeat (first | (with_reducible first | exact HB.out | apply below_alloc | apply pw_below_drewN | apply below_drew1) | exact HB.out)⟩⟩
  case round =>
   clear H'
   obtain ⟨x0_1, x3_1, rfl, HA, HK1, HO_3, HB⟩ := hrel
   cases gk with
   | zero => exact absurd HA.out (by simp [impl_Var.l0])
   | succ k1 =>
    have H := HA.out; clear HA; simp only [impl_Var.l0] at H
    by_cases c6 : x0_1 > 127
    ·rw [if_pos c6] at H
     have c6b0 : decide (127 < x0_1) = true := decide_eq_true c6
     clear c6
     by_cases c7 : x3_1.length < 140737488355328
     ·rw [if_pos c7] at H
      have LMc7 := Aside0.mk c7
      clear c7; obtain ⟨y238, hy238⟩ : ∃ y_ : List Int, y_ = (x3_1 ++ [(Go.bits .or .i64 (Go.bits .and .i64 x0_1 127) 128) % 256]) := ⟨_, rfl⟩
      replace H : (impl_Var.l0 k1 (x0_1 / 128) y238) = some r := by first | (rw [hy238]; with_reducible exact H) | (have H2_ := (Option.bind_some _ _).symm.trans H; rw [hy238]; with_reducible exact H2_) | (have H2_ := (Option.bind_some _ _).symm.trans H; with_reducible exact H2_) | with_reducible exact H | (rw [hy238]; exact H) | exact H
      have Ny238 := Aside0.mk hy238
      clear hy238; have H' := Aside0.mk H
      clear H
      go_wp2_with (first | ((with_reducible refine gate_builtin (b := .append) (xs := #[.tmp 10, .tmp 15]) rfl ?_); at_builtin; refine Kd.R_append (Kd.int .u8) (w0 := w) w.heap.size rfl (.tmp 10) (.tmp 15) 24 5 (.int .u8 0) 1 rfl Tryd.underlying24 info5 rfl (by decide) (by omega) u3 x3_1 ((Go.bits .or .i64 (Go.bits .and .i64 x0_1 127) 128) % 256) [.int .u8 ((Go.bits .or .i64 (Go.bits .and .i64 x0_1 127) 128) % 256)] (fun _ => True) (fun _ => False) rfl rfl ?aP (fun _ hk => hk.elim) ?aF ?aO ?aB ?aS ?aL ?_; (case aP => exact rfl); (case aB => exact (be HB)); (case aF => exact (fun _ _ => trivial)); (case aO => exact (rr HO_3)); (case aS => exact (below_size (be HB))); (case aL => have := LMc7.out; omega); intro v239 w8 ho hb hg hat; rw [← Ny238.out] at ho; have n0_ := Aside0.mk (hb); have HO240 := Aside0.mk (ho); clear HO_3 HB; have HB := n0_; clear n0_; clear ho hb hg hat))
      go_roundg k1
      case measure => have := HK1.out; omega
      case rel => exact ⟨(x0_1 / 128), (y238), (by first | rfl | (simp; done) | (simp [*]; done)), H', ⟨by have := HK1.out; omega⟩, ⟨rr HO240⟩, ⟨by repeat (first | (with_reducible first | exact HB.out | apply below_alloc | apply pw_below_drewN | apply below_drew1) | exact HB.out)⟩⟩
     ·rw [if_neg c7] at H
      exact absurd H (by simp)
    ·rw [if_neg c6] at H
     have c6b0 : decide (127 < x0_1) = false := decide_eq_false c6
     clear c6
     by_cases c9 : x3_1.length < 140737488355328
     ·rw [if_pos c9] at H
      have LMc9 := Aside0.mk c9
      clear c9; obtain ⟨y241, hy241⟩ : ∃ y_ : List Int, y_ = (x3_1 ++ [(x0_1) % 256]) := ⟨_, rfl⟩
      replace H : (some (strOfNums y241)) = some r := by first | (rw [hy241]; with_reducible exact H) | (have H2_ := (Option.bind_some _ _).symm.trans H; rw [hy241]; with_reducible exact H2_) | (have H2_ := (Option.bind_some _ _).symm.trans H; with_reducible exact H2_) | with_reducible exact H | (rw [hy241]; exact H) | exact H
      have Ny241 := Aside0.mk hy241
      clear hy241; obtain rfl := Option.some.inj H
      go_wp2_with (first | ((with_reducible refine gate_builtin (b := .append) (xs := #[.tmp 19, .tmp 22]) rfl ?_); at_builtin; refine Kd.R_append (Kd.int .u8) (w0 := w) w.heap.size rfl (.tmp 19) (.tmp 22) 24 5 (.int .u8 0) 1 rfl Tryd.underlying24 info5 rfl (by decide) (by omega) u3 x3_1 ((x0_1) % 256) [.int .u8 ((x0_1) % 256)] (fun _ => True) (fun _ => False) rfl rfl ?aP (fun _ hk => hk.elim) ?aF ?aO ?aB ?aS ?aL ?_; (case aP => exact rfl); (case aB => exact (be HB)); (case aF => exact (fun _ _ => trivial)); (case aO => exact (rr HO_3)); (case aS => exact (below_size (be HB))); (case aL => have := LMc9.out; omega); intro v242 w10 ho hb hg hat; rw [← Ny241.out] at ho; have n0_ := Aside0.mk (hb); have HO243 := Aside0.mk (ho); clear HO_3 HB; have HB := n0_; clear n0_; clear ho hb hg hat; have hcv11 := own_string (P := Tryd.prog) Tryd.underlying24 Tryd.underlying5 Tryd.underlying9 (Kd.own_of_R HO243.out)))
      go_ret
      exact ⟨by first | rfl | (simp [errW_none, errW_some] <;> rfl) | (simp [*, errW_none, errW_some] <;> rfl), by repeat (first | (with_reducible first | exact HB.out | apply below_alloc | apply pw_below_drewN | apply below_drew1) | exact HB.out)⟩
     ·rw [if_neg c9] at H
      exact absurd H (by simp)
 ·replace c3 := Bool.eq_false_iff.mpr c3
  subst c3
  have H1 : (some (⟨#[]⟩ : ByteArray)) = some r := by rw [if_neg (show ¬ (false = true) by decide)] at H; exact H
  clear H; have H := H1
  clear H1; obtain rfl := Option.some.inj H
  go_enter Tryd.func56, Tryd.ntmps56
  go_wp2_with (first | ((with_reducible refine gate_callee (f := 67) rfl ?_); refine goesC_ (some 5) Tryd.func67 #[.int .i64 a0, .int .i64 0, .int .i64 562949953421311] ?_; (with_reducible refine (impl_within.calls a0 0 562949953421311 false _ A2.out).mono ?_); rintro e w' ⟨rfl, ⟨nd, rfl⟩⟩; refine ⟨_, rfl, ?_⟩))
  go_ret
  exact ⟨by first | rfl | (simp [errW_none, errW_some] <;> rfl) | (simp [*, errW_none, errW_some] <;> rfl), by repeat (first | (with_reducible first | exact HB.out | apply below_alloc | apply pw_below_drewN | apply below_drew1) | exact HB.out)⟩
end Go.Proofs.YtobkmpihjfiihaaDoor.PFnCanon
