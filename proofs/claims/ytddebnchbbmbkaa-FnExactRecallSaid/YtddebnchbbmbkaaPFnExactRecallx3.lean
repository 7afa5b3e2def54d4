-- The machine side of a law: written by a program of this session (wip/tools), a turned print.
import Derived.Test.YtddebnchbbmbkaaPFnExactRecallx0
import Derived.Test.YtddebnchbbmbkaaPFnExactRecallx2
namespace Go.Proofs.Ytddebnchbbmbkaa.PFnExactRecall
open Go.RowKit Go.Proofs.YtddebnchbbmbkaaW.PrintWords Go.Proofs.YtddebnchbbmbkaaW.PrintLast Go.Proofs.YtddebnchbbmbkaaW.PrintMore
attribute [local go_sem] max2_int min2_int max_two min_two max_three min_three max_four min_four   -- for this text's walks alone
set_option linter.unusedVariables false
set_option linter.unusedSimpArgs false
mutual
def impl_tokens.l0 : Nat → List ByteArray → List (S95) → Int → Int → Option (List ByteArray × Bool)
  | 0, _, _, _, _ => none
  | k + 1, x4, x13, x14, x15 => if x15 < x14 then (if 0 ≤ x15 then (if x15 < (x13.length : Int) then ((impl_within.f ((rd_T95 x13 x15).f0) 0 (wrap64 (255 + x15))).bind fun t113 => (if t113 = true then ((impl_within.f ((rd_T95 x13 x15).f1) 0 (wrap64 (255 + x15))).bind fun t114 => (impl_tokens.j1 k x4 x13 x14 x15 (!t114) ((rd_T95 x13 x15).f0) ((rd_T95 x13 x15).f1))) else (impl_tokens.j1 k x4 x13 x14 x15 true ((rd_T95 x13 x15).f0) ((rd_T95 x13 x15).f1)))) else (none)) else (none)) else (some (x4, true))
def impl_tokens.j1 : Nat → List ByteArray → List (S95) → Int → Int → Bool → Int → Int → Option (List ByteArray × Bool)
  | 0, _, _, _, _, _, _, _ => none
  | k + 1, x4, x13, x14, x15, x33, x113000, x113001 => if x33 = true then (some (x4, false)) else ((impl_bytesIn.f x4 x113000).bind fun t115 => ((impl_bytesIn.f x4 x113001).bind fun t116 => (if t115.size + t116.size ≤ 9223372036854775807 then (if ((t115 ++ t116).size : Int) > 24 then (some (x4, false)) else ((slices_Contains_string_string.f k x4 (t115 ++ t116)).bind fun t117 => (if t117 = true then (some (x4, false)) else (if x4.length < 8796093022208 then (impl_tokens.l0 k (x4 ++ [t115 ++ t116]) x13 x14 (wrap64 (x15 + 1))) else (none))))) else (none))))
end
def impl_tokens.f (k : Nat) (l0 : List (S95)) : Option (List ByteArray × Bool) := (some (([] : List ByteArray) : List ByteArray)).bind fun y108 => (if (l0.length : Int) > 60 then (some (y108, false)) else (impl_tokens.l0 k y108 l0 (l0.length : Int) 0))
theorem impl_tokens.mono_l : ∀ k, (∀ y0 y1 y2 y3, LeO (impl_tokens.l0 k y0 y1 y2 y3) (impl_tokens.l0 (k + 1) y0 y1 y2 y3)) ∧ (∀ y0 y1 y2 y3 y4 y5 y6, LeO (impl_tokens.j1 k y0 y1 y2 y3 y4 y5 y6) (impl_tokens.j1 (k + 1) y0 y1 y2 y3 y4 y5 y6))
  | 0 => ⟨fun _ _ _ _ r h => by simp [impl_tokens.l0] at h, fun _ _ _ _ _ _ _ r h => by simp [impl_tokens.j1] at h⟩
  | k + 1 => by
    obtain ⟨ih0, ih1⟩ := impl_tokens.mono_l k
    refine ⟨?_, ?_⟩
    · intro y0 y1 y2 y3
      unfold impl_tokens.l0
      repeat' first
      | (with_reducible exact ih0 _ _ _ _)
      | (with_reducible exact ih1 _ _ _ _ _ _ _)
      | (with_reducible exact slices_Contains_string_string.mono _ _ _)
      | (with_reducible exact LeO.refl _)
      | (with_reducible exact LeO.none _)
      | (with_reducible refine LeO.ite ?_ ?_)
      | (with_reducible refine LeO.bind ?_ (fun _ => ?_))
      | exact ih0 _ _ _ _
      | exact ih1 _ _ _ _ _ _ _
      | exact slices_Contains_string_string.mono _ _ _
      | exact LeO.none _
      | refine LeO.ite ?_ ?_
      | refine LeO.bind ?_ (fun _ => ?_)
    · intro y0 y1 y2 y3 y4 y5 y6
      unfold impl_tokens.j1
      repeat' first
      | (with_reducible exact ih0 _ _ _ _)
      | (with_reducible exact ih1 _ _ _ _ _ _ _)
      | (with_reducible exact slices_Contains_string_string.mono _ _ _)
      | (with_reducible exact LeO.refl _)
      | (with_reducible exact LeO.none _)
      | (with_reducible refine LeO.ite ?_ ?_)
      | (with_reducible refine LeO.bind ?_ (fun _ => ?_))
      | exact ih0 _ _ _ _
      | exact ih1 _ _ _ _ _ _ _
      | exact slices_Contains_string_string.mono _ _ _
      | exact LeO.none _
      | refine LeO.ite ?_ ?_
      | refine LeO.bind ?_ (fun _ => ?_)
theorem impl_tokens.mono : ∀ a0 k, LeO (impl_tokens.f k a0) (impl_tokens.f (k + 1) a0) := by
  intro a0 k
  obtain ⟨ih0, ih1⟩ := impl_tokens.mono_l k
  unfold impl_tokens.f
  repeat' first
      | (with_reducible exact ih0 _ _ _ _)
      | (with_reducible exact ih1 _ _ _ _ _ _ _)
      | (with_reducible exact slices_Contains_string_string.mono _ _ _)
      | (with_reducible exact LeO.refl _)
      | (with_reducible exact LeO.none _)
      | (with_reducible refine LeO.ite ?_ ?_)
      | (with_reducible refine LeO.bind ?_ (fun _ => ?_))
      | exact ih0 _ _ _ _
      | exact ih1 _ _ _ _ _ _ _
      | exact slices_Contains_string_string.mono _ _ _
      | exact LeO.none _
      | refine LeO.ite ?_ ?_
      | refine LeO.bind ?_ (fun _ => ?_)
def impl_tokens.T9 : Bool × List (List Nat × List Nat) := (true, [([], []), ([], []), ([1], [1]), ([0, 2], [0, 2]), ([], []), ([], []), ([5], [5]), ([4, 6, 3], [4, 6]), ([3, 7], [3, 7]), ([8, 7, 0, 1, 2, 3, 4, 5, 6, 7, 8], [8])])
def impl_tokens.B9 : List Nat := [0, 0, 2, 7, 0, 0, 32, 127, 255, 511]
theorem impl_tokens.tab9 : rtab .any (opsOf Try.f82 9) = impl_tokens.T9 := by kernel_rfl
theorem impl_tokens.bits9 : waitsOk impl_tokens.T9.2 impl_tokens.B9 = true := by kernel_rfl
set_option maxHeartbeats 8000000 in
set_option maxRecDepth 100000 in
theorem impl_tokens.calls (k : Nat) (A0 : Option Addr) (c0 : Nat) (l0 : List (S95)) (r1 : List ByteArray) (r2 : Bool) (w : World) (hr0 : Kd.C k95 w A0 l0.length l0) (hc0 : l0.length ≤ c0) (h : impl_tokens.f k l0 = some (r1, r2)) :
    Calls Try.prog 82 #[.slice A0 l0.length c0] w fun e w' => ∃ v0_ : Value, e = .returned (.tuple #[v0_, .bool r2]) ∧ Kd.R Kd.string 9 w' w.heap.size (fun _ => True) v0_ r1 ∧ Below w.heap.size w w' := by
  have hu95 := Try.underlying95
  have HR0 := Aside0.mk hr0
  have HC0 := Aside0.mk hc0
  clear hr0 hc0; have HB := Aside0.mk (Below.refl w.heap.size w)
  have H : ((some (([] : List ByteArray) : List ByteArray)).bind fun y108 => (if (l0.length : Int) > 60 then (some (y108, false)) else (impl_tokens.l0 k y108 l0 (l0.length : Int) 0))) = some (r1, r2) := h
  clear h; obtain ⟨y108, hy108⟩ : ∃ y_ : List ByteArray, y_ = (([] : List ByteArray)) := ⟨_, rfl⟩
  replace H : (if (l0.length : Int) > 60 then (some (y108, false)) else (impl_tokens.l0 k y108 l0 (l0.length : Int) 0)) = some (r1, r2) := by first | (rw [hy108]; with_reducible exact H) | (have H2_ := (Option.bind_some _ _).symm.trans H; rw [hy108]; with_reducible exact H2_) | (have H2_ := (Option.bind_some _ _).symm.trans H; with_reducible exact H2_) | with_reducible exact H | (rw [hy108]; exact H) | exact H
  have Ny108 := Aside0.mk hy108
  clear hy108
  by_cases c2 : (l0.length : Int) > 60
  · rw [if_pos c2] at H
    have c2b0 : decide (60 < (l0.length : Int)) = true := decide_eq_true c2
    have c2b1 : decide (60 < l0.length) = true := decide_eq_true (by omega)
    clear c2; simp only [Option.some.injEq, Prod.mk.injEq] at H
    obtain ⟨rfl, rfl⟩ := H
    go_enter Try.func82, Try.ntmps82
    go_wp2_with (first | ((with_reducible refine gate_dst (N := 8) rfl ?_); refine Kd.R_lit Kd.string _ 9 ?hg (N := 8) ?hd (xs := ([] : List ByteArray)) (inner := []) (ok := fun _ => True) (okp := fun _ => True) ?hr ?hp (fun _ hk => hk) trivial (Below.refl _ _) (Nat.le_refl _) (by simp) ?_; (case hd => rfl); (case hg => rfl); (case hr => first | (go_simp; done) | (go_simp; rfl)); (case hp => exact (Reps.none _ _)); intro v109 w3 ho4 hb hg_ hnew_; clear hg_ hnew_; (first | rw [← Ny108.out] at ho4 | (simp only [Int.reduceToNat] at ho4; rw [← Ny108.out] at ho4)); have HO110 := Aside0.mk (Kd.R_lower ho4 (below_size (be HB))); replace HB := bh HB hb; clear hb ho4))
    go_ret2
    exact ⟨_, eR, rX HO110.out, iB HB⟩
  · rw [if_neg c2] at H
    have c2b0 : decide (60 < (l0.length : Int)) = false := decide_eq_false c2
    have c2b1 : decide (60 < l0.length) = false := decide_eq_false (by omega)
    clear c2; have H' := Aside0.mk H
    clear H
    go_enter Try.func82, Try.ntmps82
    go_wp2_with (first | ((with_reducible refine gate_dst (N := 8) rfl ?_); refine Kd.R_lit Kd.string _ 9 ?hg (N := 8) ?hd (xs := ([] : List ByteArray)) (inner := []) (ok := fun _ => True) (okp := fun _ => True) ?hr ?hp (fun _ hk => hk) trivial (Below.refl _ _) (Nat.le_refl _) (by simp) ?_; (case hd => rfl); (case hg => rfl); (case hr => first | (go_simp; done) | (go_simp; rfl)); (case hp => exact (Reps.none _ _)); intro v109 w5 ho6 hb hg_ hnew_; clear hg_ hnew_; (first | rw [← Ny108.out] at ho6 | (simp only [Int.reduceToNat] at ho6; rw [← Ny108.out] at ho6)); have HO110 := Aside0.mk (Kd.R_lower ho6 (below_size (be HB))); replace HB := bh HB hb; clear hb ho6))
    go_loopg [4, 15] k (fun kq v4 v15 w' => ∃ (x4_1 : List ByteArray) (a9a : Int), v15 = .int .i64 a9a ∧ Aside0 (impl_tokens.l0 kq x4_1 l0 (l0.length : Int) a9a = some (r1, r2)) ∧ Aside0 (kq ≤ k) ∧ Aside0 (Kd.R Kd.string 9 w' w.heap.size (fun _ => True) v4 x4_1) ∧ Aside0 (Below w.heap.size w w'))
    case atStart => exact ⟨(y108), (0), sR, H', ⟨Nat.le_refl _⟩, ⟨rr HO110⟩, ⟨iB HB⟩⟩
    case round =>
      clear H'
      obtain ⟨x4_1, a9a, rfl, HA, HK1, HO_4, HB⟩ := hrel
      cases gk with
      | zero => exact absurd HA.out (by simp [impl_tokens.l0])
      | succ k1 =>
        have H := HA.out; clear HA; simp only [impl_tokens.l0] at H
        by_cases c7 : a9a < (l0.length : Int)
        · rw [if_pos c7] at H
          have c7b0 : decide (a9a < (l0.length : Int)) = true := decide_eq_true c7
          clear c7
          by_cases c8 : 0 ≤ a9a
          · rw [if_pos c8] at H
            have c8b0 : decide (0 ≤ a9a) = true := decide_eq_true c8
            clear c8
            by_cases c9 : a9a < (l0.length : Int)
            · rw [if_pos c9] at H
              have c9b0 : decide (a9a < (l0.length : Int)) = true := decide_eq_true c9
              clear c9; have HC10 := Aside0.mk H
              clear H; have p111 : 0 ≤ (a9a : Int) := oD
              have q111 : a9a < (l0.length : Int) := oD
              obtain ⟨ad111, e111, d9a, e9a⟩ := at_T95 HR0.out a9a p111 q111
              cases e111
              replace d9a := (HB.out.cell (World.block_lt_of_cell? w _ d9a)).trans d9a
              replace e9a := (HB.out.cell (World.block_lt_of_cell? w _ e9a)).trans e9a
              replace p111 := eq_true p111
              replace q111 := eq_true q111
              go_upto_region 7 with (first | ((with_reducible refine gate_dst (N := 6) rfl ?_); refine bX 6 #[.int .i64 0, .int .i64 0] 95 ?_; intro c9a hg w11 hbox hb; have b9a := Aside0.mk (hbox); have GW112 := bs HB hg; have f9a := bs HB hg; replace HO_4 := Aside0.mk (Kd.R_below (rr HO_4) hb); replace HB := bh HB hb; clear hb hbox hg; obtain ⟨hcz12_0, hcz12_1⟩ := cs2 b9a; obtain ⟨hfz12_0, hfz12_1⟩ := fs2 b9a))
              (try simp only [putL])
              go_cut [33] (fun v33 wc => ∃ (kq : Nat) (x33_9 : Bool), v33 = .bool x33_9 ∧ Aside0 (impl_tokens.j1 kq x4_1 l0 (l0.length : Int) a9a x33_9 ((rd_T95 l0 a9a).f0) ((rd_T95 l0 a9a).f1) = some (r1, r2)) ∧ Aside0 (kq ≤ k1) ∧ Aside0 (Kd.R Kd.string 9 wc w.heap.size (fun _ => True) u4 x4_1) ∧ Aside0 (wc.heap[c9a]? = some (.cells #[.int .i64 ((rd_T95 l0 a9a).f0), .int .i64 ((rd_T95 l0 a9a).f1)] 95 (0, 0))) ∧ Aside0 (Below w.heap.size w wc))
              case first =>
                have H := HC10.out; clear HC10; replace H := Option.bind_eq_some_iff.mp H
                obtain ⟨t113, A130, H⟩ := H
                replace H : (if t113 = true then ((impl_within.f ((rd_T95 l0 a9a).f1) 0 (wrap64 (255 + a9a))).bind fun t114 => (impl_tokens.j1 k1 x4_1 l0 (l0.length : Int) a9a (!t114) ((rd_T95 l0 a9a).f0) ((rd_T95 l0 a9a).f1))) else (impl_tokens.j1 k1 x4_1 l0 (l0.length : Int) a9a true ((rd_T95 l0 a9a).f0) ((rd_T95 l0 a9a).f1))) = some (r1, r2) := H
                have A13 := Aside0.mk A130
                clear A130
                by_cases c14 : t113 = true
                · subst c14
                  have H1 : ((impl_within.f ((rd_T95 l0 a9a).f1) 0 (wrap64 (255 + a9a))).bind fun t114 => (impl_tokens.j1 k1 x4_1 l0 (l0.length : Int) a9a (!t114) ((rd_T95 l0 a9a).f0) ((rd_T95 l0 a9a).f1))) = some (r1, r2) := by rw [if_pos rfl] at H; exact H
                  clear H; have H := H1
                  clear H1; replace H := Option.bind_eq_some_iff.mp H
                  obtain ⟨t114, A150, H⟩ := H
                  replace H : (impl_tokens.j1 k1 x4_1 l0 (l0.length : Int) a9a (!t114) ((rd_T95 l0 a9a).f0) ((rd_T95 l0 a9a).f1)) = some (r1, r2) := H
                  have A15 := Aside0.mk A150
                  clear A150; have H' := Aside0.mk H
                  clear H; obtain ⟨hcz16_0, hcz16_1⟩ := cs2 b9a; obtain ⟨hfz16_0, hfz16_1⟩ := fs2 b9a
                  go_wp2_with (first | ((with_reducible refine gate_callee (f := 35) rfl ?_); refine goesC_ (some 24) Try.func35 #[.int .i64 ((rd_T95 l0 a9a).f0), .int .i64 0, .int .i64 (wrap64 (255 + a9a))] ?_; (with_reducible refine (impl_within.calls ((rd_T95 l0 a9a).f0) 0 (wrap64 (255 + a9a)) true _ A13.out).mono ?_); rintro e w' ⟨rfl, ⟨nd, rfl⟩⟩; refine ⟨_, rfl, ?_⟩) | (go_at_call 35; (with_reducible refine (impl_within.calls ((rd_T95 l0 a9a).f1) 0 (wrap64 (255 + a9a)) t114 _ A15.out).mono ?_); rintro e w' ⟨rfl, ⟨nd, rfl⟩⟩))
                  go_meet
                  case rel => exact ⟨_, (!t114), sR, H', ⟨by have := HK1.out; first | omega | exact Nat.le_refl _⟩, ⟨rX (Kd.R_mono (Kd.R_far (p := ⟨c9a, 1, none⟩) (Kd.R_far (p := ⟨c9a, 0, none⟩) (Kd.R_types HO_4.out b9a.out (by decide)) (fun _ hk => hk.2) (.int .i64 ((rd_T95 l0 a9a).f0))) (fun _ hk => hk.2) (.int .i64 ((rd_T95 l0 a9a).f1))) (fun _ hk => trivial))⟩, ⟨by (with_reducible repeat first | refine bkN ?_ _ | refine bkD ?_ | refine bkA ?_ _); refine blk_put (cs := #[.int .i64 ((rd_T95 l0 a9a).f0), .int .i64 0]) ?_ 1 _ rfl; (with_reducible repeat first | refine bkN ?_ _ | refine bkD ?_ | refine bkA ?_ _); refine blk_put (cs := #[.int .i64 0, .int .i64 0]) ?_ 0 _ rfl; (with_reducible repeat first | refine bkN ?_ _ | refine bkD ?_ | refine bkA ?_ _); exact b9a.out⟩, ⟨iB HB⟩⟩
                · replace c14 := Bool.eq_false_iff.mpr c14
                  subst c14
                  have H1 : (impl_tokens.j1 k1 x4_1 l0 (l0.length : Int) a9a true ((rd_T95 l0 a9a).f0) ((rd_T95 l0 a9a).f1)) = some (r1, r2) := by rw [if_neg (show ¬ (false = true) by decide)] at H; exact H
                  clear H; have H := H1
                  clear H1; have H' := Aside0.mk H
                  clear H; obtain ⟨hcz17_0, hcz17_1⟩ := cs2 b9a; obtain ⟨hfz17_0, hfz17_1⟩ := fs2 b9a
                  go_wp2_with (first | ((with_reducible refine gate_callee (f := 35) rfl ?_); refine goesC_ (some 24) Try.func35 #[.int .i64 ((rd_T95 l0 a9a).f0), .int .i64 0, .int .i64 (wrap64 (255 + a9a))] ?_; (with_reducible refine (impl_within.calls ((rd_T95 l0 a9a).f0) 0 (wrap64 (255 + a9a)) false _ A13.out).mono ?_); rintro e w' ⟨rfl, ⟨nd, rfl⟩⟩; refine ⟨_, rfl, ?_⟩))
                  go_meet
                  case rel => exact ⟨_, (true), sR, H', ⟨by have := HK1.out; first | omega | exact Nat.le_refl _⟩, ⟨rX (Kd.R_mono (Kd.R_far (p := ⟨c9a, 1, none⟩) (Kd.R_far (p := ⟨c9a, 0, none⟩) (Kd.R_types HO_4.out b9a.out (by decide)) (fun _ hk => hk.2) (.int .i64 ((rd_T95 l0 a9a).f0))) (fun _ hk => hk.2) (.int .i64 ((rd_T95 l0 a9a).f1))) (fun _ hk => trivial))⟩, ⟨by (with_reducible repeat first | refine bkN ?_ _ | refine bkD ?_ | refine bkA ?_ _); refine blk_put (cs := #[.int .i64 ((rd_T95 l0 a9a).f0), .int .i64 0]) ?_ 1 _ rfl; (with_reducible repeat first | refine bkN ?_ _ | refine bkD ?_ | refine bkA ?_ _); refine blk_put (cs := #[.int .i64 0, .int .i64 0]) ?_ 0 _ rfl; (with_reducible repeat first | refine bkN ?_ _ | refine bkD ?_ | refine bkA ?_ _); exact b9a.out⟩, ⟨iB HB⟩⟩
              case rest =>
                clear HC10; obtain ⟨kq, x33_9, rfl, HA, HJ9, HO_4, b9a, HB⟩ := hcut
                cases kq with
                | zero => exact absurd HA.out (by simp [impl_tokens.j1])
                | succ kj9 =>
                  have H := HA.out; clear HA; simp only [impl_tokens.j1] at H
                  by_cases c18 : x33_9 = true
                  · subst c18
                    have H1 : (some (x4_1, false)) = some (r1, r2) := by rw [if_pos rfl] at H; exact H
                    clear H; have H := H1
                    clear H1; simp only [Option.some.injEq, Prod.mk.injEq] at H
                    obtain ⟨rfl, rfl⟩ := H
                    go_wp2
                    go_ret2
                    exact ⟨_, eR, rX HO_4.out, iB HB⟩
                  · replace c18 := Bool.eq_false_iff.mpr c18
                    subst c18
                    have H1 : ((impl_bytesIn.f x4_1 ((rd_T95 l0 a9a).f0)).bind fun t115 => ((impl_bytesIn.f x4_1 ((rd_T95 l0 a9a).f1)).bind fun t116 => (if t115.size + t116.size ≤ 9223372036854775807 then (if ((t115 ++ t116).size : Int) > 24 then (some (x4_1, false)) else ((slices_Contains_string_string.f kj9 x4_1 (t115 ++ t116)).bind fun t117 => (if t117 = true then (some (x4_1, false)) else (if x4_1.length < 8796093022208 then (impl_tokens.l0 kj9 (x4_1 ++ [t115 ++ t116]) l0 (l0.length : Int) (wrap64 (a9a + 1))) else (none))))) else (none)))) = some (r1, r2) := by rw [if_neg (show ¬ (false = true) by decide)] at H; exact H
                    clear H; have H := H1
                    clear H1; replace H := Option.bind_eq_some_iff.mp H
                    obtain ⟨t115, A190, H⟩ := H
                    replace H : ((impl_bytesIn.f x4_1 ((rd_T95 l0 a9a).f1)).bind fun t116 => (if t115.size + t116.size ≤ 9223372036854775807 then (if ((t115 ++ t116).size : Int) > 24 then (some (x4_1, false)) else ((slices_Contains_string_string.f kj9 x4_1 (t115 ++ t116)).bind fun t117 => (if t117 = true then (some (x4_1, false)) else (if x4_1.length < 8796093022208 then (impl_tokens.l0 kj9 (x4_1 ++ [t115 ++ t116]) l0 (l0.length : Int) (wrap64 (a9a + 1))) else (none))))) else (none))) = some (r1, r2) := H
                    have A19 := Aside0.mk A190
                    clear A190; replace H := Option.bind_eq_some_iff.mp H
                    obtain ⟨t116, A200, H⟩ := H
                    replace H : (if t115.size + t116.size ≤ 9223372036854775807 then (if ((t115 ++ t116).size : Int) > 24 then (some (x4_1, false)) else ((slices_Contains_string_string.f kj9 x4_1 (t115 ++ t116)).bind fun t117 => (if t117 = true then (some (x4_1, false)) else (if x4_1.length < 8796093022208 then (impl_tokens.l0 kj9 (x4_1 ++ [t115 ++ t116]) l0 (l0.length : Int) (wrap64 (a9a + 1))) else (none))))) else (none)) = some (r1, r2) := H
                    have A20 := Aside0.mk A200
                    clear A200
                    by_cases c21 : t115.size + t116.size ≤ 9223372036854775807
                    · rw [if_pos c21] at H
                      have c21b0 := eq_true c21
                      have c21b1 : decide (t115.size + t116.size ≤ 9223372036854775807) = true := decide_eq_true c21
                      try have c21b2 : (9223372036854775807 < t115.size + t116.size) = False := eq_false (Nat.not_lt.2 c21)
                      by_cases c22 : ((t115 ++ t116).size : Int) > 24
                      · rw [if_pos c22] at H
                        have c22b0 : decide (24 < ((t115 ++ t116).size : Int)) = true := decide_eq_true c22
                        have c22b8 : decide (24 < ((t115.size : Int) + (t116.size : Int))) = true := by have hz_ : ((((t115 ++ t116).size : Nat)) : Int) = (t115.size : Int) + (t116.size : Int) := (by have := ByteArray.size_append (a := t115) (b := t116); omega); rw [← hz_]; exact decide_eq_true c22
                        have c22b9 : decide (24 < t115.size + t116.size) = true := by have hz_ : ((((t115 ++ t116).size : Nat)) : Int) = (t115.size : Int) + (t116.size : Int) := (by have := ByteArray.size_append (a := t115) (b := t116); omega); exact decide_eq_true (by omega)
                        have c22b1 : decide (24 < (t115 ++ t116).size) = true := decide_eq_true (by omega)
                        clear c22; simp only [Option.some.injEq, Prod.mk.injEq] at H
                        obtain ⟨rfl, rfl⟩ := H
                        try go_wp2
                        have n0_ := Aside0.mk (Kd.R_drew HO_4.out)
                        have n1_ := Aside0.mk (blk_drew b9a.out)
                        have n2_ := Aside0.mk (below_drew1 HB.out)
                        clear HO_4 b9a HB; have HO_4 := n0_; have b9a := n1_; have HB := n2_; clear n0_ n1_ n2_; obtain ⟨Ao24, co24, eo24⟩ := Kd.R_slice HO_4.out
                        (first | subst eo24 | (injection eo24 with f1_ f2_ f3_; have f4_ := f1_.symm; have f5_ := f3_.symm; clear f1_ f2_ f3_; subst f4_; subst f5_))
                        refine start_ (n := 10) (S := fun w' => w'.cell? ⟨c9a, 0, none⟩ = some (.int .i64 ((rd_T95 l0 a9a).f0)) ∧ w'.cell? ⟨c9a, 1, none⟩ = some (.int .i64 ((rd_T95 l0 a9a).f1))) (ds := []) #[ff,ff,ff,ff,ff,ff,ff,ff,ff,ff] (by kernel_rfl) rfl rfl ⟨bc b9a 0, bc b9a 1⟩ (fun hHeld => ?_); refine with_tabW impl_tokens.tab9 impl_tokens.bits9 (fun HT_ HW_ => ?_)
                        generalize wc.drew = w23 at HO_4 b9a HB hHeld ⊢
                        refine pu 0 35 (tb 10 1) HT_ ?_
                        refine pu 1 36 (tb 10 3) HT_ ?_
                        refine pu 4 39 (tb 10 19) HT_ ?_
                        refine pu 5 40 (tb 10 51) HT_ ?_
                        refine tk 2 37 (tb 10 55) rfl rfl HT_ HW_ hHeld (by rintro w' ⟨s0, s1⟩; go_simp; with_reducible rfl) ?_
                        refine tk 6 41 (tb 10 119) rfl rfl HT_ HW_ hHeld (by rintro w' ⟨s0, s1⟩; go_simp; with_reducible rfl) ?_
                        refine one_ (i := 3) (N := some 38) #[tt,tt,tt,tt,tt,tt,tt,ff,ff,ff] rfl rfl (one_of HT_.out (by kernel_rfl)) (by decide) (fun K hK => ?_)
                        refine goes_ Try.func94 (by kernel_rfl) rfl #[.slice Ao24 x4_1.length co24, .int .i64 ((rd_T95 l0 a9a).f0)] (by rfl) rfl rfl (by (try simp only [List.map_toArray, List.map_cons, List.map_nil]); first | done | rfl | (simp only [List.length_drop, List.length_take]; rfl)) ?_
                        with_reducible refine (impl_bytesIn.calls _ _ x4_1 ((rd_T95 l0 a9a).f0) t115 _ ?side1 ?side2 A19.out).mono ?_
                        (case side1 => exact cX ((Kd.R_reads' HO_4.out).2.2))
                        (case side2 => exact (Kd.R_reads' HO_4.out).2.1)
                        rintro e w25 ⟨rfl, hb⟩
                        refine ⟨_, rfl, ?_⟩
                        replace HO_4 := Aside0.mk (Kd.R_below (rr HO_4) hb); replace b9a := bq b9a hb; replace HB := bh HB hb
                        (try clear hb); (try clear hb2); (try clear hk); (try clear hi); refine hK.out _ _ ⟨bc b9a 0, bc b9a 1⟩ (fun hHeld => ?_)
                        clear hK K; refine norm_ (a' := ?_) ?_ ?_
                        rotate_left
                        · show Act.put _ (some 38) _ = _
                          simp only [putL, i64_w, i32_w]; rfl
                        refine one_ (i := 7) (N := some 42) #[tt,tt,tt,tt,tt,tt,tt,tt,ff,ff] rfl rfl (one_of HT_.out (by kernel_rfl)) (by decide) (fun K hK => ?_)
                        refine goes_ Try.func94 (by kernel_rfl) rfl #[.slice Ao24 x4_1.length co24, .int .i64 ((rd_T95 l0 a9a).f1)] (by rfl) rfl rfl (by (try simp only [List.map_toArray, List.map_cons, List.map_nil]); first | done | rfl | (simp only [List.length_drop, List.length_take]; rfl)) ?_
                        with_reducible refine (impl_bytesIn.calls _ _ x4_1 ((rd_T95 l0 a9a).f1) t116 _ ?side1 ?side2 A20.out).mono ?_
                        (case side1 => exact cX ((Kd.R_reads' HO_4.out).2.2))
                        (case side2 => exact (Kd.R_reads' HO_4.out).2.1)
                        rintro e w26 ⟨rfl, hb⟩
                        refine ⟨_, rfl, ?_⟩
                        replace HO_4 := Aside0.mk (Kd.R_below (rr HO_4) hb); replace b9a := bq b9a hb; replace HB := bh HB hb
                        (try clear hb); (try clear hb2); (try clear hk); (try clear hi); refine hK.out _ _ ⟨bc b9a 0, bc b9a 1⟩ (fun hHeld => ?_)
                        clear hK K; refine norm_ (a' := ?_) ?_ ?_
                        rotate_left
                        · show Act.put _ (some 42) _ = _
                          simp only [putL, i64_w, i32_w]; rfl
                        refine pu 8 43 (tb 10 511) HT_ ?_
                        refine pu 9 7 (tb 10 1023) HT_ ?_
                        refine done_ (done_of HT_.out (by kernel_rfl)) ?_
                        try go_wp2
                        go_ret2
                        exact ⟨_, eR, rX HO_4.out, iB HB⟩
                      · rw [if_neg c22] at H
                        have c22b0 : decide (24 < ((t115 ++ t116).size : Int)) = false := decide_eq_false c22
                        have c22b8 : decide (24 < ((t115.size : Int) + (t116.size : Int))) = false := by have hz_ : ((((t115 ++ t116).size : Nat)) : Int) = (t115.size : Int) + (t116.size : Int) := (by have := ByteArray.size_append (a := t115) (b := t116); omega); rw [← hz_]; exact decide_eq_false c22
                        have c22b9 : decide (24 < t115.size + t116.size) = false := by have hz_ : ((((t115 ++ t116).size : Nat)) : Int) = (t115.size : Int) + (t116.size : Int) := (by have := ByteArray.size_append (a := t115) (b := t116); omega); exact decide_eq_false (by omega)
                        have c22b1 : decide (24 < (t115 ++ t116).size) = false := decide_eq_false (by omega)
                        clear c22; replace H := Option.bind_eq_some_iff.mp H
                        obtain ⟨t117, A270, H⟩ := H
                        replace H : (if t117 = true then (some (x4_1, false)) else (if x4_1.length < 8796093022208 then (impl_tokens.l0 kj9 (x4_1 ++ [t115 ++ t116]) l0 (l0.length : Int) (wrap64 (a9a + 1))) else (none))) = some (r1, r2) := H
                        have A27 := Aside0.mk A270
                        clear A270
                        by_cases c28 : t117 = true
                        · subst c28
                          have H1 : (some (x4_1, false)) = some (r1, r2) := by rw [if_pos rfl] at H; exact H
                          clear H; have H := H1
                          clear H1; simp only [Option.some.injEq, Prod.mk.injEq] at H
                          obtain ⟨rfl, rfl⟩ := H
                          try go_wp2
                          have n0_ := Aside0.mk (Kd.R_drew HO_4.out)
                          have n1_ := Aside0.mk (blk_drew b9a.out)
                          have n2_ := Aside0.mk (below_drew1 HB.out)
                          clear HO_4 b9a HB; have HO_4 := n0_; have b9a := n1_; have HB := n2_; clear n0_ n1_ n2_; obtain ⟨Ao30, co30, eo30⟩ := Kd.R_slice HO_4.out
                          (first | subst eo30 | (injection eo30 with f1_ f2_ f3_; have f4_ := f1_.symm; have f5_ := f3_.symm; clear f1_ f2_ f3_; subst f4_; subst f5_))
                          refine start_ (n := 10) (S := fun w' => w'.cell? ⟨c9a, 0, none⟩ = some (.int .i64 ((rd_T95 l0 a9a).f0)) ∧ w'.cell? ⟨c9a, 1, none⟩ = some (.int .i64 ((rd_T95 l0 a9a).f1))) (ds := []) #[ff,ff,ff,ff,ff,ff,ff,ff,ff,ff] (by kernel_rfl) rfl rfl ⟨bc b9a 0, bc b9a 1⟩ (fun hHeld => ?_); refine with_tabW impl_tokens.tab9 impl_tokens.bits9 (fun HT_ HW_ => ?_)
                          generalize wc.drew = w29 at HO_4 b9a HB hHeld ⊢
                          refine pu 0 35 (tb 10 1) HT_ ?_
                          refine pu 1 36 (tb 10 3) HT_ ?_
                          refine pu 4 39 (tb 10 19) HT_ ?_
                          refine pu 5 40 (tb 10 51) HT_ ?_
                          refine tk 2 37 (tb 10 55) rfl rfl HT_ HW_ hHeld (by rintro w' ⟨s0, s1⟩; go_simp; with_reducible rfl) ?_
                          refine tk 6 41 (tb 10 119) rfl rfl HT_ HW_ hHeld (by rintro w' ⟨s0, s1⟩; go_simp; with_reducible rfl) ?_
                          refine one_ (i := 3) (N := some 38) #[tt,tt,tt,tt,tt,tt,tt,ff,ff,ff] rfl rfl (one_of HT_.out (by kernel_rfl)) (by decide) (fun K hK => ?_)
                          refine goes_ Try.func94 (by kernel_rfl) rfl #[.slice Ao30 x4_1.length co30, .int .i64 ((rd_T95 l0 a9a).f0)] (by rfl) rfl rfl (by (try simp only [List.map_toArray, List.map_cons, List.map_nil]); first | done | rfl | (simp only [List.length_drop, List.length_take]; rfl)) ?_
                          with_reducible refine (impl_bytesIn.calls _ _ x4_1 ((rd_T95 l0 a9a).f0) t115 _ ?side1 ?side2 A19.out).mono ?_
                          (case side1 => exact cX ((Kd.R_reads' HO_4.out).2.2))
                          (case side2 => exact (Kd.R_reads' HO_4.out).2.1)
                          rintro e w31 ⟨rfl, hb⟩
                          refine ⟨_, rfl, ?_⟩
                          replace HO_4 := Aside0.mk (Kd.R_below (rr HO_4) hb); replace b9a := bq b9a hb; replace HB := bh HB hb
                          (try clear hb); (try clear hb2); (try clear hk); (try clear hi); refine hK.out _ _ ⟨bc b9a 0, bc b9a 1⟩ (fun hHeld => ?_)
                          clear hK K; refine norm_ (a' := ?_) ?_ ?_
                          rotate_left
                          · show Act.put _ (some 38) _ = _
                            simp only [putL, i64_w, i32_w]; rfl
                          refine one_ (i := 7) (N := some 42) #[tt,tt,tt,tt,tt,tt,tt,tt,ff,ff] rfl rfl (one_of HT_.out (by kernel_rfl)) (by decide) (fun K hK => ?_)
                          refine goes_ Try.func94 (by kernel_rfl) rfl #[.slice Ao30 x4_1.length co30, .int .i64 ((rd_T95 l0 a9a).f1)] (by rfl) rfl rfl (by (try simp only [List.map_toArray, List.map_cons, List.map_nil]); first | done | rfl | (simp only [List.length_drop, List.length_take]; rfl)) ?_
                          with_reducible refine (impl_bytesIn.calls _ _ x4_1 ((rd_T95 l0 a9a).f1) t116 _ ?side1 ?side2 A20.out).mono ?_
                          (case side1 => exact cX ((Kd.R_reads' HO_4.out).2.2))
                          (case side2 => exact (Kd.R_reads' HO_4.out).2.1)
                          rintro e w32 ⟨rfl, hb⟩
                          refine ⟨_, rfl, ?_⟩
                          replace HO_4 := Aside0.mk (Kd.R_below (rr HO_4) hb); replace b9a := bq b9a hb; replace HB := bh HB hb
                          (try clear hb); (try clear hb2); (try clear hk); (try clear hi); refine hK.out _ _ ⟨bc b9a 0, bc b9a 1⟩ (fun hHeld => ?_)
                          clear hK K; refine norm_ (a' := ?_) ?_ ?_
                          rotate_left
                          · show Act.put _ (some 42) _ = _
                            simp only [putL, i64_w, i32_w]; rfl
                          refine pu 8 43 (tb 10 511) HT_ ?_
                          refine pu 9 7 (tb 10 1023) HT_ ?_
                          refine done_ (done_of HT_.out (by kernel_rfl)) ?_
                          try go_wp2_with (first | (go_at_call 95; (with_reducible refine (slices_Contains_string_string.calls kj9 _ _ x4_1 (t115 ++ t116) true _ ?side1 ?side2 A27.out).mono ?_); (case side1 => exact cX ((Kd.R_reads' HO_4.out).2.2)); (case side2 => exact (Kd.R_reads' HO_4.out).2.1); rintro e w' ⟨rfl, ⟨nd, rfl⟩⟩))
                          go_ret2
                          exact ⟨_, eR, rX HO_4.out, iB HB⟩
                        · replace c28 := Bool.eq_false_iff.mpr c28
                          subst c28
                          have H1 : (if x4_1.length < 8796093022208 then (impl_tokens.l0 kj9 (x4_1 ++ [t115 ++ t116]) l0 (l0.length : Int) (wrap64 (a9a + 1))) else (none)) = some (r1, r2) := by rw [if_neg (show ¬ (false = true) by decide)] at H; exact H
                          clear H; have H := H1
                          clear H1
                          by_cases c33 : x4_1.length < 8796093022208
                          · rw [if_pos c33] at H
                            have LMc33 := Aside0.mk c33
                            clear c33; obtain ⟨y118, hy118⟩ : ∃ y_ : List ByteArray, y_ = (x4_1 ++ [t115 ++ t116]) := ⟨_, rfl⟩
                            replace H : (impl_tokens.l0 kj9 y118 l0 (l0.length : Int) (wrap64 (a9a + 1))) = some (r1, r2) := by first | (rw [hy118]; with_reducible exact H) | (have H2_ := (Option.bind_some _ _).symm.trans H; rw [hy118]; with_reducible exact H2_) | (have H2_ := (Option.bind_some _ _).symm.trans H; with_reducible exact H2_) | with_reducible exact H | (rw [hy118]; exact H) | exact H
                            have Ny118 := Aside0.mk hy118
                            clear hy118; have H' := Aside0.mk H
                            clear H
                            try go_wp2
                            have n0_ := Aside0.mk (Kd.R_drew HO_4.out)
                            have n1_ := Aside0.mk (blk_drew b9a.out)
                            have n2_ := Aside0.mk (below_drew1 HB.out)
                            clear HO_4 b9a HB; have HO_4 := n0_; have b9a := n1_; have HB := n2_; clear n0_ n1_ n2_; obtain ⟨Ao35, co35, eo35⟩ := Kd.R_slice HO_4.out
                            (first | subst eo35 | (injection eo35 with f1_ f2_ f3_; have f4_ := f1_.symm; have f5_ := f3_.symm; clear f1_ f2_ f3_; subst f4_; subst f5_))
                            refine start_ (n := 10) (S := fun w' => w'.cell? ⟨c9a, 0, none⟩ = some (.int .i64 ((rd_T95 l0 a9a).f0)) ∧ w'.cell? ⟨c9a, 1, none⟩ = some (.int .i64 ((rd_T95 l0 a9a).f1))) (ds := []) #[ff,ff,ff,ff,ff,ff,ff,ff,ff,ff] (by kernel_rfl) rfl rfl ⟨bc b9a 0, bc b9a 1⟩ (fun hHeld => ?_); refine with_tabW impl_tokens.tab9 impl_tokens.bits9 (fun HT_ HW_ => ?_)
                            generalize wc.drew = w34 at HO_4 b9a HB hHeld ⊢
                            refine pu 0 35 (tb 10 1) HT_ ?_
                            refine pu 1 36 (tb 10 3) HT_ ?_
                            refine pu 4 39 (tb 10 19) HT_ ?_
                            refine pu 5 40 (tb 10 51) HT_ ?_
                            refine tk 2 37 (tb 10 55) rfl rfl HT_ HW_ hHeld (by rintro w' ⟨s0, s1⟩; go_simp; with_reducible rfl) ?_
                            refine tk 6 41 (tb 10 119) rfl rfl HT_ HW_ hHeld (by rintro w' ⟨s0, s1⟩; go_simp; with_reducible rfl) ?_
                            refine one_ (i := 3) (N := some 38) #[tt,tt,tt,tt,tt,tt,tt,ff,ff,ff] rfl rfl (one_of HT_.out (by kernel_rfl)) (by decide) (fun K hK => ?_)
                            refine goes_ Try.func94 (by kernel_rfl) rfl #[.slice Ao35 x4_1.length co35, .int .i64 ((rd_T95 l0 a9a).f0)] (by rfl) rfl rfl (by (try simp only [List.map_toArray, List.map_cons, List.map_nil]); first | done | rfl | (simp only [List.length_drop, List.length_take]; rfl)) ?_
                            with_reducible refine (impl_bytesIn.calls _ _ x4_1 ((rd_T95 l0 a9a).f0) t115 _ ?side1 ?side2 A19.out).mono ?_
                            (case side1 => exact cX ((Kd.R_reads' HO_4.out).2.2))
                            (case side2 => exact (Kd.R_reads' HO_4.out).2.1)
                            rintro e w36 ⟨rfl, hb⟩
                            refine ⟨_, rfl, ?_⟩
                            replace HO_4 := Aside0.mk (Kd.R_below (rr HO_4) hb); replace b9a := bq b9a hb; replace HB := bh HB hb
                            (try clear hb); (try clear hb2); (try clear hk); (try clear hi); refine hK.out _ _ ⟨bc b9a 0, bc b9a 1⟩ (fun hHeld => ?_)
                            clear hK K; refine norm_ (a' := ?_) ?_ ?_
                            rotate_left
                            · show Act.put _ (some 38) _ = _
                              simp only [putL, i64_w, i32_w]; rfl
                            refine one_ (i := 7) (N := some 42) #[tt,tt,tt,tt,tt,tt,tt,tt,ff,ff] rfl rfl (one_of HT_.out (by kernel_rfl)) (by decide) (fun K hK => ?_)
                            refine goes_ Try.func94 (by kernel_rfl) rfl #[.slice Ao35 x4_1.length co35, .int .i64 ((rd_T95 l0 a9a).f1)] (by rfl) rfl rfl (by (try simp only [List.map_toArray, List.map_cons, List.map_nil]); first | done | rfl | (simp only [List.length_drop, List.length_take]; rfl)) ?_
                            with_reducible refine (impl_bytesIn.calls _ _ x4_1 ((rd_T95 l0 a9a).f1) t116 _ ?side1 ?side2 A20.out).mono ?_
                            (case side1 => exact cX ((Kd.R_reads' HO_4.out).2.2))
                            (case side2 => exact (Kd.R_reads' HO_4.out).2.1)
                            rintro e w37 ⟨rfl, hb⟩
                            refine ⟨_, rfl, ?_⟩
                            replace HO_4 := Aside0.mk (Kd.R_below (rr HO_4) hb); replace b9a := bq b9a hb; replace HB := bh HB hb
                            (try clear hb); (try clear hb2); (try clear hk); (try clear hi); refine hK.out _ _ ⟨bc b9a 0, bc b9a 1⟩ (fun hHeld => ?_)
                            clear hK K; refine norm_ (a' := ?_) ?_ ?_
                            rotate_left
                            · show Act.put _ (some 42) _ = _
                              simp only [putL, i64_w, i32_w]; rfl
                            refine pu 8 43 (tb 10 511) HT_ ?_
                            refine pu 9 7 (tb 10 1023) HT_ ?_
                            refine done_ (done_of HT_.out (by kernel_rfl)) ?_
                            try go_wp2_with (first | (go_at_call 95; (with_reducible refine (slices_Contains_string_string.calls kj9 _ _ x4_1 (t115 ++ t116) false _ ?side1 ?side2 A27.out).mono ?_); (case side1 => exact cX ((Kd.R_reads' HO_4.out).2.2)); (case side2 => exact (Kd.R_reads' HO_4.out).2.1); rintro e w' ⟨rfl, ⟨nd, rfl⟩⟩) | ((with_reducible refine gate_builtin (b := .append) (xs := #[.tmp 53, .tmp 55]) rfl ?_); at_builtin; refine Kd.R_append Kd.string (w0 := w) w.heap.size rfl (.tmp 53) (.tmp 55) 35 9 (.string ⟨#[]⟩) 16 rfl Try.underlying35 info9 rfl (by decide) (by omega) (.slice Ao35 x4_1.length co35) x4_1 (t115 ++ t116) [.string (t115 ++ t116)] (fun _ => True) (fun _ => False) rfl rfl ?aP (fun _ hk => hk.elim) ?aF ?aO ?aB ?aS ?aL ?_; (case aP => exact rfl); (case aB => exact (be HB)); (case aF => exact (fun _ _ => trivial)); (case aO => exact (rr HO_4)); (case aS => exact (below_size (be HB))); (case aL => have := LMc33.out; omega); intro v119 w38 ho hb hg hat; rw [← Ny118.out] at ho; have n0_ := Aside0.mk (blk_grown (g := c9a) (o := .cells #[.int .i64 ((rd_T95 l0 a9a).f0), .int .i64 ((rd_T95 l0 a9a).f1)] 95 (0, 0)) kB hg (Kd.R_ne HO_4.out b9a.out (by decide))); have n1_ := Aside0.mk (hb); have HO120 := Aside0.mk (ho); clear HO_4 b9a HB; have b9a := n0_; have HB := n1_; clear n0_ n1_; clear ho hb hg hat))
                            go_roundg kj9
                            case measure => have := HK1.out; have := HJ9.out; omega
                            case rel => exact ⟨(y118), (wrap64 (a9a + 1)), sR, H', ⟨by have := HK1.out; have := HJ9.out; omega⟩, ⟨rr HO120⟩, ⟨iB HB⟩⟩
                          · rw [if_neg c33] at H
                            exact absurd H (by simp)
                    · rw [if_neg c21] at H
                      exact absurd H (by simp)
            · rw [if_neg c9] at H
              exact absurd H (by simp)
          · rw [if_neg c8] at H
            exact absurd H (by simp)
        · rw [if_neg c7] at H
          have c7b0 : decide (a9a < (l0.length : Int)) = false := decide_eq_false c7
          clear c7; simp only [Option.some.injEq, Prod.mk.injEq] at H
          obtain ⟨rfl, rfl⟩ := H
          go_wp2
          go_ret2
          exact ⟨_, eR, rX HO_4.out, iB HB⟩
def impl_VocabOk.f (k : Nat) (l0_0 : List (S95)) : Option (Bool) := (impl_tokens.f k l0_0).bind fun bt122 => (some bt122.2)
theorem impl_VocabOk.mono : ∀ a0 k, LeO (impl_VocabOk.f k a0) (impl_VocabOk.f (k + 1) a0) := by
  intro a0 k
  unfold impl_VocabOk.f
  repeat' first
      | (with_reducible exact impl_tokens.mono _ _)
      | (with_reducible exact LeO.refl _)
      | (with_reducible exact LeO.none _)
      | (with_reducible refine LeO.ite ?_ ?_)
      | (with_reducible refine LeO.bind ?_ (fun _ => ?_))
      | exact impl_tokens.mono _ _
      | exact LeO.none _
      | refine LeO.ite ?_ ?_
      | refine LeO.bind ?_ (fun _ => ?_)
set_option maxHeartbeats 8000000 in
set_option maxRecDepth 100000 in
theorem impl_VocabOk.calls (k : Nat) (A0_0 : Option Addr) (c0_0 : Nat) (l0_0 : List (S95)) (r : Bool) (w : World) (hr0_0 : Kd.C k95 w A0_0 l0_0.length l0_0) (hc0_0 : l0_0.length ≤ c0_0) (h : impl_VocabOk.f k l0_0 = some r) :
    Calls Try.prog 59 #[.agg #[.slice A0_0 l0_0.length c0_0]] w fun e w' => e = .returned (.bool r) ∧ Below w.heap.size w w' := by
  have hu26 := Try.underlying26
  have HR0_0 := Aside0.mk hr0_0
  have HC0_0 := Aside0.mk hc0_0
  clear hr0_0 hc0_0; have HB := Aside0.mk (Below.refl w.heap.size w)
  have H : ((impl_tokens.f k l0_0).bind fun bt122 => (some bt122.2)) = some r := h
  clear h; replace H := Option.bind_eq_some_iff.mp H
  obtain ⟨⟨t122, t123⟩, A20, H⟩ := H
  replace H : (some t123) = some r := H
  have A2 := Aside0.mk A20
  clear A20; obtain rfl := Option.some.inj H
  go_enter Try.func59, Try.ntmps59
  go_wp2_with (first | ((with_reducible refine gate_dst (N := 1) rfl ?_); refine bX 1 #[.slice A0_0 l0_0.length c0_0] 26 ?_; intro gb121 hg w3 hbox hb; have BK121 := Aside0.mk (hbox); have GW121 := bs HB hg; have GE121 := bs HB hg; replace HB := bh HB hb; clear hb hbox hg; have hcz4_0 : w3.cell? ⟨gb121, 0, none⟩ = some (.slice A0_0 l0_0.length c0_0) := bc BK121 0; have hfz4_0 := blk_frozen BK121.out 0) | ((with_reducible refine gate_callee (f := 82) rfl ?_); refine goesC_ (some 8) Try.func82 #[.slice A0_0 l0_0.length c0_0] ?_; (with_reducible refine (impl_tokens.calls k _ _ l0_0 t122 t123 _ ?side1 ?side2 A2.out).mono ?_); (case side1 => exact cX (Kd.C_below HR0_0.out HB.out)); (case side2 => exact HC0_0.out); rintro e w5 ⟨v124, rfl, ho0, hb⟩; refine ⟨_, rfl, ?_⟩; have HO125 := Aside0.mk (Kd.R_lower ho0 (below_size (be HB))); replace BK121 := bq BK121 hb; replace HB := bh HB hb; (try clear hb); (try clear hb2); (try clear hk); (try clear hi)))
  go_ret
  exact ⟨eR, iB HB⟩
-- NOT PRINTED: function 83 (impl_Note_83)
def impl_Memo_at.l0 : Nat → List (S86) → ByteArray → Int → Option (Int)
 | 0, _, _, _ => none
 | k + 1, x0, x1, x5 => if x5 < (x0.length : Int) then (if 0 ≤ x5 then (if ((rd_T86 x0 x5).f0).toList = x1.toList then (some x5) else (impl_Memo_at.l0 k x0 x1 (wrap64 (x5 + 1)))) else (none)) else (some (-1))
def impl_Memo_at.f (k : Nat) (a0_0 : Int) (l0_1 : List (S86)) (a1 : ByteArray) : Option (Int) := impl_Memo_at.l0 k l0_1 a1 0
theorem impl_Memo_at.mono_l : ∀ k, (∀ y0 y1 y2, LeO (impl_Memo_at.l0 k y0 y1 y2) (impl_Memo_at.l0 (k + 1) y0 y1 y2))
 | 0 => fun _ _ _ r h => by simp [impl_Memo_at.l0] at h
 | k + 1 => by
  have ih0 := impl_Memo_at.mono_l k
  ·intro y0 y1 y2
   unfold impl_Memo_at.l0
   repeat' first
   | (with_reducible exact ih0 _ _ _)
   | (with_reducible exact LeO.refl _)
   | (with_reducible exact LeO.none _)
   | (with_reducible refine LeO.ite ?_ ?_)
   | (with_reducible refine LeO.bind ?_ (fun _ => ?_))
   | exact ih0 _ _ _
   | exact LeO.none _
   | refine LeO.ite ?_ ?_
   | refine LeO.bind ?_ (fun _ => ?_)
theorem impl_Memo_at.mono : ∀ a0_0 l0_1 a1 k, LeO (impl_Memo_at.f k a0_0 l0_1 a1) (impl_Memo_at.f (k + 1) a0_0 l0_1 a1) := fun _ l0_1 a1 k => impl_Memo_at.mono_l k l0_1 a1 0
theorem impl_Memo_at.pred (s word : ByteArray) (v : Value) (B : Nat) (w0 W : World) (hB : B < w0.heap.size) (hcell : w0.cell? ⟨B, 0, none⟩ = some (.string word)) (hb : Below w0.heap.size w0 W) :
  Calls Try.prog 84 #[.agg #[.string s, v], .pointer (some ⟨B, 0, none⟩)] W fun e w' => e = .returned (.bool (s.toList == word.toList)) ∧ Below w0.heap.size w0 w' := by
 have hc : W.cell? ⟨B, 0, none⟩ = some (.string word) := (hb.cell (p := ⟨B, 0, none⟩) hB).trans hcell
 have hBW : B < W.heap.size := Nat.lt_of_lt_of_le hB hb.size
 have hne : B ≠ W.heap.size := by omega
 go_enter Try.func84, Try.ntmps84
 go_wp2
 all_goals (go_ret; exact ⟨by first | rfl | (simp; done) | (simp [*]; done), hb.alloc hb.size _⟩)
set_option maxHeartbeats 8000000 in
set_option maxRecDepth 100000 in
theorem impl_Memo_at.index (k : Nat) (A0 : Option Addr) (c0 : Nat) (l0 : List (S86)) (a1 : ByteArray) (r : Int) (w : World) (hr0 : Kd.C k86 w A0 l0.length l0) (B : Nat) (hB : B < w.heap.size) (hcell : w.cell? ⟨B, 0, none⟩ = some (.string a1)) (h : impl_Memo_at.l0 k l0 a1 0 = some r) :
  Calls Try.prog 83 #[.slice A0 l0.length c0, .func (.func 84) #[] #[.pointer (some ⟨B, 0, none⟩)]] w fun e w' => e = .returned (.int .i64 r) ∧ Below w.heap.size w w' := by
 have HR0 := Aside0.mk hr0
 clear hr0; have HP := Aside0.mk (fun (s : ByteArray) (v : Value) (W : World) => impl_Memo_at.pred s a1 v B w W hB hcell)
 clear hcell hB; have H' := Aside0.mk h
 clear h
 go_enter Try.func83, Try.ntmps83
 go_wp2
 go_loopg [5, 8] k (fun kq v5 v8 w' => ∃ (x8_1 : Int), v8 = .int .i64 x8_1 ∧ Aside0 (impl_Memo_at.l0 kq l0 a1 x8_1 = some r) ∧ Aside0 (kq ≤ k) ∧ Aside0 (Below w.heap.size w w'))
 case atStart => exact ⟨(0), sR, H', ⟨Nat.le_refl _⟩, ⟨Below.refl _ _⟩⟩
 case round =>
  clear H'
  obtain ⟨x5_1, rfl, HA, HK1, HB⟩ := hrel
  cases gk with
  | zero => exact absurd HA.out (by simp [impl_Memo_at.l0])
  | succ k1 =>
   have H := HA.out; clear HA; simp only [impl_Memo_at.l0] at H
   by_cases c3 : x5_1 < (l0.length : Int)
   ·rw [if_pos c3] at H
    have c3b0 : decide (x5_1 < (l0.length : Int)) = true := decide_eq_true c3
    by_cases c4 : 0 ≤ x5_1
    ·rw [if_pos c4] at H
     have c4b0 : decide (0 ≤ x5_1) = true := decide_eq_true c4
     have HRW := Aside0.mk (Kd.C_below HR0.out HB.out)
     obtain ⟨ad132, A132_1, c132_1, e132, hx132_0, hx132_1, hl132_1, hi132_1⟩ := at_T86 HRW.out x5_1 c4 c3
     cases e132
     have hcall := HP.out (rd_T86 l0 x5_1).f0 (.slice A132_1 (rd_T86 l0 x5_1).f1.length c132_1) _ HB.out
     clear hi132_1 hl132_1 HP; replace c3 := eq_true c3
     replace c4 := eq_true c4
     by_cases c5 : ((rd_T86 l0 x5_1).f0).toList = a1.toList
     ·rw [if_pos c5] at H
      obtain rfl := Option.some.inj H
      have hq : (((rd_T86 l0 x5_1).f0).toList == a1.toList) = true := beq_iff_eq.mpr c5
      rw [hq] at hcall
      go_wp2_with (go_at_call 84; refine hcall.mono ?_; rintro e w' ⟨rfl, hb'⟩)
      go_ret
      exact ⟨by first | rfl | (simp; done) | (simp [*]; done), hb'⟩
     ·rw [if_neg c5] at H
      have hq : (((rd_T86 l0 x5_1).f0).toList == a1.toList) = false := beq_eq_false_iff_ne.mpr c5
      rw [hq] at hcall
      have H' := Aside0.mk H
      clear H
      go_wp2_with (go_at_call 84; refine hcall.mono ?_; rintro e w' ⟨rfl, hb'⟩)
      go_roundg k1
      case measure => have := HK1.out; omega
      case rel => exact ⟨(wrap64 (x5_1 + 1)), sR, H', ⟨by have := HK1.out; omega⟩, ⟨hb'⟩⟩
    ·rw [if_neg c4] at H
     exact absurd H (by simp)
   ·rw [if_neg c3] at H
    have c3b0 : decide (x5_1 < (l0.length : Int)) = false := decide_eq_false c3
    obtain rfl := Option.some.inj H
    go_wp2
    go_ret
    exact ⟨by first | rfl | (simp; done) | (simp [*]; done), HB.out⟩
set_option maxHeartbeats 8000000 in
set_option maxRecDepth 100000 in
theorem impl_Memo_at.calls (k : Nat) (a0_0 : Int) (A0_1 : Option Addr) (c0_1 : Nat) (l0_1 : List (S86)) (a1 : ByteArray) (r : Int) (w : World) (hr0_1 : Kd.C k86 w A0_1 l0_1.length l0_1) (hc0_1 : l0_1.length ≤ c0_1) (h : impl_Memo_at.f k a0_0 l0_1 a1 = some r) :
  Calls Try.prog 60 #[.agg #[.int .i64 a0_0, .slice A0_1 l0_1.length c0_1], .string a1] w fun e w' => e = .returned (.int .i64 r) ∧ Below w.heap.size w w' := by
 have HR := Aside0.mk hr0_1
 have HB := Aside0.mk (Below.refl w.heap.size w)
 clear hr0_1
 go_enter Try.func60, Try.ntmps60
 go_wp2_with (first
  | ((with_reducible refine gate_dst (N := 2) rfl ?_); refine bX 2 #[.int .i64 a0_0, .slice A0_1 l0_1.length c0_1] 31 ?_; intro gbM hg w1 hbox hb; have HR1 := Aside0.mk (Kd.C_below HR.out hb); have HB1 := Aside0.mk (below_step HB.out hb); clear HR HB; have HR := HR1; have HB := HB1; clear HR1 HB1; have BKM := Aside0.mk hbox; clear hb hbox hg)
  | ((with_reducible refine gate_dst (N := 3) rfl ?_); refine bX 3 #[.string a1] 9 ?_; intro gbW hg w2 hbox hb; have HR1 := Aside0.mk (Kd.C_below HR.out hb); have HB1 := Aside0.mk (below_step HB.out hb); have BKM1 := bq BKM hb; clear HR HB BKM; have HR := HR1; have HB := HB1; have BKM := BKM1; clear HR1 HB1 BKM1; have BKW := Aside0.mk hbox; clear hb hbox hg; have hczM := bc (v := .slice A0_1 l0_1.length c0_1) BKM 1; have hfzM := blk_frozen BKM.out 1)
  | (go_at_call 83; refine (impl_Memo_at.index k A0_1 c0_1 l0_1 a1 r _ HR.out _ (blk_lt BKW.out) (bc BKW 0) h).mono ?_; rintro e w' ⟨rfl, hb'⟩))
 go_ret
 exact ⟨rfl, below_step HB.out hb'⟩
end Go.Proofs.Ytddebnchbbmbkaa.PFnExactRecall
