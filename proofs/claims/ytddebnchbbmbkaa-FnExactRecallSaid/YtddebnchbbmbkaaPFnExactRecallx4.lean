-- The machine side of a law: written by a program of this session (wip/tools), a turned print.
import Derived.Test.YtddebnchbbmbkaaPFnExactRecallx0
import Derived.Test.YtddebnchbbmbkaaPFnExactRecallx1
namespace Go.Proofs.Ytddebnchbbmbkaa.PFnExactRecall
open Go.RowKit Go.Proofs.YtddebnchbbmbkaaW.PrintWords Go.Proofs.YtddebnchbbmbkaaW.PrintLast Go.Proofs.YtddebnchbbmbkaaW.PrintMore
attribute [local go_sem] max2_int min2_int max_two min_two max_three min_three max_four min_four   -- for this text's walks alone
set_option linter.unusedVariables false
set_option linter.unusedSimpArgs false
attribute [local go_sem high] eqA95
def slices_Equal_int_int.l0 : Nat → List Int → List Int → Int → Int → Option (Bool)
 | 0, _, _, _, _ => none
 | k + 1, x0, x1, x12, x13 => if x13 < x12 then (if 0 ≤ x13 then (if x13 < (x0.length : Int) then (if x13 < (x1.length : Int) then (if (rd x0 x13) = (rd x1 x13) then (slices_Equal_int_int.l0 k x0 x1 x12 (wrap64 (x13 + 1))) else (some false)) else (none)) else (none)) else (none)) else (some true)
def slices_Equal_int_int.f (k : Nat) (l0 : List Int) (l1 : List Int) : Option (Bool) := if (l0.length : Int) = (l1.length : Int) then (slices_Equal_int_int.l0 k l0 l1 (l0.length : Int) 0) else (some false)
theorem slices_Equal_int_int.mono_l : ∀ k, (∀ y0 y1 y2 y3, LeO (slices_Equal_int_int.l0 k y0 y1 y2 y3) (slices_Equal_int_int.l0 (k + 1) y0 y1 y2 y3))
 | 0 => fun _ _ _ _ r h => by simp [slices_Equal_int_int.l0] at h
 | k + 1 => by
  have ih0 := slices_Equal_int_int.mono_l k
  ·intro y0 y1 y2 y3
   unfold slices_Equal_int_int.l0
   repeat' first
   | (with_reducible exact ih0 _ _ _ _)
   | (with_reducible exact LeO.refl _)
   | (with_reducible exact LeO.none _)
   | (with_reducible refine LeO.ite ?_ ?_)
   | (with_reducible refine LeO.bind ?_ (fun _ => ?_))
   | exact ih0 _ _ _ _
   | exact LeO.none _
   | refine LeO.ite ?_ ?_
   | refine LeO.bind ?_ (fun _ => ?_)
theorem slices_Equal_int_int.mono : ∀ a0 a1 k, LeO (slices_Equal_int_int.f k a0 a1) (slices_Equal_int_int.f (k + 1) a0 a1) := by
 intro a0 a1 k
 have ih0 := slices_Equal_int_int.mono_l k
 unfold slices_Equal_int_int.f
 repeat' first
   | (with_reducible exact ih0 _ _ _ _)
   | (with_reducible exact LeO.refl _)
   | (with_reducible exact LeO.none _)
   | (with_reducible refine LeO.ite ?_ ?_)
   | (with_reducible refine LeO.bind ?_ (fun _ => ?_))
   | exact ih0 _ _ _ _
   | exact LeO.none _
   | refine LeO.ite ?_ ?_
   | refine LeO.bind ?_ (fun _ => ?_)
set_option maxHeartbeats 8000000 in
set_option maxRecDepth 100000 in
theorem slices_Equal_int_int.calls (k : Nat) (A0 : Option Addr) (c0 : Nat) (l0 : List Int) (A1 : Option Addr) (c1 : Nat) (l1 : List Int) (r : Bool) (w : World) (hr0 : Kd.C (Kd.int .i64) w A0 l0.length l0) (hc0 : l0.length ≤ c0) (hr1 : Kd.C (Kd.int .i64) w A1 l1.length l1) (hc1 : l1.length ≤ c1) (h : slices_Equal_int_int.f k l0 l1 = some r) :
  Calls Try.prog 61 #[.slice A0 l0.length c0, .slice A1 l1.length c1] w fun e w' => e = .returned (.bool r) ∧ Drawn0 w w' := by
 have HR0 := Aside0.mk hr0
 have HC0 := Aside0.mk hc0
 clear hr0 hc0; have HR1 := Aside0.mk hr1
 have HC1 := Aside0.mk hc1
 clear hr1 hc1; have H : (if (l0.length : Int) = (l1.length : Int) then (slices_Equal_int_int.l0 k l0 l1 (l0.length : Int) 0) else (some false)) = some r := h
 clear h
 by_cases c3 : (l0.length : Int) = (l1.length : Int)
 ·rw [if_pos c3] at H
  have c3b0 : ((l0.length : Int) == (l1.length : Int)) = true := beq_iff_eq.mpr c3
  have c3b1 : ((l0.length : Int) != (l1.length : Int)) = false := bne_eq_false_iff_eq.mpr c3
  have c3b2 : (l0.length == l1.length) = true := by first | simpa using c3 | (simp at c3 ⊢; omega)
  clear c3; have H' := Aside0.mk H
  clear H
  go_enter Try.func61, Try.ntmps61
  go_wp2
  repeat (go_quiet (fail); try go_wp2)
  go_loopg [13] k (fun kq v13 w' => ∃ (a9a : Int), v13 = .int .i64 a9a ∧ Aside0 (slices_Equal_int_int.l0 kq l0 l1 (l0.length : Int) a9a = some r) ∧ Aside0 (kq ≤ k) ∧ Drawn0 w w')
  case atStart => exact ⟨(0), sR, H', ⟨Nat.le_refl _⟩, by repeat (first | exact Drawn0.refl _ | apply Drawn0.step)⟩
  case round =>
   clear H'
   obtain ⟨a9a, rfl, HA, HK1, ⟨m1, rfl⟩⟩ := hrel
   cases gk with
   | zero => exact absurd HA.out (by simp [slices_Equal_int_int.l0])
   | succ k1 =>
    have H := HA.out; clear HA; simp only [slices_Equal_int_int.l0] at H
    by_cases c4 : a9a < (l0.length : Int)
    ·rw [if_pos c4] at H
     have c4b0 : decide (a9a < (l0.length : Int)) = true := decide_eq_true c4
     clear c4
     by_cases c5 : 0 ≤ a9a
     ·rw [if_pos c5] at H
      have c5b0 : decide (0 ≤ a9a) = true := decide_eq_true c5
      clear c5
      by_cases c6 : a9a < (l0.length : Int)
      ·rw [if_pos c6] at H
       have c6b0 : decide (a9a < (l0.length : Int)) = true := decide_eq_true c6
       clear c6
       by_cases c7 : a9a < (l1.length : Int)
       ·rw [if_pos c7] at H
        have c7b0 : decide (a9a < (l1.length : Int)) = true := decide_eq_true c7
        clear c7
        by_cases c8 : (rd l0 a9a) = (rd l1 a9a)
        ·rw [if_pos c8] at H
         have c8b0 : ((rd l0 a9a) == (rd l1 a9a)) = true := beq_iff_eq.mpr c8
         have c8b1 : ((rd l0 a9a) != (rd l1 a9a)) = false := bne_eq_false_iff_eq.mpr c8
         clear c8; have H' := Aside0.mk H
         clear H; have p126 : 0 ≤ (a9a : Int) := oD
         have q126 : a9a < (l0.length : Int) := oD
         obtain ⟨ad126, e126, hx126_0⟩ := Kd.at_int HR0.out a9a p126 q126
         cases e126
         replace p126 := eq_true p126
         replace q126 := eq_true q126
         have p127 : 0 ≤ (a9a : Int) := oD
         have q127 : a9a < (l1.length : Int) := oD
         obtain ⟨ad127, e127, hx127_0⟩ := Kd.at_int HR1.out a9a p127 q127
         cases e127
         replace p127 := eq_true p127
         replace q127 := eq_true q127
         go_wp2
         repeat (go_quiet (fail); try go_wp2)
         go_roundg k1
         case measure => have := HK1.out; omega
         case rel => exact ⟨(wrap64 (a9a + 1)), sR, H', ⟨by have := HK1.out; omega⟩, by repeat (first | exact Drawn0.refl _ | apply Drawn0.step)⟩
        ·rw [if_neg c8] at H
         have c8b0 : ((rd l0 a9a) == (rd l1 a9a)) = false := beq_eq_false_iff_ne.mpr c8
         have c8b1 : ((rd l0 a9a) != (rd l1 a9a)) = true := bne_iff_ne.mpr c8
         obtain rfl := Option.some.inj H
         have p126 : 0 ≤ (a9a : Int) := oD
         have q126 : a9a < (l0.length : Int) := oD
         obtain ⟨ad126, e126, hx126_0⟩ := Kd.at_int HR0.out a9a p126 q126
         cases e126
         replace p126 := eq_true p126
         replace q126 := eq_true q126
         have p127 : 0 ≤ (a9a : Int) := oD
         have q127 : a9a < (l1.length : Int) := oD
         obtain ⟨ad127, e127, hx127_0⟩ := Kd.at_int HR1.out a9a p127 q127
         cases e127
         replace p127 := eq_true p127
         replace q127 := eq_true q127
         go_wp2
         repeat (go_quiet (fail); try go_wp2)
         go_ret
         exact ⟨by first | rfl | (simp; done) | (simp [*]; done), by repeat (first | exact Drawn0.refl _ | apply Drawn0.step)⟩
       ·rw [if_neg c7] at H
        exact absurd H (by simp)
      ·rw [if_neg c6] at H
       exact absurd H (by simp)
     ·rw [if_neg c5] at H
      exact absurd H (by simp)
    ·rw [if_neg c4] at H
     have c4b0 : decide (a9a < (l0.length : Int)) = false := decide_eq_false c4
     clear c4; obtain rfl := Option.some.inj H
     go_wp2
     repeat (go_quiet (fail); try go_wp2)
     go_ret
     exact ⟨by first | rfl | (simp; done) | (simp [*]; done), by repeat (first | exact Drawn0.refl _ | apply Drawn0.step)⟩
 ·rw [if_neg c3] at H
  have c3b0 : ((l0.length : Int) == (l1.length : Int)) = false := beq_eq_false_iff_ne.mpr c3
  have c3b1 : ((l0.length : Int) != (l1.length : Int)) = true := bne_iff_ne.mpr c3
  have c3b2 : (l0.length == l1.length) = false := by first | simpa using c3 | (simp at c3 ⊢; omega)
  obtain rfl := Option.some.inj H
  go_enter Try.func61, Try.ntmps61
  go_wp2
  repeat (go_quiet (fail); try go_wp2)
  go_ret
  exact ⟨by first | rfl | (simp; done) | (simp [*]; done), by repeat (first | exact Drawn0.refl _ | apply Drawn0.step)⟩
def impl_Pair.l0 : Nat → List (S95) → Int → Int → Int → Int → Option (Int)
 | 0, _, _, _, _, _ => none
 | k + 1, x0, x7, x8, x129000, x129001 => if x8 < x7 then (if 0 ≤ x8 then (if x8 < (x0.length : Int) then (if (x129000 == ((rd_T95 x0 x8).f0) && (x129001 == ((rd_T95 x0 x8).f1))) = true then (some x8) else (impl_Pair.l0 k x0 x7 (wrap64 (x8 + 1)) x129000 x129001)) else (none)) else (none)) else (some (-1))
def impl_Pair.f (k : Nat) (l0 : List (S95)) (a1_0 : Int) (a1_1 : Int) : Option (Int) := impl_Pair.l0 k l0 (l0.length : Int) 0 a1_0 a1_1
theorem impl_Pair.mono_l : ∀ k, (∀ y0 y1 y2 y3 y4, LeO (impl_Pair.l0 k y0 y1 y2 y3 y4) (impl_Pair.l0 (k + 1) y0 y1 y2 y3 y4))
 | 0 => fun _ _ _ _ _ r h => by simp [impl_Pair.l0] at h
 | k + 1 => by
  have ih0 := impl_Pair.mono_l k
  ·intro y0 y1 y2 y3 y4
   unfold impl_Pair.l0
   repeat' first
   | (with_reducible exact ih0 _ _ _ _ _)
   | (with_reducible exact LeO.refl _)
   | (with_reducible exact LeO.none _)
   | (with_reducible refine LeO.ite ?_ ?_)
   | (with_reducible refine LeO.bind ?_ (fun _ => ?_))
   | exact ih0 _ _ _ _ _
   | exact LeO.none _
   | refine LeO.ite ?_ ?_
   | refine LeO.bind ?_ (fun _ => ?_)
theorem impl_Pair.mono : ∀ a0 a1 a2 k, LeO (impl_Pair.f k a0 a1 a2) (impl_Pair.f (k + 1) a0 a1 a2) := by
 intro a0 a1 a2 k
 have ih0 := impl_Pair.mono_l k
 unfold impl_Pair.f
 repeat' first
   | (with_reducible exact ih0 _ _ _ _ _)
   | (with_reducible exact LeO.refl _)
   | (with_reducible exact LeO.none _)
   | (with_reducible refine LeO.ite ?_ ?_)
   | (with_reducible refine LeO.bind ?_ (fun _ => ?_))
   | exact ih0 _ _ _ _ _
   | exact LeO.none _
   | refine LeO.ite ?_ ?_
   | refine LeO.bind ?_ (fun _ => ?_)
set_option maxHeartbeats 8000000 in
set_option maxRecDepth 100000 in
theorem impl_Pair.calls (k : Nat) (A0 : Option Addr) (c0 : Nat) (l0 : List (S95)) (a1_0 : Int) (a1_1 : Int) (r : Int) (w : World) (hr0 : Kd.C k95 w A0 l0.length l0) (hc0 : l0.length ≤ c0) (h : impl_Pair.f k l0 a1_0 a1_1 = some r) :
  Calls Try.prog 98 #[.slice A0 l0.length c0, .agg #[.int .i64 a1_0, .int .i64 a1_1]] w fun e w' => e = .returned (.int .i64 r) ∧ Below w.heap.size w w' := by
 have hu95 := Try.underlying95
 have HR0 := Aside0.mk hr0
 have HC0 := Aside0.mk hc0
 clear hr0 hc0; have HB := Aside0.mk (Below.refl w.heap.size w)
 have H : (impl_Pair.l0 k l0 (l0.length : Int) 0 a1_0 a1_1) = some r := h
 clear h; have H' := Aside0.mk H
 clear H
 go_enter Try.func98, Try.ntmps98
 go_wp2_with (first | ((with_reducible refine gate_dst (N := 3) rfl ?_); refine bX 3 #[.int .i64 a1_0, .int .i64 a1_1] 95 ?_; intro gb128 hg w3 hbox hb; have c9a := Aside0.mk (hbox); have GW128 := bs HB hg; have d9a := bs HB hg; replace HB := bh HB hb; clear hb hbox hg))
 repeat (go_quiet (first | ((with_reducible refine gate_dst (N := 3) rfl ?_); refine bX 3 #[.int .i64 a1_0, .int .i64 a1_1] 95 ?_; intro gb128 hg w3 hbox hb; have c9a := Aside0.mk (hbox); have GW128 := bs HB hg; have d9a := bs HB hg; replace HB := bh HB hb; clear hb hbox hg)); try go_wp2_with (first | ((with_reducible refine gate_dst (N := 3) rfl ?_); refine bX 3 #[.int .i64 a1_0, .int .i64 a1_1] 95 ?_; intro gb128 hg w3 hbox hb; have c9a := Aside0.mk (hbox); have GW128 := bs HB hg; have d9a := bs HB hg; replace HB := bh HB hb; clear hb hbox hg)))
 go_loopg [8] k (fun kq v8 w' => ∃ (x8_1 : Int), v8 = .int .i64 x8_1 ∧ Aside0 (impl_Pair.l0 kq l0 (l0.length : Int) x8_1 a1_0 a1_1 = some r) ∧ Aside0 (kq ≤ k) ∧ Aside0 (w'.heap[gb128]? = some (.cells #[.int .i64 a1_0, .int .i64 a1_1] 95 (0, 0))) ∧ Aside0 (Below w.heap.size w w'))
 case atStart => exact ⟨(0), sR, H', ⟨Nat.le_refl _⟩, ⟨bb c9a⟩, ⟨iB HB⟩⟩
 case round =>
  clear H'
  obtain ⟨x8_1, rfl, HA, HK1, c9a, HB⟩ := hrel
  cases gk with
  | zero => exact absurd HA.out (by simp [impl_Pair.l0])
  | succ k1 =>
   have H := HA.out; clear HA; simp only [impl_Pair.l0] at H
   by_cases c4 : x8_1 < (l0.length : Int)
   ·rw [if_pos c4] at H
    have c4b0 : decide (x8_1 < (l0.length : Int)) = true := decide_eq_true c4
    clear c4
    by_cases c5 : 0 ≤ x8_1
    ·rw [if_pos c5] at H
     have c5b0 : decide (0 ≤ x8_1) = true := decide_eq_true c5
     clear c5
     by_cases c6 : x8_1 < (l0.length : Int)
     ·rw [if_pos c6] at H
      have c6b0 : decide (x8_1 < (l0.length : Int)) = true := decide_eq_true c6
      clear c6
      by_cases c7 : (a1_0 == ((rd_T95 l0 x8_1).f0) && (a1_1 == ((rd_T95 l0 x8_1).f1))) = true
      ·rw [if_pos c7] at H
       have c7b0 : (a1_0 == ((rd_T95 l0 x8_1).f0) && (a1_1 == ((rd_T95 l0 x8_1).f1))) = true := c7
       (try (have c7b1 : decide (a1_0 = ((rd_T95 l0 x8_1).f0) && (a1_1 == ((rd_T95 l0 x8_1).f1))) = true := by simpa using c7))
       (try (have c7b2 : (a1_0 == ((rd_T95 l0 x8_1).f0) && (a1_1 == ((rd_T95 l0 x8_1).f1))) = true := by simpa using c7))
       clear c7; obtain rfl := Option.some.inj H
       obtain ⟨hcz8_0, hcz8_1⟩ := cs2 c9a; obtain ⟨hfz8_0, hfz8_1⟩ := fs2 c9a; have p129 : 0 ≤ (x8_1 : Int) := oD
       have q129 : x8_1 < (l0.length : Int) := oD
       obtain ⟨ad129, e129, a9a, b9a⟩ := at_T95 HR0.out x8_1 p129 q129
       cases e129
       replace a9a := (HB.out.cell (World.block_lt_of_cell? w _ a9a)).trans a9a
       replace b9a := (HB.out.cell (World.block_lt_of_cell? w _ b9a)).trans b9a
       replace p129 := eq_true p129
       replace q129 := eq_true q129
       go_wp2
       repeat (go_quiet (fail); try go_wp2)
       go_ret
       exact ⟨eR, iB HB⟩
      ·rw [if_neg c7] at H
       have c7b0 : (a1_0 == ((rd_T95 l0 x8_1).f0) && (a1_1 == ((rd_T95 l0 x8_1).f1))) = false := by simpa using c7
       (try (have c7b1 : decide (a1_0 = ((rd_T95 l0 x8_1).f0) && (a1_1 == ((rd_T95 l0 x8_1).f1))) = false := by simpa using c7))
       (try (have c7b2 : (a1_0 == ((rd_T95 l0 x8_1).f0) && (a1_1 == ((rd_T95 l0 x8_1).f1))) = false := by simpa using c7))
       (try (have c7b3 : ¬ (a1_0 = ((rd_T95 l0 x8_1).f0) && (a1_1 == ((rd_T95 l0 x8_1).f1))) := by simpa using c7))
       clear c7; have H' := Aside0.mk H
       clear H; obtain ⟨hcz9_0, hcz9_1⟩ := cs2 c9a; obtain ⟨hfz9_0, hfz9_1⟩ := fs2 c9a; have p129 : 0 ≤ (x8_1 : Int) := oD
       have q129 : x8_1 < (l0.length : Int) := oD
       obtain ⟨ad129, e129, a9a, b9a⟩ := at_T95 HR0.out x8_1 p129 q129
       cases e129
       replace a9a := (HB.out.cell (World.block_lt_of_cell? w _ a9a)).trans a9a
       replace b9a := (HB.out.cell (World.block_lt_of_cell? w _ b9a)).trans b9a
       replace p129 := eq_true p129
       replace q129 := eq_true q129
       go_wp2
       repeat (go_quiet (fail); try go_wp2)
       go_roundg k1
       case measure => have := HK1.out; omega
       case rel => exact ⟨(wrap64 (x8_1 + 1)), sR, H', ⟨by have := HK1.out; omega⟩, ⟨bb c9a⟩, ⟨iB HB⟩⟩
     ·rw [if_neg c6] at H
      exact absurd H (by simp)
    ·rw [if_neg c5] at H
     exact absurd H (by simp)
   ·rw [if_neg c4] at H
    have c4b0 : decide (x8_1 < (l0.length : Int)) = false := decide_eq_false c4
    clear c4; obtain rfl := Option.some.inj H
    go_wp2
    repeat (go_quiet (fail); try go_wp2)
    go_ret
    exact ⟨eR, iB HB⟩
def impl_Vocab_rank.f (k : Nat) (l0_0 : List (S95)) (a1 : Int) (a2 : Int) : Option (Int) := (impl_Pair.f k l0_0 a1 a2).bind fun t131 => (some t131)
theorem impl_Vocab_rank.mono : ∀ a0 a1 a2 k, LeO (impl_Vocab_rank.f k a0 a1 a2) (impl_Vocab_rank.f (k + 1) a0 a1 a2) := by
 intro a0 a1 a2 k
 unfold impl_Vocab_rank.f
 repeat' first
   | (with_reducible exact impl_Pair.mono _ _ _ _)
   | (with_reducible exact LeO.refl _)
   | (with_reducible exact LeO.none _)
   | (with_reducible refine LeO.ite ?_ ?_)
   | (with_reducible refine LeO.bind ?_ (fun _ => ?_))
   | exact impl_Pair.mono _ _ _ _
   | exact LeO.none _
   | refine LeO.ite ?_ ?_
   | refine LeO.bind ?_ (fun _ => ?_)
set_option maxHeartbeats 8000000 in
set_option maxRecDepth 100000 in
theorem impl_Vocab_rank.calls (k : Nat) (A0_0 : Option Addr) (c0_0 : Nat) (l0_0 : List (S95)) (a1 : Int) (a2 : Int) (r : Int) (w : World) (hr0_0 : Kd.C k95 w A0_0 l0_0.length l0_0) (hc0_0 : l0_0.length ≤ c0_0) (h : impl_Vocab_rank.f k l0_0 a1 a2 = some r) :
  Calls Try.prog 96 #[.agg #[.slice A0_0 l0_0.length c0_0], .int .i64 a1, .int .i64 a2] w fun e w' => e = .returned (.int .i64 r) ∧ Below w.heap.size w w' := by
 have hu26 := Try.underlying26
 have hu95 := Try.underlying95
 have HR0_0 := Aside0.mk hr0_0
 have HC0_0 := Aside0.mk hc0_0
 clear hr0_0 hc0_0; have HB := Aside0.mk (Below.refl w.heap.size w)
 have H : ((impl_Pair.f k l0_0 a1 a2).bind fun t131 => (some t131)) = some r := h
 clear h; replace H := Option.bind_eq_some_iff.mp H
 obtain ⟨t131, A40, H⟩ := H
 replace H : (some t131) = some r := H
 have A4 := Aside0.mk A40
 clear A40; obtain rfl := Option.some.inj H
 go_enter Try.func96, Try.ntmps96
 go_wp2_with (first | ((with_reducible refine gate_dst (N := 3) rfl ?_); refine bX 3 #[.slice A0_0 l0_0.length c0_0] 26 ?_; intro gb130 hg w5 hbox hb; have BK130 := Aside0.mk (hbox); have GW130 := bs HB hg; have GE130 := bs HB hg; replace HB := bh HB hb; clear hb hbox hg; have hcz6_0 : w5.cell? ⟨gb130, 0, none⟩ = some (.slice A0_0 l0_0.length c0_0) := bc BK130 0; have hfz6_0 := blk_frozen BK130.out 0) | ((with_reducible refine gate_callee (f := 98) rfl ?_); refine goesC_ (some 12) Try.func98 #[.slice A0_0 l0_0.length c0_0, .agg #[.int .i64 a1, .int .i64 a2]] ?_; (with_reducible refine (impl_Pair.calls k _ _ l0_0 a1 a2 t131 _ ?side1 ?side2 A4.out).mono ?_); (case side1 => exact cX (Kd.C_below HR0_0.out HB.out)); (case side2 => exact HC0_0.out); rintro e w7 ⟨rfl, hb⟩; refine ⟨_, rfl, ?_⟩; replace BK130 := bq BK130 hb; replace HB := bh HB hb; (try clear hb); (try clear hb2); (try clear hk); (try clear hi)))
 go_ret
 exact ⟨eR, iB HB⟩
end Go.Proofs.Ytddebnchbbmbkaa.PFnExactRecall
