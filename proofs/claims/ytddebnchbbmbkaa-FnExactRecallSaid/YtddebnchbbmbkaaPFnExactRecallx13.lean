-- The machine side of a law: written by a program of this session (wip/tools), a turned print.
import Derived.Test.YtddebnchbbmbkaaPFnExactRecallx0
import Derived.Test.YtddebnchbbmbkaaPFnExactRecallx10
import Derived.Test.YtddebnchbbmbkaaPFnExactRecallx11
import Derived.Test.YtddebnchbbmbkaaPFnExactRecallx12
namespace Go.Proofs.Ytddebnchbbmbkaa.PFnExactRecall
open Go.RowKit Go.Proofs.YtddebnchbbmbkaaW.PrintWords Go.Proofs.YtddebnchbbmbkaaW.PrintLast Go.Proofs.YtddebnchbbmbkaaW.PrintMore
attribute [local go_sem] max2_int min2_int max_two min_two max_three min_three max_four min_four   -- for this text's walks alone
set_option linter.unusedVariables false
set_option linter.unusedSimpArgs false
mutual
def spec_MemoOk.j0 : Nat → Bool → List (S95) → Int → List (S86) → Option (Bool)
 | 0, _, _, _, _ => none
 | k + 1, x23, x251000, x252000, x252001 => if x23 = true then (some false) else (spec_MemoOk.l0 k 0 x251000 x252000 x252001)
def spec_MemoOk.l0 : Nat → Int → List (S95) → Int → List (S86) → Option (Bool)
 | 0, _, _, _, _ => none
 | k + 1, x5, x251000, x252000, x252001 => if x5 < (x252001.length : Int) then (if 0 ≤ x5 then ((spec_l1In.f (((rd_T86 x252001 x5).f0).size : Int) 1 64).bind fun t256 => (if t256 = true then (if x5 ≤ (x252001.length : Int) then ((spec_l10At.f k (x252001.take (x5 : Int).toNat) ((rd_T86 x252001 x5).f0)).bind fun t261 => (if t261 ≥ 0 then (some false) else ((spec_l8Bpe.f k x251000 ((rd_T86 x252001 x5).f0)).bind fun t262 => ((spec_l10SameInts.f k ((rd_T86 x252001 x5).f1) t262).bind fun t265 => (if t265 = true then (spec_MemoOk.l0 k (wrap64 (x5 + 1)) x251000 x252000 x252001) else (some false)))))) else (none)) else (some false))) else (none)) else (some true)
end
def spec_MemoOk.f (k : Nat) (l0_0 : List (S95)) (a1_0 : Int) (l1_1 : List (S86)) : Option (Bool) := (spec_VocabOk.f k l0_0).bind fun t252 => (if t252 = true then ((spec_l1In.f a1_0 0 40).bind fun t253 => (if t253 = true then (spec_MemoOk.j0 k (decide ((l1_1.length : Int) > a1_0)) l0_0 a1_0 l1_1) else (spec_MemoOk.j0 k true l0_0 a1_0 l1_1))) else (spec_MemoOk.j0 k true l0_0 a1_0 l1_1))
theorem spec_MemoOk.mono_l : ∀ k, (∀ y0 y1 y2 y3, LeO (spec_MemoOk.j0 k y0 y1 y2 y3) (spec_MemoOk.j0 (k + 1) y0 y1 y2 y3)) ∧ (∀ y0 y1 y2 y3, LeO (spec_MemoOk.l0 k y0 y1 y2 y3) (spec_MemoOk.l0 (k + 1) y0 y1 y2 y3))
 | 0 => ⟨fun _ _ _ _ r h => by simp [spec_MemoOk.j0] at h, fun _ _ _ _ r h => by simp [spec_MemoOk.l0] at h⟩
 | k + 1 => by
  obtain ⟨ih0, ih1⟩ := spec_MemoOk.mono_l k
  refine ⟨?_, ?_⟩
  ·intro y0 y1 y2 y3
   unfold spec_MemoOk.j0
   repeat' first
   | (with_reducible exact ih0 _ _ _ _)
   | (with_reducible exact ih1 _ _ _ _)
   | (with_reducible exact spec_VocabOk.mono _ _)
   | (with_reducible exact spec_l10At.mono _ _ _)
   | (with_reducible exact spec_l10SameInts.mono _ _ _)
   | (with_reducible exact spec_l8Bpe.mono _ _ _)
   | (with_reducible exact LeO.refl _)
   | (with_reducible exact LeO.none _)
   | (with_reducible refine LeO.ite ?_ ?_)
   | (with_reducible refine LeO.bind ?_ (fun _ => ?_))
   | exact ih0 _ _ _ _
   | exact ih1 _ _ _ _
   | exact spec_VocabOk.mono _ _
   | exact spec_l10At.mono _ _ _
   | exact spec_l10SameInts.mono _ _ _
   | exact spec_l8Bpe.mono _ _ _
   | exact LeO.none _
   | refine LeO.ite ?_ ?_
   | refine LeO.bind ?_ (fun _ => ?_)
  ·intro y0 y1 y2 y3
   unfold spec_MemoOk.l0
   repeat' first
   | (with_reducible exact ih0 _ _ _ _)
   | (with_reducible exact ih1 _ _ _ _)
   | (with_reducible exact spec_VocabOk.mono _ _)
   | (with_reducible exact spec_l10At.mono _ _ _)
   | (with_reducible exact spec_l10SameInts.mono _ _ _)
   | (with_reducible exact spec_l8Bpe.mono _ _ _)
   | (with_reducible exact LeO.refl _)
   | (with_reducible exact LeO.none _)
   | (with_reducible refine LeO.ite ?_ ?_)
   | (with_reducible refine LeO.bind ?_ (fun _ => ?_))
   | exact ih0 _ _ _ _
   | exact ih1 _ _ _ _
   | exact spec_VocabOk.mono _ _
   | exact spec_l10At.mono _ _ _
   | exact spec_l10SameInts.mono _ _ _
   | exact spec_l8Bpe.mono _ _ _
   | exact LeO.none _
   | refine LeO.ite ?_ ?_
   | refine LeO.bind ?_ (fun _ => ?_)
theorem spec_MemoOk.mono : ∀ a0 a1 a2 k, LeO (spec_MemoOk.f k a0 a1 a2) (spec_MemoOk.f (k + 1) a0 a1 a2) := by
 intro a0 a1 a2 k
 obtain ⟨ih0, ih1⟩ := spec_MemoOk.mono_l k
 unfold spec_MemoOk.f
 repeat' first
   | (with_reducible exact ih0 _ _ _ _)
   | (with_reducible exact ih1 _ _ _ _)
   | (with_reducible exact spec_VocabOk.mono _ _)
   | (with_reducible exact spec_l10At.mono _ _ _)
   | (with_reducible exact spec_l10SameInts.mono _ _ _)
   | (with_reducible exact spec_l8Bpe.mono _ _ _)
   | (with_reducible exact LeO.refl _)
   | (with_reducible exact LeO.none _)
   | (with_reducible refine LeO.ite ?_ ?_)
   | (with_reducible refine LeO.bind ?_ (fun _ => ?_))
   | exact ih0 _ _ _ _
   | exact ih1 _ _ _ _
   | exact spec_VocabOk.mono _ _
   | exact spec_l10At.mono _ _ _
   | exact spec_l10SameInts.mono _ _ _
   | exact spec_l8Bpe.mono _ _ _
   | exact LeO.none _
   | refine LeO.ite ?_ ?_
   | refine LeO.bind ?_ (fun _ => ?_)
def spec_MemoOk.T7 : Bool × List (List Nat × List Nat) := (true, [([], []), ([0], [0]), ([1], [1]), ([2], [2]), ([3], [3]), ([4, 3], [4]), ([5], [5]), ([6, 5], [5, 6]), ([5], [5]), ([7, 8, 5], [5, 7, 8]), ([5], [5]), ([10, 5], [5, 10]), ([9, 11, 5, 5], [5, 9, 11]), ([12, 5], [5, 12]), ([5, 13], [5, 13]), ([14, 12], [14]), ([15], [15]), ([16, 15], [15, 16]), ([15], [15]), ([15], [15]), ([19, 15], [15, 19]), ([18, 20, 15, 15], [15, 18, 20]), ([17, 21, 21, 15], [15, 17, 21]), ([22, 15], [15, 22]), ([15, 23], [15, 23])])
def spec_MemoOk.B7 : List Nat := [0, 1, 3, 7, 15, 31, 63, 127, 63, 511, 63, 1087, 4095, 8191, 16383, 32767, 65535, 131071, 65535, 65535, 589823, 1900543, 4194303, 8388607, 16777215]
theorem spec_MemoOk.tab7 : rtab .any (opsOf Try.f30 7) = spec_MemoOk.T7 := by kernel_rfl
theorem spec_MemoOk.bits7 : waitsOk spec_MemoOk.T7.2 spec_MemoOk.B7 = true := by kernel_rfl
set_option maxHeartbeats 8000000 in
set_option maxRecDepth 100000 in
theorem spec_MemoOk.calls (k : Nat) (A0_0 : Option Addr) (c0_0 : Nat) (l0_0 : List (S95)) (a1_0 : Int) (A1_1 : Option Addr) (c1_1 : Nat) (l1_1 : List (S86)) (r : Bool) (w : World) (hr0_0 : Kd.C k95 w A0_0 l0_0.length l0_0) (hc0_0 : l0_0.length ≤ c0_0) (hr1_1 : Kd.C k86 w A1_1 l1_1.length l1_1) (hc1_1 : l1_1.length ≤ c1_1) (h : spec_MemoOk.f k l0_0 a1_0 l1_1 = some r) :
  Calls Try.prog 30 #[.agg #[.slice A0_0 l0_0.length c0_0], .agg #[.int .i64 a1_0, .slice A1_1 l1_1.length c1_1]] w fun e w' => e = .returned (.bool r) ∧ Below w.heap.size w w' := by
 have hu26 := Try.underlying26
 have hu31 := Try.underlying31
 have hu86 := Try.underlying86
 have HR0_0 := Aside0.mk hr0_0
 have HC0_0 := Aside0.mk hc0_0
 clear hr0_0 hc0_0; have y9a := Aside0.mk hr1_1
 have HC1_1 := Aside0.mk hc1_1
 clear hr1_1 hc1_1; have HB := Aside0.mk (Below.refl w.heap.size w)
 have H : ((spec_VocabOk.f k l0_0).bind fun t252 => (if t252 = true then ((spec_l1In.f a1_0 0 40).bind fun t253 => (if t253 = true then (spec_MemoOk.j0 k (decide ((l1_1.length : Int) > a1_0)) l0_0 a1_0 l1_1) else (spec_MemoOk.j0 k true l0_0 a1_0 l1_1))) else (spec_MemoOk.j0 k true l0_0 a1_0 l1_1))) = some r := h
 clear h; have HC3 := Aside0.mk H
 clear H
 go_enter Try.func30, Try.ntmps30
 go_upto_region 1 with (first | ((with_reducible refine gate_dst (N := 2) rfl ?_); (try (refine gate_guard (by rfl) ?_; dsimp only)); refine bX 2 #[.slice A0_0 l0_0.length c0_0] 26 ?_; intro u9a hg w4 hbox hb; have b9a := Aside0.mk (hbox); have GW250 := bs HB hg; have r9a := bs HB hg; replace HB := bh HB hb; clear hb hbox hg) | ((with_reducible refine gate_dst (N := 3) rfl ?_); (try (refine gate_guard (by rfl) ?_; dsimp only)); refine bX 3 #[.int .i64 a1_0, .slice A1_1 l1_1.length c1_1] 31 ?_; intro t9a hg w5 hbox hb; have a9a := Aside0.mk (hbox); have GW251 := bs HB hg; have s9a := bs HB hg; have k9a := bl b9a hg; have l9a := bg b9a hg; replace b9a := bq b9a hb; replace HB := bh HB hb; clear hb hbox hg))
 (try simp only [putL])
 go_cut [23] (fun v23 wc => ∃ (kq : Nat) (x23_2 : Bool), v23 = .bool x23_2 ∧ Aside0 (spec_MemoOk.j0 kq x23_2 l0_0 a1_0 l1_1 = some r) ∧ Aside0 (kq ≤ k) ∧ Aside0 (wc.heap[u9a]? = some (.cells #[(.slice A0_0 l0_0.length c0_0)] 26 (0, 0))) ∧ Aside0 (wc.heap[t9a]? = some (.cells #[.int .i64 a1_0, (.slice A1_1 l1_1.length c1_1)] 31 (0, 0))) ∧ Aside0 (Below w.heap.size w wc))
 case first =>
  have H := HC3.out; clear HC3; replace H := Option.bind_eq_some_iff.mp H
  obtain ⟨t252, A60, H⟩ := H
  replace H : (if t252 = true then ((spec_l1In.f a1_0 0 40).bind fun t253 => (if t253 = true then (spec_MemoOk.j0 k (decide ((l1_1.length : Int) > a1_0)) l0_0 a1_0 l1_1) else (spec_MemoOk.j0 k true l0_0 a1_0 l1_1))) else (spec_MemoOk.j0 k true l0_0 a1_0 l1_1)) = some r := H
  have A6 := Aside0.mk A60
  clear A60
  by_cases c7 : t252 = true
  ·subst c7
   have H1 : ((spec_l1In.f a1_0 0 40).bind fun t253 => (if t253 = true then (spec_MemoOk.j0 k (decide ((l1_1.length : Int) > a1_0)) l0_0 a1_0 l1_1) else (spec_MemoOk.j0 k true l0_0 a1_0 l1_1))) = some r := by rw [if_pos rfl] at H; exact H
   clear H; have H := H1
   clear H1; replace H := Option.bind_eq_some_iff.mp H
   obtain ⟨t253, A80, H⟩ := H
   replace H : (if t253 = true then (spec_MemoOk.j0 k (decide ((l1_1.length : Int) > a1_0)) l0_0 a1_0 l1_1) else (spec_MemoOk.j0 k true l0_0 a1_0 l1_1)) = some r := H
   have A8 := Aside0.mk A80
   clear A80
   by_cases c9 : t253 = true
   ·subst c9
    have H1 : (spec_MemoOk.j0 k (decide ((l1_1.length : Int) > a1_0)) l0_0 a1_0 l1_1) = some r := by rw [if_pos rfl] at H; exact H
    clear H; have H := H1
    clear H1; have H' := Aside0.mk H
    clear H; have hnb10 := k9a.out; have hnc10 := l9a.out; have hcz11_0 : w5.cell? ⟨u9a, 0, none⟩ = some (.slice A0_0 l0_0.length c0_0) := bc b9a 0
    have hfz11_0 := blk_frozen b9a.out 0
    go_wp2_with (first | ((with_reducible refine gate_callee (f := 10) rfl ?_); refine goesC_ (some 8) Try.func10 #[.agg #[.slice A0_0 l0_0.length c0_0]] ?_; (with_reducible refine (spec_VocabOk.calls k _ _ l0_0 true _ ?side1 ?side2 A6.out).mono ?_); (case side1 => exact cX (Kd.C_below HR0_0.out HB.out)); (case side2 => exact HC0_0.out); rintro e w12 ⟨rfl, hb⟩; refine ⟨_, rfl, ?_⟩; replace b9a := bq b9a hb; replace a9a := bq a9a hb; replace HB := bh HB hb; (try clear hb); (try clear hb2); (try clear hk); (try clear hi); obtain ⟨hcz13_0, hcz13_1⟩ := cs2 a9a; obtain ⟨hfz13_0, hfz13_1⟩ := fs2 a9a) | (go_at_call 43; (with_reducible refine (spec_l1In.calls a1_0 0 40 true _ A8.out).mono ?_); rintro e w' ⟨rfl, ⟨nd, rfl⟩⟩))
    go_meet
    case rel => exact ⟨_, (decide ((l1_1.length : Int) > a1_0)), sR, H', ⟨by first | omega | exact Nat.le_refl _⟩, ⟨bb b9a⟩, ⟨bb a9a⟩, ⟨iB HB⟩⟩
   ·replace c9 := Bool.eq_false_iff.mpr c9
    subst c9
    have H1 : (spec_MemoOk.j0 k true l0_0 a1_0 l1_1) = some r := by rw [if_neg (show ¬ (false = true) by decide)] at H; exact H
    clear H; have H := H1
    clear H1; have H' := Aside0.mk H
    clear H; have hnb14 := k9a.out; have hnc14 := l9a.out; have hcz15_0 : w5.cell? ⟨u9a, 0, none⟩ = some (.slice A0_0 l0_0.length c0_0) := bc b9a 0
    have hfz15_0 := blk_frozen b9a.out 0
    go_wp2_with (first | ((with_reducible refine gate_callee (f := 10) rfl ?_); refine goesC_ (some 8) Try.func10 #[.agg #[.slice A0_0 l0_0.length c0_0]] ?_; (with_reducible refine (spec_VocabOk.calls k _ _ l0_0 true _ ?side1 ?side2 A6.out).mono ?_); (case side1 => exact cX (Kd.C_below HR0_0.out HB.out)); (case side2 => exact HC0_0.out); rintro e w16 ⟨rfl, hb⟩; refine ⟨_, rfl, ?_⟩; replace b9a := bq b9a hb; replace a9a := bq a9a hb; replace HB := bh HB hb; (try clear hb); (try clear hb2); (try clear hk); (try clear hi); obtain ⟨hcz17_0, hcz17_1⟩ := cs2 a9a; obtain ⟨hfz17_0, hfz17_1⟩ := fs2 a9a) | (go_at_call 43; (with_reducible refine (spec_l1In.calls a1_0 0 40 false _ A8.out).mono ?_); rintro e w' ⟨rfl, ⟨nd, rfl⟩⟩))
    go_meet
    case rel => exact ⟨_, (true), sR, H', ⟨by first | omega | exact Nat.le_refl _⟩, ⟨bb b9a⟩, ⟨bb a9a⟩, ⟨iB HB⟩⟩
  ·replace c7 := Bool.eq_false_iff.mpr c7
   subst c7
   have H1 : (spec_MemoOk.j0 k true l0_0 a1_0 l1_1) = some r := by rw [if_neg (show ¬ (false = true) by decide)] at H; exact H
   clear H; have H := H1
   clear H1; have H' := Aside0.mk H
   clear H; have hnb18 := k9a.out; have hnc18 := l9a.out; have hcz19_0 : w5.cell? ⟨u9a, 0, none⟩ = some (.slice A0_0 l0_0.length c0_0) := bc b9a 0
   have hfz19_0 := blk_frozen b9a.out 0
   go_wp2_with (first | ((with_reducible refine gate_callee (f := 10) rfl ?_); refine goesC_ (some 8) Try.func10 #[.agg #[.slice A0_0 l0_0.length c0_0]] ?_; (with_reducible refine (spec_VocabOk.calls k _ _ l0_0 false _ ?side1 ?side2 A6.out).mono ?_); (case side1 => exact cX (Kd.C_below HR0_0.out HB.out)); (case side2 => exact HC0_0.out); rintro e w20 ⟨rfl, hb⟩; refine ⟨_, rfl, ?_⟩; replace b9a := bq b9a hb; replace a9a := bq a9a hb; replace HB := bh HB hb; (try clear hb); (try clear hb2); (try clear hk); (try clear hi)))
   go_meet
   case rel => exact ⟨_, (true), sR, H', ⟨by first | omega | exact Nat.le_refl _⟩, ⟨bb b9a⟩, ⟨bb a9a⟩, ⟨iB HB⟩⟩
 case rest =>
  clear HC3; obtain ⟨kq, x23_2, rfl, HA, HJ2, b9a, a9a, HB⟩ := hcut
  cases kq with
  | zero => exact absurd HA.out (by simp [spec_MemoOk.j0])
  | succ kj2 =>
   have H := HA.out; clear HA; simp only [spec_MemoOk.j0] at H
   by_cases c21 : x23_2 = true
   ·subst c21
    have H1 : (some false) = some r := by rw [if_pos rfl] at H; exact H
    clear H; have H := H1
    clear H1; obtain rfl := Option.some.inj H
    go_wp2
    go_ret
    exact ⟨eR, iB HB⟩
   ·replace c21 := Bool.eq_false_iff.mpr c21
    subst c21
    have H1 : (spec_MemoOk.l0 kj2 0 l0_0 a1_0 l1_1) = some r := by rw [if_neg (show ¬ (false = true) by decide)] at H; exact H
    clear H; have H := H1
    clear H1; have H' := Aside0.mk H
    clear H
    go_wp2
    go_loopg [5] kj2 (fun kq v5 w' => ∃ (x5_2 : Int), v5 = .int .i64 x5_2 ∧ Aside0 (spec_MemoOk.l0 kq x5_2 l0_0 a1_0 l1_1 = some r) ∧ Aside0 (kq ≤ kj2) ∧ Aside0 (w'.heap[u9a]? = some (.cells #[(.slice A0_0 l0_0.length c0_0)] 26 (0, 0))) ∧ Aside0 (w'.heap[t9a]? = some (.cells #[.int .i64 a1_0, (.slice A1_1 l1_1.length c1_1)] 31 (0, 0))) ∧ Aside0 (Below w.heap.size w w'))
    case atStart => exact ⟨(0), sR, H', ⟨Nat.le_refl _⟩, ⟨bb b9a⟩, ⟨bb a9a⟩, ⟨iB HB⟩⟩
    case round =>
     clear H'
     obtain ⟨x5_2, rfl, HA, HK2, b9a, a9a, HB⟩ := hrel
     cases gk with
     | zero => exact absurd HA.out (by simp [spec_MemoOk.l0])
     | succ k2 =>
      have H := HA.out; clear HA; simp only [spec_MemoOk.l0] at H
      by_cases c22 : x5_2 < (l1_1.length : Int)
      ·rw [if_pos c22] at H
       have c22b0 : decide (x5_2 < (l1_1.length : Int)) = true := decide_eq_true c22
       clear c22
       by_cases c23 : 0 ≤ x5_2
       ·rw [if_pos c23] at H
        have c23b0 : decide (0 ≤ x5_2) = true := decide_eq_true c23
        clear c23; replace H := Option.bind_eq_some_iff.mp H
        obtain ⟨t256, A240, H⟩ := H
        replace H : (if t256 = true then (if x5_2 ≤ (l1_1.length : Int) then ((spec_l10At.f k2 (l1_1.take (x5_2 : Int).toNat) ((rd_T86 l1_1 x5_2).f0)).bind fun t261 => (if t261 ≥ 0 then (some false) else ((spec_l8Bpe.f k2 l0_0 ((rd_T86 l1_1 x5_2).f0)).bind fun t262 => ((spec_l10SameInts.f k2 ((rd_T86 l1_1 x5_2).f1) t262).bind fun t265 => (if t265 = true then (spec_MemoOk.l0 k2 (wrap64 (x5_2 + 1)) l0_0 a1_0 l1_1) else (some false)))))) else (none)) else (some false)) = some r := H
        have A24 := Aside0.mk A240
        clear A240
        by_cases c25 : t256 = true
        ·subst c25
         have H1 : (if x5_2 ≤ (l1_1.length : Int) then ((spec_l10At.f k2 (l1_1.take (x5_2 : Int).toNat) ((rd_T86 l1_1 x5_2).f0)).bind fun t261 => (if t261 ≥ 0 then (some false) else ((spec_l8Bpe.f k2 l0_0 ((rd_T86 l1_1 x5_2).f0)).bind fun t262 => ((spec_l10SameInts.f k2 ((rd_T86 l1_1 x5_2).f1) t262).bind fun t265 => (if t265 = true then (spec_MemoOk.l0 k2 (wrap64 (x5_2 + 1)) l0_0 a1_0 l1_1) else (some false)))))) else (none)) = some r := by rw [if_pos rfl] at H; exact H
         clear H; have H := H1
         clear H1; have c26b0 := eq_true (oD : 0 ≤ x5_2)
         by_cases c27 : x5_2 ≤ (l1_1.length : Int)
         ·rw [if_pos c27] at H
          have c27b0 := eq_true c27
          have c27b1 : decide (x5_2 ≤ (l1_1.length : Int)) = true := decide_eq_true c27
          clear c27; obtain ⟨y257, hy257⟩ : ∃ y_ : List (S86), y_ = (l1_1.take (x5_2 : Int).toNat) := ⟨_, rfl⟩
          replace H : ((spec_l10At.f k2 y257 ((rd_T86 l1_1 x5_2).f0)).bind fun t261 => (if t261 ≥ 0 then (some false) else ((spec_l8Bpe.f k2 l0_0 ((rd_T86 l1_1 x5_2).f0)).bind fun t262 => ((spec_l10SameInts.f k2 ((rd_T86 l1_1 x5_2).f1) t262).bind fun t265 => (if t265 = true then (spec_MemoOk.l0 k2 (wrap64 (x5_2 + 1)) l0_0 a1_0 l1_1) else (some false)))))) = some r := by first | (rw [hy257]; with_reducible exact H) | (have H2_ := (Option.bind_some _ _).symm.trans H; rw [hy257]; with_reducible exact H2_) | (have H2_ := (Option.bind_some _ _).symm.trans H; with_reducible exact H2_) | with_reducible exact H | (rw [hy257]; exact H) | exact H
          have A9a := Aside0.mk hy257
          clear hy257; replace H := Option.bind_eq_some_iff.mp H
          obtain ⟨t261, A280, H⟩ := H
          replace H : (if t261 ≥ 0 then (some false) else ((spec_l8Bpe.f k2 l0_0 ((rd_T86 l1_1 x5_2).f0)).bind fun t262 => ((spec_l10SameInts.f k2 ((rd_T86 l1_1 x5_2).f1) t262).bind fun t265 => (if t265 = true then (spec_MemoOk.l0 k2 (wrap64 (x5_2 + 1)) l0_0 a1_0 l1_1) else (some false))))) = some r := H
          have A28 := Aside0.mk A280
          clear A280
          by_cases c29 : t261 ≥ 0
          ·rw [if_pos c29] at H
           have c29b0 : decide (0 ≤ t261) = true := decide_eq_true c29
           clear c29; obtain rfl := Option.some.inj H
           have hnb30 := l9a.out; have hnc30 := k9a.out; obtain ⟨hcz31_0, hcz31_1⟩ := cs2 a9a; obtain ⟨hfz31_0, hfz31_1⟩ := fs2 a9a; have p254 : 0 ≤ (x5_2 : Int) := oD
           have q254 : x5_2 < (l1_1.length : Int) := oD
           obtain ⟨q9a, e9a, f9a, e254, i9a, j9a, m9a, n9a⟩ := at_T86 y9a.out x5_2 p254 q254
           cases e254
           replace i9a := (HB.out.cell (World.block_lt_of_cell? w _ i9a)).trans i9a
           replace j9a := (HB.out.cell (World.block_lt_of_cell? w _ j9a)).trans j9a
           have v9a := Aside0.mk n9a
           have w9a := Aside0.mk m9a
           clear n9a m9a; replace p254 := eq_true p254
           replace q254 := eq_true q254
           try go_wp2_with (first | ((with_reducible refine gate_dst (N := 6) rfl ?_); (try (refine gate_guard (by rfl) ?_; dsimp only)); refine bX 6 #[.string (⟨#[]⟩ : ByteArray), .slice none 0 0] 86 ?_; intro d9a hg w32 hbox hb; have c9a := Aside0.mk (hbox); have GW255 := bs HB hg; have x9a := bs HB hg; have g9a := bl b9a hg; have o9a := bg b9a hg; have h9a := bl a9a hg; have p9a := bg a9a hg; replace b9a := bq b9a hb; replace a9a := bq a9a hb; replace HB := bh HB hb; clear hb hbox hg; have hnb33 := o9a.out; have hnc33 := g9a.out; have hnb34 := p9a.out; have hnc34 := h9a.out; obtain ⟨hcz35_0, hcz35_1⟩ := cs2 c9a; obtain ⟨hfz35_0, hfz35_1⟩ := fs2 c9a))
           have n0_ : Aside0 (((w32.setCell ⟨d9a, 0, none⟩ (.string ((rd_T86 l1_1 x5_2).f0))).setCell ⟨d9a, 1, none⟩ (.slice e9a ((rd_T86 l1_1 x5_2).f1).length f9a)).heap[u9a]? = some (.cells #[.slice A0_0 l0_0.length c0_0] 26 (0, 0))) := ⟨by (with_reducible repeat first | refine bkN ?_ _ | refine bkD ?_ | refine bkA ?_ _ | refine blk_far ?_ g9a.out _); exact b9a.out⟩
           have n1_ : Aside0 (((w32.setCell ⟨d9a, 0, none⟩ (.string ((rd_T86 l1_1 x5_2).f0))).setCell ⟨d9a, 1, none⟩ (.slice e9a ((rd_T86 l1_1 x5_2).f1).length f9a)).heap[t9a]? = some (.cells #[.int .i64 a1_0, .slice (some q9a) l1_1.length c1_1] 31 (0, 0))) := ⟨by (with_reducible repeat first | refine bkN ?_ _ | refine bkD ?_ | refine bkA ?_ _ | refine blk_far ?_ h9a.out _); exact a9a.out⟩
           have n2_ : Aside0 (((w32.setCell ⟨d9a, 0, none⟩ (.string ((rd_T86 l1_1 x5_2).f0))).setCell ⟨d9a, 1, none⟩ (.slice e9a ((rd_T86 l1_1 x5_2).f1).length f9a)).heap[d9a]? = some (.cells #[.string ((rd_T86 l1_1 x5_2).f0), .slice e9a ((rd_T86 l1_1 x5_2).f1).length f9a] 86 (0, 0))) := ⟨by (with_reducible repeat first | refine bkN ?_ _ | refine bkD ?_ | refine bkA ?_ _); refine blk_put (cs := #[.string ((rd_T86 l1_1 x5_2).f0), .slice none 0 0]) ?_ 1 _ rfl; (with_reducible repeat first | refine bkN ?_ _ | refine bkD ?_ | refine bkA ?_ _); refine blk_put (cs := #[.string (⟨#[]⟩ : ByteArray), .slice none 0 0]) ?_ 0 _ rfl; (with_reducible repeat first | refine bkN ?_ _ | refine bkD ?_ | refine bkA ?_ _); exact c9a.out⟩
           have n3_ : Aside0 (Below w.heap.size w ((w32.setCell ⟨d9a, 0, none⟩ (.string ((rd_T86 l1_1 x5_2).f0))).setCell ⟨d9a, 1, none⟩ (.slice e9a ((rd_T86 l1_1 x5_2).f1).length f9a))) := ⟨iB HB⟩
           generalize ((w32.setCell ⟨d9a, 0, none⟩ (.string ((rd_T86 l1_1 x5_2).f0))).setCell ⟨d9a, 1, none⟩ (.slice e9a ((rd_T86 l1_1 x5_2).f1).length f9a)) = w36 at n0_ n1_ n2_ n3_ ⊢
           have b9a := n0_; have a9a := n1_; have c9a := n2_; have HB := n3_; clear n0_ n1_ n2_ n3_; have n0_ := Aside0.mk (blk_drew b9a.out)
           have n1_ := Aside0.mk (blk_drew a9a.out)
           have n2_ := Aside0.mk (blk_drew c9a.out)
           have n3_ := Aside0.mk (below_drew1 HB.out)
           clear b9a a9a c9a HB; have b9a := n0_; have a9a := n1_; have c9a := n2_; have HB := n3_; clear n0_ n1_ n2_ n3_; refine start_ (n := 25) (S := fun w' => w'.cell? ⟨d9a, 0, none⟩ = some (.string ((rd_T86 l1_1 x5_2).f0)) ∧ w'.cell? ⟨d9a, 1, none⟩ = some (.slice e9a ((rd_T86 l1_1 x5_2).f1).length f9a) ∧ w'.cell? ⟨t9a, 0, none⟩ = some (.int .i64 a1_0) ∧ w'.cell? ⟨t9a, 1, none⟩ = some (.slice (some q9a) l1_1.length c1_1)) (ds := []) #[ff,ff,ff,ff,ff,ff,ff,ff,ff,ff,ff,ff,ff,ff,ff,ff,ff,ff,ff,ff,ff,ff,ff,ff,ff] (by kernel_rfl) rfl rfl ⟨bc c9a 0, bc c9a 1, bc a9a 0, bc a9a 1⟩ (fun hHeld => ?_); refine with_tabW spec_MemoOk.tab7 spec_MemoOk.bits7 (fun HT_ HW_ => ?_)
           generalize w36.drew = w37 at b9a a9a c9a HB hHeld ⊢
           refine pu 0 36 (tb 25 1) HT_ ?_
           refine tk 1 37 (tb 25 3) rfl rfl HT_ HW_ hHeld (by rintro w' ⟨s0, s1, s2, s3⟩; go_simp; with_reducible rfl) ?_
           refine pu 2 38 (tb 25 7) HT_ ?_
           refine one_ (i := 3) (N := some 39) #[tt,tt,tt,tt,ff,ff,ff,ff,ff,ff,ff,ff,ff,ff,ff,ff,ff,ff,ff,ff,ff,ff,ff,ff,ff] rfl rfl (one_of HT_.out (by kernel_rfl)) (by decide) (fun K hK => ?_)
           refine goes_ Try.func43 (by kernel_rfl) rfl #[.int .i64 (((rd_T86 l1_1 x5_2).f0).size : Int), .int .i64 1, .int .i64 64] (by rfl) rfl rfl (by (try simp only [List.map_toArray, List.map_cons, List.map_nil]); first | done | rfl | (simp only [List.length_drop, List.length_take]; rfl)) ?_
           with_reducible refine (spec_l1In.calls (((rd_T86 l1_1 x5_2).f0).size : Int) 1 64 true _ A24.out).mono ?_
           rintro e w' ⟨rfl, ⟨nd, rfl⟩⟩
           refine ⟨_, rfl, ?_⟩
           have q38 : (x5_2 : Int) ≤ ((l1_1.length : Int) : Int) := oD
           obtain ⟨i038, hi038, _, hsz38, _⟩ := info_parts info86
           have hroom38 : l1_1.length ≤ c1_1 := HC1_1.out
           have hC38 : Kd.C k86 _ (some q9a) l1_1.length l1_1 := y9a.out
           have hcut38 := cut_to (P := Try.prog) 29 86 .i64 Try.underlying29 hi038 (some q9a) l1_1.length c1_1 x5_2 (oD) q38 hroom38
           have hr38 := Kd.C_take (m := (x5_2 : Int).toNat) hC38 (by omega)
           have hy38 : y257.length = (x5_2 : Int).toNat := (by rw [A9a.out, List.length_take]; omega)
           rw [← A9a.out] at hr38
           rw [← hy38] at hcut38
           have HR260 := Aside0.mk hr38
           have HC260 := Aside0.mk (show y257.length ≤ c1_1 from by omega)
           clear hr38 hC38 hroom38 hi038 hsz38; have KY38 := Aside0.mk hy38
           clear hy38; replace q38 := eq_true q38
           refine hK.out _ _ ⟨bc c9a 0, bc c9a 1, bc a9a 0, bc a9a 1⟩ (fun hHeld => ?_)
           clear hK K; refine norm_ (a' := ?_) ?_ ?_
           rotate_left
           ·show Act.put _ (some 39) _ = _
            simp only [putL, i64_w, i32_w]; rfl
           refine pu 4 40 (tb 25 31) HT_ ?_
           refine pu 5 41 (tb 25 63) HT_ ?_
           refine pu 6 42 (tb 25 127) HT_ ?_
           refine pu 8 44 (tb 25 383) HT_ ?_
           refine pu 10 46 (tb 25 1407) HT_ ?_
           refine tk 7 43 (tb 25 1535) rfl rfl HT_ HW_ hHeld (by rintro w' ⟨s0, s1, s2, s3⟩; go_simp; with_reducible rfl) ?_
           refine pu 9 45 (tb 25 2047) HT_ ?_
           refine tk 11 47 (tb 25 4095) rfl rfl HT_ HW_ hHeld (by rintro w' ⟨s0, s1, s2, s3⟩; go_simp; with_reducible rfl) ?_
           refine one_ (i := 12) (N := some 48) #[tt,tt,tt,tt,tt,tt,tt,tt,tt,tt,tt,tt,tt,ff,ff,ff,ff,ff,ff,ff,ff,ff,ff,ff,ff] rfl rfl (one_of HT_.out (by kernel_rfl)) (by decide) (fun K hK => ?_)
           refine goes_ Try.func57 (by kernel_rfl) rfl #[.slice (some q9a) y257.length c1_1, .string ((rd_T86 l1_1 x5_2).f0)] (by rfl) rfl rfl (by (try simp only [List.map_toArray, List.map_cons, List.map_nil]); first | done | rfl | (simp only [List.length_drop, List.length_take]; rfl)) ?_
           with_reducible refine (spec_l10At.calls k2 _ _ y257 ((rd_T86 l1_1 x5_2).f0) t261 _ ?side1 ?side2 A28.out).mono ?_
           (case side1 => exact cX (Kd.C_below HR260.out (be HB)))
           (case side2 => exact HC260.out)
           rintro e w' ⟨rfl, ⟨nd, rfl⟩⟩
           refine ⟨_, rfl, ?_⟩
           refine hK.out _ _ ⟨bc c9a 0, bc c9a 1, bc a9a 0, bc a9a 1⟩ (fun hHeld => ?_)
           clear hK K; refine norm_ (a' := ?_) ?_ ?_
           rotate_left
           ·show Act.put _ (some 48) _ = _
            simp only [putL, i64_w, i32_w]; rfl
           refine pu 13 49 (tb 25 16383) HT_ ?_
           refine pu 14 50 (tb 25 32767) HT_ ?_
           refine pu 15 51 (tb 25 65535) HT_ ?_
           refine pn 16 52 (tb 25 131071) HT_ ?_
           refine pn 17 53 (tb 25 262143) HT_ ?_
           refine pn 18 54 (tb 25 524287) HT_ ?_
           refine pn 19 55 (tb 25 1048575) HT_ ?_
           refine pn 20 56 (tb 25 2097151) HT_ ?_
           refine pn 21 57 (tb 25 4194303) HT_ ?_
           refine pn 22 58 (tb 25 8388607) HT_ ?_
           refine pn 23 59 (tb 25 16777215) HT_ ?_
           refine pu 24 60 (tb 25 33554431) HT_ ?_
           refine done_ (done_of HT_.out (by kernel_rfl)) ?_
           try go_wp2
           go_ret
           exact ⟨eR, iB HB⟩
          ·rw [if_neg c29] at H
           have c29b0 : decide (0 ≤ t261) = false := decide_eq_false c29
           clear c29; replace H := Option.bind_eq_some_iff.mp H
           obtain ⟨t262, A390, H⟩ := H
           replace H : ((spec_l10SameInts.f k2 ((rd_T86 l1_1 x5_2).f1) t262).bind fun t265 => (if t265 = true then (spec_MemoOk.l0 k2 (wrap64 (x5_2 + 1)) l0_0 a1_0 l1_1) else (some false))) = some r := H
           have A39 := Aside0.mk A390
           clear A390; replace H := Option.bind_eq_some_iff.mp H
           obtain ⟨t265, A400, H⟩ := H
           replace H : (if t265 = true then (spec_MemoOk.l0 k2 (wrap64 (x5_2 + 1)) l0_0 a1_0 l1_1) else (some false)) = some r := H
           have A40 := Aside0.mk A400
           clear A400
           by_cases c41 : t265 = true
           ·subst c41
            have H1 : (spec_MemoOk.l0 k2 (wrap64 (x5_2 + 1)) l0_0 a1_0 l1_1) = some r := by rw [if_pos rfl] at H; exact H
            clear H; have H := H1
            clear H1; have H' := Aside0.mk H
            clear H; have hnb42 := l9a.out; have hnc42 := k9a.out; obtain ⟨hcz43_0, hcz43_1⟩ := cs2 a9a; obtain ⟨hfz43_0, hfz43_1⟩ := fs2 a9a; have p254 : 0 ≤ (x5_2 : Int) := oD
            have q254 : x5_2 < (l1_1.length : Int) := oD
            obtain ⟨q9a, e9a, f9a, e254, i9a, j9a, m9a, n9a⟩ := at_T86 y9a.out x5_2 p254 q254
            cases e254
            replace i9a := (HB.out.cell (World.block_lt_of_cell? w _ i9a)).trans i9a
            replace j9a := (HB.out.cell (World.block_lt_of_cell? w _ j9a)).trans j9a
            have v9a := Aside0.mk n9a
            have w9a := Aside0.mk m9a
            clear n9a m9a; replace p254 := eq_true p254
            replace q254 := eq_true q254
            try go_wp2_with (first | ((with_reducible refine gate_dst (N := 6) rfl ?_); (try (refine gate_guard (by rfl) ?_; dsimp only)); refine bX 6 #[.string (⟨#[]⟩ : ByteArray), .slice none 0 0] 86 ?_; intro d9a hg w44 hbox hb; have c9a := Aside0.mk (hbox); have GW255 := bs HB hg; have x9a := bs HB hg; have g9a := bl b9a hg; have o9a := bg b9a hg; have h9a := bl a9a hg; have p9a := bg a9a hg; replace b9a := bq b9a hb; replace a9a := bq a9a hb; replace HB := bh HB hb; clear hb hbox hg; have hnb45 := o9a.out; have hnc45 := g9a.out; have hnb46 := p9a.out; have hnc46 := h9a.out; obtain ⟨hcz47_0, hcz47_1⟩ := cs2 c9a; obtain ⟨hfz47_0, hfz47_1⟩ := fs2 c9a))
            have n0_ : Aside0 (((w44.setCell ⟨d9a, 0, none⟩ (.string ((rd_T86 l1_1 x5_2).f0))).setCell ⟨d9a, 1, none⟩ (.slice e9a ((rd_T86 l1_1 x5_2).f1).length f9a)).heap[u9a]? = some (.cells #[.slice A0_0 l0_0.length c0_0] 26 (0, 0))) := ⟨by (with_reducible repeat first | refine bkN ?_ _ | refine bkD ?_ | refine bkA ?_ _ | refine blk_far ?_ g9a.out _); exact b9a.out⟩
            have n1_ : Aside0 (((w44.setCell ⟨d9a, 0, none⟩ (.string ((rd_T86 l1_1 x5_2).f0))).setCell ⟨d9a, 1, none⟩ (.slice e9a ((rd_T86 l1_1 x5_2).f1).length f9a)).heap[t9a]? = some (.cells #[.int .i64 a1_0, .slice (some q9a) l1_1.length c1_1] 31 (0, 0))) := ⟨by (with_reducible repeat first | refine bkN ?_ _ | refine bkD ?_ | refine bkA ?_ _ | refine blk_far ?_ h9a.out _); exact a9a.out⟩
            have n2_ : Aside0 (((w44.setCell ⟨d9a, 0, none⟩ (.string ((rd_T86 l1_1 x5_2).f0))).setCell ⟨d9a, 1, none⟩ (.slice e9a ((rd_T86 l1_1 x5_2).f1).length f9a)).heap[d9a]? = some (.cells #[.string ((rd_T86 l1_1 x5_2).f0), .slice e9a ((rd_T86 l1_1 x5_2).f1).length f9a] 86 (0, 0))) := ⟨by (with_reducible repeat first | refine bkN ?_ _ | refine bkD ?_ | refine bkA ?_ _); refine blk_put (cs := #[.string ((rd_T86 l1_1 x5_2).f0), .slice none 0 0]) ?_ 1 _ rfl; (with_reducible repeat first | refine bkN ?_ _ | refine bkD ?_ | refine bkA ?_ _); refine blk_put (cs := #[.string (⟨#[]⟩ : ByteArray), .slice none 0 0]) ?_ 0 _ rfl; (with_reducible repeat first | refine bkN ?_ _ | refine bkD ?_ | refine bkA ?_ _); exact c9a.out⟩
            have n3_ : Aside0 (Below w.heap.size w ((w44.setCell ⟨d9a, 0, none⟩ (.string ((rd_T86 l1_1 x5_2).f0))).setCell ⟨d9a, 1, none⟩ (.slice e9a ((rd_T86 l1_1 x5_2).f1).length f9a))) := ⟨iB HB⟩
            generalize ((w44.setCell ⟨d9a, 0, none⟩ (.string ((rd_T86 l1_1 x5_2).f0))).setCell ⟨d9a, 1, none⟩ (.slice e9a ((rd_T86 l1_1 x5_2).f1).length f9a)) = w48 at n0_ n1_ n2_ n3_ ⊢
            have b9a := n0_; have a9a := n1_; have c9a := n2_; have HB := n3_; clear n0_ n1_ n2_ n3_; have n0_ := Aside0.mk (blk_drew b9a.out)
            have n1_ := Aside0.mk (blk_drew a9a.out)
            have n2_ := Aside0.mk (blk_drew c9a.out)
            have n3_ := Aside0.mk (below_drew1 HB.out)
            clear b9a a9a c9a HB; have b9a := n0_; have a9a := n1_; have c9a := n2_; have HB := n3_; clear n0_ n1_ n2_ n3_; refine start_ (n := 25) (S := fun w' => w'.cell? ⟨d9a, 0, none⟩ = some (.string ((rd_T86 l1_1 x5_2).f0)) ∧ w'.cell? ⟨d9a, 1, none⟩ = some (.slice e9a ((rd_T86 l1_1 x5_2).f1).length f9a) ∧ w'.cell? ⟨t9a, 0, none⟩ = some (.int .i64 a1_0) ∧ w'.cell? ⟨t9a, 1, none⟩ = some (.slice (some q9a) l1_1.length c1_1) ∧ w'.cell? ⟨u9a, 0, none⟩ = some (.slice A0_0 l0_0.length c0_0)) (ds := []) #[ff,ff,ff,ff,ff,ff,ff,ff,ff,ff,ff,ff,ff,ff,ff,ff,ff,ff,ff,ff,ff,ff,ff,ff,ff] (by kernel_rfl) rfl rfl ⟨bc c9a 0, bc c9a 1, bc a9a 0, bc a9a 1, bc b9a 0⟩ (fun hHeld => ?_); refine with_tabW spec_MemoOk.tab7 spec_MemoOk.bits7 (fun HT_ HW_ => ?_)
            generalize w48.drew = w49 at b9a a9a c9a HB hHeld ⊢
            refine pu 0 36 (tb 25 1) HT_ ?_
            refine tk 1 37 (tb 25 3) rfl rfl HT_ HW_ hHeld (by rintro w' ⟨s0, s1, s2, s3, s4⟩; go_simp; with_reducible rfl) ?_
            refine pu 2 38 (tb 25 7) HT_ ?_
            refine one_ (i := 3) (N := some 39) #[tt,tt,tt,tt,ff,ff,ff,ff,ff,ff,ff,ff,ff,ff,ff,ff,ff,ff,ff,ff,ff,ff,ff,ff,ff] rfl rfl (one_of HT_.out (by kernel_rfl)) (by decide) (fun K hK => ?_)
            refine goes_ Try.func43 (by kernel_rfl) rfl #[.int .i64 (((rd_T86 l1_1 x5_2).f0).size : Int), .int .i64 1, .int .i64 64] (by rfl) rfl rfl (by (try simp only [List.map_toArray, List.map_cons, List.map_nil]); first | done | rfl | (simp only [List.length_drop, List.length_take]; rfl)) ?_
            with_reducible refine (spec_l1In.calls (((rd_T86 l1_1 x5_2).f0).size : Int) 1 64 true _ A24.out).mono ?_
            rintro e w' ⟨rfl, ⟨nd, rfl⟩⟩
            refine ⟨_, rfl, ?_⟩
            have q50 : (x5_2 : Int) ≤ ((l1_1.length : Int) : Int) := oD
            obtain ⟨i050, hi050, _, hsz50, _⟩ := info_parts info86
            have hroom50 : l1_1.length ≤ c1_1 := HC1_1.out
            have hC50 : Kd.C k86 _ (some q9a) l1_1.length l1_1 := y9a.out
            have hcut50 := cut_to (P := Try.prog) 29 86 .i64 Try.underlying29 hi050 (some q9a) l1_1.length c1_1 x5_2 (oD) q50 hroom50
            have hr50 := Kd.C_take (m := (x5_2 : Int).toNat) hC50 (by omega)
            have hy50 : y257.length = (x5_2 : Int).toNat := (by rw [A9a.out, List.length_take]; omega)
            rw [← A9a.out] at hr50
            rw [← hy50] at hcut50
            have HR260 := Aside0.mk hr50
            have HC260 := Aside0.mk (show y257.length ≤ c1_1 from by omega)
            clear hr50 hC50 hroom50 hi050 hsz50; have KY50 := Aside0.mk hy50
            clear hy50; replace q50 := eq_true q50
            refine hK.out _ _ ⟨bc c9a 0, bc c9a 1, bc a9a 0, bc a9a 1, bc b9a 0⟩ (fun hHeld => ?_)
            clear hK K; refine norm_ (a' := ?_) ?_ ?_
            rotate_left
            ·show Act.put _ (some 39) _ = _
             simp only [putL, i64_w, i32_w]; rfl
            refine pu 4 40 (tb 25 31) HT_ ?_
            refine pu 5 41 (tb 25 63) HT_ ?_
            refine pu 6 42 (tb 25 127) HT_ ?_
            refine pu 8 44 (tb 25 383) HT_ ?_
            refine pu 10 46 (tb 25 1407) HT_ ?_
            refine tk 7 43 (tb 25 1535) rfl rfl HT_ HW_ hHeld (by rintro w' ⟨s0, s1, s2, s3, s4⟩; go_simp; with_reducible rfl) ?_
            refine pu 9 45 (tb 25 2047) HT_ ?_
            refine tk 11 47 (tb 25 4095) rfl rfl HT_ HW_ hHeld (by rintro w' ⟨s0, s1, s2, s3, s4⟩; go_simp; with_reducible rfl) ?_
            refine one_ (i := 12) (N := some 48) #[tt,tt,tt,tt,tt,tt,tt,tt,tt,tt,tt,tt,tt,ff,ff,ff,ff,ff,ff,ff,ff,ff,ff,ff,ff] rfl rfl (one_of HT_.out (by kernel_rfl)) (by decide) (fun K hK => ?_)
            refine goes_ Try.func57 (by kernel_rfl) rfl #[.slice (some q9a) y257.length c1_1, .string ((rd_T86 l1_1 x5_2).f0)] (by rfl) rfl rfl (by (try simp only [List.map_toArray, List.map_cons, List.map_nil]); first | done | rfl | (simp only [List.length_drop, List.length_take]; rfl)) ?_
            with_reducible refine (spec_l10At.calls k2 _ _ y257 ((rd_T86 l1_1 x5_2).f0) t261 _ ?side1 ?side2 A28.out).mono ?_
            (case side1 => exact cX (Kd.C_below HR260.out (be HB)))
            (case side2 => exact HC260.out)
            rintro e w' ⟨rfl, ⟨nd, rfl⟩⟩
            refine ⟨_, rfl, ?_⟩
            refine hK.out _ _ ⟨bc c9a 0, bc c9a 1, bc a9a 0, bc a9a 1, bc b9a 0⟩ (fun hHeld => ?_)
            clear hK K; refine norm_ (a' := ?_) ?_ ?_
            rotate_left
            ·show Act.put _ (some 48) _ = _
             simp only [putL, i64_w, i32_w]; rfl
            refine pu 13 49 (tb 25 16383) HT_ ?_
            refine pu 14 50 (tb 25 32767) HT_ ?_
            refine pu 15 51 (tb 25 65535) HT_ ?_
            refine pu 16 52 (tb 25 131071) HT_ ?_
            refine pu 19 55 (tb 25 655359) HT_ ?_
            refine tk 17 53 (tb 25 786431) rfl rfl HT_ HW_ hHeld (by rintro w' ⟨s0, s1, s2, s3, s4⟩; go_simp; with_reducible rfl) ?_
            refine tk 18 54 (tb 25 1048575) rfl rfl HT_ HW_ hHeld (by rintro w' ⟨s0, s1, s2, s3, s4⟩; go_simp; with_reducible rfl) ?_
            refine tk 20 56 (tb 25 2097151) rfl rfl HT_ HW_ hHeld (by rintro w' ⟨s0, s1, s2, s3, s4⟩; go_simp; with_reducible rfl) ?_
            refine one_ (i := 21) (N := some 57) #[tt,tt,tt,tt,tt,tt,tt,tt,tt,tt,tt,tt,tt,tt,tt,tt,tt,tt,tt,tt,tt,tt,ff,ff,ff] rfl rfl (one_of HT_.out (by kernel_rfl)) (by decide) (fun K hK => ?_)
            refine goes_ Try.func40 (by kernel_rfl) rfl #[.agg #[.slice A0_0 l0_0.length c0_0], .string ((rd_T86 l1_1 x5_2).f0)] (by rfl) rfl rfl (by (try simp only [List.map_toArray, List.map_cons, List.map_nil]); first | done | rfl | (simp only [List.length_drop, List.length_take]; rfl)) ?_
            with_reducible refine (spec_l8Bpe.calls k2 _ _ l0_0 ((rd_T86 l1_1 x5_2).f0) t262 _ ?side1 ?side2 A39.out).mono ?_
            (case side1 => exact cX (Kd.C_below HR0_0.out (be HB)))
            (case side2 => exact HC0_0.out)
            rintro e w51 ⟨v263, rfl, ho0, hb⟩
            refine ⟨_, rfl, ?_⟩
            have z9a := Aside0.mk (Kd.R_lower ho0 (below_size (be HB)))
            replace b9a := bq b9a hb; replace a9a := bq a9a hb; replace c9a := bq c9a hb; replace HB := bh HB hb
            (try clear hb); (try clear hb2); (try clear hk); (try clear hi); obtain ⟨Ao52, co52, eo52⟩ := Kd.R_slice z9a.out
            (first | subst eo52 | (injection eo52 with f1_ f2_ f3_; have f4_ := f1_.symm; have f5_ := f3_.symm; clear f1_ f2_ f3_; subst f4_; subst f5_))
            refine hK.out _ _ ⟨bc c9a 0, bc c9a 1, bc a9a 0, bc a9a 1, bc b9a 0⟩ (fun hHeld => ?_)
            clear hK K; refine norm_ (a' := ?_) ?_ ?_
            rotate_left
            ·show Act.put _ (some 57) _ = _
             simp only [putL, i64_w, i32_w]; rfl
            refine one_ (i := 22) (N := some 58) #[tt,tt,tt,tt,tt,tt,tt,tt,tt,tt,tt,tt,tt,tt,tt,tt,tt,tt,tt,tt,tt,tt,tt,ff,ff] rfl rfl (one_of HT_.out (by kernel_rfl)) (by decide) (fun K hK => ?_)
            refine goes_ Try.func58 (by kernel_rfl) rfl #[.slice e9a ((rd_T86 l1_1 x5_2).f1).length f9a, .slice Ao52 t262.length co52] (by rfl) rfl rfl (by (try simp only [List.map_toArray, List.map_cons, List.map_nil]); first | done | rfl | (simp only [List.length_drop, List.length_take]; rfl)) ?_
            with_reducible refine (spec_l10SameInts.calls k2 _ _ ((rd_T86 l1_1 x5_2).f1) _ _ t262 true _ ?side1 ?side2 ?side3 ?side4 A40.out).mono ?_
            (case side1 => exact cX (Kd.C_below v9a.out HB.out))
            (case side2 => exact w9a.out)
            (case side3 => exact cX ((Kd.R_reads' z9a.out).2.2))
            (case side4 => exact (Kd.R_reads' z9a.out).2.1)
            rintro e w' ⟨rfl, ⟨nd, rfl⟩⟩
            refine ⟨_, rfl, ?_⟩
            refine hK.out _ _ ⟨bc c9a 0, bc c9a 1, bc a9a 0, bc a9a 1, bc b9a 0⟩ (fun hHeld => ?_)
            clear hK K; refine norm_ (a' := ?_) ?_ ?_
            rotate_left
            ·show Act.put _ (some 58) _ = _
             simp only [putL, i64_w, i32_w]; rfl
            refine pu 23 59 (tb 25 16777215) HT_ ?_
            refine pu 24 60 (tb 25 33554431) HT_ ?_
            refine done_ (done_of HT_.out (by kernel_rfl)) ?_
            try go_wp2
            go_roundg k2
            case measure => have := HJ2.out; have := HK2.out; omega
            case rel => exact ⟨(wrap64 (x5_2 + 1)), sR, H', ⟨by have := HJ2.out; have := HK2.out; omega⟩, ⟨bb b9a⟩, ⟨bb a9a⟩, ⟨iB HB⟩⟩
           ·replace c41 := Bool.eq_false_iff.mpr c41
            subst c41
            have H1 : (some false) = some r := by rw [if_neg (show ¬ (false = true) by decide)] at H; exact H
            clear H; have H := H1
            clear H1; obtain rfl := Option.some.inj H
            have hnb53 := l9a.out; have hnc53 := k9a.out; obtain ⟨hcz54_0, hcz54_1⟩ := cs2 a9a; obtain ⟨hfz54_0, hfz54_1⟩ := fs2 a9a; have p254 : 0 ≤ (x5_2 : Int) := oD
            have q254 : x5_2 < (l1_1.length : Int) := oD
            obtain ⟨q9a, e9a, f9a, e254, i9a, j9a, m9a, n9a⟩ := at_T86 y9a.out x5_2 p254 q254
            cases e254
            replace i9a := (HB.out.cell (World.block_lt_of_cell? w _ i9a)).trans i9a
            replace j9a := (HB.out.cell (World.block_lt_of_cell? w _ j9a)).trans j9a
            have v9a := Aside0.mk n9a
            have w9a := Aside0.mk m9a
            clear n9a m9a; replace p254 := eq_true p254
            replace q254 := eq_true q254
            try go_wp2_with (first | ((with_reducible refine gate_dst (N := 6) rfl ?_); (try (refine gate_guard (by rfl) ?_; dsimp only)); refine bX 6 #[.string (⟨#[]⟩ : ByteArray), .slice none 0 0] 86 ?_; intro d9a hg w55 hbox hb; have c9a := Aside0.mk (hbox); have GW255 := bs HB hg; have x9a := bs HB hg; have g9a := bl b9a hg; have o9a := bg b9a hg; have h9a := bl a9a hg; have p9a := bg a9a hg; replace b9a := bq b9a hb; replace a9a := bq a9a hb; replace HB := bh HB hb; clear hb hbox hg; have hnb56 := o9a.out; have hnc56 := g9a.out; have hnb57 := p9a.out; have hnc57 := h9a.out; obtain ⟨hcz58_0, hcz58_1⟩ := cs2 c9a; obtain ⟨hfz58_0, hfz58_1⟩ := fs2 c9a))
            have n0_ : Aside0 (((w55.setCell ⟨d9a, 0, none⟩ (.string ((rd_T86 l1_1 x5_2).f0))).setCell ⟨d9a, 1, none⟩ (.slice e9a ((rd_T86 l1_1 x5_2).f1).length f9a)).heap[u9a]? = some (.cells #[.slice A0_0 l0_0.length c0_0] 26 (0, 0))) := ⟨by (with_reducible repeat first | refine bkN ?_ _ | refine bkD ?_ | refine bkA ?_ _ | refine blk_far ?_ g9a.out _); exact b9a.out⟩
            have n1_ : Aside0 (((w55.setCell ⟨d9a, 0, none⟩ (.string ((rd_T86 l1_1 x5_2).f0))).setCell ⟨d9a, 1, none⟩ (.slice e9a ((rd_T86 l1_1 x5_2).f1).length f9a)).heap[t9a]? = some (.cells #[.int .i64 a1_0, .slice (some q9a) l1_1.length c1_1] 31 (0, 0))) := ⟨by (with_reducible repeat first | refine bkN ?_ _ | refine bkD ?_ | refine bkA ?_ _ | refine blk_far ?_ h9a.out _); exact a9a.out⟩
            have n2_ : Aside0 (((w55.setCell ⟨d9a, 0, none⟩ (.string ((rd_T86 l1_1 x5_2).f0))).setCell ⟨d9a, 1, none⟩ (.slice e9a ((rd_T86 l1_1 x5_2).f1).length f9a)).heap[d9a]? = some (.cells #[.string ((rd_T86 l1_1 x5_2).f0), .slice e9a ((rd_T86 l1_1 x5_2).f1).length f9a] 86 (0, 0))) := ⟨by (with_reducible repeat first | refine bkN ?_ _ | refine bkD ?_ | refine bkA ?_ _); refine blk_put (cs := #[.string ((rd_T86 l1_1 x5_2).f0), .slice none 0 0]) ?_ 1 _ rfl; (with_reducible repeat first | refine bkN ?_ _ | refine bkD ?_ | refine bkA ?_ _); refine blk_put (cs := #[.string (⟨#[]⟩ : ByteArray), .slice none 0 0]) ?_ 0 _ rfl; (with_reducible repeat first | refine bkN ?_ _ | refine bkD ?_ | refine bkA ?_ _); exact c9a.out⟩
            have n3_ : Aside0 (Below w.heap.size w ((w55.setCell ⟨d9a, 0, none⟩ (.string ((rd_T86 l1_1 x5_2).f0))).setCell ⟨d9a, 1, none⟩ (.slice e9a ((rd_T86 l1_1 x5_2).f1).length f9a))) := ⟨iB HB⟩
            generalize ((w55.setCell ⟨d9a, 0, none⟩ (.string ((rd_T86 l1_1 x5_2).f0))).setCell ⟨d9a, 1, none⟩ (.slice e9a ((rd_T86 l1_1 x5_2).f1).length f9a)) = w59 at n0_ n1_ n2_ n3_ ⊢
            have b9a := n0_; have a9a := n1_; have c9a := n2_; have HB := n3_; clear n0_ n1_ n2_ n3_; have n0_ := Aside0.mk (blk_drew b9a.out)
            have n1_ := Aside0.mk (blk_drew a9a.out)
            have n2_ := Aside0.mk (blk_drew c9a.out)
            have n3_ := Aside0.mk (below_drew1 HB.out)
            clear b9a a9a c9a HB; have b9a := n0_; have a9a := n1_; have c9a := n2_; have HB := n3_; clear n0_ n1_ n2_ n3_; refine start_ (n := 25) (S := fun w' => w'.cell? ⟨d9a, 0, none⟩ = some (.string ((rd_T86 l1_1 x5_2).f0)) ∧ w'.cell? ⟨d9a, 1, none⟩ = some (.slice e9a ((rd_T86 l1_1 x5_2).f1).length f9a) ∧ w'.cell? ⟨t9a, 0, none⟩ = some (.int .i64 a1_0) ∧ w'.cell? ⟨t9a, 1, none⟩ = some (.slice (some q9a) l1_1.length c1_1) ∧ w'.cell? ⟨u9a, 0, none⟩ = some (.slice A0_0 l0_0.length c0_0)) (ds := []) #[ff,ff,ff,ff,ff,ff,ff,ff,ff,ff,ff,ff,ff,ff,ff,ff,ff,ff,ff,ff,ff,ff,ff,ff,ff] (by kernel_rfl) rfl rfl ⟨bc c9a 0, bc c9a 1, bc a9a 0, bc a9a 1, bc b9a 0⟩ (fun hHeld => ?_); refine with_tabW spec_MemoOk.tab7 spec_MemoOk.bits7 (fun HT_ HW_ => ?_)
            generalize w59.drew = w60 at b9a a9a c9a HB hHeld ⊢
            refine pu 0 36 (tb 25 1) HT_ ?_
            refine tk 1 37 (tb 25 3) rfl rfl HT_ HW_ hHeld (by rintro w' ⟨s0, s1, s2, s3, s4⟩; go_simp; with_reducible rfl) ?_
            refine pu 2 38 (tb 25 7) HT_ ?_
            refine one_ (i := 3) (N := some 39) #[tt,tt,tt,tt,ff,ff,ff,ff,ff,ff,ff,ff,ff,ff,ff,ff,ff,ff,ff,ff,ff,ff,ff,ff,ff] rfl rfl (one_of HT_.out (by kernel_rfl)) (by decide) (fun K hK => ?_)
            refine goes_ Try.func43 (by kernel_rfl) rfl #[.int .i64 (((rd_T86 l1_1 x5_2).f0).size : Int), .int .i64 1, .int .i64 64] (by rfl) rfl rfl (by (try simp only [List.map_toArray, List.map_cons, List.map_nil]); first | done | rfl | (simp only [List.length_drop, List.length_take]; rfl)) ?_
            with_reducible refine (spec_l1In.calls (((rd_T86 l1_1 x5_2).f0).size : Int) 1 64 true _ A24.out).mono ?_
            rintro e w' ⟨rfl, ⟨nd, rfl⟩⟩
            refine ⟨_, rfl, ?_⟩
            have q61 : (x5_2 : Int) ≤ ((l1_1.length : Int) : Int) := oD
            obtain ⟨i061, hi061, _, hsz61, _⟩ := info_parts info86
            have hroom61 : l1_1.length ≤ c1_1 := HC1_1.out
            have hC61 : Kd.C k86 _ (some q9a) l1_1.length l1_1 := y9a.out
            have hcut61 := cut_to (P := Try.prog) 29 86 .i64 Try.underlying29 hi061 (some q9a) l1_1.length c1_1 x5_2 (oD) q61 hroom61
            have hr61 := Kd.C_take (m := (x5_2 : Int).toNat) hC61 (by omega)
            have hy61 : y257.length = (x5_2 : Int).toNat := (by rw [A9a.out, List.length_take]; omega)
            rw [← A9a.out] at hr61
            rw [← hy61] at hcut61
            have HR260 := Aside0.mk hr61
            have HC260 := Aside0.mk (show y257.length ≤ c1_1 from by omega)
            clear hr61 hC61 hroom61 hi061 hsz61; have KY61 := Aside0.mk hy61
            clear hy61; replace q61 := eq_true q61
            refine hK.out _ _ ⟨bc c9a 0, bc c9a 1, bc a9a 0, bc a9a 1, bc b9a 0⟩ (fun hHeld => ?_)
            clear hK K; refine norm_ (a' := ?_) ?_ ?_
            rotate_left
            ·show Act.put _ (some 39) _ = _
             simp only [putL, i64_w, i32_w]; rfl
            refine pu 4 40 (tb 25 31) HT_ ?_
            refine pu 5 41 (tb 25 63) HT_ ?_
            refine pu 6 42 (tb 25 127) HT_ ?_
            refine pu 8 44 (tb 25 383) HT_ ?_
            refine pu 10 46 (tb 25 1407) HT_ ?_
            refine tk 7 43 (tb 25 1535) rfl rfl HT_ HW_ hHeld (by rintro w' ⟨s0, s1, s2, s3, s4⟩; go_simp; with_reducible rfl) ?_
            refine pu 9 45 (tb 25 2047) HT_ ?_
            refine tk 11 47 (tb 25 4095) rfl rfl HT_ HW_ hHeld (by rintro w' ⟨s0, s1, s2, s3, s4⟩; go_simp; with_reducible rfl) ?_
            refine one_ (i := 12) (N := some 48) #[tt,tt,tt,tt,tt,tt,tt,tt,tt,tt,tt,tt,tt,ff,ff,ff,ff,ff,ff,ff,ff,ff,ff,ff,ff] rfl rfl (one_of HT_.out (by kernel_rfl)) (by decide) (fun K hK => ?_)
            refine goes_ Try.func57 (by kernel_rfl) rfl #[.slice (some q9a) y257.length c1_1, .string ((rd_T86 l1_1 x5_2).f0)] (by rfl) rfl rfl (by (try simp only [List.map_toArray, List.map_cons, List.map_nil]); first | done | rfl | (simp only [List.length_drop, List.length_take]; rfl)) ?_
            with_reducible refine (spec_l10At.calls k2 _ _ y257 ((rd_T86 l1_1 x5_2).f0) t261 _ ?side1 ?side2 A28.out).mono ?_
            (case side1 => exact cX (Kd.C_below HR260.out (be HB)))
            (case side2 => exact HC260.out)
            rintro e w' ⟨rfl, ⟨nd, rfl⟩⟩
            refine ⟨_, rfl, ?_⟩
            refine hK.out _ _ ⟨bc c9a 0, bc c9a 1, bc a9a 0, bc a9a 1, bc b9a 0⟩ (fun hHeld => ?_)
            clear hK K; refine norm_ (a' := ?_) ?_ ?_
            rotate_left
            ·show Act.put _ (some 48) _ = _
             simp only [putL, i64_w, i32_w]; rfl
            refine pu 13 49 (tb 25 16383) HT_ ?_
            refine pu 14 50 (tb 25 32767) HT_ ?_
            refine pu 15 51 (tb 25 65535) HT_ ?_
            refine pu 16 52 (tb 25 131071) HT_ ?_
            refine pu 19 55 (tb 25 655359) HT_ ?_
            refine tk 17 53 (tb 25 786431) rfl rfl HT_ HW_ hHeld (by rintro w' ⟨s0, s1, s2, s3, s4⟩; go_simp; with_reducible rfl) ?_
            refine tk 18 54 (tb 25 1048575) rfl rfl HT_ HW_ hHeld (by rintro w' ⟨s0, s1, s2, s3, s4⟩; go_simp; with_reducible rfl) ?_
            refine tk 20 56 (tb 25 2097151) rfl rfl HT_ HW_ hHeld (by rintro w' ⟨s0, s1, s2, s3, s4⟩; go_simp; with_reducible rfl) ?_
            refine one_ (i := 21) (N := some 57) #[tt,tt,tt,tt,tt,tt,tt,tt,tt,tt,tt,tt,tt,tt,tt,tt,tt,tt,tt,tt,tt,tt,ff,ff,ff] rfl rfl (one_of HT_.out (by kernel_rfl)) (by decide) (fun K hK => ?_)
            refine goes_ Try.func40 (by kernel_rfl) rfl #[.agg #[.slice A0_0 l0_0.length c0_0], .string ((rd_T86 l1_1 x5_2).f0)] (by rfl) rfl rfl (by (try simp only [List.map_toArray, List.map_cons, List.map_nil]); first | done | rfl | (simp only [List.length_drop, List.length_take]; rfl)) ?_
            with_reducible refine (spec_l8Bpe.calls k2 _ _ l0_0 ((rd_T86 l1_1 x5_2).f0) t262 _ ?side1 ?side2 A39.out).mono ?_
            (case side1 => exact cX (Kd.C_below HR0_0.out (be HB)))
            (case side2 => exact HC0_0.out)
            rintro e w62 ⟨v263, rfl, ho0, hb⟩
            refine ⟨_, rfl, ?_⟩
            have z9a := Aside0.mk (Kd.R_lower ho0 (below_size (be HB)))
            replace b9a := bq b9a hb; replace a9a := bq a9a hb; replace c9a := bq c9a hb; replace HB := bh HB hb
            (try clear hb); (try clear hb2); (try clear hk); (try clear hi); obtain ⟨Ao63, co63, eo63⟩ := Kd.R_slice z9a.out
            (first | subst eo63 | (injection eo63 with f1_ f2_ f3_; have f4_ := f1_.symm; have f5_ := f3_.symm; clear f1_ f2_ f3_; subst f4_; subst f5_))
            refine hK.out _ _ ⟨bc c9a 0, bc c9a 1, bc a9a 0, bc a9a 1, bc b9a 0⟩ (fun hHeld => ?_)
            clear hK K; refine norm_ (a' := ?_) ?_ ?_
            rotate_left
            ·show Act.put _ (some 57) _ = _
             simp only [putL, i64_w, i32_w]; rfl
            refine one_ (i := 22) (N := some 58) #[tt,tt,tt,tt,tt,tt,tt,tt,tt,tt,tt,tt,tt,tt,tt,tt,tt,tt,tt,tt,tt,tt,tt,ff,ff] rfl rfl (one_of HT_.out (by kernel_rfl)) (by decide) (fun K hK => ?_)
            refine goes_ Try.func58 (by kernel_rfl) rfl #[.slice e9a ((rd_T86 l1_1 x5_2).f1).length f9a, .slice Ao63 t262.length co63] (by rfl) rfl rfl (by (try simp only [List.map_toArray, List.map_cons, List.map_nil]); first | done | rfl | (simp only [List.length_drop, List.length_take]; rfl)) ?_
            with_reducible refine (spec_l10SameInts.calls k2 _ _ ((rd_T86 l1_1 x5_2).f1) _ _ t262 false _ ?side1 ?side2 ?side3 ?side4 A40.out).mono ?_
            (case side1 => exact cX (Kd.C_below v9a.out HB.out))
            (case side2 => exact w9a.out)
            (case side3 => exact cX ((Kd.R_reads' z9a.out).2.2))
            (case side4 => exact (Kd.R_reads' z9a.out).2.1)
            rintro e w' ⟨rfl, ⟨nd, rfl⟩⟩
            refine ⟨_, rfl, ?_⟩
            refine hK.out _ _ ⟨bc c9a 0, bc c9a 1, bc a9a 0, bc a9a 1, bc b9a 0⟩ (fun hHeld => ?_)
            clear hK K; refine norm_ (a' := ?_) ?_ ?_
            rotate_left
            ·show Act.put _ (some 58) _ = _
             simp only [putL, i64_w, i32_w]; rfl
            refine pu 23 59 (tb 25 16777215) HT_ ?_
            refine pu 24 60 (tb 25 33554431) HT_ ?_
            refine done_ (done_of HT_.out (by kernel_rfl)) ?_
            try go_wp2
            go_ret
            exact ⟨eR, iB HB⟩
         ·rw [if_neg c27] at H
          exact absurd H (by simp)
        ·replace c25 := Bool.eq_false_iff.mpr c25
         subst c25
         have H1 : (some false) = some r := by rw [if_neg (show ¬ (false = true) by decide)] at H; exact H
         clear H; have H := H1
         clear H1; obtain rfl := Option.some.inj H
         have hnb64 := l9a.out; have hnc64 := k9a.out; obtain ⟨hcz65_0, hcz65_1⟩ := cs2 a9a; obtain ⟨hfz65_0, hfz65_1⟩ := fs2 a9a; have p254 : 0 ≤ (x5_2 : Int) := oD
         have q254 : x5_2 < (l1_1.length : Int) := oD
         obtain ⟨q9a, e9a, f9a, e254, i9a, j9a, m9a, n9a⟩ := at_T86 y9a.out x5_2 p254 q254
         cases e254
         replace i9a := (HB.out.cell (World.block_lt_of_cell? w _ i9a)).trans i9a
         replace j9a := (HB.out.cell (World.block_lt_of_cell? w _ j9a)).trans j9a
         have v9a := Aside0.mk n9a
         have w9a := Aside0.mk m9a
         clear n9a m9a; replace p254 := eq_true p254
         replace q254 := eq_true q254
         try go_wp2_with (first | ((with_reducible refine gate_dst (N := 6) rfl ?_); (try (refine gate_guard (by rfl) ?_; dsimp only)); refine bX 6 #[.string (⟨#[]⟩ : ByteArray), .slice none 0 0] 86 ?_; intro d9a hg w66 hbox hb; have c9a := Aside0.mk (hbox); have GW255 := bs HB hg; have x9a := bs HB hg; have g9a := bl b9a hg; have o9a := bg b9a hg; have h9a := bl a9a hg; have p9a := bg a9a hg; replace b9a := bq b9a hb; replace a9a := bq a9a hb; replace HB := bh HB hb; clear hb hbox hg; have hnb67 := o9a.out; have hnc67 := g9a.out; have hnb68 := p9a.out; have hnc68 := h9a.out; obtain ⟨hcz69_0, hcz69_1⟩ := cs2 c9a; obtain ⟨hfz69_0, hfz69_1⟩ := fs2 c9a))
         have n0_ : Aside0 (((w66.setCell ⟨d9a, 0, none⟩ (.string ((rd_T86 l1_1 x5_2).f0))).setCell ⟨d9a, 1, none⟩ (.slice e9a ((rd_T86 l1_1 x5_2).f1).length f9a)).heap[u9a]? = some (.cells #[.slice A0_0 l0_0.length c0_0] 26 (0, 0))) := ⟨by (with_reducible repeat first | refine bkN ?_ _ | refine bkD ?_ | refine bkA ?_ _ | refine blk_far ?_ g9a.out _); exact b9a.out⟩
         have n1_ : Aside0 (((w66.setCell ⟨d9a, 0, none⟩ (.string ((rd_T86 l1_1 x5_2).f0))).setCell ⟨d9a, 1, none⟩ (.slice e9a ((rd_T86 l1_1 x5_2).f1).length f9a)).heap[t9a]? = some (.cells #[.int .i64 a1_0, .slice (some q9a) l1_1.length c1_1] 31 (0, 0))) := ⟨by (with_reducible repeat first | refine bkN ?_ _ | refine bkD ?_ | refine bkA ?_ _ | refine blk_far ?_ h9a.out _); exact a9a.out⟩
         have n2_ : Aside0 (((w66.setCell ⟨d9a, 0, none⟩ (.string ((rd_T86 l1_1 x5_2).f0))).setCell ⟨d9a, 1, none⟩ (.slice e9a ((rd_T86 l1_1 x5_2).f1).length f9a)).heap[d9a]? = some (.cells #[.string ((rd_T86 l1_1 x5_2).f0), .slice e9a ((rd_T86 l1_1 x5_2).f1).length f9a] 86 (0, 0))) := ⟨by (with_reducible repeat first | refine bkN ?_ _ | refine bkD ?_ | refine bkA ?_ _); refine blk_put (cs := #[.string ((rd_T86 l1_1 x5_2).f0), .slice none 0 0]) ?_ 1 _ rfl; (with_reducible repeat first | refine bkN ?_ _ | refine bkD ?_ | refine bkA ?_ _); refine blk_put (cs := #[.string (⟨#[]⟩ : ByteArray), .slice none 0 0]) ?_ 0 _ rfl; (with_reducible repeat first | refine bkN ?_ _ | refine bkD ?_ | refine bkA ?_ _); exact c9a.out⟩
         have n3_ : Aside0 (Below w.heap.size w ((w66.setCell ⟨d9a, 0, none⟩ (.string ((rd_T86 l1_1 x5_2).f0))).setCell ⟨d9a, 1, none⟩ (.slice e9a ((rd_T86 l1_1 x5_2).f1).length f9a))) := ⟨iB HB⟩
         generalize ((w66.setCell ⟨d9a, 0, none⟩ (.string ((rd_T86 l1_1 x5_2).f0))).setCell ⟨d9a, 1, none⟩ (.slice e9a ((rd_T86 l1_1 x5_2).f1).length f9a)) = w70 at n0_ n1_ n2_ n3_ ⊢
         have b9a := n0_; have a9a := n1_; have c9a := n2_; have HB := n3_; clear n0_ n1_ n2_ n3_; have n0_ := Aside0.mk (blk_drew b9a.out)
         have n1_ := Aside0.mk (blk_drew a9a.out)
         have n2_ := Aside0.mk (blk_drew c9a.out)
         have n3_ := Aside0.mk (below_drew1 HB.out)
         clear b9a a9a c9a HB; have b9a := n0_; have a9a := n1_; have c9a := n2_; have HB := n3_; clear n0_ n1_ n2_ n3_; refine start_ (n := 25) (S := fun w' => w'.cell? ⟨d9a, 0, none⟩ = some (.string ((rd_T86 l1_1 x5_2).f0)) ∧ w'.cell? ⟨d9a, 1, none⟩ = some (.slice e9a ((rd_T86 l1_1 x5_2).f1).length f9a)) (ds := []) #[ff,ff,ff,ff,ff,ff,ff,ff,ff,ff,ff,ff,ff,ff,ff,ff,ff,ff,ff,ff,ff,ff,ff,ff,ff] (by kernel_rfl) rfl rfl ⟨bc c9a 0, bc c9a 1⟩ (fun hHeld => ?_); refine with_tabW spec_MemoOk.tab7 spec_MemoOk.bits7 (fun HT_ HW_ => ?_)
         generalize w70.drew = w71 at b9a a9a c9a HB hHeld ⊢
         refine pu 0 36 (tb 25 1) HT_ ?_
         refine tk 1 37 (tb 25 3) rfl rfl HT_ HW_ hHeld (by rintro w' ⟨s0, s1⟩; go_simp; with_reducible rfl) ?_
         refine pu 2 38 (tb 25 7) HT_ ?_
         refine one_ (i := 3) (N := some 39) #[tt,tt,tt,tt,ff,ff,ff,ff,ff,ff,ff,ff,ff,ff,ff,ff,ff,ff,ff,ff,ff,ff,ff,ff,ff] rfl rfl (one_of HT_.out (by kernel_rfl)) (by decide) (fun K hK => ?_)
         refine goes_ Try.func43 (by kernel_rfl) rfl #[.int .i64 (((rd_T86 l1_1 x5_2).f0).size : Int), .int .i64 1, .int .i64 64] (by rfl) rfl rfl (by (try simp only [List.map_toArray, List.map_cons, List.map_nil]); first | done | rfl | (simp only [List.length_drop, List.length_take]; rfl)) ?_
         with_reducible refine (spec_l1In.calls (((rd_T86 l1_1 x5_2).f0).size : Int) 1 64 false _ A24.out).mono ?_
         rintro e w' ⟨rfl, ⟨nd, rfl⟩⟩
         refine ⟨_, rfl, ?_⟩
         refine hK.out _ _ ⟨bc c9a 0, bc c9a 1⟩ (fun hHeld => ?_)
         clear hK K; refine norm_ (a' := ?_) ?_ ?_
         rotate_left
         ·show Act.put _ (some 39) _ = _
          simp only [putL, i64_w, i32_w]; rfl
         refine pu 4 40 (tb 25 31) HT_ ?_
         refine pu 5 41 (tb 25 63) HT_ ?_
         refine pn 6 42 (tb 25 127) HT_ ?_
         refine pn 7 43 (tb 25 255) HT_ ?_
         refine pn 8 44 (tb 25 511) HT_ ?_
         refine pn 9 45 (tb 25 1023) HT_ ?_
         refine pn 10 46 (tb 25 2047) HT_ ?_
         refine pn 11 47 (tb 25 4095) HT_ ?_
         refine pn 12 48 (tb 25 8191) HT_ ?_
         refine pn 13 49 (tb 25 16383) HT_ ?_
         refine pu 14 50 (tb 25 32767) HT_ ?_
         refine pu 15 51 (tb 25 65535) HT_ ?_
         refine pn 16 52 (tb 25 131071) HT_ ?_
         refine pn 17 53 (tb 25 262143) HT_ ?_
         refine pn 18 54 (tb 25 524287) HT_ ?_
         refine pn 19 55 (tb 25 1048575) HT_ ?_
         refine pn 20 56 (tb 25 2097151) HT_ ?_
         refine pn 21 57 (tb 25 4194303) HT_ ?_
         refine pn 22 58 (tb 25 8388607) HT_ ?_
         refine pn 23 59 (tb 25 16777215) HT_ ?_
         refine pu 24 60 (tb 25 33554431) HT_ ?_
         refine done_ (done_of HT_.out (by kernel_rfl)) ?_
         try go_wp2
         go_ret
         exact ⟨eR, iB HB⟩
       ·rw [if_neg c23] at H
        exact absurd H (by simp)
      ·rw [if_neg c22] at H
       have c22b0 : decide (x5_2 < (l1_1.length : Int)) = false := decide_eq_false c22
       clear c22; obtain rfl := Option.some.inj H
       have hnb72 := l9a.out; have hnc72 := k9a.out; obtain ⟨hcz73_0, hcz73_1⟩ := cs2 a9a; obtain ⟨hfz73_0, hfz73_1⟩ := fs2 a9a
       go_wp2
       go_ret
       exact ⟨eR, iB HB⟩
end Go.Proofs.Ytddebnchbbmbkaa.PFnExactRecall
