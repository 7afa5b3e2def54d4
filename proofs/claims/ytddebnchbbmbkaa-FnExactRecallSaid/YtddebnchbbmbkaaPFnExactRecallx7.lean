-- The machine side of a law: written by a program of this session (wip/tools), a turned print.
import Derived.Test.YtddebnchbbmbkaaPFnExactRecallx0
import Derived.Test.YtddebnchbbmbkaaPFnExactRecallx2
import Derived.Test.YtddebnchbbmbkaaPFnExactRecallx3
import Derived.Test.YtddebnchbbmbkaaPFnExactRecallx4
import Derived.Test.YtddebnchbbmbkaaPFnExactRecallx6
namespace Go.Proofs.Ytddebnchbbmbkaa.PFnExactRecall
open Go.RowKit Go.Proofs.YtddebnchbbmbkaaW.PrintWords Go.Proofs.YtddebnchbbmbkaaW.PrintLast Go.Proofs.YtddebnchbbmbkaaW.PrintMore
attribute [local go_sem] max2_int min2_int max_two min_two max_three min_three max_four min_four   -- for this text's walks alone
set_option linter.unusedVariables false
set_option linter.unusedSimpArgs false
mutual
def impl_MemoOk.j0 : Nat → Bool → List (S95) → Int → List (S86) → Option (Bool)
 | 0, _, _, _, _ => none
 | k + 1, x23, x163000, x164000, x164001 => if x23 = true then (some false) else (impl_MemoOk.l0 k x164001 (x164001.length : Int) 0 x163000 x164000 x164001)
def impl_MemoOk.l0 : Nat → List (S86) → Int → Int → List (S95) → Int → List (S86) → Option (Bool)
 | 0, _, _, _, _, _, _ => none
 | k + 1, x25, x26, x27, x163000, x164000, x164001 => if x27 < x26 then (if 0 ≤ x27 then (if x27 < (x25.length : Int) then ((impl_isWord.f ((rd_T86 x25 x27).f0)).bind fun t168 => (if t168 = true then ((impl_Memo_at.f k x164000 x164001 ((rd_T86 x25 x27).f0)).bind fun t169 => (if t169 = x27 then ((impl_bpe.f k x163000 ((rd_T86 x25 x27).f0)).bind fun t170 => ((slices_Equal_int_int.f k ((rd_T86 x25 x27).f1) t170).bind fun t173 => (if t173 = true then (impl_MemoOk.l0 k x25 x26 (wrap64 (x27 + 1)) x163000 x164000 x164001) else (some false)))) else (some false))) else (some false))) else (none)) else (none)) else (some true)
end
def impl_MemoOk.f (k : Nat) (l0_0 : List (S95)) (a1_0 : Int) (l1_1 : List (S86)) : Option (Bool) := (impl_VocabOk.f k l0_0).bind fun t164 => (if t164 = true then ((impl_within.f a1_0 0 40).bind fun t165 => (if t165 = true then (impl_MemoOk.j0 k (decide ((l1_1.length : Int) > a1_0)) l0_0 a1_0 l1_1) else (impl_MemoOk.j0 k true l0_0 a1_0 l1_1))) else (impl_MemoOk.j0 k true l0_0 a1_0 l1_1))
theorem impl_MemoOk.mono_l : ∀ k, (∀ y0 y1 y2 y3, LeO (impl_MemoOk.j0 k y0 y1 y2 y3) (impl_MemoOk.j0 (k + 1) y0 y1 y2 y3)) ∧ (∀ y0 y1 y2 y3 y4 y5, LeO (impl_MemoOk.l0 k y0 y1 y2 y3 y4 y5) (impl_MemoOk.l0 (k + 1) y0 y1 y2 y3 y4 y5))
 | 0 => ⟨fun _ _ _ _ r h => by simp [impl_MemoOk.j0] at h, fun _ _ _ _ _ _ r h => by simp [impl_MemoOk.l0] at h⟩
 | k + 1 => by
  obtain ⟨ih0, ih1⟩ := impl_MemoOk.mono_l k
  refine ⟨?_, ?_⟩
  ·intro y0 y1 y2 y3
   unfold impl_MemoOk.j0
   repeat' first
   | (with_reducible exact ih0 _ _ _ _)
   | (with_reducible exact ih1 _ _ _ _ _ _)
   | (with_reducible exact impl_Memo_at.mono _ _ _ _)
   | (with_reducible exact impl_VocabOk.mono _ _)
   | (with_reducible exact impl_bpe.mono _ _ _)
   | (with_reducible exact slices_Equal_int_int.mono _ _ _)
   | (with_reducible exact LeO.refl _)
   | (with_reducible exact LeO.none _)
   | (with_reducible refine LeO.ite ?_ ?_)
   | (with_reducible refine LeO.bind ?_ (fun _ => ?_))
   | exact ih0 _ _ _ _
   | exact ih1 _ _ _ _ _ _
   | exact impl_Memo_at.mono _ _ _ _
   | exact impl_VocabOk.mono _ _
   | exact impl_bpe.mono _ _ _
   | exact slices_Equal_int_int.mono _ _ _
   | exact LeO.none _
   | refine LeO.ite ?_ ?_
   | refine LeO.bind ?_ (fun _ => ?_)
  ·intro y0 y1 y2 y3 y4 y5
   unfold impl_MemoOk.l0
   repeat' first
   | (with_reducible exact ih0 _ _ _ _)
   | (with_reducible exact ih1 _ _ _ _ _ _)
   | (with_reducible exact impl_Memo_at.mono _ _ _ _)
   | (with_reducible exact impl_VocabOk.mono _ _)
   | (with_reducible exact impl_bpe.mono _ _ _)
   | (with_reducible exact slices_Equal_int_int.mono _ _ _)
   | (with_reducible exact LeO.refl _)
   | (with_reducible exact LeO.none _)
   | (with_reducible refine LeO.ite ?_ ?_)
   | (with_reducible refine LeO.bind ?_ (fun _ => ?_))
   | exact ih0 _ _ _ _
   | exact ih1 _ _ _ _ _ _
   | exact impl_Memo_at.mono _ _ _ _
   | exact impl_VocabOk.mono _ _
   | exact impl_bpe.mono _ _ _
   | exact slices_Equal_int_int.mono _ _ _
   | exact LeO.none _
   | refine LeO.ite ?_ ?_
   | refine LeO.bind ?_ (fun _ => ?_)
theorem impl_MemoOk.mono : ∀ a0 a1 a2 k, LeO (impl_MemoOk.f k a0 a1 a2) (impl_MemoOk.f (k + 1) a0 a1 a2) := by
 intro a0 a1 a2 k
 obtain ⟨ih0, ih1⟩ := impl_MemoOk.mono_l k
 unfold impl_MemoOk.f
 repeat' first
   | (with_reducible exact ih0 _ _ _ _)
   | (with_reducible exact ih1 _ _ _ _ _ _)
   | (with_reducible exact impl_Memo_at.mono _ _ _ _)
   | (with_reducible exact impl_VocabOk.mono _ _)
   | (with_reducible exact impl_bpe.mono _ _ _)
   | (with_reducible exact slices_Equal_int_int.mono _ _ _)
   | (with_reducible exact LeO.refl _)
   | (with_reducible exact LeO.none _)
   | (with_reducible refine LeO.ite ?_ ?_)
   | (with_reducible refine LeO.bind ?_ (fun _ => ?_))
   | exact ih0 _ _ _ _
   | exact ih1 _ _ _ _ _ _
   | exact impl_Memo_at.mono _ _ _ _
   | exact impl_VocabOk.mono _ _
   | exact impl_bpe.mono _ _ _
   | exact slices_Equal_int_int.mono _ _ _
   | exact LeO.none _
   | refine LeO.ite ?_ ?_
   | refine LeO.bind ?_ (fun _ => ?_)
def impl_MemoOk.T6 : Bool × List (List Nat × List Nat) := (true, [([], []), ([0], [0]), ([1], [1]), ([2], [2]), ([3, 2], [3]), ([4], [4]), ([4], [4]), ([6, 4], [4, 6]), ([5, 7, 4, 4], [4, 5, 7]), ([4], [4]), ([8, 9, 4], [4, 8, 9]), ([4, 10], [4, 10]), ([11, 8], [11]), ([12], [12]), ([13, 12], [12, 13]), ([12], [12]), ([12], [12]), ([16, 12], [12, 16]), ([15, 17, 12, 12], [12, 15, 17]), ([14, 18, 18, 12], [12, 14, 18]), ([19, 12], [12, 19]), ([12, 20], [12, 20])])
def impl_MemoOk.B6 : List Nat := [0, 1, 3, 7, 15, 31, 31, 95, 255, 31, 1023, 2047, 4095, 8191, 16383, 8191, 8191, 73727, 237567, 524287, 1048575, 2097151]
theorem impl_MemoOk.tab6 : rtab .any (opsOf Try.f31 6) = impl_MemoOk.T6 := by kernel_rfl
theorem impl_MemoOk.bits6 : waitsOk impl_MemoOk.T6.2 impl_MemoOk.B6 = true := by kernel_rfl
set_option maxHeartbeats 8000000 in
set_option maxRecDepth 100000 in
theorem impl_MemoOk.calls (k : Nat) (A0_0 : Option Addr) (c0_0 : Nat) (l0_0 : List (S95)) (a1_0 : Int) (A1_1 : Option Addr) (c1_1 : Nat) (l1_1 : List (S86)) (r : Bool) (w : World) (hr0_0 : Kd.C k95 w A0_0 l0_0.length l0_0) (hc0_0 : l0_0.length ≤ c0_0) (hr1_1 : Kd.C k86 w A1_1 l1_1.length l1_1) (hc1_1 : l1_1.length ≤ c1_1) (h : impl_MemoOk.f k l0_0 a1_0 l1_1 = some r) :
  Calls Try.prog 31 #[.agg #[.slice A0_0 l0_0.length c0_0], .agg #[.int .i64 a1_0, .slice A1_1 l1_1.length c1_1]] w fun e w' => e = .returned (.bool r) ∧ Below w.heap.size w w' := by
 have hu26 := Try.underlying26
 have hu31 := Try.underlying31
 have hu86 := Try.underlying86
 have HR0_0 := Aside0.mk hr0_0
 have HC0_0 := Aside0.mk hc0_0
 clear hr0_0 hc0_0; have z9a := Aside0.mk hr1_1
 have HC1_1 := Aside0.mk hc1_1
 clear hr1_1 hc1_1; have HB := Aside0.mk (Below.refl w.heap.size w)
 have H : ((impl_VocabOk.f k l0_0).bind fun t164 => (if t164 = true then ((impl_within.f a1_0 0 40).bind fun t165 => (if t165 = true then (impl_MemoOk.j0 k (decide ((l1_1.length : Int) > a1_0)) l0_0 a1_0 l1_1) else (impl_MemoOk.j0 k true l0_0 a1_0 l1_1))) else (impl_MemoOk.j0 k true l0_0 a1_0 l1_1))) = some r := h
 clear h; have HC3 := Aside0.mk H
 clear H
 go_enter Try.func31, Try.ntmps31
 go_upto_region 1 with (first | ((with_reducible refine gate_dst (N := 2) rfl ?_); (try (refine gate_guard (by rfl) ?_; dsimp only)); refine bX 2 #[.slice A0_0 l0_0.length c0_0] 26 ?_; intro v9a hg w4 hbox hb; have c9a := Aside0.mk (hbox); have GW162 := bs HB hg; have p9a := bs HB hg; replace HB := bh HB hb; clear hb hbox hg) | ((with_reducible refine gate_dst (N := 3) rfl ?_); (try (refine gate_guard (by rfl) ?_; dsimp only)); refine bX 3 #[.int .i64 a1_0, .slice A1_1 l1_1.length c1_1] 31 ?_; intro u9a hg w5 hbox hb; have b9a := Aside0.mk (hbox); have GW163 := bs HB hg; have q9a := bs HB hg; have r9a := bl c9a hg; have s9a := bg c9a hg; replace c9a := bq c9a hb; replace HB := bh HB hb; clear hb hbox hg))
 (try simp only [putL])
 go_cut [23] (fun v23 wc => ∃ (kq : Nat) (x23_2 : Bool), v23 = .bool x23_2 ∧ Aside0 (impl_MemoOk.j0 kq x23_2 l0_0 a1_0 l1_1 = some r) ∧ Aside0 (kq ≤ k) ∧ Aside0 (wc.heap[v9a]? = some (.cells #[(.slice A0_0 l0_0.length c0_0)] 26 (0, 0))) ∧ Aside0 (wc.heap[u9a]? = some (.cells #[.int .i64 a1_0, (.slice A1_1 l1_1.length c1_1)] 31 (0, 0))) ∧ Aside0 (Below w.heap.size w wc))
 case first =>
  have H := HC3.out; clear HC3; replace H := Option.bind_eq_some_iff.mp H
  obtain ⟨t164, A60, H⟩ := H
  replace H : (if t164 = true then ((impl_within.f a1_0 0 40).bind fun t165 => (if t165 = true then (impl_MemoOk.j0 k (decide ((l1_1.length : Int) > a1_0)) l0_0 a1_0 l1_1) else (impl_MemoOk.j0 k true l0_0 a1_0 l1_1))) else (impl_MemoOk.j0 k true l0_0 a1_0 l1_1)) = some r := H
  have A6 := Aside0.mk A60
  clear A60
  by_cases c7 : t164 = true
  ·subst c7
   have H1 : ((impl_within.f a1_0 0 40).bind fun t165 => (if t165 = true then (impl_MemoOk.j0 k (decide ((l1_1.length : Int) > a1_0)) l0_0 a1_0 l1_1) else (impl_MemoOk.j0 k true l0_0 a1_0 l1_1))) = some r := by rw [if_pos rfl] at H; exact H
   clear H; have H := H1
   clear H1; replace H := Option.bind_eq_some_iff.mp H
   obtain ⟨t165, A80, H⟩ := H
   replace H : (if t165 = true then (impl_MemoOk.j0 k (decide ((l1_1.length : Int) > a1_0)) l0_0 a1_0 l1_1) else (impl_MemoOk.j0 k true l0_0 a1_0 l1_1)) = some r := H
   have A8 := Aside0.mk A80
   clear A80
   by_cases c9 : t165 = true
   ·subst c9
    have H1 : (impl_MemoOk.j0 k (decide ((l1_1.length : Int) > a1_0)) l0_0 a1_0 l1_1) = some r := by rw [if_pos rfl] at H; exact H
    clear H; have H := H1
    clear H1; have H' := Aside0.mk H
    clear H; have hnb10 := r9a.out; have hnc10 := s9a.out; have hcz11_0 : w5.cell? ⟨v9a, 0, none⟩ = some (.slice A0_0 l0_0.length c0_0) := bc c9a 0
    have hfz11_0 := blk_frozen c9a.out 0
    go_wp2_with (first | ((with_reducible refine gate_callee (f := 59) rfl ?_); refine goesC_ (some 8) Try.func59 #[.agg #[.slice A0_0 l0_0.length c0_0]] ?_; (with_reducible refine (impl_VocabOk.calls k _ _ l0_0 true _ ?side1 ?side2 A6.out).mono ?_); (case side1 => exact cX (Kd.C_below HR0_0.out HB.out)); (case side2 => exact HC0_0.out); rintro e w12 ⟨rfl, hb⟩; refine ⟨_, rfl, ?_⟩; replace c9a := bq c9a hb; replace b9a := bq b9a hb; replace HB := bh HB hb; (try clear hb); (try clear hb2); (try clear hk); (try clear hi); obtain ⟨hcz13_0, hcz13_1⟩ := cs2 b9a; obtain ⟨hfz13_0, hfz13_1⟩ := fs2 b9a) | (go_at_call 35; (with_reducible refine (impl_within.calls a1_0 0 40 true _ A8.out).mono ?_); rintro e w' ⟨rfl, ⟨nd, rfl⟩⟩))
    go_meet
    case rel => exact ⟨_, (decide ((l1_1.length : Int) > a1_0)), sR, H', ⟨by first | omega | exact Nat.le_refl _⟩, ⟨bb c9a⟩, ⟨bb b9a⟩, ⟨iB HB⟩⟩
   ·replace c9 := Bool.eq_false_iff.mpr c9
    subst c9
    have H1 : (impl_MemoOk.j0 k true l0_0 a1_0 l1_1) = some r := by rw [if_neg (show ¬ (false = true) by decide)] at H; exact H
    clear H; have H := H1
    clear H1; have H' := Aside0.mk H
    clear H; have hnb14 := r9a.out; have hnc14 := s9a.out; have hcz15_0 : w5.cell? ⟨v9a, 0, none⟩ = some (.slice A0_0 l0_0.length c0_0) := bc c9a 0
    have hfz15_0 := blk_frozen c9a.out 0
    go_wp2_with (first | ((with_reducible refine gate_callee (f := 59) rfl ?_); refine goesC_ (some 8) Try.func59 #[.agg #[.slice A0_0 l0_0.length c0_0]] ?_; (with_reducible refine (impl_VocabOk.calls k _ _ l0_0 true _ ?side1 ?side2 A6.out).mono ?_); (case side1 => exact cX (Kd.C_below HR0_0.out HB.out)); (case side2 => exact HC0_0.out); rintro e w16 ⟨rfl, hb⟩; refine ⟨_, rfl, ?_⟩; replace c9a := bq c9a hb; replace b9a := bq b9a hb; replace HB := bh HB hb; (try clear hb); (try clear hb2); (try clear hk); (try clear hi); obtain ⟨hcz17_0, hcz17_1⟩ := cs2 b9a; obtain ⟨hfz17_0, hfz17_1⟩ := fs2 b9a) | (go_at_call 35; (with_reducible refine (impl_within.calls a1_0 0 40 false _ A8.out).mono ?_); rintro e w' ⟨rfl, ⟨nd, rfl⟩⟩))
    go_meet
    case rel => exact ⟨_, (true), sR, H', ⟨by first | omega | exact Nat.le_refl _⟩, ⟨bb c9a⟩, ⟨bb b9a⟩, ⟨iB HB⟩⟩
  ·replace c7 := Bool.eq_false_iff.mpr c7
   subst c7
   have H1 : (impl_MemoOk.j0 k true l0_0 a1_0 l1_1) = some r := by rw [if_neg (show ¬ (false = true) by decide)] at H; exact H
   clear H; have H := H1
   clear H1; have H' := Aside0.mk H
   clear H; have hnb18 := r9a.out; have hnc18 := s9a.out; have hcz19_0 : w5.cell? ⟨v9a, 0, none⟩ = some (.slice A0_0 l0_0.length c0_0) := bc c9a 0
   have hfz19_0 := blk_frozen c9a.out 0
   go_wp2_with (first | ((with_reducible refine gate_callee (f := 59) rfl ?_); refine goesC_ (some 8) Try.func59 #[.agg #[.slice A0_0 l0_0.length c0_0]] ?_; (with_reducible refine (impl_VocabOk.calls k _ _ l0_0 false _ ?side1 ?side2 A6.out).mono ?_); (case side1 => exact cX (Kd.C_below HR0_0.out HB.out)); (case side2 => exact HC0_0.out); rintro e w20 ⟨rfl, hb⟩; refine ⟨_, rfl, ?_⟩; replace c9a := bq c9a hb; replace b9a := bq b9a hb; replace HB := bh HB hb; (try clear hb); (try clear hb2); (try clear hk); (try clear hi)))
   go_meet
   case rel => exact ⟨_, (true), sR, H', ⟨by first | omega | exact Nat.le_refl _⟩, ⟨bb c9a⟩, ⟨bb b9a⟩, ⟨iB HB⟩⟩
 case rest =>
  clear HC3; obtain ⟨kq, x23_2, rfl, HA, HJ2, c9a, b9a, HB⟩ := hcut
  cases kq with
  | zero => exact absurd HA.out (by simp [impl_MemoOk.j0])
  | succ kj2 =>
   have H := HA.out; clear HA; simp only [impl_MemoOk.j0] at H
   by_cases c21 : x23_2 = true
   ·subst c21
    have H1 : (some false) = some r := by rw [if_pos rfl] at H; exact H
    clear H; have H := H1
    clear H1; obtain rfl := Option.some.inj H
    go_wp2
    go_ret
    exact ⟨eR, iB HB⟩
   ·replace c21 := Bool.eq_false_iff.mpr c21
    subst c21
    have H1 : (impl_MemoOk.l0 kj2 l1_1 (l1_1.length : Int) 0 l0_0 a1_0 l1_1) = some r := by rw [if_neg (show ¬ (false = true) by decide)] at H; exact H
    clear H; have H := H1
    clear H1; have H' := Aside0.mk H
    clear H; have hnb22 := s9a.out; have hnc22 := r9a.out; obtain ⟨hcz23_0, hcz23_1⟩ := cs2 b9a; obtain ⟨hfz23_0, hfz23_1⟩ := fs2 b9a
    go_wp2
    go_loopg [27] kj2 (fun kq v27 w' => ∃ (a9a : Int), v27 = .int .i64 a9a ∧ Aside0 (impl_MemoOk.l0 kq l1_1 (l1_1.length : Int) a9a l0_0 a1_0 l1_1 = some r) ∧ Aside0 (kq ≤ kj2) ∧ Aside0 (w'.heap[v9a]? = some (.cells #[(.slice A0_0 l0_0.length c0_0)] 26 (0, 0))) ∧ Aside0 (w'.heap[u9a]? = some (.cells #[.int .i64 a1_0, (.slice A1_1 l1_1.length c1_1)] 31 (0, 0))) ∧ Aside0 (Below w.heap.size w w'))
    case atStart => exact ⟨(0), sR, H', ⟨Nat.le_refl _⟩, ⟨bb c9a⟩, ⟨bb b9a⟩, ⟨iB HB⟩⟩
    case round =>
     clear H'
     obtain ⟨a9a, rfl, HA, HK2, c9a, b9a, HB⟩ := hrel
     cases gk with
     | zero => exact absurd HA.out (by simp [impl_MemoOk.l0])
     | succ k2 =>
      have H := HA.out; clear HA; simp only [impl_MemoOk.l0] at H
      by_cases c24 : a9a < (l1_1.length : Int)
      ·rw [if_pos c24] at H
       have c24b0 : decide (a9a < (l1_1.length : Int)) = true := decide_eq_true c24
       clear c24
       by_cases c25 : 0 ≤ a9a
       ·rw [if_pos c25] at H
        have c25b0 : decide (0 ≤ a9a) = true := decide_eq_true c25
        clear c25
        by_cases c26 : a9a < (l1_1.length : Int)
        ·rw [if_pos c26] at H
         have c26b0 : decide (a9a < (l1_1.length : Int)) = true := decide_eq_true c26
         clear c26; replace H := Option.bind_eq_some_iff.mp H
         obtain ⟨t168, A270, H⟩ := H
         replace H : (if t168 = true then ((impl_Memo_at.f k2 a1_0 l1_1 ((rd_T86 l1_1 a9a).f0)).bind fun t169 => (if t169 = a9a then ((impl_bpe.f k2 l0_0 ((rd_T86 l1_1 a9a).f0)).bind fun t170 => ((slices_Equal_int_int.f k2 ((rd_T86 l1_1 a9a).f1) t170).bind fun t173 => (if t173 = true then (impl_MemoOk.l0 k2 l1_1 (l1_1.length : Int) (wrap64 (a9a + 1)) l0_0 a1_0 l1_1) else (some false)))) else (some false))) else (some false)) = some r := H
         have A27 := Aside0.mk A270
         clear A270
         by_cases c28 : t168 = true
         ·subst c28
          have H1 : ((impl_Memo_at.f k2 a1_0 l1_1 ((rd_T86 l1_1 a9a).f0)).bind fun t169 => (if t169 = a9a then ((impl_bpe.f k2 l0_0 ((rd_T86 l1_1 a9a).f0)).bind fun t170 => ((slices_Equal_int_int.f k2 ((rd_T86 l1_1 a9a).f1) t170).bind fun t173 => (if t173 = true then (impl_MemoOk.l0 k2 l1_1 (l1_1.length : Int) (wrap64 (a9a + 1)) l0_0 a1_0 l1_1) else (some false)))) else (some false))) = some r := by rw [if_pos rfl] at H; exact H
          clear H; have H := H1
          clear H1; replace H := Option.bind_eq_some_iff.mp H
          obtain ⟨t169, A290, H⟩ := H
          replace H : (if t169 = a9a then ((impl_bpe.f k2 l0_0 ((rd_T86 l1_1 a9a).f0)).bind fun t170 => ((slices_Equal_int_int.f k2 ((rd_T86 l1_1 a9a).f1) t170).bind fun t173 => (if t173 = true then (impl_MemoOk.l0 k2 l1_1 (l1_1.length : Int) (wrap64 (a9a + 1)) l0_0 a1_0 l1_1) else (some false)))) else (some false)) = some r := H
          have A29 := Aside0.mk A290
          clear A290
          by_cases c30 : t169 = a9a
          ·rw [if_pos c30] at H
           have c30b0 : (t169 == a9a) = true := beq_iff_eq.mpr c30
           have c30b1 : (t169 != a9a) = false := bne_eq_false_iff_eq.mpr c30
           clear c30; replace H := Option.bind_eq_some_iff.mp H
           obtain ⟨t170, A310, H⟩ := H
           replace H : ((slices_Equal_int_int.f k2 ((rd_T86 l1_1 a9a).f1) t170).bind fun t173 => (if t173 = true then (impl_MemoOk.l0 k2 l1_1 (l1_1.length : Int) (wrap64 (a9a + 1)) l0_0 a1_0 l1_1) else (some false))) = some r := H
           have A31 := Aside0.mk A310
           clear A310; replace H := Option.bind_eq_some_iff.mp H
           obtain ⟨t173, A320, H⟩ := H
           replace H : (if t173 = true then (impl_MemoOk.l0 k2 l1_1 (l1_1.length : Int) (wrap64 (a9a + 1)) l0_0 a1_0 l1_1) else (some false)) = some r := H
           have A32 := Aside0.mk A320
           clear A320
           by_cases c33 : t173 = true
           ·subst c33
            have H1 : (impl_MemoOk.l0 k2 l1_1 (l1_1.length : Int) (wrap64 (a9a + 1)) l0_0 a1_0 l1_1) = some r := by rw [if_pos rfl] at H; exact H
            clear H; have H := H1
            clear H1; have H' := Aside0.mk H
            clear H; have p166 : 0 ≤ (a9a : Int) := oD
            have q166 : a9a < (l1_1.length : Int) := oD
            obtain ⟨t9a, f9a, g9a, e166, j9a, k9a, l9a, m9a⟩ := at_T86 z9a.out a9a p166 q166
            cases e166
            replace j9a := (HB.out.cell (World.block_lt_of_cell? w _ j9a)).trans j9a
            replace k9a := (HB.out.cell (World.block_lt_of_cell? w _ k9a)).trans k9a
            have w9a := Aside0.mk m9a
            have x9a := Aside0.mk l9a
            clear m9a l9a; replace p166 := eq_true p166
            replace q166 := eq_true q166
            try go_wp2_with (first | ((with_reducible refine gate_dst (N := 6) rfl ?_); (try (refine gate_guard (by rfl) ?_; dsimp only)); refine bX 6 #[.string (⟨#[]⟩ : ByteArray), .slice none 0 0] 86 ?_; intro e9a hg w34 hbox hb; have d9a := Aside0.mk (hbox); have GW167 := bs HB hg; have y9a := bs HB hg; have h9a := bl c9a hg; have n9a := bg c9a hg; have i9a := bl b9a hg; have o9a := bg b9a hg; replace c9a := bq c9a hb; replace b9a := bq b9a hb; replace HB := bh HB hb; clear hb hbox hg; have hnb35 := n9a.out; have hnc35 := h9a.out; have hnb36 := o9a.out; have hnc36 := i9a.out; obtain ⟨hcz37_0, hcz37_1⟩ := cs2 d9a; obtain ⟨hfz37_0, hfz37_1⟩ := fs2 d9a))
            have n0_ : Aside0 (((w34.setCell ⟨e9a, 0, none⟩ (.string ((rd_T86 l1_1 a9a).f0))).setCell ⟨e9a, 1, none⟩ (.slice f9a ((rd_T86 l1_1 a9a).f1).length g9a)).heap[v9a]? = some (.cells #[.slice A0_0 l0_0.length c0_0] 26 (0, 0))) := ⟨by (with_reducible repeat first | refine bkN ?_ _ | refine bkD ?_ | refine bkA ?_ _ | refine blk_far ?_ h9a.out _); exact c9a.out⟩
            have n1_ : Aside0 (((w34.setCell ⟨e9a, 0, none⟩ (.string ((rd_T86 l1_1 a9a).f0))).setCell ⟨e9a, 1, none⟩ (.slice f9a ((rd_T86 l1_1 a9a).f1).length g9a)).heap[u9a]? = some (.cells #[.int .i64 a1_0, .slice (some t9a) l1_1.length c1_1] 31 (0, 0))) := ⟨by (with_reducible repeat first | refine bkN ?_ _ | refine bkD ?_ | refine bkA ?_ _ | refine blk_far ?_ i9a.out _); exact b9a.out⟩
            have n2_ : Aside0 (((w34.setCell ⟨e9a, 0, none⟩ (.string ((rd_T86 l1_1 a9a).f0))).setCell ⟨e9a, 1, none⟩ (.slice f9a ((rd_T86 l1_1 a9a).f1).length g9a)).heap[e9a]? = some (.cells #[.string ((rd_T86 l1_1 a9a).f0), .slice f9a ((rd_T86 l1_1 a9a).f1).length g9a] 86 (0, 0))) := ⟨by (with_reducible repeat first | refine bkN ?_ _ | refine bkD ?_ | refine bkA ?_ _); refine blk_put (cs := #[.string ((rd_T86 l1_1 a9a).f0), .slice none 0 0]) ?_ 1 _ rfl; (with_reducible repeat first | refine bkN ?_ _ | refine bkD ?_ | refine bkA ?_ _); refine blk_put (cs := #[.string (⟨#[]⟩ : ByteArray), .slice none 0 0]) ?_ 0 _ rfl; (with_reducible repeat first | refine bkN ?_ _ | refine bkD ?_ | refine bkA ?_ _); exact d9a.out⟩
            have n3_ : Aside0 (Below w.heap.size w ((w34.setCell ⟨e9a, 0, none⟩ (.string ((rd_T86 l1_1 a9a).f0))).setCell ⟨e9a, 1, none⟩ (.slice f9a ((rd_T86 l1_1 a9a).f1).length g9a))) := ⟨iB HB⟩
            generalize ((w34.setCell ⟨e9a, 0, none⟩ (.string ((rd_T86 l1_1 a9a).f0))).setCell ⟨e9a, 1, none⟩ (.slice f9a ((rd_T86 l1_1 a9a).f1).length g9a)) = w38 at n0_ n1_ n2_ n3_ ⊢
            have c9a := n0_; have b9a := n1_; have d9a := n2_; have HB := n3_; clear n0_ n1_ n2_ n3_; have n0_ := Aside0.mk (blk_drew c9a.out)
            have n1_ := Aside0.mk (blk_drew b9a.out)
            have n2_ := Aside0.mk (blk_drew d9a.out)
            have n3_ := Aside0.mk (below_drew1 HB.out)
            clear c9a b9a d9a HB; have c9a := n0_; have b9a := n1_; have d9a := n2_; have HB := n3_; clear n0_ n1_ n2_ n3_; refine start_ (n := 22) (S := fun w' => w'.cell? ⟨e9a, 0, none⟩ = some (.string ((rd_T86 l1_1 a9a).f0)) ∧ w'.cell? ⟨e9a, 1, none⟩ = some (.slice f9a ((rd_T86 l1_1 a9a).f1).length g9a) ∧ w'.cell? ⟨u9a, 0, none⟩ = some (.int .i64 a1_0) ∧ w'.cell? ⟨u9a, 1, none⟩ = some (.slice (some t9a) l1_1.length c1_1) ∧ w'.cell? ⟨v9a, 0, none⟩ = some (.slice A0_0 l0_0.length c0_0)) (ds := []) #[ff,ff,ff,ff,ff,ff,ff,ff,ff,ff,ff,ff,ff,ff,ff,ff,ff,ff,ff,ff,ff,ff] (by kernel_rfl) rfl rfl ⟨bc d9a 0, bc d9a 1, bc b9a 0, bc b9a 1, bc c9a 0⟩ (fun hHeld => ?_); refine with_tabW impl_MemoOk.tab6 impl_MemoOk.bits6 (fun HT_ HW_ => ?_)
            generalize w38.drew = w39 at c9a b9a d9a HB hHeld ⊢
            refine pu 0 32 (tb 22 1) HT_ ?_
            refine tk 1 33 (tb 22 3) rfl rfl HT_ HW_ hHeld (by rintro w' ⟨s0, s1, s2, s3, s4⟩; go_simp; with_reducible rfl) ?_
            refine one_ (i := 2) (N := some 34) #[tt,tt,tt,ff,ff,ff,ff,ff,ff,ff,ff,ff,ff,ff,ff,ff,ff,ff,ff,ff,ff,ff] rfl rfl (one_of HT_.out (by kernel_rfl)) (by decide) (fun K hK => ?_)
            refine goes_ Try.func38 (by kernel_rfl) rfl #[.string ((rd_T86 l1_1 a9a).f0)] (by rfl) rfl rfl (by (try simp only [List.map_toArray, List.map_cons, List.map_nil]); first | done | rfl | (simp only [List.length_drop, List.length_take]; rfl)) ?_
            with_reducible refine (impl_isWord.calls ((rd_T86 l1_1 a9a).f0) true _ A27.out).mono ?_
            rintro e w' ⟨rfl, ⟨nd, rfl⟩⟩
            refine ⟨_, rfl, ?_⟩
            refine hK.out _ _ ⟨bc d9a 0, bc d9a 1, bc b9a 0, bc b9a 1, bc c9a 0⟩ (fun hHeld => ?_)
            clear hK K; refine norm_ (a' := ?_) ?_ ?_
            rotate_left
            ·show Act.put _ (some 34) _ = _
             simp only [putL, i64_w, i32_w]; rfl
            refine pu 3 35 (tb 22 15) HT_ ?_
            refine pu 4 36 (tb 22 31) HT_ ?_
            refine pu 6 38 (tb 22 95) HT_ ?_
            refine pu 9 41 (tb 22 607) HT_ ?_
            refine tk 5 37 (tb 22 639) rfl rfl HT_ HW_ hHeld (by rintro w' ⟨s0, s1, s2, s3, s4⟩; go_simp; with_reducible rfl) ?_
            refine tk 7 39 (tb 22 767) rfl rfl HT_ HW_ hHeld (by rintro w' ⟨s0, s1, s2, s3, s4⟩; go_simp; with_reducible rfl) ?_
            refine one_ (i := 8) (N := some 40) #[tt,tt,tt,tt,tt,tt,tt,tt,tt,tt,ff,ff,ff,ff,ff,ff,ff,ff,ff,ff,ff,ff] rfl rfl (one_of HT_.out (by kernel_rfl)) (by decide) (fun K hK => ?_)
            refine goes_ Try.func60 (by kernel_rfl) rfl #[.agg #[.int .i64 a1_0, .slice (some t9a) l1_1.length c1_1], .string ((rd_T86 l1_1 a9a).f0)] (by rfl) rfl rfl (by (try simp only [List.map_toArray, List.map_cons, List.map_nil]); first | done | rfl | (simp only [List.length_drop, List.length_take]; rfl)) ?_
            with_reducible refine (impl_Memo_at.calls k2 a1_0 _ _ l1_1 ((rd_T86 l1_1 a9a).f0) t169 _ ?side1 ?side2 A29.out).mono ?_
            (case side1 => exact cX (Kd.C_below z9a.out (be HB)))
            (case side2 => exact HC1_1.out)
            rintro e w40 ⟨rfl, hb⟩
            refine ⟨_, rfl, ?_⟩
            replace c9a := bq c9a hb; replace b9a := bq b9a hb; replace d9a := bq d9a hb; replace HB := bh HB hb
            (try clear hb); (try clear hb2); (try clear hk); (try clear hi); refine hK.out _ _ ⟨bc d9a 0, bc d9a 1, bc b9a 0, bc b9a 1, bc c9a 0⟩ (fun hHeld => ?_)
            clear hK K; refine norm_ (a' := ?_) ?_ ?_
            rotate_left
            ·show Act.put _ (some 40) _ = _
             simp only [putL, i64_w, i32_w]; rfl
            refine pu 10 42 (tb 22 2047) HT_ ?_
            refine pu 11 43 (tb 22 4095) HT_ ?_
            refine pu 12 44 (tb 22 8191) HT_ ?_
            refine pu 13 45 (tb 22 16383) HT_ ?_
            refine pu 16 48 (tb 22 81919) HT_ ?_
            refine tk 14 46 (tb 22 98303) rfl rfl HT_ HW_ hHeld (by rintro w' ⟨s0, s1, s2, s3, s4⟩; go_simp; with_reducible rfl) ?_
            refine tk 15 47 (tb 22 131071) rfl rfl HT_ HW_ hHeld (by rintro w' ⟨s0, s1, s2, s3, s4⟩; go_simp; with_reducible rfl) ?_
            refine tk 17 49 (tb 22 262143) rfl rfl HT_ HW_ hHeld (by rintro w' ⟨s0, s1, s2, s3, s4⟩; go_simp; with_reducible rfl) ?_
            refine one_ (i := 18) (N := some 50) #[tt,tt,tt,tt,tt,tt,tt,tt,tt,tt,tt,tt,tt,tt,tt,tt,tt,tt,tt,ff,ff,ff] rfl rfl (one_of HT_.out (by kernel_rfl)) (by decide) (fun K hK => ?_)
            refine goes_ Try.func62 (by kernel_rfl) rfl #[.agg #[.slice A0_0 l0_0.length c0_0], .string ((rd_T86 l1_1 a9a).f0)] (by rfl) rfl rfl (by (try simp only [List.map_toArray, List.map_cons, List.map_nil]); first | done | rfl | (simp only [List.length_drop, List.length_take]; rfl)) ?_
            with_reducible refine (impl_bpe.calls k2 _ _ l0_0 ((rd_T86 l1_1 a9a).f0) t170 _ ?side1 ?side2 A31.out).mono ?_
            (case side1 => exact cX (Kd.C_below HR0_0.out HB.out))
            (case side2 => exact HC0_0.out)
            rintro e w41 ⟨v171, rfl, ho0, hb⟩
            refine ⟨_, rfl, ?_⟩
            have A9a := Aside0.mk (Kd.R_lower ho0 (below_size (be HB)))
            replace c9a := bq c9a hb; replace b9a := bq b9a hb; replace d9a := bq d9a hb; replace HB := bh HB hb
            (try clear hb); (try clear hb2); (try clear hk); (try clear hi); obtain ⟨Ao42, co42, eo42⟩ := Kd.R_slice A9a.out
            (first | subst eo42 | (injection eo42 with f1_ f2_ f3_; have f4_ := f1_.symm; have f5_ := f3_.symm; clear f1_ f2_ f3_; subst f4_; subst f5_))
            refine hK.out _ _ ⟨bc d9a 0, bc d9a 1, bc b9a 0, bc b9a 1, bc c9a 0⟩ (fun hHeld => ?_)
            clear hK K; refine norm_ (a' := ?_) ?_ ?_
            rotate_left
            ·show Act.put _ (some 50) _ = _
             simp only [putL, i64_w, i32_w]; rfl
            refine one_ (i := 19) (N := some 51) #[tt,tt,tt,tt,tt,tt,tt,tt,tt,tt,tt,tt,tt,tt,tt,tt,tt,tt,tt,tt,ff,ff] rfl rfl (one_of HT_.out (by kernel_rfl)) (by decide) (fun K hK => ?_)
            refine goes_ Try.func61 (by kernel_rfl) rfl #[.slice f9a ((rd_T86 l1_1 a9a).f1).length g9a, .slice Ao42 t170.length co42] (by rfl) rfl rfl (by (try simp only [List.map_toArray, List.map_cons, List.map_nil]); first | done | rfl | (simp only [List.length_drop, List.length_take]; rfl)) ?_
            with_reducible refine (slices_Equal_int_int.calls k2 _ _ ((rd_T86 l1_1 a9a).f1) _ _ t170 true _ ?side1 ?side2 ?side3 ?side4 A32.out).mono ?_
            (case side1 => exact cX (Kd.C_below w9a.out HB.out))
            (case side2 => exact x9a.out)
            (case side3 => exact cX ((Kd.R_reads' A9a.out).2.2))
            (case side4 => exact (Kd.R_reads' A9a.out).2.1)
            rintro e w' ⟨rfl, ⟨nd, rfl⟩⟩
            refine ⟨_, rfl, ?_⟩
            refine hK.out _ _ ⟨bc d9a 0, bc d9a 1, bc b9a 0, bc b9a 1, bc c9a 0⟩ (fun hHeld => ?_)
            clear hK K; refine norm_ (a' := ?_) ?_ ?_
            rotate_left
            ·show Act.put _ (some 51) _ = _
             simp only [putL, i64_w, i32_w]; rfl
            refine pu 20 52 (tb 22 2097151) HT_ ?_
            refine pu 21 53 (tb 22 4194303) HT_ ?_
            refine done_ (done_of HT_.out (by kernel_rfl)) ?_
            try go_wp2
            go_roundg k2
            case measure => have := HJ2.out; have := HK2.out; omega
            case rel => exact ⟨(wrap64 (a9a + 1)), sR, H', ⟨by have := HJ2.out; have := HK2.out; omega⟩, ⟨bb c9a⟩, ⟨bb b9a⟩, ⟨iB HB⟩⟩
           ·replace c33 := Bool.eq_false_iff.mpr c33
            subst c33
            have H1 : (some false) = some r := by rw [if_neg (show ¬ (false = true) by decide)] at H; exact H
            clear H; have H := H1
            clear H1; obtain rfl := Option.some.inj H
            have p166 : 0 ≤ (a9a : Int) := oD
            have q166 : a9a < (l1_1.length : Int) := oD
            obtain ⟨t9a, f9a, g9a, e166, j9a, k9a, l9a, m9a⟩ := at_T86 z9a.out a9a p166 q166
            cases e166
            replace j9a := (HB.out.cell (World.block_lt_of_cell? w _ j9a)).trans j9a
            replace k9a := (HB.out.cell (World.block_lt_of_cell? w _ k9a)).trans k9a
            have w9a := Aside0.mk m9a
            have x9a := Aside0.mk l9a
            clear m9a l9a; replace p166 := eq_true p166
            replace q166 := eq_true q166
            try go_wp2_with (first | ((with_reducible refine gate_dst (N := 6) rfl ?_); (try (refine gate_guard (by rfl) ?_; dsimp only)); refine bX 6 #[.string (⟨#[]⟩ : ByteArray), .slice none 0 0] 86 ?_; intro e9a hg w43 hbox hb; have d9a := Aside0.mk (hbox); have GW167 := bs HB hg; have y9a := bs HB hg; have h9a := bl c9a hg; have n9a := bg c9a hg; have i9a := bl b9a hg; have o9a := bg b9a hg; replace c9a := bq c9a hb; replace b9a := bq b9a hb; replace HB := bh HB hb; clear hb hbox hg; have hnb44 := n9a.out; have hnc44 := h9a.out; have hnb45 := o9a.out; have hnc45 := i9a.out; obtain ⟨hcz46_0, hcz46_1⟩ := cs2 d9a; obtain ⟨hfz46_0, hfz46_1⟩ := fs2 d9a))
            have n0_ : Aside0 (((w43.setCell ⟨e9a, 0, none⟩ (.string ((rd_T86 l1_1 a9a).f0))).setCell ⟨e9a, 1, none⟩ (.slice f9a ((rd_T86 l1_1 a9a).f1).length g9a)).heap[v9a]? = some (.cells #[.slice A0_0 l0_0.length c0_0] 26 (0, 0))) := ⟨by (with_reducible repeat first | refine bkN ?_ _ | refine bkD ?_ | refine bkA ?_ _ | refine blk_far ?_ h9a.out _); exact c9a.out⟩
            have n1_ : Aside0 (((w43.setCell ⟨e9a, 0, none⟩ (.string ((rd_T86 l1_1 a9a).f0))).setCell ⟨e9a, 1, none⟩ (.slice f9a ((rd_T86 l1_1 a9a).f1).length g9a)).heap[u9a]? = some (.cells #[.int .i64 a1_0, .slice (some t9a) l1_1.length c1_1] 31 (0, 0))) := ⟨by (with_reducible repeat first | refine bkN ?_ _ | refine bkD ?_ | refine bkA ?_ _ | refine blk_far ?_ i9a.out _); exact b9a.out⟩
            have n2_ : Aside0 (((w43.setCell ⟨e9a, 0, none⟩ (.string ((rd_T86 l1_1 a9a).f0))).setCell ⟨e9a, 1, none⟩ (.slice f9a ((rd_T86 l1_1 a9a).f1).length g9a)).heap[e9a]? = some (.cells #[.string ((rd_T86 l1_1 a9a).f0), .slice f9a ((rd_T86 l1_1 a9a).f1).length g9a] 86 (0, 0))) := ⟨by (with_reducible repeat first | refine bkN ?_ _ | refine bkD ?_ | refine bkA ?_ _); refine blk_put (cs := #[.string ((rd_T86 l1_1 a9a).f0), .slice none 0 0]) ?_ 1 _ rfl; (with_reducible repeat first | refine bkN ?_ _ | refine bkD ?_ | refine bkA ?_ _); refine blk_put (cs := #[.string (⟨#[]⟩ : ByteArray), .slice none 0 0]) ?_ 0 _ rfl; (with_reducible repeat first | refine bkN ?_ _ | refine bkD ?_ | refine bkA ?_ _); exact d9a.out⟩
            have n3_ : Aside0 (Below w.heap.size w ((w43.setCell ⟨e9a, 0, none⟩ (.string ((rd_T86 l1_1 a9a).f0))).setCell ⟨e9a, 1, none⟩ (.slice f9a ((rd_T86 l1_1 a9a).f1).length g9a))) := ⟨iB HB⟩
            generalize ((w43.setCell ⟨e9a, 0, none⟩ (.string ((rd_T86 l1_1 a9a).f0))).setCell ⟨e9a, 1, none⟩ (.slice f9a ((rd_T86 l1_1 a9a).f1).length g9a)) = w47 at n0_ n1_ n2_ n3_ ⊢
            have c9a := n0_; have b9a := n1_; have d9a := n2_; have HB := n3_; clear n0_ n1_ n2_ n3_; have n0_ := Aside0.mk (blk_drew c9a.out)
            have n1_ := Aside0.mk (blk_drew b9a.out)
            have n2_ := Aside0.mk (blk_drew d9a.out)
            have n3_ := Aside0.mk (below_drew1 HB.out)
            clear c9a b9a d9a HB; have c9a := n0_; have b9a := n1_; have d9a := n2_; have HB := n3_; clear n0_ n1_ n2_ n3_; refine start_ (n := 22) (S := fun w' => w'.cell? ⟨e9a, 0, none⟩ = some (.string ((rd_T86 l1_1 a9a).f0)) ∧ w'.cell? ⟨e9a, 1, none⟩ = some (.slice f9a ((rd_T86 l1_1 a9a).f1).length g9a) ∧ w'.cell? ⟨u9a, 0, none⟩ = some (.int .i64 a1_0) ∧ w'.cell? ⟨u9a, 1, none⟩ = some (.slice (some t9a) l1_1.length c1_1) ∧ w'.cell? ⟨v9a, 0, none⟩ = some (.slice A0_0 l0_0.length c0_0)) (ds := []) #[ff,ff,ff,ff,ff,ff,ff,ff,ff,ff,ff,ff,ff,ff,ff,ff,ff,ff,ff,ff,ff,ff] (by kernel_rfl) rfl rfl ⟨bc d9a 0, bc d9a 1, bc b9a 0, bc b9a 1, bc c9a 0⟩ (fun hHeld => ?_); refine with_tabW impl_MemoOk.tab6 impl_MemoOk.bits6 (fun HT_ HW_ => ?_)
            generalize w47.drew = w48 at c9a b9a d9a HB hHeld ⊢
            refine pu 0 32 (tb 22 1) HT_ ?_
            refine tk 1 33 (tb 22 3) rfl rfl HT_ HW_ hHeld (by rintro w' ⟨s0, s1, s2, s3, s4⟩; go_simp; with_reducible rfl) ?_
            refine one_ (i := 2) (N := some 34) #[tt,tt,tt,ff,ff,ff,ff,ff,ff,ff,ff,ff,ff,ff,ff,ff,ff,ff,ff,ff,ff,ff] rfl rfl (one_of HT_.out (by kernel_rfl)) (by decide) (fun K hK => ?_)
            refine goes_ Try.func38 (by kernel_rfl) rfl #[.string ((rd_T86 l1_1 a9a).f0)] (by rfl) rfl rfl (by (try simp only [List.map_toArray, List.map_cons, List.map_nil]); first | done | rfl | (simp only [List.length_drop, List.length_take]; rfl)) ?_
            with_reducible refine (impl_isWord.calls ((rd_T86 l1_1 a9a).f0) true _ A27.out).mono ?_
            rintro e w' ⟨rfl, ⟨nd, rfl⟩⟩
            refine ⟨_, rfl, ?_⟩
            refine hK.out _ _ ⟨bc d9a 0, bc d9a 1, bc b9a 0, bc b9a 1, bc c9a 0⟩ (fun hHeld => ?_)
            clear hK K; refine norm_ (a' := ?_) ?_ ?_
            rotate_left
            ·show Act.put _ (some 34) _ = _
             simp only [putL, i64_w, i32_w]; rfl
            refine pu 3 35 (tb 22 15) HT_ ?_
            refine pu 4 36 (tb 22 31) HT_ ?_
            refine pu 6 38 (tb 22 95) HT_ ?_
            refine pu 9 41 (tb 22 607) HT_ ?_
            refine tk 5 37 (tb 22 639) rfl rfl HT_ HW_ hHeld (by rintro w' ⟨s0, s1, s2, s3, s4⟩; go_simp; with_reducible rfl) ?_
            refine tk 7 39 (tb 22 767) rfl rfl HT_ HW_ hHeld (by rintro w' ⟨s0, s1, s2, s3, s4⟩; go_simp; with_reducible rfl) ?_
            refine one_ (i := 8) (N := some 40) #[tt,tt,tt,tt,tt,tt,tt,tt,tt,tt,ff,ff,ff,ff,ff,ff,ff,ff,ff,ff,ff,ff] rfl rfl (one_of HT_.out (by kernel_rfl)) (by decide) (fun K hK => ?_)
            refine goes_ Try.func60 (by kernel_rfl) rfl #[.agg #[.int .i64 a1_0, .slice (some t9a) l1_1.length c1_1], .string ((rd_T86 l1_1 a9a).f0)] (by rfl) rfl rfl (by (try simp only [List.map_toArray, List.map_cons, List.map_nil]); first | done | rfl | (simp only [List.length_drop, List.length_take]; rfl)) ?_
            with_reducible refine (impl_Memo_at.calls k2 a1_0 _ _ l1_1 ((rd_T86 l1_1 a9a).f0) t169 _ ?side1 ?side2 A29.out).mono ?_
            (case side1 => exact cX (Kd.C_below z9a.out (be HB)))
            (case side2 => exact HC1_1.out)
            rintro e w49 ⟨rfl, hb⟩
            refine ⟨_, rfl, ?_⟩
            replace c9a := bq c9a hb; replace b9a := bq b9a hb; replace d9a := bq d9a hb; replace HB := bh HB hb
            (try clear hb); (try clear hb2); (try clear hk); (try clear hi); refine hK.out _ _ ⟨bc d9a 0, bc d9a 1, bc b9a 0, bc b9a 1, bc c9a 0⟩ (fun hHeld => ?_)
            clear hK K; refine norm_ (a' := ?_) ?_ ?_
            rotate_left
            ·show Act.put _ (some 40) _ = _
             simp only [putL, i64_w, i32_w]; rfl
            refine pu 10 42 (tb 22 2047) HT_ ?_
            refine pu 11 43 (tb 22 4095) HT_ ?_
            refine pu 12 44 (tb 22 8191) HT_ ?_
            refine pu 13 45 (tb 22 16383) HT_ ?_
            refine pu 16 48 (tb 22 81919) HT_ ?_
            refine tk 14 46 (tb 22 98303) rfl rfl HT_ HW_ hHeld (by rintro w' ⟨s0, s1, s2, s3, s4⟩; go_simp; with_reducible rfl) ?_
            refine tk 15 47 (tb 22 131071) rfl rfl HT_ HW_ hHeld (by rintro w' ⟨s0, s1, s2, s3, s4⟩; go_simp; with_reducible rfl) ?_
            refine tk 17 49 (tb 22 262143) rfl rfl HT_ HW_ hHeld (by rintro w' ⟨s0, s1, s2, s3, s4⟩; go_simp; with_reducible rfl) ?_
            refine one_ (i := 18) (N := some 50) #[tt,tt,tt,tt,tt,tt,tt,tt,tt,tt,tt,tt,tt,tt,tt,tt,tt,tt,tt,ff,ff,ff] rfl rfl (one_of HT_.out (by kernel_rfl)) (by decide) (fun K hK => ?_)
            refine goes_ Try.func62 (by kernel_rfl) rfl #[.agg #[.slice A0_0 l0_0.length c0_0], .string ((rd_T86 l1_1 a9a).f0)] (by rfl) rfl rfl (by (try simp only [List.map_toArray, List.map_cons, List.map_nil]); first | done | rfl | (simp only [List.length_drop, List.length_take]; rfl)) ?_
            with_reducible refine (impl_bpe.calls k2 _ _ l0_0 ((rd_T86 l1_1 a9a).f0) t170 _ ?side1 ?side2 A31.out).mono ?_
            (case side1 => exact cX (Kd.C_below HR0_0.out HB.out))
            (case side2 => exact HC0_0.out)
            rintro e w50 ⟨v171, rfl, ho0, hb⟩
            refine ⟨_, rfl, ?_⟩
            have A9a := Aside0.mk (Kd.R_lower ho0 (below_size (be HB)))
            replace c9a := bq c9a hb; replace b9a := bq b9a hb; replace d9a := bq d9a hb; replace HB := bh HB hb
            (try clear hb); (try clear hb2); (try clear hk); (try clear hi); obtain ⟨Ao51, co51, eo51⟩ := Kd.R_slice A9a.out
            (first | subst eo51 | (injection eo51 with f1_ f2_ f3_; have f4_ := f1_.symm; have f5_ := f3_.symm; clear f1_ f2_ f3_; subst f4_; subst f5_))
            refine hK.out _ _ ⟨bc d9a 0, bc d9a 1, bc b9a 0, bc b9a 1, bc c9a 0⟩ (fun hHeld => ?_)
            clear hK K; refine norm_ (a' := ?_) ?_ ?_
            rotate_left
            ·show Act.put _ (some 50) _ = _
             simp only [putL, i64_w, i32_w]; rfl
            refine one_ (i := 19) (N := some 51) #[tt,tt,tt,tt,tt,tt,tt,tt,tt,tt,tt,tt,tt,tt,tt,tt,tt,tt,tt,tt,ff,ff] rfl rfl (one_of HT_.out (by kernel_rfl)) (by decide) (fun K hK => ?_)
            refine goes_ Try.func61 (by kernel_rfl) rfl #[.slice f9a ((rd_T86 l1_1 a9a).f1).length g9a, .slice Ao51 t170.length co51] (by rfl) rfl rfl (by (try simp only [List.map_toArray, List.map_cons, List.map_nil]); first | done | rfl | (simp only [List.length_drop, List.length_take]; rfl)) ?_
            with_reducible refine (slices_Equal_int_int.calls k2 _ _ ((rd_T86 l1_1 a9a).f1) _ _ t170 false _ ?side1 ?side2 ?side3 ?side4 A32.out).mono ?_
            (case side1 => exact cX (Kd.C_below w9a.out HB.out))
            (case side2 => exact x9a.out)
            (case side3 => exact cX ((Kd.R_reads' A9a.out).2.2))
            (case side4 => exact (Kd.R_reads' A9a.out).2.1)
            rintro e w' ⟨rfl, ⟨nd, rfl⟩⟩
            refine ⟨_, rfl, ?_⟩
            refine hK.out _ _ ⟨bc d9a 0, bc d9a 1, bc b9a 0, bc b9a 1, bc c9a 0⟩ (fun hHeld => ?_)
            clear hK K; refine norm_ (a' := ?_) ?_ ?_
            rotate_left
            ·show Act.put _ (some 51) _ = _
             simp only [putL, i64_w, i32_w]; rfl
            refine pu 20 52 (tb 22 2097151) HT_ ?_
            refine pu 21 53 (tb 22 4194303) HT_ ?_
            refine done_ (done_of HT_.out (by kernel_rfl)) ?_
            try go_wp2
            go_ret
            exact ⟨eR, iB HB⟩
          ·rw [if_neg c30] at H
           have c30b0 : (t169 == a9a) = false := beq_eq_false_iff_ne.mpr c30
           have c30b1 : (t169 != a9a) = true := bne_iff_ne.mpr c30
           obtain rfl := Option.some.inj H
           have p166 : 0 ≤ (a9a : Int) := oD
           have q166 : a9a < (l1_1.length : Int) := oD
           obtain ⟨t9a, f9a, g9a, e166, j9a, k9a, l9a, m9a⟩ := at_T86 z9a.out a9a p166 q166
           cases e166
           replace j9a := (HB.out.cell (World.block_lt_of_cell? w _ j9a)).trans j9a
           replace k9a := (HB.out.cell (World.block_lt_of_cell? w _ k9a)).trans k9a
           have w9a := Aside0.mk m9a
           have x9a := Aside0.mk l9a
           clear m9a l9a; replace p166 := eq_true p166
           replace q166 := eq_true q166
           try go_wp2_with (first | ((with_reducible refine gate_dst (N := 6) rfl ?_); (try (refine gate_guard (by rfl) ?_; dsimp only)); refine bX 6 #[.string (⟨#[]⟩ : ByteArray), .slice none 0 0] 86 ?_; intro e9a hg w52 hbox hb; have d9a := Aside0.mk (hbox); have GW167 := bs HB hg; have y9a := bs HB hg; have h9a := bl c9a hg; have n9a := bg c9a hg; have i9a := bl b9a hg; have o9a := bg b9a hg; replace c9a := bq c9a hb; replace b9a := bq b9a hb; replace HB := bh HB hb; clear hb hbox hg; have hnb53 := n9a.out; have hnc53 := h9a.out; have hnb54 := o9a.out; have hnc54 := i9a.out; obtain ⟨hcz55_0, hcz55_1⟩ := cs2 d9a; obtain ⟨hfz55_0, hfz55_1⟩ := fs2 d9a))
           have n0_ : Aside0 (((w52.setCell ⟨e9a, 0, none⟩ (.string ((rd_T86 l1_1 a9a).f0))).setCell ⟨e9a, 1, none⟩ (.slice f9a ((rd_T86 l1_1 a9a).f1).length g9a)).heap[v9a]? = some (.cells #[.slice A0_0 l0_0.length c0_0] 26 (0, 0))) := ⟨by (with_reducible repeat first | refine bkN ?_ _ | refine bkD ?_ | refine bkA ?_ _ | refine blk_far ?_ h9a.out _); exact c9a.out⟩
           have n1_ : Aside0 (((w52.setCell ⟨e9a, 0, none⟩ (.string ((rd_T86 l1_1 a9a).f0))).setCell ⟨e9a, 1, none⟩ (.slice f9a ((rd_T86 l1_1 a9a).f1).length g9a)).heap[u9a]? = some (.cells #[.int .i64 a1_0, .slice (some t9a) l1_1.length c1_1] 31 (0, 0))) := ⟨by (with_reducible repeat first | refine bkN ?_ _ | refine bkD ?_ | refine bkA ?_ _ | refine blk_far ?_ i9a.out _); exact b9a.out⟩
           have n2_ : Aside0 (((w52.setCell ⟨e9a, 0, none⟩ (.string ((rd_T86 l1_1 a9a).f0))).setCell ⟨e9a, 1, none⟩ (.slice f9a ((rd_T86 l1_1 a9a).f1).length g9a)).heap[e9a]? = some (.cells #[.string ((rd_T86 l1_1 a9a).f0), .slice f9a ((rd_T86 l1_1 a9a).f1).length g9a] 86 (0, 0))) := ⟨by (with_reducible repeat first | refine bkN ?_ _ | refine bkD ?_ | refine bkA ?_ _); refine blk_put (cs := #[.string ((rd_T86 l1_1 a9a).f0), .slice none 0 0]) ?_ 1 _ rfl; (with_reducible repeat first | refine bkN ?_ _ | refine bkD ?_ | refine bkA ?_ _); refine blk_put (cs := #[.string (⟨#[]⟩ : ByteArray), .slice none 0 0]) ?_ 0 _ rfl; (with_reducible repeat first | refine bkN ?_ _ | refine bkD ?_ | refine bkA ?_ _); exact d9a.out⟩
           have n3_ : Aside0 (Below w.heap.size w ((w52.setCell ⟨e9a, 0, none⟩ (.string ((rd_T86 l1_1 a9a).f0))).setCell ⟨e9a, 1, none⟩ (.slice f9a ((rd_T86 l1_1 a9a).f1).length g9a))) := ⟨iB HB⟩
           generalize ((w52.setCell ⟨e9a, 0, none⟩ (.string ((rd_T86 l1_1 a9a).f0))).setCell ⟨e9a, 1, none⟩ (.slice f9a ((rd_T86 l1_1 a9a).f1).length g9a)) = w56 at n0_ n1_ n2_ n3_ ⊢
           have c9a := n0_; have b9a := n1_; have d9a := n2_; have HB := n3_; clear n0_ n1_ n2_ n3_; have n0_ := Aside0.mk (blk_drew c9a.out)
           have n1_ := Aside0.mk (blk_drew b9a.out)
           have n2_ := Aside0.mk (blk_drew d9a.out)
           have n3_ := Aside0.mk (below_drew1 HB.out)
           clear c9a b9a d9a HB; have c9a := n0_; have b9a := n1_; have d9a := n2_; have HB := n3_; clear n0_ n1_ n2_ n3_; refine start_ (n := 22) (S := fun w' => w'.cell? ⟨e9a, 0, none⟩ = some (.string ((rd_T86 l1_1 a9a).f0)) ∧ w'.cell? ⟨e9a, 1, none⟩ = some (.slice f9a ((rd_T86 l1_1 a9a).f1).length g9a) ∧ w'.cell? ⟨u9a, 0, none⟩ = some (.int .i64 a1_0) ∧ w'.cell? ⟨u9a, 1, none⟩ = some (.slice (some t9a) l1_1.length c1_1)) (ds := []) #[ff,ff,ff,ff,ff,ff,ff,ff,ff,ff,ff,ff,ff,ff,ff,ff,ff,ff,ff,ff,ff,ff] (by kernel_rfl) rfl rfl ⟨bc d9a 0, bc d9a 1, bc b9a 0, bc b9a 1⟩ (fun hHeld => ?_); refine with_tabW impl_MemoOk.tab6 impl_MemoOk.bits6 (fun HT_ HW_ => ?_)
           generalize w56.drew = w57 at c9a b9a d9a HB hHeld ⊢
           refine pu 0 32 (tb 22 1) HT_ ?_
           refine tk 1 33 (tb 22 3) rfl rfl HT_ HW_ hHeld (by rintro w' ⟨s0, s1, s2, s3⟩; go_simp; with_reducible rfl) ?_
           refine one_ (i := 2) (N := some 34) #[tt,tt,tt,ff,ff,ff,ff,ff,ff,ff,ff,ff,ff,ff,ff,ff,ff,ff,ff,ff,ff,ff] rfl rfl (one_of HT_.out (by kernel_rfl)) (by decide) (fun K hK => ?_)
           refine goes_ Try.func38 (by kernel_rfl) rfl #[.string ((rd_T86 l1_1 a9a).f0)] (by rfl) rfl rfl (by (try simp only [List.map_toArray, List.map_cons, List.map_nil]); first | done | rfl | (simp only [List.length_drop, List.length_take]; rfl)) ?_
           with_reducible refine (impl_isWord.calls ((rd_T86 l1_1 a9a).f0) true _ A27.out).mono ?_
           rintro e w' ⟨rfl, ⟨nd, rfl⟩⟩
           refine ⟨_, rfl, ?_⟩
           refine hK.out _ _ ⟨bc d9a 0, bc d9a 1, bc b9a 0, bc b9a 1⟩ (fun hHeld => ?_)
           clear hK K; refine norm_ (a' := ?_) ?_ ?_
           rotate_left
           ·show Act.put _ (some 34) _ = _
            simp only [putL, i64_w, i32_w]; rfl
           refine pu 3 35 (tb 22 15) HT_ ?_
           refine pu 4 36 (tb 22 31) HT_ ?_
           refine pu 6 38 (tb 22 95) HT_ ?_
           refine pu 9 41 (tb 22 607) HT_ ?_
           refine tk 5 37 (tb 22 639) rfl rfl HT_ HW_ hHeld (by rintro w' ⟨s0, s1, s2, s3⟩; go_simp; with_reducible rfl) ?_
           refine tk 7 39 (tb 22 767) rfl rfl HT_ HW_ hHeld (by rintro w' ⟨s0, s1, s2, s3⟩; go_simp; with_reducible rfl) ?_
           refine one_ (i := 8) (N := some 40) #[tt,tt,tt,tt,tt,tt,tt,tt,tt,tt,ff,ff,ff,ff,ff,ff,ff,ff,ff,ff,ff,ff] rfl rfl (one_of HT_.out (by kernel_rfl)) (by decide) (fun K hK => ?_)
           refine goes_ Try.func60 (by kernel_rfl) rfl #[.agg #[.int .i64 a1_0, .slice (some t9a) l1_1.length c1_1], .string ((rd_T86 l1_1 a9a).f0)] (by rfl) rfl rfl (by (try simp only [List.map_toArray, List.map_cons, List.map_nil]); first | done | rfl | (simp only [List.length_drop, List.length_take]; rfl)) ?_
           with_reducible refine (impl_Memo_at.calls k2 a1_0 _ _ l1_1 ((rd_T86 l1_1 a9a).f0) t169 _ ?side1 ?side2 A29.out).mono ?_
           (case side1 => exact cX (Kd.C_below z9a.out (be HB)))
           (case side2 => exact HC1_1.out)
           rintro e w58 ⟨rfl, hb⟩
           refine ⟨_, rfl, ?_⟩
           replace c9a := bq c9a hb; replace b9a := bq b9a hb; replace d9a := bq d9a hb; replace HB := bh HB hb
           (try clear hb); (try clear hb2); (try clear hk); (try clear hi); refine hK.out _ _ ⟨bc d9a 0, bc d9a 1, bc b9a 0, bc b9a 1⟩ (fun hHeld => ?_)
           clear hK K; refine norm_ (a' := ?_) ?_ ?_
           rotate_left
           ·show Act.put _ (some 40) _ = _
            simp only [putL, i64_w, i32_w]; rfl
           refine pu 10 42 (tb 22 2047) HT_ ?_
           refine pu 11 43 (tb 22 4095) HT_ ?_
           refine pu 12 44 (tb 22 8191) HT_ ?_
           refine pn 13 45 (tb 22 16383) HT_ ?_
           refine pn 14 46 (tb 22 32767) HT_ ?_
           refine pn 15 47 (tb 22 65535) HT_ ?_
           refine pn 16 48 (tb 22 131071) HT_ ?_
           refine pn 17 49 (tb 22 262143) HT_ ?_
           refine pn 18 50 (tb 22 524287) HT_ ?_
           refine pn 19 51 (tb 22 1048575) HT_ ?_
           refine pn 20 52 (tb 22 2097151) HT_ ?_
           refine pu 21 53 (tb 22 4194303) HT_ ?_
           refine done_ (done_of HT_.out (by kernel_rfl)) ?_
           try go_wp2
           go_ret
           exact ⟨eR, iB HB⟩
         ·replace c28 := Bool.eq_false_iff.mpr c28
          subst c28
          have H1 : (some false) = some r := by rw [if_neg (show ¬ (false = true) by decide)] at H; exact H
          clear H; have H := H1
          clear H1; obtain rfl := Option.some.inj H
          have p166 : 0 ≤ (a9a : Int) := oD
          have q166 : a9a < (l1_1.length : Int) := oD
          obtain ⟨t9a, f9a, g9a, e166, j9a, k9a, l9a, m9a⟩ := at_T86 z9a.out a9a p166 q166
          cases e166
          replace j9a := (HB.out.cell (World.block_lt_of_cell? w _ j9a)).trans j9a
          replace k9a := (HB.out.cell (World.block_lt_of_cell? w _ k9a)).trans k9a
          have w9a := Aside0.mk m9a
          have x9a := Aside0.mk l9a
          clear m9a l9a; replace p166 := eq_true p166
          replace q166 := eq_true q166
          try go_wp2_with (first | ((with_reducible refine gate_dst (N := 6) rfl ?_); (try (refine gate_guard (by rfl) ?_; dsimp only)); refine bX 6 #[.string (⟨#[]⟩ : ByteArray), .slice none 0 0] 86 ?_; intro e9a hg w59 hbox hb; have d9a := Aside0.mk (hbox); have GW167 := bs HB hg; have y9a := bs HB hg; have h9a := bl c9a hg; have n9a := bg c9a hg; have i9a := bl b9a hg; have o9a := bg b9a hg; replace c9a := bq c9a hb; replace b9a := bq b9a hb; replace HB := bh HB hb; clear hb hbox hg; have hnb60 := n9a.out; have hnc60 := h9a.out; have hnb61 := o9a.out; have hnc61 := i9a.out; obtain ⟨hcz62_0, hcz62_1⟩ := cs2 d9a; obtain ⟨hfz62_0, hfz62_1⟩ := fs2 d9a))
          have n0_ : Aside0 (((w59.setCell ⟨e9a, 0, none⟩ (.string ((rd_T86 l1_1 a9a).f0))).setCell ⟨e9a, 1, none⟩ (.slice f9a ((rd_T86 l1_1 a9a).f1).length g9a)).heap[v9a]? = some (.cells #[.slice A0_0 l0_0.length c0_0] 26 (0, 0))) := ⟨by (with_reducible repeat first | refine bkN ?_ _ | refine bkD ?_ | refine bkA ?_ _ | refine blk_far ?_ h9a.out _); exact c9a.out⟩
          have n1_ : Aside0 (((w59.setCell ⟨e9a, 0, none⟩ (.string ((rd_T86 l1_1 a9a).f0))).setCell ⟨e9a, 1, none⟩ (.slice f9a ((rd_T86 l1_1 a9a).f1).length g9a)).heap[u9a]? = some (.cells #[.int .i64 a1_0, .slice (some t9a) l1_1.length c1_1] 31 (0, 0))) := ⟨by (with_reducible repeat first | refine bkN ?_ _ | refine bkD ?_ | refine bkA ?_ _ | refine blk_far ?_ i9a.out _); exact b9a.out⟩
          have n2_ : Aside0 (((w59.setCell ⟨e9a, 0, none⟩ (.string ((rd_T86 l1_1 a9a).f0))).setCell ⟨e9a, 1, none⟩ (.slice f9a ((rd_T86 l1_1 a9a).f1).length g9a)).heap[e9a]? = some (.cells #[.string ((rd_T86 l1_1 a9a).f0), .slice f9a ((rd_T86 l1_1 a9a).f1).length g9a] 86 (0, 0))) := ⟨by (with_reducible repeat first | refine bkN ?_ _ | refine bkD ?_ | refine bkA ?_ _); refine blk_put (cs := #[.string ((rd_T86 l1_1 a9a).f0), .slice none 0 0]) ?_ 1 _ rfl; (with_reducible repeat first | refine bkN ?_ _ | refine bkD ?_ | refine bkA ?_ _); refine blk_put (cs := #[.string (⟨#[]⟩ : ByteArray), .slice none 0 0]) ?_ 0 _ rfl; (with_reducible repeat first | refine bkN ?_ _ | refine bkD ?_ | refine bkA ?_ _); exact d9a.out⟩
          have n3_ : Aside0 (Below w.heap.size w ((w59.setCell ⟨e9a, 0, none⟩ (.string ((rd_T86 l1_1 a9a).f0))).setCell ⟨e9a, 1, none⟩ (.slice f9a ((rd_T86 l1_1 a9a).f1).length g9a))) := ⟨iB HB⟩
          generalize ((w59.setCell ⟨e9a, 0, none⟩ (.string ((rd_T86 l1_1 a9a).f0))).setCell ⟨e9a, 1, none⟩ (.slice f9a ((rd_T86 l1_1 a9a).f1).length g9a)) = w63 at n0_ n1_ n2_ n3_ ⊢
          have c9a := n0_; have b9a := n1_; have d9a := n2_; have HB := n3_; clear n0_ n1_ n2_ n3_; have n0_ := Aside0.mk (blk_drew c9a.out)
          have n1_ := Aside0.mk (blk_drew b9a.out)
          have n2_ := Aside0.mk (blk_drew d9a.out)
          have n3_ := Aside0.mk (below_drew1 HB.out)
          clear c9a b9a d9a HB; have c9a := n0_; have b9a := n1_; have d9a := n2_; have HB := n3_; clear n0_ n1_ n2_ n3_; refine start_ (n := 22) (S := fun w' => w'.cell? ⟨e9a, 0, none⟩ = some (.string ((rd_T86 l1_1 a9a).f0)) ∧ w'.cell? ⟨e9a, 1, none⟩ = some (.slice f9a ((rd_T86 l1_1 a9a).f1).length g9a)) (ds := []) #[ff,ff,ff,ff,ff,ff,ff,ff,ff,ff,ff,ff,ff,ff,ff,ff,ff,ff,ff,ff,ff,ff] (by kernel_rfl) rfl rfl ⟨bc d9a 0, bc d9a 1⟩ (fun hHeld => ?_); refine with_tabW impl_MemoOk.tab6 impl_MemoOk.bits6 (fun HT_ HW_ => ?_)
          generalize w63.drew = w64 at c9a b9a d9a HB hHeld ⊢
          refine pu 0 32 (tb 22 1) HT_ ?_
          refine tk 1 33 (tb 22 3) rfl rfl HT_ HW_ hHeld (by rintro w' ⟨s0, s1⟩; go_simp; with_reducible rfl) ?_
          refine one_ (i := 2) (N := some 34) #[tt,tt,tt,ff,ff,ff,ff,ff,ff,ff,ff,ff,ff,ff,ff,ff,ff,ff,ff,ff,ff,ff] rfl rfl (one_of HT_.out (by kernel_rfl)) (by decide) (fun K hK => ?_)
          refine goes_ Try.func38 (by kernel_rfl) rfl #[.string ((rd_T86 l1_1 a9a).f0)] (by rfl) rfl rfl (by (try simp only [List.map_toArray, List.map_cons, List.map_nil]); first | done | rfl | (simp only [List.length_drop, List.length_take]; rfl)) ?_
          with_reducible refine (impl_isWord.calls ((rd_T86 l1_1 a9a).f0) false _ A27.out).mono ?_
          rintro e w' ⟨rfl, ⟨nd, rfl⟩⟩
          refine ⟨_, rfl, ?_⟩
          refine hK.out _ _ ⟨bc d9a 0, bc d9a 1⟩ (fun hHeld => ?_)
          clear hK K; refine norm_ (a' := ?_) ?_ ?_
          rotate_left
          ·show Act.put _ (some 34) _ = _
           simp only [putL, i64_w, i32_w]; rfl
          refine pu 3 35 (tb 22 15) HT_ ?_
          refine pu 4 36 (tb 22 31) HT_ ?_
          refine pn 5 37 (tb 22 63) HT_ ?_
          refine pn 6 38 (tb 22 127) HT_ ?_
          refine pn 7 39 (tb 22 255) HT_ ?_
          refine pn 8 40 (tb 22 511) HT_ ?_
          refine pn 9 41 (tb 22 1023) HT_ ?_
          refine pn 10 42 (tb 22 2047) HT_ ?_
          refine pu 11 43 (tb 22 4095) HT_ ?_
          refine pu 12 44 (tb 22 8191) HT_ ?_
          refine pn 13 45 (tb 22 16383) HT_ ?_
          refine pn 14 46 (tb 22 32767) HT_ ?_
          refine pn 15 47 (tb 22 65535) HT_ ?_
          refine pn 16 48 (tb 22 131071) HT_ ?_
          refine pn 17 49 (tb 22 262143) HT_ ?_
          refine pn 18 50 (tb 22 524287) HT_ ?_
          refine pn 19 51 (tb 22 1048575) HT_ ?_
          refine pn 20 52 (tb 22 2097151) HT_ ?_
          refine pu 21 53 (tb 22 4194303) HT_ ?_
          refine done_ (done_of HT_.out (by kernel_rfl)) ?_
          try go_wp2
          go_ret
          exact ⟨eR, iB HB⟩
        ·rw [if_neg c26] at H
         exact absurd H (by simp)
       ·rw [if_neg c25] at H
        exact absurd H (by simp)
      ·rw [if_neg c24] at H
       have c24b0 : decide (a9a < (l1_1.length : Int)) = false := decide_eq_false c24
       clear c24; obtain rfl := Option.some.inj H
       go_wp2
       go_ret
       exact ⟨eR, iB HB⟩
end Go.Proofs.Ytddebnchbbmbkaa.PFnExactRecall
