-- The machine side of a law: written by a program of this session (wip/tools), a turned print.
import Derived.Test.YtddebnchbbmbkaaPFnExactRecallx0
import Derived.Test.YtddebnchbbmbkaaPFnExactRecallx18
namespace Go.Proofs.Ytddebnchbbmbkaa.PFnExactRecall
open Go.RowKit Go.Proofs.YtddebnchbbmbkaaW.PrintWords Go.Proofs.YtddebnchbbmbkaaW.PrintLast Go.Proofs.YtddebnchbbmbkaaW.PrintMore
attribute [local go_sem] max2_int min2_int max_two min_two max_three min_three max_four min_four   -- for this text's walks alone
set_option linter.unusedVariables false
set_option linter.unusedSimpArgs false
def laws_heldNoteS.l0 : Nat → List (S86) → Int → Int → Option (Int)
 | 0, _, _, _ => none
 | k + 1, x0, x1, x5 => if x5 < (x0.length : Int) then (if 0 ≤ x5 then ((laws_markText.f k x1).bind fun t404 => (if ((rd_T86 x0 x5).f0).toList = t404.toList then ((laws_heldIntS.f k ((rd_T86 x0 x5).f1) (wrap64 (x1 + 1))).bind fun t406 => (if t406 < 0 then (none) else (laws_heldNoteS.l0 k x0 t406 (wrap64 (x5 + 1))))) else (none))) else (none)) else (some x1)
def laws_heldNoteS.f (k : Nat) (l0 : List (S86)) (a1 : Int) : Option (Int) := laws_heldNoteS.l0 k l0 a1 0
theorem laws_heldNoteS.mono_l : ∀ k, (∀ y0 y1 y2, LeO (laws_heldNoteS.l0 k y0 y1 y2) (laws_heldNoteS.l0 (k + 1) y0 y1 y2))
 | 0 => fun _ _ _ r h => by simp [laws_heldNoteS.l0] at h
 | k + 1 => by
  have ih0 := laws_heldNoteS.mono_l k
  ·intro y0 y1 y2
   unfold laws_heldNoteS.l0
   repeat' first
   | (with_reducible exact ih0 _ _ _)
   | (with_reducible exact laws_heldIntS.mono _ _ _)
   | (with_reducible exact laws_markText.mono _ _)
   | (with_reducible exact LeO.refl _)
   | (with_reducible exact LeO.none _)
   | (with_reducible refine LeO.ite ?_ ?_)
   | (with_reducible refine LeO.bind ?_ (fun _ => ?_))
   | exact ih0 _ _ _
   | exact laws_heldIntS.mono _ _ _
   | exact laws_markText.mono _ _
   | exact LeO.none _
   | refine LeO.ite ?_ ?_
   | refine LeO.bind ?_ (fun _ => ?_)
theorem laws_heldNoteS.mono : ∀ a0 a1 k, LeO (laws_heldNoteS.f k a0 a1) (laws_heldNoteS.f (k + 1) a0 a1) := by
 intro a0 a1 k
 have ih0 := laws_heldNoteS.mono_l k
 unfold laws_heldNoteS.f
 repeat' first
   | (with_reducible exact ih0 _ _ _)
   | (with_reducible exact laws_heldIntS.mono _ _ _)
   | (with_reducible exact laws_markText.mono _ _)
   | (with_reducible exact LeO.refl _)
   | (with_reducible exact LeO.none _)
   | (with_reducible refine LeO.ite ?_ ?_)
   | (with_reducible refine LeO.bind ?_ (fun _ => ?_))
   | exact ih0 _ _ _
   | exact laws_heldIntS.mono _ _ _
   | exact laws_markText.mono _ _
   | exact LeO.none _
   | refine LeO.ite ?_ ?_
   | refine LeO.bind ?_ (fun _ => ?_)
def laws_heldNoteS.T4 : Bool × List (List Nat × List Nat) := (true, [([], []), ([], []), ([0, 1], [0, 1]), ([2], [2]), ([3], [3]), ([], []), ([5], [5]), ([4, 6], [4, 6])])
def laws_heldNoteS.B4 : List Nat := [0, 0, 3, 7, 15, 0, 32, 127]
theorem laws_heldNoteS.tab4 : rtab .any (opsOf Try.f52 4) = laws_heldNoteS.T4 := by kernel_rfl
theorem laws_heldNoteS.bits4 : waitsOk laws_heldNoteS.T4.2 laws_heldNoteS.B4 = true := by kernel_rfl
set_option maxHeartbeats 8000000 in
set_option maxRecDepth 100000 in
theorem laws_heldNoteS.calls (k : Nat) (A0 : Option Addr) (c0 : Nat) (l0 : List (S86)) (a1 : Int) (r : Int) (w : World) (hr0 : Kd.C k86 w A0 l0.length l0) (hc0 : l0.length ≤ c0) (h : laws_heldNoteS.f k l0 a1 = some r) :
  Calls Try.prog 52 #[.slice A0 l0.length c0, .int .i64 a1] w fun e w' => e = .returned (.int .i64 r) ∧ Below w.heap.size w w' := by
 have HR0 := Aside0.mk hr0
 have HC0 := Aside0.mk hc0
 clear hr0 hc0; have HB := Aside0.mk (Below.refl w.heap.size w)
 have H : (laws_heldNoteS.l0 k l0 a1 0) = some r := h
 clear h; have H' := Aside0.mk H
 clear H
 go_enter Try.func52, Try.ntmps52
 go_wp2
 go_loopg [1, 5] k (fun kq v1 v5 w' => ∃ (x1_1 : Int) (x5_1 : Int), v1 = .int .i64 x1_1 ∧ v5 = .int .i64 x5_1 ∧ Aside0 (laws_heldNoteS.l0 kq l0 x1_1 x5_1 = some r) ∧ Aside0 (kq ≤ k) ∧ Aside0 (Below w.heap.size w w'))
 case atStart => exact ⟨(a1), (0), sR, sR, H', ⟨Nat.le_refl _⟩, ⟨iB HB⟩⟩
 case round =>
  clear H'
  obtain ⟨x1_1, x5_1, rfl, rfl, HA, HK1, HB⟩ := hrel
  cases gk with
  | zero => exact absurd HA.out (by simp [laws_heldNoteS.l0])
  | succ k1 =>
   have H := HA.out; clear HA; simp only [laws_heldNoteS.l0] at H
   by_cases c3 : x5_1 < (l0.length : Int)
   ·rw [if_pos c3] at H
    have c3b0 : decide (x5_1 < (l0.length : Int)) = true := decide_eq_true c3
    clear c3
    by_cases c4 : 0 ≤ x5_1
    ·rw [if_pos c4] at H
     have c4b0 : decide (0 ≤ x5_1) = true := decide_eq_true c4
     clear c4; replace H := Option.bind_eq_some_iff.mp H
     obtain ⟨t404, A50, H⟩ := H
     replace H : (if ((rd_T86 l0 x5_1).f0).toList = t404.toList then ((laws_heldIntS.f k1 ((rd_T86 l0 x5_1).f1) (wrap64 (x1_1 + 1))).bind fun t406 => (if t406 < 0 then (none) else (laws_heldNoteS.l0 k1 l0 t406 (wrap64 (x5_1 + 1))))) else (none)) = some r := H
     have A5 := Aside0.mk A50
     clear A50
     by_cases c6 : ((rd_T86 l0 x5_1).f0).toList = t404.toList
     ·rw [if_pos c6] at H
      have c6b0 : (((rd_T86 l0 x5_1).f0).toList == t404.toList) = true := beq_iff_eq.mpr c6
      have c6b1 : (((rd_T86 l0 x5_1).f0).toList != t404.toList) = false := bne_eq_false_iff_eq.mpr c6
      clear c6; replace H := Option.bind_eq_some_iff.mp H
      obtain ⟨t406, A70, H⟩ := H
      replace H : (if t406 < 0 then (none) else (laws_heldNoteS.l0 k1 l0 t406 (wrap64 (x5_1 + 1)))) = some r := H
      have A7 := Aside0.mk A70
      clear A70
      by_cases c8 : t406 < 0
      ·rw [if_pos c8] at H
       exact absurd H (by simp)
      ·rw [if_neg c8] at H
       have c8b0 : decide (t406 < 0) = false := decide_eq_false c8
       clear c8; have H' := Aside0.mk H
       clear H
       try go_wp2
       have n0_ := Aside0.mk (below_drew1 HB.out)
       clear HB; have HB := n0_; clear n0_; have p403 : 0 ≤ (x5_1 : Int) := oD
       have q403 : x5_1 < (l0.length : Int) := oD
       obtain ⟨ad403, A403_1, c403_1, e403, a9a, b9a, hl403_1, hi403_1⟩ := at_T86 HR0.out x5_1 p403 q403
       have hw403_1 := b9a
       have hw403_0 := a9a
       cases e403
       replace a9a := (HB.out.cell (World.block_lt_of_cell? w _ a9a)).trans a9a
       replace b9a := (HB.out.cell (World.block_lt_of_cell? w _ b9a)).trans b9a
       have HR403_1 := Aside0.mk hi403_1
       have HC403_1 := Aside0.mk hl403_1
       clear hi403_1 hl403_1; replace p403 := eq_true p403
       replace q403 := eq_true q403
       refine start_ (n := 8) (S := fun w' => w'.cell? (ad403.add ((x5_1).toNat * 2)) = some (.string ((rd_T86 l0 x5_1).f0)) ∧ w'.cell? ⟨(ad403.add ((x5_1).toNat * 2)).block, (ad403.add ((x5_1).toNat * 2)).off + 1, none⟩ = some (.slice A403_1 ((rd_T86 l0 x5_1).f1).length c403_1)) (ds := []) #[ff,ff,ff,ff,ff,ff,ff,ff] (by kernel_rfl) rfl rfl ⟨((HB.out.cell (World.block_lt_of_cell? w _ hw403_0)).trans hw403_0), ((HB.out.cell (World.block_lt_of_cell? w _ hw403_1)).trans hw403_1)⟩ (fun hHeld => ?_); refine with_tabW laws_heldNoteS.tab4 laws_heldNoteS.bits4 (fun HT_ HW_ => ?_)
       generalize wr.drew = w9 at HB HR403_1 a9a b9a hHeld ⊢
       refine pu 0 12 (tb 8 1) HT_ ?_
       refine pu 1 13 (tb 8 3) HT_ ?_
       refine pu 2 14 (tb 8 7) HT_ ?_
       refine pu 3 15 (tb 8 15) HT_ ?_
       refine pu 5 17 (tb 8 47) HT_ ?_
       refine tk 4 16 (tb 8 63) rfl rfl HT_ HW_ hHeld (by rintro w' ⟨s0, s1⟩; go_simp; with_reducible rfl) ?_
       refine one_ (i := 6) (N := some 18) #[tt,tt,tt,tt,tt,tt,tt,ff] rfl rfl (one_of HT_.out (by kernel_rfl)) (by decide) (fun K hK => ?_)
       refine goes_ Try.func77 (by kernel_rfl) rfl #[.int .i64 x1_1] (by rfl) rfl rfl (by (try simp only [List.map_toArray, List.map_cons, List.map_nil]); first | done | rfl | (simp only [List.length_drop, List.length_take]; rfl)) ?_
       with_reducible refine (laws_markText.calls k1 x1_1 t404 _ A5.out).mono ?_
       rintro e w10 ⟨rfl, hb⟩
       refine ⟨_, rfl, ?_⟩
       replace HB := bh HB hb
       (try clear hb); (try clear hb2); (try clear hk); (try clear hi); refine hK.out _ _ ⟨((HB.out.cell (World.block_lt_of_cell? w _ hw403_0)).trans hw403_0), ((HB.out.cell (World.block_lt_of_cell? w _ hw403_1)).trans hw403_1)⟩ (fun hHeld => ?_)
       clear hK K; refine norm_ (a' := ?_) ?_ ?_
       rotate_left
       ·show Act.put _ (some 18) _ = _
        simp only [putL, i64_w, i32_w]; rfl
       refine pu 7 19 (tb 8 255) HT_ ?_
       refine done_ (done_of HT_.out (by kernel_rfl)) ?_
       have p405 : 0 ≤ (x5_1 : Int) := oD
       have q405 : x5_1 < (l0.length : Int) := oD
       obtain ⟨ad405, A405_1, c405_1, e405, d9a, c9a, hl405_1, hi405_1⟩ := at_T86 HR0.out x5_1 p405 q405
       obtain rfl : ad403 = ad405 := (by injection e405)
       have e_ := hw403_1.symm.trans c9a; injection e_ with e_; injection e_ with ea_ en_ ec_; have ea2_ := ea_.symm; have ec2_ := ec_.symm; subst ea2_; subst ec2_; clear en_; replace d9a := (HB.out.cell (World.block_lt_of_cell? w _ d9a)).trans d9a
       replace c9a := (HB.out.cell (World.block_lt_of_cell? w _ c9a)).trans c9a
       have HR405_1 := Aside0.mk hi405_1
       have HC405_1 := Aside0.mk hl405_1
       clear hi405_1 hl405_1; replace p405 := eq_true p405
       replace q405 := eq_true q405
       try go_wp2_with (first | ((with_reducible refine gate_callee (f := 26) rfl ?_); refine goesC_ (some 28) Try.func26 #[.slice A405_1 ((rd_T86 l0 x5_1).f1).length c405_1, .int .i64 (wrap64 (x1_1 + 1))] ?_; (with_reducible refine (laws_heldIntS.calls k1 _ _ ((rd_T86 l0 x5_1).f1) (wrap64 (x1_1 + 1)) t406 _ ?side1 ?side2 A7.out).mono ?_); (case side1 => exact cX (Kd.C_below HR405_1.out HB.out)); (case side2 => exact HC405_1.out); rintro e w' ⟨rfl, ⟨nd, rfl⟩⟩; refine ⟨_, rfl, ?_⟩))
       go_roundg k1
       case measure => have := HK1.out; omega
       case rel => exact ⟨(t406), (wrap64 (x5_1 + 1)), sR, sR, H', ⟨by have := HK1.out; omega⟩, ⟨iB HB⟩⟩
     ·rw [if_neg c6] at H
      exact absurd H (by simp)
    ·rw [if_neg c4] at H
     exact absurd H (by simp)
   ·rw [if_neg c3] at H
    have c3b0 : decide (x5_1 < (l0.length : Int)) = false := decide_eq_false c3
    clear c3; obtain rfl := Option.some.inj H
    go_wp2
    go_ret
    exact ⟨eR, iB HB⟩
def laws_heldMemo.f (k : Nat) (a0_0 : Int) (l0_1 : List (S86)) (a1 : Int) : Option (Int) := (laws_heldNoteS.f k l0_1 a1).bind fun t408 => (if t408 < 0 then (none) else (some t408))
theorem laws_heldMemo.mono : ∀ a0 a1 a2 k, LeO (laws_heldMemo.f k a0 a1 a2) (laws_heldMemo.f (k + 1) a0 a1 a2) := by
 intro a0 a1 a2 k
 unfold laws_heldMemo.f
 repeat' first
   | (with_reducible exact laws_heldNoteS.mono _ _ _)
   | (with_reducible exact LeO.refl _)
   | (with_reducible exact LeO.none _)
   | (with_reducible refine LeO.ite ?_ ?_)
   | (with_reducible refine LeO.bind ?_ (fun _ => ?_))
   | exact laws_heldNoteS.mono _ _ _
   | exact LeO.none _
   | refine LeO.ite ?_ ?_
   | refine LeO.bind ?_ (fun _ => ?_)
set_option maxHeartbeats 8000000 in
set_option maxRecDepth 100000 in
theorem laws_heldMemo.calls (k : Nat) (a0_0 : Int) (A0_1 : Option Addr) (c0_1 : Nat) (l0_1 : List (S86)) (a1 : Int) (r : Int) (w : World) (hr0_1 : Kd.C k86 w A0_1 l0_1.length l0_1) (hc0_1 : l0_1.length ≤ c0_1) (h : laws_heldMemo.f k a0_0 l0_1 a1 = some r) :
  Calls Try.prog 25 #[.agg #[.int .i64 a0_0, .slice A0_1 l0_1.length c0_1], .int .i64 a1] w fun e w' => e = .returned (.int .i64 r) ∧ Below w.heap.size w w' := by
 have hu31 := Try.underlying31
 have HR0_1 := Aside0.mk hr0_1
 have HC0_1 := Aside0.mk hc0_1
 clear hr0_1 hc0_1; have HB := Aside0.mk (Below.refl w.heap.size w)
 have H : ((laws_heldNoteS.f k l0_1 a1).bind fun t408 => (if t408 < 0 then (none) else (some t408))) = some r := h
 clear h; replace H := Option.bind_eq_some_iff.mp H
 obtain ⟨t408, A30, H⟩ := H
 replace H : (if t408 < 0 then (none) else (some t408)) = some r := H
 have A3 := Aside0.mk A30
 clear A30
 by_cases c4 : t408 < 0
 ·rw [if_pos c4] at H
  exact absurd H (by simp)
 ·rw [if_neg c4] at H
  have c4b0 : decide (t408 < 0) = false := decide_eq_false c4
  clear c4; obtain rfl := Option.some.inj H
  go_enter Try.func25, Try.ntmps25
  go_wp2_with (first | ((with_reducible refine gate_dst (N := 2) rfl ?_); refine bX 2 #[.int .i64 a0_0, .slice A0_1 l0_1.length c0_1] 31 ?_; intro gb407 hg w5 hbox hb; have BK407 := Aside0.mk (hbox); have GW407 := bs HB hg; have GE407 := bs HB hg; replace HB := bh HB hb; clear hb hbox hg; obtain ⟨hcz6_0, hcz6_1⟩ := cs2 BK407; obtain ⟨hfz6_0, hfz6_1⟩ := fs2 BK407) | ((with_reducible refine gate_callee (f := 52) rfl ?_); refine goesC_ (some 8) Try.func52 #[.slice A0_1 l0_1.length c0_1, .int .i64 a1] ?_; (with_reducible refine (laws_heldNoteS.calls k _ _ l0_1 a1 t408 _ ?side1 ?side2 A3.out).mono ?_); (case side1 => exact cX (Kd.C_below HR0_1.out HB.out)); (case side2 => exact HC0_1.out); rintro e w7 ⟨rfl, hb⟩; refine ⟨_, rfl, ?_⟩; replace BK407 := bq BK407 hb; replace HB := bh HB hb; (try clear hb); (try clear hb2); (try clear hk); (try clear hi)))
  go_ret
  exact ⟨eR, iB HB⟩
end Go.Proofs.Ytddebnchbbmbkaa.PFnExactRecall
