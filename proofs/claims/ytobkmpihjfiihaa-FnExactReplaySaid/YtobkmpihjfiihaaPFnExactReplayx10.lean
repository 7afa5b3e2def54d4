-- The machine side of a law: written by a program of this session (wip/tools), a turned print.
import Derived.Test.YtobkmpihjfiihaaPFnExactReplayx0
import Derived.Test.YtobkmpihjfiihaaPFnExactReplayx4
import Derived.Test.YtobkmpihjfiihaaPFnExactReplayx6
import Derived.Test.YtobkmpihjfiihaaPFnExactReplayx9
namespace Go.Proofs.Ytobkmpihjfiihaa.PFnExactReplay
open Go.RowKit Go.Proofs.YtobkmpihjfiihaaW.PrintWords Go.Proofs.YtobkmpihjfiihaaW.PrintLast Go.Proofs.YtobkmpihjfiihaaW.PrintMore
attribute [local go_sem] max2_int min2_int max_two min_two max_three min_three max_four min_four   -- for this text's walks alone
set_option linter.unusedVariables false
set_option linter.unusedSimpArgs false

/-! ### spec_Replay: function 33 -/
mutual
def spec_Replay.j0 : Nat → List ByteArray → Bool → Int → Int → Int → Int → ByteArray → Option (Int × Int × Int × Int × (List (S146)) × Int × Bool)
 | 0, _, _, _, _, _, _, _ => none
 | k + 1, x5, x36, x226000, x226001, x226002, x226003, x226004 => if x36 = true then (some (0, 0, 0, 0, ([] : List (S146)), 0, false)) else (if 0 < (x5.length : Int) then (spec_Replay.l0 k x5 (wrap64 (8 + ((rdOf ByteArray.empty x5 0).size : Int))) 1 x226001 (-1) x226002 x226001 ([] : List (S146))) else (none))
def spec_Replay.l0 : Nat → List ByteArray → Int → Int → Int → Int → Int → Int → List (S146) → Option (Int × Int × Int × Int × (List (S146)) × Int × Bool)
 | 0, _, _, _, _, _, _, _, _ => none
 | k + 1, x5, x10, x11, x227000, x227001, x227002, x227003, x227004 => if x11 < (x5.length : Int) then (if 0 ≤ x11 then ((spec_ReadRec.f k (rdOf ByteArray.empty x5 x11)).bind fun bt229 => ((spec_WalStep.f k x227000 x227001 x227002 x227003 x227004 bt229.1 bt229.2.1 bt229.2.2.1 bt229.2.2.2.1 bt229.2.2.2.2.1).bind fun bt235 => (if bt229.2.2.2.2.2 = true then (if bt235.2.2.2.2.2 = true then (spec_Replay.l0 k x5 (wrap64 ((wrap64 (x10 + 8)) + ((rdOf ByteArray.empty x5 x11).size : Int))) (wrap64 (x11 + 1)) bt235.1 bt235.2.1 bt235.2.2.1 bt235.2.2.2.1 bt235.2.2.2.2.1) else (some (x227000, x227001, x227002, x227003, x227004, x10, true))) else (some (x227000, x227001, x227002, x227003, x227004, x10, true))))) else (none)) else (some (x227000, x227001, x227002, x227003, x227004, x10, true))
end
def spec_Replay.f (k : Nat) (a0 : ByteArray) : Option (Int × Int × Int × Int × (List (S146)) × Int × Bool) := (spec_Frames.f k a0).bind fun bt214 => (if (bt214.1.length : Int) = 0 then (some (0, 0, 0, 0, ([] : List (S146)), 0, false)) else (if 0 < (bt214.1.length : Int) then ((spec_ReadRec.f k (rdOf ByteArray.empty bt214.1 0)).bind fun bt219 => (if bt219.2.2.2.2.2 = true then (spec_Replay.j0 k bt214.1 (bt219.1 != 4) bt219.1 bt219.2.1 bt219.2.2.1 bt219.2.2.2.1 bt219.2.2.2.2.1) else (spec_Replay.j0 k bt214.1 true bt219.1 bt219.2.1 bt219.2.2.1 bt219.2.2.2.1 bt219.2.2.2.2.1))) else (none)))
theorem spec_Replay.mono_l : ∀ k, (∀ y0 y1 y2 y3 y4 y5 y6, LeO (spec_Replay.j0 k y0 y1 y2 y3 y4 y5 y6) (spec_Replay.j0 (k + 1) y0 y1 y2 y3 y4 y5 y6)) ∧ (∀ y0 y1 y2 y3 y4 y5 y6 y7, LeO (spec_Replay.l0 k y0 y1 y2 y3 y4 y5 y6 y7) (spec_Replay.l0 (k + 1) y0 y1 y2 y3 y4 y5 y6 y7))
 | 0 => ⟨fun _ _ _ _ _ _ _ r h => by simp [spec_Replay.j0] at h, fun _ _ _ _ _ _ _ _ r h => by simp [spec_Replay.l0] at h⟩
 | k + 1 => by
  obtain ⟨ih0, ih1⟩ := spec_Replay.mono_l k
  refine ⟨?_, ?_⟩
  ·intro y0 y1 y2 y3 y4 y5 y6
   unfold spec_Replay.j0
   repeat' first
   | (with_reducible exact ih0 _ _ _ _ _ _ _)
   | (with_reducible exact ih1 _ _ _ _ _ _ _ _)
   | (with_reducible exact spec_Frames.mono _ _)
   | (with_reducible exact spec_ReadRec.mono _ _)
   | (with_reducible exact spec_WalStep.mono _ _ _ _ _ _ _ _ _ _ _)
   | (with_reducible exact LeO.refl _)
   | (with_reducible exact LeO.none _)
   | (with_reducible refine LeO.ite ?_ ?_)
   | (with_reducible refine LeO.bind ?_ (fun _ => ?_))
   | exact ih0 _ _ _ _ _ _ _
   | exact ih1 _ _ _ _ _ _ _ _
   | exact spec_Frames.mono _ _
   | exact spec_ReadRec.mono _ _
   | exact spec_WalStep.mono _ _ _ _ _ _ _ _ _ _ _
   | exact LeO.none _
   | refine LeO.ite ?_ ?_
   | refine LeO.bind ?_ (fun _ => ?_)
  ·intro y0 y1 y2 y3 y4 y5 y6 y7
   unfold spec_Replay.l0
   repeat' first
   | (with_reducible exact ih0 _ _ _ _ _ _ _)
   | (with_reducible exact ih1 _ _ _ _ _ _ _ _)
   | (with_reducible exact spec_Frames.mono _ _)
   | (with_reducible exact spec_ReadRec.mono _ _)
   | (with_reducible exact spec_WalStep.mono _ _ _ _ _ _ _ _ _ _ _)
   | (with_reducible exact LeO.refl _)
   | (with_reducible exact LeO.none _)
   | (with_reducible refine LeO.ite ?_ ?_)
   | (with_reducible refine LeO.bind ?_ (fun _ => ?_))
   | exact ih0 _ _ _ _ _ _ _
   | exact ih1 _ _ _ _ _ _ _ _
   | exact spec_Frames.mono _ _
   | exact spec_ReadRec.mono _ _
   | exact spec_WalStep.mono _ _ _ _ _ _ _ _ _ _ _
   | exact LeO.none _
   | refine LeO.ite ?_ ?_
   | refine LeO.bind ?_ (fun _ => ?_)
theorem spec_Replay.mono : ∀ a0 k, LeO (spec_Replay.f k a0) (spec_Replay.f (k + 1) a0) := by
 intro a0 k
 obtain ⟨ih0, ih1⟩ := spec_Replay.mono_l k
 unfold spec_Replay.f
 repeat' first
   | (with_reducible exact ih0 _ _ _ _ _ _ _)
   | (with_reducible exact ih1 _ _ _ _ _ _ _ _)
   | (with_reducible exact spec_Frames.mono _ _)
   | (with_reducible exact spec_ReadRec.mono _ _)
   | (with_reducible exact spec_WalStep.mono _ _ _ _ _ _ _ _ _ _ _)
   | (with_reducible exact LeO.refl _)
   | (with_reducible exact LeO.none _)
   | (with_reducible refine LeO.ite ?_ ?_)
   | (with_reducible refine LeO.bind ?_ (fun _ => ?_))
   | exact ih0 _ _ _ _ _ _ _
   | exact ih1 _ _ _ _ _ _ _ _
   | exact spec_Frames.mono _ _
   | exact spec_ReadRec.mono _ _
   | exact spec_WalStep.mono _ _ _ _ _ _ _ _ _ _ _
   | exact LeO.none _
   | refine LeO.ite ?_ ?_
   | refine LeO.bind ?_ (fun _ => ?_)
set_option maxHeartbeats 8000000 in
set_option maxRecDepth 100000 in
theorem spec_Replay.calls (k : Nat) (a0 : ByteArray) (r1 : Int) (r2 : Int) (r3 : Int) (r4 : Int) (r5 : List (S146)) (r6 : Int) (r7 : Bool) (w : World) (h : spec_Replay.f k a0 = some (r1, r2, r3, r4, r5, r6, r7)) :
  Calls Try.prog 33 #[.string a0] w fun e w' => ∃ v4_ : Value, e = .returned (.tuple #[.agg #[.int .i64 r1, .int .i64 r2, .int .i64 r3, .int .i64 r4, v4_], .int .i64 r6, .bool r7]) ∧ Kd.R k146 146 w' w.heap.size (fun _ => True) v4_ r5 ∧ Below w.heap.size w w' := by
 have hu50 := Try.underlying50
 have hu96 := Try.underlying96
 have HB := Aside0.mk (Below.refl w.heap.size w)
 have H : ((spec_Frames.f k a0).bind fun bt214 => (if (bt214.1.length : Int) = 0 then (some (0, 0, 0, 0, ([] : List (S146)), 0, false)) else (if 0 < (bt214.1.length : Int) then ((spec_ReadRec.f k (rdOf ByteArray.empty bt214.1 0)).bind fun bt219 => (if bt219.2.2.2.2.2 = true then (spec_Replay.j0 k bt214.1 (bt219.1 != 4) bt219.1 bt219.2.1 bt219.2.2.1 bt219.2.2.2.1 bt219.2.2.2.2.1) else (spec_Replay.j0 k bt214.1 true bt219.1 bt219.2.1 bt219.2.2.1 bt219.2.2.2.1 bt219.2.2.2.2.1))) else (none)))) = some (r1, r2, r3, r4, r5, r6, r7) := h
 clear h; replace H := Option.bind_eq_some_iff.mp H
 obtain ⟨⟨t214, t215⟩, A20, H⟩ := H
 replace H : (if (t214.length : Int) = 0 then (some (0, 0, 0, 0, ([] : List (S146)), 0, false)) else (if 0 < (t214.length : Int) then ((spec_ReadRec.f k (rdOf ByteArray.empty t214 0)).bind fun bt219 => (if bt219.2.2.2.2.2 = true then (spec_Replay.j0 k t214 (bt219.1 != 4) bt219.1 bt219.2.1 bt219.2.2.1 bt219.2.2.2.1 bt219.2.2.2.2.1) else (spec_Replay.j0 k t214 true bt219.1 bt219.2.1 bt219.2.2.1 bt219.2.2.2.1 bt219.2.2.2.2.1))) else (none))) = some (r1, r2, r3, r4, r5, r6, r7) := H
 have A2 := Aside0.mk A20
 clear A20
 by_cases c3 : (t214.length : Int) = 0
 ·rw [if_pos c3] at H
  have c3b0 : ((t214.length : Int) == 0) = true := beq_iff_eq.mpr c3
  have c3b1 : ((t214.length : Int) != 0) = false := bne_eq_false_iff_eq.mpr c3
  clear c3; simp only [Option.some.injEq, Prod.mk.injEq] at H
  obtain ⟨rfl, rfl, rfl, rfl, rfl, rfl, rfl⟩ := H
  go_enter Try.func33, Try.ntmps33
  go_wp2_with (first | ((with_reducible refine gate_dst (N := 2) rfl ?_); refine box_event ?hg (N := 2) ?hd (cs := #[.int .i64 0, .int .i64 0, .int .i64 0, .int .i64 0, .slice none 0 0]) (t := 50) ?hr ?_; (case hd => rfl); (case hg => rfl); (case hr => first | (go_simp; done) | (go_simp; rfl)); intro gb213 hg w4 hbox hb; have BK213 := Aside0.mk (hbox); have GW213 := bs HB hg; have GE213 := bs HB hg; replace HB := bh HB hb; clear hb hbox hg) | ((with_reducible refine gate_callee (f := 76) rfl ?_); refine goesL_ (some 16) rfl rfl Try.func76 (by kernel_rfl) rfl #[.string a0] rfl (by (try simp only [List.map_toArray, List.map_cons, List.map_nil]); first | done | rfl | (simp only [List.length_drop, List.length_take]; rfl)) ?_; (with_reducible refine (spec_Frames.calls k a0 t214 t215 _ A2.out).mono ?_); rintro e w5 ⟨v216, rfl, ho0, hb⟩; refine ⟨_, rfl, ?_⟩; have HO217 := Aside0.mk (Kd.R_lower ho0 (below_size (be HB))); replace BK213 := bq BK213 hb; replace HB := bh HB hb; (try clear hb); (try clear hb2); (try clear hk); (try clear hi); obtain ⟨Ao6, co6, eo6⟩ := Kd.R_slice HO217.out; subst eo6; obtain ⟨hcz7_0, hcz7_1, hcz7_2, hcz7_3, hcz7_4⟩ := cs5 BK213; obtain ⟨hfz7_0, hfz7_1, hfz7_2, hfz7_3, hfz7_4⟩ := fs5 BK213))
  refine bodyPost_ret (results_ctt rfl _ _ gb213 50 #[.int .i64 0, .int .i64 0, .int .i64 0, .int .i64 0, .slice none 0 0] (0, 0) _ rfl (by (with_reducible repeat first | refine bkN ?_ _ | refine bkD ?_ | refine bkA ?_ _); refine blk_put (cs := #[.int .i64 0, .int .i64 0, .int .i64 0, .int .i64 0, .slice none 0 0]) ?_ 4 _ rfl; (with_reducible repeat first | refine bkN ?_ _ | refine bkD ?_ | refine bkA ?_ _); refine blk_put (cs := #[.int .i64 0, .int .i64 0, .int .i64 0, .int .i64 0, .slice none 0 0]) ?_ 3 _ rfl; (with_reducible repeat first | refine bkN ?_ _ | refine bkD ?_ | refine bkA ?_ _); refine blk_put (cs := #[.int .i64 0, .int .i64 0, .int .i64 0, .int .i64 0, .slice none 0 0]) ?_ 2 _ rfl; (with_reducible repeat first | refine bkN ?_ _ | refine bkD ?_ | refine bkA ?_ _); refine blk_put (cs := #[.int .i64 0, .int .i64 0, .int .i64 0, .int .i64 0, .slice none 0 0]) ?_ 1 _ rfl; (with_reducible repeat first | refine bkN ?_ _ | refine bkD ?_ | refine bkA ?_ _); refine blk_put (cs := #[.int .i64 0, .int .i64 0, .int .i64 0, .int .i64 0, .slice none 0 0]) ?_ 0 _ rfl; (with_reducible repeat first | refine bkN ?_ _ | refine bkD ?_ | refine bkA ?_ _); exact BK213.out) Try.underlying50 rfl (by kernel_rfl)) rfl ?_
  exact ⟨_, by first | rfl | (simp [errW_none, errW_some] <;> rfl) | (simp [*, errW_none, errW_some] <;> rfl), by first | exact Kd.R_nil _ _ _ _ _ | exact Kd.N_nil _ _ _ _ _ | exact Kd.V_nil _ _ _ _ _ | exact Kd.Q_nil _ _ _ _ _ | exact Kd.S_nil _ _ _ _ _, by repeat (first | (with_reducible first | exact HB.out | apply below_alloc | apply pw_below_drewN | apply below_drew1 | refine below_set ?_ GE213.out) | exact HB.out)⟩
 ·rw [if_neg c3] at H
  have c3b0 : ((t214.length : Int) == 0) = false := beq_eq_false_iff_ne.mpr c3
  have c3b1 : ((t214.length : Int) != 0) = true := bne_iff_ne.mpr c3
  have c3b2 : ¬ (t214 = []) := fun h_ => c3 (by rw [h_]; rfl)
  by_cases c8 : 0 < (t214.length : Int)
  ·rw [if_pos c8] at H
   have c8b0 : decide (0 < (t214.length : Int)) = true := decide_eq_true c8
   have c8b1 : decide (0 < t214.length) = true := decide_eq_true (by omega)
   clear c8; replace H := Option.bind_eq_some_iff.mp H
   obtain ⟨⟨t219, t220, t221, t222, t223, t224⟩, A90, H⟩ := H
   replace H : (if t224 = true then (spec_Replay.j0 k t214 (t219 != 4) t219 t220 t221 t222 t223) else (spec_Replay.j0 k t214 true t219 t220 t221 t222 t223)) = some (r1, r2, r3, r4, r5, r6, r7) := H
   have A9 := Aside0.mk A90
   clear A90; have HC10 := Aside0.mk H
   clear H
   go_enter Try.func33, Try.ntmps33
   go_upto_region 5 with (first | ((with_reducible refine gate_dst (N := 2) rfl ?_); refine box_event ?hg (N := 2) ?hd (cs := #[.int .i64 0, .int .i64 0, .int .i64 0, .int .i64 0, .slice none 0 0]) (t := 50) ?hr ?_; (case hd => rfl); (case hg => rfl); (case hr => first | (go_simp; done) | (go_simp; rfl)); intro gb213 hg w11 hbox hb; have BK213 := Aside0.mk (hbox); have GW213 := bs HB hg; have GE213 := bs HB hg; replace HB := bh HB hb; clear hb hbox hg) | ((with_reducible refine gate_callee (f := 76) rfl ?_); refine goesL_ (some 16) rfl rfl Try.func76 (by kernel_rfl) rfl #[.string a0] rfl (by (try simp only [List.map_toArray, List.map_cons, List.map_nil]); first | done | rfl | (simp only [List.length_drop, List.length_take]; rfl)) ?_; (with_reducible refine (spec_Frames.calls k a0 t214 t215 _ A2.out).mono ?_); rintro e w12 ⟨v216, rfl, ho0, hb⟩; refine ⟨_, rfl, ?_⟩; have HO217 := Aside0.mk (Kd.R_lower ho0 (below_size (be HB))); replace BK213 := bq BK213 hb; replace HB := bh HB hb; (try clear hb); (try clear hb2); (try clear hk); (try clear hi); obtain ⟨Ao13, co13, eo13⟩ := Kd.R_slice HO217.out; subst eo13; have p218 : 0 ≤ (0 : Int) := (by omega); have q218 : 0 < (t214.length : Int) := of_decide_eq_true (by first | (with_reducible assumption) | assumption); obtain ⟨ad218, e218, hx218_0⟩ := Kd.at_string (Kd.R_reads' HO217.out).2.2 0 p218 q218; cases e218; have qi218 : (0 < t214.length) = True := eq_true (by omega); (try rw [show ((0 : Int)).toNat = 0 from rfl] at hx218_0); (try rw [Addr.add_zero'] at hx218_0); replace p218 := eq_true p218; replace q218 := eq_true q218) | ((with_reducible refine gate_callee (f := 77) rfl ?_); refine goesL_ (some 27) rfl rfl Try.func77 (by kernel_rfl) rfl #[.string (rdOf ByteArray.empty t214 0)] rfl (by (try simp only [List.map_toArray, List.map_cons, List.map_nil]); first | done | rfl | (simp only [List.length_drop, List.length_take]; rfl)) ?_; (with_reducible refine (spec_ReadRec.calls k (rdOf ByteArray.empty t214 0) t219 t220 t221 t222 t223 t224 _ A9.out).mono ?_); rintro e w14 ⟨rfl, hb⟩; refine ⟨_, rfl, ?_⟩; replace HO217 := Aside0.mk (Kd.R_below (rr HO217) hb); replace BK213 := bq BK213 hb; replace HB := bh HB hb; (try clear hb); (try clear hb2); (try clear hk); (try clear hi)) | ((with_reducible refine gate_dst (N := 7) rfl ?_); refine box_event ?hg (N := 7) ?hd (cs := #[.int .i64 0, .int .i64 0, .int .i64 0, .int .i64 0, .string (⟨#[]⟩ : ByteArray)]) (t := 96) ?hr ?_; (case hd => rfl); (case hg => rfl); (case hr => first | (go_simp; done) | (go_simp; rfl)); intro gb225 hg w15 hbox hb; have BK225 := Aside0.mk (hbox); have GW225 := bs HB hg; have GE225 := bs HB hg; have NB213_225 := bl BK213 hg; have NB225_213 := bg BK213 hg; replace HO217 := Aside0.mk (Kd.R_below (rr HO217) hb); replace BK213 := bq BK213 hb; replace HB := bh HB hb; clear hb hbox hg; have hnb16 := NB225_213.out; have hnc16 := NB213_225.out; obtain ⟨hcz17_0, hcz17_1, hcz17_2, hcz17_3, hcz17_4⟩ := cs5 BK225; obtain ⟨hfz17_0, hfz17_1, hfz17_2, hfz17_3, hfz17_4⟩ := fs5 BK225))
   (try simp only [putL])
   go_cut [36] (fun v36 wc => ∃ (kq : Nat) (x36_9 : Bool), v36 = .bool x36_9 ∧ Aside0 (spec_Replay.j0 kq t214 x36_9 t219 t220 t221 t222 t223 = some (r1, r2, r3, r4, r5, r6, r7)) ∧ Aside0 (kq ≤ k) ∧ Aside0 (Kd.R Kd.string 9 wc w.heap.size (fun _ => True) (.slice (some ad218) t214.length co13) t214) ∧ Aside0 (wc.heap[gb213]? = some (.cells #[.int .i64 0, .int .i64 0, .int .i64 0, .int .i64 0, (.slice none 0 0)] 50 (0, 0))) ∧ Aside0 (wc.heap[gb225]? = some (.cells #[.int .i64 t219, .int .i64 t220, .int .i64 t221, .int .i64 t222, .string t223] 96 (0, 0))) ∧ Aside0 (Below w.heap.size w wc))
   case first =>
    have H := HC10.out; clear HC10
    by_cases c18 : t224 = true
    ·subst c18
     have H1 : (spec_Replay.j0 k t214 (t219 != 4) t219 t220 t221 t222 t223) = some (r1, r2, r3, r4, r5, r6, r7) := by rw [if_pos rfl] at H; exact H
     clear H; have H := H1
     clear H1; have H' := Aside0.mk H
     clear H; have hnb19 := NB225_213.out; have hnc19 := NB213_225.out; obtain ⟨hcz20_0, hcz20_1, hcz20_2, hcz20_3, hcz20_4⟩ := cs5 BK225; obtain ⟨hfz20_0, hfz20_1, hfz20_2, hfz20_3, hfz20_4⟩ := fs5 BK225
     go_wp2
     go_meet
     case rel => exact ⟨_, ((t219 != 4)), (by first | rfl | (simp; done) | (simp [*]; done)), H', ⟨by first | omega | exact Nat.le_refl _⟩, ⟨by (with_reducible repeat (first | apply Kd.R_alloc | apply Kd.R_drewN | apply Kd.R_drew)); exact Kd.R_mono (Kd.R_far (p := ⟨gb225, 4, none⟩) (Kd.R_far (p := ⟨gb225, 3, none⟩) (Kd.R_far (p := ⟨gb225, 2, none⟩) (Kd.R_far (p := ⟨gb225, 1, none⟩) (Kd.R_far (p := ⟨gb225, 0, none⟩) (Kd.R_types HO217.out BK225.out (by decide)) (fun _ hk => hk.2) (.int .i64 t219)) (fun _ hk => hk.2) (.int .i64 t220)) (fun _ hk => hk.2) (.int .i64 t221)) (fun _ hk => hk.2) (.int .i64 t222)) (fun _ hk => hk.2) (.string t223)) (fun _ hk => trivial)⟩, ⟨by (with_reducible repeat first | refine bkN ?_ _ | refine bkD ?_ | refine bkA ?_ _ | refine blk_far ?_ NB213_225.out _); exact BK213.out⟩, ⟨by (with_reducible repeat first | refine bkN ?_ _ | refine bkD ?_ | refine bkA ?_ _); refine blk_put (cs := #[.int .i64 t219, .int .i64 t220, .int .i64 t221, .int .i64 t222, .string (⟨#[]⟩ : ByteArray)]) ?_ 4 _ rfl; (with_reducible repeat first | refine bkN ?_ _ | refine bkD ?_ | refine bkA ?_ _); refine blk_put (cs := #[.int .i64 t219, .int .i64 t220, .int .i64 t221, .int .i64 0, .string (⟨#[]⟩ : ByteArray)]) ?_ 3 _ rfl; (with_reducible repeat first | refine bkN ?_ _ | refine bkD ?_ | refine bkA ?_ _); refine blk_put (cs := #[.int .i64 t219, .int .i64 t220, .int .i64 0, .int .i64 0, .string (⟨#[]⟩ : ByteArray)]) ?_ 2 _ rfl; (with_reducible repeat first | refine bkN ?_ _ | refine bkD ?_ | refine bkA ?_ _); refine blk_put (cs := #[.int .i64 t219, .int .i64 0, .int .i64 0, .int .i64 0, .string (⟨#[]⟩ : ByteArray)]) ?_ 1 _ rfl; (with_reducible repeat first | refine bkN ?_ _ | refine bkD ?_ | refine bkA ?_ _); refine blk_put (cs := #[.int .i64 0, .int .i64 0, .int .i64 0, .int .i64 0, .string (⟨#[]⟩ : ByteArray)]) ?_ 0 _ rfl; (with_reducible repeat first | refine bkN ?_ _ | refine bkD ?_ | refine bkA ?_ _); exact BK225.out⟩, ⟨by repeat (first | (with_reducible first | exact HB.out | apply below_alloc | apply pw_below_drewN | apply below_drew1 | refine below_set ?_ GE213.out | refine below_set ?_ GE225.out) | exact HB.out)⟩⟩
    ·replace c18 := Bool.eq_false_iff.mpr c18
     subst c18
     have H1 : (spec_Replay.j0 k t214 true t219 t220 t221 t222 t223) = some (r1, r2, r3, r4, r5, r6, r7) := by rw [if_neg (show ¬ (false = true) by decide)] at H; exact H
     clear H; have H := H1
     clear H1; have H' := Aside0.mk H
     clear H
     go_wp2
     go_meet
     case rel => exact ⟨_, (true), (by first | rfl | (simp; done) | (simp [*]; done)), H', ⟨by first | omega | exact Nat.le_refl _⟩, ⟨by (with_reducible repeat (first | apply Kd.R_alloc | apply Kd.R_drewN | apply Kd.R_drew)); exact Kd.R_mono (Kd.R_far (p := ⟨gb225, 4, none⟩) (Kd.R_far (p := ⟨gb225, 3, none⟩) (Kd.R_far (p := ⟨gb225, 2, none⟩) (Kd.R_far (p := ⟨gb225, 1, none⟩) (Kd.R_far (p := ⟨gb225, 0, none⟩) (Kd.R_types HO217.out BK225.out (by decide)) (fun _ hk => hk.2) (.int .i64 t219)) (fun _ hk => hk.2) (.int .i64 t220)) (fun _ hk => hk.2) (.int .i64 t221)) (fun _ hk => hk.2) (.int .i64 t222)) (fun _ hk => hk.2) (.string t223)) (fun _ hk => trivial)⟩, ⟨by (with_reducible repeat first | refine bkN ?_ _ | refine bkD ?_ | refine bkA ?_ _ | refine blk_far ?_ NB213_225.out _); exact BK213.out⟩, ⟨by (with_reducible repeat first | refine bkN ?_ _ | refine bkD ?_ | refine bkA ?_ _); refine blk_put (cs := #[.int .i64 t219, .int .i64 t220, .int .i64 t221, .int .i64 t222, .string (⟨#[]⟩ : ByteArray)]) ?_ 4 _ rfl; (with_reducible repeat first | refine bkN ?_ _ | refine bkD ?_ | refine bkA ?_ _); refine blk_put (cs := #[.int .i64 t219, .int .i64 t220, .int .i64 t221, .int .i64 0, .string (⟨#[]⟩ : ByteArray)]) ?_ 3 _ rfl; (with_reducible repeat first | refine bkN ?_ _ | refine bkD ?_ | refine bkA ?_ _); refine blk_put (cs := #[.int .i64 t219, .int .i64 t220, .int .i64 0, .int .i64 0, .string (⟨#[]⟩ : ByteArray)]) ?_ 2 _ rfl; (with_reducible repeat first | refine bkN ?_ _ | refine bkD ?_ | refine bkA ?_ _); refine blk_put (cs := #[.int .i64 t219, .int .i64 0, .int .i64 0, .int .i64 0, .string (⟨#[]⟩ : ByteArray)]) ?_ 1 _ rfl; (with_reducible repeat first | refine bkN ?_ _ | refine bkD ?_ | refine bkA ?_ _); refine blk_put (cs := #[.int .i64 0, .int .i64 0, .int .i64 0, .int .i64 0, .string (⟨#[]⟩ : ByteArray)]) ?_ 0 _ rfl; (with_reducible repeat first | refine bkN ?_ _ | refine bkD ?_ | refine bkA ?_ _); exact BK225.out⟩, ⟨by repeat (first | (with_reducible first | exact HB.out | apply below_alloc | apply pw_below_drewN | apply below_drew1 | refine below_set ?_ GE213.out | refine below_set ?_ GE225.out) | exact HB.out)⟩⟩
   case rest =>
    clear HC10; obtain ⟨kq, x36_9, rfl, HA, HJ9, HO_5, BK213, BK225, HB⟩ := hcut
    cases kq with
    | zero => exact absurd HA.out (by simp [spec_Replay.j0])
    | succ kj9 =>
     have H := HA.out; clear HA; simp only [spec_Replay.j0] at H
     by_cases c21 : x36_9 = true
     ·subst c21
      have H1 : (some (0, 0, 0, 0, ([] : List (S146)), 0, false)) = some (r1, r2, r3, r4, r5, r6, r7) := by rw [if_pos rfl] at H; exact H
      clear H; have H := H1
      clear H1; simp only [Option.some.injEq, Prod.mk.injEq] at H
      obtain ⟨rfl, rfl, rfl, rfl, rfl, rfl, rfl⟩ := H
      have hnb22 := NB213_225.out; have hnc22 := NB225_213.out; obtain ⟨hcz23_0, hcz23_1, hcz23_2, hcz23_3, hcz23_4⟩ := cs5 BK213; obtain ⟨hfz23_0, hfz23_1, hfz23_2, hfz23_3, hfz23_4⟩ := fs5 BK213
      go_wp2
      refine bodyPost_ret (results_ctt rfl _ _ gb213 50 #[.int .i64 0, .int .i64 0, .int .i64 0, .int .i64 0, .slice none 0 0] (0, 0) _ rfl (by (with_reducible repeat first | refine bkN ?_ _ | refine bkD ?_ | refine bkA ?_ _); refine blk_put (cs := #[.int .i64 0, .int .i64 0, .int .i64 0, .int .i64 0, .slice none 0 0]) ?_ 4 _ rfl; (with_reducible repeat first | refine bkN ?_ _ | refine bkD ?_ | refine bkA ?_ _); refine blk_put (cs := #[.int .i64 0, .int .i64 0, .int .i64 0, .int .i64 0, .slice none 0 0]) ?_ 3 _ rfl; (with_reducible repeat first | refine bkN ?_ _ | refine bkD ?_ | refine bkA ?_ _); refine blk_put (cs := #[.int .i64 0, .int .i64 0, .int .i64 0, .int .i64 0, .slice none 0 0]) ?_ 2 _ rfl; (with_reducible repeat first | refine bkN ?_ _ | refine bkD ?_ | refine bkA ?_ _); refine blk_put (cs := #[.int .i64 0, .int .i64 0, .int .i64 0, .int .i64 0, .slice none 0 0]) ?_ 1 _ rfl; (with_reducible repeat first | refine bkN ?_ _ | refine bkD ?_ | refine bkA ?_ _); refine blk_put (cs := #[.int .i64 0, .int .i64 0, .int .i64 0, .int .i64 0, .slice none 0 0]) ?_ 0 _ rfl; (with_reducible repeat first | refine bkN ?_ _ | refine bkD ?_ | refine bkA ?_ _); exact BK213.out) Try.underlying50 rfl (by kernel_rfl)) rfl ?_
      exact ⟨_, by first | rfl | (simp [errW_none, errW_some] <;> rfl) | (simp [*, errW_none, errW_some] <;> rfl), by first | exact Kd.R_nil _ _ _ _ _ | exact Kd.N_nil _ _ _ _ _ | exact Kd.V_nil _ _ _ _ _ | exact Kd.Q_nil _ _ _ _ _ | exact Kd.S_nil _ _ _ _ _, by repeat (first | (with_reducible first | exact HB.out | apply below_alloc | apply pw_below_drewN | apply below_drew1 | refine below_set ?_ GE213.out | refine below_set ?_ GE225.out) | exact HB.out)⟩
     ·replace c21 := Bool.eq_false_iff.mpr c21
      subst c21
      have H1 : (if 0 < (t214.length : Int) then (spec_Replay.l0 kj9 t214 (wrap64 (8 + ((rdOf ByteArray.empty t214 0).size : Int))) 1 t220 (-1) t221 t220 ([] : List (S146))) else (none)) = some (r1, r2, r3, r4, r5, r6, r7) := by rw [if_neg (show ¬ (false = true) by decide)] at H; exact H
      clear H; have H := H1
      clear H1
      by_cases c24 : 0 < (t214.length : Int)
      ·rw [if_pos c24] at H
       have c24b0 : decide (0 < (t214.length : Int)) = true := decide_eq_true c24
       have c24b1 : decide (0 < t214.length) = true := decide_eq_true (by omega)
       clear c24; have H' := Aside0.mk H
       clear H; have hnb25 := NB225_213.out; have hnc25 := NB213_225.out; obtain ⟨hcz26_0, hcz26_1, hcz26_2, hcz26_3, hcz26_4⟩ := cs5 BK225; obtain ⟨hfz26_0, hfz26_1, hfz26_2, hfz26_3, hfz26_4⟩ := fs5 BK225
       go_wp2_with (first | ((with_reducible refine gate_dst (N := 9) rfl ?_); refine box_event ?hg (N := 9) ?hd (cs := #[.int .i64 0, .int .i64 0, .int .i64 0, .int .i64 0, .slice none 0 0]) (t := 50) ?hr ?_; (case hd => rfl); (case hg => rfl); (case hr => first | (go_simp; done) | (go_simp; rfl)); intro gb226 hg w27 hbox hb; have BK226 := Aside0.mk (hbox); have GW226 := bs HB hg; have GE226 := bs HB hg; have NB213_226 := bl BK213 hg; have NB226_213 := bg BK213 hg; have NB225_226 := bl BK225 hg; have NB226_225 := bg BK225 hg; replace HO_5 := Aside0.mk (Kd.R_below (rr HO_5) hb); replace BK213 := bq BK213 hb; replace BK225 := bq BK225 hb; replace HB := bh HB hb; clear hb hbox hg; have hnb28 := NB226_213.out; have hnc28 := NB213_226.out; have hnb29 := NB226_225.out; have hnc29 := NB225_226.out; obtain ⟨hcz30_0, hcz30_1, hcz30_2, hcz30_3, hcz30_4⟩ := cs5 BK226; obtain ⟨hfz30_0, hfz30_1, hfz30_2, hfz30_3, hfz30_4⟩ := fs5 BK226; have p227 : 0 ≤ (0 : Int) := (by omega); have q227 : 0 < (t214.length : Int) := of_decide_eq_true (by first | (with_reducible assumption) | assumption); obtain ⟨ad227, e227, hx227_0⟩ := Kd.at_string (Kd.R_reads' HO_5.out).2.2 0 p227 q227; obtain rfl : ad218 = ad227 := (by injection e227); have qi227 : (0 < t214.length) = True := eq_true (by omega); (try rw [show ((0 : Int)).toNat = 0 from rfl] at hx227_0); (try rw [Addr.add_zero'] at hx227_0); have hn227_0 : ad218.block ≠ gb226 := Kd.own_blk (Kd.R_ne HO_5.out BK226.out (by decide)); have hn227_1 : ad218.block ≠ gb226 := Kd.own_blk (Kd.R_ne HO_5.out BK226.out (by decide)); have hn227_2 : ad218.block ≠ gb226 := Kd.own_blk (Kd.R_ne HO_5.out BK226.out (by decide)); have hn227_3 : ad218.block ≠ gb226 := Kd.own_blk (Kd.R_ne HO_5.out BK226.out (by decide)); have hn227_4 : ad218.block ≠ gb226 := Kd.own_blk (Kd.R_ne HO_5.out BK226.out (by decide)); replace hx227_0 := (cell_far (p := ⟨gb226, 0, none⟩) (by first | (rw [add_block]; exact hn227_0) | (show (Addr.add _ _).block ≠ _; rw [add_block]; exact hn227_0) | exact hn227_0) (.int .i64 t220)).trans hx227_0; replace hx227_0 := (cell_far (p := ⟨gb226, 1, none⟩) (by first | (rw [add_block]; exact hn227_1) | (show (Addr.add _ _).block ≠ _; rw [add_block]; exact hn227_1) | exact hn227_1) (.int .i64 (-1))).trans hx227_0; replace hx227_0 := (cell_far (p := ⟨gb226, 2, none⟩) (by first | (rw [add_block]; exact hn227_2) | (show (Addr.add _ _).block ≠ _; rw [add_block]; exact hn227_2) | exact hn227_2) (.int .i64 t221)).trans hx227_0; replace hx227_0 := (cell_far (p := ⟨gb226, 3, none⟩) (by first | (rw [add_block]; exact hn227_3) | (show (Addr.add _ _).block ≠ _; rw [add_block]; exact hn227_3) | exact hn227_3) (.int .i64 t220)).trans hx227_0; replace hx227_0 := (cell_far (p := ⟨gb226, 4, none⟩) (by first | (rw [add_block]; exact hn227_4) | (show (Addr.add _ _).block ≠ _; rw [add_block]; exact hn227_4) | exact hn227_4) (.slice none 0 0)).trans hx227_0; clear hn227_0; clear hn227_1; clear hn227_2; clear hn227_3; clear hn227_4; replace p227 := eq_true p227; replace q227 := eq_true q227))
       go_loopg [10, 11] kj9 (fun kq v10 v11 w' => ∃ (x10_2 : Int) (x11_2 : Int) (x214000_2 : Int) (x214001_2 : Int) (x214002_2 : Int) (x214003_2 : Int) (x226000_2 : Int) (x226001_2 : Int) (x226002_2 : Int) (x226003_2 : Int) (x226004_2 : ByteArray) (x227000_2 : Int) (x227001_2 : Int) (x227002_2 : Int) (x227003_2 : Int) (x227004_2 : List (S146)) (u227004 : Value), v10 = .int .i64 x10_2 ∧ v11 = .int .i64 x11_2 ∧ Aside0 (spec_Replay.l0 kq t214 x10_2 x11_2 x227000_2 x227001_2 x227002_2 x227003_2 x227004_2 = some (r1, r2, r3, r4, r5, r6, r7)) ∧ Aside0 (kq ≤ kj9) ∧ Aside0 (Kd.R Kd.string 9 w' w.heap.size (fun _ => True) (.slice (some ad218) t214.length co13) t214) ∧ Aside0 (Kd.R k146 146 w' w.heap.size (fun _ => True) u227004 x227004_2) ∧ Aside0 (w'.heap[gb213]? = some (.cells #[.int .i64 x214000_2, .int .i64 x214001_2, .int .i64 x214002_2, .int .i64 x214003_2, (.slice none 0 0)] 50 (0, 0))) ∧ Aside0 (w'.heap[gb225]? = some (.cells #[.int .i64 x226000_2, .int .i64 x226001_2, .int .i64 x226002_2, .int .i64 x226003_2, .string x226004_2] 96 (0, 0))) ∧ Aside0 (w'.heap[gb226]? = some (.cells #[.int .i64 x227000_2, .int .i64 x227001_2, .int .i64 x227002_2, .int .i64 x227003_2, u227004] 50 (0, 0))) ∧ Aside0 (Below w.heap.size w w'))
       case atStart => exact ⟨(wrap64 (8 + ((rdOf ByteArray.empty t214 0).size : Int))), (1), (0), (0), (0), (0), (t219), (t220), (t221), (t222), (t223), (t220), ((-1)), (t221), (t220), (([] : List (S146))), (.slice none 0 0), (by first | rfl | (simp; done) | (simp [*]; done)), (by first | rfl | (simp; done) | (simp [*]; done)), H', ⟨Nat.le_refl _⟩, ⟨by (with_reducible repeat (first | apply Kd.R_alloc | apply Kd.R_drewN | apply Kd.R_drew)); exact Kd.R_mono (Kd.R_far (p := ⟨gb226, 4, none⟩) (Kd.R_far (p := ⟨gb226, 3, none⟩) (Kd.R_far (p := ⟨gb226, 2, none⟩) (Kd.R_far (p := ⟨gb226, 1, none⟩) (Kd.R_far (p := ⟨gb226, 0, none⟩) (Kd.R_types HO_5.out BK226.out (by decide)) (fun _ hk => hk.2) (.int .i64 t220)) (fun _ hk => hk.2) (.int .i64 (-1))) (fun _ hk => hk.2) (.int .i64 t221)) (fun _ hk => hk.2) (.int .i64 t220)) (fun _ hk => hk.2) (.slice none 0 0)) (fun _ hk => trivial)⟩, ⟨by first | exact Kd.R_nil _ _ _ _ _ | exact Kd.N_nil _ _ _ _ _ | exact Kd.V_nil _ _ _ _ _ | exact Kd.Q_nil _ _ _ _ _ | exact Kd.S_nil _ _ _ _ _⟩, ⟨by (with_reducible repeat first | refine bkN ?_ _ | refine bkD ?_ | refine bkA ?_ _ | refine blk_far ?_ NB213_226.out _); exact BK213.out⟩, ⟨by (with_reducible repeat first | refine bkN ?_ _ | refine bkD ?_ | refine bkA ?_ _ | refine blk_far ?_ NB225_226.out _); exact BK225.out⟩, ⟨by (with_reducible repeat first | refine bkN ?_ _ | refine bkD ?_ | refine bkA ?_ _); refine blk_put (cs := #[.int .i64 t220, .int .i64 (-1), .int .i64 t221, .int .i64 t220, .slice none 0 0]) ?_ 4 _ rfl; (with_reducible repeat first | refine bkN ?_ _ | refine bkD ?_ | refine bkA ?_ _); refine blk_put (cs := #[.int .i64 t220, .int .i64 (-1), .int .i64 t221, .int .i64 0, .slice none 0 0]) ?_ 3 _ rfl; (with_reducible repeat first | refine bkN ?_ _ | refine bkD ?_ | refine bkA ?_ _); refine blk_put (cs := #[.int .i64 t220, .int .i64 (-1), .int .i64 0, .int .i64 0, .slice none 0 0]) ?_ 2 _ rfl; (with_reducible repeat first | refine bkN ?_ _ | refine bkD ?_ | refine bkA ?_ _); refine blk_put (cs := #[.int .i64 t220, .int .i64 0, .int .i64 0, .int .i64 0, .slice none 0 0]) ?_ 1 _ rfl; (with_reducible repeat first | refine bkN ?_ _ | refine bkD ?_ | refine bkA ?_ _); refine blk_put (cs := #[.int .i64 0, .int .i64 0, .int .i64 0, .int .i64 0, .slice none 0 0]) ?_ 0 _ rfl; (with_reducible repeat first | refine bkN ?_ _ | refine bkD ?_ | refine bkA ?_ _); exact BK226.out⟩, ⟨by repeat (first | (with_reducible first | exact HB.out | apply below_alloc | apply pw_below_drewN | apply below_drew1 | refine below_set ?_ GE213.out | refine below_set ?_ GE225.out | refine below_set ?_ GE226.out) | exact HB.out)⟩⟩
       case round =>
        clear H'
        obtain ⟨x10_2, x11_2, x214000_2, x214001_2, x214002_2, x214003_2, x226000_2, x226001_2, x226002_2, x226003_2, x226004_2, x227000_2, x227001_2, x227002_2, x227003_2, x227004_2, u227004, rfl, rfl, HA, HK2, HO_5, HO_227004, BK213, BK225, BK226, HB⟩ := hrel
        cases gk with
        | zero => exact absurd HA.out (by simp [spec_Replay.l0])
        | succ k2 =>
         have H := HA.out; clear HA; simp only [spec_Replay.l0] at H
         by_cases c31 : x11_2 < (t214.length : Int)
         ·rw [if_pos c31] at H
          have c31b0 : decide (x11_2 < (t214.length : Int)) = true := decide_eq_true c31
          clear c31
          by_cases c32 : 0 ≤ x11_2
          ·rw [if_pos c32] at H
           have c32b0 : decide (0 ≤ x11_2) = true := decide_eq_true c32
           clear c32; replace H := Option.bind_eq_some_iff.mp H
           obtain ⟨⟨t229, t230, t231, t232, t233, t234⟩, A330, H⟩ := H
           replace H : ((spec_WalStep.f k2 x227000_2 x227001_2 x227002_2 x227003_2 x227004_2 t229 t230 t231 t232 t233).bind fun bt235 => (if t234 = true then (if bt235.2.2.2.2.2 = true then (spec_Replay.l0 k2 t214 (wrap64 ((wrap64 (x10_2 + 8)) + ((rdOf ByteArray.empty t214 x11_2).size : Int))) (wrap64 (x11_2 + 1)) bt235.1 bt235.2.1 bt235.2.2.1 bt235.2.2.2.1 bt235.2.2.2.2.1) else (some (x227000_2, x227001_2, x227002_2, x227003_2, x227004_2, x10_2, true))) else (some (x227000_2, x227001_2, x227002_2, x227003_2, x227004_2, x10_2, true)))) = some (r1, r2, r3, r4, r5, r6, r7) := H
           have A33 := Aside0.mk A330
           clear A330; replace H := Option.bind_eq_some_iff.mp H
           obtain ⟨⟨t235, t236, t237, t238, t239, t242⟩, A340, H⟩ := H
           replace H : (if t234 = true then (if t242 = true then (spec_Replay.l0 k2 t214 (wrap64 ((wrap64 (x10_2 + 8)) + ((rdOf ByteArray.empty t214 x11_2).size : Int))) (wrap64 (x11_2 + 1)) t235 t236 t237 t238 t239) else (some (x227000_2, x227001_2, x227002_2, x227003_2, x227004_2, x10_2, true))) else (some (x227000_2, x227001_2, x227002_2, x227003_2, x227004_2, x10_2, true))) = some (r1, r2, r3, r4, r5, r6, r7) := H
           have A34 := Aside0.mk A340
           clear A340
           by_cases c35 : t234 = true
           ·subst c35
            have H1 : (if t242 = true then (spec_Replay.l0 k2 t214 (wrap64 ((wrap64 (x10_2 + 8)) + ((rdOf ByteArray.empty t214 x11_2).size : Int))) (wrap64 (x11_2 + 1)) t235 t236 t237 t238 t239) else (some (x227000_2, x227001_2, x227002_2, x227003_2, x227004_2, x10_2, true))) = some (r1, r2, r3, r4, r5, r6, r7) := by rw [if_pos rfl] at H; exact H
            clear H; have H := H1
            clear H1
            by_cases c36 : t242 = true
            ·subst c36
             have H1 : (spec_Replay.l0 k2 t214 (wrap64 ((wrap64 (x10_2 + 8)) + ((rdOf ByteArray.empty t214 x11_2).size : Int))) (wrap64 (x11_2 + 1)) t235 t236 t237 t238 t239) = some (r1, r2, r3, r4, r5, r6, r7) := by rw [if_pos rfl] at H; exact H
             clear H; have H := H1
             clear H1; have H' := Aside0.mk H
             clear H; have p228 : 0 ≤ (x11_2 : Int) := of_decide_eq_true (by first | (with_reducible assumption) | assumption)
             have q228 : x11_2 < (t214.length : Int) := of_decide_eq_true (by first | (with_reducible assumption) | assumption)
             obtain ⟨ad228, e228, hx228_0⟩ := Kd.at_string (Kd.R_reads' HO_5.out).2.2 x11_2 p228 q228
             obtain rfl : ad218 = ad228 := (by injection e228)
             replace p228 := eq_true p228
             replace q228 := eq_true q228
             go_wp2_with (first | ((with_reducible refine gate_callee (f := 77) rfl ?_); refine goesL_ (some 61) rfl rfl Try.func77 (by kernel_rfl) rfl #[.string (rdOf ByteArray.empty t214 x11_2)] rfl (by (try simp only [List.map_toArray, List.map_cons, List.map_nil]); first | done | rfl | (simp only [List.length_drop, List.length_take]; rfl)) ?_; (with_reducible refine (spec_ReadRec.calls k2 (rdOf ByteArray.empty t214 x11_2) t229 t230 t231 t232 t233 true _ A33.out).mono ?_); rintro e w37 ⟨rfl, hb⟩; refine ⟨_, rfl, ?_⟩; replace HO_5 := Aside0.mk (Kd.R_below (rr HO_5) hb); replace HO_227004 := Aside0.mk (Kd.R_below (rr HO_227004) hb); replace BK213 := bq BK213 hb; replace BK225 := bq BK225 hb; replace BK226 := bq BK226 hb; replace HB := bh HB hb; (try clear hb); (try clear hb2); (try clear hk); (try clear hi); have hnb38 := NB225_213.out; have hnc38 := NB213_225.out; have hnb39 := NB225_226.out; have hnc39 := NB226_225.out; obtain ⟨hcz40_0, hcz40_1, hcz40_2, hcz40_3, hcz40_4⟩ := cs5 BK225; obtain ⟨hfz40_0, hfz40_1, hfz40_2, hfz40_3, hfz40_4⟩ := fs5 BK225; have hnb41 := NB226_213.out; have hnc41 := NB213_226.out; obtain ⟨hcz42_0, hcz42_1, hcz42_2, hcz42_3, hcz42_4⟩ := cs5 BK226; obtain ⟨hfz42_0, hfz42_1, hfz42_2, hfz42_3, hfz42_4⟩ := fs5 BK226; obtain ⟨Ao43, co43, eo43⟩ := Kd.R_slice HO_227004.out; subst eo43) | ((with_reducible refine gate_callee (f := 78) rfl ?_); refine goesL_ (some 67) rfl rfl Try.func78 (by kernel_rfl) rfl #[.agg #[.int .i64 x227000_2, .int .i64 x227001_2, .int .i64 x227002_2, .int .i64 x227003_2, .slice Ao43 x227004_2.length co43], .agg #[.int .i64 t229, .int .i64 t230, .int .i64 t231, .int .i64 t232, .string t233]] rfl (by (try simp only [List.map_toArray, List.map_cons, List.map_nil]); first | done | rfl | (simp only [List.length_drop, List.length_take]; rfl)) ?_; (with_reducible refine (spec_WalStep.calls k2 x227000_2 x227001_2 x227002_2 x227003_2 _ _ x227004_2 t229 t230 t231 t232 t233 t235 t236 t237 t238 t239 true _ ?side1 ?side2 A34.out).mono ?_); (case side1 => refine (Kd.R_reads' (e := 146) (base := w.heap.size) (ok := fun k_ => True) (n := x227004_2.length) (c := co43) ?_).2.2; exact (by (with_reducible repeat (first | apply Kd.R_alloc | apply Kd.R_drewN | apply Kd.R_drew)); exact (Kd.R_mono (Kd.R_far (p := ⟨gb225, 4, none⟩) (Kd.R_far (p := ⟨gb225, 3, none⟩) (Kd.R_far (p := ⟨gb225, 2, none⟩) (Kd.R_far (p := ⟨gb225, 1, none⟩) (Kd.R_far (p := ⟨gb225, 0, none⟩) (Kd.R_types HO_227004.out BK225.out (by decide)) (fun _ hk => hk.2) (.int .i64 t229)) (fun _ hk => hk.2) (.int .i64 t230)) (fun _ hk => hk.2) (.int .i64 t231)) (fun _ hk => hk.2) (.int .i64 t232)) (fun _ hk => hk.2) (.string t233)) (fun _ h_ => h_.1)))); (case side2 => exact (Kd.R_reads' HO_227004.out).2.1); rintro e w44 ⟨v240, rfl, ho0, hb⟩; refine ⟨_, rfl, ?_⟩; have n0_ := Aside0.mk (Kd.R_below (by (with_reducible repeat (first | apply Kd.R_alloc | apply Kd.R_drewN | apply Kd.R_drew)); exact (Kd.R_mono (Kd.R_far (p := ⟨gb225, 4, none⟩) (Kd.R_far (p := ⟨gb225, 3, none⟩) (Kd.R_far (p := ⟨gb225, 2, none⟩) (Kd.R_far (p := ⟨gb225, 1, none⟩) (Kd.R_far (p := ⟨gb225, 0, none⟩) (Kd.R_types HO_5.out BK225.out (by decide)) (fun _ hk => hk.2) (.int .i64 t229)) (fun _ hk => hk.2) (.int .i64 t230)) (fun _ hk => hk.2) (.int .i64 t231)) (fun _ hk => hk.2) (.int .i64 t232)) (fun _ hk => hk.2) (.string t233)) (fun _ h_ => h_.1))) hb); have n1_ := Aside0.mk (Kd.R_elder' (by (with_reducible repeat (first | apply Kd.R_alloc | apply Kd.R_drewN | apply Kd.R_drew)); exact (Kd.R_mono (Kd.R_far (p := ⟨gb225, 4, none⟩) (Kd.R_far (p := ⟨gb225, 3, none⟩) (Kd.R_far (p := ⟨gb225, 2, none⟩) (Kd.R_far (p := ⟨gb225, 1, none⟩) (Kd.R_far (p := ⟨gb225, 0, none⟩) (Kd.R_types HO_227004.out BK225.out (by decide)) (fun _ hk => hk.2) (.int .i64 t229)) (fun _ hk => hk.2) (.int .i64 t230)) (fun _ hk => hk.2) (.int .i64 t231)) (fun _ hk => hk.2) (.int .i64 t232)) (fun _ hk => hk.2) (.string t233)) (fun _ h_ => h_.1))) (Kd.R_base ho0) hb); have n3_ := bf BK213 hb; have n4_ := bp #[.int .i64 t229, .int .i64 t230, .int .i64 t231, .int .i64 t232, .string t233] BK225 hb; have n5_ := bf BK226 hb; have HO241 := Aside0.mk (Kd.R_lower (Kd.R_new' ho0 (Kd.R_lt (by (with_reducible repeat (first | apply Kd.R_alloc | apply Kd.R_drewN | apply Kd.R_drew)); exact (Kd.R_mono (Kd.R_far (p := ⟨gb225, 4, none⟩) (Kd.R_far (p := ⟨gb225, 3, none⟩) (Kd.R_far (p := ⟨gb225, 2, none⟩) (Kd.R_far (p := ⟨gb225, 1, none⟩) (Kd.R_far (p := ⟨gb225, 0, none⟩) (Kd.R_types HO_227004.out BK225.out (by decide)) (fun _ hk => hk.2) (.int .i64 t229)) (fun _ hk => hk.2) (.int .i64 t230)) (fun _ hk => hk.2) (.int .i64 t231)) (fun _ hk => hk.2) (.int .i64 t232)) (fun _ hk => hk.2) (.string t233)) (fun _ h_ => h_.1))))) (below_size (be HB))); replace HB := bh HB hb; clear HO_5 HO_227004 BK213 BK225 BK226; have HO_5 := n0_; have HO_227004 := n1_; have BK213 := n3_; have BK225 := n4_; have BK226 := n5_; clear n0_ n1_ n3_ n4_ n5_; (try clear hb); (try clear hb2); (try clear hk); (try clear hi)) | ((with_reducible refine gate_dst (N := 12) rfl ?_); refine box_event ?hg (N := 12) ?hd (cs := #[.int .i64 0, .int .i64 0, .int .i64 0, .int .i64 0, .slice none 0 0]) (t := 50) ?hr ?_; (case hd => rfl); (case hg => rfl); (case hr => first | (go_simp; done) | (go_simp; rfl)); intro gb243 hg w45 hbox hb; have BK243 := Aside0.mk (hbox); have GW243 := bs HB hg; have GE243 := bs HB hg; have NB213_243 := bl BK213 hg; have NB243_213 := bg BK213 hg; have NB225_243 := bl BK225 hg; have NB243_225 := bg BK225 hg; have NB226_243 := bl BK226 hg; have NB243_226 := bg BK226 hg; replace HO_5 := Aside0.mk (Kd.R_below (rr HO_5) hb); replace HO_227004 := Aside0.mk (Kd.R_below (rr HO_227004) hb); replace HO241 := Aside0.mk (Kd.R_below (rr HO241) hb); replace BK213 := bq BK213 hb; replace BK225 := bq BK225 hb; replace BK226 := bq BK226 hb; replace HB := bh HB hb; clear hb hbox hg; have hnb46 := NB243_213.out; have hnc46 := NB213_243.out; have hnb47 := NB243_225.out; have hnc47 := NB225_243.out; have hnb48 := NB243_226.out; have hnc48 := NB226_243.out; obtain ⟨hcz49_0, hcz49_1, hcz49_2, hcz49_3, hcz49_4⟩ := cs5 BK243; obtain ⟨hfz49_0, hfz49_1, hfz49_2, hfz49_3, hfz49_4⟩ := fs5 BK243; obtain ⟨Ao50, co50, eo50⟩ := Kd.R_slice HO241.out; subst eo50; obtain ⟨hcz51_0, hcz51_1, hcz51_2, hcz51_3, hcz51_4⟩ := cs5 BK226; obtain ⟨hfz51_0, hfz51_1, hfz51_2, hfz51_3, hfz51_4⟩ := fs5 BK226; have p244 : 0 ≤ (x11_2 : Int) := of_decide_eq_true (by first | (with_reducible assumption) | assumption); have q244 : x11_2 < (t214.length : Int) := of_decide_eq_true (by first | (with_reducible assumption) | assumption); obtain ⟨ad244, e244, hx244_0⟩ := Kd.at_string (Kd.R_reads' HO_5.out).2.2 x11_2 p244 q244; obtain rfl : ad218 = ad244 := (by injection e244); have hn244_0 : ad218.block ≠ gb243 := Kd.own_blk (Kd.R_ne HO_5.out BK243.out (by decide)); have hn244_1 : ad218.block ≠ gb243 := Kd.own_blk (Kd.R_ne HO_5.out BK243.out (by decide)); have hn244_2 : ad218.block ≠ gb243 := Kd.own_blk (Kd.R_ne HO_5.out BK243.out (by decide)); have hn244_3 : ad218.block ≠ gb243 := Kd.own_blk (Kd.R_ne HO_5.out BK243.out (by decide)); have hn244_4 : ad218.block ≠ gb243 := Kd.own_blk (Kd.R_ne HO_5.out BK243.out (by decide)); have hn244_5 : ad218.block ≠ gb226 := Kd.own_blk (Kd.R_ne HO_5.out BK226.out (by decide)); have hn244_6 : ad218.block ≠ gb226 := Kd.own_blk (Kd.R_ne HO_5.out BK226.out (by decide)); have hn244_7 : ad218.block ≠ gb226 := Kd.own_blk (Kd.R_ne HO_5.out BK226.out (by decide)); have hn244_8 : ad218.block ≠ gb226 := Kd.own_blk (Kd.R_ne HO_5.out BK226.out (by decide)); have hn244_9 : ad218.block ≠ gb226 := Kd.own_blk (Kd.R_ne HO_5.out BK226.out (by decide)); replace hx244_0 := (cell_far (p := ⟨gb243, 0, none⟩) (by first | (rw [add_block]; exact hn244_0) | (show (Addr.add _ _).block ≠ _; rw [add_block]; exact hn244_0) | exact hn244_0) (.int .i64 t235)).trans hx244_0; replace hx244_0 := (cell_far (p := ⟨gb243, 1, none⟩) (by first | (rw [add_block]; exact hn244_1) | (show (Addr.add _ _).block ≠ _; rw [add_block]; exact hn244_1) | exact hn244_1) (.int .i64 t236)).trans hx244_0; replace hx244_0 := (cell_far (p := ⟨gb243, 2, none⟩) (by first | (rw [add_block]; exact hn244_2) | (show (Addr.add _ _).block ≠ _; rw [add_block]; exact hn244_2) | exact hn244_2) (.int .i64 t237)).trans hx244_0; replace hx244_0 := (cell_far (p := ⟨gb243, 3, none⟩) (by first | (rw [add_block]; exact hn244_3) | (show (Addr.add _ _).block ≠ _; rw [add_block]; exact hn244_3) | exact hn244_3) (.int .i64 t238)).trans hx244_0; replace hx244_0 := (cell_far (p := ⟨gb243, 4, none⟩) (by first | (rw [add_block]; exact hn244_4) | (show (Addr.add _ _).block ≠ _; rw [add_block]; exact hn244_4) | exact hn244_4) (.slice Ao50 t239.length co50)).trans hx244_0; replace hx244_0 := (cell_far (p := ⟨gb226, 0, none⟩) (by first | (rw [add_block]; exact hn244_5) | (show (Addr.add _ _).block ≠ _; rw [add_block]; exact hn244_5) | exact hn244_5) (.int .i64 t235)).trans hx244_0; replace hx244_0 := (cell_far (p := ⟨gb226, 1, none⟩) (by first | (rw [add_block]; exact hn244_6) | (show (Addr.add _ _).block ≠ _; rw [add_block]; exact hn244_6) | exact hn244_6) (.int .i64 t236)).trans hx244_0; replace hx244_0 := (cell_far (p := ⟨gb226, 2, none⟩) (by first | (rw [add_block]; exact hn244_7) | (show (Addr.add _ _).block ≠ _; rw [add_block]; exact hn244_7) | exact hn244_7) (.int .i64 t237)).trans hx244_0; replace hx244_0 := (cell_far (p := ⟨gb226, 3, none⟩) (by first | (rw [add_block]; exact hn244_8) | (show (Addr.add _ _).block ≠ _; rw [add_block]; exact hn244_8) | exact hn244_8) (.int .i64 t238)).trans hx244_0; replace hx244_0 := (cell_far (p := ⟨gb226, 4, none⟩) (by first | (rw [add_block]; exact hn244_9) | (show (Addr.add _ _).block ≠ _; rw [add_block]; exact hn244_9) | exact hn244_9) (.slice Ao50 t239.length co50)).trans hx244_0; clear hn244_0; clear hn244_1; clear hn244_2; clear hn244_3; clear hn244_4; clear hn244_5; clear hn244_6; clear hn244_7; clear hn244_8; clear hn244_9; replace p244 := eq_true p244; replace q244 := eq_true q244))
             go_roundg k2
             case measure => have := HJ9.out; have := HK2.out; omega
             case rel => exact ⟨(wrap64 ((wrap64 (x10_2 + 8)) + ((rdOf ByteArray.empty t214 x11_2).size : Int))), (wrap64 (x11_2 + 1)), (x214000_2), (x214001_2), (x214002_2), (x214003_2), (t229), (t230), (t231), (t232), (t233), (t235), (t236), (t237), (t238), (t239), (.slice Ao50 t239.length co50), (by first | rfl | (simp; done) | (simp [*]; done)), (by first | rfl | (simp; done) | (simp [*]; done)), H', ⟨by have := HJ9.out; have := HK2.out; omega⟩, ⟨by (with_reducible repeat (first | apply Kd.R_alloc | apply Kd.R_drewN | apply Kd.R_drew)); exact Kd.R_mono (Kd.R_far (p := ⟨gb226, 4, none⟩) (Kd.R_far (p := ⟨gb226, 3, none⟩) (Kd.R_far (p := ⟨gb226, 2, none⟩) (Kd.R_far (p := ⟨gb226, 1, none⟩) (Kd.R_far (p := ⟨gb226, 0, none⟩) (Kd.R_far (p := ⟨gb243, 4, none⟩) (Kd.R_far (p := ⟨gb243, 3, none⟩) (Kd.R_far (p := ⟨gb243, 2, none⟩) (Kd.R_far (p := ⟨gb243, 1, none⟩) (Kd.R_far (p := ⟨gb243, 0, none⟩) (Kd.R_types (Kd.R_types HO_5.out BK243.out (by decide)) BK226.out (by decide)) (fun _ hk => hk.1.2) (.int .i64 t235)) (fun _ hk => hk.1.2) (.int .i64 t236)) (fun _ hk => hk.1.2) (.int .i64 t237)) (fun _ hk => hk.1.2) (.int .i64 t238)) (fun _ hk => hk.1.2) (.slice Ao50 t239.length co50)) (fun _ hk => hk.2) (.int .i64 t235)) (fun _ hk => hk.2) (.int .i64 t236)) (fun _ hk => hk.2) (.int .i64 t237)) (fun _ hk => hk.2) (.int .i64 t238)) (fun _ hk => hk.2) (.slice Ao50 t239.length co50)) (fun _ hk => trivial)⟩, ⟨by (with_reducible repeat (first | apply Kd.R_alloc | apply Kd.R_drewN | apply Kd.R_drew)); exact Kd.R_mono (Kd.R_far (p := ⟨gb226, 4, none⟩) (Kd.R_far (p := ⟨gb226, 3, none⟩) (Kd.R_far (p := ⟨gb226, 2, none⟩) (Kd.R_far (p := ⟨gb226, 1, none⟩) (Kd.R_far (p := ⟨gb226, 0, none⟩) (Kd.R_far (p := ⟨gb243, 4, none⟩) (Kd.R_far (p := ⟨gb243, 3, none⟩) (Kd.R_far (p := ⟨gb243, 2, none⟩) (Kd.R_far (p := ⟨gb243, 1, none⟩) (Kd.R_far (p := ⟨gb243, 0, none⟩) (Kd.R_types (Kd.R_types HO241.out BK243.out (by decide)) BK226.out (by decide)) (fun _ hk => hk.1.2) (.int .i64 t235)) (fun _ hk => hk.1.2) (.int .i64 t236)) (fun _ hk => hk.1.2) (.int .i64 t237)) (fun _ hk => hk.1.2) (.int .i64 t238)) (fun _ hk => hk.1.2) (.slice Ao50 t239.length co50)) (fun _ hk => hk.2) (.int .i64 t235)) (fun _ hk => hk.2) (.int .i64 t236)) (fun _ hk => hk.2) (.int .i64 t237)) (fun _ hk => hk.2) (.int .i64 t238)) (fun _ hk => hk.2) (.slice Ao50 t239.length co50)) (fun _ hk => trivial)⟩, ⟨by (with_reducible repeat first | refine bkN ?_ _ | refine bkD ?_ | refine bkA ?_ _ | refine blk_far ?_ NB213_226.out _); refine blk_far ?_ NB213_243.out _; (with_reducible repeat first | refine bkN ?_ _ | refine bkD ?_ | refine bkA ?_ _ | refine blk_far ?_ NB213_243.out _); exact BK213.out⟩, ⟨by (with_reducible repeat first | refine bkN ?_ _ | refine bkD ?_ | refine bkA ?_ _ | refine blk_far ?_ NB225_226.out _); refine blk_far ?_ NB225_243.out _; (with_reducible repeat first | refine bkN ?_ _ | refine bkD ?_ | refine bkA ?_ _ | refine blk_far ?_ NB225_243.out _); exact BK225.out⟩, ⟨by (with_reducible repeat first | refine bkN ?_ _ | refine bkD ?_ | refine bkA ?_ _); refine blk_put (cs := #[.int .i64 t235, .int .i64 t236, .int .i64 t237, .int .i64 t238, .slice Ao43 x227004_2.length co43]) ?_ 4 _ rfl; (with_reducible repeat first | refine bkN ?_ _ | refine bkD ?_ | refine bkA ?_ _); refine blk_put (cs := #[.int .i64 t235, .int .i64 t236, .int .i64 t237, .int .i64 x227003_2, .slice Ao43 x227004_2.length co43]) ?_ 3 _ rfl; (with_reducible repeat first | refine bkN ?_ _ | refine bkD ?_ | refine bkA ?_ _); refine blk_put (cs := #[.int .i64 t235, .int .i64 t236, .int .i64 x227002_2, .int .i64 x227003_2, .slice Ao43 x227004_2.length co43]) ?_ 2 _ rfl; (with_reducible repeat first | refine bkN ?_ _ | refine bkD ?_ | refine bkA ?_ _); refine blk_put (cs := #[.int .i64 t235, .int .i64 x227001_2, .int .i64 x227002_2, .int .i64 x227003_2, .slice Ao43 x227004_2.length co43]) ?_ 1 _ rfl; (with_reducible repeat first | refine bkN ?_ _ | refine bkD ?_ | refine bkA ?_ _); refine blk_put (cs := #[.int .i64 x227000_2, .int .i64 x227001_2, .int .i64 x227002_2, .int .i64 x227003_2, .slice Ao43 x227004_2.length co43]) ?_ 0 _ rfl; (with_reducible repeat first | refine bkN ?_ _ | refine bkD ?_ | refine bkA ?_ _ | refine blk_far ?_ NB226_243.out _); exact BK226.out⟩, ⟨by repeat (first | (with_reducible first | exact HB.out | apply below_alloc | apply pw_below_drewN | apply below_drew1 | refine below_set ?_ GE213.out | refine below_set ?_ GE225.out | refine below_set ?_ GE226.out | refine below_set ?_ GE243.out) | exact HB.out)⟩⟩
            ·replace c36 := Bool.eq_false_iff.mpr c36
             subst c36
             have H1 : (some (x227000_2, x227001_2, x227002_2, x227003_2, x227004_2, x10_2, true)) = some (r1, r2, r3, r4, r5, r6, r7) := by rw [if_neg (show ¬ (false = true) by decide)] at H; exact H
             clear H; have H := H1
             clear H1; simp only [Option.some.injEq, Prod.mk.injEq] at H
             obtain ⟨rfl, rfl, rfl, rfl, rfl, rfl, rfl⟩ := H
             have p228 : 0 ≤ (x11_2 : Int) := of_decide_eq_true (by first | (with_reducible assumption) | assumption)
             have q228 : x11_2 < (t214.length : Int) := of_decide_eq_true (by first | (with_reducible assumption) | assumption)
             obtain ⟨ad228, e228, hx228_0⟩ := Kd.at_string (Kd.R_reads' HO_5.out).2.2 x11_2 p228 q228
             obtain rfl : ad218 = ad228 := (by injection e228)
             replace p228 := eq_true p228
             replace q228 := eq_true q228
             go_wp2_with (first | ((with_reducible refine gate_callee (f := 77) rfl ?_); refine goesL_ (some 61) rfl rfl Try.func77 (by kernel_rfl) rfl #[.string (rdOf ByteArray.empty t214 x11_2)] rfl (by (try simp only [List.map_toArray, List.map_cons, List.map_nil]); first | done | rfl | (simp only [List.length_drop, List.length_take]; rfl)) ?_; (with_reducible refine (spec_ReadRec.calls k2 (rdOf ByteArray.empty t214 x11_2) t229 t230 t231 t232 t233 true _ A33.out).mono ?_); rintro e w52 ⟨rfl, hb⟩; refine ⟨_, rfl, ?_⟩; replace HO_5 := Aside0.mk (Kd.R_below (rr HO_5) hb); replace HO_227004 := Aside0.mk (Kd.R_below (rr HO_227004) hb); replace BK213 := bq BK213 hb; replace BK225 := bq BK225 hb; replace BK226 := bq BK226 hb; replace HB := bh HB hb; (try clear hb); (try clear hb2); (try clear hk); (try clear hi); have hnb53 := NB225_213.out; have hnc53 := NB213_225.out; have hnb54 := NB225_226.out; have hnc54 := NB226_225.out; obtain ⟨hcz55_0, hcz55_1, hcz55_2, hcz55_3, hcz55_4⟩ := cs5 BK225; obtain ⟨hfz55_0, hfz55_1, hfz55_2, hfz55_3, hfz55_4⟩ := fs5 BK225; have hnb56 := NB226_213.out; have hnc56 := NB213_226.out; obtain ⟨hcz57_0, hcz57_1, hcz57_2, hcz57_3, hcz57_4⟩ := cs5 BK226; obtain ⟨hfz57_0, hfz57_1, hfz57_2, hfz57_3, hfz57_4⟩ := fs5 BK226; obtain ⟨Ao58, co58, eo58⟩ := Kd.R_slice HO_227004.out; subst eo58) | ((with_reducible refine gate_callee (f := 78) rfl ?_); refine goesL_ (some 67) rfl rfl Try.func78 (by kernel_rfl) rfl #[.agg #[.int .i64 x227000_2, .int .i64 x227001_2, .int .i64 x227002_2, .int .i64 x227003_2, .slice Ao58 x227004_2.length co58], .agg #[.int .i64 t229, .int .i64 t230, .int .i64 t231, .int .i64 t232, .string t233]] rfl (by (try simp only [List.map_toArray, List.map_cons, List.map_nil]); first | done | rfl | (simp only [List.length_drop, List.length_take]; rfl)) ?_; (with_reducible refine (spec_WalStep.calls k2 x227000_2 x227001_2 x227002_2 x227003_2 _ _ x227004_2 t229 t230 t231 t232 t233 t235 t236 t237 t238 t239 false _ ?side1 ?side2 A34.out).mono ?_); (case side1 => refine (Kd.R_reads' (e := 146) (base := w.heap.size) (ok := fun k_ => True) (n := x227004_2.length) (c := co58) ?_).2.2; exact (by (with_reducible repeat (first | apply Kd.R_alloc | apply Kd.R_drewN | apply Kd.R_drew)); exact (Kd.R_mono (Kd.R_far (p := ⟨gb225, 4, none⟩) (Kd.R_far (p := ⟨gb225, 3, none⟩) (Kd.R_far (p := ⟨gb225, 2, none⟩) (Kd.R_far (p := ⟨gb225, 1, none⟩) (Kd.R_far (p := ⟨gb225, 0, none⟩) (Kd.R_types HO_227004.out BK225.out (by decide)) (fun _ hk => hk.2) (.int .i64 t229)) (fun _ hk => hk.2) (.int .i64 t230)) (fun _ hk => hk.2) (.int .i64 t231)) (fun _ hk => hk.2) (.int .i64 t232)) (fun _ hk => hk.2) (.string t233)) (fun _ h_ => h_.1)))); (case side2 => exact (Kd.R_reads' HO_227004.out).2.1); rintro e w59 ⟨v240, rfl, ho0, hb⟩; refine ⟨_, rfl, ?_⟩; have n0_ := Aside0.mk (Kd.R_below (by (with_reducible repeat (first | apply Kd.R_alloc | apply Kd.R_drewN | apply Kd.R_drew)); exact (Kd.R_mono (Kd.R_far (p := ⟨gb225, 4, none⟩) (Kd.R_far (p := ⟨gb225, 3, none⟩) (Kd.R_far (p := ⟨gb225, 2, none⟩) (Kd.R_far (p := ⟨gb225, 1, none⟩) (Kd.R_far (p := ⟨gb225, 0, none⟩) (Kd.R_types HO_5.out BK225.out (by decide)) (fun _ hk => hk.2) (.int .i64 t229)) (fun _ hk => hk.2) (.int .i64 t230)) (fun _ hk => hk.2) (.int .i64 t231)) (fun _ hk => hk.2) (.int .i64 t232)) (fun _ hk => hk.2) (.string t233)) (fun _ h_ => h_.1))) hb); have n1_ := Aside0.mk (Kd.R_elder' (by (with_reducible repeat (first | apply Kd.R_alloc | apply Kd.R_drewN | apply Kd.R_drew)); exact (Kd.R_mono (Kd.R_far (p := ⟨gb225, 4, none⟩) (Kd.R_far (p := ⟨gb225, 3, none⟩) (Kd.R_far (p := ⟨gb225, 2, none⟩) (Kd.R_far (p := ⟨gb225, 1, none⟩) (Kd.R_far (p := ⟨gb225, 0, none⟩) (Kd.R_types HO_227004.out BK225.out (by decide)) (fun _ hk => hk.2) (.int .i64 t229)) (fun _ hk => hk.2) (.int .i64 t230)) (fun _ hk => hk.2) (.int .i64 t231)) (fun _ hk => hk.2) (.int .i64 t232)) (fun _ hk => hk.2) (.string t233)) (fun _ h_ => h_.1))) (Kd.R_base ho0) hb); have n3_ := bf BK213 hb; have n4_ := bp #[.int .i64 t229, .int .i64 t230, .int .i64 t231, .int .i64 t232, .string t233] BK225 hb; have n5_ := bf BK226 hb; have HO241 := Aside0.mk (Kd.R_lower (Kd.R_new' ho0 (Kd.R_lt (by (with_reducible repeat (first | apply Kd.R_alloc | apply Kd.R_drewN | apply Kd.R_drew)); exact (Kd.R_mono (Kd.R_far (p := ⟨gb225, 4, none⟩) (Kd.R_far (p := ⟨gb225, 3, none⟩) (Kd.R_far (p := ⟨gb225, 2, none⟩) (Kd.R_far (p := ⟨gb225, 1, none⟩) (Kd.R_far (p := ⟨gb225, 0, none⟩) (Kd.R_types HO_227004.out BK225.out (by decide)) (fun _ hk => hk.2) (.int .i64 t229)) (fun _ hk => hk.2) (.int .i64 t230)) (fun _ hk => hk.2) (.int .i64 t231)) (fun _ hk => hk.2) (.int .i64 t232)) (fun _ hk => hk.2) (.string t233)) (fun _ h_ => h_.1))))) (below_size (be HB))); replace HB := bh HB hb; clear HO_5 HO_227004 BK213 BK225 BK226; have HO_5 := n0_; have HO_227004 := n1_; have BK213 := n3_; have BK225 := n4_; have BK226 := n5_; clear n0_ n1_ n3_ n4_ n5_; (try clear hb); (try clear hb2); (try clear hk); (try clear hi)) | ((with_reducible refine gate_dst (N := 12) rfl ?_); refine box_event ?hg (N := 12) ?hd (cs := #[.int .i64 0, .int .i64 0, .int .i64 0, .int .i64 0, .slice none 0 0]) (t := 50) ?hr ?_; (case hd => rfl); (case hg => rfl); (case hr => first | (go_simp; done) | (go_simp; rfl)); intro gb243 hg w60 hbox hb; have BK243 := Aside0.mk (hbox); have GW243 := bs HB hg; have GE243 := bs HB hg; have NB213_243 := bl BK213 hg; have NB243_213 := bg BK213 hg; have NB225_243 := bl BK225 hg; have NB243_225 := bg BK225 hg; have NB226_243 := bl BK226 hg; have NB243_226 := bg BK226 hg; replace HO_5 := Aside0.mk (Kd.R_below (rr HO_5) hb); replace HO_227004 := Aside0.mk (Kd.R_below (rr HO_227004) hb); replace HO241 := Aside0.mk (Kd.R_below (rr HO241) hb); replace BK213 := bq BK213 hb; replace BK225 := bq BK225 hb; replace BK226 := bq BK226 hb; replace HB := bh HB hb; clear hb hbox hg; have hnb61 := NB243_213.out; have hnc61 := NB213_243.out; have hnb62 := NB243_225.out; have hnc62 := NB225_243.out; have hnb63 := NB243_226.out; have hnc63 := NB226_243.out; obtain ⟨hcz64_0, hcz64_1, hcz64_2, hcz64_3, hcz64_4⟩ := cs5 BK243; obtain ⟨hfz64_0, hfz64_1, hfz64_2, hfz64_3, hfz64_4⟩ := fs5 BK243; obtain ⟨Ao65, co65, eo65⟩ := Kd.R_slice HO241.out; subst eo65; obtain ⟨hcz66_0, hcz66_1, hcz66_2, hcz66_3, hcz66_4⟩ := cs5 BK226; obtain ⟨hfz66_0, hfz66_1, hfz66_2, hfz66_3, hfz66_4⟩ := fs5 BK226; obtain ⟨hcz67_0, hcz67_1, hcz67_2, hcz67_3, hcz67_4⟩ := cs5 BK213; obtain ⟨hfz67_0, hfz67_1, hfz67_2, hfz67_3, hfz67_4⟩ := fs5 BK213))
             refine bodyPost_ret (results_ctt rfl _ _ gb213 50 #[.int .i64 x227000_2, .int .i64 x227001_2, .int .i64 x227002_2, .int .i64 x227003_2, .slice Ao58 x227004_2.length co58] (0, 0) _ rfl (by (with_reducible repeat first | refine bkN ?_ _ | refine bkD ?_ | refine bkA ?_ _); refine blk_put (cs := #[.int .i64 x227000_2, .int .i64 x227001_2, .int .i64 x227002_2, .int .i64 x227003_2, .slice none 0 0]) ?_ 4 _ rfl; (with_reducible repeat first | refine bkN ?_ _ | refine bkD ?_ | refine bkA ?_ _); refine blk_put (cs := #[.int .i64 x227000_2, .int .i64 x227001_2, .int .i64 x227002_2, .int .i64 x214003_2, .slice none 0 0]) ?_ 3 _ rfl; (with_reducible repeat first | refine bkN ?_ _ | refine bkD ?_ | refine bkA ?_ _); refine blk_put (cs := #[.int .i64 x227000_2, .int .i64 x227001_2, .int .i64 x214002_2, .int .i64 x214003_2, .slice none 0 0]) ?_ 2 _ rfl; (with_reducible repeat first | refine bkN ?_ _ | refine bkD ?_ | refine bkA ?_ _); refine blk_put (cs := #[.int .i64 x227000_2, .int .i64 x214001_2, .int .i64 x214002_2, .int .i64 x214003_2, .slice none 0 0]) ?_ 1 _ rfl; (with_reducible repeat first | refine bkN ?_ _ | refine bkD ?_ | refine bkA ?_ _); refine blk_put (cs := #[.int .i64 x214000_2, .int .i64 x214001_2, .int .i64 x214002_2, .int .i64 x214003_2, .slice none 0 0]) ?_ 0 _ rfl; (with_reducible repeat first | refine bkN ?_ _ | refine bkD ?_ | refine bkA ?_ _ | refine blk_far ?_ NB213_243.out _); exact BK213.out) Try.underlying50 rfl (by kernel_rfl)) rfl ?_
             exact ⟨_, by first | rfl | (simp [errW_none, errW_some] <;> rfl) | (simp [*, errW_none, errW_some] <;> rfl), by (with_reducible repeat (first | apply Kd.R_alloc | apply Kd.R_drewN | apply Kd.R_drew)); exact Kd.R_mono (Kd.R_far (p := ⟨gb213, 4, none⟩) (Kd.R_far (p := ⟨gb213, 3, none⟩) (Kd.R_far (p := ⟨gb213, 2, none⟩) (Kd.R_far (p := ⟨gb213, 1, none⟩) (Kd.R_far (p := ⟨gb213, 0, none⟩) (Kd.R_far (p := ⟨gb243, 4, none⟩) (Kd.R_far (p := ⟨gb243, 3, none⟩) (Kd.R_far (p := ⟨gb243, 2, none⟩) (Kd.R_far (p := ⟨gb243, 1, none⟩) (Kd.R_far (p := ⟨gb243, 0, none⟩) (Kd.R_types (Kd.R_types HO_227004.out BK243.out (by decide)) BK213.out (by decide)) (fun _ hk => hk.1.2) (.int .i64 t235)) (fun _ hk => hk.1.2) (.int .i64 t236)) (fun _ hk => hk.1.2) (.int .i64 t237)) (fun _ hk => hk.1.2) (.int .i64 t238)) (fun _ hk => hk.1.2) (.slice Ao65 t239.length co65)) (fun _ hk => hk.2) (.int .i64 x227000_2)) (fun _ hk => hk.2) (.int .i64 x227001_2)) (fun _ hk => hk.2) (.int .i64 x227002_2)) (fun _ hk => hk.2) (.int .i64 x227003_2)) (fun _ hk => hk.2) (.slice Ao58 x227004_2.length co58)) (fun _ hk => trivial), by repeat (first | (with_reducible first | exact HB.out | apply below_alloc | apply pw_below_drewN | apply below_drew1 | refine below_set ?_ GE213.out | refine below_set ?_ GE225.out | refine below_set ?_ GE226.out | refine below_set ?_ GE243.out) | exact HB.out)⟩
           ·replace c35 := Bool.eq_false_iff.mpr c35
            subst c35
            have H1 : (some (x227000_2, x227001_2, x227002_2, x227003_2, x227004_2, x10_2, true)) = some (r1, r2, r3, r4, r5, r6, r7) := by rw [if_neg (show ¬ (false = true) by decide)] at H; exact H
            clear H; have H := H1
            clear H1; simp only [Option.some.injEq, Prod.mk.injEq] at H
            obtain ⟨rfl, rfl, rfl, rfl, rfl, rfl, rfl⟩ := H
            have p228 : 0 ≤ (x11_2 : Int) := of_decide_eq_true (by first | (with_reducible assumption) | assumption)
            have q228 : x11_2 < (t214.length : Int) := of_decide_eq_true (by first | (with_reducible assumption) | assumption)
            obtain ⟨ad228, e228, hx228_0⟩ := Kd.at_string (Kd.R_reads' HO_5.out).2.2 x11_2 p228 q228
            obtain rfl : ad218 = ad228 := (by injection e228)
            replace p228 := eq_true p228
            replace q228 := eq_true q228
            go_wp2_with (first | ((with_reducible refine gate_callee (f := 77) rfl ?_); refine goesL_ (some 61) rfl rfl Try.func77 (by kernel_rfl) rfl #[.string (rdOf ByteArray.empty t214 x11_2)] rfl (by (try simp only [List.map_toArray, List.map_cons, List.map_nil]); first | done | rfl | (simp only [List.length_drop, List.length_take]; rfl)) ?_; (with_reducible refine (spec_ReadRec.calls k2 (rdOf ByteArray.empty t214 x11_2) t229 t230 t231 t232 t233 false _ A33.out).mono ?_); rintro e w68 ⟨rfl, hb⟩; refine ⟨_, rfl, ?_⟩; replace HO_5 := Aside0.mk (Kd.R_below (rr HO_5) hb); replace HO_227004 := Aside0.mk (Kd.R_below (rr HO_227004) hb); replace BK213 := bq BK213 hb; replace BK225 := bq BK225 hb; replace BK226 := bq BK226 hb; replace HB := bh HB hb; (try clear hb); (try clear hb2); (try clear hk); (try clear hi); have hnb69 := NB225_213.out; have hnc69 := NB213_225.out; have hnb70 := NB225_226.out; have hnc70 := NB226_225.out; obtain ⟨hcz71_0, hcz71_1, hcz71_2, hcz71_3, hcz71_4⟩ := cs5 BK225; obtain ⟨hfz71_0, hfz71_1, hfz71_2, hfz71_3, hfz71_4⟩ := fs5 BK225; have hnb72 := NB226_213.out; have hnc72 := NB213_226.out; obtain ⟨hcz73_0, hcz73_1, hcz73_2, hcz73_3, hcz73_4⟩ := cs5 BK226; obtain ⟨hfz73_0, hfz73_1, hfz73_2, hfz73_3, hfz73_4⟩ := fs5 BK226; obtain ⟨Ao74, co74, eo74⟩ := Kd.R_slice HO_227004.out; subst eo74) | ((with_reducible refine gate_callee (f := 78) rfl ?_); refine goesL_ (some 67) rfl rfl Try.func78 (by kernel_rfl) rfl #[.agg #[.int .i64 x227000_2, .int .i64 x227001_2, .int .i64 x227002_2, .int .i64 x227003_2, .slice Ao74 x227004_2.length co74], .agg #[.int .i64 t229, .int .i64 t230, .int .i64 t231, .int .i64 t232, .string t233]] rfl (by (try simp only [List.map_toArray, List.map_cons, List.map_nil]); first | done | rfl | (simp only [List.length_drop, List.length_take]; rfl)) ?_; (with_reducible refine (spec_WalStep.calls k2 x227000_2 x227001_2 x227002_2 x227003_2 _ _ x227004_2 t229 t230 t231 t232 t233 t235 t236 t237 t238 t239 t242 _ ?side1 ?side2 A34.out).mono ?_); (case side1 => refine (Kd.R_reads' (e := 146) (base := w.heap.size) (ok := fun k_ => True) (n := x227004_2.length) (c := co74) ?_).2.2; exact (by (with_reducible repeat (first | apply Kd.R_alloc | apply Kd.R_drewN | apply Kd.R_drew)); exact (Kd.R_mono (Kd.R_far (p := ⟨gb225, 4, none⟩) (Kd.R_far (p := ⟨gb225, 3, none⟩) (Kd.R_far (p := ⟨gb225, 2, none⟩) (Kd.R_far (p := ⟨gb225, 1, none⟩) (Kd.R_far (p := ⟨gb225, 0, none⟩) (Kd.R_types HO_227004.out BK225.out (by decide)) (fun _ hk => hk.2) (.int .i64 t229)) (fun _ hk => hk.2) (.int .i64 t230)) (fun _ hk => hk.2) (.int .i64 t231)) (fun _ hk => hk.2) (.int .i64 t232)) (fun _ hk => hk.2) (.string t233)) (fun _ h_ => h_.1)))); (case side2 => exact (Kd.R_reads' HO_227004.out).2.1); rintro e w75 ⟨v240, rfl, ho0, hb⟩; refine ⟨_, rfl, ?_⟩; have n0_ := Aside0.mk (Kd.R_below (by (with_reducible repeat (first | apply Kd.R_alloc | apply Kd.R_drewN | apply Kd.R_drew)); exact (Kd.R_mono (Kd.R_far (p := ⟨gb225, 4, none⟩) (Kd.R_far (p := ⟨gb225, 3, none⟩) (Kd.R_far (p := ⟨gb225, 2, none⟩) (Kd.R_far (p := ⟨gb225, 1, none⟩) (Kd.R_far (p := ⟨gb225, 0, none⟩) (Kd.R_types HO_5.out BK225.out (by decide)) (fun _ hk => hk.2) (.int .i64 t229)) (fun _ hk => hk.2) (.int .i64 t230)) (fun _ hk => hk.2) (.int .i64 t231)) (fun _ hk => hk.2) (.int .i64 t232)) (fun _ hk => hk.2) (.string t233)) (fun _ h_ => h_.1))) hb); have n1_ := Aside0.mk (Kd.R_elder' (by (with_reducible repeat (first | apply Kd.R_alloc | apply Kd.R_drewN | apply Kd.R_drew)); exact (Kd.R_mono (Kd.R_far (p := ⟨gb225, 4, none⟩) (Kd.R_far (p := ⟨gb225, 3, none⟩) (Kd.R_far (p := ⟨gb225, 2, none⟩) (Kd.R_far (p := ⟨gb225, 1, none⟩) (Kd.R_far (p := ⟨gb225, 0, none⟩) (Kd.R_types HO_227004.out BK225.out (by decide)) (fun _ hk => hk.2) (.int .i64 t229)) (fun _ hk => hk.2) (.int .i64 t230)) (fun _ hk => hk.2) (.int .i64 t231)) (fun _ hk => hk.2) (.int .i64 t232)) (fun _ hk => hk.2) (.string t233)) (fun _ h_ => h_.1))) (Kd.R_base ho0) hb); have n3_ := bf BK213 hb; have n4_ := bp #[.int .i64 t229, .int .i64 t230, .int .i64 t231, .int .i64 t232, .string t233] BK225 hb; have n5_ := bf BK226 hb; have HO241 := Aside0.mk (Kd.R_lower (Kd.R_new' ho0 (Kd.R_lt (by (with_reducible repeat (first | apply Kd.R_alloc | apply Kd.R_drewN | apply Kd.R_drew)); exact (Kd.R_mono (Kd.R_far (p := ⟨gb225, 4, none⟩) (Kd.R_far (p := ⟨gb225, 3, none⟩) (Kd.R_far (p := ⟨gb225, 2, none⟩) (Kd.R_far (p := ⟨gb225, 1, none⟩) (Kd.R_far (p := ⟨gb225, 0, none⟩) (Kd.R_types HO_227004.out BK225.out (by decide)) (fun _ hk => hk.2) (.int .i64 t229)) (fun _ hk => hk.2) (.int .i64 t230)) (fun _ hk => hk.2) (.int .i64 t231)) (fun _ hk => hk.2) (.int .i64 t232)) (fun _ hk => hk.2) (.string t233)) (fun _ h_ => h_.1))))) (below_size (be HB))); replace HB := bh HB hb; clear HO_5 HO_227004 BK213 BK225 BK226; have HO_5 := n0_; have HO_227004 := n1_; have BK213 := n3_; have BK225 := n4_; have BK226 := n5_; clear n0_ n1_ n3_ n4_ n5_; (try clear hb); (try clear hb2); (try clear hk); (try clear hi)) | ((with_reducible refine gate_dst (N := 12) rfl ?_); refine box_event ?hg (N := 12) ?hd (cs := #[.int .i64 0, .int .i64 0, .int .i64 0, .int .i64 0, .slice none 0 0]) (t := 50) ?hr ?_; (case hd => rfl); (case hg => rfl); (case hr => first | (go_simp; done) | (go_simp; rfl)); intro gb243 hg w76 hbox hb; have BK243 := Aside0.mk (hbox); have GW243 := bs HB hg; have GE243 := bs HB hg; have NB213_243 := bl BK213 hg; have NB243_213 := bg BK213 hg; have NB225_243 := bl BK225 hg; have NB243_225 := bg BK225 hg; have NB226_243 := bl BK226 hg; have NB243_226 := bg BK226 hg; replace HO_5 := Aside0.mk (Kd.R_below (rr HO_5) hb); replace HO_227004 := Aside0.mk (Kd.R_below (rr HO_227004) hb); replace HO241 := Aside0.mk (Kd.R_below (rr HO241) hb); replace BK213 := bq BK213 hb; replace BK225 := bq BK225 hb; replace BK226 := bq BK226 hb; replace HB := bh HB hb; clear hb hbox hg; have hnb77 := NB243_213.out; have hnc77 := NB213_243.out; have hnb78 := NB243_225.out; have hnc78 := NB225_243.out; have hnb79 := NB243_226.out; have hnc79 := NB226_243.out; obtain ⟨hcz80_0, hcz80_1, hcz80_2, hcz80_3, hcz80_4⟩ := cs5 BK243; obtain ⟨hfz80_0, hfz80_1, hfz80_2, hfz80_3, hfz80_4⟩ := fs5 BK243; obtain ⟨Ao81, co81, eo81⟩ := Kd.R_slice HO241.out; subst eo81; obtain ⟨hcz82_0, hcz82_1, hcz82_2, hcz82_3, hcz82_4⟩ := cs5 BK226; obtain ⟨hfz82_0, hfz82_1, hfz82_2, hfz82_3, hfz82_4⟩ := fs5 BK226; obtain ⟨hcz83_0, hcz83_1, hcz83_2, hcz83_3, hcz83_4⟩ := cs5 BK213; obtain ⟨hfz83_0, hfz83_1, hfz83_2, hfz83_3, hfz83_4⟩ := fs5 BK213))
            refine bodyPost_ret (results_ctt rfl _ _ gb213 50 #[.int .i64 x227000_2, .int .i64 x227001_2, .int .i64 x227002_2, .int .i64 x227003_2, .slice Ao74 x227004_2.length co74] (0, 0) _ rfl (by (with_reducible repeat first | refine bkN ?_ _ | refine bkD ?_ | refine bkA ?_ _); refine blk_put (cs := #[.int .i64 x227000_2, .int .i64 x227001_2, .int .i64 x227002_2, .int .i64 x227003_2, .slice none 0 0]) ?_ 4 _ rfl; (with_reducible repeat first | refine bkN ?_ _ | refine bkD ?_ | refine bkA ?_ _); refine blk_put (cs := #[.int .i64 x227000_2, .int .i64 x227001_2, .int .i64 x227002_2, .int .i64 x214003_2, .slice none 0 0]) ?_ 3 _ rfl; (with_reducible repeat first | refine bkN ?_ _ | refine bkD ?_ | refine bkA ?_ _); refine blk_put (cs := #[.int .i64 x227000_2, .int .i64 x227001_2, .int .i64 x214002_2, .int .i64 x214003_2, .slice none 0 0]) ?_ 2 _ rfl; (with_reducible repeat first | refine bkN ?_ _ | refine bkD ?_ | refine bkA ?_ _); refine blk_put (cs := #[.int .i64 x227000_2, .int .i64 x214001_2, .int .i64 x214002_2, .int .i64 x214003_2, .slice none 0 0]) ?_ 1 _ rfl; (with_reducible repeat first | refine bkN ?_ _ | refine bkD ?_ | refine bkA ?_ _); refine blk_put (cs := #[.int .i64 x214000_2, .int .i64 x214001_2, .int .i64 x214002_2, .int .i64 x214003_2, .slice none 0 0]) ?_ 0 _ rfl; (with_reducible repeat first | refine bkN ?_ _ | refine bkD ?_ | refine bkA ?_ _ | refine blk_far ?_ NB213_243.out _); exact BK213.out) Try.underlying50 rfl (by kernel_rfl)) rfl ?_
            exact ⟨_, by first | rfl | (simp [errW_none, errW_some] <;> rfl) | (simp [*, errW_none, errW_some] <;> rfl), by (with_reducible repeat (first | apply Kd.R_alloc | apply Kd.R_drewN | apply Kd.R_drew)); exact Kd.R_mono (Kd.R_far (p := ⟨gb213, 4, none⟩) (Kd.R_far (p := ⟨gb213, 3, none⟩) (Kd.R_far (p := ⟨gb213, 2, none⟩) (Kd.R_far (p := ⟨gb213, 1, none⟩) (Kd.R_far (p := ⟨gb213, 0, none⟩) (Kd.R_far (p := ⟨gb243, 4, none⟩) (Kd.R_far (p := ⟨gb243, 3, none⟩) (Kd.R_far (p := ⟨gb243, 2, none⟩) (Kd.R_far (p := ⟨gb243, 1, none⟩) (Kd.R_far (p := ⟨gb243, 0, none⟩) (Kd.R_types (Kd.R_types HO_227004.out BK243.out (by decide)) BK213.out (by decide)) (fun _ hk => hk.1.2) (.int .i64 t235)) (fun _ hk => hk.1.2) (.int .i64 t236)) (fun _ hk => hk.1.2) (.int .i64 t237)) (fun _ hk => hk.1.2) (.int .i64 t238)) (fun _ hk => hk.1.2) (.slice Ao81 t239.length co81)) (fun _ hk => hk.2) (.int .i64 x227000_2)) (fun _ hk => hk.2) (.int .i64 x227001_2)) (fun _ hk => hk.2) (.int .i64 x227002_2)) (fun _ hk => hk.2) (.int .i64 x227003_2)) (fun _ hk => hk.2) (.slice Ao74 x227004_2.length co74)) (fun _ hk => trivial), by repeat (first | (with_reducible first | exact HB.out | apply below_alloc | apply pw_below_drewN | apply below_drew1 | refine below_set ?_ GE213.out | refine below_set ?_ GE225.out | refine below_set ?_ GE226.out | refine below_set ?_ GE243.out) | exact HB.out)⟩
          ·rw [if_neg c32] at H
           exact absurd H (by simp)
         ·rw [if_neg c31] at H
          have c31b0 : decide (x11_2 < (t214.length : Int)) = false := decide_eq_false c31
          clear c31; simp only [Option.some.injEq, Prod.mk.injEq] at H
          obtain ⟨rfl, rfl, rfl, rfl, rfl, rfl, rfl⟩ := H
          have hnb84 := NB226_213.out; have hnc84 := NB213_226.out; have hnb85 := NB226_225.out; have hnc85 := NB225_226.out; obtain ⟨hcz86_0, hcz86_1, hcz86_2, hcz86_3, hcz86_4⟩ := cs5 BK226; obtain ⟨hfz86_0, hfz86_1, hfz86_2, hfz86_3, hfz86_4⟩ := fs5 BK226; have hnb87 := NB213_225.out; have hnc87 := NB225_213.out; obtain ⟨hcz88_0, hcz88_1, hcz88_2, hcz88_3, hcz88_4⟩ := cs5 BK213; obtain ⟨hfz88_0, hfz88_1, hfz88_2, hfz88_3, hfz88_4⟩ := fs5 BK213; obtain ⟨Ao89, co89, eo89⟩ := Kd.R_slice HO_227004.out
          subst eo89
          go_wp2
          refine bodyPost_ret (results_ctt rfl _ _ gb213 50 #[.int .i64 x227000_2, .int .i64 x227001_2, .int .i64 x227002_2, .int .i64 x227003_2, .slice Ao89 x227004_2.length co89] (0, 0) _ rfl (by (with_reducible repeat first | refine bkN ?_ _ | refine bkD ?_ | refine bkA ?_ _); refine blk_put (cs := #[.int .i64 x227000_2, .int .i64 x227001_2, .int .i64 x227002_2, .int .i64 x227003_2, .slice none 0 0]) ?_ 4 _ rfl; (with_reducible repeat first | refine bkN ?_ _ | refine bkD ?_ | refine bkA ?_ _); refine blk_put (cs := #[.int .i64 x227000_2, .int .i64 x227001_2, .int .i64 x227002_2, .int .i64 x214003_2, .slice none 0 0]) ?_ 3 _ rfl; (with_reducible repeat first | refine bkN ?_ _ | refine bkD ?_ | refine bkA ?_ _); refine blk_put (cs := #[.int .i64 x227000_2, .int .i64 x227001_2, .int .i64 x214002_2, .int .i64 x214003_2, .slice none 0 0]) ?_ 2 _ rfl; (with_reducible repeat first | refine bkN ?_ _ | refine bkD ?_ | refine bkA ?_ _); refine blk_put (cs := #[.int .i64 x227000_2, .int .i64 x214001_2, .int .i64 x214002_2, .int .i64 x214003_2, .slice none 0 0]) ?_ 1 _ rfl; (with_reducible repeat first | refine bkN ?_ _ | refine bkD ?_ | refine bkA ?_ _); refine blk_put (cs := #[.int .i64 x214000_2, .int .i64 x214001_2, .int .i64 x214002_2, .int .i64 x214003_2, .slice none 0 0]) ?_ 0 _ rfl; (with_reducible repeat first | refine bkN ?_ _ | refine bkD ?_ | refine bkA ?_ _); exact BK213.out) Try.underlying50 rfl (by kernel_rfl)) rfl ?_
          exact ⟨_, by first | rfl | (simp [errW_none, errW_some] <;> rfl) | (simp [*, errW_none, errW_some] <;> rfl), by (with_reducible repeat (first | apply Kd.R_alloc | apply Kd.R_drewN | apply Kd.R_drew)); exact Kd.R_mono (Kd.R_far (p := ⟨gb213, 4, none⟩) (Kd.R_far (p := ⟨gb213, 3, none⟩) (Kd.R_far (p := ⟨gb213, 2, none⟩) (Kd.R_far (p := ⟨gb213, 1, none⟩) (Kd.R_far (p := ⟨gb213, 0, none⟩) (Kd.R_types HO_227004.out BK213.out (by decide)) (fun _ hk => hk.2) (.int .i64 x227000_2)) (fun _ hk => hk.2) (.int .i64 x227001_2)) (fun _ hk => hk.2) (.int .i64 x227002_2)) (fun _ hk => hk.2) (.int .i64 x227003_2)) (fun _ hk => hk.2) (.slice Ao89 x227004_2.length co89)) (fun _ hk => trivial), by repeat (first | (with_reducible first | exact HB.out | apply below_alloc | apply pw_below_drewN | apply below_drew1 | refine below_set ?_ GE213.out | refine below_set ?_ GE225.out | refine below_set ?_ GE226.out) | exact HB.out)⟩
      ·rw [if_neg c24] at H
       exact absurd H (by simp)
  ·rw [if_neg c8] at H
   exact absurd H (by simp)

/-! ### impl_within: function 51 -/
def impl_within.f (a0 : Int) (a1 : Int) (a2 : Int) : Option (Bool) := if a0 ≥ a1 then (some (decide (a0 ≤ a2))) else (some false)
set_option maxHeartbeats 8000000 in
set_option maxRecDepth 100000 in
theorem impl_within.calls (a0 : Int) (a1 : Int) (a2 : Int) (r : Bool) (w : World) (h : impl_within.f a0 a1 a2 = some r) :
  Calls Try.prog 51 #[.int .i64 a0, .int .i64 a1, .int .i64 a2] w fun e w' => e = .returned (.bool r) ∧ Drawn0 w w' := by
 have H : (if a0 ≥ a1 then (some (decide (a0 ≤ a2))) else (some false)) = some r := h
 clear h
 by_cases c4 : a0 ≥ a1
 ·rw [if_pos c4] at H
  have c4b0 : decide (a1 ≤ a0) = true := decide_eq_true c4
  clear c4; obtain rfl := Option.some.inj H
  go_enter Try.func51, Try.ntmps51
  go_wp2
  go_ret
  exact ⟨by first | rfl | (simp; done) | (simp [*]; done), by repeat (first | exact Drawn0.refl _ | apply Drawn0.step)⟩
 ·rw [if_neg c4] at H
  have c4b0 : decide (a1 ≤ a0) = false := decide_eq_false c4
  clear c4; obtain rfl := Option.some.inj H
  go_enter Try.func51, Try.ntmps51
  go_wp2
  go_ret
  exact ⟨by first | rfl | (simp; done) | (simp [*]; done), by repeat (first | exact Drawn0.refl _ | apply Drawn0.step)⟩

/-! ### impl_Fixed: function 147 -/
mutual
def impl_Fixed.j0 : Nat → Int → Int → Bool → Option (ByteArray)
 | 0, _, _, _ => none
 | k + 1, x0, x1, x20 => if x20 = true then (some (⟨#[]⟩ : ByteArray)) else (if 0 ≤ x1 then (if (x1 : Int).toNat ≤ 281474976710656 then (impl_Fixed.l0 k x0 (List.replicate (x1 : Int).toNat 0) (wrap64 (x1 - 1))) else (none)) else (none))
def impl_Fixed.l0 : Nat → Int → List Int → Int → Option (ByteArray)
 | 0, _, _, _ => none
 | k + 1, x0, x5, x6 => if x6 ≥ 0 then (if 0 ≤ x6 then (if x6 < (x5.length : Int) then (impl_Fixed.l0 k (x0 / 256) (x5.set (x6 : Int).toNat ((Go.bits .and .i64 x0 255) % 256)) (wrap64 (x6 - 1))) else (none)) else (none)) else (some (strOfNums x5))
end
def impl_Fixed.f (k : Nat) (a0 : Int) (a1 : Int) : Option (ByteArray) := (impl_within.f a1 1 7).bind fun t245 => (if t245 = true then (if a0 < 0 then (impl_Fixed.j0 k a0 a1 true) else (if 0 ≤ (wrap64 (8 * a1)) then (impl_Fixed.j0 k a0 a1 (decide (a0 ≥ (shl .i64 1 (wrap64 (8 * a1)))))) else (none))) else (impl_Fixed.j0 k a0 a1 true))
theorem impl_Fixed.mono_l : ∀ k, (∀ y0 y1 y2, LeO (impl_Fixed.j0 k y0 y1 y2) (impl_Fixed.j0 (k + 1) y0 y1 y2)) ∧ (∀ y0 y1 y2, LeO (impl_Fixed.l0 k y0 y1 y2) (impl_Fixed.l0 (k + 1) y0 y1 y2))
 | 0 => ⟨fun _ _ _ r h => by simp [impl_Fixed.j0] at h, fun _ _ _ r h => by simp [impl_Fixed.l0] at h⟩
 | k + 1 => by
  obtain ⟨ih0, ih1⟩ := impl_Fixed.mono_l k
  refine ⟨?_, ?_⟩
  ·intro y0 y1 y2
   unfold impl_Fixed.j0
   repeat' first
   | (with_reducible exact ih0 _ _ _)
   | (with_reducible exact ih1 _ _ _)
   | (with_reducible exact LeO.refl _)
   | (with_reducible exact LeO.none _)
   | (with_reducible refine LeO.ite ?_ ?_)
   | (with_reducible refine LeO.bind ?_ (fun _ => ?_))
   | exact ih0 _ _ _
   | exact ih1 _ _ _
   | exact LeO.none _
   | refine LeO.ite ?_ ?_
   | refine LeO.bind ?_ (fun _ => ?_)
  ·intro y0 y1 y2
   unfold impl_Fixed.l0
   repeat' first
   | (with_reducible exact ih0 _ _ _)
   | (with_reducible exact ih1 _ _ _)
   | (with_reducible exact LeO.refl _)
   | (with_reducible exact LeO.none _)
   | (with_reducible refine LeO.ite ?_ ?_)
   | (with_reducible refine LeO.bind ?_ (fun _ => ?_))
   | exact ih0 _ _ _
   | exact ih1 _ _ _
   | exact LeO.none _
   | refine LeO.ite ?_ ?_
   | refine LeO.bind ?_ (fun _ => ?_)
theorem impl_Fixed.mono : ∀ a0 a1 k, LeO (impl_Fixed.f k a0 a1) (impl_Fixed.f (k + 1) a0 a1) := by
 intro a0 a1 k
 obtain ⟨ih0, ih1⟩ := impl_Fixed.mono_l k
 unfold impl_Fixed.f
 repeat' first
   | (with_reducible exact ih0 _ _ _)
   | (with_reducible exact ih1 _ _ _)
   | (with_reducible exact LeO.refl _)
   | (with_reducible exact LeO.none _)
   | (with_reducible refine LeO.ite ?_ ?_)
   | (with_reducible refine LeO.bind ?_ (fun _ => ?_))
   | exact ih0 _ _ _
   | exact ih1 _ _ _
   | exact LeO.none _
   | refine LeO.ite ?_ ?_
   | refine LeO.bind ?_ (fun _ => ?_)
set_option maxHeartbeats 8000000 in
set_option maxRecDepth 100000 in
theorem impl_Fixed.calls (k : Nat) (a0 : Int) (a1 : Int) (r : ByteArray) (w : World) (h : impl_Fixed.f k a0 a1 = some r) :
  Calls Try.prog 147 #[.int .i64 a0, .int .i64 a1] w fun e w' => e = .returned (.string r) ∧ Below w.heap.size w w' := by
 have HB := Aside0.mk (Below.refl w.heap.size w)
 have H : ((impl_within.f a1 1 7).bind fun t245 => (if t245 = true then (if a0 < 0 then (impl_Fixed.j0 k a0 a1 true) else (if 0 ≤ (wrap64 (8 * a1)) then (impl_Fixed.j0 k a0 a1 (decide (a0 ≥ (shl .i64 1 (wrap64 (8 * a1)))))) else (none))) else (impl_Fixed.j0 k a0 a1 true))) = some r := h
 clear h; have HC3 := Aside0.mk H
 clear H
 go_enter Try.func147, Try.ntmps147
 go_upto_region 1 with (fail)
 go_cut [20] (fun v20 wc => ∃ (kq : Nat) (x20_2 : Bool), v20 = .bool x20_2 ∧ Aside0 (impl_Fixed.j0 kq a0 a1 x20_2 = some r) ∧ Aside0 (kq ≤ k) ∧ Aside0 (Below w.heap.size w wc))
 case first =>
  have H := HC3.out; clear HC3; replace H := Option.bind_eq_some_iff.mp H
  obtain ⟨t245, A40, H⟩ := H
  replace H : (if t245 = true then (if a0 < 0 then (impl_Fixed.j0 k a0 a1 true) else (if 0 ≤ (wrap64 (8 * a1)) then (impl_Fixed.j0 k a0 a1 (decide (a0 ≥ (shl .i64 1 (wrap64 (8 * a1)))))) else (none))) else (impl_Fixed.j0 k a0 a1 true)) = some r := H
  have A4 := Aside0.mk A40
  clear A40
  by_cases c5 : t245 = true
  ·subst c5
   have H1 : (if a0 < 0 then (impl_Fixed.j0 k a0 a1 true) else (if 0 ≤ (wrap64 (8 * a1)) then (impl_Fixed.j0 k a0 a1 (decide (a0 ≥ (shl .i64 1 (wrap64 (8 * a1)))))) else (none))) = some r := by rw [if_pos rfl] at H; exact H
   clear H; have H := H1
   clear H1
   by_cases c6 : a0 < 0
   ·rw [if_pos c6] at H
    have c6b0 : decide (a0 < 0) = true := decide_eq_true c6
    clear c6
    (first | rw [c6b0] | (simp only [i64_w, i32_w]; rw [c6b0]) | skip)
    have H' := Aside0.mk H
    clear H
    go_wp2_with (first | ((with_reducible refine gate_callee (f := 51) rfl ?_); refine goesL_ (some 8) rfl rfl Try.func51 (by kernel_rfl) rfl #[.int .i64 a1, .int .i64 1, .int .i64 7] rfl (by (try simp only [List.map_toArray, List.map_cons, List.map_nil]); first | done | rfl | (simp only [List.length_drop, List.length_take]; rfl)) ?_; (with_reducible refine (impl_within.calls a1 1 7 true _ A4.out).mono ?_); rintro e w' ⟨rfl, ⟨nd, rfl⟩⟩; refine ⟨_, rfl, ?_⟩))
    go_meet
    case rel => exact ⟨_, (true), (by first | rfl | (simp; done) | (simp [*]; done)), H', ⟨by first | omega | exact Nat.le_refl _⟩, ⟨by repeat (first | (with_reducible first | exact HB.out | apply below_alloc | apply pw_below_drewN | apply below_drew1) | exact HB.out)⟩⟩
   ·rw [if_neg c6] at H
    have c6b0 : decide (a0 < 0) = false := decide_eq_false c6
    clear c6
    (first | rw [c6b0] | (simp only [i64_w, i32_w]; rw [c6b0]) | skip)
    obtain ⟨ji7, hji7⟩ : ∃ j_ : Int, (wrap64 (8 * a1)) = j_ := ⟨_, rfl⟩
    replace H : (if 0 ≤ (ji7) then (impl_Fixed.j0 k a0 a1 (decide (a0 ≥ (shl .i64 1 (ji7))))) else (none)) = some r := by first | (rw [hji7] at H; exact H) | (simp only [hji7] at H ⊢; exact H)
    (try rw [hji7] at A4)
    have hji7w : (IntKind.i64.wrap (8 * a1)) = ji7 := (i64_w _).trans hji7
    by_cases c8 : 0 ≤ (ji7)
    ·rw [if_pos c8] at H
     have c8b0 := eq_true c8
     have c8b1 : decide (0 ≤ (ji7)) = true := decide_eq_true c8
     clear c8; obtain ⟨ji9, hji9⟩ : ∃ j_ : Int, (shl .i64 1 (ji7)) = j_ := ⟨_, rfl⟩
     replace H : (impl_Fixed.j0 k a0 a1 (decide (a0 ≥ (ji9)))) = some r := by first | (rw [hji9] at H; exact H) | (simp only [hji9] at H ⊢; exact H)
     (try rw [hji9] at A4)
     have hji9_ : (IntKind.i64.wrap (1 * 2 ^ min (ji7).toNat 64)) = ji9 := hji9
     have hji9z : (ji7) ≤ 64 → (IntKind.i64.wrap (1 * 2 ^ (ji7).toNat)) = ji9 := shl_small hji9
     have hji9u : (IntKind.i64.wrap (2 ^ min (ji7).toNat 64)) = ji9 := by have h_ := hji9_; rw [Int.one_mul] at h_; exact h_
     have hji9v : (ji7) ≤ 64 → (IntKind.i64.wrap (2 ^ (ji7).toNat)) = ji9 := fun hle_ => by have h_ := hji9z hle_; rw [Int.one_mul] at h_; exact h_
     have hji9y : (wrap64 (1 * 2 ^ min (ji7).toNat 64)) = ji9 := (i64_w _).symm.trans hji9_
     have hji9x : (ji7) ≤ 64 → (wrap64 (1 * 2 ^ (ji7).toNat)) = ji9 := fun h_ => (i64_w _).symm.trans (hji9z h_)
     have H' := Aside0.mk H
     clear H
     go_wp2_with (first | ((with_reducible refine gate_callee (f := 51) rfl ?_); refine goesL_ (some 8) rfl rfl Try.func51 (by kernel_rfl) rfl #[.int .i64 a1, .int .i64 1, .int .i64 7] rfl (by (try simp only [List.map_toArray, List.map_cons, List.map_nil]); first | done | rfl | (simp only [List.length_drop, List.length_take]; rfl)) ?_; (with_reducible refine (impl_within.calls a1 1 7 true _ A4.out).mono ?_); rintro e w' ⟨rfl, ⟨nd, rfl⟩⟩; refine ⟨_, rfl, ?_⟩))
     go_meet
     case rel => exact ⟨_, (decide (a0 ≥ (ji9))), (by first | rfl | (simp; done) | (simp only [← hji9] <;> (first | rfl | simp)) | (simp [*]; done)), H', ⟨by first | omega | exact Nat.le_refl _⟩, ⟨by repeat (first | (with_reducible first | exact HB.out | apply below_alloc | apply pw_below_drewN | apply below_drew1) | exact HB.out)⟩⟩
    ·rw [if_neg c8] at H
     exact absurd H (by simp)
  ·replace c5 := Bool.eq_false_iff.mpr c5
   subst c5
   have H1 : (impl_Fixed.j0 k a0 a1 true) = some r := by rw [if_neg (show ¬ (false = true) by decide)] at H; exact H
   clear H; have H := H1
   clear H1; have H' := Aside0.mk H
   clear H
   go_wp2_with (first | ((with_reducible refine gate_callee (f := 51) rfl ?_); refine goesL_ (some 8) rfl rfl Try.func51 (by kernel_rfl) rfl #[.int .i64 a1, .int .i64 1, .int .i64 7] rfl (by (try simp only [List.map_toArray, List.map_cons, List.map_nil]); first | done | rfl | (simp only [List.length_drop, List.length_take]; rfl)) ?_; (with_reducible refine (impl_within.calls a1 1 7 false _ A4.out).mono ?_); rintro e w' ⟨rfl, ⟨nd, rfl⟩⟩; refine ⟨_, rfl, ?_⟩))
   go_meet
   case rel => exact ⟨_, (true), (by first | rfl | (simp; done) | (simp [*]; done)), H', ⟨by first | omega | exact Nat.le_refl _⟩, ⟨by repeat (first | (with_reducible first | exact HB.out | apply below_alloc | apply pw_below_drewN | apply below_drew1) | exact HB.out)⟩⟩
 case rest =>
  clear HC3; obtain ⟨kq, x20_2, rfl, HA, HJ2, HB⟩ := hcut
  cases kq with
  | zero => exact absurd HA.out (by simp [impl_Fixed.j0])
  | succ kj2 =>
   have H := HA.out; clear HA; simp only [impl_Fixed.j0] at H
   by_cases c10 : x20_2 = true
   ·subst c10
    have H1 : (some (⟨#[]⟩ : ByteArray)) = some r := by rw [if_pos rfl] at H; exact H
    clear H; have H := H1
    clear H1; obtain rfl := Option.some.inj H
    go_wp2
    go_ret
    exact ⟨by first | rfl | (simp [errW_none, errW_some] <;> rfl) | (simp [*, errW_none, errW_some] <;> rfl), by repeat (first | (with_reducible first | exact HB.out | apply below_alloc | apply pw_below_drewN | apply below_drew1) | exact HB.out)⟩
   ·replace c10 := Bool.eq_false_iff.mpr c10
    subst c10
    have H1 : (if 0 ≤ a1 then (if (a1 : Int).toNat ≤ 281474976710656 then (impl_Fixed.l0 kj2 a0 (List.replicate (a1 : Int).toNat 0) (wrap64 (a1 - 1))) else (none)) else (none)) = some r := by rw [if_neg (show ¬ (false = true) by decide)] at H; exact H
    clear H; have H := H1
    clear H1
    by_cases c11 : 0 ≤ a1
    ·rw [if_pos c11] at H
     have c11b0 := eq_true c11
     have c11b1 : decide (0 ≤ a1) = true := decide_eq_true c11
     clear c11
     by_cases c12 : (a1 : Int).toNat ≤ 281474976710656
     ·rw [if_pos c12] at H
      have c12b0 := eq_true c12
      have c12b1 : decide ((a1 : Int).toNat ≤ 281474976710656) = true := decide_eq_true c12
      clear c12; obtain ⟨y246, hy246⟩ : ∃ y_ : List Int, y_ = (List.replicate (a1 : Int).toNat 0) := ⟨_, rfl⟩
      replace H : (impl_Fixed.l0 kj2 a0 y246 (wrap64 (a1 - 1))) = some r := by first | (rw [hy246]; with_reducible exact H) | (have H2_ := (Option.bind_some _ _).symm.trans H; rw [hy246]; with_reducible exact H2_) | (have H2_ := (Option.bind_some _ _).symm.trans H; with_reducible exact H2_) | with_reducible exact H | (rw [hy246]; exact H) | exact H
      have Ny246 := Aside0.mk hy246
      clear hy246; have H' := Aside0.mk H
      clear H
      go_wp2_with (first | ((with_reducible refine gate_dst (N := 22) rfl ?_); refine Kd.R_make (Kd.int .u8) _ 5 rfl (N := 22) rfl 68 _ _ rfl a1 rfl rfl Try.underlying68 (.int .u8 0) 1 info5 rfl (by decide) (by omega) 0 (ok := fun _ => True) (okp := fun _ => True) rfl (fun _ hk => hk) trivial (of_decide_eq_true (by first | (with_reducible assumption) | assumption)) (Nat.le_trans (Nat.mul_le_mul_right _ (of_decide_eq_true (by first | (with_reducible assumption) | assumption) : a1.toNat ≤ 281474976710656)) (by omega)) (Below.refl _ _) (Nat.le_refl _) ?_; intro v247 w13 ho14 hb hg_ hnew_; clear hg_ hnew_; (first | rw [← Ny246.out] at ho14 | (simp only [Int.reduceToNat] at ho14; rw [← Ny246.out] at ho14)); have HO248 := Aside0.mk (Kd.R_lower ho14 (below_size (be HB))); replace HB := bh HB hb; clear hb ho14))
      go_loopg [0, 6] kj2 (fun kq v0 v6 w' => ∃ (x0_2 : Int) (x5_2 : List Int) (x6_2 : Int), v0 = .int .i64 x0_2 ∧ v6 = .int .i64 x6_2 ∧ Aside0 (impl_Fixed.l0 kq x0_2 x5_2 x6_2 = some r) ∧ Aside0 (kq ≤ kj2) ∧ Aside0 (Kd.R (Kd.int .u8) 5 w' w.heap.size (fun _ => True) v247 x5_2) ∧ Aside0 (Below w.heap.size w w'))
      case atStart => exact ⟨(a0), (y246), (wrap64 (a1 - 1)), (by first | rfl | (simp; done) | (simp [*]; done)), (by first | rfl | (simp; done) | (simp [*]; done)), H', ⟨Nat.le_refl _⟩, ⟨rr HO248⟩, ⟨by repeat (first | (with_reducible first | exact HB.out | apply below_alloc | apply pw_below_drewN | apply below_drew1) | exact HB.out)⟩⟩
      case round =>
       clear H'
       obtain ⟨x0_2, x5_2, x6_2, rfl, rfl, HA, HK2, HO_5, HB⟩ := hrel
       cases gk with
       | zero => exact absurd HA.out (by simp [impl_Fixed.l0])
       | succ k2 =>
        have H := HA.out; clear HA; simp only [impl_Fixed.l0] at H
        by_cases c15 : x6_2 ≥ 0
        ·rw [if_pos c15] at H
         have c15b0 : decide (0 ≤ x6_2) = true := decide_eq_true c15
         clear c15
         by_cases c16 : 0 ≤ x6_2
         ·rw [if_pos c16] at H
          have c16b0 : decide (0 ≤ x6_2) = true := decide_eq_true c16
          clear c16
          by_cases c17 : x6_2 < (x5_2.length : Int)
          ·rw [if_pos c17] at H
           have c17b0 : decide (x6_2 < (x5_2.length : Int)) = true := decide_eq_true c17
           clear c17; obtain ⟨y249, hy249⟩ : ∃ y_ : List Int, y_ = (x5_2.set (x6_2 : Int).toNat ((Go.bits .and .i64 x0_2 255) % 256)) := ⟨_, rfl⟩
           replace H : (impl_Fixed.l0 k2 (x0_2 / 256) y249 (wrap64 (x6_2 - 1))) = some r := by first | (rw [hy249]; with_reducible exact H) | (have H2_ := (Option.bind_some _ _).symm.trans H; rw [hy249]; with_reducible exact H2_) | (have H2_ := (Option.bind_some _ _).symm.trans H; with_reducible exact H2_) | with_reducible exact H | (rw [hy249]; exact H) | exact H
           have Ny249 := Aside0.mk hy249
           clear hy249; have H' := Aside0.mk H
           clear H; have p18 : 0 ≤ (x6_2 : Int) := of_decide_eq_true (by first | (with_reducible assumption) | assumption)
           have q18 : (x6_2 : Int) < ((x5_2.length : Int) : Int) := of_decide_eq_true (by first | (with_reducible assumption) | assumption)
           obtain ⟨go18, co18, eo18, gb18, gl18, cl18, HG18⟩ := Kd.R_form HO_5.out (by omega)
           (first | cases eo18 | (injection eo18 with ea_ en_ ec_; (first | subst ea_ | (injection ea_ with ea_; subst ea_)); subst ec_; clear en_))
           have GB18 := Aside0.mk gb18
           have GG18 := Aside0.mk HG18
           clear gb18 gl18 HG18; obtain ⟨hx18_0, hf18_0⟩ := Kd.R_celln 0 HO_5.out (x6_2 : Int) p18 q18
           replace p18 := eq_true p18
           replace q18 := eq_true q18
           have HP19 := Kd.R_putg HO_5.out (x6_2 : Int) ((Go.bits .and .i64 x0_2 255) % 256)
           go_wp2_with (first | ((with_reducible refine gate_store (t := 5) (p := 34) rfl ?_); refine store_event (t := 5) (p := 34) (v := ?vo_w20) (w1 := (wr.setCell ⟨go18, (x6_2 : Int).toNat, none⟩ (.int .u8 ((Go.bits .and .i64 x0_2 255) % 256)))) ?hg ?ho ?hn ?hr ?_; (case ho => rfl); (case hg => rfl); (case hn => rfl); (case hr => first | (go_simp; done) | (go_simp; rfl)); intro w20 hw; have hg : wr.grownBy w20 (some go18) := (by rw [hw]; exact HP19.2); have hp_ : Kd.R (Kd.int .u8) 5 w20 w.heap.size (fun _ => True) (.slice (some ⟨go18, 0, none⟩) x5_2.length co18) y249 := (by rw [hw, Ny249.out]; exact HP19.1); clear HP19; have n0_ := Aside0.mk (hp_); have n1_ := Aside0.mk ((by rw [hw]; exact below_set (HB.out) GB18.out : Below w.heap.size w w20)); clear HO_5 HB; have HO_5 := n0_; have HB := n1_; clear n0_ n1_; clear hg hw hp_))
           go_roundg k2
           case measure => have := HJ2.out; have := HK2.out; omega
           case rel => exact ⟨(x0_2 / 256), (y249), (wrap64 (x6_2 - 1)), (by first | rfl | (simp; done) | (simp [*]; done)), (by first | rfl | (simp; done) | (simp [*]; done)), H', ⟨by have := HJ2.out; have := HK2.out; omega⟩, ⟨rr HO_5⟩, ⟨by repeat (first | (with_reducible first | exact HB.out | apply below_alloc | apply pw_below_drewN | apply below_drew1) | exact HB.out)⟩⟩
          ·rw [if_neg c17] at H
           exact absurd H (by simp)
         ·rw [if_neg c16] at H
          exact absurd H (by simp)
        ·rw [if_neg c15] at H
         have c15b0 : decide (0 ≤ x6_2) = false := decide_eq_false c15
         clear c15; obtain rfl := Option.some.inj H
         have hcv21 := own_string (P := Try.prog) Try.underlying68 Try.underlying5 Try.underlying9 (Kd.own_of_R HO_5.out)
         go_wp2
         go_ret
         exact ⟨by first | rfl | (simp [errW_none, errW_some] <;> rfl) | (simp [*, errW_none, errW_some] <;> rfl), by repeat (first | (with_reducible first | exact HB.out | apply below_alloc | apply pw_below_drewN | apply below_drew1) | exact HB.out)⟩
     ·rw [if_neg c12] at H
      exact absurd H (by simp)
    ·rw [if_neg c11] at H
     exact absurd H (by simp)

end Go.Proofs.Ytobkmpihjfiihaa.PFnExactReplay
