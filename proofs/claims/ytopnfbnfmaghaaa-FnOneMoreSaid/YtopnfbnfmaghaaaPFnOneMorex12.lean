-- The machine side of a law: written by a program of this session (wip/tools), a turned print.
import Derived.Test.YtopnfbnfmaghaaaPFnOneMorex0
import Derived.Test.YtopnfbnfmaghaaaPFnOneMorex2
import Derived.Test.YtopnfbnfmaghaaaPFnOneMorex3
import Derived.Test.YtopnfbnfmaghaaaPFnOneMorex6
import Derived.Test.YtopnfbnfmaghaaaPFnOneMorex10
import Derived.Test.YtopnfbnfmaghaaaPFnOneMorex11
namespace Go.Proofs.Ytopnfbnfmaghaaa.PFnOneMore
open Go.RowKit Go.Proofs.YtopnfbnfmaghaaaW.PrintWords Go.Proofs.YtopnfbnfmaghaaaW.PrintLast Go.Proofs.YtopnfbnfmaghaaaW.PrintMore
attribute [local go_sem] max2_int min2_int max_two min_two max_three min_three max_four min_four   -- for this text's walks alone
set_option linter.unusedVariables false
set_option linter.unusedSimpArgs false

/-! ### laws_FnOneMore: function 7 -/
mutual
def laws_FnOneMore.j0 : Nat → ByteArray → Bool → List (S113) → Option (Bool)
 | 0, _, _, _ => none
 | k + 1, x4, x31, x433000 => if x31 = true then (some true) else ((some (([] : List (S113)) : List (S113))).bind fun y434 => (if 0 ≤ (wrap64 ((x433000.length : Int) - 1)) then (if (wrap64 ((x433000.length : Int) - 1)) ≤ (x433000.length : Int) then ((some (x433000.take ((wrap64 ((x433000.length : Int) - 1)) : Int).toNat : List (S113))).bind fun y437 => (if y434.length + y437.length < 8796093022208 then ((some (y434 ++ y437 : List (S113))).bind fun y441 => ((impl_Bpe.f k y441 x4).bind fun t445 => (laws_FnOneMore.l0 k x4 (wrap64 ((x433000.length : Int) - 1)) t445 0 x433000 y441))) else (none))) else (none)) else (none)))
def laws_FnOneMore.j2 : Nat → ByteArray → List Int → List (S113) → List (S113) → Option (Bool)
 | 0, _, _, _, _ => none
 | k + 1, x4, x7, x433000, x445000 => (impl_Bpe.f k x433000 x4).bind fun t454 => ((laws_sameInts.f k x7 t454).bind fun t457 => (if t457 = true then ((spec_Bpe.f k x433000 x4).bind fun t458 => ((laws_sameInts.f k x7 t458).bind fun t461 => (if t461 = true then ((spec_Bpe.f k x445000 x4).bind fun t462 => (some (decide ((x7.length : Int) ≤ (t462.length : Int))))) else (none)))) else (none)))
def laws_FnOneMore.l0 : Nat → ByteArray → Int → List Int → Int → List (S113) → List (S113) → Option (Bool)
 | 0, _, _, _, _, _, _ => none
 | k + 1, x4, x5, x7, x8, x433000, x445000 => if x8 < (x4.size : Int) then ((impl_MergeOnce.f k x433000 x7).bind fun bt448 => (if bt448.2 = true then ((laws_place.f k bt448.1 x7).bind fun t452 => (if 0 ≤ t452 then (if t452 < (bt448.1.length : Int) then (if (rd bt448.1 t452) = (wrap64 (256 + x5)) then (laws_FnOneMore.l0 k x4 x5 bt448.1 (wrap64 (x8 + 1)) x433000 x445000) else (none)) else (none)) else (none))) else (laws_FnOneMore.j2 k x4 x7 x433000 x445000))) else (laws_FnOneMore.j2 k x4 x7 x433000 x445000)
end
def laws_FnOneMore.f (k : Nat) (l0 : List Int) : Option (Bool) := (laws_big.f l0).bind fun t427 => (if t427 = true then (some true) else ((spec_DrawBpe.f k l0).bind fun bt428 => ((spec_VocabOk.f k bt428.1).bind fun t433 => (if t433 = true then (if (bt428.1.length : Int) = 0 then (laws_FnOneMore.j0 k bt428.2 true bt428.1) else (laws_FnOneMore.j0 k bt428.2 (decide ((bt428.2.size : Int) > 64)) bt428.1)) else (laws_FnOneMore.j0 k bt428.2 true bt428.1)))))
theorem laws_FnOneMore.mono_l : ∀ k, (∀ y0 y1 y2, LeO (laws_FnOneMore.j0 k y0 y1 y2) (laws_FnOneMore.j0 (k + 1) y0 y1 y2)) ∧ (∀ y0 y1 y2 y3, LeO (laws_FnOneMore.j2 k y0 y1 y2 y3) (laws_FnOneMore.j2 (k + 1) y0 y1 y2 y3)) ∧ (∀ y0 y1 y2 y3 y4 y5, LeO (laws_FnOneMore.l0 k y0 y1 y2 y3 y4 y5) (laws_FnOneMore.l0 (k + 1) y0 y1 y2 y3 y4 y5))
 | 0 => ⟨fun _ _ _ r h => by simp [laws_FnOneMore.j0] at h, fun _ _ _ _ r h => by simp [laws_FnOneMore.j2] at h, fun _ _ _ _ _ _ r h => by simp [laws_FnOneMore.l0] at h⟩
 | k + 1 => by
  obtain ⟨ih0, ih1, ih2⟩ := laws_FnOneMore.mono_l k
  refine ⟨?_, ?_, ?_⟩
  ·intro y0 y1 y2
   unfold laws_FnOneMore.j0
   repeat' first
   | (with_reducible exact ih0 _ _ _)
   | (with_reducible exact ih1 _ _ _ _)
   | (with_reducible exact ih2 _ _ _ _ _ _)
   | (with_reducible exact impl_Bpe.mono _ _ _)
   | (with_reducible exact impl_MergeOnce.mono _ _ _)
   | (with_reducible exact laws_place.mono _ _ _)
   | (with_reducible exact laws_sameInts.mono _ _ _)
   | (with_reducible exact spec_Bpe.mono _ _ _)
   | (with_reducible exact spec_DrawBpe.mono _ _)
   | (with_reducible exact spec_VocabOk.mono _ _)
   | (with_reducible exact LeO.refl _)
   | (with_reducible exact LeO.none _)
   | (with_reducible refine LeO.ite ?_ ?_)
   | (with_reducible refine LeO.bind ?_ (fun _ => ?_))
   | exact ih0 _ _ _
   | exact ih1 _ _ _ _
   | exact ih2 _ _ _ _ _ _
   | exact impl_Bpe.mono _ _ _
   | exact impl_MergeOnce.mono _ _ _
   | exact laws_place.mono _ _ _
   | exact laws_sameInts.mono _ _ _
   | exact spec_Bpe.mono _ _ _
   | exact spec_DrawBpe.mono _ _
   | exact spec_VocabOk.mono _ _
   | exact LeO.none _
   | refine LeO.ite ?_ ?_
   | refine LeO.bind ?_ (fun _ => ?_)
  ·intro y0 y1 y2 y3
   unfold laws_FnOneMore.j2
   repeat' first
   | (with_reducible exact ih0 _ _ _)
   | (with_reducible exact ih1 _ _ _ _)
   | (with_reducible exact ih2 _ _ _ _ _ _)
   | (with_reducible exact impl_Bpe.mono _ _ _)
   | (with_reducible exact impl_MergeOnce.mono _ _ _)
   | (with_reducible exact laws_place.mono _ _ _)
   | (with_reducible exact laws_sameInts.mono _ _ _)
   | (with_reducible exact spec_Bpe.mono _ _ _)
   | (with_reducible exact spec_DrawBpe.mono _ _)
   | (with_reducible exact spec_VocabOk.mono _ _)
   | (with_reducible exact LeO.refl _)
   | (with_reducible exact LeO.none _)
   | (with_reducible refine LeO.ite ?_ ?_)
   | (with_reducible refine LeO.bind ?_ (fun _ => ?_))
   | exact ih0 _ _ _
   | exact ih1 _ _ _ _
   | exact ih2 _ _ _ _ _ _
   | exact impl_Bpe.mono _ _ _
   | exact impl_MergeOnce.mono _ _ _
   | exact laws_place.mono _ _ _
   | exact laws_sameInts.mono _ _ _
   | exact spec_Bpe.mono _ _ _
   | exact spec_DrawBpe.mono _ _
   | exact spec_VocabOk.mono _ _
   | exact LeO.none _
   | refine LeO.ite ?_ ?_
   | refine LeO.bind ?_ (fun _ => ?_)
  ·intro y0 y1 y2 y3 y4 y5
   unfold laws_FnOneMore.l0
   repeat' first
   | (with_reducible exact ih0 _ _ _)
   | (with_reducible exact ih1 _ _ _ _)
   | (with_reducible exact ih2 _ _ _ _ _ _)
   | (with_reducible exact impl_Bpe.mono _ _ _)
   | (with_reducible exact impl_MergeOnce.mono _ _ _)
   | (with_reducible exact laws_place.mono _ _ _)
   | (with_reducible exact laws_sameInts.mono _ _ _)
   | (with_reducible exact spec_Bpe.mono _ _ _)
   | (with_reducible exact spec_DrawBpe.mono _ _)
   | (with_reducible exact spec_VocabOk.mono _ _)
   | (with_reducible exact LeO.refl _)
   | (with_reducible exact LeO.none _)
   | (with_reducible refine LeO.ite ?_ ?_)
   | (with_reducible refine LeO.bind ?_ (fun _ => ?_))
   | exact ih0 _ _ _
   | exact ih1 _ _ _ _
   | exact ih2 _ _ _ _ _ _
   | exact impl_Bpe.mono _ _ _
   | exact impl_MergeOnce.mono _ _ _
   | exact laws_place.mono _ _ _
   | exact laws_sameInts.mono _ _ _
   | exact spec_Bpe.mono _ _ _
   | exact spec_DrawBpe.mono _ _
   | exact spec_VocabOk.mono _ _
   | exact LeO.none _
   | refine LeO.ite ?_ ?_
   | refine LeO.bind ?_ (fun _ => ?_)
theorem laws_FnOneMore.mono : ∀ a0 k, LeO (laws_FnOneMore.f k a0) (laws_FnOneMore.f (k + 1) a0) := by
 intro a0 k
 obtain ⟨ih0, ih1, ih2⟩ := laws_FnOneMore.mono_l k
 unfold laws_FnOneMore.f
 repeat' first
   | (with_reducible exact ih0 _ _ _)
   | (with_reducible exact ih1 _ _ _ _)
   | (with_reducible exact ih2 _ _ _ _ _ _)
   | (with_reducible exact impl_Bpe.mono _ _ _)
   | (with_reducible exact impl_MergeOnce.mono _ _ _)
   | (with_reducible exact laws_place.mono _ _ _)
   | (with_reducible exact laws_sameInts.mono _ _ _)
   | (with_reducible exact spec_Bpe.mono _ _ _)
   | (with_reducible exact spec_DrawBpe.mono _ _)
   | (with_reducible exact spec_VocabOk.mono _ _)
   | (with_reducible exact LeO.refl _)
   | (with_reducible exact LeO.none _)
   | (with_reducible refine LeO.ite ?_ ?_)
   | (with_reducible refine LeO.bind ?_ (fun _ => ?_))
   | exact ih0 _ _ _
   | exact ih1 _ _ _ _
   | exact ih2 _ _ _ _ _ _
   | exact impl_Bpe.mono _ _ _
   | exact impl_MergeOnce.mono _ _ _
   | exact laws_place.mono _ _ _
   | exact laws_sameInts.mono _ _ _
   | exact spec_Bpe.mono _ _ _
   | exact spec_DrawBpe.mono _ _
   | exact spec_VocabOk.mono _ _
   | exact LeO.none _
   | refine LeO.ite ?_ ?_
   | refine LeO.bind ?_ (fun _ => ?_)
set_option maxHeartbeats 8000000 in
set_option maxRecDepth 100000 in
theorem laws_FnOneMore.calls (k : Nat) (A0 : Option Addr) (c0 : Nat) (l0 : List Int) (r : Bool) (w : World) (hr0 : Kd.C (Kd.int .u8) w A0 l0.length l0) (hc0 : l0.length ≤ c0) (h : laws_FnOneMore.f k l0 = some r) :
  Calls Try.prog 7 #[.slice A0 l0.length c0] w fun e w' => e = .returned (.bool r) ∧ Below w.heap.size w w' := by
 have hu26 := Try.underlying26
 have HR0 := Aside0.mk hr0
 have HC0 := Aside0.mk hc0
 clear hr0 hc0
 have HB := Aside0.mk (Below.refl w.heap.size w)
 have H : ((laws_big.f l0).bind fun t427 => (if t427 = true then (some true) else ((spec_DrawBpe.f k l0).bind fun bt428 => ((spec_VocabOk.f k bt428.1).bind fun t433 => (if t433 = true then (if (bt428.1.length : Int) = 0 then (laws_FnOneMore.j0 k bt428.2 true bt428.1) else (laws_FnOneMore.j0 k bt428.2 (decide ((bt428.2.size : Int) > 64)) bt428.1)) else (laws_FnOneMore.j0 k bt428.2 true bt428.1)))))) = some r := h
 clear h
 replace H := Option.bind_eq_some_iff.mp H
 obtain ⟨t427, A20, H⟩ := H
 replace H : (if t427 = true then (some true) else ((spec_DrawBpe.f k l0).bind fun bt428 => ((spec_VocabOk.f k bt428.1).bind fun t433 => (if t433 = true then (if (bt428.1.length : Int) = 0 then (laws_FnOneMore.j0 k bt428.2 true bt428.1) else (laws_FnOneMore.j0 k bt428.2 (decide ((bt428.2.size : Int) > 64)) bt428.1)) else (laws_FnOneMore.j0 k bt428.2 true bt428.1))))) = some r := H
 have A2 := Aside0.mk A20
 clear A20
 by_cases c3 : t427 = true
 ·subst c3
  have H1 : (some true) = some r := by rw [if_pos rfl] at H; exact H
  clear H
  have H := H1
  clear H1
  obtain rfl := Option.some.inj H
  go_enter Try.func7, Try.ntmps7
  go_wp2_with (first | ((with_reducible refine gate_callee (f := 14) rfl ?_); refine goesL_ (some 12) rfl rfl Try.func14 (by kernel_rfl) rfl #[.slice A0 l0.length c0] rfl (by (try simp only [List.map_toArray, List.map_cons, List.map_nil]); first | done | rfl | (simp only [List.length_drop, List.length_take]; rfl)) ?_; (with_reducible refine (laws_big.calls _ _ l0 true _ ?side1 ?side2 A2.out).mono ?_); (case side1 => repeat (first | exact HR0.out | (with_reducible refine Kd.C_alloc ?_ _) | (with_reducible refine Kd.C_drewN ?_ _) | (with_reducible refine Kd.C_drew ?_))); (case side2 => exact HC0.out); rintro e w' ⟨rfl, ⟨nd, rfl⟩⟩; refine ⟨_, rfl, ?_⟩))
  go_ret
  exact ⟨by first | rfl | (simp [errW_none, errW_some] <;> rfl) | (simp [*, errW_none, errW_some] <;> rfl), by repeat (first | (with_reducible first | exact HB.out | apply below_alloc | apply pw_below_drewN | apply below_drew1) | exact HB.out)⟩
 ·replace c3 := Bool.eq_false_iff.mpr c3
  subst c3
  have H1 : ((spec_DrawBpe.f k l0).bind fun bt428 => ((spec_VocabOk.f k bt428.1).bind fun t433 => (if t433 = true then (if (bt428.1.length : Int) = 0 then (laws_FnOneMore.j0 k bt428.2 true bt428.1) else (laws_FnOneMore.j0 k bt428.2 (decide ((bt428.2.size : Int) > 64)) bt428.1)) else (laws_FnOneMore.j0 k bt428.2 true bt428.1)))) = some r := by rw [if_neg (show ¬ (false = true) by decide)] at H; exact H
  clear H
  have H := H1
  clear H1
  replace H := Option.bind_eq_some_iff.mp H
  obtain ⟨⟨t428, t431⟩, A40, H⟩ := H
  replace H : ((spec_VocabOk.f k t428).bind fun t433 => (if t433 = true then (if (t428.length : Int) = 0 then (laws_FnOneMore.j0 k t431 true t428) else (laws_FnOneMore.j0 k t431 (decide ((t431.size : Int) > 64)) t428)) else (laws_FnOneMore.j0 k t431 true t428))) = some r := H
  have A4 := Aside0.mk A40
  clear A40
  have HC5 := Aside0.mk H
  clear H
  go_enter Try.func7, Try.ntmps7
  go_upto_region 4 with (first | ((with_reducible refine gate_callee (f := 14) rfl ?_); refine goesL_ (some 12) rfl rfl Try.func14 (by kernel_rfl) rfl #[.slice A0 l0.length c0] rfl (by (try simp only [List.map_toArray, List.map_cons, List.map_nil]); first | done | rfl | (simp only [List.length_drop, List.length_take]; rfl)) ?_; (with_reducible refine (laws_big.calls _ _ l0 false _ ?side1 ?side2 A2.out).mono ?_); (case side1 => repeat (first | exact HR0.out | (with_reducible refine Kd.C_alloc ?_ _) | (with_reducible refine Kd.C_drewN ?_ _) | (with_reducible refine Kd.C_drew ?_))); (case side2 => exact HC0.out); rintro e w' ⟨rfl, ⟨nd, rfl⟩⟩; refine ⟨_, rfl, ?_⟩) | ((with_reducible refine gate_callee (f := 15) rfl ?_); refine goesL_ (some 15) rfl rfl Try.func15 (by kernel_rfl) rfl #[.slice A0 l0.length c0] rfl (by (try simp only [List.map_toArray, List.map_cons, List.map_nil]); first | done | rfl | (simp only [List.length_drop, List.length_take]; rfl)) ?_; (with_reducible refine (spec_DrawBpe.calls k _ _ l0 t428 t431 _ ?side1 ?side2 A4.out).mono ?_); (case side1 => repeat (first | exact HR0.out | (with_reducible refine Kd.C_alloc ?_ _) | (with_reducible refine Kd.C_drewN ?_ _) | (with_reducible refine Kd.C_drew ?_))); (case side2 => exact HC0.out); rintro e w6 ⟨v429, rfl, ho0, hb⟩; refine ⟨_, rfl, ?_⟩; have n0_ := Aside0.mk (Kd.R_lower ho0 (below_size (by repeat (first | (with_reducible first | exact HB.out | apply below_alloc | apply pw_below_drewN | apply below_drew1) | exact HB.out)))); have n1_ := Aside0.mk (below_step (by repeat (first | (with_reducible first | exact HB.out | apply below_alloc | apply pw_below_drewN | apply below_drew1) | exact HB.out)) hb); clear HB; have HO430 := n0_; have HB := n1_; clear n0_ n1_; (try clear hb); (try clear hb2); (try clear hk); (try clear hi); (try clear ho0)) | ((with_reducible refine gate_dst (N := 3) rfl ?_); (try (refine gate_guard (by rfl) ?_; dsimp only)); refine box_event ?hg (N := 3) ?hd (cs := #[.slice none 0 0]) (t := 26) ?hr ?_; (case hd => rfl); (case hg => rfl); (case hr => first | (go_simp; done) | (go_simp; rfl)); intro gb432 hg w7 hbox hb; have n0_ := Aside0.mk (Kd.R_below (by (with_reducible repeat (first | apply Kd.R_alloc | apply Kd.R_drewN | apply Kd.R_drew)); exact HO430.out) hb); have n1_ := Aside0.mk (below_step (by repeat (first | (with_reducible first | exact HB.out | apply below_alloc | apply pw_below_drewN | apply below_drew1) | exact HB.out)) hb); have n2_ := Aside0.mk (hbox); have n3_ := Aside0.mk ((by rw [hg]; exact (below_size (by repeat (first | (with_reducible first | exact HB.out | apply below_alloc | apply pw_below_drewN | apply below_drew1) | exact HB.out))) : w.heap.size ≤ gb432)); have n4_ := Aside0.mk ((by rw [hg]; exact (below_size (by repeat (first | (with_reducible first | exact HB.out | apply below_alloc | apply pw_below_drewN | apply below_drew1) | exact HB.out))) : w.heap.size ≤ gb432)); clear HO430; clear HB; have HO430 := n0_; have HB := n1_; have BK432 := n2_; have GW432 := n3_; have GE432 := n4_; clear n0_ n1_ n2_ n3_ n4_; clear hb hbox hg; obtain ⟨Ao8, co8, eo8⟩ := Kd.R_slice HO430.out; subst eo8; have hcz9_0 : w7.cell? ⟨gb432, 0, none⟩ = some (.slice none 0 0) := (blk_cell BK432.out 0).trans rfl; have hfz9_0 := blk_frozen BK432.out 0))
  (try simp only [Act.put, List.setIfInBounds_toArray, List.set_cons_zero, List.set_cons_succ])
  go_cut [31] (fun v31 wc => ∃ (kq : Nat) (x31_4 : Bool), v31 = .bool x31_4 ∧ Aside0 (laws_FnOneMore.j0 kq t431 x31_4 t428 = some r) ∧ Aside0 (kq ≤ k) ∧ Aside0 (Kd.R k113 113 wc w.heap.size (fun _ => True) (.slice Ao8 t428.length co8) t428) ∧ Aside0 (wc.heap[gb432]? = some (.cells #[(.slice Ao8 t428.length co8)] 26 (0, 0))) ∧ Aside0 (Below w.heap.size w wc))
  case first =>
   have H := HC5.out
   clear HC5
   replace H := Option.bind_eq_some_iff.mp H
   obtain ⟨t433, A100, H⟩ := H
   replace H : (if t433 = true then (if (t428.length : Int) = 0 then (laws_FnOneMore.j0 k t431 true t428) else (laws_FnOneMore.j0 k t431 (decide ((t431.size : Int) > 64)) t428)) else (laws_FnOneMore.j0 k t431 true t428)) = some r := H
   have A10 := Aside0.mk A100
   clear A100
   by_cases c11 : t433 = true
   ·subst c11
    have H1 : (if (t428.length : Int) = 0 then (laws_FnOneMore.j0 k t431 true t428) else (laws_FnOneMore.j0 k t431 (decide ((t431.size : Int) > 64)) t428)) = some r := by rw [if_pos rfl] at H; exact H
    clear H
    have H := H1
    clear H1
    by_cases c12 : (t428.length : Int) = 0
    ·rw [if_pos c12] at H
     have c12b0 : ((t428.length : Int) == 0) = true := beq_iff_eq.mpr c12
     have c12b1 : ((t428.length : Int) != 0) = false := bne_eq_false_iff_eq.mpr c12
     clear c12
     (first | rw [c12b0] | (simp only [i64_w, i32_w]; rw [c12b0]) | skip)
     have H' := Aside0.mk H
     clear H
     have hcz13_0 : w7.cell? ⟨gb432, 0, none⟩ = some (.slice none 0 0) := (blk_cell BK432.out 0).trans rfl
     have hfz13_0 := blk_frozen BK432.out 0
     go_wp2_with (first | ((with_reducible refine gate_callee (f := 16) rfl ?_); refine goesL_ (some 19) rfl rfl Try.func16 (by kernel_rfl) rfl #[.agg #[.slice Ao8 t428.length co8]] rfl (by (try simp only [List.map_toArray, List.map_cons, List.map_nil]); first | done | rfl | (simp only [List.length_drop, List.length_take]; rfl)) ?_; (with_reducible refine (spec_VocabOk.calls k _ _ t428 true _ ?side1 ?side2 A10.out).mono ?_); (case side1 => refine (Kd.R_reads' (e := 113) (base := w.heap.size) (ok := fun k_ => True) (n := t428.length) (c := co8) ?_).2.2; exact (by (with_reducible repeat (first | apply Kd.R_alloc | apply Kd.R_drewN | apply Kd.R_drew)); exact (Kd.R_mono (Kd.R_far (p := ⟨gb432, 0, none⟩) (Kd.R_types HO430.out BK432.out (by decide)) (fun _ hk => hk.2) (.slice Ao8 t428.length co8)) (fun _ h_ => h_.1)))); (case side2 => exact (Kd.R_reads' HO430.out).2.1); rintro e w14 ⟨rfl, hb⟩; refine ⟨_, rfl, ?_⟩; have n0_ := Aside0.mk (Kd.R_below (by (with_reducible repeat (first | apply Kd.R_alloc | apply Kd.R_drewN | apply Kd.R_drew)); exact (Kd.R_mono (Kd.R_far (p := ⟨gb432, 0, none⟩) (Kd.R_types HO430.out BK432.out (by decide)) (fun _ hk => hk.2) (.slice Ao8 t428.length co8)) (fun _ h_ => h_.1))) hb); have n1_ := Aside0.mk (blk_below (g := gb432) (o := .cells #[.slice Ao8 t428.length co8] 26 (0, 0)) (by (with_reducible repeat first | refine bkN ?_ _ | refine bkD ?_ | refine bkA ?_ _); refine blk_put (cs := #[.slice none 0 0]) ?_ 0 _ rfl; (with_reducible repeat first | refine bkN ?_ _ | refine bkD ?_ | refine bkA ?_ _); exact BK432.out) hb); have n2_ := Aside0.mk (below_step (by repeat (first | (with_reducible first | exact HB.out | apply below_alloc | apply pw_below_drewN | apply below_drew1 | refine below_set ?_ GE432.out) | exact HB.out)) hb); clear HO430; clear BK432; clear HB; have HO430 := n0_; have BK432 := n1_; have HB := n2_; clear n0_ n1_ n2_; (try clear hb); (try clear hb2); (try clear hk); (try clear hi); have hcz15_0 : w14.cell? ⟨gb432, 0, none⟩ = some (.slice Ao8 t428.length co8) := (blk_cell BK432.out 0).trans rfl; have hfz15_0 := blk_frozen BK432.out 0))
     go_meet
     case rel => exact ⟨_, (true), (by first | rfl | (simp; done) | (simp [*]; done)), H', ⟨by first | omega | exact Nat.le_refl _⟩, ⟨by (with_reducible repeat (first | apply Kd.R_alloc | apply Kd.R_drewN | apply Kd.R_drew)); exact HO430.out⟩, ⟨by (with_reducible repeat first | refine bkN ?_ _ | refine bkD ?_ | refine bkA ?_ _); exact BK432.out⟩, ⟨by repeat (first | (with_reducible first | exact HB.out | apply below_alloc | apply pw_below_drewN | apply below_drew1 | refine below_set ?_ GE432.out) | exact HB.out)⟩⟩
    ·rw [if_neg c12] at H
     have c12b0 : ((t428.length : Int) == 0) = false := beq_eq_false_iff_ne.mpr c12
     have c12b1 : ((t428.length : Int) != 0) = true := bne_iff_ne.mpr c12
     have c12b2 : ¬ (t428 = []) := fun h_ => c12 (by rw [h_]; rfl)
     (first | rw [c12b0] | (simp only [i64_w, i32_w]; rw [c12b0]) | skip)
     have H' := Aside0.mk H
     clear H
     have hcz16_0 : w7.cell? ⟨gb432, 0, none⟩ = some (.slice none 0 0) := (blk_cell BK432.out 0).trans rfl
     have hfz16_0 := blk_frozen BK432.out 0
     go_wp2_with (first | ((with_reducible refine gate_callee (f := 16) rfl ?_); refine goesL_ (some 19) rfl rfl Try.func16 (by kernel_rfl) rfl #[.agg #[.slice Ao8 t428.length co8]] rfl (by (try simp only [List.map_toArray, List.map_cons, List.map_nil]); first | done | rfl | (simp only [List.length_drop, List.length_take]; rfl)) ?_; (with_reducible refine (spec_VocabOk.calls k _ _ t428 true _ ?side1 ?side2 A10.out).mono ?_); (case side1 => refine (Kd.R_reads' (e := 113) (base := w.heap.size) (ok := fun k_ => True) (n := t428.length) (c := co8) ?_).2.2; exact (by (with_reducible repeat (first | apply Kd.R_alloc | apply Kd.R_drewN | apply Kd.R_drew)); exact (Kd.R_mono (Kd.R_far (p := ⟨gb432, 0, none⟩) (Kd.R_types HO430.out BK432.out (by decide)) (fun _ hk => hk.2) (.slice Ao8 t428.length co8)) (fun _ h_ => h_.1)))); (case side2 => exact (Kd.R_reads' HO430.out).2.1); rintro e w17 ⟨rfl, hb⟩; refine ⟨_, rfl, ?_⟩; have n0_ := Aside0.mk (Kd.R_below (by (with_reducible repeat (first | apply Kd.R_alloc | apply Kd.R_drewN | apply Kd.R_drew)); exact (Kd.R_mono (Kd.R_far (p := ⟨gb432, 0, none⟩) (Kd.R_types HO430.out BK432.out (by decide)) (fun _ hk => hk.2) (.slice Ao8 t428.length co8)) (fun _ h_ => h_.1))) hb); have n1_ := Aside0.mk (blk_below (g := gb432) (o := .cells #[.slice Ao8 t428.length co8] 26 (0, 0)) (by (with_reducible repeat first | refine bkN ?_ _ | refine bkD ?_ | refine bkA ?_ _); refine blk_put (cs := #[.slice none 0 0]) ?_ 0 _ rfl; (with_reducible repeat first | refine bkN ?_ _ | refine bkD ?_ | refine bkA ?_ _); exact BK432.out) hb); have n2_ := Aside0.mk (below_step (by repeat (first | (with_reducible first | exact HB.out | apply below_alloc | apply pw_below_drewN | apply below_drew1 | refine below_set ?_ GE432.out) | exact HB.out)) hb); clear HO430; clear BK432; clear HB; have HO430 := n0_; have BK432 := n1_; have HB := n2_; clear n0_ n1_ n2_; (try clear hb); (try clear hb2); (try clear hk); (try clear hi); have hcz18_0 : w17.cell? ⟨gb432, 0, none⟩ = some (.slice Ao8 t428.length co8) := (blk_cell BK432.out 0).trans rfl; have hfz18_0 := blk_frozen BK432.out 0))
     go_meet
     case rel => exact ⟨_, (decide ((t431.size : Int) > 64)), (by first | rfl | (simp; done) | (simp [*]; done)), H', ⟨by first | omega | exact Nat.le_refl _⟩, ⟨by (with_reducible repeat (first | apply Kd.R_alloc | apply Kd.R_drewN | apply Kd.R_drew)); exact HO430.out⟩, ⟨by (with_reducible repeat first | refine bkN ?_ _ | refine bkD ?_ | refine bkA ?_ _); exact BK432.out⟩, ⟨by repeat (first | (with_reducible first | exact HB.out | apply below_alloc | apply pw_below_drewN | apply below_drew1 | refine below_set ?_ GE432.out) | exact HB.out)⟩⟩
   ·replace c11 := Bool.eq_false_iff.mpr c11
    subst c11
    have H1 : (laws_FnOneMore.j0 k t431 true t428) = some r := by rw [if_neg (show ¬ (false = true) by decide)] at H; exact H
    clear H
    have H := H1
    clear H1
    have H' := Aside0.mk H
    clear H
    have hcz19_0 : w7.cell? ⟨gb432, 0, none⟩ = some (.slice none 0 0) := (blk_cell BK432.out 0).trans rfl
    have hfz19_0 := blk_frozen BK432.out 0
    go_wp2_with (first | ((with_reducible refine gate_callee (f := 16) rfl ?_); refine goesL_ (some 19) rfl rfl Try.func16 (by kernel_rfl) rfl #[.agg #[.slice Ao8 t428.length co8]] rfl (by (try simp only [List.map_toArray, List.map_cons, List.map_nil]); first | done | rfl | (simp only [List.length_drop, List.length_take]; rfl)) ?_; (with_reducible refine (spec_VocabOk.calls k _ _ t428 false _ ?side1 ?side2 A10.out).mono ?_); (case side1 => refine (Kd.R_reads' (e := 113) (base := w.heap.size) (ok := fun k_ => True) (n := t428.length) (c := co8) ?_).2.2; exact (by (with_reducible repeat (first | apply Kd.R_alloc | apply Kd.R_drewN | apply Kd.R_drew)); exact (Kd.R_mono (Kd.R_far (p := ⟨gb432, 0, none⟩) (Kd.R_types HO430.out BK432.out (by decide)) (fun _ hk => hk.2) (.slice Ao8 t428.length co8)) (fun _ h_ => h_.1)))); (case side2 => exact (Kd.R_reads' HO430.out).2.1); rintro e w20 ⟨rfl, hb⟩; refine ⟨_, rfl, ?_⟩; have n0_ := Aside0.mk (Kd.R_below (by (with_reducible repeat (first | apply Kd.R_alloc | apply Kd.R_drewN | apply Kd.R_drew)); exact (Kd.R_mono (Kd.R_far (p := ⟨gb432, 0, none⟩) (Kd.R_types HO430.out BK432.out (by decide)) (fun _ hk => hk.2) (.slice Ao8 t428.length co8)) (fun _ h_ => h_.1))) hb); have n1_ := Aside0.mk (blk_below (g := gb432) (o := .cells #[.slice Ao8 t428.length co8] 26 (0, 0)) (by (with_reducible repeat first | refine bkN ?_ _ | refine bkD ?_ | refine bkA ?_ _); refine blk_put (cs := #[.slice none 0 0]) ?_ 0 _ rfl; (with_reducible repeat first | refine bkN ?_ _ | refine bkD ?_ | refine bkA ?_ _); exact BK432.out) hb); have n2_ := Aside0.mk (below_step (by repeat (first | (with_reducible first | exact HB.out | apply below_alloc | apply pw_below_drewN | apply below_drew1 | refine below_set ?_ GE432.out) | exact HB.out)) hb); clear HO430; clear BK432; clear HB; have HO430 := n0_; have BK432 := n1_; have HB := n2_; clear n0_ n1_ n2_; (try clear hb); (try clear hb2); (try clear hk); (try clear hi)))
    go_meet
    case rel => exact ⟨_, (true), (by first | rfl | (simp; done) | (simp [*]; done)), H', ⟨by first | omega | exact Nat.le_refl _⟩, ⟨by (with_reducible repeat (first | apply Kd.R_alloc | apply Kd.R_drewN | apply Kd.R_drew)); exact HO430.out⟩, ⟨by (with_reducible repeat first | refine bkN ?_ _ | refine bkD ?_ | refine bkA ?_ _); exact BK432.out⟩, ⟨by repeat (first | (with_reducible first | exact HB.out | apply below_alloc | apply pw_below_drewN | apply below_drew1 | refine below_set ?_ GE432.out) | exact HB.out)⟩⟩
  case rest =>
   clear HC5
   try clear c1
   try clear p2
   try clear c3
   try clear c7
   try clear c11
   try clear c12
   try clear c12b0
   try clear c12b1
   try clear c12b2
   try clear c14
   try clear c15
   try clear c16
   try clear hcz13_0
   try clear hcz15_0
   try clear hcz16_0
   try clear hcz18_0
   try clear hcz19_0
   try clear hcz9_0
   try clear hfz13_0
   try clear hfz15_0
   try clear hfz16_0
   try clear hfz18_0
   try clear hfz19_0
   try clear hfz9_0
   obtain ⟨kq, x31_4, rfl, HA, HJ4, HO_433000, BK432, HB⟩ := hcut
   cases kq with
   | zero => exact absurd HA.out (by simp [laws_FnOneMore.j0])
   | succ kj4 =>
    have H := HA.out
    clear HA
    simp only [laws_FnOneMore.j0] at H
    by_cases c21 : x31_4 = true
    ·subst c21
     have H1 : (some true) = some r := by rw [if_pos rfl] at H; exact H
     clear H
     have H := H1
     clear H1
     obtain rfl := Option.some.inj H
     go_wp2
     go_ret
     exact ⟨by first | rfl | (simp [errW_none, errW_some] <;> rfl) | (simp [*, errW_none, errW_some] <;> rfl), by repeat (first | (with_reducible first | exact HB.out | apply below_alloc | apply pw_below_drewN | apply below_drew1 | refine below_set ?_ GE432.out) | exact HB.out)⟩
    ·replace c21 := Bool.eq_false_iff.mpr c21
     subst c21
     have H1 : ((some (([] : List (S113)) : List (S113))).bind fun y434 => (if 0 ≤ (wrap64 ((t428.length : Int) - 1)) then (if (wrap64 ((t428.length : Int) - 1)) ≤ (t428.length : Int) then ((some (t428.take ((wrap64 ((t428.length : Int) - 1)) : Int).toNat : List (S113))).bind fun y437 => (if y434.length + y437.length < 8796093022208 then ((some (y434 ++ y437 : List (S113))).bind fun y441 => ((impl_Bpe.f kj4 y441 t431).bind fun t445 => (laws_FnOneMore.l0 kj4 t431 (wrap64 ((t428.length : Int) - 1)) t445 0 t428 y441))) else (none))) else (none)) else (none))) = some r := by rw [if_neg (show ¬ (false = true) by decide)] at H; exact H
     clear H
     have H := H1
     clear H1
     obtain ⟨y434, hy434⟩ : ∃ y_ : List (S113), y_ = (([] : List (S113))) := ⟨_, rfl⟩
     replace H : (if 0 ≤ (wrap64 ((t428.length : Int) - 1)) then (if (wrap64 ((t428.length : Int) - 1)) ≤ (t428.length : Int) then ((some (t428.take ((wrap64 ((t428.length : Int) - 1)) : Int).toNat : List (S113))).bind fun y437 => (if y434.length + y437.length < 8796093022208 then ((some (y434 ++ y437 : List (S113))).bind fun y441 => ((impl_Bpe.f kj4 y441 t431).bind fun t445 => (laws_FnOneMore.l0 kj4 t431 (wrap64 ((t428.length : Int) - 1)) t445 0 t428 y441))) else (none))) else (none)) else (none)) = some r := by first | (rw [hy434]; with_reducible exact H) | (have H2_ := (Option.bind_some _ _).symm.trans H; rw [hy434]; with_reducible exact H2_) | (have H2_ := (Option.bind_some _ _).symm.trans H; with_reducible exact H2_) | with_reducible exact H | (rw [hy434]; exact H) | exact H
     have Ny434 := Aside0.mk hy434
     clear hy434
     obtain ⟨ji22, hji22⟩ : ∃ j_ : Int, (wrap64 ((t428.length : Int) - 1)) = j_ := ⟨_, rfl⟩
     replace H : (if 0 ≤ (ji22) then (if (ji22) ≤ (t428.length : Int) then ((some (t428.take ((ji22) : Int).toNat : List (S113))).bind fun y437 => (if y434.length + y437.length < 8796093022208 then ((some (y434 ++ y437 : List (S113))).bind fun y441 => ((impl_Bpe.f kj4 y441 t431).bind fun t445 => (laws_FnOneMore.l0 kj4 t431 ji22 t445 0 t428 y441))) else (none))) else (none)) else (none)) = some r := by first | (rw [hji22] at H; exact H) | (simp only [hji22] at H ⊢; exact H)
     have hji22w : (IntKind.i64.wrap ((t428.length : Int) - 1)) = ji22 := (i64_w _).trans hji22
     by_cases c23 : 0 ≤ (ji22)
     ·rw [if_pos c23] at H
      have c23b0 := eq_true c23
      have c23b1 : decide (0 ≤ (ji22)) = true := decide_eq_true c23
      clear c23
      by_cases c24 : (ji22) ≤ (t428.length : Int)
      ·rw [if_pos c24] at H
       have c24b0 := eq_true c24
       have c24b1 : decide ((ji22) ≤ (t428.length : Int)) = true := decide_eq_true c24
       clear c24
       obtain ⟨y437, hy437⟩ : ∃ y_ : List (S113), y_ = (t428.take ((ji22) : Int).toNat) := ⟨_, rfl⟩
       replace H : (if y434.length + y437.length < 8796093022208 then ((some (y434 ++ y437 : List (S113))).bind fun y441 => ((impl_Bpe.f kj4 y441 t431).bind fun t445 => (laws_FnOneMore.l0 kj4 t431 ji22 t445 0 t428 y441))) else (none)) = some r := by first | (rw [hy437]; with_reducible exact H) | (have H2_ := (Option.bind_some _ _).symm.trans H; rw [hy437]; with_reducible exact H2_) | (have H2_ := (Option.bind_some _ _).symm.trans H; with_reducible exact H2_) | with_reducible exact H | (rw [hy437]; exact H) | exact H
       have Ny437 := Aside0.mk hy437
       clear hy437
       by_cases c25 : y434.length + y437.length < 8796093022208
       ·rw [if_pos c25] at H
        have LMc25 := Aside0.mk c25
        clear c25
        obtain ⟨y441, hy441⟩ : ∃ y_ : List (S113), y_ = (y434 ++ y437) := ⟨_, rfl⟩
        replace H : ((impl_Bpe.f kj4 y441 t431).bind fun t445 => (laws_FnOneMore.l0 kj4 t431 ji22 t445 0 t428 y441)) = some r := by first | (rw [hy441]; with_reducible exact H) | (have H2_ := (Option.bind_some _ _).symm.trans H; rw [hy441]; with_reducible exact H2_) | (have H2_ := (Option.bind_some _ _).symm.trans H; with_reducible exact H2_) | with_reducible exact H | (rw [hy441]; exact H) | exact H
        have Ny441 := Aside0.mk hy441
        clear hy441
        replace H := Option.bind_eq_some_iff.mp H
        obtain ⟨t445, A260, H⟩ := H
        replace H : (laws_FnOneMore.l0 kj4 t431 ji22 t445 0 t428 y441) = some r := H
        have A26 := Aside0.mk A260
        clear A260
        have HC27 := Aside0.mk H
        clear H
        have hcz28_0 : wc.cell? ⟨gb432, 0, none⟩ = some (.slice Ao8 t428.length co8) := (blk_cell BK432.out 0).trans rfl
        have hfz28_0 := blk_frozen BK432.out 0
        go_upto_block 0 with (first | ((with_reducible refine gate_dst (N := 36) rfl ?_); (try (refine gate_guard (by rfl) ?_; dsimp only)); refine Kd.R_lit k113 _ 113 ?hg (N := 36) ?hd (xs := ([] : List (S113))) (inner := []) (ok := fun _ => True) (okp := fun _ => True) ?hr ?hp (fun _ hk => hk) trivial (Below.refl _ _) (Nat.le_refl _) (by simp) ?_; (case hd => rfl); (case hg => rfl); (case hr => first | (go_simp; done) | (go_simp; rfl)); (case hp => exact (Reps.none _ _)); intro v435 w29 ho30 hb hg_ hnew_; clear hg_ hnew_; (first | rw [← Ny434.out] at ho30 | (simp only [Int.reduceToNat] at ho30; rw [← Ny434.out] at ho30)); have n0_ := Aside0.mk (Kd.R_elder' (by (with_reducible repeat (first | apply Kd.R_alloc | apply Kd.R_drewN | apply Kd.R_drew)); exact HO_433000.out) (Kd.R_base ho30) hb); have n1_ := Aside0.mk (Kd.R_lower (Kd.R_new' ho30 (Kd.R_lt (by (with_reducible repeat (first | apply Kd.R_alloc | apply Kd.R_drewN | apply Kd.R_drew)); exact HO_433000.out))) (below_size (by repeat (first | (with_reducible first | exact HB.out | apply below_alloc | apply pw_below_drewN | apply below_drew1 | refine below_set ?_ GE432.out) | exact HB.out)))); have n2_ := Aside0.mk (blk_below (g := gb432) (o := .cells #[.slice Ao8 t428.length co8] 26 (0, 0)) (by (with_reducible repeat first | refine bkN ?_ _ | refine bkD ?_ | refine bkA ?_ _); exact BK432.out) hb); have n3_ := Aside0.mk (below_step (by repeat (first | (with_reducible first | exact HB.out | apply below_alloc | apply pw_below_drewN | apply below_drew1 | refine below_set ?_ GE432.out) | exact HB.out)) hb); clear HO_433000; clear BK432; clear HB; have HO_433000 := n0_; have HO436 := n1_; have BK432 := n2_; have HB := n3_; clear n0_ n1_ n2_ n3_; clear hb ho30; have hcz31_0 : w29.cell? ⟨gb432, 0, none⟩ = some (.slice Ao8 t428.length co8) := (blk_cell BK432.out 0).trans rfl; have hfz31_0 := blk_frozen BK432.out 0; have q32 : ((ji22) : Int) ≤ ((t428.length : Int) : Int) := of_decide_eq_true (by first | (with_reducible assumption) | assumption); obtain ⟨i032, hi032, _, hsz32, _⟩ := info_parts info113; have hroom32 : t428.length ≤ co8 := (Kd.R_reads' HO_433000.out).2.1; have hC32 : Kd.C k113 _ Ao8 t428.length t428 := (Kd.R_reads' HO_433000.out).2.2; have hcut32 := cut_to (P := Try.prog) 24 113 .i64 Try.underlying24 hi032 Ao8 t428.length co8 (ji22) (of_decide_eq_true (by first | (with_reducible assumption) | assumption)) q32 hroom32; have hr32 := Kd.C_take (m := ((ji22) : Int).toNat) hC32 (by omega); have hy32 : y437.length = ((ji22) : Int).toNat := (by rw [Ny437.out, List.length_take]; omega); rw [← Ny437.out] at hr32; rw [← hy32] at hcut32; have HR440 := Aside0.mk hr32; have HC440 := Aside0.mk (show y437.length ≤ co8 from by omega); clear hr32 hC32 hroom32 hi032 hsz32; have KY32 := Aside0.mk hy32; clear hy32; have KL32 := Aside0.mk (show ((ji22) : Int).toNat ≤ t428.length from by omega); replace q32 := eq_true q32) | ((with_reducible refine gate_builtin (b := .append) (xs := #[.tmp 36, .tmp 40]) rfl ?_); (try (refine gate_guard (by rfl) ?_; dsimp only)); at_builtin; refine Kd.R_append_rows k113 (w0 := w) w.heap.size rfl (.tmp 36) (.tmp 40) 24 113 (.agg #[(.int .i64 0), (.int .i64 0)]) 16 rfl Try.underlying24 info113 rfl (by decide) (by omega) v435 y434 y437 _ _ _ (fun k_ => some k_ ≠ (.slice Ao8 t428.length co8 : Value).ownBlock) (fun _ => False) rfl rfl ?aO ?aR (fun _ _ h => h) (fun _ h => h.elim) ?aF ?aB ?aS ?aL ?_; (case aR => repeat (first | exact (by repeat (first | (with_reducible exact HR440.out) | (with_reducible refine Kd.C_alloc ?_ _) | (with_reducible refine Kd.C_drewN ?_ _) | (with_reducible refine Kd.C_drew ?_) | exact HR440.out)) | (with_reducible refine Kd.C_alloc ?_ _) | (with_reducible refine Kd.C_drewN ?_ _) | (with_reducible refine Kd.C_drew ?_))); (case aB => exact (by repeat (first | (with_reducible first | exact HB.out | apply below_alloc | apply pw_below_drewN | apply below_drew1 | refine below_set ?_ GE432.out) | exact HB.out))); (case aF => exact (fun k_ hk => Kd.fresh' (Kd.R_lt (by (with_reducible repeat (first | apply Kd.R_alloc | apply Kd.R_drewN | apply Kd.R_drew)); exact HO_433000.out)) k_ hk)); (case aO => exact (by (with_reducible repeat (first | apply Kd.R_alloc | apply Kd.R_drewN | apply Kd.R_drew)); exact Kd.R_mono HO436.out (fun _ hk => hk.2))); (case aS => exact (below_size (by repeat (first | (with_reducible first | exact HB.out | apply below_alloc | apply pw_below_drewN | apply below_drew1 | refine below_set ?_ GE432.out) | exact HB.out)))); (case aL => have := LMc25.out; omega); intro v442 w33 ho hb hg hat; rw [← Ny441.out] at ho; have n0_ := Aside0.mk (Kd.R_after (ok := (fun _ => True)) (by (with_reducible repeat (first | apply Kd.R_alloc | apply Kd.R_drewN | apply Kd.R_drew)); exact HO_433000.out) hg hat); have n1_ := Aside0.mk (blk_grown (g := gb432) (o := .cells #[.slice Ao8 t428.length co8] 26 (0, 0)) (by (with_reducible repeat first | refine bkN ?_ _ | refine bkD ?_ | refine bkA ?_ _); exact BK432.out) hg (Kd.R_ne HO436.out BK432.out (by decide))); have n2_ := Aside0.mk (hb); have n3_ := Aside0.mk ((show Kd.C k113 w33 Ao8 y437.length y437 from by rw [Ny437.out]; exact Kd.C_take (m := ((ji22) : Int).toNat) ((Kd.R_reads' (Kd.R_after (ok := (fun _ => True)) (by (with_reducible repeat (first | apply Kd.R_alloc | apply Kd.R_drewN | apply Kd.R_drew)); exact HO_433000.out) hg hat)).2.2) KL32.out)); have n4_ := Aside0.mk (ho); clear HO_433000; clear BK432; clear HB; clear HR440; clear HO436; have HO_433000 := n0_; have BK432 := n1_; have HB := n2_; have HR440 := n3_; have HO443 := n4_; clear n0_ n1_ n2_ n3_ n4_; clear ho hb hg hat; obtain ⟨Ao34, co34, eo34⟩ := Kd.R_slice HO443.out; subst eo34) | ((with_reducible refine gate_dst (N := 6) rfl ?_); (try (refine gate_guard (by rfl) ?_; dsimp only)); refine box_event ?hg (N := 6) ?hd (cs := #[.slice none 0 0]) (t := 26) ?hr ?_; (case hd => rfl); (case hg => rfl); (case hr => first | (go_simp; done) | (go_simp; rfl)); intro gb444 hg w35 hbox hb; have n0_ := Aside0.mk (Kd.R_below (by (with_reducible repeat (first | apply Kd.R_alloc | apply Kd.R_drewN | apply Kd.R_drew)); exact HO_433000.out) hb); have n1_ := Aside0.mk (Kd.R_below (by (with_reducible repeat (first | apply Kd.R_alloc | apply Kd.R_drewN | apply Kd.R_drew)); exact HO443.out) hb); have n2_ := Aside0.mk (blk_below (g := gb432) (o := .cells #[.slice Ao8 t428.length co8] 26 (0, 0)) (by (with_reducible repeat first | refine bkN ?_ _ | refine bkD ?_ | refine bkA ?_ _); exact BK432.out) hb); have n3_ := Aside0.mk (Kd.C_below (by repeat (first | (with_reducible exact HR440.out) | (with_reducible refine Kd.C_alloc ?_ _) | (with_reducible refine Kd.C_drewN ?_ _) | (with_reducible refine Kd.C_drew ?_) | exact HR440.out)) hb); have n4_ := Aside0.mk (below_step (by repeat (first | (with_reducible first | exact HB.out | apply below_alloc | apply pw_below_drewN | apply below_drew1 | refine below_set ?_ GE432.out) | exact HB.out)) hb); have n5_ := Aside0.mk (hbox); have n6_ := Aside0.mk ((by rw [hg]; exact (below_size (by repeat (first | (with_reducible first | exact HB.out | apply below_alloc | apply pw_below_drewN | apply below_drew1 | refine below_set ?_ GE432.out) | exact HB.out))) : w.heap.size ≤ gb444)); have n7_ := Aside0.mk ((by rw [hg]; exact (below_size (by repeat (first | (with_reducible first | exact HB.out | apply below_alloc | apply pw_below_drewN | apply below_drew1 | refine below_set ?_ GE432.out) | exact HB.out))) : w.heap.size ≤ gb444)); have n8_ := Aside0.mk ((by rw [hg]; exact Nat.ne_of_lt (blk_lt (g := gb432) (o := .cells #[.slice Ao8 t428.length co8] 26 (0, 0)) (by (with_reducible repeat first | refine bkN ?_ _ | refine bkD ?_ | refine bkA ?_ _); exact BK432.out)) : gb432 ≠ gb444)); have n9_ := Aside0.mk ((by rw [hg]; exact Nat.ne_of_gt (blk_lt (g := gb432) (o := .cells #[.slice Ao8 t428.length co8] 26 (0, 0)) (by (with_reducible repeat first | refine bkN ?_ _ | refine bkD ?_ | refine bkA ?_ _); exact BK432.out)) : gb444 ≠ gb432)); clear HO_433000; clear HO443; clear BK432; clear HR440; clear HB; have HO_433000 := n0_; have HO443 := n1_; have BK432 := n2_; have HR440 := n3_; have HB := n4_; have BK444 := n5_; have GW444 := n6_; have GE444 := n7_; have NB432_444 := n8_; have NB444_432 := n9_; clear n0_ n1_ n2_ n3_ n4_ n5_ n6_ n7_ n8_ n9_; clear hb hbox hg; have hnb36 := NB444_432.out; have hnc36 := NB432_444.out; have hcz37_0 : w35.cell? ⟨gb444, 0, none⟩ = some (.slice none 0 0) := (blk_cell BK444.out 0).trans rfl; have hfz37_0 := blk_frozen BK444.out 0) | ((with_reducible refine gate_callee (f := 19) rfl ?_); refine goesL_ (some 45) rfl rfl Try.func19 (by kernel_rfl) rfl #[.agg #[.slice Ao34 y441.length co34], .string t431] rfl (by (try simp only [List.map_toArray, List.map_cons, List.map_nil]); first | done | rfl | (simp only [List.length_drop, List.length_take]; rfl)) ?_; (with_reducible refine (impl_Bpe.calls kj4 _ _ y441 t431 t445 _ ?side1 ?side2 A26.out).mono ?_); (case side1 => refine (Kd.R_reads' (e := 113) (base := w.heap.size) (ok := fun k_ => some k_ ≠ (.slice Ao8 t428.length co8 : Value).ownBlock) (n := y441.length) (c := co34) ?_).2.2; exact (by (with_reducible repeat (first | apply Kd.R_alloc | apply Kd.R_drewN | apply Kd.R_drew)); exact (Kd.R_mono (Kd.R_far (p := ⟨gb444, 0, none⟩) (Kd.R_types HO443.out BK444.out (by decide)) (fun _ hk => hk.2) (.slice Ao34 y441.length co34)) (fun _ h_ => h_.1)))); (case side2 => exact (Kd.R_reads' HO443.out).2.1); rintro e w38 ⟨v446, rfl, ho0, hb⟩; refine ⟨_, rfl, ?_⟩; have n0_ := Aside0.mk (Kd.R_below (by (with_reducible repeat (first | apply Kd.R_alloc | apply Kd.R_drewN | apply Kd.R_drew)); exact (Kd.R_mono (Kd.R_far (p := ⟨gb444, 0, none⟩) (Kd.R_types HO_433000.out BK444.out (by decide)) (fun _ hk => hk.2) (.slice Ao34 y441.length co34)) (fun _ h_ => h_.1))) hb); have n1_ := Aside0.mk (Kd.R_below (by (with_reducible repeat (first | apply Kd.R_alloc | apply Kd.R_drewN | apply Kd.R_drew)); exact (Kd.R_mono (Kd.R_far (p := ⟨gb444, 0, none⟩) (Kd.R_types HO443.out BK444.out (by decide)) (fun _ hk => hk.2) (.slice Ao34 y441.length co34)) (fun _ h_ => h_.1))) hb); have n2_ := Aside0.mk (Kd.R_lower ho0 (below_size (by repeat (first | (with_reducible first | exact HB.out | apply below_alloc | apply pw_below_drewN | apply below_drew1 | refine below_set ?_ GE432.out | refine below_set ?_ GE444.out) | exact HB.out)))); have n3_ := Aside0.mk (blk_below (g := gb432) (o := .cells #[.slice Ao8 t428.length co8] 26 (0, 0)) (by (with_reducible repeat first | refine bkN ?_ _ | refine bkD ?_ | refine bkA ?_ _ | refine blk_far ?_ NB432_444.out _); exact BK432.out) hb); have n4_ := Aside0.mk (blk_below (g := gb444) (o := .cells #[.slice Ao34 y441.length co34] 26 (0, 0)) (by (with_reducible repeat first | refine bkN ?_ _ | refine bkD ?_ | refine bkA ?_ _); refine blk_put (cs := #[.slice none 0 0]) ?_ 0 _ rfl; (with_reducible repeat first | refine bkN ?_ _ | refine bkD ?_ | refine bkA ?_ _); exact BK444.out) hb); have n5_ := Aside0.mk (below_step (by repeat (first | (with_reducible first | exact HB.out | apply below_alloc | apply pw_below_drewN | apply below_drew1 | refine below_set ?_ GE432.out | refine below_set ?_ GE444.out) | exact HB.out)) hb); clear HO_433000; clear HO443; clear BK432; clear BK444; clear HB; have HO_433000 := n0_; have HO443 := n1_; have HO447 := n2_; have BK432 := n3_; have BK444 := n4_; have HB := n5_; clear n0_ n1_ n2_ n3_ n4_ n5_; (try clear hb); (try clear hb2); (try clear hk); (try clear hi); (try clear ho0)))
        (try simp only [Act.put, List.setIfInBounds_toArray, List.set_cons_zero, List.set_cons_succ])
        go_cut [7] (fun v7 wc => ∃ (kq : Nat) (x7_26 : List Int), Aside0 (laws_FnOneMore.j2 kq t431 x7_26 t428 y441 = some r) ∧ Aside0 (kq ≤ kj4) ∧ Aside0 (Kd.R (Kd.int .i64) 3 wc w.heap.size (fun _ => True) v7 x7_26) ∧ Aside0 (Kd.R k113 113 wc w.heap.size (fun k_ => some k_ ≠ ((.slice Ao34 y441.length co34) : Value).ownBlock) (.slice Ao8 t428.length co8) t428) ∧ Aside0 (Kd.R k113 113 wc w.heap.size (fun k_ => some k_ ≠ ((.slice Ao8 t428.length co8) : Value).ownBlock) (.slice Ao34 y441.length co34) y441) ∧ Aside0 (wc.heap[gb432]? = some (.cells #[(.slice Ao8 t428.length co8)] 26 (0, 0))) ∧ Aside0 (wc.heap[gb444]? = some (.cells #[(.slice Ao34 y441.length co34)] 26 (0, 0))) ∧ Aside0 (Below w.heap.size w wc))
        case first =>
         have H := HC27.out
         clear HC27
         have H' := Aside0.mk H
         clear H
         go_wp2
         go_loopg [7, 8] kj4 (fun kq v7 v8 w' => ∃ (x7_2 : List Int) (x8_2 : Int), v8 = .int .i64 x8_2 ∧ Aside0 (laws_FnOneMore.l0 kq t431 ji22 x7_2 x8_2 t428 y441 = some r) ∧ Aside0 (kq ≤ kj4) ∧ Aside0 (Kd.R (Kd.int .i64) 3 w' w.heap.size (fun _ => True) v7 x7_2) ∧ Aside0 (Kd.R k113 113 w' w.heap.size (fun k_ => some k_ ≠ ((.slice Ao34 y441.length co34) : Value).ownBlock) (.slice Ao8 t428.length co8) t428) ∧ Aside0 (Kd.R k113 113 w' w.heap.size (fun k_ => some k_ ≠ ((.slice Ao8 t428.length co8) : Value).ownBlock) (.slice Ao34 y441.length co34) y441) ∧ Aside0 (w'.heap[gb432]? = some (.cells #[(.slice Ao8 t428.length co8)] 26 (0, 0))) ∧ Aside0 (w'.heap[gb444]? = some (.cells #[(.slice Ao34 y441.length co34)] 26 (0, 0))) ∧ Aside0 (Below w.heap.size w w'))
         case atStart => exact ⟨(t445), (0), (by first | rfl | (simp; done) | (simp [*]; done)), H', ⟨Nat.le_refl _⟩, ⟨by (with_reducible repeat (first | apply Kd.R_alloc | apply Kd.R_drewN | apply Kd.R_drew)); exact HO447.out⟩, ⟨by (with_reducible repeat (first | apply Kd.R_alloc | apply Kd.R_drewN | apply Kd.R_drew)); exact Kd.R_mono HO_433000.out (fun _ hk => hk.2)⟩, ⟨by (with_reducible repeat (first | apply Kd.R_alloc | apply Kd.R_drewN | apply Kd.R_drew)); exact HO443.out⟩, ⟨by (with_reducible repeat first | refine bkN ?_ _ | refine bkD ?_ | refine bkA ?_ _); exact BK432.out⟩, ⟨by (with_reducible repeat first | refine bkN ?_ _ | refine bkD ?_ | refine bkA ?_ _); exact BK444.out⟩, ⟨by repeat (first | (with_reducible first | exact HB.out | apply below_alloc | apply pw_below_drewN | apply below_drew1 | refine below_set ?_ GE432.out | refine below_set ?_ GE444.out) | exact HB.out)⟩⟩
         case round =>
          clear H'
          try clear c1
          try clear c2
          try clear p2
          try clear c3
          try clear q3
          try clear p6
          try clear c7
          try clear c11
          try clear c12
          try clear c12b0
          try clear c12b1
          try clear c12b2
          try clear c14
          try clear c15
          try clear c16
          try clear c19
          try clear c21
          try clear c23
          try clear c23b0
          try clear c23b1
          try clear c24
          try clear c24b0
          try clear c24b1
          try clear c25
          try clear q32
          try clear c36
          try clear hcz13_0
          try clear hcz15_0
          try clear hcz16_0
          try clear hcz18_0
          try clear hcz19_0
          try clear hcz28_0
          try clear hcz31_0
          try clear hcz37_0
          try clear hcz9_0
          try clear hfz13_0
          try clear hfz15_0
          try clear hfz16_0
          try clear hfz18_0
          try clear hfz19_0
          try clear hfz28_0
          try clear hfz31_0
          try clear hfz37_0
          try clear hfz9_0
          try clear p2
          try clear q32
          obtain ⟨x7_2, x8_2, rfl, HA, HK2, HO_7, HO_433000, HO_445000, BK432, BK444, HB⟩ := hrel
          cases gk with
          | zero => exact absurd HA.out (by simp [laws_FnOneMore.l0])
          | succ k2 =>
           have H := HA.out
           clear HA
           simp only [laws_FnOneMore.l0] at H
           by_cases c39 : x8_2 < (t431.size : Int)
           ·rw [if_pos c39] at H
            have c39b0 : decide (x8_2 < (t431.size : Int)) = true := decide_eq_true c39
            clear c39
            (first | rw [c39b0] | (simp only [i64_w, i32_w]; rw [c39b0]) | skip)
            replace H := Option.bind_eq_some_iff.mp H
            obtain ⟨⟨t448, t451⟩, A400, H⟩ := H
            replace H : (if t451 = true then ((laws_place.f k2 t448 x7_2).bind fun t452 => (if 0 ≤ t452 then (if t452 < (t448.length : Int) then (if (rd t448 t452) = (wrap64 (256 + ji22)) then (laws_FnOneMore.l0 k2 t431 ji22 t448 (wrap64 (x8_2 + 1)) t428 y441) else (none)) else (none)) else (none))) else (laws_FnOneMore.j2 k2 t431 x7_2 t428 y441)) = some r := H
            have A40 := Aside0.mk A400
            clear A400
            by_cases c41 : t451 = true
            ·subst c41
             have H1 : ((laws_place.f k2 t448 x7_2).bind fun t452 => (if 0 ≤ t452 then (if t452 < (t448.length : Int) then (if (rd t448 t452) = (wrap64 (256 + ji22)) then (laws_FnOneMore.l0 k2 t431 ji22 t448 (wrap64 (x8_2 + 1)) t428 y441) else (none)) else (none)) else (none))) = some r := by rw [if_pos rfl] at H; exact H
             clear H
             have H := H1
             clear H1
             replace H := Option.bind_eq_some_iff.mp H
             obtain ⟨t452, A420, H⟩ := H
             replace H : (if 0 ≤ t452 then (if t452 < (t448.length : Int) then (if (rd t448 t452) = (wrap64 (256 + ji22)) then (laws_FnOneMore.l0 k2 t431 ji22 t448 (wrap64 (x8_2 + 1)) t428 y441) else (none)) else (none)) else (none)) = some r := H
             have A42 := Aside0.mk A420
             clear A420
             by_cases c43 : 0 ≤ t452
             ·rw [if_pos c43] at H
              have c43b0 : decide (0 ≤ t452) = true := decide_eq_true c43
              clear c43
              by_cases c44 : t452 < (t448.length : Int)
              ·rw [if_pos c44] at H
               have c44b0 : decide (t452 < (t448.length : Int)) = true := decide_eq_true c44
               clear c44
               by_cases c45 : (rd t448 t452) = (wrap64 (256 + ji22))
               ·rw [if_pos c45] at H
                have c45b0 : ((rd t448 t452) == (wrap64 (256 + ji22))) = true := beq_iff_eq.mpr c45
                have c45b1 : ((rd t448 t452) != (wrap64 (256 + ji22))) = false := bne_eq_false_iff_eq.mpr c45
                clear c45
                have H' := Aside0.mk H
                clear H
                have hnb46 := NB432_444.out
                have hnc46 := NB444_432.out
                have hcz47_0 : wr.cell? ⟨gb432, 0, none⟩ = some (.slice Ao8 t428.length co8) := (blk_cell BK432.out 0).trans rfl
                have hfz47_0 := blk_frozen BK432.out 0
                obtain ⟨Ao48, co48, eo48⟩ := Kd.R_slice HO_7.out
                subst eo48
                go_wp2_with (first | ((with_reducible refine gate_callee (f := 17) rfl ?_); refine goesL_ (some 55) rfl rfl Try.func17 (by kernel_rfl) rfl #[.agg #[.slice Ao8 t428.length co8], .slice Ao48 x7_2.length co48] rfl (by (try simp only [List.map_toArray, List.map_cons, List.map_nil]); first | done | rfl | (simp only [List.length_drop, List.length_take]; rfl)) ?_; (with_reducible refine (impl_MergeOnce.calls k2 _ _ t428 _ _ x7_2 t448 true _ ?side1 ?side2 ?side3 ?side4 A40.out).mono ?_); (case side1 => repeat (first | exact (Kd.R_reads' HO_433000.out).2.2 | (with_reducible refine Kd.C_alloc ?_ _) | (with_reducible refine Kd.C_drewN ?_ _) | (with_reducible refine Kd.C_drew ?_))); (case side2 => exact (Kd.R_reads' HO_433000.out).2.1); (case side3 => repeat (first | exact (Kd.R_reads' HO_7.out).2.2 | (with_reducible refine Kd.C_alloc ?_ _) | (with_reducible refine Kd.C_drewN ?_ _) | (with_reducible refine Kd.C_drew ?_))); (case side4 => exact (Kd.R_reads' HO_7.out).2.1); rintro e w49 ⟨v449, rfl, ho0, hb⟩; refine ⟨_, rfl, ?_⟩; have n0_ := Aside0.mk (Kd.R_elder' (by (with_reducible repeat (first | apply Kd.R_alloc | apply Kd.R_drewN | apply Kd.R_drew)); exact HO_7.out) (Kd.R_base ho0) hb); have n1_ := Aside0.mk (Kd.R_below (by (with_reducible repeat (first | apply Kd.R_alloc | apply Kd.R_drewN | apply Kd.R_drew)); exact HO_433000.out) hb); have n2_ := Aside0.mk (Kd.R_below (by (with_reducible repeat (first | apply Kd.R_alloc | apply Kd.R_drewN | apply Kd.R_drew)); exact HO_445000.out) hb); have n3_ := Aside0.mk (Kd.R_lower (Kd.R_new' ho0 (Kd.R_lt (by (with_reducible repeat (first | apply Kd.R_alloc | apply Kd.R_drewN | apply Kd.R_drew)); exact HO_7.out))) (below_size (by repeat (first | (with_reducible first | exact HB.out | apply below_alloc | apply pw_below_drewN | apply below_drew1 | refine below_set ?_ GE432.out | refine below_set ?_ GE444.out) | exact HB.out)))); have n4_ := Aside0.mk (blk_below (g := gb432) (o := .cells #[.slice Ao8 t428.length co8] 26 (0, 0)) (by (with_reducible repeat first | refine bkN ?_ _ | refine bkD ?_ | refine bkA ?_ _); exact BK432.out) hb); have n5_ := Aside0.mk (blk_below (g := gb444) (o := .cells #[.slice Ao34 y441.length co34] 26 (0, 0)) (by (with_reducible repeat first | refine bkN ?_ _ | refine bkD ?_ | refine bkA ?_ _); exact BK444.out) hb); have n6_ := Aside0.mk (below_step (by repeat (first | (with_reducible first | exact HB.out | apply below_alloc | apply pw_below_drewN | apply below_drew1 | refine below_set ?_ GE432.out | refine below_set ?_ GE444.out) | exact HB.out)) hb); clear HO_7; clear HO_433000; clear HO_445000; clear BK432; clear BK444; clear HB; have HO_7 := n0_; have HO_433000 := n1_; have HO_445000 := n2_; have HO450 := n3_; have BK432 := n4_; have BK444 := n5_; have HB := n6_; clear n0_ n1_ n2_ n3_ n4_ n5_ n6_; (try clear hb); (try clear hb2); (try clear hk); (try clear hi); (try clear ho0); obtain ⟨Ao50, co50, eo50⟩ := Kd.R_slice HO450.out; subst eo50) | ((with_reducible refine gate_callee (f := 34) rfl ?_); refine goesL_ (some 63) rfl rfl Try.func34 (by kernel_rfl) rfl #[.slice Ao50 t448.length co50, .slice Ao48 x7_2.length co48] rfl (by (try simp only [List.map_toArray, List.map_cons, List.map_nil]); first | done | rfl | (simp only [List.length_drop, List.length_take]; rfl)) ?_; (with_reducible refine (laws_place.calls k2 _ _ t448 _ _ x7_2 t452 _ ?side1 ?side2 ?side3 ?side4 A42.out).mono ?_); (case side1 => repeat (first | exact (Kd.R_reads' HO450.out).2.2 | (with_reducible refine Kd.C_alloc ?_ _) | (with_reducible refine Kd.C_drewN ?_ _) | (with_reducible refine Kd.C_drew ?_))); (case side2 => exact (Kd.R_reads' HO450.out).2.1); (case side3 => repeat (first | exact (Kd.R_reads' HO_7.out).2.2 | (with_reducible refine Kd.C_alloc ?_ _) | (with_reducible refine Kd.C_drewN ?_ _) | (with_reducible refine Kd.C_drew ?_))); (case side4 => exact (Kd.R_reads' HO_7.out).2.1); rintro e w' ⟨rfl, ⟨nd, rfl⟩⟩; refine ⟨_, rfl, ?_⟩; have p453 : 0 ≤ (t452 : Int) := of_decide_eq_true (by first | (with_reducible assumption) | assumption); have q453 : t452 < (t448.length : Int) := of_decide_eq_true (by first | (with_reducible assumption) | assumption); obtain ⟨ad453, e453, hx453_0⟩ := Kd.at_int (Kd.R_reads' HO450.out).2.2 t452 p453 q453; cases e453; replace p453 := eq_true p453; replace q453 := eq_true q453))
                go_roundg k2
                case measure => have := HJ4.out; have := HK2.out; omega
                case rel => exact ⟨(t448), (wrap64 (x8_2 + 1)), (by first | rfl | (simp; done) | (simp [*]; done)), H', ⟨by have := HJ4.out; have := HK2.out; omega⟩, ⟨by (with_reducible repeat (first | apply Kd.R_alloc | apply Kd.R_drewN | apply Kd.R_drew)); exact Kd.R_mono HO450.out (fun _ hk => trivial)⟩, ⟨by (with_reducible repeat (first | apply Kd.R_alloc | apply Kd.R_drewN | apply Kd.R_drew)); exact HO_433000.out⟩, ⟨by (with_reducible repeat (first | apply Kd.R_alloc | apply Kd.R_drewN | apply Kd.R_drew)); exact HO_445000.out⟩, ⟨by (with_reducible repeat first | refine bkN ?_ _ | refine bkD ?_ | refine bkA ?_ _); exact BK432.out⟩, ⟨by (with_reducible repeat first | refine bkN ?_ _ | refine bkD ?_ | refine bkA ?_ _); exact BK444.out⟩, ⟨by repeat (first | (with_reducible first | exact HB.out | apply below_alloc | apply pw_below_drewN | apply below_drew1 | refine below_set ?_ GE432.out | refine below_set ?_ GE444.out) | exact HB.out)⟩⟩
               ·rw [if_neg c45] at H
                exact absurd H (by simp)
              ·rw [if_neg c44] at H
               exact absurd H (by simp)
             ·rw [if_neg c43] at H
              exact absurd H (by simp)
            ·replace c41 := Bool.eq_false_iff.mpr c41
             subst c41
             have H1 : (laws_FnOneMore.j2 k2 t431 x7_2 t428 y441) = some r := by rw [if_neg (show ¬ (false = true) by decide)] at H; exact H
             clear H
             have H := H1
             clear H1
             have H' := Aside0.mk H
             clear H
             have hnb51 := NB432_444.out
             have hnc51 := NB444_432.out
             have hcz52_0 : wr.cell? ⟨gb432, 0, none⟩ = some (.slice Ao8 t428.length co8) := (blk_cell BK432.out 0).trans rfl
             have hfz52_0 := blk_frozen BK432.out 0
             obtain ⟨Ao53, co53, eo53⟩ := Kd.R_slice HO_7.out
             subst eo53
             go_wp2_with (first | ((with_reducible refine gate_callee (f := 17) rfl ?_); refine goesL_ (some 55) rfl rfl Try.func17 (by kernel_rfl) rfl #[.agg #[.slice Ao8 t428.length co8], .slice Ao53 x7_2.length co53] rfl (by (try simp only [List.map_toArray, List.map_cons, List.map_nil]); first | done | rfl | (simp only [List.length_drop, List.length_take]; rfl)) ?_; (with_reducible refine (impl_MergeOnce.calls k2 _ _ t428 _ _ x7_2 t448 false _ ?side1 ?side2 ?side3 ?side4 A40.out).mono ?_); (case side1 => repeat (first | exact (Kd.R_reads' HO_433000.out).2.2 | (with_reducible refine Kd.C_alloc ?_ _) | (with_reducible refine Kd.C_drewN ?_ _) | (with_reducible refine Kd.C_drew ?_))); (case side2 => exact (Kd.R_reads' HO_433000.out).2.1); (case side3 => repeat (first | exact (Kd.R_reads' HO_7.out).2.2 | (with_reducible refine Kd.C_alloc ?_ _) | (with_reducible refine Kd.C_drewN ?_ _) | (with_reducible refine Kd.C_drew ?_))); (case side4 => exact (Kd.R_reads' HO_7.out).2.1); rintro e w54 ⟨v449, rfl, ho0, hb⟩; refine ⟨_, rfl, ?_⟩; have n0_ := Aside0.mk (Kd.R_elder' (by (with_reducible repeat (first | apply Kd.R_alloc | apply Kd.R_drewN | apply Kd.R_drew)); exact HO_7.out) (Kd.R_base ho0) hb); have n1_ := Aside0.mk (Kd.R_below (by (with_reducible repeat (first | apply Kd.R_alloc | apply Kd.R_drewN | apply Kd.R_drew)); exact HO_433000.out) hb); have n2_ := Aside0.mk (Kd.R_below (by (with_reducible repeat (first | apply Kd.R_alloc | apply Kd.R_drewN | apply Kd.R_drew)); exact HO_445000.out) hb); have n3_ := Aside0.mk (Kd.R_lower (Kd.R_new' ho0 (Kd.R_lt (by (with_reducible repeat (first | apply Kd.R_alloc | apply Kd.R_drewN | apply Kd.R_drew)); exact HO_7.out))) (below_size (by repeat (first | (with_reducible first | exact HB.out | apply below_alloc | apply pw_below_drewN | apply below_drew1 | refine below_set ?_ GE432.out | refine below_set ?_ GE444.out) | exact HB.out)))); have n4_ := Aside0.mk (blk_below (g := gb432) (o := .cells #[.slice Ao8 t428.length co8] 26 (0, 0)) (by (with_reducible repeat first | refine bkN ?_ _ | refine bkD ?_ | refine bkA ?_ _); exact BK432.out) hb); have n5_ := Aside0.mk (blk_below (g := gb444) (o := .cells #[.slice Ao34 y441.length co34] 26 (0, 0)) (by (with_reducible repeat first | refine bkN ?_ _ | refine bkD ?_ | refine bkA ?_ _); exact BK444.out) hb); have n6_ := Aside0.mk (below_step (by repeat (first | (with_reducible first | exact HB.out | apply below_alloc | apply pw_below_drewN | apply below_drew1 | refine below_set ?_ GE432.out | refine below_set ?_ GE444.out) | exact HB.out)) hb); clear HO_7; clear HO_433000; clear HO_445000; clear BK432; clear BK444; clear HB; have HO_7 := n0_; have HO_433000 := n1_; have HO_445000 := n2_; have HO450 := n3_; have BK432 := n4_; have BK444 := n5_; have HB := n6_; clear n0_ n1_ n2_ n3_ n4_ n5_ n6_; (try clear hb); (try clear hb2); (try clear hk); (try clear hi); (try clear ho0)))
             go_meet
             case rel => exact ⟨_, (x7_2), H', ⟨by have := HJ4.out; have := HK2.out; first | omega | exact Nat.le_refl _⟩, ⟨by (with_reducible repeat (first | apply Kd.R_alloc | apply Kd.R_drewN | apply Kd.R_drew)); exact Kd.R_mono HO_7.out (fun _ hk => trivial)⟩, ⟨by (with_reducible repeat (first | apply Kd.R_alloc | apply Kd.R_drewN | apply Kd.R_drew)); exact HO_433000.out⟩, ⟨by (with_reducible repeat (first | apply Kd.R_alloc | apply Kd.R_drewN | apply Kd.R_drew)); exact HO_445000.out⟩, ⟨by (with_reducible repeat first | refine bkN ?_ _ | refine bkD ?_ | refine bkA ?_ _); exact BK432.out⟩, ⟨by (with_reducible repeat first | refine bkN ?_ _ | refine bkD ?_ | refine bkA ?_ _); exact BK444.out⟩, ⟨by repeat (first | (with_reducible first | exact HB.out | apply below_alloc | apply pw_below_drewN | apply below_drew1 | refine below_set ?_ GE432.out | refine below_set ?_ GE444.out) | exact HB.out)⟩⟩
           ·rw [if_neg c39] at H
            have c39b0 : decide (x8_2 < (t431.size : Int)) = false := decide_eq_false c39
            clear c39
            (first | rw [c39b0] | (simp only [i64_w, i32_w]; rw [c39b0]) | skip)
            have H' := Aside0.mk H
            clear H
            go_wp2
            go_meet
            case rel => exact ⟨_, (x7_2), H', ⟨by have := HJ4.out; have := HK2.out; first | omega | exact Nat.le_refl _⟩, ⟨by (with_reducible repeat (first | apply Kd.R_alloc | apply Kd.R_drewN | apply Kd.R_drew)); exact HO_7.out⟩, ⟨by (with_reducible repeat (first | apply Kd.R_alloc | apply Kd.R_drewN | apply Kd.R_drew)); exact HO_433000.out⟩, ⟨by (with_reducible repeat (first | apply Kd.R_alloc | apply Kd.R_drewN | apply Kd.R_drew)); exact HO_445000.out⟩, ⟨by (with_reducible repeat first | refine bkN ?_ _ | refine bkD ?_ | refine bkA ?_ _); exact BK432.out⟩, ⟨by (with_reducible repeat first | refine bkN ?_ _ | refine bkD ?_ | refine bkA ?_ _); exact BK444.out⟩, ⟨by repeat (first | (with_reducible first | exact HB.out | apply below_alloc | apply pw_below_drewN | apply below_drew1 | refine below_set ?_ GE432.out | refine below_set ?_ GE444.out) | exact HB.out)⟩⟩
        case rest =>
         clear HC27
         try clear c1
         try clear c2
         try clear p2
         try clear c3
         try clear q3
         try clear c4
         try clear p4
         try clear q4
         try clear hx4
         try clear c5
         try clear p6
         try clear c7
         try clear c11
         try clear c12
         try clear c12b0
         try clear c12b1
         try clear c12b2
         try clear c14
         try clear c15
         try clear c16
         try clear c17
         try clear c19
         try clear c21
         try clear c23
         try clear c23b0
         try clear c23b1
         try clear c24
         try clear c24b0
         try clear c24b1
         try clear c25
         try clear q32
         try clear c34
         try clear c36
         try clear c39
         try clear c39b0
         try clear c41
         try clear c43
         try clear c43b0
         try clear c44
         try clear c44b0
         try clear c45
         try clear c45b0
         try clear c45b1
         try clear p45
         try clear q45
         try clear hx45
         try clear c46
         try clear c51
         try clear hcz13_0
         try clear hcz15_0
         try clear hcz16_0
         try clear hcz18_0
         try clear hcz19_0
         try clear hcz28_0
         try clear hcz31_0
         try clear hcz37_0
         try clear hcz47_0
         try clear hcz52_0
         try clear hcz9_0
         try clear hfz13_0
         try clear hfz15_0
         try clear hfz16_0
         try clear hfz18_0
         try clear hfz19_0
         try clear hfz28_0
         try clear hfz31_0
         try clear hfz37_0
         try clear hfz47_0
         try clear hfz52_0
         try clear hfz9_0
         try clear hx453_0
         try clear p2
         try clear p453
         try clear p6
         try clear q3
         try clear q32
         try clear q453
         obtain ⟨kq, x7_26, HA, HJ26, HO_7, HO_433000, HO_445000, BK432, BK444, HB⟩ := hcut
         cases kq with
         | zero => exact absurd HA.out (by simp [laws_FnOneMore.j2])
         | succ kj26 =>
          have H := HA.out
          clear HA
          simp only [laws_FnOneMore.j2] at H
          replace H := Option.bind_eq_some_iff.mp H
          obtain ⟨t454, A550, H⟩ := H
          replace H : ((laws_sameInts.f kj26 x7_26 t454).bind fun t457 => (if t457 = true then ((spec_Bpe.f kj26 t428 t431).bind fun t458 => ((laws_sameInts.f kj26 x7_26 t458).bind fun t461 => (if t461 = true then ((spec_Bpe.f kj26 y441 t431).bind fun t462 => (some (decide ((x7_26.length : Int) ≤ (t462.length : Int))))) else (none)))) else (none))) = some r := H
          have A55 := Aside0.mk A550
          clear A550
          replace H := Option.bind_eq_some_iff.mp H
          obtain ⟨t457, A560, H⟩ := H
          replace H : (if t457 = true then ((spec_Bpe.f kj26 t428 t431).bind fun t458 => ((laws_sameInts.f kj26 x7_26 t458).bind fun t461 => (if t461 = true then ((spec_Bpe.f kj26 y441 t431).bind fun t462 => (some (decide ((x7_26.length : Int) ≤ (t462.length : Int))))) else (none)))) else (none)) = some r := H
          have A56 := Aside0.mk A560
          clear A560
          by_cases c57 : t457 = true
          ·subst c57
           have H1 : ((spec_Bpe.f kj26 t428 t431).bind fun t458 => ((laws_sameInts.f kj26 x7_26 t458).bind fun t461 => (if t461 = true then ((spec_Bpe.f kj26 y441 t431).bind fun t462 => (some (decide ((x7_26.length : Int) ≤ (t462.length : Int))))) else (none)))) = some r := by rw [if_pos rfl] at H; exact H
           clear H
           have H := H1
           clear H1
           replace H := Option.bind_eq_some_iff.mp H
           obtain ⟨t458, A580, H⟩ := H
           replace H : ((laws_sameInts.f kj26 x7_26 t458).bind fun t461 => (if t461 = true then ((spec_Bpe.f kj26 y441 t431).bind fun t462 => (some (decide ((x7_26.length : Int) ≤ (t462.length : Int))))) else (none))) = some r := H
           have A58 := Aside0.mk A580
           clear A580
           replace H := Option.bind_eq_some_iff.mp H
           obtain ⟨t461, A590, H⟩ := H
           replace H : (if t461 = true then ((spec_Bpe.f kj26 y441 t431).bind fun t462 => (some (decide ((x7_26.length : Int) ≤ (t462.length : Int))))) else (none)) = some r := H
           have A59 := Aside0.mk A590
           clear A590
           by_cases c60 : t461 = true
           ·subst c60
            have H1 : ((spec_Bpe.f kj26 y441 t431).bind fun t462 => (some (decide ((x7_26.length : Int) ≤ (t462.length : Int))))) = some r := by rw [if_pos rfl] at H; exact H
            clear H
            have H := H1
            clear H1
            replace H := Option.bind_eq_some_iff.mp H
            obtain ⟨t462, A610, H⟩ := H
            replace H : (some (decide ((x7_26.length : Int) ≤ (t462.length : Int)))) = some r := H
            have A61 := Aside0.mk A610
            clear A610
            obtain rfl := Option.some.inj H
            have hnb62 := NB432_444.out
            have hnc62 := NB444_432.out
            have hcz63_0 : wc.cell? ⟨gb432, 0, none⟩ = some (.slice Ao8 t428.length co8) := (blk_cell BK432.out 0).trans rfl
            have hfz63_0 := blk_frozen BK432.out 0
            go_wp2_with (first | ((with_reducible refine gate_callee (f := 19) rfl ?_); refine goesL_ (some 73) rfl rfl Try.func19 (by kernel_rfl) rfl #[.agg #[.slice Ao8 t428.length co8], .string t431] rfl (by (try simp only [List.map_toArray, List.map_cons, List.map_nil]); first | done | rfl | (simp only [List.length_drop, List.length_take]; rfl)) ?_; (with_reducible refine (impl_Bpe.calls kj26 _ _ t428 t431 t454 _ ?side1 ?side2 A55.out).mono ?_); (case side1 => repeat (first | exact (Kd.R_reads' HO_433000.out).2.2 | (with_reducible refine Kd.C_alloc ?_ _) | (with_reducible refine Kd.C_drewN ?_ _) | (with_reducible refine Kd.C_drew ?_))); (case side2 => exact (Kd.R_reads' HO_433000.out).2.1); rintro e w64 ⟨v455, rfl, ho0, hb⟩; refine ⟨_, rfl, ?_⟩; have n0_ := Aside0.mk (Kd.R_elder' (by (with_reducible repeat (first | apply Kd.R_alloc | apply Kd.R_drewN | apply Kd.R_drew)); exact HO_7.out) (Kd.R_base ho0) hb); have n1_ := Aside0.mk (Kd.R_below (by (with_reducible repeat (first | apply Kd.R_alloc | apply Kd.R_drewN | apply Kd.R_drew)); exact HO_433000.out) hb); have n2_ := Aside0.mk (Kd.R_below (by (with_reducible repeat (first | apply Kd.R_alloc | apply Kd.R_drewN | apply Kd.R_drew)); exact HO_445000.out) hb); have n3_ := Aside0.mk (Kd.R_lower (Kd.R_new' ho0 (Kd.R_lt (by (with_reducible repeat (first | apply Kd.R_alloc | apply Kd.R_drewN | apply Kd.R_drew)); exact HO_7.out))) (below_size (by repeat (first | (with_reducible first | exact HB.out | apply below_alloc | apply pw_below_drewN | apply below_drew1 | refine below_set ?_ GE432.out | refine below_set ?_ GE444.out) | exact HB.out)))); have n4_ := Aside0.mk (blk_below (g := gb432) (o := .cells #[.slice Ao8 t428.length co8] 26 (0, 0)) (by (with_reducible repeat first | refine bkN ?_ _ | refine bkD ?_ | refine bkA ?_ _); exact BK432.out) hb); have n5_ := Aside0.mk (blk_below (g := gb444) (o := .cells #[.slice Ao34 y441.length co34] 26 (0, 0)) (by (with_reducible repeat first | refine bkN ?_ _ | refine bkD ?_ | refine bkA ?_ _); exact BK444.out) hb); have n6_ := Aside0.mk (below_step (by repeat (first | (with_reducible first | exact HB.out | apply below_alloc | apply pw_below_drewN | apply below_drew1 | refine below_set ?_ GE432.out | refine below_set ?_ GE444.out) | exact HB.out)) hb); clear HO_7; clear HO_433000; clear HO_445000; clear BK432; clear BK444; clear HB; have HO_7 := n0_; have HO_433000 := n1_; have HO_445000 := n2_; have HO456 := n3_; have BK432 := n4_; have BK444 := n5_; have HB := n6_; clear n0_ n1_ n2_ n3_ n4_ n5_ n6_; (try clear hb); (try clear hb2); (try clear hk); (try clear hi); (try clear ho0); obtain ⟨Ao65, co65, eo65⟩ := Kd.R_slice HO_7.out; subst eo65; obtain ⟨Ao66, co66, eo66⟩ := Kd.R_slice HO456.out; subst eo66) | ((with_reducible refine gate_callee (f := 18) rfl ?_); refine goesL_ (some 74) rfl rfl Try.func18 (by kernel_rfl) rfl #[.slice Ao65 x7_26.length co65, .slice Ao66 t454.length co66] rfl (by (try simp only [List.map_toArray, List.map_cons, List.map_nil]); first | done | rfl | (simp only [List.length_drop, List.length_take]; rfl)) ?_; (with_reducible refine (laws_sameInts.calls kj26 _ _ x7_26 _ _ t454 true _ ?side1 ?side2 ?side3 ?side4 A56.out).mono ?_); (case side1 => repeat (first | exact (Kd.R_reads' HO_7.out).2.2 | (with_reducible refine Kd.C_alloc ?_ _) | (with_reducible refine Kd.C_drewN ?_ _) | (with_reducible refine Kd.C_drew ?_))); (case side2 => exact (Kd.R_reads' HO_7.out).2.1); (case side3 => repeat (first | exact (Kd.R_reads' HO456.out).2.2 | (with_reducible refine Kd.C_alloc ?_ _) | (with_reducible refine Kd.C_drewN ?_ _) | (with_reducible refine Kd.C_drew ?_))); (case side4 => exact (Kd.R_reads' HO456.out).2.1); rintro e w' ⟨rfl, ⟨nd, rfl⟩⟩; refine ⟨_, rfl, ?_⟩; have hcz67_0 : w64.cell? ⟨gb432, 0, none⟩ = some (.slice Ao8 t428.length co8) := (blk_cell BK432.out 0).trans rfl; have hfz67_0 := blk_frozen BK432.out 0) | (go_at_call 20; (with_reducible refine (spec_Bpe.calls kj26 _ _ t428 t431 t458 _ ?side1 ?side2 A58.out).mono ?_); (case side1 => repeat (first | exact (Kd.R_reads' HO_433000.out).2.2 | (with_reducible refine Kd.C_alloc ?_ _) | (with_reducible refine Kd.C_drewN ?_ _) | (with_reducible refine Kd.C_drew ?_))); (case side2 => exact (Kd.R_reads' HO_433000.out).2.1); rintro e w68 ⟨v459, rfl, ho0, hb⟩; have n0_ := Aside0.mk (Kd.R_elder' (by (with_reducible repeat (first | apply Kd.R_alloc | apply Kd.R_drewN | apply Kd.R_drew)); exact HO_7.out) (Kd.R_base ho0) hb); have n1_ := Aside0.mk (Kd.R_below (by (with_reducible repeat (first | apply Kd.R_alloc | apply Kd.R_drewN | apply Kd.R_drew)); exact HO_433000.out) hb); have n2_ := Aside0.mk (Kd.R_below (by (with_reducible repeat (first | apply Kd.R_alloc | apply Kd.R_drewN | apply Kd.R_drew)); exact HO_445000.out) hb); have n3_ := Aside0.mk (Kd.R_elder' (by (with_reducible repeat (first | apply Kd.R_alloc | apply Kd.R_drewN | apply Kd.R_drew)); exact HO456.out) (Kd.R_base ho0) hb); have n4_ := Aside0.mk (Kd.R_lower (Kd.R_new' (Kd.R_new' ho0 (Kd.R_lt (by (with_reducible repeat (first | apply Kd.R_alloc | apply Kd.R_drewN | apply Kd.R_drew)); exact HO_7.out))) (Kd.R_lt (by (with_reducible repeat (first | apply Kd.R_alloc | apply Kd.R_drewN | apply Kd.R_drew)); exact HO456.out))) (below_size (by repeat (first | (with_reducible first | exact HB.out | apply below_alloc | apply pw_below_drewN | apply below_drew1 | refine below_set ?_ GE432.out | refine below_set ?_ GE444.out) | exact HB.out)))); have n5_ := Aside0.mk (blk_below (g := gb432) (o := .cells #[.slice Ao8 t428.length co8] 26 (0, 0)) (by (with_reducible repeat first | refine bkN ?_ _ | refine bkD ?_ | refine bkA ?_ _); exact BK432.out) hb); have n6_ := Aside0.mk (blk_below (g := gb444) (o := .cells #[.slice Ao34 y441.length co34] 26 (0, 0)) (by (with_reducible repeat first | refine bkN ?_ _ | refine bkD ?_ | refine bkA ?_ _); exact BK444.out) hb); have n7_ := Aside0.mk (below_step (by repeat (first | (with_reducible first | exact HB.out | apply below_alloc | apply pw_below_drewN | apply below_drew1 | refine below_set ?_ GE432.out | refine below_set ?_ GE444.out) | exact HB.out)) hb); clear HO_7; clear HO_433000; clear HO_445000; clear HO456; clear BK432; clear BK444; clear HB; have HO_7 := n0_; have HO_433000 := n1_; have HO_445000 := n2_; have HO456 := n3_; have HO460 := n4_; have BK432 := n5_; have BK444 := n6_; have HB := n7_; clear n0_ n1_ n2_ n3_ n4_ n5_ n6_ n7_; (try clear hb); (try clear hb2); (try clear hk); (try clear hi); (try clear ho0); obtain ⟨Ao69, co69, eo69⟩ := Kd.R_slice HO460.out; subst eo69) | (go_at_call 18; (with_reducible refine (laws_sameInts.calls kj26 _ _ x7_26 _ _ t458 true _ ?side1 ?side2 ?side3 ?side4 A59.out).mono ?_); (case side1 => repeat (first | exact (Kd.R_reads' HO_7.out).2.2 | (with_reducible refine Kd.C_alloc ?_ _) | (with_reducible refine Kd.C_drewN ?_ _) | (with_reducible refine Kd.C_drew ?_))); (case side2 => exact (Kd.R_reads' HO_7.out).2.1); (case side3 => repeat (first | exact (Kd.R_reads' HO460.out).2.2 | (with_reducible refine Kd.C_alloc ?_ _) | (with_reducible refine Kd.C_drewN ?_ _) | (with_reducible refine Kd.C_drew ?_))); (case side4 => exact (Kd.R_reads' HO460.out).2.1); rintro e w' ⟨rfl, ⟨nd, rfl⟩⟩; have hcz70_0 : w68.cell? ⟨gb444, 0, none⟩ = some (.slice Ao34 y441.length co34) := (blk_cell BK444.out 0).trans rfl; have hfz70_0 := blk_frozen BK444.out 0) | (go_at_call 20; (with_reducible refine (spec_Bpe.calls kj26 _ _ y441 t431 t462 _ ?side1 ?side2 A61.out).mono ?_); (case side1 => repeat (first | exact (Kd.R_reads' HO_445000.out).2.2 | (with_reducible refine Kd.C_alloc ?_ _) | (with_reducible refine Kd.C_drewN ?_ _) | (with_reducible refine Kd.C_drew ?_))); (case side2 => exact (Kd.R_reads' HO_445000.out).2.1); rintro e w71 ⟨v463, rfl, ho0, hb⟩; have n0_ := Aside0.mk (Kd.R_elder' (by (with_reducible repeat (first | apply Kd.R_alloc | apply Kd.R_drewN | apply Kd.R_drew)); exact HO_7.out) (Kd.R_base ho0) hb); have n1_ := Aside0.mk (Kd.R_below (by (with_reducible repeat (first | apply Kd.R_alloc | apply Kd.R_drewN | apply Kd.R_drew)); exact HO_433000.out) hb); have n2_ := Aside0.mk (Kd.R_below (by (with_reducible repeat (first | apply Kd.R_alloc | apply Kd.R_drewN | apply Kd.R_drew)); exact HO_445000.out) hb); have n3_ := Aside0.mk (Kd.R_elder' (by (with_reducible repeat (first | apply Kd.R_alloc | apply Kd.R_drewN | apply Kd.R_drew)); exact HO456.out) (Kd.R_base ho0) hb); have n4_ := Aside0.mk (Kd.R_elder' (by (with_reducible repeat (first | apply Kd.R_alloc | apply Kd.R_drewN | apply Kd.R_drew)); exact HO460.out) (Kd.R_base ho0) hb); have n5_ := Aside0.mk (Kd.R_lower (Kd.R_new' (Kd.R_new' (Kd.R_new' ho0 (Kd.R_lt (by (with_reducible repeat (first | apply Kd.R_alloc | apply Kd.R_drewN | apply Kd.R_drew)); exact HO_7.out))) (Kd.R_lt (by (with_reducible repeat (first | apply Kd.R_alloc | apply Kd.R_drewN | apply Kd.R_drew)); exact HO456.out))) (Kd.R_lt (by (with_reducible repeat (first | apply Kd.R_alloc | apply Kd.R_drewN | apply Kd.R_drew)); exact HO460.out))) (below_size (by repeat (first | (with_reducible first | exact HB.out | apply below_alloc | apply pw_below_drewN | apply below_drew1 | refine below_set ?_ GE432.out | refine below_set ?_ GE444.out) | exact HB.out)))); have n6_ := Aside0.mk (blk_below (g := gb432) (o := .cells #[.slice Ao8 t428.length co8] 26 (0, 0)) (by (with_reducible repeat first | refine bkN ?_ _ | refine bkD ?_ | refine bkA ?_ _); exact BK432.out) hb); have n7_ := Aside0.mk (blk_below (g := gb444) (o := .cells #[.slice Ao34 y441.length co34] 26 (0, 0)) (by (with_reducible repeat first | refine bkN ?_ _ | refine bkD ?_ | refine bkA ?_ _); exact BK444.out) hb); have n8_ := Aside0.mk (below_step (by repeat (first | (with_reducible first | exact HB.out | apply below_alloc | apply pw_below_drewN | apply below_drew1 | refine below_set ?_ GE432.out | refine below_set ?_ GE444.out) | exact HB.out)) hb); clear HO_7; clear HO_433000; clear HO_445000; clear HO456; clear HO460; clear BK432; clear BK444; clear HB; have HO_7 := n0_; have HO_433000 := n1_; have HO_445000 := n2_; have HO456 := n3_; have HO460 := n4_; have HO464 := n5_; have BK432 := n6_; have BK444 := n7_; have HB := n8_; clear n0_ n1_ n2_ n3_ n4_ n5_ n6_ n7_ n8_; (try clear hb); (try clear hb2); (try clear hk); (try clear hi); (try clear ho0); obtain ⟨Ao72, co72, eo72⟩ := Kd.R_slice HO464.out; subst eo72))
            go_ret
            exact ⟨by first | rfl | (simp [errW_none, errW_some] <;> rfl) | (simp only [← hji22]; first | rfl | (simp [errW_none, errW_some] <;> rfl)) | (simp [*, errW_none, errW_some] <;> rfl), by repeat (first | (with_reducible first | exact HB.out | apply below_alloc | apply pw_below_drewN | apply below_drew1 | refine below_set ?_ GE432.out | refine below_set ?_ GE444.out) | exact HB.out)⟩
           ·replace c60 := Bool.eq_false_iff.mpr c60
            subst c60
            have H1 : (none) = some r := by rw [if_neg (show ¬ (false = true) by decide)] at H; exact H
            clear H
            have H := H1
            clear H1
            exact absurd H (by simp)
          ·replace c57 := Bool.eq_false_iff.mpr c57
           subst c57
           have H1 : (none) = some r := by rw [if_neg (show ¬ (false = true) by decide)] at H; exact H
           clear H
           have H := H1
           clear H1
           exact absurd H (by simp)
       ·rw [if_neg c25] at H
        exact absurd H (by simp)
      ·rw [if_neg c24] at H
       exact absurd H (by simp)
     ·rw [if_neg c23] at H
      exact absurd H (by simp)

/-- THE ONE PURE STATEMENT of laws_FnOneMore. -/
def laws_FnOneMore.Pure : Prop := ∀ (l0 : List Int), (l0.length ≤ 9223372036854775807 ∧ ∀ y ∈ l0, (Lit.int .u8 y).wf = true) → ∃ k, laws_FnOneMore.f k l0 = some true

end Go.Proofs.Ytopnfbnfmaghaaa.PFnOneMore
