-- The machine side of a law: written by a program of this session (wip/tools), a turned print.
import Derived.Test.YtobkmpihjfiihaaDoorPFnCanonx0
import Derived.Test.YtobkmpihjfiihaaDoorPFnCanonx4
import Derived.Test.YtobkmpihjfiihaaDoorPFnCanonx5
import Derived.Test.YtobkmpihjfiihaaDoorPFnCanonx7
import Derived.Test.YtobkmpihjfiihaaDoorPFnCanonx8
import Derived.Test.YtobkmpihjfiihaaDoorPFnCanonx9
import Derived.Test.YtobkmpihjfiihaaDoorPFnCanonx12
import Derived.Test.YtobkmpihjfiihaaDoorPFnCanonx13
import Derived.Test.YtobkmpihjfiihaaDoorPFnCanonx15
import Derived.Test.YtobkmpihjfiihaaDoorPFnCanonx16
namespace Go.Proofs.YtobkmpihjfiihaaDoor.PFnCanon
open Go.RowKit Go.Proofs.YtobkmpihjfiihaaDoorW.PrintWords Go.Proofs.YtobkmpihjfiihaaDoorW.PrintLast Go.Proofs.YtobkmpihjfiihaaDoorW.PrintMore
attribute [local go_sem] max2_int min2_int max_two min_two max_three min_three max_four min_four   -- for this text's walks alone
set_option linter.unusedVariables false
set_option linter.unusedSimpArgs false
def laws_FnCanon.j0 : Nat → List Int → Bool → Option (Bool)
 | 0, _, _ => none
 | k + 1, x0, x44 => if x44 = true then (none) else ((spec_DrawReadCanon.f k x0).bind fun t548 => ((impl_ReadCanon.f k t548).bind fun bt549 => ((spec_ReadCanon.f k t548).bind fun bt554 => (if (bt549.2 == bt554.2) = true then (if bt549.2 = true then ((impl_Canon.f k bt549.1).bind fun t559 => (if t559.toList = t548.toList then ((impl_VocabOk.f k bt549.1).bind fun t560 => (some t560)) else (none))) else (some true)) else (none)))))
def laws_FnCanon.f (k : Nat) (l0 : List Int) : Option (Bool) := (laws_big.f l0).bind fun t533 => (if t533 = true then (some true) else ((spec_DrawCanon.f k l0).bind fun t534 => ((impl_Canon.f k t534).bind fun t538 => ((impl_ReadCanon.f k t538).bind fun bt539 => ((spec_VocabOk.f k t534).bind fun t544 => (if (bt539.2 != t544) = true then (laws_FnCanon.j0 k l0 true) else (if bt539.2 = true then ((laws_samePairs.f k bt539.1 t534).bind fun t545 => (if t545 = true then ((impl_Digest.f k t534).bind fun t546 => ((spec_Sha.f k t538).bind fun t547 => (laws_FnCanon.j0 k l0 (t546.toList != t547.toList)))) else (laws_FnCanon.j0 k l0 true))) else (laws_FnCanon.j0 k l0 false))))))))
theorem laws_FnCanon.mono_l : ∀ k, (∀ y0 y1, LeO (laws_FnCanon.j0 k y0 y1) (laws_FnCanon.j0 (k + 1) y0 y1))
 | 0 => fun _ _ r h => by simp [laws_FnCanon.j0] at h
 | k + 1 => by
  have ih0 := laws_FnCanon.mono_l k
  ·intro y0 y1
   unfold laws_FnCanon.j0
   repeat' first
   | (with_reducible exact ih0 _ _)
   | (with_reducible exact impl_Canon.mono _ _)
   | (with_reducible exact impl_Digest.mono _ _)
   | (with_reducible exact impl_ReadCanon.mono _ _)
   | (with_reducible exact impl_VocabOk.mono _ _)
   | (with_reducible exact laws_samePairs.mono _ _ _)
   | (with_reducible exact spec_DrawCanon.mono _ _)
   | (with_reducible exact spec_DrawReadCanon.mono _ _)
   | (with_reducible exact spec_ReadCanon.mono _ _)
   | (with_reducible exact spec_Sha.mono _ _)
   | (with_reducible exact spec_VocabOk.mono _ _)
   | (with_reducible exact LeO.refl _)
   | (with_reducible exact LeO.none _)
   | (with_reducible refine LeO.ite ?_ ?_)
   | (with_reducible refine LeO.bind ?_ (fun _ => ?_))
   | exact ih0 _ _
   | exact impl_Canon.mono _ _
   | exact impl_Digest.mono _ _
   | exact impl_ReadCanon.mono _ _
   | exact impl_VocabOk.mono _ _
   | exact laws_samePairs.mono _ _ _
   | exact spec_DrawCanon.mono _ _
   | exact spec_DrawReadCanon.mono _ _
   | exact spec_ReadCanon.mono _ _
   | exact spec_Sha.mono _ _
   | exact spec_VocabOk.mono _ _
   | exact LeO.none _
   | refine LeO.ite ?_ ?_
   | refine LeO.bind ?_ (fun _ => ?_)
theorem laws_FnCanon.mono : ∀ a0 k, LeO (laws_FnCanon.f k a0) (laws_FnCanon.f (k + 1) a0) := by
 intro a0 k
 have ih0 := laws_FnCanon.mono_l k
 unfold laws_FnCanon.f
 repeat' first
   | (with_reducible exact ih0 _ _)
   | (with_reducible exact impl_Canon.mono _ _)
   | (with_reducible exact impl_Digest.mono _ _)
   | (with_reducible exact impl_ReadCanon.mono _ _)
   | (with_reducible exact impl_VocabOk.mono _ _)
   | (with_reducible exact laws_samePairs.mono _ _ _)
   | (with_reducible exact spec_DrawCanon.mono _ _)
   | (with_reducible exact spec_DrawReadCanon.mono _ _)
   | (with_reducible exact spec_ReadCanon.mono _ _)
   | (with_reducible exact spec_Sha.mono _ _)
   | (with_reducible exact spec_VocabOk.mono _ _)
   | (with_reducible exact LeO.refl _)
   | (with_reducible exact LeO.none _)
   | (with_reducible refine LeO.ite ?_ ?_)
   | (with_reducible refine LeO.bind ?_ (fun _ => ?_))
   | exact ih0 _ _
   | exact impl_Canon.mono _ _
   | exact impl_Digest.mono _ _
   | exact impl_ReadCanon.mono _ _
   | exact impl_VocabOk.mono _ _
   | exact laws_samePairs.mono _ _ _
   | exact spec_DrawCanon.mono _ _
   | exact spec_DrawReadCanon.mono _ _
   | exact spec_ReadCanon.mono _ _
   | exact spec_Sha.mono _ _
   | exact spec_VocabOk.mono _ _
   | exact LeO.none _
   | refine LeO.ite ?_ ?_
   | refine LeO.bind ?_ (fun _ => ?_)
set_option maxHeartbeats 8000000 in
set_option maxRecDepth 100000 in
theorem laws_FnCanon.calls (k : Nat) (A0 : Option Addr) (c0 : Nat) (l0 : List Int) (r : Bool) (w : World) (hr0 : Kd.C (Kd.int .u8) w A0 l0.length l0) (hc0 : l0.length ≤ c0) (h : laws_FnCanon.f k l0 = some r) (hTab : Tab w := by first | (with_reducible exact HTAB.out) | (with_reducible exact HTAB.out.below HB.out) | exact HTAB.out.below (by repeat (first | (with_reducible first | exact HB.out | apply below_alloc | apply pw_below_drewN | apply below_drew1 | refine below_set ?_ (Aside0.out (by assumption))) | exact HB.out))) :
  Calls Tryd.prog 8 #[.slice A0 l0.length c0] w fun e w' => e = .returned (.bool r) ∧ Below w.heap.size w w' := by
 have HTAB := Aside0.mk hTab
 clear hTab; have hu45 := Tryd.underlying45
 have HR0 := Aside0.mk hr0
 have HC0 := Aside0.mk hc0
 clear hr0 hc0; have HB := Aside0.mk (Below.refl w.heap.size w)
 have H : ((laws_big.f l0).bind fun t533 => (if t533 = true then (some true) else ((spec_DrawCanon.f k l0).bind fun t534 => ((impl_Canon.f k t534).bind fun t538 => ((impl_ReadCanon.f k t538).bind fun i9a => ((spec_VocabOk.f k t534).bind fun t544 => (if (i9a.2 != t544) = true then (laws_FnCanon.j0 k l0 true) else (if i9a.2 = true then ((laws_samePairs.f k i9a.1 t534).bind fun t545 => (if t545 = true then ((impl_Digest.f k t534).bind fun t546 => ((spec_Sha.f k t538).bind fun t547 => (laws_FnCanon.j0 k l0 (t546.toList != t547.toList)))) else (laws_FnCanon.j0 k l0 true))) else (laws_FnCanon.j0 k l0 false))))))))) = some r := h
 clear h; replace H := Option.bind_eq_some_iff.mp H
 obtain ⟨t533, A20, H⟩ := H
 replace H : (if t533 = true then (some true) else ((spec_DrawCanon.f k l0).bind fun t534 => ((impl_Canon.f k t534).bind fun t538 => ((impl_ReadCanon.f k t538).bind fun i9a => ((spec_VocabOk.f k t534).bind fun t544 => (if (i9a.2 != t544) = true then (laws_FnCanon.j0 k l0 true) else (if i9a.2 = true then ((laws_samePairs.f k i9a.1 t534).bind fun t545 => (if t545 = true then ((impl_Digest.f k t534).bind fun t546 => ((spec_Sha.f k t538).bind fun t547 => (laws_FnCanon.j0 k l0 (t546.toList != t547.toList)))) else (laws_FnCanon.j0 k l0 true))) else (laws_FnCanon.j0 k l0 false)))))))) = some r := H
 have A2 := Aside0.mk A20
 clear A20
 by_cases c3 : t533 = true
 ·subst c3
  have H1 : (some true) = some r := by rw [if_pos rfl] at H; exact H
  clear H; have H := H1
  clear H1; obtain rfl := Option.some.inj H
  go_enter Tryd.func8, Tryd.ntmps8
  go_wp2_with (first | ((with_reducible refine gate_callee (f := 11) rfl ?_); refine goesC_ (some 13) Tryd.func11 #[.slice A0 l0.length c0] ?_; (with_reducible refine (laws_big.calls _ _ l0 true _ ?side1 ?side2 A2.out).mono ?_); (case side1 => repeat (first | exact HR0.out | (with_reducible refine Kd.C_alloc ?_ _) | (with_reducible refine Kd.C_drewN ?_ _) | (with_reducible refine Kd.C_drew ?_))); (case side2 => exact HC0.out); rintro e w' ⟨rfl, ⟨nd, rfl⟩⟩; refine ⟨_, rfl, ?_⟩))
  go_ret
  exact ⟨by first | rfl | (simp [errW_none, errW_some] <;> rfl) | (simp [*, errW_none, errW_some] <;> rfl), by repeat (first | (with_reducible first | exact HB.out | apply below_alloc | apply pw_below_drewN | apply below_drew1) | exact HB.out)⟩
 ·replace c3 := Bool.eq_false_iff.mpr c3
  subst c3
  have H1 : ((spec_DrawCanon.f k l0).bind fun t534 => ((impl_Canon.f k t534).bind fun t538 => ((impl_ReadCanon.f k t538).bind fun i9a => ((spec_VocabOk.f k t534).bind fun t544 => (if (i9a.2 != t544) = true then (laws_FnCanon.j0 k l0 true) else (if i9a.2 = true then ((laws_samePairs.f k i9a.1 t534).bind fun t545 => (if t545 = true then ((impl_Digest.f k t534).bind fun t546 => ((spec_Sha.f k t538).bind fun t547 => (laws_FnCanon.j0 k l0 (t546.toList != t547.toList)))) else (laws_FnCanon.j0 k l0 true))) else (laws_FnCanon.j0 k l0 false))))))) = some r := by rw [if_neg (show ¬ (false = true) by decide)] at H; exact H
  clear H; have H := H1
  clear H1; replace H := Option.bind_eq_some_iff.mp H
  obtain ⟨t534, A40, H⟩ := H
  replace H : ((impl_Canon.f k t534).bind fun t538 => ((impl_ReadCanon.f k t538).bind fun i9a => ((spec_VocabOk.f k t534).bind fun t544 => (if (i9a.2 != t544) = true then (laws_FnCanon.j0 k l0 true) else (if i9a.2 = true then ((laws_samePairs.f k i9a.1 t534).bind fun t545 => (if t545 = true then ((impl_Digest.f k t534).bind fun t546 => ((spec_Sha.f k t538).bind fun t547 => (laws_FnCanon.j0 k l0 (t546.toList != t547.toList)))) else (laws_FnCanon.j0 k l0 true))) else (laws_FnCanon.j0 k l0 false)))))) = some r := H
  have A4 := Aside0.mk A40
  clear A40; replace H := Option.bind_eq_some_iff.mp H
  obtain ⟨t538, A50, H⟩ := H
  replace H : ((impl_ReadCanon.f k t538).bind fun i9a => ((spec_VocabOk.f k t534).bind fun t544 => (if (i9a.2 != t544) = true then (laws_FnCanon.j0 k l0 true) else (if i9a.2 = true then ((laws_samePairs.f k i9a.1 t534).bind fun t545 => (if t545 = true then ((impl_Digest.f k t534).bind fun t546 => ((spec_Sha.f k t538).bind fun t547 => (laws_FnCanon.j0 k l0 (t546.toList != t547.toList)))) else (laws_FnCanon.j0 k l0 true))) else (laws_FnCanon.j0 k l0 false))))) = some r := H
  have A5 := Aside0.mk A50
  clear A50; replace H := Option.bind_eq_some_iff.mp H
  obtain ⟨⟨t539, t542⟩, A60, H⟩ := H
  replace H : ((spec_VocabOk.f k t534).bind fun t544 => (if (t542 != t544) = true then (laws_FnCanon.j0 k l0 true) else (if t542 = true then ((laws_samePairs.f k t539 t534).bind fun t545 => (if t545 = true then ((impl_Digest.f k t534).bind fun t546 => ((spec_Sha.f k t538).bind fun t547 => (laws_FnCanon.j0 k l0 (t546.toList != t547.toList)))) else (laws_FnCanon.j0 k l0 true))) else (laws_FnCanon.j0 k l0 false)))) = some r := H
  have A6 := Aside0.mk A60
  clear A60; have HC7 := Aside0.mk H
  clear H
  go_enter Tryd.func8, Tryd.ntmps8
  go_upto_region 6 with (first | ((with_reducible refine gate_callee (f := 11) rfl ?_); refine goesC_ (some 13) Tryd.func11 #[.slice A0 l0.length c0] ?_; (with_reducible refine (laws_big.calls _ _ l0 false _ ?side1 ?side2 A2.out).mono ?_); (case side1 => repeat (first | exact HR0.out | (with_reducible refine Kd.C_alloc ?_ _) | (with_reducible refine Kd.C_drewN ?_ _) | (with_reducible refine Kd.C_drew ?_))); (case side2 => exact HC0.out); rintro e w' ⟨rfl, ⟨nd, rfl⟩⟩; refine ⟨_, rfl, ?_⟩) | ((with_reducible refine gate_callee (f := 26) rfl ?_); refine goesC_ (some 15) Tryd.func26 #[.slice A0 l0.length c0] ?_; (with_reducible refine (spec_DrawCanon.calls k _ _ l0 t534 _ ?side1 ?side2 A4.out).mono ?_); (case side1 => repeat (first | exact HR0.out | (with_reducible refine Kd.C_alloc ?_ _) | (with_reducible refine Kd.C_drewN ?_ _) | (with_reducible refine Kd.C_drew ?_))); (case side2 => exact HC0.out); rintro e w8 ⟨v535, rfl, ho0, hb⟩; refine ⟨_, rfl, ?_⟩; have e9a := Aside0.mk (Kd.R_lower ho0 (below_size (be HB))); replace HB := bh HB hb; (try clear hb); (try clear hb2); (try clear hk); (try clear hi)) | ((with_reducible refine gate_dst (N := 3) rfl ?_); refine box_event ?hg (N := 3) ?hd (cs := #[.slice none 0 0]) (t := 45) ?hr ?_; (case hd => rfl); (case hg => rfl); (case hr => first | (go_simp; done) | (go_simp; rfl)); intro z9a hg w9 hbox hb; have c9a := Aside0.mk (hbox); have GW537 := bs HB hg; have C9a := bs HB hg; replace e9a := Aside0.mk (Kd.R_below (rr e9a) hb); replace HB := bh HB hb; clear hb hbox hg; obtain ⟨Ao10, co10, eo10⟩ := Kd.R_slice e9a.out; subst eo10; have hcz11_0 : w9.cell? ⟨z9a, 0, none⟩ = some (.slice none 0 0) := bc c9a 0; have hfz11_0 := blk_frozen c9a.out 0) | ((with_reducible refine gate_callee (f := 27) rfl ?_); refine goesC_ (some 17) Tryd.func27 #[.agg #[.slice Ao10 t534.length co10]] ?_; (with_reducible refine (impl_Canon.calls k _ _ t534 t538 _ ?side1 ?side2 A5.out).mono ?_); (case side1 => refine (Kd.R_reads' (e := 76) (base := w.heap.size) (ok := fun k_ => True) (n := t534.length) (c := co10) ?_).2.2; exact (by (with_reducible repeat (first | apply Kd.R_alloc | apply Kd.R_drewN | apply Kd.R_drew)); exact (Kd.R_mono (Kd.R_far (p := ⟨z9a, 0, none⟩) (Kd.R_types e9a.out c9a.out (by decide)) (fun _ hk => hk.2) (.slice Ao10 t534.length co10)) (fun _ h_ => h_.1)))); (case side2 => exact (Kd.R_reads' e9a.out).2.1); rintro e w12 ⟨rfl, hb⟩; refine ⟨_, rfl, ?_⟩; have n0_ := Aside0.mk (Kd.R_below (by (with_reducible repeat (first | apply Kd.R_alloc | apply Kd.R_drewN | apply Kd.R_drew)); exact (Kd.R_mono (Kd.R_far (p := ⟨z9a, 0, none⟩) (Kd.R_types e9a.out c9a.out (by decide)) (fun _ hk => hk.2) (.slice Ao10 t534.length co10)) (fun _ h_ => h_.1))) hb); have n1_ := bp #[.slice Ao10 t534.length co10] c9a hb; replace HB := bh HB hb; clear e9a c9a; have e9a := n0_; have c9a := n1_; clear n0_ n1_; (try clear hb); (try clear hb2); (try clear hk); (try clear hi)) | ((with_reducible refine gate_callee (f := 28) rfl ?_); refine goesC_ (some 20) Tryd.func28 #[.string t538] ?_; (with_reducible refine (impl_ReadCanon.calls k t538 t539 t542 _ A6.out).mono ?_); rintro e w13 ⟨v540, rfl, ho0, hb⟩; refine ⟨_, rfl, ?_⟩; have n0_ := Aside0.mk (Kd.R_elder' (rr e9a) (Kd.R_base ho0) hb); have h9a := Aside0.mk (Kd.R_lower (Kd.R_new' ho0 (Kd.R_lt (rr e9a))) (below_size (be HB))); replace c9a := bq c9a hb; replace HB := bh HB hb; clear e9a; have e9a := n0_; clear n0_; (try clear hb); (try clear hb2); (try clear hk); (try clear hi)) | ((with_reducible refine gate_dst (N := 5) rfl ?_); refine box_event ?hg (N := 5) ?hd (cs := #[.slice none 0 0]) (t := 45) ?hr ?_; (case hd => rfl); (case hg => rfl); (case hr => first | (go_simp; done) | (go_simp; rfl)); intro m9a hg w14 hbox hb; have d9a := Aside0.mk (hbox); have GW543 := bs HB hg; have D9a := bs HB hg; have j9a := bl c9a hg; have k9a := bg c9a hg; replace e9a := Aside0.mk (Kd.R_below (rr e9a) hb); replace h9a := Aside0.mk (Kd.R_below (rr h9a) hb); replace c9a := bq c9a hb; replace HB := bh HB hb; clear hb hbox hg; obtain ⟨Ao15, co15, eo15⟩ := Kd.R_slice h9a.out; subst eo15; have hnb16 := k9a.out; have hnc16 := j9a.out; have hcz17_0 : w14.cell? ⟨m9a, 0, none⟩ = some (.slice none 0 0) := bc d9a 0; have hfz17_0 := blk_frozen d9a.out 0))
  (try simp only [putL])
  go_cut [44] (fun v44 wc => ∃ (kq : Nat) (x44_6 : Bool), v44 = .bool x44_6 ∧ Aside0 (laws_FnCanon.j0 kq l0 x44_6 = some r) ∧ Aside0 (kq ≤ k) ∧ Aside0 (Kd.R k76 76 wc w.heap.size (fun k_ => some k_ ≠ ((.slice Ao15 t539.length co15) : Value).ownBlock) (.slice Ao10 t534.length co10) t534) ∧ Aside0 (Kd.R k76 76 wc w.heap.size (fun k_ => some k_ ≠ ((.slice Ao10 t534.length co10) : Value).ownBlock) (.slice Ao15 t539.length co15) t539) ∧ Aside0 (wc.heap[z9a]? = some (.cells #[(.slice Ao10 t534.length co10)] 45 (0, 0))) ∧ Aside0 (wc.heap[m9a]? = some (.cells #[(.slice Ao15 t539.length co15)] 45 (0, 0))) ∧ Aside0 (Below w.heap.size w wc))
  case first =>
   have H := HC7.out; clear HC7; replace H := Option.bind_eq_some_iff.mp H
   obtain ⟨t544, A180, H⟩ := H
   replace H : (if (t542 != t544) = true then (laws_FnCanon.j0 k l0 true) else (if t542 = true then ((laws_samePairs.f k t539 t534).bind fun t545 => (if t545 = true then ((impl_Digest.f k t534).bind fun t546 => ((spec_Sha.f k t538).bind fun t547 => (laws_FnCanon.j0 k l0 (t546.toList != t547.toList)))) else (laws_FnCanon.j0 k l0 true))) else (laws_FnCanon.j0 k l0 false))) = some r := H
   have A18 := Aside0.mk A180
   clear A180
   by_cases c19 : (t542 != t544) = true
   ·rw [if_pos c19] at H
    have c19b0 : (t542 != t544) = true := c19
    (try (have c19b1 : decide (t542 = t544) = false := by simpa using c19))
    (try (have c19b2 : (t542 == t544) = false := by simpa using c19))
    (try (have c19b3 : ¬ (t542 = t544) := by simpa using c19))
    clear c19
    (first | rw [c19b0] | (simp only [i64_w, i32_w]; rw [c19b0]) | skip)
    have H' := Aside0.mk H
    clear H; have hnb20 := j9a.out; have hnc20 := k9a.out; have hcz21_0 : w14.cell? ⟨z9a, 0, none⟩ = some (.slice Ao10 t534.length co10) := bc c9a 0
    have hfz21_0 := blk_frozen c9a.out 0
    go_wp2_with (first | ((with_reducible refine gate_callee (f := 29) rfl ?_); refine goesC_ (some 25) Tryd.func29 #[.agg #[.slice Ao10 t534.length co10]] ?_; (with_reducible refine (spec_VocabOk.calls k _ _ t534 t544 _ ?side1 ?side2 A18.out).mono ?_); (case side1 => refine (Kd.R_reads' (e := 76) (base := w.heap.size) (ok := fun k_ => (True ∧ some k_ ≠ (.slice Ao15 t539.length co15 : Value).ownBlock)) (n := t534.length) (c := co10) ?_).2.2; exact (by (with_reducible repeat (first | apply Kd.R_alloc | apply Kd.R_drewN | apply Kd.R_drew)); exact (Kd.R_mono (Kd.R_far (p := ⟨m9a, 0, none⟩) (Kd.R_types e9a.out d9a.out (by decide)) (fun _ hk => hk.2) (.slice Ao15 t539.length co15)) (fun _ h_ => h_.1)))); (case side2 => exact (Kd.R_reads' e9a.out).2.1); rintro e w22 ⟨rfl, hb⟩; refine ⟨_, rfl, ?_⟩; have n0_ := Aside0.mk (Kd.R_below (by (with_reducible repeat (first | apply Kd.R_alloc | apply Kd.R_drewN | apply Kd.R_drew)); exact (Kd.R_mono (Kd.R_far (p := ⟨m9a, 0, none⟩) (Kd.R_types e9a.out d9a.out (by decide)) (fun _ hk => hk.2) (.slice Ao15 t539.length co15)) (fun _ h_ => h_.1))) hb); have n1_ := Aside0.mk (Kd.R_below (by (with_reducible repeat (first | apply Kd.R_alloc | apply Kd.R_drewN | apply Kd.R_drew)); exact (Kd.R_mono (Kd.R_far (p := ⟨m9a, 0, none⟩) (Kd.R_types h9a.out d9a.out (by decide)) (fun _ hk => hk.2) (.slice Ao15 t539.length co15)) (fun _ h_ => h_.1))) hb); have n2_ := bf c9a hb; have n3_ := bp #[.slice Ao15 t539.length co15] d9a hb; replace HB := bh HB hb; clear e9a h9a c9a d9a; have e9a := n0_; have h9a := n1_; have c9a := n2_; have d9a := n3_; clear n0_ n1_ n2_ n3_; (try clear hb); (try clear hb2); (try clear hk); (try clear hi)))
    go_meet
    case rel => exact ⟨_, (true), (by first | rfl | (simp; done) | (simp [*]; done)), H', ⟨by first | omega | exact Nat.le_refl _⟩, ⟨by (with_reducible repeat (first | apply Kd.R_alloc | apply Kd.R_drewN | apply Kd.R_drew)); exact Kd.R_mono e9a.out (fun _ hk => hk.2)⟩, ⟨by (with_reducible repeat (first | apply Kd.R_alloc | apply Kd.R_drewN | apply Kd.R_drew)); exact Kd.R_mono h9a.out (fun _ hk => hk.2)⟩, ⟨bb c9a⟩, ⟨bb d9a⟩, ⟨by repeat (first | (with_reducible first | exact HB.out | apply below_alloc | apply pw_below_drewN | apply below_drew1 | refine below_set ?_ C9a.out | refine below_set ?_ D9a.out) | exact HB.out)⟩⟩
   ·rw [if_neg c19] at H
    have c19b0 : (t542 != t544) = false := by simpa using c19
    (try (have c19b1 : decide (t542 = t544) = true := by simpa using c19))
    (try (have c19b2 : (t542 == t544) = true := by simpa using c19))
    clear c19
    (first | rw [c19b0] | (simp only [i64_w, i32_w]; rw [c19b0]) | skip)
    by_cases c23 : t542 = true
    ·subst c23
     have H1 : ((laws_samePairs.f k t539 t534).bind fun t545 => (if t545 = true then ((impl_Digest.f k t534).bind fun t546 => ((spec_Sha.f k t538).bind fun t547 => (laws_FnCanon.j0 k l0 (t546.toList != t547.toList)))) else (laws_FnCanon.j0 k l0 true))) = some r := by rw [if_pos rfl] at H; exact H
     clear H; have H := H1
     clear H1; replace H := Option.bind_eq_some_iff.mp H
     obtain ⟨t545, A240, H⟩ := H
     replace H : (if t545 = true then ((impl_Digest.f k t534).bind fun t546 => ((spec_Sha.f k t538).bind fun t547 => (laws_FnCanon.j0 k l0 (t546.toList != t547.toList)))) else (laws_FnCanon.j0 k l0 true)) = some r := H
     have A24 := Aside0.mk A240
     clear A240
     by_cases c25 : t545 = true
     ·subst c25
      have H1 : ((impl_Digest.f k t534).bind fun t546 => ((spec_Sha.f k t538).bind fun t547 => (laws_FnCanon.j0 k l0 (t546.toList != t547.toList)))) = some r := by rw [if_pos rfl] at H; exact H
      clear H; have H := H1
      clear H1; replace H := Option.bind_eq_some_iff.mp H
      obtain ⟨t546, A260, H⟩ := H
      replace H : ((spec_Sha.f k t538).bind fun t547 => (laws_FnCanon.j0 k l0 (t546.toList != t547.toList))) = some r := H
      have A26 := Aside0.mk A260
      clear A260; replace H := Option.bind_eq_some_iff.mp H
      obtain ⟨t547, A270, H⟩ := H
      replace H : (laws_FnCanon.j0 k l0 (t546.toList != t547.toList)) = some r := H
      have A27 := Aside0.mk A270
      clear A270; have H' := Aside0.mk H
      clear H; have hnb28 := j9a.out; have hnc28 := k9a.out; have hcz29_0 : w14.cell? ⟨z9a, 0, none⟩ = some (.slice Ao10 t534.length co10) := bc c9a 0
      have hfz29_0 := blk_frozen c9a.out 0
      go_wp2_with (first | ((with_reducible refine gate_callee (f := 29) rfl ?_); refine goesC_ (some 25) Tryd.func29 #[.agg #[.slice Ao10 t534.length co10]] ?_; (with_reducible refine (spec_VocabOk.calls k _ _ t534 t544 _ ?side1 ?side2 A18.out).mono ?_); (case side1 => refine (Kd.R_reads' (e := 76) (base := w.heap.size) (ok := fun k_ => (True ∧ some k_ ≠ (.slice Ao15 t539.length co15 : Value).ownBlock)) (n := t534.length) (c := co10) ?_).2.2; exact (by (with_reducible repeat (first | apply Kd.R_alloc | apply Kd.R_drewN | apply Kd.R_drew)); exact (Kd.R_mono (Kd.R_far (p := ⟨m9a, 0, none⟩) (Kd.R_types e9a.out d9a.out (by decide)) (fun _ hk => hk.2) (.slice Ao15 t539.length co15)) (fun _ h_ => h_.1)))); (case side2 => exact (Kd.R_reads' e9a.out).2.1); rintro e w30 ⟨rfl, hb⟩; refine ⟨_, rfl, ?_⟩; have n0_ := Aside0.mk (Kd.R_below (by (with_reducible repeat (first | apply Kd.R_alloc | apply Kd.R_drewN | apply Kd.R_drew)); exact (Kd.R_mono (Kd.R_far (p := ⟨m9a, 0, none⟩) (Kd.R_types e9a.out d9a.out (by decide)) (fun _ hk => hk.2) (.slice Ao15 t539.length co15)) (fun _ h_ => h_.1))) hb); have n1_ := Aside0.mk (Kd.R_below (by (with_reducible repeat (first | apply Kd.R_alloc | apply Kd.R_drewN | apply Kd.R_drew)); exact (Kd.R_mono (Kd.R_far (p := ⟨m9a, 0, none⟩) (Kd.R_types h9a.out d9a.out (by decide)) (fun _ hk => hk.2) (.slice Ao15 t539.length co15)) (fun _ h_ => h_.1))) hb); have n2_ := bf c9a hb; have n3_ := bp #[.slice Ao15 t539.length co15] d9a hb; replace HB := bh HB hb; clear e9a h9a c9a d9a; have e9a := n0_; have h9a := n1_; have c9a := n2_; have d9a := n3_; clear n0_ n1_ n2_ n3_; (try clear hb); (try clear hb2); (try clear hk); (try clear hi); have hcz31_0 : w30.cell? ⟨m9a, 0, none⟩ = some (.slice Ao15 t539.length co15) := bc d9a 0; have hfz31_0 := blk_frozen d9a.out 0; have hcz32_0 : w30.cell? ⟨z9a, 0, none⟩ = some (.slice Ao10 t534.length co10) := bc c9a 0; have hfz32_0 := blk_frozen c9a.out 0) | (go_at_call 30; (with_reducible refine (laws_samePairs.calls k _ _ t539 _ _ t534 true _ ?side1 ?side2 ?side3 ?side4 A24.out).mono ?_); (case side1 => repeat (first | exact (Kd.R_reads' h9a.out).2.2 | (with_reducible refine Kd.C_alloc ?_ _) | (with_reducible refine Kd.C_drewN ?_ _) | (with_reducible refine Kd.C_drew ?_))); (case side2 => exact (Kd.R_reads' h9a.out).2.1); (case side3 => repeat (first | exact (Kd.R_reads' e9a.out).2.2 | (with_reducible refine Kd.C_alloc ?_ _) | (with_reducible refine Kd.C_drewN ?_ _) | (with_reducible refine Kd.C_drew ?_))); (case side4 => exact (Kd.R_reads' e9a.out).2.1); rintro e w' ⟨rfl, ⟨nd, rfl⟩⟩) | (go_at_call 24; (with_reducible refine (impl_Digest.calls k _ _ t534 t546 _ ?side1 ?side2 A26.out).mono ?_); (case side1 => repeat (first | exact (Kd.R_reads' e9a.out).2.2 | (with_reducible refine Kd.C_alloc ?_ _) | (with_reducible refine Kd.C_drewN ?_ _) | (with_reducible refine Kd.C_drew ?_))); (case side2 => exact (Kd.R_reads' e9a.out).2.1); rintro e w33 ⟨rfl, hb⟩; replace e9a := Aside0.mk (Kd.R_below (rr e9a) hb); replace h9a := Aside0.mk (Kd.R_below (rr h9a) hb); replace c9a := bq c9a hb; replace d9a := bq d9a hb; replace HB := bh HB hb; (try clear hb); (try clear hb2); (try clear hk); (try clear hi)) | (go_at_call 9; (with_reducible refine (spec_Sha.calls k t538 t547 _ A27.out).mono ?_); rintro e w34 ⟨rfl, hb⟩; replace e9a := Aside0.mk (Kd.R_below (rr e9a) hb); replace h9a := Aside0.mk (Kd.R_below (rr h9a) hb); replace c9a := bq c9a hb; replace d9a := bq d9a hb; replace HB := bh HB hb; (try clear hb); (try clear hb2); (try clear hk); (try clear hi)))
      go_meet
      case rel => exact ⟨_, ((t546.toList != t547.toList)), (by first | rfl | (simp; done) | (simp [*]; done)), H', ⟨by first | omega | exact Nat.le_refl _⟩, ⟨by (with_reducible repeat (first | apply Kd.R_alloc | apply Kd.R_drewN | apply Kd.R_drew)); exact Kd.R_mono e9a.out (fun _ hk => hk.2)⟩, ⟨by (with_reducible repeat (first | apply Kd.R_alloc | apply Kd.R_drewN | apply Kd.R_drew)); exact Kd.R_mono h9a.out (fun _ hk => hk.2)⟩, ⟨bb c9a⟩, ⟨bb d9a⟩, ⟨by repeat (first | (with_reducible first | exact HB.out | apply below_alloc | apply pw_below_drewN | apply below_drew1 | refine below_set ?_ C9a.out | refine below_set ?_ D9a.out) | exact HB.out)⟩⟩
     ·replace c25 := Bool.eq_false_iff.mpr c25
      subst c25
      have H1 : (laws_FnCanon.j0 k l0 true) = some r := by rw [if_neg (show ¬ (false = true) by decide)] at H; exact H
      clear H; have H := H1
      clear H1; have H' := Aside0.mk H
      clear H; have hnb35 := j9a.out; have hnc35 := k9a.out; have hcz36_0 : w14.cell? ⟨z9a, 0, none⟩ = some (.slice Ao10 t534.length co10) := bc c9a 0
      have hfz36_0 := blk_frozen c9a.out 0
      go_wp2_with (first | ((with_reducible refine gate_callee (f := 29) rfl ?_); refine goesC_ (some 25) Tryd.func29 #[.agg #[.slice Ao10 t534.length co10]] ?_; (with_reducible refine (spec_VocabOk.calls k _ _ t534 t544 _ ?side1 ?side2 A18.out).mono ?_); (case side1 => refine (Kd.R_reads' (e := 76) (base := w.heap.size) (ok := fun k_ => (True ∧ some k_ ≠ (.slice Ao15 t539.length co15 : Value).ownBlock)) (n := t534.length) (c := co10) ?_).2.2; exact (by (with_reducible repeat (first | apply Kd.R_alloc | apply Kd.R_drewN | apply Kd.R_drew)); exact (Kd.R_mono (Kd.R_far (p := ⟨m9a, 0, none⟩) (Kd.R_types e9a.out d9a.out (by decide)) (fun _ hk => hk.2) (.slice Ao15 t539.length co15)) (fun _ h_ => h_.1)))); (case side2 => exact (Kd.R_reads' e9a.out).2.1); rintro e w37 ⟨rfl, hb⟩; refine ⟨_, rfl, ?_⟩; have n0_ := Aside0.mk (Kd.R_below (by (with_reducible repeat (first | apply Kd.R_alloc | apply Kd.R_drewN | apply Kd.R_drew)); exact (Kd.R_mono (Kd.R_far (p := ⟨m9a, 0, none⟩) (Kd.R_types e9a.out d9a.out (by decide)) (fun _ hk => hk.2) (.slice Ao15 t539.length co15)) (fun _ h_ => h_.1))) hb); have n1_ := Aside0.mk (Kd.R_below (by (with_reducible repeat (first | apply Kd.R_alloc | apply Kd.R_drewN | apply Kd.R_drew)); exact (Kd.R_mono (Kd.R_far (p := ⟨m9a, 0, none⟩) (Kd.R_types h9a.out d9a.out (by decide)) (fun _ hk => hk.2) (.slice Ao15 t539.length co15)) (fun _ h_ => h_.1))) hb); have n2_ := bf c9a hb; have n3_ := bp #[.slice Ao15 t539.length co15] d9a hb; replace HB := bh HB hb; clear e9a h9a c9a d9a; have e9a := n0_; have h9a := n1_; have c9a := n2_; have d9a := n3_; clear n0_ n1_ n2_ n3_; (try clear hb); (try clear hb2); (try clear hk); (try clear hi); have hcz38_0 : w37.cell? ⟨m9a, 0, none⟩ = some (.slice Ao15 t539.length co15) := bc d9a 0; have hfz38_0 := blk_frozen d9a.out 0; have hcz39_0 : w37.cell? ⟨z9a, 0, none⟩ = some (.slice Ao10 t534.length co10) := bc c9a 0; have hfz39_0 := blk_frozen c9a.out 0) | (go_at_call 30; (with_reducible refine (laws_samePairs.calls k _ _ t539 _ _ t534 false _ ?side1 ?side2 ?side3 ?side4 A24.out).mono ?_); (case side1 => repeat (first | exact (Kd.R_reads' h9a.out).2.2 | (with_reducible refine Kd.C_alloc ?_ _) | (with_reducible refine Kd.C_drewN ?_ _) | (with_reducible refine Kd.C_drew ?_))); (case side2 => exact (Kd.R_reads' h9a.out).2.1); (case side3 => repeat (first | exact (Kd.R_reads' e9a.out).2.2 | (with_reducible refine Kd.C_alloc ?_ _) | (with_reducible refine Kd.C_drewN ?_ _) | (with_reducible refine Kd.C_drew ?_))); (case side4 => exact (Kd.R_reads' e9a.out).2.1); rintro e w' ⟨rfl, ⟨nd, rfl⟩⟩))
      go_meet
      case rel => exact ⟨_, (true), (by first | rfl | (simp; done) | (simp [*]; done)), H', ⟨by first | omega | exact Nat.le_refl _⟩, ⟨by (with_reducible repeat (first | apply Kd.R_alloc | apply Kd.R_drewN | apply Kd.R_drew)); exact Kd.R_mono e9a.out (fun _ hk => hk.2)⟩, ⟨by (with_reducible repeat (first | apply Kd.R_alloc | apply Kd.R_drewN | apply Kd.R_drew)); exact Kd.R_mono h9a.out (fun _ hk => hk.2)⟩, ⟨bb c9a⟩, ⟨bb d9a⟩, ⟨by repeat (first | (with_reducible first | exact HB.out | apply below_alloc | apply pw_below_drewN | apply below_drew1 | refine below_set ?_ C9a.out | refine below_set ?_ D9a.out) | exact HB.out)⟩⟩
    ·replace c23 := Bool.eq_false_iff.mpr c23
     subst c23
     have H1 : (laws_FnCanon.j0 k l0 false) = some r := by rw [if_neg (show ¬ (false = true) by decide)] at H; exact H
     clear H; have H := H1
     clear H1; have H' := Aside0.mk H
     clear H; have hnb40 := j9a.out; have hnc40 := k9a.out; have hcz41_0 : w14.cell? ⟨z9a, 0, none⟩ = some (.slice Ao10 t534.length co10) := bc c9a 0
     have hfz41_0 := blk_frozen c9a.out 0
     go_wp2_with (first | ((with_reducible refine gate_callee (f := 29) rfl ?_); refine goesC_ (some 25) Tryd.func29 #[.agg #[.slice Ao10 t534.length co10]] ?_; (with_reducible refine (spec_VocabOk.calls k _ _ t534 t544 _ ?side1 ?side2 A18.out).mono ?_); (case side1 => refine (Kd.R_reads' (e := 76) (base := w.heap.size) (ok := fun k_ => (True ∧ some k_ ≠ (.slice Ao15 t539.length co15 : Value).ownBlock)) (n := t534.length) (c := co10) ?_).2.2; exact (by (with_reducible repeat (first | apply Kd.R_alloc | apply Kd.R_drewN | apply Kd.R_drew)); exact (Kd.R_mono (Kd.R_far (p := ⟨m9a, 0, none⟩) (Kd.R_types e9a.out d9a.out (by decide)) (fun _ hk => hk.2) (.slice Ao15 t539.length co15)) (fun _ h_ => h_.1)))); (case side2 => exact (Kd.R_reads' e9a.out).2.1); rintro e w42 ⟨rfl, hb⟩; refine ⟨_, rfl, ?_⟩; have n0_ := Aside0.mk (Kd.R_below (by (with_reducible repeat (first | apply Kd.R_alloc | apply Kd.R_drewN | apply Kd.R_drew)); exact (Kd.R_mono (Kd.R_far (p := ⟨m9a, 0, none⟩) (Kd.R_types e9a.out d9a.out (by decide)) (fun _ hk => hk.2) (.slice Ao15 t539.length co15)) (fun _ h_ => h_.1))) hb); have n1_ := Aside0.mk (Kd.R_below (by (with_reducible repeat (first | apply Kd.R_alloc | apply Kd.R_drewN | apply Kd.R_drew)); exact (Kd.R_mono (Kd.R_far (p := ⟨m9a, 0, none⟩) (Kd.R_types h9a.out d9a.out (by decide)) (fun _ hk => hk.2) (.slice Ao15 t539.length co15)) (fun _ h_ => h_.1))) hb); have n2_ := bf c9a hb; have n3_ := bp #[.slice Ao15 t539.length co15] d9a hb; replace HB := bh HB hb; clear e9a h9a c9a d9a; have e9a := n0_; have h9a := n1_; have c9a := n2_; have d9a := n3_; clear n0_ n1_ n2_ n3_; (try clear hb); (try clear hb2); (try clear hk); (try clear hi)))
     go_meet
     case rel => exact ⟨_, (false), (by first | rfl | (simp; done) | (simp [*]; done)), H', ⟨by first | omega | exact Nat.le_refl _⟩, ⟨by (with_reducible repeat (first | apply Kd.R_alloc | apply Kd.R_drewN | apply Kd.R_drew)); exact Kd.R_mono e9a.out (fun _ hk => hk.2)⟩, ⟨by (with_reducible repeat (first | apply Kd.R_alloc | apply Kd.R_drewN | apply Kd.R_drew)); exact Kd.R_mono h9a.out (fun _ hk => hk.2)⟩, ⟨bb c9a⟩, ⟨bb d9a⟩, ⟨by repeat (first | (with_reducible first | exact HB.out | apply below_alloc | apply pw_below_drewN | apply below_drew1 | refine below_set ?_ C9a.out | refine below_set ?_ D9a.out) | exact HB.out)⟩⟩
  case rest =>
   clear HC7; obtain ⟨kq, x44_6, rfl, HA, HJ6, a9a, b9a, c9a, d9a, HB⟩ := hcut
   cases kq with
   | zero => exact absurd HA.out (by simp [laws_FnCanon.j0])
   | succ kj6 =>
    have H := HA.out; clear HA; simp only [laws_FnCanon.j0] at H
    by_cases c43 : x44_6 = true
    ·subst c43
     have H1 : (none) = some r := by rw [if_pos rfl] at H; exact H
     clear H; have H := H1
     clear H1; exact absurd H (by simp)
    ·replace c43 := Bool.eq_false_iff.mpr c43
     subst c43
     have H1 : ((spec_DrawReadCanon.f kj6 l0).bind fun t548 => ((impl_ReadCanon.f kj6 t548).bind fun A9a => ((spec_ReadCanon.f kj6 t548).bind fun bt554 => (if (A9a.2 == bt554.2) = true then (if A9a.2 = true then ((impl_Canon.f kj6 A9a.1).bind fun t559 => (if t559.toList = t548.toList then ((impl_VocabOk.f kj6 A9a.1).bind fun t560 => (some t560)) else (none))) else (some true)) else (none))))) = some r := by rw [if_neg (show ¬ (false = true) by decide)] at H; exact H
     clear H; have H := H1
     clear H1; replace H := Option.bind_eq_some_iff.mp H
     obtain ⟨t548, A440, H⟩ := H
     replace H : ((impl_ReadCanon.f kj6 t548).bind fun A9a => ((spec_ReadCanon.f kj6 t548).bind fun bt554 => (if (A9a.2 == bt554.2) = true then (if A9a.2 = true then ((impl_Canon.f kj6 A9a.1).bind fun t559 => (if t559.toList = t548.toList then ((impl_VocabOk.f kj6 A9a.1).bind fun t560 => (some t560)) else (none))) else (some true)) else (none)))) = some r := H
     have A44 := Aside0.mk A440
     clear A440; replace H := Option.bind_eq_some_iff.mp H
     obtain ⟨⟨t549, t552⟩, A450, H⟩ := H
     replace H : ((spec_ReadCanon.f kj6 t548).bind fun bt554 => (if (t552 == bt554.2) = true then (if t552 = true then ((impl_Canon.f kj6 t549).bind fun t559 => (if t559.toList = t548.toList then ((impl_VocabOk.f kj6 t549).bind fun t560 => (some t560)) else (none))) else (some true)) else (none))) = some r := H
     have A45 := Aside0.mk A450
     clear A450; replace H := Option.bind_eq_some_iff.mp H
     obtain ⟨⟨t554, t557⟩, A460, H⟩ := H
     replace H : (if (t552 == t557) = true then (if t552 = true then ((impl_Canon.f kj6 t549).bind fun t559 => (if t559.toList = t548.toList then ((impl_VocabOk.f kj6 t549).bind fun t560 => (some t560)) else (none))) else (some true)) else (none)) = some r := H
     have A46 := Aside0.mk A460
     clear A460
     by_cases c47 : (t552 == t557) = true
     ·rw [if_pos c47] at H
      have c47b0 : (t552 == t557) = true := c47
      (try (have c47b1 : decide (t552 = t557) = true := by simpa using c47))
      (try (have c47b2 : (t552 == t557) = true := by simpa using c47))
      clear c47
      by_cases c48 : t552 = true
      ·subst c48
       have H1 : ((impl_Canon.f kj6 t549).bind fun t559 => (if t559.toList = t548.toList then ((impl_VocabOk.f kj6 t549).bind fun t560 => (some t560)) else (none))) = some r := by rw [if_pos rfl] at H; exact H
       clear H; have H := H1
       clear H1; replace H := Option.bind_eq_some_iff.mp H
       obtain ⟨t559, A490, H⟩ := H
       replace H : (if t559.toList = t548.toList then ((impl_VocabOk.f kj6 t549).bind fun t560 => (some t560)) else (none)) = some r := H
       have A49 := Aside0.mk A490
       clear A490
       by_cases c50 : t559.toList = t548.toList
       ·rw [if_pos c50] at H
        have c50b0 : (t559.toList == t548.toList) = true := beq_iff_eq.mpr c50
        have c50b1 : (t559.toList != t548.toList) = false := bne_eq_false_iff_eq.mpr c50
        clear c50; replace H := Option.bind_eq_some_iff.mp H
        obtain ⟨t560, A510, H⟩ := H
        replace H : (some t560) = some r := H
        have A51 := Aside0.mk A510
        clear A510; obtain rfl := Option.some.inj H
        go_wp2_with (first | ((with_reducible refine gate_callee (f := 31) rfl ?_); refine goesC_ (some 46) Tryd.func31 #[.slice A0 l0.length c0] ?_; (with_reducible refine (spec_DrawReadCanon.calls kj6 _ _ l0 t548 _ ?side1 ?side2 A44.out).mono ?_); (case side1 => repeat (first | exact (Kd.C_below HR0.out HB.out) | (with_reducible refine Kd.C_alloc ?_ _) | (with_reducible refine Kd.C_drewN ?_ _) | (with_reducible refine Kd.C_drew ?_))); (case side2 => exact HC0.out); rintro e w52 ⟨rfl, hb⟩; refine ⟨_, rfl, ?_⟩; replace a9a := Aside0.mk (Kd.R_below (rr a9a) hb); replace b9a := Aside0.mk (Kd.R_below (rr b9a) hb); replace c9a := bq c9a hb; replace d9a := bq d9a hb; replace HB := bh HB hb; (try clear hb); (try clear hb2); (try clear hk); (try clear hi)) | ((with_reducible refine gate_callee (f := 28) rfl ?_); refine goesC_ (some 49) Tryd.func28 #[.string t548] ?_; (with_reducible refine (impl_ReadCanon.calls kj6 t548 t549 true _ A45.out).mono ?_); rintro e w53 ⟨v550, rfl, ho0, hb⟩; refine ⟨_, rfl, ?_⟩; have n0_ := Aside0.mk (Kd.R_elder' (rr a9a) (Kd.R_base ho0) hb); have n1_ := Aside0.mk (Kd.R_elder' (rr b9a) (Kd.R_base ho0) hb); have g9a := Aside0.mk (Kd.R_lower (Kd.R_new' (Kd.R_new' ho0 (Kd.R_lt (rr a9a))) (Kd.R_lt (rr b9a))) (below_size (be HB))); replace c9a := bq c9a hb; replace d9a := bq d9a hb; replace HB := bh HB hb; clear a9a b9a; have a9a := n0_; have b9a := n1_; clear n0_ n1_; (try clear hb); (try clear hb2); (try clear hk); (try clear hi)) | ((with_reducible refine gate_dst (N := 8) rfl ?_); refine box_event ?hg (N := 8) ?hd (cs := #[.slice none 0 0]) (t := 45) ?hr ?_; (case hd => rfl); (case hg => rfl); (case hr => first | (go_simp; done) | (go_simp; rfl)); intro l9a hg w54 hbox hb; have f9a := Aside0.mk (hbox); have GW553 := bs HB hg; have GE553 := bs HB hg; have p9a := bl c9a hg; have q9a := bg c9a hg; have r9a := bl d9a hg; have s9a := bg d9a hg; replace a9a := Aside0.mk (Kd.R_below (rr a9a) hb); replace b9a := Aside0.mk (Kd.R_below (rr b9a) hb); replace g9a := Aside0.mk (Kd.R_below (rr g9a) hb); replace c9a := bq c9a hb; replace d9a := bq d9a hb; replace HB := bh HB hb; clear hb hbox hg; obtain ⟨Ao55, co55, eo55⟩ := Kd.R_slice g9a.out; subst eo55; have hnb56 := q9a.out; have hnc56 := p9a.out; have hnb57 := s9a.out; have hnc57 := r9a.out; have hcz58_0 : w54.cell? ⟨l9a, 0, none⟩ = some (.slice none 0 0) := bc f9a 0; have hfz58_0 := blk_frozen f9a.out 0) | ((with_reducible refine gate_callee (f := 32) rfl ?_); refine goesC_ (some 54) Tryd.func32 #[.string t548] ?_; (with_reducible refine (spec_ReadCanon.calls kj6 t548 t554 t557 _ A46.out).mono ?_); rintro e w59 ⟨v555, rfl, ho0, hb⟩; refine ⟨_, rfl, ?_⟩; have n0_ := Aside0.mk (Kd.R_elder' (by (with_reducible repeat (first | apply Kd.R_alloc | apply Kd.R_drewN | apply Kd.R_drew)); exact (Kd.R_mono (Kd.R_far (p := ⟨l9a, 0, none⟩) (Kd.R_types a9a.out f9a.out (by decide)) (fun _ hk => hk.2) (.slice Ao55 t549.length co55)) (fun _ h_ => h_.1))) (Kd.R_base ho0) hb); have n1_ := Aside0.mk (Kd.R_elder' (by (with_reducible repeat (first | apply Kd.R_alloc | apply Kd.R_drewN | apply Kd.R_drew)); exact (Kd.R_mono (Kd.R_far (p := ⟨l9a, 0, none⟩) (Kd.R_types b9a.out f9a.out (by decide)) (fun _ hk => hk.2) (.slice Ao55 t549.length co55)) (fun _ h_ => h_.1))) (Kd.R_base ho0) hb); have n2_ := Aside0.mk (Kd.R_elder' (by (with_reducible repeat (first | apply Kd.R_alloc | apply Kd.R_drewN | apply Kd.R_drew)); exact (Kd.R_mono (Kd.R_far (p := ⟨l9a, 0, none⟩) (Kd.R_types g9a.out f9a.out (by decide)) (fun _ hk => hk.2) (.slice Ao55 t549.length co55)) (fun _ h_ => h_.1))) (Kd.R_base ho0) hb); have n4_ := bf c9a hb; have n5_ := bf d9a hb; have n6_ := bp #[.slice Ao55 t549.length co55] f9a hb; have o9a := Aside0.mk (Kd.R_lower (Kd.R_new' (Kd.R_new' (Kd.R_new' ho0 (Kd.R_lt (by (with_reducible repeat (first | apply Kd.R_alloc | apply Kd.R_drewN | apply Kd.R_drew)); exact (Kd.R_mono (Kd.R_far (p := ⟨l9a, 0, none⟩) (Kd.R_types a9a.out f9a.out (by decide)) (fun _ hk => hk.2) (.slice Ao55 t549.length co55)) (fun _ h_ => h_.1))))) (Kd.R_lt (by (with_reducible repeat (first | apply Kd.R_alloc | apply Kd.R_drewN | apply Kd.R_drew)); exact (Kd.R_mono (Kd.R_far (p := ⟨l9a, 0, none⟩) (Kd.R_types b9a.out f9a.out (by decide)) (fun _ hk => hk.2) (.slice Ao55 t549.length co55)) (fun _ h_ => h_.1))))) (Kd.R_lt (by (with_reducible repeat (first | apply Kd.R_alloc | apply Kd.R_drewN | apply Kd.R_drew)); exact (Kd.R_mono (Kd.R_far (p := ⟨l9a, 0, none⟩) (Kd.R_types g9a.out f9a.out (by decide)) (fun _ hk => hk.2) (.slice Ao55 t549.length co55)) (fun _ h_ => h_.1))))) (below_size (be HB))); replace HB := bh HB hb; clear a9a b9a g9a c9a d9a f9a; have a9a := n0_; have b9a := n1_; have g9a := n2_; have c9a := n4_; have d9a := n5_; have f9a := n6_; clear n0_ n1_ n2_ n4_ n5_ n6_; (try clear hb); (try clear hb2); (try clear hk); (try clear hi)) | ((with_reducible refine gate_dst (N := 10) rfl ?_); refine box_event ?hg (N := 10) ?hd (cs := #[.slice none 0 0]) (t := 45) ?hr ?_; (case hd => rfl); (case hg => rfl); (case hr => first | (go_simp; done) | (go_simp; rfl)); intro B9a hg w60 hbox hb; have n9a := Aside0.mk (hbox); have GW558 := bs HB hg; have GE558 := bs HB hg; have t9a := bl c9a hg; have u9a := bg c9a hg; have v9a := bl d9a hg; have w9a := bg d9a hg; have x9a := bl f9a hg; have y9a := bg f9a hg; replace a9a := Aside0.mk (Kd.R_below (rr a9a) hb); replace b9a := Aside0.mk (Kd.R_below (rr b9a) hb); replace g9a := Aside0.mk (Kd.R_below (rr g9a) hb); replace o9a := Aside0.mk (Kd.R_below (rr o9a) hb); replace c9a := bq c9a hb; replace d9a := bq d9a hb; replace f9a := bq f9a hb; replace HB := bh HB hb; clear hb hbox hg; obtain ⟨Ao61, co61, eo61⟩ := Kd.R_slice o9a.out; subst eo61; have hnb62 := u9a.out; have hnc62 := t9a.out; have hnb63 := w9a.out; have hnc63 := v9a.out; have hnb64 := y9a.out; have hnc64 := x9a.out; have hcz65_0 : w60.cell? ⟨B9a, 0, none⟩ = some (.slice none 0 0) := bc n9a 0; have hfz65_0 := blk_frozen n9a.out 0; have hcz66_0 : w60.cell? ⟨l9a, 0, none⟩ = some (.slice Ao55 t549.length co55) := bc f9a 0; have hfz66_0 := blk_frozen f9a.out 0) | (go_at_call 27; (with_reducible refine (impl_Canon.calls kj6 _ _ t549 t559 _ ?side1 ?side2 A49.out).mono ?_); (case side1 => refine (Kd.R_reads' (e := 76) (base := w.heap.size) (ok := fun k_ => (((True ∧ some k_ ≠ (.slice Ao10 t534.length co10 : Value).ownBlock) ∧ some k_ ≠ (.slice Ao15 t539.length co15 : Value).ownBlock) ∧ some k_ ≠ (.slice Ao61 t554.length co61 : Value).ownBlock)) (n := t549.length) (c := co55) ?_).2.2; exact (by (with_reducible repeat (first | apply Kd.R_alloc | apply Kd.R_drewN | apply Kd.R_drew)); exact (Kd.R_mono (Kd.R_far (p := ⟨B9a, 0, none⟩) (Kd.R_types g9a.out n9a.out (by decide)) (fun _ hk => hk.2) (.slice Ao61 t554.length co61)) (fun _ h_ => h_.1)))); (case side2 => exact (Kd.R_reads' g9a.out).2.1); rintro e w67 ⟨rfl, hb⟩; have n0_ := Aside0.mk (Kd.R_below (by (with_reducible repeat (first | apply Kd.R_alloc | apply Kd.R_drewN | apply Kd.R_drew)); exact (Kd.R_mono (Kd.R_far (p := ⟨B9a, 0, none⟩) (Kd.R_types a9a.out n9a.out (by decide)) (fun _ hk => hk.2) (.slice Ao61 t554.length co61)) (fun _ h_ => h_.1))) hb); have n1_ := Aside0.mk (Kd.R_below (by (with_reducible repeat (first | apply Kd.R_alloc | apply Kd.R_drewN | apply Kd.R_drew)); exact (Kd.R_mono (Kd.R_far (p := ⟨B9a, 0, none⟩) (Kd.R_types b9a.out n9a.out (by decide)) (fun _ hk => hk.2) (.slice Ao61 t554.length co61)) (fun _ h_ => h_.1))) hb); have n2_ := Aside0.mk (Kd.R_below (by (with_reducible repeat (first | apply Kd.R_alloc | apply Kd.R_drewN | apply Kd.R_drew)); exact (Kd.R_mono (Kd.R_far (p := ⟨B9a, 0, none⟩) (Kd.R_types g9a.out n9a.out (by decide)) (fun _ hk => hk.2) (.slice Ao61 t554.length co61)) (fun _ h_ => h_.1))) hb); have n3_ := Aside0.mk (Kd.R_below (by (with_reducible repeat (first | apply Kd.R_alloc | apply Kd.R_drewN | apply Kd.R_drew)); exact (Kd.R_mono (Kd.R_far (p := ⟨B9a, 0, none⟩) (Kd.R_types o9a.out n9a.out (by decide)) (fun _ hk => hk.2) (.slice Ao61 t554.length co61)) (fun _ h_ => h_.1))) hb); have n4_ := bf c9a hb; have n5_ := bf d9a hb; have n6_ := bf f9a hb; have n7_ := bp #[.slice Ao61 t554.length co61] n9a hb; replace HB := bh HB hb; clear a9a b9a g9a o9a c9a d9a f9a n9a; have a9a := n0_; have b9a := n1_; have g9a := n2_; have o9a := n3_; have c9a := n4_; have d9a := n5_; have f9a := n6_; have n9a := n7_; clear n0_ n1_ n2_ n3_ n4_ n5_ n6_ n7_; (try clear hb); (try clear hb2); (try clear hk); (try clear hi); have hcz68_0 : w67.cell? ⟨l9a, 0, none⟩ = some (.slice Ao55 t549.length co55) := bc f9a 0; have hfz68_0 := blk_frozen f9a.out 0) | (go_at_call 33; (with_reducible refine (impl_VocabOk.calls kj6 _ _ t549 t560 _ ?side1 ?side2 A51.out).mono ?_); (case side1 => repeat (first | exact (Kd.R_reads' g9a.out).2.2 | (with_reducible refine Kd.C_alloc ?_ _) | (with_reducible refine Kd.C_drewN ?_ _) | (with_reducible refine Kd.C_drew ?_))); (case side2 => exact (Kd.R_reads' g9a.out).2.1); rintro e w69 ⟨rfl, hb⟩; replace a9a := Aside0.mk (Kd.R_below (rr a9a) hb); replace b9a := Aside0.mk (Kd.R_below (rr b9a) hb); replace g9a := Aside0.mk (Kd.R_below (rr g9a) hb); replace o9a := Aside0.mk (Kd.R_below (rr o9a) hb); replace c9a := bq c9a hb; replace d9a := bq d9a hb; replace f9a := bq f9a hb; replace n9a := bq n9a hb; replace HB := bh HB hb; (try clear hb); (try clear hb2); (try clear hk); (try clear hi)))
        go_ret
        exact ⟨by first | rfl | (simp [errW_none, errW_some] <;> rfl) | (simp [*, errW_none, errW_some] <;> rfl), by repeat (first | (with_reducible first | exact HB.out | apply below_alloc | apply pw_below_drewN | apply below_drew1 | refine below_set ?_ C9a.out | refine below_set ?_ D9a.out | refine below_set ?_ GE553.out | refine below_set ?_ GE558.out) | exact HB.out)⟩
       ·rw [if_neg c50] at H
        exact absurd H (by simp)
      ·replace c48 := Bool.eq_false_iff.mpr c48
       subst c48
       have H1 : (some true) = some r := by rw [if_neg (show ¬ (false = true) by decide)] at H; exact H
       clear H; have H := H1
       clear H1; obtain rfl := Option.some.inj H
       go_wp2_with (first | ((with_reducible refine gate_callee (f := 31) rfl ?_); refine goesC_ (some 46) Tryd.func31 #[.slice A0 l0.length c0] ?_; (with_reducible refine (spec_DrawReadCanon.calls kj6 _ _ l0 t548 _ ?side1 ?side2 A44.out).mono ?_); (case side1 => repeat (first | exact (Kd.C_below HR0.out HB.out) | (with_reducible refine Kd.C_alloc ?_ _) | (with_reducible refine Kd.C_drewN ?_ _) | (with_reducible refine Kd.C_drew ?_))); (case side2 => exact HC0.out); rintro e w70 ⟨rfl, hb⟩; refine ⟨_, rfl, ?_⟩; replace a9a := Aside0.mk (Kd.R_below (rr a9a) hb); replace b9a := Aside0.mk (Kd.R_below (rr b9a) hb); replace c9a := bq c9a hb; replace d9a := bq d9a hb; replace HB := bh HB hb; (try clear hb); (try clear hb2); (try clear hk); (try clear hi)) | ((with_reducible refine gate_callee (f := 28) rfl ?_); refine goesC_ (some 49) Tryd.func28 #[.string t548] ?_; (with_reducible refine (impl_ReadCanon.calls kj6 t548 t549 false _ A45.out).mono ?_); rintro e w71 ⟨v550, rfl, ho0, hb⟩; refine ⟨_, rfl, ?_⟩; have n0_ := Aside0.mk (Kd.R_elder' (rr a9a) (Kd.R_base ho0) hb); have n1_ := Aside0.mk (Kd.R_elder' (rr b9a) (Kd.R_base ho0) hb); have g9a := Aside0.mk (Kd.R_lower (Kd.R_new' (Kd.R_new' ho0 (Kd.R_lt (rr a9a))) (Kd.R_lt (rr b9a))) (below_size (be HB))); replace c9a := bq c9a hb; replace d9a := bq d9a hb; replace HB := bh HB hb; clear a9a b9a; have a9a := n0_; have b9a := n1_; clear n0_ n1_; (try clear hb); (try clear hb2); (try clear hk); (try clear hi)) | ((with_reducible refine gate_dst (N := 8) rfl ?_); refine box_event ?hg (N := 8) ?hd (cs := #[.slice none 0 0]) (t := 45) ?hr ?_; (case hd => rfl); (case hg => rfl); (case hr => first | (go_simp; done) | (go_simp; rfl)); intro l9a hg w72 hbox hb; have f9a := Aside0.mk (hbox); have GW553 := bs HB hg; have GE553 := bs HB hg; have p9a := bl c9a hg; have q9a := bg c9a hg; have r9a := bl d9a hg; have s9a := bg d9a hg; replace a9a := Aside0.mk (Kd.R_below (rr a9a) hb); replace b9a := Aside0.mk (Kd.R_below (rr b9a) hb); replace g9a := Aside0.mk (Kd.R_below (rr g9a) hb); replace c9a := bq c9a hb; replace d9a := bq d9a hb; replace HB := bh HB hb; clear hb hbox hg; obtain ⟨Ao73, co73, eo73⟩ := Kd.R_slice g9a.out; subst eo73; have hnb74 := q9a.out; have hnc74 := p9a.out; have hnb75 := s9a.out; have hnc75 := r9a.out; have hcz76_0 : w72.cell? ⟨l9a, 0, none⟩ = some (.slice none 0 0) := bc f9a 0; have hfz76_0 := blk_frozen f9a.out 0) | ((with_reducible refine gate_callee (f := 32) rfl ?_); refine goesC_ (some 54) Tryd.func32 #[.string t548] ?_; (with_reducible refine (spec_ReadCanon.calls kj6 t548 t554 t557 _ A46.out).mono ?_); rintro e w77 ⟨v555, rfl, ho0, hb⟩; refine ⟨_, rfl, ?_⟩; have n0_ := Aside0.mk (Kd.R_elder' (by (with_reducible repeat (first | apply Kd.R_alloc | apply Kd.R_drewN | apply Kd.R_drew)); exact (Kd.R_mono (Kd.R_far (p := ⟨l9a, 0, none⟩) (Kd.R_types a9a.out f9a.out (by decide)) (fun _ hk => hk.2) (.slice Ao73 t549.length co73)) (fun _ h_ => h_.1))) (Kd.R_base ho0) hb); have n1_ := Aside0.mk (Kd.R_elder' (by (with_reducible repeat (first | apply Kd.R_alloc | apply Kd.R_drewN | apply Kd.R_drew)); exact (Kd.R_mono (Kd.R_far (p := ⟨l9a, 0, none⟩) (Kd.R_types b9a.out f9a.out (by decide)) (fun _ hk => hk.2) (.slice Ao73 t549.length co73)) (fun _ h_ => h_.1))) (Kd.R_base ho0) hb); have n2_ := Aside0.mk (Kd.R_elder' (by (with_reducible repeat (first | apply Kd.R_alloc | apply Kd.R_drewN | apply Kd.R_drew)); exact (Kd.R_mono (Kd.R_far (p := ⟨l9a, 0, none⟩) (Kd.R_types g9a.out f9a.out (by decide)) (fun _ hk => hk.2) (.slice Ao73 t549.length co73)) (fun _ h_ => h_.1))) (Kd.R_base ho0) hb); have n4_ := bf c9a hb; have n5_ := bf d9a hb; have n6_ := bp #[.slice Ao73 t549.length co73] f9a hb; have o9a := Aside0.mk (Kd.R_lower (Kd.R_new' (Kd.R_new' (Kd.R_new' ho0 (Kd.R_lt (by (with_reducible repeat (first | apply Kd.R_alloc | apply Kd.R_drewN | apply Kd.R_drew)); exact (Kd.R_mono (Kd.R_far (p := ⟨l9a, 0, none⟩) (Kd.R_types a9a.out f9a.out (by decide)) (fun _ hk => hk.2) (.slice Ao73 t549.length co73)) (fun _ h_ => h_.1))))) (Kd.R_lt (by (with_reducible repeat (first | apply Kd.R_alloc | apply Kd.R_drewN | apply Kd.R_drew)); exact (Kd.R_mono (Kd.R_far (p := ⟨l9a, 0, none⟩) (Kd.R_types b9a.out f9a.out (by decide)) (fun _ hk => hk.2) (.slice Ao73 t549.length co73)) (fun _ h_ => h_.1))))) (Kd.R_lt (by (with_reducible repeat (first | apply Kd.R_alloc | apply Kd.R_drewN | apply Kd.R_drew)); exact (Kd.R_mono (Kd.R_far (p := ⟨l9a, 0, none⟩) (Kd.R_types g9a.out f9a.out (by decide)) (fun _ hk => hk.2) (.slice Ao73 t549.length co73)) (fun _ h_ => h_.1))))) (below_size (be HB))); replace HB := bh HB hb; clear a9a b9a g9a c9a d9a f9a; have a9a := n0_; have b9a := n1_; have g9a := n2_; have c9a := n4_; have d9a := n5_; have f9a := n6_; clear n0_ n1_ n2_ n4_ n5_ n6_; (try clear hb); (try clear hb2); (try clear hk); (try clear hi)) | ((with_reducible refine gate_dst (N := 10) rfl ?_); refine box_event ?hg (N := 10) ?hd (cs := #[.slice none 0 0]) (t := 45) ?hr ?_; (case hd => rfl); (case hg => rfl); (case hr => first | (go_simp; done) | (go_simp; rfl)); intro B9a hg w78 hbox hb; have n9a := Aside0.mk (hbox); have GW558 := bs HB hg; have GE558 := bs HB hg; have t9a := bl c9a hg; have u9a := bg c9a hg; have v9a := bl d9a hg; have w9a := bg d9a hg; have x9a := bl f9a hg; have y9a := bg f9a hg; replace a9a := Aside0.mk (Kd.R_below (rr a9a) hb); replace b9a := Aside0.mk (Kd.R_below (rr b9a) hb); replace g9a := Aside0.mk (Kd.R_below (rr g9a) hb); replace o9a := Aside0.mk (Kd.R_below (rr o9a) hb); replace c9a := bq c9a hb; replace d9a := bq d9a hb; replace f9a := bq f9a hb; replace HB := bh HB hb; clear hb hbox hg; obtain ⟨Ao79, co79, eo79⟩ := Kd.R_slice o9a.out; subst eo79; have hnb80 := u9a.out; have hnc80 := t9a.out; have hnb81 := w9a.out; have hnc81 := v9a.out; have hnb82 := y9a.out; have hnc82 := x9a.out; have hcz83_0 : w78.cell? ⟨B9a, 0, none⟩ = some (.slice none 0 0) := bc n9a 0; have hfz83_0 := blk_frozen n9a.out 0))
       go_ret
       exact ⟨by first | rfl | (simp [errW_none, errW_some] <;> rfl) | (simp [*, errW_none, errW_some] <;> rfl), by repeat (first | (with_reducible first | exact HB.out | apply below_alloc | apply pw_below_drewN | apply below_drew1 | refine below_set ?_ C9a.out | refine below_set ?_ D9a.out | refine below_set ?_ GE553.out | refine below_set ?_ GE558.out) | exact HB.out)⟩
     ·rw [if_neg c47] at H
      exact absurd H (by simp)
/-- THE ONE PURE STATEMENT of laws_FnCanon. -/
def laws_FnCanon.Pure : Prop := ∀ (l0 : List Int), (l0.length ≤ 9223372036854775807 ∧ ∀ y ∈ l0, (Lit.int .u8 y).wf = true) → ∃ k, laws_FnCanon.f k l0 = some true
end Go.Proofs.YtobkmpihjfiihaaDoor.PFnCanon
