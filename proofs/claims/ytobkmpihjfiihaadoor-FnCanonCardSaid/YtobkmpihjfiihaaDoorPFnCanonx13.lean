-- The machine side of a law: written by a program of this session (wip/tools), a turned print.
import Derived.Test.YtobkmpihjfiihaaDoorPFnCanonx0
import Derived.Test.YtobkmpihjfiihaaDoorPFnCanonx1
import Derived.Test.YtobkmpihjfiihaaDoorPFnCanonx2
import Derived.Test.YtobkmpihjfiihaaDoorPFnCanonx8
import Derived.Test.YtobkmpihjfiihaaDoorPFnCanonx9
import Derived.Test.YtobkmpihjfiihaaDoorPFnCanonx12
namespace Go.Proofs.YtobkmpihjfiihaaDoor.PFnCanon
open Go.RowKit Go.Proofs.YtobkmpihjfiihaaDoorW.PrintWords Go.Proofs.YtobkmpihjfiihaaDoorW.PrintLast Go.Proofs.YtobkmpihjfiihaaDoorW.PrintMore
attribute [local go_sem] max2_int min2_int max_two min_two max_three min_three max_four min_four   -- for this text's walks alone
set_option linter.unusedVariables false
set_option linter.unusedSimpArgs false
attribute [local go_sem high] eqA76
def impl_ReadCanon.l0 : Nat → ByteArray → Int → Int → ByteArray → Bool → List (S76) → Option ((List (S76)) × Bool)
 | 0, _, _, _, _, _, _ => none
 | k + 1, x0, x16, x17, x423000, x423001, x430000 => if x17 < x16 then ((impl_scan_num.f k x423000 x423001).bind fun bt430 => ((impl_scan_num.f k bt430.2.1 bt430.2.2).bind fun bt434 => (if x430000.length < 8796093022208 then (impl_ReadCanon.l0 k x0 x16 (wrap64 (x17 + 1)) bt434.2.1 bt434.2.2 (x430000 ++ [(⟨bt430.1, bt434.1⟩ : S76)])) else (none)))) else (if x423001 = true then (some (([] : List (S76)), false)) else (if x0.toList = ([] : List UInt8) then (some (([] : List (S76)), false)) else ((impl_Canon.f k x430000).bind fun t440 => (if t440.toList = x0.toList then (some (x430000, true)) else (some (([] : List (S76)), false))))))
def impl_ReadCanon.f (k : Nat) (a0 : ByteArray) : Option ((List (S76)) × Bool) := (impl_scan_cut.f a0 false 3).bind fun bt423 => ((impl_scan_many.f k bt423.2.1 bt423.2.2 60).bind fun bt426 => (impl_ReadCanon.l0 k a0 bt426.1 0 bt426.2.1 bt426.2.2 ([] : List (S76))))
theorem impl_ReadCanon.mono_l : ∀ k, (∀ y0 y1 y2 y3 y4 y5, LeO (impl_ReadCanon.l0 k y0 y1 y2 y3 y4 y5) (impl_ReadCanon.l0 (k + 1) y0 y1 y2 y3 y4 y5))
 | 0 => fun _ _ _ _ _ _ r h => by simp [impl_ReadCanon.l0] at h
 | k + 1 => by
  have ih0 := impl_ReadCanon.mono_l k
  ·intro y0 y1 y2 y3 y4 y5
   unfold impl_ReadCanon.l0
   repeat' first
   | (with_reducible exact ih0 _ _ _ _ _ _)
   | (with_reducible exact impl_Canon.mono _ _)
   | (with_reducible exact impl_scan_many.mono _ _ _ _)
   | (with_reducible exact impl_scan_num.mono _ _ _)
   | (with_reducible exact LeO.refl _)
   | (with_reducible exact LeO.none _)
   | (with_reducible refine LeO.ite ?_ ?_)
   | (with_reducible refine LeO.bind ?_ (fun _ => ?_))
   | exact ih0 _ _ _ _ _ _
   | exact impl_Canon.mono _ _
   | exact impl_scan_many.mono _ _ _ _
   | exact impl_scan_num.mono _ _ _
   | exact LeO.none _
   | refine LeO.ite ?_ ?_
   | refine LeO.bind ?_ (fun _ => ?_)
theorem impl_ReadCanon.mono : ∀ a0 k, LeO (impl_ReadCanon.f k a0) (impl_ReadCanon.f (k + 1) a0) := by
 intro a0 k
 have ih0 := impl_ReadCanon.mono_l k
 unfold impl_ReadCanon.f
 repeat' first
   | (with_reducible exact ih0 _ _ _ _ _ _)
   | (with_reducible exact impl_Canon.mono _ _)
   | (with_reducible exact impl_scan_many.mono _ _ _ _)
   | (with_reducible exact impl_scan_num.mono _ _ _)
   | (with_reducible exact LeO.refl _)
   | (with_reducible exact LeO.none _)
   | (with_reducible refine LeO.ite ?_ ?_)
   | (with_reducible refine LeO.bind ?_ (fun _ => ?_))
   | exact ih0 _ _ _ _ _ _
   | exact impl_Canon.mono _ _
   | exact impl_scan_many.mono _ _ _ _
   | exact impl_scan_num.mono _ _ _
   | exact LeO.none _
   | refine LeO.ite ?_ ?_
   | refine LeO.bind ?_ (fun _ => ?_)
set_option maxHeartbeats 8000000 in
set_option maxRecDepth 100000 in
theorem impl_ReadCanon.calls (k : Nat) (a0 : ByteArray) (r1 : List (S76)) (r2 : Bool) (w : World) (h : impl_ReadCanon.f k a0 = some (r1, r2)) :
  Calls Tryd.prog 28 #[.string a0] w fun e w' => ∃ v0_ : Value, e = .returned (.tuple #[.agg #[v0_], .bool r2]) ∧ Kd.R k76 76 w' w.heap.size (fun _ => True) v0_ r1 ∧ Below w.heap.size w w' := by
 have hu45 := Tryd.underlying45
 have hu79 := Tryd.underlying79
 have hu76 := Tryd.underlying76
 have HB := Aside0.mk (Below.refl w.heap.size w)
 have H : ((impl_scan_cut.f a0 false 3).bind fun bt423 => ((impl_scan_many.f k bt423.2.1 bt423.2.2 60).bind fun z9a => (impl_ReadCanon.l0 k a0 z9a.1 0 z9a.2.1 z9a.2.2 ([] : List (S76))))) = some (r1, r2) := h
 clear h; replace H := Option.bind_eq_some_iff.mp H
 obtain ⟨⟨t423, t424, t425⟩, A20, H⟩ := H
 replace H : ((impl_scan_many.f k t424 t425 60).bind fun z9a => (impl_ReadCanon.l0 k a0 z9a.1 0 z9a.2.1 z9a.2.2 ([] : List (S76)))) = some (r1, r2) := H
 have A2 := Aside0.mk A20
 clear A20; replace H := Option.bind_eq_some_iff.mp H
 obtain ⟨⟨t426, t427, t428⟩, A30, H⟩ := H
 replace H : (impl_ReadCanon.l0 k a0 t426 0 t427 t428 ([] : List (S76))) = some (r1, r2) := H
 have A3 := Aside0.mk A30
 clear A30; have H' := Aside0.mk H
 clear H
 go_enter Tryd.func28, Tryd.ntmps28
 go_wp2_with (first | ((with_reducible refine gate_dst (N := 2) rfl ?_); refine box_event ?hg (N := 2) ?hd (cs := #[.slice none 0 0]) (t := 45) ?hr ?_; (case hd => rfl); (case hg => rfl); (case hr => first | (go_simp; done) | (go_simp; rfl)); intro q9a hg w4 hbox hb; have e9a := Aside0.mk (hbox); have GW421 := bs HB hg; have k9a := bs HB hg; replace HB := bh HB hb; clear hb hbox hg) | ((with_reducible refine gate_dst (N := 10) rfl ?_); refine box_event ?hg (N := 10) ?hd (cs := #[.string a0, .bool false]) (t := 79) ?hr ?_; (case hd => rfl); (case hg => rfl); (case hr => first | (go_simp; done) | (go_simp; rfl)); intro j9a hg w5 hbox hb; have HI422 := Aside0.mk ((show IsS79 w w5 j9a a0 false from ⟨hbox, (by rw [hg]; exact (below_size (be HB)) : w.heap.size ≤ j9a)⟩)); have GW422 := bs HB hg; have GE422 := bs HB hg; have g9a := bl e9a hg; have b9a := bg e9a hg; replace e9a := bq e9a hb; replace HB := bh HB hb; clear hb hbox hg) | ((with_reducible refine gate_callee (f := 57) rfl ?_); refine goesC_ (some 12) Tryd.func57 #[.pointer (some ⟨j9a, 0, none⟩), .int .i64 3] ?_; (with_reducible refine (impl_scan_cut.calls j9a a0 false 3 t423 t424 t425 w _ ?side1 ?side2 A2.out).mono ?_); (case side1 => repeat (first | (with_reducible first | exact HI422.out | apply IsS79.alloc | apply IsS79.drewN | apply IsS79.drew | apply IsS79.set_0 | apply IsS79.set_1 | refine IsS79.far ?_ b9a.out _) | exact HI422.out)); (case side2 => repeat (first | (with_reducible first | exact HB.out | apply below_alloc | apply pw_below_drewN | apply below_drew1 | refine below_set ?_ (IsS79.ge HI422.out) | refine below_set ?_ k9a.out) | exact HB.out)); rintro e w6 ⟨rfl, hi, hb, hk⟩; refine ⟨_, rfl, ?_⟩; have n0_ := Aside0.mk (KeepBut.blk hk (g' := q9a) (o := .cells #[.slice none 0 0] 45 (0, 0)) (by (with_reducible repeat first | refine bkN ?_ _ | refine bkD ?_ | refine bkA ?_ _); exact e9a.out) g9a.out (by simp)); have n1_ := Aside0.mk (hb); have n2_ := Aside0.mk (hi); clear e9a HB HI422; have e9a := n0_; have HB := n1_; have HI422 := n2_; clear n0_ n1_ n2_; (try clear hb); (try clear hb2); (try clear hk); (try clear hi)) | ((with_reducible refine gate_callee (f := 58) rfl ?_); refine goesC_ (some 14) Tryd.func58 #[.pointer (some ⟨j9a, 0, none⟩), .int .i64 60] ?_; (with_reducible refine (impl_scan_many.calls k j9a t424 t425 60 t426 t427 t428 w _ ?side1 ?side2 A3.out).mono ?_); (case side1 => repeat (first | (with_reducible first | exact HI422.out | apply IsS79.alloc | apply IsS79.drewN | apply IsS79.drew | apply IsS79.set_0 | apply IsS79.set_1 | refine IsS79.far ?_ b9a.out _) | exact HI422.out)); (case side2 => repeat (first | (with_reducible first | exact HB.out | apply below_alloc | apply pw_below_drewN | apply below_drew1 | refine below_set ?_ (IsS79.ge HI422.out) | refine below_set ?_ k9a.out) | exact HB.out)); rintro e w7 ⟨rfl, hi, hb, hk⟩; refine ⟨_, rfl, ?_⟩; have n0_ := Aside0.mk (KeepBut.blk hk (g' := q9a) (o := .cells #[.slice none 0 0] 45 (0, 0)) (by (with_reducible repeat first | refine bkN ?_ _ | refine bkD ?_ | refine bkA ?_ _); exact e9a.out) g9a.out (by simp)); have n1_ := Aside0.mk (hb); have n2_ := Aside0.mk (hi); clear e9a HB HI422; have e9a := n0_; have HB := n1_; have HI422 := n2_; clear n0_ n1_ n2_; (try clear hb); (try clear hb2); (try clear hk); (try clear hi)) | ((with_reducible refine gate_dst (N := 6) rfl ?_); refine box_event ?hg (N := 6) ?hd (cs := #[.slice none 0 0]) (t := 45) ?hr ?_; (case hd => rfl); (case hg => rfl); (case hr => first | (go_simp; done) | (go_simp; rfl)); intro r9a hg w8 hbox hb; have n1_ := Aside0.mk (IsS79.below (by repeat (first | (with_reducible first | exact HI422.out | apply IsS79.alloc | apply IsS79.drewN | apply IsS79.drew | apply IsS79.set_0 | apply IsS79.set_1 | refine IsS79.far ?_ b9a.out _) | exact HI422.out)) hb); have n2_ := Aside0.mk (below_step (by repeat (first | (with_reducible first | exact HB.out | apply below_alloc | apply pw_below_drewN | apply below_drew1 | refine below_set ?_ (IsS79.ge HI422.out) | refine below_set ?_ k9a.out) | exact HB.out)) hb); have f9a := Aside0.mk (hbox); have GW429 := Aside0.mk ((by rw [hg]; exact (below_size (by repeat (first | (with_reducible first | exact HB.out | apply below_alloc | apply pw_below_drewN | apply below_drew1 | refine below_set ?_ (IsS79.ge HI422.out) | refine below_set ?_ k9a.out) | exact HB.out))) : w.heap.size ≤ r9a)); have s9a := Aside0.mk ((by rw [hg]; exact (below_size (by repeat (first | (with_reducible first | exact HB.out | apply below_alloc | apply pw_below_drewN | apply below_drew1 | refine below_set ?_ (IsS79.ge HI422.out) | refine below_set ?_ k9a.out) | exact HB.out))) : w.heap.size ≤ r9a)); have h9a := bl e9a hg; have l9a := bg e9a hg; have d9a := Aside0.mk ((by rw [hg]; exact Nat.ne_of_lt (IsS79.lt (show IsS79 w _ j9a t427 t428 from by repeat (first | (with_reducible first | exact HI422.out | apply IsS79.alloc | apply IsS79.drewN | apply IsS79.drew | apply IsS79.set_0 | apply IsS79.set_1 | refine IsS79.far ?_ b9a.out _) | exact HI422.out))) : j9a ≠ r9a)); have m9a := Aside0.mk ((by rw [hg]; exact Nat.ne_of_gt (IsS79.lt (show IsS79 w _ j9a t427 t428 from by repeat (first | (with_reducible first | exact HI422.out | apply IsS79.alloc | apply IsS79.drewN | apply IsS79.drew | apply IsS79.set_0 | apply IsS79.set_1 | refine IsS79.far ?_ b9a.out _) | exact HI422.out))) : r9a ≠ j9a)); replace e9a := bq e9a hb; clear HI422 HB; have HI422 := n1_; have HB := n2_; clear n1_ n2_; clear hb hbox hg; have hnb9 := l9a.out; have hnc9 := h9a.out; have hnb10 := m9a.out; have hnc10 := d9a.out; have hcz11_0 : w8.cell? ⟨r9a, 0, none⟩ = some (.slice none 0 0) := bc f9a 0; have hfz11_0 := blk_frozen f9a.out 0))
 go_loopg [17] k (fun kq v17 w' => ∃ (x9a : Int) (o9a : ByteArray) (n9a : Bool) (c9a : List (S76)) (i9a : Value), v17 = .int .i64 x9a ∧ Aside0 (impl_ReadCanon.l0 kq a0 t426 x9a o9a n9a c9a = some (r1, r2)) ∧ Aside0 (kq ≤ k) ∧ Aside0 (Kd.R k76 76 w' w.heap.size (fun _ => True) i9a c9a) ∧ Aside0 (w'.heap[q9a]? = some (.cells #[(.slice none 0 0)] 45 (0, 0))) ∧ Aside0 (w'.heap[r9a]? = some (.cells #[i9a] 45 (0, 0))) ∧ Aside0 (IsS79 w w' j9a o9a n9a) ∧ Aside0 (Below w.heap.size w w'))
 case atStart => exact ⟨(0), (t427), (t428), (([] : List (S76))), (.slice none 0 0), (by first | rfl | (simp; done) | (simp [*]; done)), H', ⟨Nat.le_refl _⟩, ⟨by first | exact Kd.R_nil _ _ _ _ _ | exact Kd.N_nil _ _ _ _ _ | exact Kd.V_nil _ _ _ _ _ | exact Kd.Q_nil _ _ _ _ _ | exact Kd.S_nil _ _ _ _ _⟩, ⟨by (with_reducible repeat first | refine bkN ?_ _ | refine bkD ?_ | refine bkA ?_ _ | refine blk_far ?_ h9a.out _); exact e9a.out⟩, ⟨by (with_reducible repeat first | refine bkN ?_ _ | refine bkD ?_ | refine bkA ?_ _); refine blk_put (cs := #[.slice none 0 0]) ?_ 0 _ rfl; (with_reducible repeat first | refine bkN ?_ _ | refine bkD ?_ | refine bkA ?_ _); exact f9a.out⟩, ⟨by repeat (first | (with_reducible first | exact HI422.out | apply IsS79.alloc | apply IsS79.drewN | apply IsS79.drew | apply IsS79.set_0 | apply IsS79.set_1 | refine IsS79.far ?_ b9a.out _ | refine IsS79.far ?_ d9a.out _) | exact HI422.out)⟩, ⟨by repeat (first | (with_reducible first | exact HB.out | apply below_alloc | apply pw_below_drewN | apply below_drew1 | refine below_set ?_ (IsS79.ge HI422.out) | refine below_set ?_ k9a.out | refine below_set ?_ s9a.out) | exact HB.out)⟩⟩
 case round =>
  clear H'
  obtain ⟨x9a, o9a, n9a, c9a, i9a, rfl, HA, HK1, a9a, e9a, f9a, HI422, HB⟩ := hrel
  cases gk with
  | zero => exact absurd HA.out (by simp [impl_ReadCanon.l0])
  | succ k1 =>
   have H := HA.out; clear HA; simp only [impl_ReadCanon.l0] at H
   by_cases c12 : x9a < t426
   ·rw [if_pos c12] at H
    have c12b0 : decide (x9a < t426) = true := decide_eq_true c12
    clear c12; replace H := Option.bind_eq_some_iff.mp H
    obtain ⟨⟨t430, t431, t432⟩, A130, H⟩ := H
    replace H : ((impl_scan_num.f k1 t431 t432).bind fun bt434 => (if c9a.length < 8796093022208 then (impl_ReadCanon.l0 k1 a0 t426 (wrap64 (x9a + 1)) bt434.2.1 bt434.2.2 (c9a ++ [(⟨t430, bt434.1⟩ : S76)])) else (none))) = some (r1, r2) := H
    have A13 := Aside0.mk A130
    clear A130; replace H := Option.bind_eq_some_iff.mp H
    obtain ⟨⟨t434, t435, t436⟩, A140, H⟩ := H
    replace H : (if c9a.length < 8796093022208 then (impl_ReadCanon.l0 k1 a0 t426 (wrap64 (x9a + 1)) t435 t436 (c9a ++ [(⟨t430, t434⟩ : S76)])) else (none)) = some (r1, r2) := H
    have A14 := Aside0.mk A140
    clear A140
    by_cases c15 : c9a.length < 8796093022208
    ·rw [if_pos c15] at H
     have LMc15 := Aside0.mk c15
     clear c15; obtain ⟨y437, hy437⟩ : ∃ y_ : List (S76), y_ = (c9a ++ [(⟨t430, t434⟩ : S76)]) := ⟨_, rfl⟩
     replace H : (impl_ReadCanon.l0 k1 a0 t426 (wrap64 (x9a + 1)) t435 t436 y437) = some (r1, r2) := by first | (rw [hy437]; with_reducible exact H) | (have H2_ := (Option.bind_some _ _).symm.trans H; rw [hy437]; with_reducible exact H2_) | (have H2_ := (Option.bind_some _ _).symm.trans H; with_reducible exact H2_) | with_reducible exact H | (rw [hy437]; exact H) | exact H
     have Ny437 := Aside0.mk hy437
     clear hy437; have H' := Aside0.mk H
     clear H
     go_wp2_with (first | ((with_reducible refine gate_callee (f := 59) rfl ?_); refine goesC_ (some 20) Tryd.func59 #[.pointer (some ⟨j9a, 0, none⟩)] ?_; (with_reducible refine (impl_scan_num.calls k1 j9a o9a n9a t430 t431 t432 w _ ?side1 ?side2 A13.out).mono ?_); (case side1 => repeat (first | (with_reducible first | exact HI422.out | apply IsS79.alloc | apply IsS79.drewN | apply IsS79.drew | apply IsS79.set_0 | apply IsS79.set_1 | refine IsS79.far ?_ b9a.out _ | refine IsS79.far ?_ d9a.out _) | exact HI422.out)); (case side2 => repeat (first | (with_reducible first | exact HB.out | apply below_alloc | apply pw_below_drewN | apply below_drew1 | refine below_set ?_ (IsS79.ge HI422.out) | refine below_set ?_ k9a.out | refine below_set ?_ s9a.out) | exact HB.out)); rintro e w16 ⟨rfl, hi, hb, hk⟩; refine ⟨_, rfl, ?_⟩; have n0_ := Aside0.mk (Kd.R_mono (Kd.R_keep (IsS79.apart (show IsS79 w _ j9a o9a n9a from by repeat (first | (with_reducible first | exact HI422.out | apply IsS79.alloc | apply IsS79.drewN | apply IsS79.drew | apply IsS79.set_0 | apply IsS79.set_1 | refine IsS79.far ?_ b9a.out _ | refine IsS79.far ?_ d9a.out _) | exact HI422.out)) (rr a9a) (by decide)) hk (fun _ h => h.2)) (fun _ h => h.1)); have n1_ := Aside0.mk (KeepBut.blk hk (g' := q9a) (o := .cells #[.slice none 0 0] 45 (0, 0)) (by (with_reducible repeat first | refine bkN ?_ _ | refine bkD ?_ | refine bkA ?_ _); exact e9a.out) g9a.out (by simp)); have n2_ := Aside0.mk (KeepBut.blk hk (g' := r9a) (o := .cells #[i9a] 45 (0, 0)) (by (with_reducible repeat first | refine bkN ?_ _ | refine bkD ?_ | refine bkA ?_ _); exact f9a.out) m9a.out (by simp)); have n3_ := Aside0.mk (hb); have n4_ := Aside0.mk (hi); clear a9a e9a f9a HB HI422; have a9a := n0_; have e9a := n1_; have f9a := n2_; have HB := n3_; have HI422 := n4_; clear n0_ n1_ n2_ n3_ n4_; (try clear hb); (try clear hb2); (try clear hk); (try clear hi)) | ((with_reducible refine gate_dst (N := 7) rfl ?_); refine box_event ?hg (N := 7) ?hd (cs := #[.int .i64 0, .int .i64 0]) (t := 76) ?hr ?_; (case hd => rfl); (case hg => rfl); (case hr => first | (go_simp; done) | (go_simp; rfl)); intro t9a hg w17 hbox hb; have n0_ := Aside0.mk (Kd.R_below (Kd.R_elderB (rr a9a) t9a (Nat.le_of_eq hg.symm)) hb); have n3_ := Aside0.mk (IsS79.below (by repeat (first | (with_reducible first | exact HI422.out | apply IsS79.alloc | apply IsS79.drewN | apply IsS79.drew | apply IsS79.set_0 | apply IsS79.set_1 | refine IsS79.far ?_ b9a.out _ | refine IsS79.far ?_ d9a.out _) | exact HI422.out)) hb); have n4_ := Aside0.mk (below_step (by repeat (first | (with_reducible first | exact HB.out | apply below_alloc | apply pw_below_drewN | apply below_drew1 | refine below_set ?_ (IsS79.ge HI422.out) | refine below_set ?_ k9a.out | refine below_set ?_ s9a.out) | exact HB.out)) hb); have u9a := Aside0.mk (hbox); have GW433 := Aside0.mk ((by rw [hg]; exact (below_size (by repeat (first | (with_reducible first | exact HB.out | apply below_alloc | apply pw_below_drewN | apply below_drew1 | refine below_set ?_ (IsS79.ge HI422.out) | refine below_set ?_ k9a.out | refine below_set ?_ s9a.out) | exact HB.out))) : w.heap.size ≤ t9a)); have GE433 := Aside0.mk ((by rw [hg]; exact (below_size (by repeat (first | (with_reducible first | exact HB.out | apply below_alloc | apply pw_below_drewN | apply below_drew1 | refine below_set ?_ (IsS79.ge HI422.out) | refine below_set ?_ k9a.out | refine below_set ?_ s9a.out) | exact HB.out))) : w.heap.size ≤ t9a)); have v9a := bl e9a hg; have NB433_421 := bg e9a hg; have w9a := bl f9a hg; have NB433_429 := bg f9a hg; have p9a := Aside0.mk ((by rw [hg]; exact Nat.ne_of_lt (IsS79.lt (show IsS79 w _ j9a t431 t432 from by repeat (first | (with_reducible first | exact HI422.out | apply IsS79.alloc | apply IsS79.drewN | apply IsS79.drew | apply IsS79.set_0 | apply IsS79.set_1 | refine IsS79.far ?_ b9a.out _ | refine IsS79.far ?_ d9a.out _) | exact HI422.out))) : j9a ≠ t9a)); have y9a := Aside0.mk ((by rw [hg]; exact Nat.ne_of_gt (IsS79.lt (show IsS79 w _ j9a t431 t432 from by repeat (first | (with_reducible first | exact HI422.out | apply IsS79.alloc | apply IsS79.drewN | apply IsS79.drew | apply IsS79.set_0 | apply IsS79.set_1 | refine IsS79.far ?_ b9a.out _ | refine IsS79.far ?_ d9a.out _) | exact HI422.out))) : t9a ≠ j9a)); replace e9a := bq e9a hb; replace f9a := bq f9a hb; clear a9a HI422 HB; have a9a := n0_; have HI422 := n3_; have HB := n4_; clear n0_ n3_ n4_; clear hb hbox hg; have hnb18 := NB433_421.out; have hnc18 := v9a.out; have hnb19 := NB433_429.out; have hnc19 := w9a.out; have hnb20 := y9a.out; have hnc20 := p9a.out; obtain ⟨hcz21_0, hcz21_1⟩ := cs2 u9a; obtain ⟨hfz21_0, hfz21_1⟩ := fs2 u9a) | ((with_reducible refine gate_callee (f := 59) rfl ?_); refine goesC_ (some 23) Tryd.func59 #[.pointer (some ⟨j9a, 0, none⟩)] ?_; (with_reducible refine (impl_scan_num.calls k1 j9a t431 t432 t434 t435 t436 w _ ?side1 ?side2 A14.out).mono ?_); (case side1 => repeat (first | (with_reducible first | exact HI422.out | apply IsS79.alloc | apply IsS79.drewN | apply IsS79.drew | apply IsS79.set_0 | apply IsS79.set_1 | refine IsS79.far ?_ b9a.out _ | refine IsS79.far ?_ d9a.out _ | refine IsS79.far ?_ p9a.out _) | exact HI422.out)); (case side2 => repeat (first | (with_reducible first | exact HB.out | apply below_alloc | apply pw_below_drewN | apply below_drew1 | refine below_set ?_ (IsS79.ge HI422.out) | refine below_set ?_ k9a.out | refine below_set ?_ s9a.out | refine below_set ?_ GE433.out) | exact HB.out)); rintro e w22 ⟨rfl, hi, hb, hk⟩; refine ⟨_, rfl, ?_⟩; have n0_ := Aside0.mk (Kd.R_mono (Kd.R_keep (IsS79.apart (show IsS79 w _ j9a t431 t432 from by repeat (first | (with_reducible first | exact HI422.out | apply IsS79.alloc | apply IsS79.drewN | apply IsS79.drew | apply IsS79.set_0 | apply IsS79.set_1 | refine IsS79.far ?_ b9a.out _ | refine IsS79.far ?_ d9a.out _ | refine IsS79.far ?_ p9a.out _) | exact HI422.out)) (by (with_reducible repeat (first | apply Kd.R_alloc | apply Kd.R_drewN | apply Kd.R_drew)); exact (Kd.R_mono (Kd.R_far (p := ⟨t9a, 1, none⟩) (Kd.R_far (p := ⟨t9a, 0, none⟩) (Kd.R_mono a9a.out (fun k_ hk => (⟨hk, hk.2⟩ : _ ∧ k_ ≠ t9a))) (fun _ hk => hk.2) (.int .i64 t430)) (fun _ hk => hk.2) (.int .i64 0)) (fun _ h_ => h_.1))) (by decide)) hk (fun _ h => h.2)) (fun _ h => h.1)); have n1_ := Aside0.mk (KeepBut.blk hk (g' := q9a) (o := .cells #[.slice none 0 0] 45 (0, 0)) (by (with_reducible repeat first | refine bkN ?_ _ | refine bkD ?_ | refine bkA ?_ _ | refine blk_far ?_ v9a.out _); exact e9a.out) g9a.out (by simp)); have n2_ := Aside0.mk (KeepBut.blk hk (g' := r9a) (o := .cells #[i9a] 45 (0, 0)) (by (with_reducible repeat first | refine bkN ?_ _ | refine bkD ?_ | refine bkA ?_ _ | refine blk_far ?_ w9a.out _); exact f9a.out) m9a.out (by simp)); have n3_ := Aside0.mk (KeepBut.blk hk (g' := t9a) (o := .cells #[.int .i64 t430, .int .i64 0] 76 (0, 0)) (by (with_reducible repeat first | refine bkN ?_ _ | refine bkD ?_ | refine bkA ?_ _); refine blk_put (cs := #[.int .i64 t430, .int .i64 0]) ?_ 1 _ rfl; (with_reducible repeat first | refine bkN ?_ _ | refine bkD ?_ | refine bkA ?_ _); refine blk_put (cs := #[.int .i64 0, .int .i64 0]) ?_ 0 _ rfl; (with_reducible repeat first | refine bkN ?_ _ | refine bkD ?_ | refine bkA ?_ _); exact u9a.out) y9a.out (by simp)); have n4_ := Aside0.mk (hb); have n5_ := Aside0.mk (hi); clear a9a e9a f9a u9a HB HI422; have a9a := n0_; have e9a := n1_; have f9a := n2_; have u9a := n3_; have HB := n4_; have HI422 := n5_; clear n0_ n1_ n2_ n3_ n4_ n5_; (try clear hb); (try clear hb2); (try clear hk); (try clear hi); obtain ⟨hcz23_0, hcz23_1⟩ := cs2 u9a; obtain ⟨hfz23_0, hfz23_1⟩ := fs2 u9a; have hnb24 := l9a.out; have hnc24 := h9a.out; have hnb25 := m9a.out; have hnc25 := d9a.out; have hcz26_0 : w22.cell? ⟨r9a, 0, none⟩ = some (i9a) := bc f9a 0; have hfz26_0 := blk_frozen f9a.out 0) | ((with_reducible refine gate_builtin (b := .append) (xs := #[.tmp 26, .tmp 28]) rfl ?_); at_builtin; refine Kd.R_append k76 (w0 := w) w.heap.size rfl (.tmp 26) (.tmp 28) 43 76 (.agg #[(.int .i64 0), (.int .i64 0)]) 16 rfl Tryd.underlying43 info76 rfl (by decide) (by omega) i9a c9a (⟨t430, t434⟩ : S76) [.int .i64 t430, .int .i64 t434] (fun k_ => k_ ≠ t9a) (fun _ => False) rfl (by first | (go_simp; done) | (go_simp; rfl)) ?aP (fun _ hk => hk.elim) ?aF ?aO ?aB ?aS ?aL ?_; (case aP => exact k76_mkM _ _ _ (⟨t430, t434⟩ : S76)); (case aB => exact (by repeat (first | (with_reducible first | exact HB.out | apply below_alloc | apply pw_below_drewN | apply below_drew1 | refine below_set ?_ (IsS79.ge HI422.out) | refine below_set ?_ k9a.out | refine below_set ?_ s9a.out | refine below_set ?_ GE433.out) | exact HB.out))); (case aF => exact (fun k_ hk => Kd.freshB (g := t9a) (o := .cells #[.int .i64 t430, .int .i64 t434] 76 (0, 0)) (by (with_reducible repeat first | refine bkN ?_ _ | refine bkD ?_ | refine bkA ?_ _); refine blk_put (cs := #[.int .i64 t430, .int .i64 0]) ?_ 1 _ rfl; (with_reducible repeat first | refine bkN ?_ _ | refine bkD ?_ | refine bkA ?_ _); exact u9a.out) k_ hk)); (case aO => exact (by (with_reducible repeat (first | apply Kd.R_alloc | apply Kd.R_drewN | apply Kd.R_drew)); exact Kd.R_mono (Kd.R_far (p := ⟨t9a, 1, none⟩) (Kd.R_mono a9a.out (fun k_ hk => (⟨hk, hk.2⟩ : _ ∧ k_ ≠ t9a))) (fun _ hk => hk.2) (.int .i64 t434)) (fun _ hk => hk.1.2))); (case aS => exact (below_size (by repeat (first | (with_reducible first | exact HB.out | apply below_alloc | apply pw_below_drewN | apply below_drew1 | refine below_set ?_ (IsS79.ge HI422.out) | refine below_set ?_ k9a.out | refine below_set ?_ s9a.out | refine below_set ?_ GE433.out) | exact HB.out)))); (case aL => have := LMc15.out; omega); intro v438 w27 ho hb hg hat; rw [← Ny437.out] at ho; have n0_ := Aside0.mk (blk_grown (g := q9a) (o := .cells #[.slice none 0 0] 45 (0, 0)) (by (with_reducible repeat first | refine bkN ?_ _ | refine bkD ?_ | refine bkA ?_ _ | refine blk_far ?_ v9a.out _); exact e9a.out) hg (Kd.R_ne a9a.out e9a.out (by decide))); have n1_ := Aside0.mk (blk_grown (g := r9a) (o := .cells #[i9a] 45 (0, 0)) (by (with_reducible repeat first | refine bkN ?_ _ | refine bkD ?_ | refine bkA ?_ _ | refine blk_far ?_ w9a.out _); exact f9a.out) hg (Kd.R_ne a9a.out f9a.out (by decide))); have n2_ := Aside0.mk (IsS79.grown (IsS79.like HI422.out (by repeat (first | (with_reducible first | exact HI422.out | apply IsS79.alloc | apply IsS79.drewN | apply IsS79.drew | apply IsS79.set_0 | apply IsS79.set_1 | refine IsS79.far ?_ b9a.out _ | refine IsS79.far ?_ d9a.out _ | refine IsS79.far ?_ p9a.out _) | exact HI422.out))) hg (IsS79.own_ne HI422.out a9a.out (by decide))); have n3_ := Aside0.mk (blk_grown (g := t9a) (o := .cells #[.int .i64 t430, .int .i64 t434] 76 (0, 0)) (by (with_reducible repeat first | refine bkN ?_ _ | refine bkD ?_ | refine bkA ?_ _); refine blk_put (cs := #[.int .i64 t430, .int .i64 0]) ?_ 1 _ rfl; (with_reducible repeat first | refine bkN ?_ _ | refine bkD ?_ | refine bkA ?_ _); exact u9a.out) hg (Kd.R_away a9a.out (fun _ hk => hk.2))); have n4_ := Aside0.mk (hb); have HO439 := Aside0.mk (ho); clear a9a e9a f9a HI422 u9a HB; have e9a := n0_; have f9a := n1_; have HI422 := n2_; have u9a := n3_; have HB := n4_; clear n0_ n1_ n2_ n3_ n4_; clear ho hb hg hat; obtain ⟨Ao28, co28, eo28⟩ := Kd.R_slice HO439.out; subst eo28; have hcz29_0 : w27.cell? ⟨r9a, 0, none⟩ = some (i9a) := bc f9a 0; have hfz29_0 := blk_frozen f9a.out 0))
     go_roundg k1
     case measure => have := HK1.out; omega
     case rel => exact ⟨(wrap64 (x9a + 1)), (t435), (t436), (y437), (.slice Ao28 y437.length co28), (by first | rfl | (simp; done) | (simp [*]; done)), H', ⟨by have := HK1.out; omega⟩, ⟨by (with_reducible repeat (first | apply Kd.R_alloc | apply Kd.R_drewN | apply Kd.R_drew)); exact Kd.R_mono (Kd.R_far (p := ⟨r9a, 0, none⟩) (Kd.R_types HO439.out f9a.out (by decide)) (fun _ hk => hk.2) (.slice Ao28 y437.length co28)) (fun _ hk => trivial)⟩, ⟨by (with_reducible repeat first | refine bkN ?_ _ | refine bkD ?_ | refine bkA ?_ _ | refine blk_far ?_ h9a.out _); exact e9a.out⟩, ⟨by (with_reducible repeat first | refine bkN ?_ _ | refine bkD ?_ | refine bkA ?_ _); refine blk_put (cs := #[i9a]) ?_ 0 _ rfl; (with_reducible repeat first | refine bkN ?_ _ | refine bkD ?_ | refine bkA ?_ _); exact f9a.out⟩, ⟨by repeat (first | (with_reducible first | exact HI422.out | apply IsS79.alloc | apply IsS79.drewN | apply IsS79.drew | apply IsS79.set_0 | apply IsS79.set_1 | refine IsS79.far ?_ b9a.out _ | refine IsS79.far ?_ d9a.out _ | refine IsS79.far ?_ p9a.out _) | exact HI422.out)⟩, ⟨by repeat (first | (with_reducible first | exact HB.out | apply below_alloc | apply pw_below_drewN | apply below_drew1 | refine below_set ?_ (IsS79.ge HI422.out) | refine below_set ?_ k9a.out | refine below_set ?_ s9a.out | refine below_set ?_ GE433.out) | exact HB.out)⟩⟩
    ·rw [if_neg c15] at H
     exact absurd H (by simp)
   ·rw [if_neg c12] at H
    have c12b0 : decide (x9a < t426) = false := decide_eq_false c12
    clear c12
    by_cases c30 : n9a = true
    ·subst c30
     have H1 : (some (([] : List (S76)), false)) = some (r1, r2) := by rw [if_pos rfl] at H; exact H
     clear H; have H := H1
     clear H1; simp only [Option.some.injEq, Prod.mk.injEq] at H
     obtain ⟨rfl, rfl⟩ := H
     obtain ⟨HGz31, hgz31⟩ := HI422.out
     have hcz31_0 := cellS79_0 HGz31
     have hcz31_1 := cellS79_1 HGz31
     have hfz31_0 := blk_frozen HGz31 0
     have hfz31_1 := blk_frozen HGz31 1
     clear HGz31 hgz31; have hnb32 := h9a.out; have hnc32 := l9a.out; have hnb33 := g9a.out; have hnc33 := b9a.out; have hcz34_0 : wr.cell? ⟨q9a, 0, none⟩ = some (.slice none 0 0) := bc e9a 0
     have hfz34_0 := blk_frozen e9a.out 0
     go_wp2
     refine bodyPost_ret (results_ct rfl _ _ q9a 45 #[.slice none 0 0] (0, 0) _ rfl (by (with_reducible repeat first | refine bkN ?_ _ | refine bkD ?_ | refine bkA ?_ _); refine blk_put (cs := #[.slice none 0 0]) ?_ 0 _ rfl; (with_reducible repeat first | refine bkN ?_ _ | refine bkD ?_ | refine bkA ?_ _); exact e9a.out) Tryd.underlying45 rfl (by kernel_rfl)) rfl ?_
     exact ⟨_, by first | rfl | (simp [errW_none, errW_some] <;> rfl) | (simp [*, errW_none, errW_some] <;> rfl), by first | exact Kd.R_nil _ _ _ _ _ | exact Kd.N_nil _ _ _ _ _ | exact Kd.V_nil _ _ _ _ _ | exact Kd.Q_nil _ _ _ _ _ | exact Kd.S_nil _ _ _ _ _, by repeat (first | (with_reducible first | exact HB.out | apply below_alloc | apply pw_below_drewN | apply below_drew1 | refine below_set ?_ (IsS79.ge HI422.out) | refine below_set ?_ k9a.out | refine below_set ?_ s9a.out) | exact HB.out)⟩
    ·replace c30 := Bool.eq_false_iff.mpr c30
     subst c30
     have H1 : (if a0.toList = ([] : List UInt8) then (some (([] : List (S76)), false)) else ((impl_Canon.f k1 c9a).bind fun t440 => (if t440.toList = a0.toList then (some (c9a, true)) else (some (([] : List (S76)), false))))) = some (r1, r2) := by rw [if_neg (show ¬ (false = true) by decide)] at H; exact H
     clear H; have H := H1
     clear H1
     by_cases c35 : a0.toList = ([] : List UInt8)
     ·rw [if_pos c35] at H
      have c35b0 : (a0.toList == ([] : List UInt8)) = true := beq_iff_eq.mpr c35
      (try (have c35b9 : a0.toList.isEmpty = true := (by have h_ := c35b0; rw [(show ∀ l_ : List UInt8, (l_ == []) = l_.isEmpty from fun l_ => by cases l_ <;> rfl)] at h_; exact h_)))
      have c35b1 : (a0.toList != ([] : List UInt8)) = false := bne_eq_false_iff_eq.mpr c35
      clear c35; simp only [Option.some.injEq, Prod.mk.injEq] at H
      obtain ⟨rfl, rfl⟩ := H
      obtain ⟨HGz36, hgz36⟩ := HI422.out
      have hcz36_0 := cellS79_0 HGz36
      have hcz36_1 := cellS79_1 HGz36
      have hfz36_0 := blk_frozen HGz36 0
      have hfz36_1 := blk_frozen HGz36 1
      clear HGz36 hgz36; have hnb37 := h9a.out; have hnc37 := l9a.out; have hnb38 := g9a.out; have hnc38 := b9a.out; have hcz39_0 : wr.cell? ⟨q9a, 0, none⟩ = some (.slice none 0 0) := bc e9a 0
      have hfz39_0 := blk_frozen e9a.out 0
      go_wp2
      refine bodyPost_ret (results_ct rfl _ _ q9a 45 #[.slice none 0 0] (0, 0) _ rfl (by (with_reducible repeat first | refine bkN ?_ _ | refine bkD ?_ | refine bkA ?_ _); refine blk_put (cs := #[.slice none 0 0]) ?_ 0 _ rfl; (with_reducible repeat first | refine bkN ?_ _ | refine bkD ?_ | refine bkA ?_ _); exact e9a.out) Tryd.underlying45 rfl (by kernel_rfl)) rfl ?_
      exact ⟨_, by first | rfl | (simp [errW_none, errW_some] <;> rfl) | (simp [*, errW_none, errW_some] <;> rfl), by first | exact Kd.R_nil _ _ _ _ _ | exact Kd.N_nil _ _ _ _ _ | exact Kd.V_nil _ _ _ _ _ | exact Kd.Q_nil _ _ _ _ _ | exact Kd.S_nil _ _ _ _ _, by repeat (first | (with_reducible first | exact HB.out | apply below_alloc | apply pw_below_drewN | apply below_drew1 | refine below_set ?_ (IsS79.ge HI422.out) | refine below_set ?_ k9a.out | refine below_set ?_ s9a.out) | exact HB.out)⟩
     ·rw [if_neg c35] at H
      have c35b0 : (a0.toList == ([] : List UInt8)) = false := beq_eq_false_iff_ne.mpr c35
      (try (have c35b9 : a0.toList.isEmpty = false := (by have h_ := c35b0; rw [(show ∀ l_ : List UInt8, (l_ == []) = l_.isEmpty from fun l_ => by cases l_ <;> rfl)] at h_; exact h_)))
      have c35b1 : (a0.toList != ([] : List UInt8)) = true := bne_iff_ne.mpr c35
      replace H := Option.bind_eq_some_iff.mp H
      obtain ⟨t440, A400, H⟩ := H
      replace H : (if t440.toList = a0.toList then (some (c9a, true)) else (some (([] : List (S76)), false))) = some (r1, r2) := H
      have A40 := Aside0.mk A400
      clear A400
      by_cases c41 : t440.toList = a0.toList
      ·rw [if_pos c41] at H
       have c41b0 : (t440.toList == a0.toList) = true := beq_iff_eq.mpr c41
       have c41b1 : (t440.toList != a0.toList) = false := bne_eq_false_iff_eq.mpr c41
       clear c41; simp only [Option.some.injEq, Prod.mk.injEq] at H
       obtain ⟨rfl, rfl⟩ := H
       obtain ⟨HGz42, hgz42⟩ := HI422.out
       have hcz42_0 := cellS79_0 HGz42
       have hcz42_1 := cellS79_1 HGz42
       have hfz42_0 := blk_frozen HGz42 0
       have hfz42_1 := blk_frozen HGz42 1
       clear HGz42 hgz42; have hnb43 := l9a.out; have hnc43 := h9a.out; have hnb44 := m9a.out; have hnc44 := d9a.out; have hcz45_0 : wr.cell? ⟨r9a, 0, none⟩ = some (i9a) := bc f9a 0
       have hfz45_0 := blk_frozen f9a.out 0; obtain ⟨Ao46, co46, eo46⟩ := Kd.R_slice a9a.out
       subst eo46
       go_wp2_with (first | (go_at_call 27; (with_reducible refine (impl_Canon.calls k1 _ _ c9a t440 _ ?side1 ?side2 A40.out).mono ?_); (case side1 => repeat (first | exact (Kd.R_reads' a9a.out).2.2 | (with_reducible refine Kd.C_alloc ?_ _) | (with_reducible refine Kd.C_drewN ?_ _) | (with_reducible refine Kd.C_drew ?_))); (case side2 => exact (Kd.R_reads' a9a.out).2.1); rintro e w47 ⟨rfl, hb⟩; have n3_ := Aside0.mk (IsS79.below (by repeat (first | (with_reducible first | exact HI422.out | apply IsS79.alloc | apply IsS79.drewN | apply IsS79.drew | apply IsS79.set_0 | apply IsS79.set_1 | refine IsS79.far ?_ b9a.out _ | refine IsS79.far ?_ d9a.out _) | exact HI422.out)) hb); have n4_ := Aside0.mk (below_step (by repeat (first | (with_reducible first | exact HB.out | apply below_alloc | apply pw_below_drewN | apply below_drew1 | refine below_set ?_ (IsS79.ge HI422.out) | refine below_set ?_ k9a.out | refine below_set ?_ s9a.out) | exact HB.out)) hb); replace a9a := Aside0.mk (Kd.R_below (rr a9a) hb); replace e9a := bq e9a hb; replace f9a := bq f9a hb; clear HI422 HB; have HI422 := n3_; have HB := n4_; clear n3_ n4_; (try clear hb); (try clear hb2); (try clear hk); (try clear hi); have hcz48_0 : w47.cell? ⟨r9a, 0, none⟩ = some (.slice Ao46 c9a.length co46) := bc f9a 0; have hfz48_0 := blk_frozen f9a.out 0; have hnb49 := g9a.out; have hnc49 := b9a.out; have hcz50_0 : w47.cell? ⟨q9a, 0, none⟩ = some (.slice none 0 0) := bc e9a 0; have hfz50_0 := blk_frozen e9a.out 0))
       refine bodyPost_ret (results_ct rfl _ _ q9a 45 #[.slice Ao46 c9a.length co46] (0, 0) _ rfl (by (with_reducible repeat first | refine bkN ?_ _ | refine bkD ?_ | refine bkA ?_ _); refine blk_put (cs := #[.slice none 0 0]) ?_ 0 _ rfl; (with_reducible repeat first | refine bkN ?_ _ | refine bkD ?_ | refine bkA ?_ _); exact e9a.out) Tryd.underlying45 rfl (by kernel_rfl)) rfl ?_
       exact ⟨_, by first | rfl | (simp [errW_none, errW_some] <;> rfl) | (simp [*, errW_none, errW_some] <;> rfl), by (with_reducible repeat (first | apply Kd.R_alloc | apply Kd.R_drewN | apply Kd.R_drew)); exact Kd.R_mono (Kd.R_far (p := ⟨q9a, 0, none⟩) (Kd.R_types a9a.out e9a.out (by decide)) (fun _ hk => hk.2) (.slice Ao46 c9a.length co46)) (fun _ hk => trivial), by repeat (first | (with_reducible first | exact HB.out | apply below_alloc | apply pw_below_drewN | apply below_drew1 | refine below_set ?_ (IsS79.ge HI422.out) | refine below_set ?_ k9a.out | refine below_set ?_ s9a.out) | exact HB.out)⟩
      ·rw [if_neg c41] at H
       have c41b0 : (t440.toList == a0.toList) = false := beq_eq_false_iff_ne.mpr c41
       have c41b1 : (t440.toList != a0.toList) = true := bne_iff_ne.mpr c41
       simp only [Option.some.injEq, Prod.mk.injEq] at H
       obtain ⟨rfl, rfl⟩ := H
       obtain ⟨HGz51, hgz51⟩ := HI422.out
       have hcz51_0 := cellS79_0 HGz51
       have hcz51_1 := cellS79_1 HGz51
       have hfz51_0 := blk_frozen HGz51 0
       have hfz51_1 := blk_frozen HGz51 1
       clear HGz51 hgz51; have hnb52 := l9a.out; have hnc52 := h9a.out; have hnb53 := m9a.out; have hnc53 := d9a.out; have hcz54_0 : wr.cell? ⟨r9a, 0, none⟩ = some (i9a) := bc f9a 0
       have hfz54_0 := blk_frozen f9a.out 0; obtain ⟨Ao55, co55, eo55⟩ := Kd.R_slice a9a.out
       subst eo55
       go_wp2_with (first | (go_at_call 27; (with_reducible refine (impl_Canon.calls k1 _ _ c9a t440 _ ?side1 ?side2 A40.out).mono ?_); (case side1 => repeat (first | exact (Kd.R_reads' a9a.out).2.2 | (with_reducible refine Kd.C_alloc ?_ _) | (with_reducible refine Kd.C_drewN ?_ _) | (with_reducible refine Kd.C_drew ?_))); (case side2 => exact (Kd.R_reads' a9a.out).2.1); rintro e w56 ⟨rfl, hb⟩; have n3_ := Aside0.mk (IsS79.below (by repeat (first | (with_reducible first | exact HI422.out | apply IsS79.alloc | apply IsS79.drewN | apply IsS79.drew | apply IsS79.set_0 | apply IsS79.set_1 | refine IsS79.far ?_ b9a.out _ | refine IsS79.far ?_ d9a.out _) | exact HI422.out)) hb); have n4_ := Aside0.mk (below_step (by repeat (first | (with_reducible first | exact HB.out | apply below_alloc | apply pw_below_drewN | apply below_drew1 | refine below_set ?_ (IsS79.ge HI422.out) | refine below_set ?_ k9a.out | refine below_set ?_ s9a.out) | exact HB.out)) hb); replace a9a := Aside0.mk (Kd.R_below (rr a9a) hb); replace e9a := bq e9a hb; replace f9a := bq f9a hb; clear HI422 HB; have HI422 := n3_; have HB := n4_; clear n3_ n4_; (try clear hb); (try clear hb2); (try clear hk); (try clear hi); have hnb57 := g9a.out; have hnc57 := b9a.out; have hcz58_0 : w56.cell? ⟨q9a, 0, none⟩ = some (.slice none 0 0) := bc e9a 0; have hfz58_0 := blk_frozen e9a.out 0))
       refine bodyPost_ret (results_ct rfl _ _ q9a 45 #[.slice none 0 0] (0, 0) _ rfl (by (with_reducible repeat first | refine bkN ?_ _ | refine bkD ?_ | refine bkA ?_ _); refine blk_put (cs := #[.slice none 0 0]) ?_ 0 _ rfl; (with_reducible repeat first | refine bkN ?_ _ | refine bkD ?_ | refine bkA ?_ _); exact e9a.out) Tryd.underlying45 rfl (by kernel_rfl)) rfl ?_
       exact ⟨_, by first | rfl | (simp [errW_none, errW_some] <;> rfl) | (simp [*, errW_none, errW_some] <;> rfl), by first | exact Kd.R_nil _ _ _ _ _ | exact Kd.N_nil _ _ _ _ _ | exact Kd.V_nil _ _ _ _ _ | exact Kd.Q_nil _ _ _ _ _ | exact Kd.S_nil _ _ _ _ _, by repeat (first | (with_reducible first | exact HB.out | apply below_alloc | apply pw_below_drewN | apply below_drew1 | refine below_set ?_ (IsS79.ge HI422.out) | refine below_set ?_ k9a.out | refine below_set ?_ s9a.out) | exact HB.out)⟩
def laws_samePairs.l0 : Nat → List (S76) → List (S76) → Int → Option (Bool)
 | 0, _, _, _ => none
 | k + 1, x0, x1, x5 => if x5 < (x0.length : Int) then (if 0 ≤ x5 then (if x5 < (x1.length : Int) then (if (!(((rd_T76 x0 x5).f0) == ((rd_T76 x1 x5).f0)) || (!(((rd_T76 x0 x5).f1) == ((rd_T76 x1 x5).f1)))) = true then (none) else (laws_samePairs.l0 k x0 x1 (wrap64 (x5 + 1)))) else (none)) else (none)) else (some true)
def laws_samePairs.f (k : Nat) (l0 : List (S76)) (l1 : List (S76)) : Option (Bool) := if (l0.length : Int) = (l1.length : Int) then (laws_samePairs.l0 k l0 l1 0) else (none)
theorem laws_samePairs.mono_l : ∀ k, (∀ y0 y1 y2, LeO (laws_samePairs.l0 k y0 y1 y2) (laws_samePairs.l0 (k + 1) y0 y1 y2))
 | 0 => fun _ _ _ r h => by simp [laws_samePairs.l0] at h
 | k + 1 => by
  have ih0 := laws_samePairs.mono_l k
  ·intro y0 y1 y2
   unfold laws_samePairs.l0
   repeat' first
   | (with_reducible exact ih0 _ _ _)
   | (with_reducible exact LeO.refl _)
   | (with_reducible exact LeO.none _)
   | (with_reducible refine LeO.ite ?_ ?_)
   | (with_reducible refine LeO.bind ?_ (fun _ => ?_))
   | exact ih0 _ _ _
   | exact LeO.none _
   | refine LeO.ite ?_ ?_
   | refine LeO.bind ?_ (fun _ => ?_)
theorem laws_samePairs.mono : ∀ a0 a1 k, LeO (laws_samePairs.f k a0 a1) (laws_samePairs.f (k + 1) a0 a1) := by
 intro a0 a1 k
 have ih0 := laws_samePairs.mono_l k
 unfold laws_samePairs.f
 repeat' first
   | (with_reducible exact ih0 _ _ _)
   | (with_reducible exact LeO.refl _)
   | (with_reducible exact LeO.none _)
   | (with_reducible refine LeO.ite ?_ ?_)
   | (with_reducible refine LeO.bind ?_ (fun _ => ?_))
   | exact ih0 _ _ _
   | exact LeO.none _
   | refine LeO.ite ?_ ?_
   | refine LeO.bind ?_ (fun _ => ?_)
set_option maxHeartbeats 8000000 in
set_option maxRecDepth 100000 in
theorem laws_samePairs.calls (k : Nat) (A0 : Option Addr) (c0 : Nat) (l0 : List (S76)) (A1 : Option Addr) (c1 : Nat) (l1 : List (S76)) (r : Bool) (w : World) (hr0 : Kd.C k76 w A0 l0.length l0) (hc0 : l0.length ≤ c0) (hr1 : Kd.C k76 w A1 l1.length l1) (hc1 : l1.length ≤ c1) (h : laws_samePairs.f k l0 l1 = some r) :
  Calls Tryd.prog 30 #[.slice A0 l0.length c0, .slice A1 l1.length c1] w fun e w' => e = .returned (.bool r) ∧ Drawn0 w w' := by
 have hu76 := Tryd.underlying76
 have HR0 := Aside0.mk hr0
 have HC0 := Aside0.mk hc0
 clear hr0 hc0; have HR1 := Aside0.mk hr1
 have HC1 := Aside0.mk hc1
 clear hr1 hc1; have H : (if (l0.length : Int) = (l1.length : Int) then (laws_samePairs.l0 k l0 l1 0) else (none)) = some r := h
 clear h
 by_cases c3 : (l0.length : Int) = (l1.length : Int)
 ·rw [if_pos c3] at H
  have c3b0 : ((l0.length : Int) == (l1.length : Int)) = true := beq_iff_eq.mpr c3
  have c3b1 : ((l0.length : Int) != (l1.length : Int)) = false := bne_eq_false_iff_eq.mpr c3
  have c3b2 : (l0.length == l1.length) = true := by first | simpa using c3 | (simp at c3 ⊢; omega)
  clear c3; have H' := Aside0.mk H
  clear H
  go_enter Tryd.func30, Tryd.ntmps30
  go_wp2
  repeat (go_quiet (fail); try go_wp2)
  go_loopg [5] k (fun kq v5 w' => ∃ (x5_1 : Int), v5 = .int .i64 x5_1 ∧ Aside0 (laws_samePairs.l0 kq l0 l1 x5_1 = some r) ∧ Aside0 (kq ≤ k) ∧ Drawn0 w w')
  case atStart => exact ⟨(0), (by first | rfl | (simp; done) | (simp [*]; done)), H', ⟨Nat.le_refl _⟩, by repeat (first | exact Drawn0.refl _ | apply Drawn0.step)⟩
  case round =>
   clear H'
   obtain ⟨x5_1, rfl, HA, HK1, ⟨m1, rfl⟩⟩ := hrel
   cases gk with
   | zero => exact absurd HA.out (by simp [laws_samePairs.l0])
   | succ k1 =>
    have H := HA.out; clear HA; simp only [laws_samePairs.l0] at H
    by_cases c4 : x5_1 < (l0.length : Int)
    ·rw [if_pos c4] at H
     have c4b0 : decide (x5_1 < (l0.length : Int)) = true := decide_eq_true c4
     clear c4
     by_cases c5 : 0 ≤ x5_1
     ·rw [if_pos c5] at H
      have c5b0 : decide (0 ≤ x5_1) = true := decide_eq_true c5
      clear c5
      by_cases c6 : x5_1 < (l1.length : Int)
      ·rw [if_pos c6] at H
       have c6b0 : decide (x5_1 < (l1.length : Int)) = true := decide_eq_true c6
       clear c6
       by_cases c7 : (!(((rd_T76 l0 x5_1).f0) == ((rd_T76 l1 x5_1).f0)) || (!(((rd_T76 l0 x5_1).f1) == ((rd_T76 l1 x5_1).f1)))) = true
       ·rw [if_pos c7] at H
        exact absurd H (by simp)
       ·rw [if_neg c7] at H
        have c7b0 : (!(((rd_T76 l0 x5_1).f0) == ((rd_T76 l1 x5_1).f0)) || (!(((rd_T76 l0 x5_1).f1) == ((rd_T76 l1 x5_1).f1)))) = false := by simpa using c7
        clear c7; have H' := Aside0.mk H
        clear H; have p441 : 0 ≤ (x5_1 : Int) := of_decide_eq_true (by first | (with_reducible assumption) | assumption)
        have q441 : x5_1 < (l0.length : Int) := of_decide_eq_true (by first | (with_reducible assumption) | assumption)
        obtain ⟨ad441, e441, hx441_0, hx441_1⟩ := at_T76 HR0.out x5_1 p441 q441
        cases e441
        replace p441 := eq_true p441
        replace q441 := eq_true q441
        have p442 : 0 ≤ (x5_1 : Int) := of_decide_eq_true (by first | (with_reducible assumption) | assumption)
        have q442 : x5_1 < (l1.length : Int) := of_decide_eq_true (by first | (with_reducible assumption) | assumption)
        obtain ⟨ad442, e442, hx442_0, hx442_1⟩ := at_T76 HR1.out x5_1 p442 q442
        cases e442
        replace p442 := eq_true p442
        replace q442 := eq_true q442
        go_wp2
        repeat (go_quiet (fail); try go_wp2)
        go_roundg k1
        case measure => have := HK1.out; omega
        case rel => exact ⟨(wrap64 (x5_1 + 1)), (by first | rfl | (simp; done) | (simp [*]; done)), H', ⟨by have := HK1.out; omega⟩, by repeat (first | exact Drawn0.refl _ | apply Drawn0.step)⟩
      ·rw [if_neg c6] at H
       exact absurd H (by simp)
     ·rw [if_neg c5] at H
      exact absurd H (by simp)
    ·rw [if_neg c4] at H
     have c4b0 : decide (x5_1 < (l0.length : Int)) = false := decide_eq_false c4
     clear c4; obtain rfl := Option.some.inj H
     go_wp2
     repeat (go_quiet (fail); try go_wp2)
     go_ret
     exact ⟨by first | rfl | (simp; done) | (simp [*]; done), by repeat (first | exact Drawn0.refl _ | apply Drawn0.step)⟩
 ·rw [if_neg c3] at H
  exact absurd H (by simp)
def spec_Var.l0 : Nat → Int → List Int → Option (ByteArray)
 | 0, _, _ => none
 | k + 1, x0, x3 => if x0 ≥ 128 then (if x3.length < 140737488355328 then (spec_Var.l0 k (wrap64 (Int.tdiv x0 128)) (x3 ++ [(wrap64 (128 + (Int.tmod x0 128))) % 256])) else (none)) else (if x3.length < 140737488355328 then (some (strOfNums (x3 ++ [(x0) % 256]))) else (none))
def spec_Var.f (k : Nat) (a0 : Int) : Option (ByteArray) := (spec_l1In.f a0 0 562949953421311).bind fun t443 => (if t443 = true then (spec_Var.l0 k a0 (([] : List Int))) else (some (⟨#[]⟩ : ByteArray)))
theorem spec_Var.mono_l : ∀ k, (∀ y0 y1, LeO (spec_Var.l0 k y0 y1) (spec_Var.l0 (k + 1) y0 y1))
 | 0 => fun _ _ r h => by simp [spec_Var.l0] at h
 | k + 1 => by
  have ih0 := spec_Var.mono_l k
  ·intro y0 y1
   unfold spec_Var.l0
   repeat' first
   | (with_reducible exact ih0 _ _)
   | (with_reducible exact LeO.refl _)
   | (with_reducible exact LeO.none _)
   | (with_reducible refine LeO.ite ?_ ?_)
   | (with_reducible refine LeO.bind ?_ (fun _ => ?_))
   | exact ih0 _ _
   | exact LeO.none _
   | refine LeO.ite ?_ ?_
   | refine LeO.bind ?_ (fun _ => ?_)
theorem spec_Var.mono : ∀ a0 k, LeO (spec_Var.f k a0) (spec_Var.f (k + 1) a0) := by
 intro a0 k
 have ih0 := spec_Var.mono_l k
 unfold spec_Var.f
 repeat' first
   | (with_reducible exact ih0 _ _)
   | (with_reducible exact LeO.refl _)
   | (with_reducible exact LeO.none _)
   | (with_reducible refine LeO.ite ?_ ?_)
   | (with_reducible refine LeO.bind ?_ (fun _ => ?_))
   | exact ih0 _ _
   | exact LeO.none _
   | refine LeO.ite ?_ ?_
   | refine LeO.bind ?_ (fun _ => ?_)
set_option maxHeartbeats 8000000 in
set_option maxRecDepth 100000 in
theorem spec_Var.calls (k : Nat) (a0 : Int) (r : ByteArray) (w : World) (h : spec_Var.f k a0 = some r) :
  Calls Tryd.prog 74 #[.int .i64 a0] w fun e w' => e = .returned (.string r) ∧ Below w.heap.size w w' := by
 have HB := Aside0.mk (Below.refl w.heap.size w)
 have H : ((spec_l1In.f a0 0 562949953421311).bind fun t443 => (if t443 = true then (spec_Var.l0 k a0 (([] : List Int))) else (some (⟨#[]⟩ : ByteArray)))) = some r := h
 clear h; replace H := Option.bind_eq_some_iff.mp H
 obtain ⟨t443, A20, H⟩ := H
 replace H : (if t443 = true then (spec_Var.l0 k a0 (([] : List Int))) else (some (⟨#[]⟩ : ByteArray))) = some r := H
 have A2 := Aside0.mk A20
 clear A20
 by_cases c3 : t443 = true
 ·subst c3
  have H1 : (spec_Var.l0 k a0 (([] : List Int))) = some r := by rw [if_pos rfl] at H; exact H
  clear H; have H := H1
  clear H1; obtain ⟨y444, hy444⟩ : ∃ y_ : List Int, y_ = (([] : List Int)) := ⟨_, rfl⟩
  replace H : (spec_Var.l0 k a0 y444) = some r := by first | (rw [hy444]; with_reducible exact H) | (have H2_ := (Option.bind_some _ _).symm.trans H; rw [hy444]; with_reducible exact H2_) | (have H2_ := (Option.bind_some _ _).symm.trans H; with_reducible exact H2_) | with_reducible exact H | (rw [hy444]; exact H) | exact H
  have Ny444 := Aside0.mk hy444
  clear hy444; have H' := Aside0.mk H
  clear H
  go_enter Tryd.func74, Tryd.ntmps74
  go_wp2_with (first | ((with_reducible refine gate_callee (f := 46) rfl ?_); refine goesC_ (some 5) Tryd.func46 #[.int .i64 a0, .int .i64 0, .int .i64 562949953421311] ?_; (with_reducible refine (spec_l1In.calls a0 0 562949953421311 true _ A2.out).mono ?_); rintro e w' ⟨rfl, ⟨nd, rfl⟩⟩; refine ⟨_, rfl, ?_⟩) | ((with_reducible refine gate_dst (N := 7) rfl ?_); refine Kd.R_lit (Kd.int .u8) _ 5 ?hg (N := 7) ?hd (xs := ([] : List Int)) (inner := []) (ok := fun _ => True) (okp := fun _ => True) ?hr ?hp (fun _ hk => hk) trivial (Below.refl _ _) (Nat.le_refl _) (by simp) ?_; (case hd => rfl); (case hg => rfl); (case hr => first | (go_simp; done) | (go_simp; rfl)); (case hp => exact (Reps.none _ _)); intro v445 w4 ho5 hb hg_ hnew_; clear hg_ hnew_; (first | rw [← Ny444.out] at ho5 | (simp only [Int.reduceToNat] at ho5; rw [← Ny444.out] at ho5)); have HO446 := Aside0.mk (Kd.R_lower ho5 (below_size (be HB))); replace HB := bh HB hb; clear hb ho5))
  go_loopg [0, 3] k (fun kq v0 v3 w' => ∃ (x0_1 : Int) (x3_1 : List Int), v0 = .int .i64 x0_1 ∧ Aside0 (spec_Var.l0 kq x0_1 x3_1 = some r) ∧ Aside0 (kq ≤ k) ∧ Aside0 (Kd.R (Kd.int .u8) 5 w' w.heap.size (fun _ => True) v3 x3_1) ∧ Aside0 (Below w.heap.size w w'))
  case atStart => exact ⟨(a0), (y444), (by first | rfl | (simp; done) | (simp [*]; done)), H', ⟨Nat.le_refl _⟩, ⟨rr HO446⟩, ⟨by repeat (first | (with_reducible first | exact HB.out | apply below_alloc | apply pw_below_drewN | apply below_drew1) | exact HB.out)⟩⟩
  case round =>
   clear H'
   obtain ⟨x0_1, x3_1, rfl, HA, HK1, HO_3, HB⟩ := hrel
   cases gk with
   | zero => exact absurd HA.out (by simp [spec_Var.l0])
   | succ k1 =>
    have H := HA.out; clear HA; simp only [spec_Var.l0] at H
    by_cases c6 : x0_1 ≥ 128
    ·rw [if_pos c6] at H
     have c6b0 : decide (128 ≤ x0_1) = true := decide_eq_true c6
     clear c6
     by_cases c7 : x3_1.length < 140737488355328
     ·rw [if_pos c7] at H
      have LMc7 := Aside0.mk c7
      clear c7; obtain ⟨y447, hy447⟩ : ∃ y_ : List Int, y_ = (x3_1 ++ [(wrap64 (128 + (Int.tmod x0_1 128))) % 256]) := ⟨_, rfl⟩
      replace H : (spec_Var.l0 k1 (wrap64 (Int.tdiv x0_1 128)) y447) = some r := by first | (rw [hy447]; with_reducible exact H) | (have H2_ := (Option.bind_some _ _).symm.trans H; rw [hy447]; with_reducible exact H2_) | (have H2_ := (Option.bind_some _ _).symm.trans H; with_reducible exact H2_) | with_reducible exact H | (rw [hy447]; exact H) | exact H
      have Ny447 := Aside0.mk hy447
      clear hy447; have H' := Aside0.mk H
      clear H
      go_wp2_with (first | ((with_reducible refine gate_builtin (b := .append) (xs := #[.tmp 10, .tmp 15]) rfl ?_); at_builtin; refine Kd.R_append (Kd.int .u8) (w0 := w) w.heap.size rfl (.tmp 10) (.tmp 15) 24 5 (.int .u8 0) 1 rfl Tryd.underlying24 info5 rfl (by decide) (by omega) u3 x3_1 ((wrap64 (128 + (Int.tmod x0_1 128))) % 256) [.int .u8 ((wrap64 (128 + (Int.tmod x0_1 128))) % 256)] (fun _ => True) (fun _ => False) rfl rfl ?aP (fun _ hk => hk.elim) ?aF ?aO ?aB ?aS ?aL ?_; (case aP => exact rfl); (case aB => exact (be HB)); (case aF => exact (fun _ _ => trivial)); (case aO => exact (rr HO_3)); (case aS => exact (below_size (be HB))); (case aL => have := LMc7.out; omega); intro v448 w8 ho hb hg hat; rw [← Ny447.out] at ho; have n0_ := Aside0.mk (hb); have HO449 := Aside0.mk (ho); clear HO_3 HB; have HB := n0_; clear n0_; clear ho hb hg hat))
      go_roundg k1
      case measure => have := HK1.out; omega
      case rel => exact ⟨(wrap64 (Int.tdiv x0_1 128)), (y447), (by first | rfl | (simp; done) | (simp [*]; done)), H', ⟨by have := HK1.out; omega⟩, ⟨rr HO449⟩, ⟨by repeat (first | (with_reducible first | exact HB.out | apply below_alloc | apply pw_below_drewN | apply below_drew1) | exact HB.out)⟩⟩
     ·rw [if_neg c7] at H
      exact absurd H (by simp)
    ·rw [if_neg c6] at H
     have c6b0 : decide (128 ≤ x0_1) = false := decide_eq_false c6
     clear c6
     by_cases c9 : x3_1.length < 140737488355328
     ·rw [if_pos c9] at H
      have LMc9 := Aside0.mk c9
      clear c9; obtain ⟨y450, hy450⟩ : ∃ y_ : List Int, y_ = (x3_1 ++ [(x0_1) % 256]) := ⟨_, rfl⟩
      replace H : (some (strOfNums y450)) = some r := by first | (rw [hy450]; with_reducible exact H) | (have H2_ := (Option.bind_some _ _).symm.trans H; rw [hy450]; with_reducible exact H2_) | (have H2_ := (Option.bind_some _ _).symm.trans H; with_reducible exact H2_) | with_reducible exact H | (rw [hy450]; exact H) | exact H
      have Ny450 := Aside0.mk hy450
      clear hy450; obtain rfl := Option.some.inj H
      go_wp2_with (first | ((with_reducible refine gate_builtin (b := .append) (xs := #[.tmp 19, .tmp 22]) rfl ?_); at_builtin; refine Kd.R_append (Kd.int .u8) (w0 := w) w.heap.size rfl (.tmp 19) (.tmp 22) 24 5 (.int .u8 0) 1 rfl Tryd.underlying24 info5 rfl (by decide) (by omega) u3 x3_1 ((x0_1) % 256) [.int .u8 ((x0_1) % 256)] (fun _ => True) (fun _ => False) rfl rfl ?aP (fun _ hk => hk.elim) ?aF ?aO ?aB ?aS ?aL ?_; (case aP => exact rfl); (case aB => exact (be HB)); (case aF => exact (fun _ _ => trivial)); (case aO => exact (rr HO_3)); (case aS => exact (below_size (be HB))); (case aL => have := LMc9.out; omega); intro v451 w10 ho hb hg hat; rw [← Ny450.out] at ho; have n0_ := Aside0.mk (hb); have HO452 := Aside0.mk (ho); clear HO_3 HB; have HB := n0_; clear n0_; clear ho hb hg hat; have hcv11 := own_string (P := Tryd.prog) Tryd.underlying24 Tryd.underlying5 Tryd.underlying9 (Kd.own_of_R HO452.out)))
      go_ret
      exact ⟨by first | rfl | (simp [errW_none, errW_some] <;> rfl) | (simp [*, errW_none, errW_some] <;> rfl), by repeat (first | (with_reducible first | exact HB.out | apply below_alloc | apply pw_below_drewN | apply below_drew1) | exact HB.out)⟩
     ·rw [if_neg c9] at H
      exact absurd H (by simp)
 ·replace c3 := Bool.eq_false_iff.mpr c3
  subst c3
  have H1 : (some (⟨#[]⟩ : ByteArray)) = some r := by rw [if_neg (show ¬ (false = true) by decide)] at H; exact H
  clear H; have H := H1
  clear H1; obtain rfl := Option.some.inj H
  go_enter Tryd.func74, Tryd.ntmps74
  go_wp2_with (first | ((with_reducible refine gate_callee (f := 46) rfl ?_); refine goesC_ (some 5) Tryd.func46 #[.int .i64 a0, .int .i64 0, .int .i64 562949953421311] ?_; (with_reducible refine (spec_l1In.calls a0 0 562949953421311 false _ A2.out).mono ?_); rintro e w' ⟨rfl, ⟨nd, rfl⟩⟩; refine ⟨_, rfl, ?_⟩))
  go_ret
  exact ⟨by first | rfl | (simp [errW_none, errW_some] <;> rfl) | (simp [*, errW_none, errW_some] <;> rfl), by repeat (first | (with_reducible first | exact HB.out | apply below_alloc | apply pw_below_drewN | apply below_drew1) | exact HB.out)⟩
def spec_Canon.l0 : Nat → ByteArray → Int → List (S76) → Option (ByteArray)
 | 0, _, _, _ => none
 | k + 1, x3, x4, x454000 => if x4 < (x454000.length : Int) then (if 0 ≤ x4 then ((spec_Var.f k ((rd_T76 x454000 x4).f0)).bind fun t457 => (if x3.size + t457.size ≤ 9223372036854775807 then ((spec_Var.f k ((rd_T76 x454000 x4).f1)).bind fun t459 => (if (x3 ++ t457).size + t459.size ≤ 9223372036854775807 then (spec_Canon.l0 k ((x3 ++ t457) ++ t459) (wrap64 (x4 + 1)) x454000) else (none))) else (none))) else (none)) else (some x3)
def spec_Canon.f (k : Nat) (l0_0 : List (S76)) : Option (ByteArray) := (spec_VocabOk.f k l0_0).bind fun t454 => (if t454 = true then ((spec_Var.f k (l0_0.length : Int)).bind fun t455 => (if 3 + t455.size ≤ 9223372036854775807 then (spec_Canon.l0 k ((⟨#[98, 112, 101]⟩ : ByteArray) ++ t455) 0 l0_0) else (none))) else (some (⟨#[]⟩ : ByteArray)))
theorem spec_Canon.mono_l : ∀ k, (∀ y0 y1 y2, LeO (spec_Canon.l0 k y0 y1 y2) (spec_Canon.l0 (k + 1) y0 y1 y2))
 | 0 => fun _ _ _ r h => by simp [spec_Canon.l0] at h
 | k + 1 => by
  have ih0 := spec_Canon.mono_l k
  ·intro y0 y1 y2
   unfold spec_Canon.l0
   repeat' first
   | (with_reducible exact ih0 _ _ _)
   | (with_reducible exact spec_Var.mono _ _)
   | (with_reducible exact spec_VocabOk.mono _ _)
   | (with_reducible exact LeO.refl _)
   | (with_reducible exact LeO.none _)
   | (with_reducible refine LeO.ite ?_ ?_)
   | (with_reducible refine LeO.bind ?_ (fun _ => ?_))
   | exact ih0 _ _ _
   | exact spec_Var.mono _ _
   | exact spec_VocabOk.mono _ _
   | exact LeO.none _
   | refine LeO.ite ?_ ?_
   | refine LeO.bind ?_ (fun _ => ?_)
theorem spec_Canon.mono : ∀ a0 k, LeO (spec_Canon.f k a0) (spec_Canon.f (k + 1) a0) := by
 intro a0 k
 have ih0 := spec_Canon.mono_l k
 unfold spec_Canon.f
 repeat' first
   | (with_reducible exact ih0 _ _ _)
   | (with_reducible exact spec_Var.mono _ _)
   | (with_reducible exact spec_VocabOk.mono _ _)
   | (with_reducible exact LeO.refl _)
   | (with_reducible exact LeO.none _)
   | (with_reducible refine LeO.ite ?_ ?_)
   | (with_reducible refine LeO.bind ?_ (fun _ => ?_))
   | exact ih0 _ _ _
   | exact spec_Var.mono _ _
   | exact spec_VocabOk.mono _ _
   | exact LeO.none _
   | refine LeO.ite ?_ ?_
   | refine LeO.bind ?_ (fun _ => ?_)
def spec_Canon.T7 : Bool × List (List Nat × List Nat) := (true, [([], []), ([], []), ([1], [1]), ([], []), ([2, 3], [2, 3]), ([4], [4]), ([5], [5]), ([6], [6]), ([0, 7], [0, 7]), ([], []), ([9], [9]), ([], []), ([10, 11], [10, 11]), ([12], [12]), ([13], [13]), ([14, 7], [14]), ([8, 15], [8, 15]), ([16, 15, 0, 1, 2, 3, 4, 5, 6, 7, 8, 9, 10, 11, 12, 13, 14, 15, 16], [0, 16])])
def spec_Canon.B7 : List Nat := [0, 0, 2, 0, 14, 30, 62, 126, 255, 0, 512, 0, 3584, 7680, 15872, 32510, 65535, 131071]
theorem spec_Canon.tab7 : rtab .any (opsOf Tryd.f51 7) = spec_Canon.T7 := by kernel_rfl
theorem spec_Canon.bits7 : waitsOk spec_Canon.T7.2 spec_Canon.B7 = true := by kernel_rfl
set_option maxHeartbeats 8000000 in
set_option maxRecDepth 100000 in
theorem spec_Canon.calls (k : Nat) (A0_0 : Option Addr) (c0_0 : Nat) (l0_0 : List (S76)) (r : ByteArray) (w : World) (hr0_0 : Kd.C k76 w A0_0 l0_0.length l0_0) (hc0_0 : l0_0.length ≤ c0_0) (h : spec_Canon.f k l0_0 = some r) :
  Calls Tryd.prog 51 #[.agg #[.slice A0_0 l0_0.length c0_0]] w fun e w' => e = .returned (.string r) ∧ Below w.heap.size w w' := by
 have hu45 := Tryd.underlying45
 have HR0_0 := Aside0.mk hr0_0
 have HC0_0 := Aside0.mk hc0_0
 clear hr0_0 hc0_0; have HB := Aside0.mk (Below.refl w.heap.size w)
 have H : ((spec_VocabOk.f k l0_0).bind fun t454 => (if t454 = true then ((spec_Var.f k (l0_0.length : Int)).bind fun t455 => (if 3 + t455.size ≤ 9223372036854775807 then (spec_Canon.l0 k ((⟨#[98, 112, 101]⟩ : ByteArray) ++ t455) 0 l0_0) else (none))) else (some (⟨#[]⟩ : ByteArray)))) = some r := h
 clear h; replace H := Option.bind_eq_some_iff.mp H
 obtain ⟨t454, A20, H⟩ := H
 replace H : (if t454 = true then ((spec_Var.f k (l0_0.length : Int)).bind fun t455 => (if 3 + t455.size ≤ 9223372036854775807 then (spec_Canon.l0 k ((⟨#[98, 112, 101]⟩ : ByteArray) ++ t455) 0 l0_0) else (none))) else (some (⟨#[]⟩ : ByteArray))) = some r := H
 have A2 := Aside0.mk A20
 clear A20
 by_cases c3 : t454 = true
 ·subst c3
  have H1 : ((spec_Var.f k (l0_0.length : Int)).bind fun t455 => (if 3 + t455.size ≤ 9223372036854775807 then (spec_Canon.l0 k ((⟨#[98, 112, 101]⟩ : ByteArray) ++ t455) 0 l0_0) else (none))) = some r := by rw [if_pos rfl] at H; exact H
  clear H; have H := H1
  clear H1; replace H := Option.bind_eq_some_iff.mp H
  obtain ⟨t455, A40, H⟩ := H
  replace H : (if 3 + t455.size ≤ 9223372036854775807 then (spec_Canon.l0 k ((⟨#[98, 112, 101]⟩ : ByteArray) ++ t455) 0 l0_0) else (none)) = some r := H
  have A4 := Aside0.mk A40
  clear A40
  by_cases c5 : 3 + t455.size ≤ 9223372036854775807
  ·rw [if_pos c5] at H
   have c5b0 := eq_true c5
   have c5b1 : decide (3 + t455.size ≤ 9223372036854775807) = true := decide_eq_true c5
   try have c5b2 : (9223372036854775807 < 3 + t455.size) = False := eq_false (Nat.not_lt.2 c5)
   have H' := Aside0.mk H
   clear H
   go_enter Tryd.func51, Tryd.ntmps51
   go_wp2_with (first | ((with_reducible refine gate_dst (N := 1) rfl ?_); refine box_event ?hg (N := 1) ?hd (cs := #[.slice A0_0 l0_0.length c0_0]) (t := 45) ?hr ?_; (case hd => rfl); (case hg => rfl); (case hr => first | (go_simp; done) | (go_simp; rfl)); intro f9a hg w6 hbox hb; have a9a := Aside0.mk (hbox); have GW453 := bs HB hg; have GE453 := bs HB hg; replace HB := bh HB hb; clear hb hbox hg; have hcz7_0 : w6.cell? ⟨f9a, 0, none⟩ = some (.slice A0_0 l0_0.length c0_0) := bc a9a 0; have hfz7_0 := blk_frozen a9a.out 0) | ((with_reducible refine gate_callee (f := 29) rfl ?_); refine goesC_ (some 6) Tryd.func29 #[.agg #[.slice A0_0 l0_0.length c0_0]] ?_; (with_reducible refine (spec_VocabOk.calls k _ _ l0_0 true _ ?side1 ?side2 A2.out).mono ?_); (case side1 => repeat (first | exact (Kd.C_below HR0_0.out HB.out) | (with_reducible refine Kd.C_alloc ?_ _) | (with_reducible refine Kd.C_drewN ?_ _) | (with_reducible refine Kd.C_drew ?_))); (case side2 => exact HC0_0.out); rintro e w8 ⟨rfl, hb⟩; refine ⟨_, rfl, ?_⟩; replace a9a := bq a9a hb; replace HB := bh HB hb; (try clear hb); (try clear hb2); (try clear hk); (try clear hi); have hcz9_0 : w8.cell? ⟨f9a, 0, none⟩ = some (.slice A0_0 l0_0.length c0_0) := bc a9a 0; have hfz9_0 := blk_frozen a9a.out 0) | ((with_reducible refine gate_callee (f := 74) rfl ?_); refine goesC_ (some 11) Tryd.func74 #[.int .i64 (l0_0.length : Int)] ?_; (with_reducible refine (spec_Var.calls k (l0_0.length : Int) t455 _ A4.out).mono ?_); rintro e w10 ⟨rfl, hb⟩; refine ⟨_, rfl, ?_⟩; replace a9a := bq a9a hb; replace HB := bh HB hb; (try clear hb); (try clear hb2); (try clear hk); (try clear hi)))
   go_loopg [3, 4] k (fun kq v3 v4 w' => ∃ (x3_1 : ByteArray) (x4_1 : Int), v3 = .string x3_1 ∧ v4 = .int .i64 x4_1 ∧ Aside0 (spec_Canon.l0 kq x3_1 x4_1 l0_0 = some r) ∧ Aside0 (kq ≤ k) ∧ Aside0 (w'.heap[f9a]? = some (.cells #[(.slice A0_0 l0_0.length c0_0)] 45 (0, 0))) ∧ Aside0 (Below w.heap.size w w'))
   case atStart => exact ⟨((⟨#[98, 112, 101]⟩ : ByteArray) ++ t455), (0), (by first | rfl | (simp; done) | (simp [*]; done)), (by first | rfl | (simp; done) | (simp [*]; done)), H', ⟨Nat.le_refl _⟩, ⟨bb a9a⟩, ⟨by repeat (first | (with_reducible first | exact HB.out | apply below_alloc | apply pw_below_drewN | apply below_drew1 | refine below_set ?_ GE453.out) | exact HB.out)⟩⟩
   case round =>
    clear H'
    obtain ⟨x3_1, x4_1, rfl, rfl, HA, HK1, a9a, HB⟩ := hrel
    cases gk with
    | zero => exact absurd HA.out (by simp [spec_Canon.l0])
    | succ k1 =>
     have H := HA.out; clear HA; simp only [spec_Canon.l0] at H
     by_cases c11 : x4_1 < (l0_0.length : Int)
     ·rw [if_pos c11] at H
      have c11b0 : decide (x4_1 < (l0_0.length : Int)) = true := decide_eq_true c11
      clear c11
      by_cases c12 : 0 ≤ x4_1
      ·rw [if_pos c12] at H
       have c12b0 : decide (0 ≤ x4_1) = true := decide_eq_true c12
       clear c12; replace H := Option.bind_eq_some_iff.mp H
       obtain ⟨t457, A130, H⟩ := H
       replace H : (if x3_1.size + t457.size ≤ 9223372036854775807 then ((spec_Var.f k1 ((rd_T76 l0_0 x4_1).f1)).bind fun t459 => (if (x3_1 ++ t457).size + t459.size ≤ 9223372036854775807 then (spec_Canon.l0 k1 ((x3_1 ++ t457) ++ t459) (wrap64 (x4_1 + 1)) l0_0) else (none))) else (none)) = some r := H
       have A13 := Aside0.mk A130
       clear A130
       by_cases c14 : x3_1.size + t457.size ≤ 9223372036854775807
       ·rw [if_pos c14] at H
        have c14b0 := eq_true c14
        have c14b1 : decide (x3_1.size + t457.size ≤ 9223372036854775807) = true := decide_eq_true c14
        try have c14b2 : (9223372036854775807 < x3_1.size + t457.size) = False := eq_false (Nat.not_lt.2 c14)
        replace H := Option.bind_eq_some_iff.mp H
        obtain ⟨t459, A150, H⟩ := H
        replace H : (if (x3_1 ++ t457).size + t459.size ≤ 9223372036854775807 then (spec_Canon.l0 k1 ((x3_1 ++ t457) ++ t459) (wrap64 (x4_1 + 1)) l0_0) else (none)) = some r := H
        have A15 := Aside0.mk A150
        clear A150
        by_cases c16 : (x3_1 ++ t457).size + t459.size ≤ 9223372036854775807
        ·rw [if_pos c16] at H
         have c16b0 := eq_true c16
         have c16b1 : decide ((x3_1 ++ t457).size + t459.size ≤ 9223372036854775807) = true := decide_eq_true c16
         try have c16b2 : (9223372036854775807 < (x3_1 ++ t457).size + t459.size) = False := eq_false (Nat.not_lt.2 c16)
         try have c16b6 : (9223372036854775807 < (x3_1.size + t457.size) + t459.size) = False := eq_false (by have h_ := c16; simp only [ByteArray.size_append] at h_; omega)
         have H' := Aside0.mk H
         clear H; have hcz17_0 : wr.cell? ⟨f9a, 0, none⟩ = some (.slice A0_0 l0_0.length c0_0) := bc a9a 0
         have hfz17_0 := blk_frozen a9a.out 0
         try go_wp2
         have n0_ := Aside0.mk (blk_drew a9a.out)
         have n1_ := Aside0.mk (below_drew1 HB.out)
         clear a9a HB; have a9a := n0_; have HB := n1_; clear n0_ n1_; have p456 : 0 ≤ (x4_1 : Int) := of_decide_eq_true (by first | (with_reducible assumption) | assumption)
         have q456 : x4_1 < (l0_0.length : Int) := of_decide_eq_true (by first | (with_reducible assumption) | assumption)
         obtain ⟨g9a, e456, b9a, c9a⟩ := at_T76 HR0_0.out x4_1 p456 q456
         have hw456_1 := c9a
         have hw456_0 := b9a
         cases e456
         replace b9a := (HB.out.cell (World.block_lt_of_cell? w _ b9a)).trans b9a
         replace c9a := (HB.out.cell (World.block_lt_of_cell? w _ c9a)).trans c9a
         replace p456 := eq_true p456
         replace q456 := eq_true q456
         have p458 : 0 ≤ (x4_1 : Int) := of_decide_eq_true (by first | (with_reducible assumption) | assumption)
         have q458 : x4_1 < (l0_0.length : Int) := of_decide_eq_true (by first | (with_reducible assumption) | assumption)
         obtain ⟨ad458, e458, d9a, e9a⟩ := at_T76 HR0_0.out x4_1 p458 q458
         have hw458_1 := e9a
         have hw458_0 := d9a
         obtain rfl : g9a = ad458 := (by injection e458)
         replace d9a := (HB.out.cell (World.block_lt_of_cell? w _ d9a)).trans d9a
         replace e9a := (HB.out.cell (World.block_lt_of_cell? w _ e9a)).trans e9a
         replace p458 := eq_true p458
         replace q458 := eq_true q458
         refine start_ (n := 18) (S := fun w' => w'.cell? ⟨f9a, 0, none⟩ = some (.slice (some g9a) l0_0.length c0_0) ∧ w'.cell? (g9a.add ((x4_1).toNat * 2)) = some (.int .i64 ((rd_T76 l0_0 x4_1).f0)) ∧ w'.cell? ⟨(g9a.add ((x4_1).toNat * 2)).block, (g9a.add ((x4_1).toNat * 2)).off + 1, none⟩ = some (.int .i64 ((rd_T76 l0_0 x4_1).f1)) ∧ w'.cell? (g9a.add ((x4_1).toNat * 2)) = some (.int .i64 ((rd_T76 l0_0 x4_1).f0)) ∧ w'.cell? ⟨(g9a.add ((x4_1).toNat * 2)).block, (g9a.add ((x4_1).toNat * 2)).off + 1, none⟩ = some (.int .i64 ((rd_T76 l0_0 x4_1).f1))) (ds := []) #[ff,ff,ff,ff,ff,ff,ff,ff,ff,ff,ff,ff,ff,ff,ff,ff,ff,ff] (by kernel_rfl) rfl rfl ⟨bc a9a 0, ((HB.out.cell (World.block_lt_of_cell? w _ hw456_0)).trans hw456_0), ((HB.out.cell (World.block_lt_of_cell? w _ hw456_1)).trans hw456_1), ((HB.out.cell (World.block_lt_of_cell? w _ hw458_0)).trans hw458_0), ((HB.out.cell (World.block_lt_of_cell? w _ hw458_1)).trans hw458_1)⟩ (fun hHeld => ?_); refine with_tabW spec_Canon.tab7 spec_Canon.bits7 (fun HT_ HW_ => ?_)
         generalize wr.drew = w18 at a9a HB b9a c9a d9a e9a hHeld ⊢
         refine pu 0 20 (tb 18 1) HT_ ?_
         refine pu 1 21 (tb 18 3) HT_ ?_
         refine pu 3 23 (tb 18 11) HT_ ?_
         refine pu 9 29 (tb 18 523) HT_ ?_
         refine pu 11 31 (tb 18 2571) HT_ ?_
         refine tk 2 22 (tb 18 2575) rfl rfl HT_ HW_ hHeld (by rintro w' ⟨s0, s1, s2, s3, s4⟩; go_simp; with_reducible rfl) ?_
         refine pu 4 24 (tb 18 2591) HT_ ?_
         refine pu 5 25 (tb 18 2623) HT_ ?_
         refine tk 6 26 (tb 18 2687) rfl rfl HT_ HW_ hHeld (by rintro w' ⟨s0, s1, s2, s3, s4⟩; go_simp; with_reducible rfl) ?_
         refine tk 10 30 (tb 18 3711) rfl rfl HT_ HW_ hHeld (by rintro w' ⟨s0, s1, s2, s3, s4⟩; go_simp; with_reducible rfl) ?_
         refine pu 12 32 (tb 18 7807) HT_ ?_
         refine pu 13 33 (tb 18 15999) HT_ ?_
         refine tk 14 34 (tb 18 32383) rfl rfl HT_ HW_ hHeld (by rintro w' ⟨s0, s1, s2, s3, s4⟩; go_simp; with_reducible rfl) ?_
         refine one_ (i := 7) (N := some 27) #[tt,tt,tt,tt,tt,tt,tt,tt,ff,tt,tt,tt,tt,tt,tt,ff,ff,ff] rfl rfl (one_of HT_.out (by kernel_rfl)) (by decide) (fun K hK => ?_)
         refine goes_ Tryd.func74 (by kernel_rfl) rfl #[.int .i64 ((rd_T76 l0_0 x4_1).f0)] (by rfl) rfl rfl (by (try simp only [List.map_toArray, List.map_cons, List.map_nil]); first | done | rfl | (simp only [List.length_drop, List.length_take]; rfl)) ?_
         with_reducible refine (spec_Var.calls k1 ((rd_T76 l0_0 x4_1).f0) t457 _ A13.out).mono ?_
         rintro e w19 ⟨rfl, hb⟩
         refine ⟨_, rfl, ?_⟩
         replace a9a := bq a9a hb; replace HB := bh HB hb
         (try clear hb); (try clear hb2); (try clear hk); (try clear hi); refine hK.out _ _ ⟨bc a9a 0, ((HB.out.cell (World.block_lt_of_cell? w _ hw456_0)).trans hw456_0), ((HB.out.cell (World.block_lt_of_cell? w _ hw456_1)).trans hw456_1), ((HB.out.cell (World.block_lt_of_cell? w _ hw458_0)).trans hw458_0), ((HB.out.cell (World.block_lt_of_cell? w _ hw458_1)).trans hw458_1)⟩ (fun hHeld => ?_)
         clear hK K; refine norm_ (a' := ?_) ?_ ?_
         rotate_left
         ·show Act.put _ (some 27) _ = _
          simp only [putL, i64_w, i32_w]; rfl
         refine pu 8 28 (tb 18 32767) HT_ ?_
         refine one_ (i := 15) (N := some 35) #[tt,tt,tt,tt,tt,tt,tt,tt,tt,tt,tt,tt,tt,tt,tt,tt,ff,ff] rfl rfl (one_of HT_.out (by kernel_rfl)) (by decide) (fun K hK => ?_)
         refine goes_ Tryd.func74 (by kernel_rfl) rfl #[.int .i64 ((rd_T76 l0_0 x4_1).f1)] (by rfl) rfl rfl (by (try simp only [List.map_toArray, List.map_cons, List.map_nil]); first | done | rfl | (simp only [List.length_drop, List.length_take]; rfl)) ?_
         with_reducible refine (spec_Var.calls k1 ((rd_T76 l0_0 x4_1).f1) t459 _ A15.out).mono ?_
         rintro e w20 ⟨rfl, hb⟩
         refine ⟨_, rfl, ?_⟩
         replace a9a := bq a9a hb; replace HB := bh HB hb
         (try clear hb); (try clear hb2); (try clear hk); (try clear hi); refine hK.out _ _ ⟨bc a9a 0, ((HB.out.cell (World.block_lt_of_cell? w _ hw456_0)).trans hw456_0), ((HB.out.cell (World.block_lt_of_cell? w _ hw456_1)).trans hw456_1), ((HB.out.cell (World.block_lt_of_cell? w _ hw458_0)).trans hw458_0), ((HB.out.cell (World.block_lt_of_cell? w _ hw458_1)).trans hw458_1)⟩ (fun hHeld => ?_)
         clear hK K; refine norm_ (a' := ?_) ?_ ?_
         rotate_left
         ·show Act.put _ (some 35) _ = _
          simp only [putL, i64_w, i32_w]; rfl
         refine pu 16 36 (tb 18 131071) HT_ ?_
         refine pu 17 3 (tb 18 262143) HT_ ?_
         refine done_ (done_of HT_.out (by kernel_rfl)) ?_
         try go_wp2
         go_roundg k1
         case measure => have := HK1.out; omega
         case rel => exact ⟨((x3_1 ++ t457) ++ t459), (wrap64 (x4_1 + 1)), (by first | rfl | (simp; done) | (simp [*]; done)), (by first | rfl | (simp; done) | (simp [*]; done)), H', ⟨by have := HK1.out; omega⟩, ⟨bb a9a⟩, ⟨by repeat (first | (with_reducible first | exact HB.out | apply below_alloc | apply pw_below_drewN | apply below_drew1 | refine below_set ?_ GE453.out) | exact HB.out)⟩⟩
        ·rw [if_neg c16] at H
         exact absurd H (by simp)
       ·rw [if_neg c14] at H
        exact absurd H (by simp)
      ·rw [if_neg c12] at H
       exact absurd H (by simp)
     ·rw [if_neg c11] at H
      have c11b0 : decide (x4_1 < (l0_0.length : Int)) = false := decide_eq_false c11
      clear c11; obtain rfl := Option.some.inj H
      have hcz21_0 : wr.cell? ⟨f9a, 0, none⟩ = some (.slice A0_0 l0_0.length c0_0) := bc a9a 0
      have hfz21_0 := blk_frozen a9a.out 0
      go_wp2
      go_ret
      exact ⟨by first | rfl | (simp [errW_none, errW_some] <;> rfl) | (simp [*, errW_none, errW_some] <;> rfl), by repeat (first | (with_reducible first | exact HB.out | apply below_alloc | apply pw_below_drewN | apply below_drew1 | refine below_set ?_ GE453.out) | exact HB.out)⟩
  ·rw [if_neg c5] at H
   exact absurd H (by simp)
 ·replace c3 := Bool.eq_false_iff.mpr c3
  subst c3
  have H1 : (some (⟨#[]⟩ : ByteArray)) = some r := by rw [if_neg (show ¬ (false = true) by decide)] at H; exact H
  clear H; have H := H1
  clear H1; obtain rfl := Option.some.inj H
  go_enter Tryd.func51, Tryd.ntmps51
  go_wp2_with (first | ((with_reducible refine gate_dst (N := 1) rfl ?_); refine box_event ?hg (N := 1) ?hd (cs := #[.slice A0_0 l0_0.length c0_0]) (t := 45) ?hr ?_; (case hd => rfl); (case hg => rfl); (case hr => first | (go_simp; done) | (go_simp; rfl)); intro f9a hg w22 hbox hb; have a9a := Aside0.mk (hbox); have GW453 := bs HB hg; have GE453 := bs HB hg; replace HB := bh HB hb; clear hb hbox hg; have hcz23_0 : w22.cell? ⟨f9a, 0, none⟩ = some (.slice A0_0 l0_0.length c0_0) := bc a9a 0; have hfz23_0 := blk_frozen a9a.out 0) | ((with_reducible refine gate_callee (f := 29) rfl ?_); refine goesC_ (some 6) Tryd.func29 #[.agg #[.slice A0_0 l0_0.length c0_0]] ?_; (with_reducible refine (spec_VocabOk.calls k _ _ l0_0 false _ ?side1 ?side2 A2.out).mono ?_); (case side1 => repeat (first | exact (Kd.C_below HR0_0.out HB.out) | (with_reducible refine Kd.C_alloc ?_ _) | (with_reducible refine Kd.C_drewN ?_ _) | (with_reducible refine Kd.C_drew ?_))); (case side2 => exact HC0_0.out); rintro e w24 ⟨rfl, hb⟩; refine ⟨_, rfl, ?_⟩; replace a9a := bq a9a hb; replace HB := bh HB hb; (try clear hb); (try clear hb2); (try clear hk); (try clear hi)))
  go_ret
  exact ⟨by first | rfl | (simp [errW_none, errW_some] <;> rfl) | (simp [*, errW_none, errW_some] <;> rfl), by repeat (first | (with_reducible first | exact HB.out | apply below_alloc | apply pw_below_drewN | apply below_drew1 | refine below_set ?_ GE453.out) | exact HB.out)⟩
end Go.Proofs.YtobkmpihjfiihaaDoor.PFnCanon
